/- The functions of one seat as Lean functions, each with its contract: the call of the Go function returns what the Lean function answers. Written by a program of this session out of the translation; contracts made by hand are laid between. -/
import Derived.Test.YtfjfnpegpcdnaaaGBx0
import Derived.Test.YtfjfnpegpcdnaaaGBx1
import Derived.Test.YtfjfnpegpcdnaaaGBx4
import Derived.Test.YtfjfnpegpcdnaaaGBx6
import Derived.Test.YtfjfnpegpcdnaaaGBx9
import Derived.Test.YtfjfnpegpcdnaaaGBx13
namespace Go.Proofs.Ytfjfnpegpcdnaaa.GB
open Go.RowKit Go.Proofs.YtfjfnpegpcdnaaaW.PrintWords Go.Proofs.YtfjfnpegpcdnaaaW.PrintLast Go.Proofs.YtfjfnpegpcdnaaaW.PrintMore
attribute [local go_sem] max2_int min2_int max_two min_two max_three min_three max_four min_four   -- for this text's walks alone
set_option linter.unusedVariables false
set_option linter.unusedSimpArgs false

/-! ### standstilllaw05_BlockMirror: function 5 -/
mutual
def standstilllaw05_BlockMirror.j0 : Nat → Int → Int → List Int → Bool → Int → Int → List (List (S57)) → Option (Bool)
 | 0, _, _, _, _, _, _, _ => none
 | k + 1, x1, x2, x3, x27, x332000, x332001, x332002 => if x27 = true then ((standstilllaw05_awake.f k).bind fun t334 => (some t334)) else ((tape_Mirror.f k x332000 x332001 x332002).bind fun bt335 => ((block_Cross.f k x332000 x332001 x332002 x1 x2 x3).bind fun bt342 => ((standstillref01_Turned.f k x3).bind fun t351 => ((block_Cross.f k bt335.1 bt335.2.1 bt335.2.2.1 x1 (wrap64 ((wrap64 ((x3.length : Int) - 1)) - x2)) t351).bind fun bt354 => (if bt335.2.2.2 = 0 then (standstilllaw05_BlockMirror.j1 k x3 bt342.2.2.2.2.2 (bt342.2.2.2.2.2 != bt354.2.2.2.2.2) bt342.1 bt342.2.1 bt342.2.2.1 bt342.2.2.2.1 bt342.2.2.2.2.1 bt354.1 bt354.2.1 bt354.2.2.1 bt354.2.2.2.1 bt354.2.2.2.2.1) else (standstilllaw05_BlockMirror.j1 k x3 bt342.2.2.2.2.2 true bt342.1 bt342.2.1 bt342.2.2.1 bt342.2.2.2.1 bt342.2.2.2.2.1 bt354.1 bt354.2.1 bt354.2.2.1 bt354.2.2.2.1 bt354.2.2.2.2.1))))))
def standstilllaw05_BlockMirror.j1 : Nat → List Int → Int → Bool → Int → Int → Int → Int → List Int → Int → Int → Int → Int → List Int → Option (Bool)
 | 0, _, _, _, _, _, _, _, _, _, _, _, _, _ => none
 | k + 1, x3, x12, x61, x351000, x351001, x351002, x351003, x351004, x363000, x363001, x363002, x363003, x363004 => if x61 = true then (some false) else (if x12 = 0 then (standstilllaw05_BlockMirror.j2 k x3 x12 (x351000 == 3) x351000 x351001 x351002 x351003 x351004 x363000 x363001 x363002 x363003 x363004) else (standstilllaw05_BlockMirror.j2 k x3 x12 true x351000 x351001 x351002 x351003 x351004 x363000 x363001 x363002 x363003 x363004))
def standstilllaw05_BlockMirror.j2 : Nat → List Int → Int → Bool → Int → Int → Int → Int → List Int → Int → Int → Int → Int → List Int → Option (Bool)
 | 0, _, _, _, _, _, _, _, _, _, _, _, _, _ => none
 | k + 1, x3, x12, x68, x351000, x351001, x351002, x351003, x351004, x363000, x363001, x363002, x363003, x363004 => if x68 = true then (if x12 = 2 then ((standstilllaw05_awake.f k).bind fun t363 => (some t363)) else (if x12 = 0 then (if x363000 = 3 then ((standstilllaw05_awake.f k).bind fun t364 => (some t364)) else (some false)) else (some false))) else ((some (([1, 0, 2] : List Int) : List Int)).bind fun y365 => (if x351000 < 0 then (standstilllaw05_BlockMirror.j3 k x3 y365 true x351000 x351001 x351002 x351003 x351004 x363000 x363001 x363002 x363003 x363004) else (standstilllaw05_BlockMirror.j3 k x3 y365 (decide (x351000 > 2)) x351000 x351001 x351002 x351003 x351004 x363000 x363001 x363002 x363003 x363004)))
def standstilllaw05_BlockMirror.j3 : Nat → List Int → List Int → Bool → Int → Int → Int → Int → List Int → Int → Int → Int → Int → List Int → Option (Bool)
 | 0, _, _, _, _, _, _, _, _, _, _, _, _, _ => none
 | k + 1, x3, x15, x91, x351000, x351001, x351002, x351003, x351004, x363000, x363001, x363002, x363003, x363004 => if x91 = true then (some false) else (if 0 ≤ x351000 then (if x351000 < (x15.length : Int) then (if x363000 = (rd x15 x351000) then (if x363001 = x351001 then (if x363002 = x351002 then (if x363003 = (wrap64 ((wrap64 ((x3.length : Int) - 1)) - x351003)) then ((standstillref01_Turned.f k x351004).bind fun t369 => ((standstillref01_SameInts.f k x363004 t369).bind fun t372 => (if t372 = true then ((standstilllaw05_awake.f k).bind fun t373 => (some t373)) else (some false)))) else (some false)) else (some false)) else (some false)) else (some false)) else (none)) else (none))
end
def standstilllaw05_BlockMirror.f (k : Nat) (a0_0 : Int) (a0_1 : Int) (l0_2 : List (List (S57))) (a1 : Int) (a2 : Int) (l3 : List Int) : Option (Bool) := (standstilllaw05_wide.f k a0_0 a0_1 l0_2).bind fun t332 => (if t332 = true then (standstilllaw05_BlockMirror.j0 k a1 a2 l3 true a0_0 a0_1 l0_2) else (if (l3.length : Int) > 1000 then (standstilllaw05_BlockMirror.j0 k a1 a2 l3 true a0_0 a0_1 l0_2) else ((standstillref01_Valid.f k a0_0 a0_1 l0_2).bind fun t333 => (standstilllaw05_BlockMirror.j0 k a1 a2 l3 (!t333) a0_0 a0_1 l0_2))))
theorem standstilllaw05_BlockMirror.mono_l : ∀ k, (∀ y0 y1 y2 y3 y4 y5 y6, LeO (standstilllaw05_BlockMirror.j0 k y0 y1 y2 y3 y4 y5 y6) (standstilllaw05_BlockMirror.j0 (k + 1) y0 y1 y2 y3 y4 y5 y6)) ∧ (∀ y0 y1 y2 y3 y4 y5 y6 y7 y8 y9 y10 y11 y12, LeO (standstilllaw05_BlockMirror.j1 k y0 y1 y2 y3 y4 y5 y6 y7 y8 y9 y10 y11 y12) (standstilllaw05_BlockMirror.j1 (k + 1) y0 y1 y2 y3 y4 y5 y6 y7 y8 y9 y10 y11 y12)) ∧ (∀ y0 y1 y2 y3 y4 y5 y6 y7 y8 y9 y10 y11 y12, LeO (standstilllaw05_BlockMirror.j2 k y0 y1 y2 y3 y4 y5 y6 y7 y8 y9 y10 y11 y12) (standstilllaw05_BlockMirror.j2 (k + 1) y0 y1 y2 y3 y4 y5 y6 y7 y8 y9 y10 y11 y12)) ∧ (∀ y0 y1 y2 y3 y4 y5 y6 y7 y8 y9 y10 y11 y12, LeO (standstilllaw05_BlockMirror.j3 k y0 y1 y2 y3 y4 y5 y6 y7 y8 y9 y10 y11 y12) (standstilllaw05_BlockMirror.j3 (k + 1) y0 y1 y2 y3 y4 y5 y6 y7 y8 y9 y10 y11 y12))
 | 0 => ⟨fun _ _ _ _ _ _ _ r h => by simp [standstilllaw05_BlockMirror.j0] at h, fun _ _ _ _ _ _ _ _ _ _ _ _ _ r h => by simp [standstilllaw05_BlockMirror.j1] at h, fun _ _ _ _ _ _ _ _ _ _ _ _ _ r h => by simp [standstilllaw05_BlockMirror.j2] at h, fun _ _ _ _ _ _ _ _ _ _ _ _ _ r h => by simp [standstilllaw05_BlockMirror.j3] at h⟩
 | k + 1 => by
  obtain ⟨ih0, ih1, ih2, ih3⟩ := standstilllaw05_BlockMirror.mono_l k
  refine ⟨?_, ?_, ?_, ?_⟩
  ·
   intro y0 y1 y2 y3 y4 y5 y6
   unfold standstilllaw05_BlockMirror.j0
   repeat' first
   | (with_reducible exact ih0 _ _ _ _ _ _ _)
   | (with_reducible exact ih1 _ _ _ _ _ _ _ _ _ _ _ _ _)
   | (with_reducible exact ih2 _ _ _ _ _ _ _ _ _ _ _ _ _)
   | (with_reducible exact ih3 _ _ _ _ _ _ _ _ _ _ _ _ _)
   | (with_reducible exact block_Cross.mono _ _ _ _ _ _ _)
   | (with_reducible exact standstilllaw05_awake.mono _)
   | (with_reducible exact standstilllaw05_wide.mono _ _ _ _)
   | (with_reducible exact standstillref01_SameInts.mono _ _ _)
   | (with_reducible exact standstillref01_Turned.mono _ _)
   | (with_reducible exact standstillref01_Valid.mono _ _ _ _)
   | (with_reducible exact tape_Mirror.mono _ _ _ _)
   | (with_reducible exact LeO.refl _)
   | (with_reducible exact LeO.none _)
   | (with_reducible refine LeO.ite ?_ ?_)
   | (with_reducible refine LeO.bind ?_ (fun _ => ?_))
   | exact ih0 _ _ _ _ _ _ _
   | exact ih1 _ _ _ _ _ _ _ _ _ _ _ _ _
   | exact ih2 _ _ _ _ _ _ _ _ _ _ _ _ _
   | exact ih3 _ _ _ _ _ _ _ _ _ _ _ _ _
   | exact block_Cross.mono _ _ _ _ _ _ _
   | exact standstilllaw05_awake.mono _
   | exact standstilllaw05_wide.mono _ _ _ _
   | exact standstillref01_SameInts.mono _ _ _
   | exact standstillref01_Turned.mono _ _
   | exact standstillref01_Valid.mono _ _ _ _
   | exact tape_Mirror.mono _ _ _ _
   | exact LeO.none _
   | refine LeO.ite ?_ ?_
   | refine LeO.bind ?_ (fun _ => ?_)
  ·
   intro y0 y1 y2 y3 y4 y5 y6 y7 y8 y9 y10 y11 y12
   unfold standstilllaw05_BlockMirror.j1
   repeat' first
   | (with_reducible exact ih0 _ _ _ _ _ _ _)
   | (with_reducible exact ih1 _ _ _ _ _ _ _ _ _ _ _ _ _)
   | (with_reducible exact ih2 _ _ _ _ _ _ _ _ _ _ _ _ _)
   | (with_reducible exact ih3 _ _ _ _ _ _ _ _ _ _ _ _ _)
   | (with_reducible exact block_Cross.mono _ _ _ _ _ _ _)
   | (with_reducible exact standstilllaw05_awake.mono _)
   | (with_reducible exact standstilllaw05_wide.mono _ _ _ _)
   | (with_reducible exact standstillref01_SameInts.mono _ _ _)
   | (with_reducible exact standstillref01_Turned.mono _ _)
   | (with_reducible exact standstillref01_Valid.mono _ _ _ _)
   | (with_reducible exact tape_Mirror.mono _ _ _ _)
   | (with_reducible exact LeO.refl _)
   | (with_reducible exact LeO.none _)
   | (with_reducible refine LeO.ite ?_ ?_)
   | (with_reducible refine LeO.bind ?_ (fun _ => ?_))
   | exact ih0 _ _ _ _ _ _ _
   | exact ih1 _ _ _ _ _ _ _ _ _ _ _ _ _
   | exact ih2 _ _ _ _ _ _ _ _ _ _ _ _ _
   | exact ih3 _ _ _ _ _ _ _ _ _ _ _ _ _
   | exact block_Cross.mono _ _ _ _ _ _ _
   | exact standstilllaw05_awake.mono _
   | exact standstilllaw05_wide.mono _ _ _ _
   | exact standstillref01_SameInts.mono _ _ _
   | exact standstillref01_Turned.mono _ _
   | exact standstillref01_Valid.mono _ _ _ _
   | exact tape_Mirror.mono _ _ _ _
   | exact LeO.none _
   | refine LeO.ite ?_ ?_
   | refine LeO.bind ?_ (fun _ => ?_)
  ·
   intro y0 y1 y2 y3 y4 y5 y6 y7 y8 y9 y10 y11 y12
   unfold standstilllaw05_BlockMirror.j2
   repeat' first
   | (with_reducible exact ih0 _ _ _ _ _ _ _)
   | (with_reducible exact ih1 _ _ _ _ _ _ _ _ _ _ _ _ _)
   | (with_reducible exact ih2 _ _ _ _ _ _ _ _ _ _ _ _ _)
   | (with_reducible exact ih3 _ _ _ _ _ _ _ _ _ _ _ _ _)
   | (with_reducible exact block_Cross.mono _ _ _ _ _ _ _)
   | (with_reducible exact standstilllaw05_awake.mono _)
   | (with_reducible exact standstilllaw05_wide.mono _ _ _ _)
   | (with_reducible exact standstillref01_SameInts.mono _ _ _)
   | (with_reducible exact standstillref01_Turned.mono _ _)
   | (with_reducible exact standstillref01_Valid.mono _ _ _ _)
   | (with_reducible exact tape_Mirror.mono _ _ _ _)
   | (with_reducible exact LeO.refl _)
   | (with_reducible exact LeO.none _)
   | (with_reducible refine LeO.ite ?_ ?_)
   | (with_reducible refine LeO.bind ?_ (fun _ => ?_))
   | exact ih0 _ _ _ _ _ _ _
   | exact ih1 _ _ _ _ _ _ _ _ _ _ _ _ _
   | exact ih2 _ _ _ _ _ _ _ _ _ _ _ _ _
   | exact ih3 _ _ _ _ _ _ _ _ _ _ _ _ _
   | exact block_Cross.mono _ _ _ _ _ _ _
   | exact standstilllaw05_awake.mono _
   | exact standstilllaw05_wide.mono _ _ _ _
   | exact standstillref01_SameInts.mono _ _ _
   | exact standstillref01_Turned.mono _ _
   | exact standstillref01_Valid.mono _ _ _ _
   | exact tape_Mirror.mono _ _ _ _
   | exact LeO.none _
   | refine LeO.ite ?_ ?_
   | refine LeO.bind ?_ (fun _ => ?_)
  ·
   intro y0 y1 y2 y3 y4 y5 y6 y7 y8 y9 y10 y11 y12
   unfold standstilllaw05_BlockMirror.j3
   repeat' first
   | (with_reducible exact ih0 _ _ _ _ _ _ _)
   | (with_reducible exact ih1 _ _ _ _ _ _ _ _ _ _ _ _ _)
   | (with_reducible exact ih2 _ _ _ _ _ _ _ _ _ _ _ _ _)
   | (with_reducible exact ih3 _ _ _ _ _ _ _ _ _ _ _ _ _)
   | (with_reducible exact block_Cross.mono _ _ _ _ _ _ _)
   | (with_reducible exact standstilllaw05_awake.mono _)
   | (with_reducible exact standstilllaw05_wide.mono _ _ _ _)
   | (with_reducible exact standstillref01_SameInts.mono _ _ _)
   | (with_reducible exact standstillref01_Turned.mono _ _)
   | (with_reducible exact standstillref01_Valid.mono _ _ _ _)
   | (with_reducible exact tape_Mirror.mono _ _ _ _)
   | (with_reducible exact LeO.refl _)
   | (with_reducible exact LeO.none _)
   | (with_reducible refine LeO.ite ?_ ?_)
   | (with_reducible refine LeO.bind ?_ (fun _ => ?_))
   | exact ih0 _ _ _ _ _ _ _
   | exact ih1 _ _ _ _ _ _ _ _ _ _ _ _ _
   | exact ih2 _ _ _ _ _ _ _ _ _ _ _ _ _
   | exact ih3 _ _ _ _ _ _ _ _ _ _ _ _ _
   | exact block_Cross.mono _ _ _ _ _ _ _
   | exact standstilllaw05_awake.mono _
   | exact standstilllaw05_wide.mono _ _ _ _
   | exact standstillref01_SameInts.mono _ _ _
   | exact standstillref01_Turned.mono _ _
   | exact standstillref01_Valid.mono _ _ _ _
   | exact tape_Mirror.mono _ _ _ _
   | exact LeO.none _
   | refine LeO.ite ?_ ?_
   | refine LeO.bind ?_ (fun _ => ?_)
theorem standstilllaw05_BlockMirror.mono : ∀ a0 a1 a2 a3 a4 a5 k, LeO (standstilllaw05_BlockMirror.f k a0 a1 a2 a3 a4 a5) (standstilllaw05_BlockMirror.f (k + 1) a0 a1 a2 a3 a4 a5) := by
 intro a0 a1 a2 a3 a4 a5 k
 obtain ⟨ih0, ih1, ih2, ih3⟩ := standstilllaw05_BlockMirror.mono_l k
 unfold standstilllaw05_BlockMirror.f
 repeat' first
   | (with_reducible exact ih0 _ _ _ _ _ _ _)
   | (with_reducible exact ih1 _ _ _ _ _ _ _ _ _ _ _ _ _)
   | (with_reducible exact ih2 _ _ _ _ _ _ _ _ _ _ _ _ _)
   | (with_reducible exact ih3 _ _ _ _ _ _ _ _ _ _ _ _ _)
   | (with_reducible exact block_Cross.mono _ _ _ _ _ _ _)
   | (with_reducible exact standstilllaw05_awake.mono _)
   | (with_reducible exact standstilllaw05_wide.mono _ _ _ _)
   | (with_reducible exact standstillref01_SameInts.mono _ _ _)
   | (with_reducible exact standstillref01_Turned.mono _ _)
   | (with_reducible exact standstillref01_Valid.mono _ _ _ _)
   | (with_reducible exact tape_Mirror.mono _ _ _ _)
   | (with_reducible exact LeO.refl _)
   | (with_reducible exact LeO.none _)
   | (with_reducible refine LeO.ite ?_ ?_)
   | (with_reducible refine LeO.bind ?_ (fun _ => ?_))
   | exact ih0 _ _ _ _ _ _ _
   | exact ih1 _ _ _ _ _ _ _ _ _ _ _ _ _
   | exact ih2 _ _ _ _ _ _ _ _ _ _ _ _ _
   | exact ih3 _ _ _ _ _ _ _ _ _ _ _ _ _
   | exact block_Cross.mono _ _ _ _ _ _ _
   | exact standstilllaw05_awake.mono _
   | exact standstilllaw05_wide.mono _ _ _ _
   | exact standstillref01_SameInts.mono _ _ _
   | exact standstillref01_Turned.mono _ _
   | exact standstillref01_Valid.mono _ _ _ _
   | exact tape_Mirror.mono _ _ _ _
   | exact LeO.none _
   | refine LeO.ite ?_ ?_
   | refine LeO.bind ?_ (fun _ => ?_)
def standstilllaw05_BlockMirror.T5 : Bool × List (List Nat × List Nat) := (true, [([], []), ([], []), ([], []), ([2], [2]), ([3], [3]), ([], []), ([4, 5], [4, 5]), ([], []), ([7], [7]), ([0, 1, 6, 8, 8], [0, 1, 6, 8]), ([9], [9]), ([10], [10]), ([10], [10]), ([], []), ([13, 11, 9, 0, 1, 2, 3, 4, 5, 6, 7, 8, 9, 10, 11, 13], [11, 13]), ([12, 14, 0, 1, 2, 3, 4, 5, 6, 7, 8, 9, 10, 11, 12, 13, 14], [12])])
def standstilllaw05_BlockMirror.B5 : List Nat := [0, 0, 0, 4, 12, 0, 60, 0, 128, 511, 1023, 2047, 2047, 0, 12287, 32767]
theorem standstilllaw05_BlockMirror.tab5 : rtab .any (opsOf Try.f5 5) = standstilllaw05_BlockMirror.T5 := by kernel_rfl
theorem standstilllaw05_BlockMirror.bits5 : waitsOk standstilllaw05_BlockMirror.T5.2 standstilllaw05_BlockMirror.B5 = true := by kernel_rfl
def standstilllaw05_BlockMirror.T13 : Bool × List (List Nat × List Nat) := (true, [([], []), ([0], [0]), ([], []), ([], []), ([3], [3]), ([2, 4], [2, 4]), ([5], [5]), ([1, 6], [1, 6]), ([7], [7]), ([8], [8]), ([9, 8], [8, 9]), ([8], [8]), ([11, 8], [8, 11]), ([10, 12, 8], [8, 10, 12]), ([8, 13], [8, 13]), ([14, 8], [14]), ([15], [15]), ([16, 15], [15, 16]), ([15], [15]), ([18, 15], [15, 18]), ([17, 19, 15], [15, 17, 19]), ([15, 20], [15, 20]), ([21, 15], [21]), ([22], [22]), ([23, 22], [22, 23]), ([22], [22]), ([25, 22], [22, 25]), ([26, 22], [22, 26]), ([22], [22]), ([28, 22], [22, 28]), ([27, 29, 22], [22, 27, 29]), ([24, 30, 22], [22, 24, 30]), ([22, 31], [22, 31]), ([32, 22], [32]), ([33], [33]), ([34, 33], [33, 34]), ([33], [33]), ([36, 33], [33, 36]), ([37, 33, 33], [33, 37]), ([35, 38, 38, 33], [33, 35, 38]), ([33, 39], [33, 39]), ([40, 39], [40]), ([41, 41], [41]), ([41, 42], [41, 42]), ([43, 42, 0, 1, 2, 3, 4, 5, 6, 7, 8, 9, 10, 11, 12, 13, 14, 15, 16, 17, 18, 19, 20, 21, 22, 23, 24, 25, 26, 27, 28, 29, 30, 31, 32, 33, 34, 35, 36, 37, 38, 39, 40, 41, 42, 43], [43])])
def standstilllaw05_BlockMirror.B13 : List Nat := [0, 1, 0, 0, 8, 28, 60, 127, 255, 511, 1023, 511, 2559, 8191, 16383, 32767, 65535, 131071, 65535, 327679, 1048575, 2097151, 4194303, 8388607, 16777215, 8388607, 41943039, 109051903, 8388607, 276824063, 1048575999, 2147483647, 4294967295, 8589934591, 17179869183, 34359738367, 17179869183, 85899345919, 223338299391, 549755813887, 1099511627775, 2199023255551, 4398046511103, 8796093022207, 17592186044415]
theorem standstilllaw05_BlockMirror.tab13 : rtab .any (opsOf Try.f5 13) = standstilllaw05_BlockMirror.T13 := by kernel_rfl
theorem standstilllaw05_BlockMirror.bits13 : waitsOk standstilllaw05_BlockMirror.T13.2 standstilllaw05_BlockMirror.B13 = true := by kernel_rfl
set_option maxHeartbeats 8000000 in
set_option maxRecDepth 100000 in
theorem standstilllaw05_BlockMirror.calls (k : Nat) (a0_0 : Int) (a0_1 : Int) (A0_2 : Option Addr) (c0_2 : Nat) (l0_2 : List (List (S57))) (a1 : Int) (a2 : Int) (A3 : Option Addr) (c3 : Nat) (l3 : List Int) (r : Bool) (w : World) (hr0_2 : Kd.C (Kd.slice 57 k57) w A0_2 l0_2.length l0_2) (hc0_2 : l0_2.length ≤ c0_2) (hr3 : Kd.C (Kd.int .i64) w A3 l3.length l3) (hc3 : l3.length ≤ c3) (h : standstilllaw05_BlockMirror.f k a0_0 a0_1 l0_2 a1 a2 l3 = some r) :
  Calls Try.prog 5 #[.agg #[.int .i64 a0_0, .int .i64 a0_1, .slice A0_2 l0_2.length c0_2], .int .i64 a1, .int .i64 a2, .slice A3 l3.length c3] w fun e w' => e = .returned (.bool r) ∧ Below w.heap.size w w' := by
 have hu24 := Try.underlying24
 have hu29 := Try.underlying29
 have HR0_2 := Aside0.mk hr0_2
 have HC0_2 := Aside0.mk hc0_2
 clear hr0_2 hc0_2
 have HR3 := Aside0.mk hr3
 have HC3 := Aside0.mk hc3
 clear hr3 hc3
 have HB := Aside0.mk (Below.refl w.heap.size w)
 have H : ((standstilllaw05_wide.f k a0_0 a0_1 l0_2).bind fun t332 => (if t332 = true then (standstilllaw05_BlockMirror.j0 k a1 a2 l3 true a0_0 a0_1 l0_2) else (if (l3.length : Int) > 1000 then (standstilllaw05_BlockMirror.j0 k a1 a2 l3 true a0_0 a0_1 l0_2) else ((standstillref01_Valid.f k a0_0 a0_1 l0_2).bind fun t333 => (standstilllaw05_BlockMirror.j0 k a1 a2 l3 (!t333) a0_0 a0_1 l0_2))))) = some r := h
 clear h
 have HC5 := Aside0.mk H
 clear H
 go_enter Try.func5, Try.ntmps5
 go_upto_region 1 with (first | ((with_reducible refine gate_dst (N := 4) rfl ?_); (try (refine gate_guard (by rfl) ?_; dsimp only)); refine box_event ?hg (N := 4) ?hd (cs := #[.int .i64 a0_0, .int .i64 a0_1, .slice A0_2 l0_2.length c0_2]) (t := 24) ?hr ?_; (case hd => rfl); (case hg => rfl); (case hr => first | (go_simp; done) | (go_simp; rfl)); intro gb331 hg w6 hbox hb; have n0_ := Aside0.mk (below_step (zB HB) hb); have n1_ := Aside0.mk (hbox); have n2_ := Aside0.mk ((by rw [hg]; exact (below_size (zB HB)) : w.heap.size ≤ gb331)); have n3_ := Aside0.mk ((by rw [hg]; exact (below_size (zB HB)) : w.heap.size ≤ gb331)); clear HB; have HB := n0_; have BK331 := n1_; have GW331 := n2_; have GE331 := n3_; clear n0_ n1_ n2_ n3_; clear hb hbox hg))
 (try simp only [Act.put, zs, zs0, zs1])
 go_cut [27] (fun v27 wc => ∃ (kq : Nat) (x27_4 : Bool), v27 = .bool x27_4 ∧ Aside0 (standstilllaw05_BlockMirror.j0 kq a1 a2 l3 x27_4 a0_0 a0_1 l0_2 = some r) ∧ Aside0 (kq ≤ k) ∧ Aside0 (wc.heap[gb331]? = some (.cells #[.int .i64 a0_0, .int .i64 a0_1, (.slice A0_2 l0_2.length c0_2)] 24 (0, 0))) ∧ Aside0 (Below w.heap.size w wc))
 case first =>
  have H := HC5.out
  clear HC5
  replace H := Option.bind_eq_some_iff.mp H
  obtain ⟨t332, A70, H⟩ := H
  replace H : (if t332 = true then (standstilllaw05_BlockMirror.j0 k a1 a2 l3 true a0_0 a0_1 l0_2) else (if (l3.length : Int) > 1000 then (standstilllaw05_BlockMirror.j0 k a1 a2 l3 true a0_0 a0_1 l0_2) else ((standstillref01_Valid.f k a0_0 a0_1 l0_2).bind fun t333 => (standstilllaw05_BlockMirror.j0 k a1 a2 l3 (!t333) a0_0 a0_1 l0_2)))) = some r := H
  have A7 := Aside0.mk A70
  clear A70
  by_cases c8 : t332 = true
  ·
   subst c8
   have H1 : (standstilllaw05_BlockMirror.j0 k a1 a2 l3 true a0_0 a0_1 l0_2) = some r := by rw [if_pos rfl] at H; exact H
   clear H
   have H := H1
   clear H1
   have H' := Aside0.mk H
   clear H
   have hcz9_0 : w6.cell? ⟨gb331, 0, none⟩ = some (.int .i64 a0_0) := (blk_cell BK331.out 0).trans rfl
   have hcz9_1 : w6.cell? ⟨gb331, 1, none⟩ = some (.int .i64 a0_1) := (blk_cell BK331.out 1).trans rfl
   have hcz9_2 : w6.cell? ⟨gb331, 2, none⟩ = some (.slice A0_2 l0_2.length c0_2) := (blk_cell BK331.out 2).trans rfl
   have hfz9_0 := blk_frozen BK331.out 0
   have hfz9_1 := blk_frozen BK331.out 1
   have hfz9_2 := blk_frozen BK331.out 2
   go_wp2_with (first | ((with_reducible refine gate_callee (f := 7) rfl ?_); refine goesL_ (some 17) rfl rfl Try.func7 (by kernel_rfl) rfl #[.agg #[.int .i64 a0_0, .int .i64 a0_1, .slice A0_2 l0_2.length c0_2]] rfl (zm) ?_; (with_reducible refine (standstilllaw05_wide.calls k a0_0 a0_1 _ _ l0_2 true _ ?side1 ?side2 A7.out).mono ?_); (case side1 => exact zC ((Kd.C_below HR0_2.out HB.out))); (case side2 => exact HC0_2.out); rintro e w10 ⟨rfl, hb⟩; refine ⟨_, rfl, ?_⟩; have n0_ := Aside0.mk (zb BK331 hb); have n1_ := Aside0.mk (below_step (zB HB) hb); clear BK331; clear HB; have BK331 := n0_; have HB := n1_; clear n0_ n1_; (try clear hb); (try clear hb2); (try clear hk); (try clear hi)))
   go_meet
   case rel => exact ⟨_, (true), (by first | rfl | (simp; done) | (simp [*]; done)), H', ⟨by first | omega | exact Nat.le_refl _⟩, ⟨zk BK331⟩, ⟨zB HB⟩⟩
  ·
   replace c8 := Bool.eq_false_iff.mpr c8
   subst c8
   have H1 : (if (l3.length : Int) > 1000 then (standstilllaw05_BlockMirror.j0 k a1 a2 l3 true a0_0 a0_1 l0_2) else ((standstillref01_Valid.f k a0_0 a0_1 l0_2).bind fun t333 => (standstilllaw05_BlockMirror.j0 k a1 a2 l3 (!t333) a0_0 a0_1 l0_2))) = some r := by rw [if_neg (show ¬ (false = true) by decide)] at H; exact H
   clear H
   have H := H1
   clear H1
   by_cases c11 : (l3.length : Int) > 1000
   ·
    rw [if_pos c11] at H
    have c11b0 : decide (1000 < (l3.length : Int)) = true := decide_eq_true c11
    have c11b1 : decide (1000 < l3.length) = true := decide_eq_true (by omega)
    clear c11
    (first | rw [c11b0] | (simp only [i64_w, i32_w]; rw [c11b0]) | skip)
    (try rw [c11b1])
    have H' := Aside0.mk H
    clear H
    have hcz12_0 : w6.cell? ⟨gb331, 0, none⟩ = some (.int .i64 a0_0) := (blk_cell BK331.out 0).trans rfl
    have hcz12_1 : w6.cell? ⟨gb331, 1, none⟩ = some (.int .i64 a0_1) := (blk_cell BK331.out 1).trans rfl
    have hcz12_2 : w6.cell? ⟨gb331, 2, none⟩ = some (.slice A0_2 l0_2.length c0_2) := (blk_cell BK331.out 2).trans rfl
    have hfz12_0 := blk_frozen BK331.out 0
    have hfz12_1 := blk_frozen BK331.out 1
    have hfz12_2 := blk_frozen BK331.out 2
    go_wp2_with (first | ((with_reducible refine gate_callee (f := 7) rfl ?_); refine goesL_ (some 17) rfl rfl Try.func7 (by kernel_rfl) rfl #[.agg #[.int .i64 a0_0, .int .i64 a0_1, .slice A0_2 l0_2.length c0_2]] rfl (zm) ?_; (with_reducible refine (standstilllaw05_wide.calls k a0_0 a0_1 _ _ l0_2 false _ ?side1 ?side2 A7.out).mono ?_); (case side1 => exact zC ((Kd.C_below HR0_2.out HB.out))); (case side2 => exact HC0_2.out); rintro e w13 ⟨rfl, hb⟩; refine ⟨_, rfl, ?_⟩; have n0_ := Aside0.mk (zb BK331 hb); have n1_ := Aside0.mk (below_step (zB HB) hb); clear BK331; clear HB; have BK331 := n0_; have HB := n1_; clear n0_ n1_; (try clear hb); (try clear hb2); (try clear hk); (try clear hi)))
    go_meet
    case rel => exact ⟨_, (true), (by first | rfl | (simp; done) | (simp [*]; done)), H', ⟨by first | omega | exact Nat.le_refl _⟩, ⟨zk BK331⟩, ⟨zB HB⟩⟩
   ·
    rw [if_neg c11] at H
    have c11b0 : decide (1000 < (l3.length : Int)) = false := decide_eq_false c11
    have c11b1 : decide (1000 < l3.length) = false := decide_eq_false (by omega)
    clear c11
    (first | rw [c11b0] | (simp only [i64_w, i32_w]; rw [c11b0]) | skip)
    (try rw [c11b1])
    replace H := Option.bind_eq_some_iff.mp H
    obtain ⟨t333, A140, H⟩ := H
    replace H : (standstilllaw05_BlockMirror.j0 k a1 a2 l3 (!t333) a0_0 a0_1 l0_2) = some r := H
    have A14 := Aside0.mk A140
    clear A140
    have H' := Aside0.mk H
    clear H
    have hcz15_0 : w6.cell? ⟨gb331, 0, none⟩ = some (.int .i64 a0_0) := (blk_cell BK331.out 0).trans rfl
    have hcz15_1 : w6.cell? ⟨gb331, 1, none⟩ = some (.int .i64 a0_1) := (blk_cell BK331.out 1).trans rfl
    have hcz15_2 : w6.cell? ⟨gb331, 2, none⟩ = some (.slice A0_2 l0_2.length c0_2) := (blk_cell BK331.out 2).trans rfl
    have hfz15_0 := blk_frozen BK331.out 0
    have hfz15_1 := blk_frozen BK331.out 1
    have hfz15_2 := blk_frozen BK331.out 2
    go_wp2_with (first | ((with_reducible refine gate_callee (f := 7) rfl ?_); refine goesL_ (some 17) rfl rfl Try.func7 (by kernel_rfl) rfl #[.agg #[.int .i64 a0_0, .int .i64 a0_1, .slice A0_2 l0_2.length c0_2]] rfl (zm) ?_; (with_reducible refine (standstilllaw05_wide.calls k a0_0 a0_1 _ _ l0_2 false _ ?side1 ?side2 A7.out).mono ?_); (case side1 => exact zC ((Kd.C_below HR0_2.out HB.out))); (case side2 => exact HC0_2.out); rintro e w16 ⟨rfl, hb⟩; refine ⟨_, rfl, ?_⟩; have n0_ := Aside0.mk (zb BK331 hb); have n1_ := Aside0.mk (below_step (zB HB) hb); clear BK331; clear HB; have BK331 := n0_; have HB := n1_; clear n0_ n1_; (try clear hb); (try clear hb2); (try clear hk); (try clear hi); have hcz17_0 : w16.cell? ⟨gb331, 0, none⟩ = some (.int .i64 a0_0) := (blk_cell BK331.out 0).trans rfl; have hcz17_1 : w16.cell? ⟨gb331, 1, none⟩ = some (.int .i64 a0_1) := (blk_cell BK331.out 1).trans rfl; have hcz17_2 : w16.cell? ⟨gb331, 2, none⟩ = some (.slice A0_2 l0_2.length c0_2) := (blk_cell BK331.out 2).trans rfl; have hfz17_0 := blk_frozen BK331.out 0; have hfz17_1 := blk_frozen BK331.out 1; have hfz17_2 := blk_frozen BK331.out 2) | (go_at_call 10; (with_reducible refine (standstillref01_Valid.calls k a0_0 a0_1 _ _ l0_2 t333 _ ?side1 ?side2 A14.out).mono ?_); (case side1 => exact zC ((Kd.C_below HR0_2.out HB.out))); (case side2 => exact HC0_2.out); rintro e w18 ⟨rfl, hb⟩; have n0_ := Aside0.mk (zb BK331 hb); have n1_ := Aside0.mk (below_step (zB HB) hb); clear BK331; clear HB; have BK331 := n0_; have HB := n1_; clear n0_ n1_; (try clear hb); (try clear hb2); (try clear hk); (try clear hi)))
    go_meet
    case rel => exact ⟨_, (!t333), (by first | rfl | (simp; done) | (simp [*]; done)), H', ⟨by first | omega | exact Nat.le_refl _⟩, ⟨zk BK331⟩, ⟨zB HB⟩⟩
 case rest =>
  clear HC5
  try clear c1
  try clear p2
  try clear c3
  try clear c5
  try clear c7
  try clear c8
  try clear c11
  try clear c11b0
  try clear c11b1
  try clear hcz12_0
  try clear hcz12_1
  try clear hcz12_2
  try clear hcz15_0
  try clear hcz15_1
  try clear hcz15_2
  try clear hcz17_0
  try clear hcz17_1
  try clear hcz17_2
  try clear hcz9_0
  try clear hcz9_1
  try clear hcz9_2
  try clear hfz12_0
  try clear hfz12_1
  try clear hfz12_2
  try clear hfz15_0
  try clear hfz15_1
  try clear hfz15_2
  try clear hfz17_0
  try clear hfz17_1
  try clear hfz17_2
  try clear hfz9_0
  try clear hfz9_1
  try clear hfz9_2
  obtain ⟨kq, x27_4, rfl, HA, HJ4, BK331, HB⟩ := hcut
  cases kq with
  | zero => exact absurd HA.out (by simp [standstilllaw05_BlockMirror.j0])
  | succ kj4 =>
   have H := HA.out
   clear HA
   simp only [standstilllaw05_BlockMirror.j0] at H
   by_cases c19 : x27_4 = true
   ·
    subst c19
    have H1 : ((standstilllaw05_awake.f kj4).bind fun t334 => (some t334)) = some r := by rw [if_pos rfl] at H; exact H
    clear H
    have H := H1
    clear H1
    replace H := Option.bind_eq_some_iff.mp H
    obtain ⟨t334, A200, H⟩ := H
    replace H : (some t334) = some r := H
    have A20 := Aside0.mk A200
    clear A200
    obtain rfl := Option.some.inj H
    go_wp2_with (first | ((with_reducible refine gate_callee (f := 8) rfl ?_); refine goesL_ (some 28) rfl rfl Try.func8 (by kernel_rfl) rfl #[] rfl (zm) ?_; (with_reducible refine (standstilllaw05_awake.calls kj4  t334 _ A20.out).mono ?_); rintro e w21 ⟨rfl, hb⟩; refine ⟨_, rfl, ?_⟩; have n0_ := Aside0.mk (zb BK331 hb); have n1_ := Aside0.mk (below_step (zB HB) hb); clear BK331; clear HB; have BK331 := n0_; have HB := n1_; clear n0_ n1_; (try clear hb); (try clear hb2); (try clear hk); (try clear hi)))
    go_ret
    exact ⟨by first | rfl | (simp [errW_none, errW_some] <;> rfl) | (simp [*, errW_none, errW_some] <;> rfl), zB HB⟩
   ·
    replace c19 := Bool.eq_false_iff.mpr c19
    subst c19
    have H1 : ((tape_Mirror.f kj4 a0_0 a0_1 l0_2).bind fun bt335 => ((block_Cross.f kj4 a0_0 a0_1 l0_2 a1 a2 l3).bind fun bt342 => ((standstillref01_Turned.f kj4 l3).bind fun t351 => ((block_Cross.f kj4 bt335.1 bt335.2.1 bt335.2.2.1 a1 (wrap64 ((wrap64 ((l3.length : Int) - 1)) - a2)) t351).bind fun bt354 => (if bt335.2.2.2 = 0 then (standstilllaw05_BlockMirror.j1 kj4 l3 bt342.2.2.2.2.2 (bt342.2.2.2.2.2 != bt354.2.2.2.2.2) bt342.1 bt342.2.1 bt342.2.2.1 bt342.2.2.2.1 bt342.2.2.2.2.1 bt354.1 bt354.2.1 bt354.2.2.1 bt354.2.2.2.1 bt354.2.2.2.2.1) else (standstilllaw05_BlockMirror.j1 kj4 l3 bt342.2.2.2.2.2 true bt342.1 bt342.2.1 bt342.2.2.1 bt342.2.2.2.1 bt342.2.2.2.2.1 bt354.1 bt354.2.1 bt354.2.2.1 bt354.2.2.2.1 bt354.2.2.2.2.1)))))) = some r := by rw [if_neg (show ¬ (false = true) by decide)] at H; exact H
    clear H
    have H := H1
    clear H1
    replace H := Option.bind_eq_some_iff.mp H
    obtain ⟨⟨t335, t336, t337, t340⟩, A220, H⟩ := H
    replace H : ((block_Cross.f kj4 a0_0 a0_1 l0_2 a1 a2 l3).bind fun bt342 => ((standstillref01_Turned.f kj4 l3).bind fun t351 => ((block_Cross.f kj4 t335 t336 t337 a1 (wrap64 ((wrap64 ((l3.length : Int) - 1)) - a2)) t351).bind fun bt354 => (if t340 = 0 then (standstilllaw05_BlockMirror.j1 kj4 l3 bt342.2.2.2.2.2 (bt342.2.2.2.2.2 != bt354.2.2.2.2.2) bt342.1 bt342.2.1 bt342.2.2.1 bt342.2.2.2.1 bt342.2.2.2.2.1 bt354.1 bt354.2.1 bt354.2.2.1 bt354.2.2.2.1 bt354.2.2.2.2.1) else (standstilllaw05_BlockMirror.j1 kj4 l3 bt342.2.2.2.2.2 true bt342.1 bt342.2.1 bt342.2.2.1 bt342.2.2.2.1 bt342.2.2.2.2.1 bt354.1 bt354.2.1 bt354.2.2.1 bt354.2.2.2.1 bt354.2.2.2.2.1))))) = some r := H
    have A22 := Aside0.mk A220
    clear A220
    replace H := Option.bind_eq_some_iff.mp H
    obtain ⟨⟨t342, t343, t344, t345, t346, t349⟩, A230, H⟩ := H
    replace H : ((standstillref01_Turned.f kj4 l3).bind fun t351 => ((block_Cross.f kj4 t335 t336 t337 a1 (wrap64 ((wrap64 ((l3.length : Int) - 1)) - a2)) t351).bind fun bt354 => (if t340 = 0 then (standstilllaw05_BlockMirror.j1 kj4 l3 t349 (t349 != bt354.2.2.2.2.2) t342 t343 t344 t345 t346 bt354.1 bt354.2.1 bt354.2.2.1 bt354.2.2.2.1 bt354.2.2.2.2.1) else (standstilllaw05_BlockMirror.j1 kj4 l3 t349 true t342 t343 t344 t345 t346 bt354.1 bt354.2.1 bt354.2.2.1 bt354.2.2.2.1 bt354.2.2.2.2.1)))) = some r := H
    have A23 := Aside0.mk A230
    clear A230
    replace H := Option.bind_eq_some_iff.mp H
    obtain ⟨t351, A240, H⟩ := H
    replace H : ((block_Cross.f kj4 t335 t336 t337 a1 (wrap64 ((wrap64 ((l3.length : Int) - 1)) - a2)) t351).bind fun bt354 => (if t340 = 0 then (standstilllaw05_BlockMirror.j1 kj4 l3 t349 (t349 != bt354.2.2.2.2.2) t342 t343 t344 t345 t346 bt354.1 bt354.2.1 bt354.2.2.1 bt354.2.2.2.1 bt354.2.2.2.2.1) else (standstilllaw05_BlockMirror.j1 kj4 l3 t349 true t342 t343 t344 t345 t346 bt354.1 bt354.2.1 bt354.2.2.1 bt354.2.2.2.1 bt354.2.2.2.2.1))) = some r := H
    have A24 := Aside0.mk A240
    clear A240
    replace H := Option.bind_eq_some_iff.mp H
    obtain ⟨⟨t354, t355, t356, t357, t358, t361⟩, A250, H⟩ := H
    replace H : (if t340 = 0 then (standstilllaw05_BlockMirror.j1 kj4 l3 t349 (t349 != t361) t342 t343 t344 t345 t346 t354 t355 t356 t357 t358) else (standstilllaw05_BlockMirror.j1 kj4 l3 t349 true t342 t343 t344 t345 t346 t354 t355 t356 t357 t358)) = some r := H
    have A25 := Aside0.mk A250
    clear A250
    have HC26 := Aside0.mk H
    clear H
    have hcz27_0 : wc.cell? ⟨gb331, 0, none⟩ = some (.int .i64 a0_0) := (blk_cell BK331.out 0).trans rfl
    have hcz27_1 : wc.cell? ⟨gb331, 1, none⟩ = some (.int .i64 a0_1) := (blk_cell BK331.out 1).trans rfl
    have hcz27_2 : wc.cell? ⟨gb331, 2, none⟩ = some (.slice A0_2 l0_2.length c0_2) := (blk_cell BK331.out 2).trans rfl
    have hfz27_0 := blk_frozen BK331.out 0
    have hfz27_1 := blk_frozen BK331.out 1
    have hfz27_2 := blk_frozen BK331.out 2
    try go_wp2_with (first | ((with_reducible refine gate_callee (f := 15) rfl ?_); refine goesL_ (some 31) rfl rfl Try.func15 (by kernel_rfl) rfl #[.agg #[.int .i64 a0_0, .int .i64 a0_1, .slice A0_2 l0_2.length c0_2]] rfl (zm) ?_; (with_reducible refine (tape_Mirror.calls kj4 a0_0 a0_1 _ _ l0_2 t335 t336 t337 t340 _ ?side1 ?side2 A22.out).mono ?_); (case side1 => exact zC ((Kd.C_below HR0_2.out HB.out))); (case side2 => exact HC0_2.out); rintro e w28 ⟨v338, rfl, ho0, hb⟩; refine ⟨_, rfl, ?_⟩; have n0_ := Aside0.mk (Kd.S_lower ho0 (below_size (zB HB))); have n1_ := Aside0.mk (zb BK331 hb); have n2_ := Aside0.mk (below_step (zB HB) hb); clear BK331; clear HB; have HO339 := n0_; have BK331 := n1_; have HB := n2_; clear n0_ n1_ n2_; (try clear hb); (try clear hb2); (try clear hk); (try clear hi); (try clear ho0)) | ((with_reducible refine gate_dst (N := 9) rfl ?_); (try (refine gate_guard (by rfl) ?_; dsimp only)); refine box_event ?hg (N := 9) ?hd (cs := #[.int .i64 0, .int .i64 0, .slice none 0 0]) (t := 24) ?hr ?_; (case hd => rfl); (case hg => rfl); (case hr => first | (go_simp; done) | (go_simp; rfl)); intro gb341 hg w29 hbox hb; have n0_ := Aside0.mk (zSb HO339 hb); have n1_ := Aside0.mk (zb BK331 hb); have n2_ := Aside0.mk (below_step (zB HB) hb); have n3_ := Aside0.mk (hbox); have n4_ := Aside0.mk ((by rw [hg]; exact (below_size (zB HB)) : w.heap.size ≤ gb341)); have n5_ := Aside0.mk ((by rw [hg]; exact (below_size (zB HB)) : w.heap.size ≤ gb341)); have n6_ := Aside0.mk ((by rw [hg]; exact Nat.ne_of_lt (zL BK331) : gb331 ≠ gb341)); have n7_ := Aside0.mk ((by rw [hg]; exact Nat.ne_of_gt (zL BK331) : gb341 ≠ gb331)); clear HO339; clear BK331; clear HB; have HO339 := n0_; have BK331 := n1_; have HB := n2_; have BK341 := n3_; have GW341 := n4_; have GE341 := n5_; have NB331_341 := n6_; have NB341_331 := n7_; clear n0_ n1_ n2_ n3_ n4_ n5_ n6_ n7_; clear hb hbox hg; have hnb30 := NB341_331.out; have hnc30 := NB331_341.out; have hcz31_0 : w29.cell? ⟨gb341, 0, none⟩ = some (.int .i64 0) := (blk_cell BK341.out 0).trans rfl; have hcz31_1 : w29.cell? ⟨gb341, 1, none⟩ = some (.int .i64 0) := (blk_cell BK341.out 1).trans rfl; have hcz31_2 : w29.cell? ⟨gb341, 2, none⟩ = some (.slice none 0 0) := (blk_cell BK341.out 2).trans rfl; have hfz31_0 := blk_frozen BK341.out 0; have hfz31_1 := blk_frozen BK341.out 1; have hfz31_2 := blk_frozen BK341.out 2; obtain ⟨Ao32, co32, eo32⟩ := Kd.S_slice HO339.out; subst eo32; have hcz33_0 : w29.cell? ⟨gb331, 0, none⟩ = some (.int .i64 a0_0) := (blk_cell BK331.out 0).trans rfl; have hcz33_1 : w29.cell? ⟨gb331, 1, none⟩ = some (.int .i64 a0_1) := (blk_cell BK331.out 1).trans rfl; have hcz33_2 : w29.cell? ⟨gb331, 2, none⟩ = some (.slice A0_2 l0_2.length c0_2) := (blk_cell BK331.out 2).trans rfl; have hfz33_0 := blk_frozen BK331.out 0; have hfz33_1 := blk_frozen BK331.out 1; have hfz33_2 := blk_frozen BK331.out 2) | ((with_reducible refine gate_callee (f := 9) rfl ?_); refine goesL_ (some 39) rfl rfl Try.func9 (by kernel_rfl) rfl #[.agg #[.int .i64 a0_0, .int .i64 a0_1, .slice A0_2 l0_2.length c0_2], .int .i64 a1, .int .i64 a2, .slice A3 l3.length c3] rfl (zm) ?_; (with_reducible refine (block_Cross.calls kj4 a0_0 a0_1 _ _ l0_2 a1 a2 _ _ l3 t342 t343 t344 t345 t346 t349 _ ?side1 ?side2 ?side3 ?side4 A23.out).mono ?_); (case side1 => exact Kd.C_below HR0_2.out (zB HB)); (case side2 => exact HC0_2.out); (case side3 => exact Kd.C_below HR3.out (zB HB)); (case side4 => exact HC3.out); rintro e w34 ⟨v347, rfl, ho0, hb⟩; refine ⟨_, rfl, ?_⟩; have n0_ := Aside0.mk (Kd.S_below (by (with_reducible repeat (first | apply Kd.S_alloc | apply Kd.S_drewN | apply Kd.S_drew)); exact (Kd.S_mono (zSf3 (g := gb341) (Kd.S_types HO339.out BK341.out (by decide))) (fun _ h_ => h_.1))) hb); have n1_ := Aside0.mk (Kd.R_lower ho0 (below_size (zB HB))); have n2_ := Aside0.mk (blk_below (g := gb331) (o := .cells #[.int .i64 a0_0, .int .i64 a0_1, .slice A0_2 l0_2.length c0_2] 24 (0, 0)) (zK BK331) hb); have n3_ := Aside0.mk (blk_below (g := gb341) (o := .cells #[.int .i64 t335, .int .i64 t336, .slice Ao32 t337.length co32] 24 (0, 0)) (by (with_reducible repeat (first | refine blk_drewN ?_ _ | refine blk_drew ?_ | refine blk_alloc ?_ _)); refine blk_put (cs := #[.int .i64 t335, .int .i64 t336, .slice none 0 0]) ?_ 2 _ rfl; (with_reducible repeat (first | refine blk_drewN ?_ _ | refine blk_drew ?_ | refine blk_alloc ?_ _)); refine blk_put (cs := #[.int .i64 t335, .int .i64 0, .slice none 0 0]) ?_ 1 _ rfl; (with_reducible repeat (first | refine blk_drewN ?_ _ | refine blk_drew ?_ | refine blk_alloc ?_ _)); refine blk_put (cs := #[.int .i64 0, .int .i64 0, .slice none 0 0]) ?_ 0 _ rfl; (with_reducible repeat (first | refine blk_drewN ?_ _ | refine blk_drew ?_ | refine blk_alloc ?_ _)); exact BK341.out) hb); have n4_ := Aside0.mk (below_step (zB HB) hb); clear HO339; clear BK331; clear BK341; clear HB; have HO339 := n0_; have HO348 := n1_; have BK331 := n2_; have BK341 := n3_; have HB := n4_; clear n0_ n1_ n2_ n3_ n4_; (try clear hb); (try clear hb2); (try clear hk); (try clear hi); (try clear ho0)) | ((with_reducible refine gate_dst (N := 11) rfl ?_); (try (refine gate_guard (by rfl) ?_; dsimp only)); refine box_event ?hg (N := 11) ?hd (cs := #[.int .i64 0, .int .i64 0, .int .i64 0, .int .i64 0, .slice none 0 0]) (t := 29) ?hr ?_; (case hd => rfl); (case hg => rfl); (case hr => first | (go_simp; done) | (go_simp; rfl)); intro gb350 hg w35 hbox hb; have n0_ := Aside0.mk (zSb HO339 hb); have n1_ := Aside0.mk (zRb HO348 hb); have n2_ := Aside0.mk (zb BK331 hb); have n3_ := Aside0.mk (zb BK341 hb); have n4_ := Aside0.mk (below_step (zB HB) hb); have n5_ := Aside0.mk (hbox); have n6_ := Aside0.mk ((by rw [hg]; exact (below_size (zB HB)) : w.heap.size ≤ gb350)); have n7_ := Aside0.mk ((by rw [hg]; exact (below_size (zB HB)) : w.heap.size ≤ gb350)); have n8_ := Aside0.mk ((by rw [hg]; exact Nat.ne_of_lt (zL BK331) : gb331 ≠ gb350)); have n9_ := Aside0.mk ((by rw [hg]; exact Nat.ne_of_gt (zL BK331) : gb350 ≠ gb331)); have n10_ := Aside0.mk ((by rw [hg]; exact Nat.ne_of_lt (zL BK341) : gb341 ≠ gb350)); have n11_ := Aside0.mk ((by rw [hg]; exact Nat.ne_of_gt (zL BK341) : gb350 ≠ gb341)); clear HO339; clear HO348; clear BK331; clear BK341; clear HB; have HO339 := n0_; have HO348 := n1_; have BK331 := n2_; have BK341 := n3_; have HB := n4_; have BK350 := n5_; have GW350 := n6_; have GE350 := n7_; have NB331_350 := n8_; have NB350_331 := n9_; have NB341_350 := n10_; have NB350_341 := n11_; clear n0_ n1_ n2_ n3_ n4_ n5_ n6_ n7_ n8_ n9_ n10_ n11_; clear hb hbox hg; have hnb36 := NB350_331.out; have hnc36 := NB331_350.out; have hnb37 := NB350_341.out; have hnc37 := NB341_350.out; have hcz38_0 : w35.cell? ⟨gb350, 0, none⟩ = some (.int .i64 0) := (blk_cell BK350.out 0).trans rfl; have hcz38_1 : w35.cell? ⟨gb350, 1, none⟩ = some (.int .i64 0) := (blk_cell BK350.out 1).trans rfl; have hcz38_2 : w35.cell? ⟨gb350, 2, none⟩ = some (.int .i64 0) := (blk_cell BK350.out 2).trans rfl; have hcz38_3 : w35.cell? ⟨gb350, 3, none⟩ = some (.int .i64 0) := (blk_cell BK350.out 3).trans rfl; have hcz38_4 : w35.cell? ⟨gb350, 4, none⟩ = some (.slice none 0 0) := (blk_cell BK350.out 4).trans rfl; have hfz38_0 := blk_frozen BK350.out 0; have hfz38_1 := blk_frozen BK350.out 1; have hfz38_2 := blk_frozen BK350.out 2; have hfz38_3 := blk_frozen BK350.out 3; have hfz38_4 := blk_frozen BK350.out 4; obtain ⟨Ao39, co39, eo39⟩ := Kd.R_slice HO348.out; subst eo39))
    have n0_ : Aside0 (Kd.S (Kd.slice 57 k57) 54 (((((w35.setCell ⟨gb350, 0, none⟩ (.int .i64 t342)).setCell ⟨gb350, 1, none⟩ (.int .i64 t343)).setCell ⟨gb350, 2, none⟩ (.int .i64 t344)).setCell ⟨gb350, 3, none⟩ (.int .i64 t345)).setCell ⟨gb350, 4, none⟩ (.slice Ao39 t346.length co39)) w.heap.size (fun _ => True) (.slice Ao32 t337.length co32) t337) := ⟨by (with_reducible repeat (first | apply Kd.S_alloc | apply Kd.S_drewN | apply Kd.S_drew)); exact Kd.S_mono (zSf5 (g := gb350) (Kd.S_types HO339.out BK350.out (by decide))) (fun _ hk => trivial)⟩
    have n1_ : Aside0 (Kd.R (Kd.int .i64) 3 (((((w35.setCell ⟨gb350, 0, none⟩ (.int .i64 t342)).setCell ⟨gb350, 1, none⟩ (.int .i64 t343)).setCell ⟨gb350, 2, none⟩ (.int .i64 t344)).setCell ⟨gb350, 3, none⟩ (.int .i64 t345)).setCell ⟨gb350, 4, none⟩ (.slice Ao39 t346.length co39)) w.heap.size (fun _ => True) (.slice Ao39 t346.length co39) t346) := ⟨by (with_reducible repeat (first | apply Kd.R_alloc | apply Kd.R_drewN | apply Kd.R_drew)); exact Kd.R_mono (zRf5 (g := gb350) (Kd.R_types HO348.out BK350.out (by decide))) (fun _ hk => trivial)⟩
    have n2_ : Aside0 ((((((w35.setCell ⟨gb350, 0, none⟩ (.int .i64 t342)).setCell ⟨gb350, 1, none⟩ (.int .i64 t343)).setCell ⟨gb350, 2, none⟩ (.int .i64 t344)).setCell ⟨gb350, 3, none⟩ (.int .i64 t345)).setCell ⟨gb350, 4, none⟩ (.slice Ao39 t346.length co39)).heap[gb331]? = some (.cells #[.int .i64 a0_0, .int .i64 a0_1, .slice A0_2 l0_2.length c0_2] 24 (0, 0))) := ⟨zK BK331⟩
    have n3_ : Aside0 ((((((w35.setCell ⟨gb350, 0, none⟩ (.int .i64 t342)).setCell ⟨gb350, 1, none⟩ (.int .i64 t343)).setCell ⟨gb350, 2, none⟩ (.int .i64 t344)).setCell ⟨gb350, 3, none⟩ (.int .i64 t345)).setCell ⟨gb350, 4, none⟩ (.slice Ao39 t346.length co39)).heap[gb341]? = some (.cells #[.int .i64 t335, .int .i64 t336, .slice Ao32 t337.length co32] 24 (0, 0))) := ⟨zK BK341⟩
    have n4_ : Aside0 ((((((w35.setCell ⟨gb350, 0, none⟩ (.int .i64 t342)).setCell ⟨gb350, 1, none⟩ (.int .i64 t343)).setCell ⟨gb350, 2, none⟩ (.int .i64 t344)).setCell ⟨gb350, 3, none⟩ (.int .i64 t345)).setCell ⟨gb350, 4, none⟩ (.slice Ao39 t346.length co39)).heap[gb350]? = some (.cells #[.int .i64 t342, .int .i64 t343, .int .i64 t344, .int .i64 t345, .slice Ao39 t346.length co39] 29 (0, 0))) := ⟨by (with_reducible repeat (first | refine blk_drewN ?_ _ | refine blk_drew ?_ | refine blk_alloc ?_ _)); refine blk_put (cs := #[.int .i64 t342, .int .i64 t343, .int .i64 t344, .int .i64 t345, .slice none 0 0]) ?_ 4 _ rfl; (with_reducible repeat (first | refine blk_drewN ?_ _ | refine blk_drew ?_ | refine blk_alloc ?_ _)); refine blk_put (cs := #[.int .i64 t342, .int .i64 t343, .int .i64 t344, .int .i64 0, .slice none 0 0]) ?_ 3 _ rfl; (with_reducible repeat (first | refine blk_drewN ?_ _ | refine blk_drew ?_ | refine blk_alloc ?_ _)); refine blk_put (cs := #[.int .i64 t342, .int .i64 t343, .int .i64 0, .int .i64 0, .slice none 0 0]) ?_ 2 _ rfl; (with_reducible repeat (first | refine blk_drewN ?_ _ | refine blk_drew ?_ | refine blk_alloc ?_ _)); refine blk_put (cs := #[.int .i64 t342, .int .i64 0, .int .i64 0, .int .i64 0, .slice none 0 0]) ?_ 1 _ rfl; (with_reducible repeat (first | refine blk_drewN ?_ _ | refine blk_drew ?_ | refine blk_alloc ?_ _)); refine blk_put (cs := #[.int .i64 0, .int .i64 0, .int .i64 0, .int .i64 0, .slice none 0 0]) ?_ 0 _ rfl; (with_reducible repeat (first | refine blk_drewN ?_ _ | refine blk_drew ?_ | refine blk_alloc ?_ _)); exact BK350.out⟩
    have n5_ : Aside0 (Below w.heap.size w (((((w35.setCell ⟨gb350, 0, none⟩ (.int .i64 t342)).setCell ⟨gb350, 1, none⟩ (.int .i64 t343)).setCell ⟨gb350, 2, none⟩ (.int .i64 t344)).setCell ⟨gb350, 3, none⟩ (.int .i64 t345)).setCell ⟨gb350, 4, none⟩ (.slice Ao39 t346.length co39))) := ⟨zB HB⟩
    (try clear HO339)
    (try clear HO348)
    (try clear BK331)
    (try clear BK341)
    (try clear BK350)
    (try clear HB)
    generalize (((((w35.setCell ⟨gb350, 0, none⟩ (.int .i64 t342)).setCell ⟨gb350, 1, none⟩ (.int .i64 t343)).setCell ⟨gb350, 2, none⟩ (.int .i64 t344)).setCell ⟨gb350, 3, none⟩ (.int .i64 t345)).setCell ⟨gb350, 4, none⟩ (.slice Ao39 t346.length co39)) = w40 at n0_ n1_ n2_ n3_ n4_ n5_ ⊢
    have HO339 := n0_
    have HO348 := n1_
    have BK331 := n2_
    have BK341 := n3_
    have BK350 := n4_
    have HB := n5_
    clear n0_ n1_ n2_ n3_ n4_ n5_
    have n0_ := Aside0.mk (Kd.S_drew HO339.out)
    have n1_ := Aside0.mk (Kd.R_drew HO348.out)
    have n2_ := Aside0.mk (blk_drew BK331.out)
    have n3_ := Aside0.mk (blk_drew BK341.out)
    have n4_ := Aside0.mk (blk_drew BK350.out)
    have n5_ := Aside0.mk (below_drew1 HB.out)
    clear HO339
    clear HO348
    clear BK331
    clear BK341
    clear BK350
    clear HB
    have HO339 := n0_
    have HO348 := n1_
    have BK331 := n2_
    have BK341 := n3_
    have BK350 := n4_
    have HB := n5_
    clear n0_ n1_ n2_ n3_ n4_ n5_
    refine start_ (n := 16) (S := fun w' => w'.cell? ⟨gb341, 0, none⟩ = some (.int .i64 t335) ∧ w'.cell? ⟨gb341, 1, none⟩ = some (.int .i64 t336) ∧ w'.cell? ⟨gb341, 2, none⟩ = some (.slice Ao32 t337.length co32)) (ds := []) (zl 16 0) (by kernel_rfl) rfl rfl ⟨(blk_cell BK341.out 0).trans rfl, (blk_cell BK341.out 1).trans rfl, (blk_cell BK341.out 2).trans rfl⟩ (fun hHeld => ?_); refine with_tabW standstilllaw05_BlockMirror.tab5 standstilllaw05_BlockMirror.bits5 (fun HT_ HW_ => ?_)
    generalize w40.drew = w41 at HO339 HO348 BK331 BK341 BK350 HB hHeld ⊢
    refine pure_ (i := 1) (N := some 44) (v := ?_) (a' := ?_) (zl 16 2) rfl rfl (any_of HT_.out (by kernel_rfl)) (fun _ _ _ h => h) (Or.inl ⟨by rfl, ?_⟩) ?_ ?_
    rotate_left
    ·
     intro w'
     go_simp
     with_reducible rfl
    rotate_left
    ·
     simp only [Act.put, zs, zs0, zs1, i64_w, i32_w]
     rfl
    refine pure_ (i := 2) (N := some 45) (v := ?_) (a' := ?_) (zl 16 6) rfl rfl (any_of HT_.out (by kernel_rfl)) (fun _ _ _ h => h) (Or.inl ⟨by rfl, ?_⟩) ?_ ?_
    rotate_left
    ·
     intro w'
     go_simp
     with_reducible rfl
    rotate_left
    ·
     simp only [Act.put, zs, zs0, zs1, i64_w, i32_w]
     rfl
    refine pure_ (i := 3) (N := some 46) (v := ?_) (a' := ?_) (zl 16 14) rfl rfl (any_of HT_.out (by kernel_rfl)) (fun _ _ _ h => h) (Or.inl ⟨by rfl, ?_⟩) ?_ ?_
    rotate_left
    ·
     intro w'
     go_simp
     with_reducible rfl
    rotate_left
    ·
     simp only [Act.put, zs, zs0, zs1, i64_w, i32_w]
     rfl
    refine pure_ (i := 4) (N := some 47) (v := ?_) (a' := ?_) (zl 16 30) rfl rfl (any_of HT_.out (by kernel_rfl)) (fun _ _ _ h => h) (Or.inl ⟨by rfl, ?_⟩) ?_ ?_
    rotate_left
    ·
     intro w'
     go_simp
     with_reducible rfl
    rotate_left
    ·
     simp only [Act.put, zs, zs0, zs1, i64_w, i32_w]
     rfl
    refine pure_ (i := 5) (N := some 48) (v := ?_) (a' := ?_) (zl 16 62) rfl rfl (any_of HT_.out (by kernel_rfl)) (fun _ _ _ h => h) (Or.inl ⟨by rfl, ?_⟩) ?_ ?_
    rotate_left
    ·
     intro w'
     go_simp
     with_reducible rfl
    rotate_left
    ·
     simp only [Act.put, zs, zs0, zs1, i64_w, i32_w]
     rfl
    refine pure_ (i := 6) (N := some 49) (v := ?_) (a' := ?_) (zl 16 126) rfl rfl (any_of HT_.out (by kernel_rfl)) (fun _ _ _ h => h) (Or.inl ⟨by rfl, ?_⟩) ?_ ?_
    rotate_left
    ·
     intro w'
     go_simp
     with_reducible rfl
    rotate_left
    ·
     simp only [Act.put, zs, zs0, zs1, i64_w, i32_w]
     rfl
    refine pure_ (i := 7) (N := some 50) (v := ?_) (a' := ?_) (zl 16 254) rfl rfl (any_of HT_.out (by kernel_rfl)) (fun _ _ _ h => h) (Or.inl ⟨by rfl, ?_⟩) ?_ ?_
    rotate_left
    ·
     intro w'
     go_simp
     with_reducible rfl
    rotate_left
    ·
     simp only [Act.put, zs, zs0, zs1, i64_w, i32_w]
     rfl
    refine take_ (i := 0) (N := some 43) (v := ?_) (a' := ?_) (zl 16 255) rfl rfl (take_ofW HT_.out HW_.out (by kernel_rfl)) (fun _ _ _ h => h) (Or.inl ⟨by rfl, ?_⟩) hHeld ?_ ?_
    rotate_left
    ·
     rintro w' ⟨s0, s1, s2⟩
     go_simp
     with_reducible rfl
    rotate_left
    ·
     simp only [Act.put, zs, zs0, zs1, i64_w, i32_w]
     rfl
    refine join_ (σ := Value × Value × Nat) 2 (zl 16 16383) (fun s_ => [(51, s_.1), (52, .tuple #[.agg #[.int .i64 t354, .int .i64 t355, .int .i64 t356, .int .i64 t357, s_.2.1], .int .i64 t361]), (13, .pointer (some ⟨s_.2.2, 0, none⟩)), (42, .tuple #[.agg #[.int .i64 t354, .int .i64 t355, .int .i64 t356, .int .i64 t357, s_.2.1], .int .i64 t361]), (53, .agg #[.int .i64 t354, .int .i64 t355, .int .i64 t356, .int .i64 t357, s_.2.1]), (54, .int .i64 t361)]) (fun s_ w' => (w'.cell? ⟨gb341, 0, none⟩ = some (.int .i64 t335) ∧ w'.cell? ⟨gb341, 1, none⟩ = some (.int .i64 t336) ∧ w'.cell? ⟨gb341, 2, none⟩ = some (.slice Ao32 t337.length co32)) ∧ (Kd.S (Kd.slice 57 k57) 54 w' w.heap.size (fun _ => True) (.slice Ao32 t337.length co32) t337) ∧ (Kd.R (Kd.int .i64) 3 w' w.heap.size (fun k_ => some k_ ≠ (s_.1 : Value).ownBlock ∧ some k_ ≠ (s_.2.1 : Value).ownBlock) (.slice Ao39 t346.length co39) t346) ∧ (Kd.R (Kd.int .i64) 3 w' w.heap.size (fun k_ => some k_ ≠ (.slice Ao39 t346.length co39 : Value).ownBlock ∧ some k_ ≠ (s_.2.1 : Value).ownBlock) s_.1 t351) ∧ (Kd.R (Kd.int .i64) 3 w' w.heap.size (fun k_ => some k_ ≠ (.slice Ao39 t346.length co39 : Value).ownBlock ∧ some k_ ≠ (s_.1 : Value).ownBlock) s_.2.1 t358) ∧ (w'.heap[gb331]? = some (.cells #[.int .i64 a0_0, .int .i64 a0_1, .slice A0_2 l0_2.length c0_2] 24 (0, 0))) ∧ (w'.heap[gb341]? = some (.cells #[.int .i64 t335, .int .i64 t336, .slice Ao32 t337.length co32] 24 (0, 0))) ∧ (w'.heap[gb350]? = some (.cells #[.int .i64 t342, .int .i64 t343, .int .i64 t344, .int .i64 t345, .slice Ao39 t346.length co39] 29 (0, 0))) ∧ (w'.heap[s_.2.2]? = some (.cells #[.int .i64 0, .int .i64 0, .int .i64 0, .int .i64 0, .slice none 0 0] 29 (0, 0))) ∧ (w.heap.size ≤ s_.2.2) ∧ (w.heap.size ≤ s_.2.2) ∧ (gb331 ≠ s_.2.2) ∧ (s_.2.2 ≠ gb331) ∧ (gb341 ≠ s_.2.2) ∧ (s_.2.2 ≠ gb341) ∧ (gb350 ≠ s_.2.2) ∧ (s_.2.2 ≠ gb350) ∧ (Below w.heap.size w w')) ?_ ?_
    rotate_left
    ·
     intro hCont
     refine two_ (i := 8) (j := 13) (Ni := some 51) (Nj := some 13) (zl 16 511) (zl 16 8447) rfl rfl rfl rfl (two_of HT_.out (by kernel_rfl)) (by decide) (by decide) (fun K hK => ?_) (fun K hK => ?_)
     ·
      skip
      refine goes_ Try.func16 (by kernel_rfl) rfl #[.slice A3 l3.length c3] (by rfl) rfl rfl (zm) ?_
      with_reducible refine (standstillref01_Turned.calls kj4 _ _ l3 t351 _ ?side1 ?side2 A24.out).mono ?_
      (case side1 => exact zC ((Kd.C_below HR3.out HB.out)))
      (case side2 => exact HC3.out)
      rintro e w42 ⟨v352, rfl, ho0, hb⟩
      refine ⟨_, rfl, ?_⟩
      have n0_ := Aside0.mk (zSb HO339 hb)
      have n1_ := Aside0.mk (Kd.R_elder' (zR HO348) (Kd.R_base ho0) hb)
      have n2_ := Aside0.mk (Kd.R_lower (Kd.R_new' ho0 (Kd.R_lt (zR HO348))) (below_size (zB HB)))
      have n3_ := Aside0.mk (zb BK331 hb)
      have n4_ := Aside0.mk (zb BK341 hb)
      have n5_ := Aside0.mk (zb BK350 hb)
      have n6_ := Aside0.mk (below_step (zB HB) hb)
      clear HO339
      clear HO348
      clear BK331
      clear BK341
      clear BK350
      clear HB
      have HO339 := n0_
      have HO348 := n1_
      have HO353 := n2_
      have BK331 := n3_
      have BK341 := n4_
      have BK350 := n5_
      have HB := n6_
      clear n0_ n1_ n2_ n3_ n4_ n5_ n6_
      (try clear hb)
      (try clear hb2)
      (try clear hk)
      (try clear hi)
      (try clear ho0)
      obtain ⟨Ao43, co43, eo43⟩ := Kd.R_slice HO353.out
      (first | subst eo43 | (injection eo43 with f1_ f2_ f3_; have f4_ := f1_.symm; have f5_ := f3_.symm; clear f1_ f2_ f3_; subst f4_; subst f5_))
      refine hK.out _ _ ⟨(blk_cell BK341.out 0).trans rfl, (blk_cell BK341.out 1).trans rfl, (blk_cell BK341.out 2).trans rfl⟩ (fun hHeld => ?_)
      clear hK K
      refine norm_ (a' := ?_) ?_ ?_
      rotate_left
      ·
       show Act.put _ (some 51) _ = _
       simp only [Act.put, zs, zs0, zs1, i64_w, i32_w]
       rfl
      refine two_ (i := 9) (j := 13) (Ni := some 52) (Nj := some 13) (zl 16 1023) (zl 16 8703) rfl rfl rfl rfl (two_of HT_.out (by kernel_rfl)) (by decide) (by decide) (fun K hK => ?_) (fun K hK => ?_)
      ·
       skip
       refine goes_ Try.func9 (by kernel_rfl) rfl #[.agg #[.int .i64 t335, .int .i64 t336, .slice Ao32 t337.length co32], .int .i64 a1, .int .i64 (wrap64 ((wrap64 ((l3.length : Int) - 1)) - a2)), .slice Ao43 t351.length co43] (by rfl) rfl rfl (zm) ?_
       with_reducible refine (block_Cross.calls kj4 t335 t336 _ _ t337 a1 (wrap64 ((wrap64 ((l3.length : Int) - 1)) - a2)) _ _ t351 t354 t355 t356 t357 t358 t361 _ ?side1 ?side2 ?side3 ?side4 A25.out).mono ?_
       (case side1 => exact zC ((Kd.S_reads' HO339.out).2.2))
       (case side2 => exact (Kd.S_reads' HO339.out).2.1)
       (case side3 => exact zC ((Kd.R_reads' HO353.out).2.2))
       (case side4 => exact (Kd.R_reads' HO353.out).2.1)
       rintro e w44 ⟨v359, rfl, ho0, hb⟩
       refine ⟨_, rfl, ?_⟩
       have n0_ := Aside0.mk (zSb HO339 hb)
       have n1_ := Aside0.mk (Kd.R_elder' (zR HO348) (Kd.R_base ho0) hb)
       have n2_ := Aside0.mk (Kd.R_elder' (zR HO353) (Kd.R_base ho0) hb)
       have n3_ := Aside0.mk (Kd.R_lower (Kd.R_new' (Kd.R_new' ho0 (Kd.R_lt (zR HO348))) (Kd.R_lt (zR HO353))) (below_size (zB HB)))
       have n4_ := Aside0.mk (zb BK331 hb)
       have n5_ := Aside0.mk (zb BK341 hb)
       have n6_ := Aside0.mk (zb BK350 hb)
       have n7_ := Aside0.mk (below_step (zB HB) hb)
       clear HO339
       clear HO348
       clear HO353
       clear BK331
       clear BK341
       clear BK350
       clear HB
       have HO339 := n0_
       have HO348 := n1_
       have HO353 := n2_
       have HO360 := n3_
       have BK331 := n4_
       have BK341 := n5_
       have BK350 := n6_
       have HB := n7_
       clear n0_ n1_ n2_ n3_ n4_ n5_ n6_ n7_
       (try clear hb)
       (try clear hb2)
       (try clear hk)
       (try clear hi)
       (try clear ho0)
       refine hK.out _ _ ⟨(blk_cell BK341.out 0).trans rfl, (blk_cell BK341.out 1).trans rfl, (blk_cell BK341.out 2).trans rfl⟩ (fun hHeld => ?_)
       clear hK K
       refine norm_ (a' := ?_) ?_ ?_
       rotate_left
       ·
        show Act.put _ (some 52) _ = _
        simp only [Act.put, zs, zs0, zs1, i64_w, i32_w]
        rfl
       refine pure_ (i := 10) (N := some 42) (v := ?_) (a' := ?_) (zl 16 2047) rfl rfl (any_of HT_.out (by kernel_rfl)) (fun _ _ _ h => h) (Or.inl ⟨by rfl, ?_⟩) ?_ ?_
       rotate_left
       ·
        intro w'
        go_simp
        with_reducible rfl
       rotate_left
       ·
        simp only [Act.put, zs, zs0, zs1, i64_w, i32_w]
        rfl
       refine pure_ (i := 11) (N := some 53) (v := ?_) (a' := ?_) (zl 16 4095) rfl rfl (any_of HT_.out (by kernel_rfl)) (fun _ _ _ h => h) (Or.inl ⟨by rfl, ?_⟩) ?_ ?_
       rotate_left
       ·
        intro w'
        go_simp
        with_reducible rfl
       rotate_left
       ·
        simp only [Act.put, zs, zs0, zs1, i64_w, i32_w]
        rfl
       refine pure_ (i := 12) (N := some 54) (v := ?_) (a' := ?_) (zl 16 8191) rfl rfl (any_of HT_.out (by kernel_rfl)) (fun _ _ _ h => h) (Or.inl ⟨by rfl, ?_⟩) ?_ ?_
       rotate_left
       ·
        intro w'
        go_simp
        with_reducible rfl
       rotate_left
       ·
        simp only [Act.put, zs, zs0, zs1, i64_w, i32_w]
        rfl
       refine one_ (i := 13) (N := some 13) (zl 16 16383) rfl rfl (one_of HT_.out (by kernel_rfl)) (by decide) (fun K hK => ?_)
       refine box_step ?hg (N := 13) ?hd (cs := #[.int .i64 0, .int .i64 0, .int .i64 0, .int .i64 0, .slice none 0 0]) (t := 29) ?hr ?_; (case hd => rfl); (case hg => rfl); (case hr => first | (go_simp; done) | (go_simp; rfl))
       intro gb362 hg w45 hbox hb
       have n0_ := Aside0.mk (zSb HO339 hb)
       have n1_ := Aside0.mk (zRb HO348 hb)
       have n2_ := Aside0.mk (zRb HO353 hb)
       have n3_ := Aside0.mk (zRb HO360 hb)
       have n4_ := Aside0.mk (zb BK331 hb)
       have n5_ := Aside0.mk (zb BK341 hb)
       have n6_ := Aside0.mk (zb BK350 hb)
       have n7_ := Aside0.mk (below_step (zB HB) hb)
       have n8_ := Aside0.mk (hbox)
       have n9_ := Aside0.mk ((by rw [hg]; exact (below_size (zB HB)) : w.heap.size ≤ gb362))
       have n10_ := Aside0.mk ((by rw [hg]; exact (below_size (zB HB)) : w.heap.size ≤ gb362))
       have n11_ := Aside0.mk ((by rw [hg]; exact Nat.ne_of_lt (zL BK331) : gb331 ≠ gb362))
       have n12_ := Aside0.mk ((by rw [hg]; exact Nat.ne_of_gt (zL BK331) : gb362 ≠ gb331))
       have n13_ := Aside0.mk ((by rw [hg]; exact Nat.ne_of_lt (zL BK341) : gb341 ≠ gb362))
       have n14_ := Aside0.mk ((by rw [hg]; exact Nat.ne_of_gt (zL BK341) : gb362 ≠ gb341))
       have n15_ := Aside0.mk ((by rw [hg]; exact Nat.ne_of_lt (zL BK350) : gb350 ≠ gb362))
       have n16_ := Aside0.mk ((by rw [hg]; exact Nat.ne_of_gt (zL BK350) : gb362 ≠ gb350))
       clear HO339
       clear HO348
       clear HO353
       clear HO360
       clear BK331
       clear BK341
       clear BK350
       clear HB
       have HO339 := n0_
       have HO348 := n1_
       have HO353 := n2_
       have HO360 := n3_
       have BK331 := n4_
       have BK341 := n5_
       have BK350 := n6_
       have HB := n7_
       have BK362 := n8_
       have GW362 := n9_
       have GE362 := n10_
       have NB331_362 := n11_
       have NB362_331 := n12_
       have NB341_362 := n13_
       have NB362_341 := n14_
       have NB350_362 := n15_
       have NB362_350 := n16_
       clear n0_ n1_ n2_ n3_ n4_ n5_ n6_ n7_ n8_ n9_ n10_ n11_ n12_ n13_ n14_ n15_ n16_
       clear hb hbox hg
       refine hK.out _ _ ⟨(blk_cell BK341.out 0).trans rfl, (blk_cell BK341.out 1).trans rfl, (blk_cell BK341.out 2).trans rfl⟩ (fun hHeld => ?_)
       clear hK K
       refine norm_ (a' := ?_) ?_ ?_
       rotate_left
       ·
        show Act.put _ (some 13) _ = _
        simp only [Act.put, zs, zs0, zs1, i64_w, i32_w]
        rfl
       exact norm_ (by simp only [putAll, Act.put, zs, zs0, zs1]) (hCont (.slice Ao43 t351.length co43, v359, gb362) _ ⟨hHeld, (zS HO339), (by (with_reducible repeat (first | apply Kd.R_alloc | apply Kd.R_drewN | apply Kd.R_drew)); exact Kd.R_mono HO348.out (fun _ hk => ⟨hk.1.2, hk.2⟩)), (by (with_reducible repeat (first | apply Kd.R_alloc | apply Kd.R_drewN | apply Kd.R_drew)); exact Kd.R_mono HO353.out (fun _ hk => ⟨hk.1.2, hk.2⟩)), (by (with_reducible repeat (first | apply Kd.R_alloc | apply Kd.R_drewN | apply Kd.R_drew)); exact Kd.R_mono HO360.out (fun _ hk => ⟨hk.1.2, hk.2⟩)), (zk BK331), (zk BK341), (zk BK350), (zk BK362), GW362.out, GE362.out, NB331_362.out, NB362_331.out, NB341_362.out, NB362_341.out, NB350_362.out, NB362_350.out, (zB HB)⟩)
      ·
       skip
       refine box_step ?hg (N := 13) ?hd (cs := #[.int .i64 0, .int .i64 0, .int .i64 0, .int .i64 0, .slice none 0 0]) (t := 29) ?hr ?_; (case hd => rfl); (case hg => rfl); (case hr => first | (go_simp; done) | (go_simp; rfl))
       intro gb362 hg w43 hbox hb
       have n0_ := Aside0.mk (zSb HO339 hb)
       have n1_ := Aside0.mk (zRb HO348 hb)
       have n2_ := Aside0.mk (zRb HO353 hb)
       have n3_ := Aside0.mk (zb BK331 hb)
       have n4_ := Aside0.mk (zb BK341 hb)
       have n5_ := Aside0.mk (zb BK350 hb)
       have n6_ := Aside0.mk (below_step (zB HB) hb)
       have n7_ := Aside0.mk (hbox)
       have n8_ := Aside0.mk ((by rw [hg]; exact (below_size (zB HB)) : w.heap.size ≤ gb362))
       have n9_ := Aside0.mk ((by rw [hg]; exact (below_size (zB HB)) : w.heap.size ≤ gb362))
       have n10_ := Aside0.mk ((by rw [hg]; exact Nat.ne_of_lt (zL BK331) : gb331 ≠ gb362))
       have n11_ := Aside0.mk ((by rw [hg]; exact Nat.ne_of_gt (zL BK331) : gb362 ≠ gb331))
       have n12_ := Aside0.mk ((by rw [hg]; exact Nat.ne_of_lt (zL BK341) : gb341 ≠ gb362))
       have n13_ := Aside0.mk ((by rw [hg]; exact Nat.ne_of_gt (zL BK341) : gb362 ≠ gb341))
       have n14_ := Aside0.mk ((by rw [hg]; exact Nat.ne_of_lt (zL BK350) : gb350 ≠ gb362))
       have n15_ := Aside0.mk ((by rw [hg]; exact Nat.ne_of_gt (zL BK350) : gb362 ≠ gb350))
       clear HO339
       clear HO348
       clear HO353
       clear BK331
       clear BK341
       clear BK350
       clear HB
       have HO339 := n0_
       have HO348 := n1_
       have HO353 := n2_
       have BK331 := n3_
       have BK341 := n4_
       have BK350 := n5_
       have HB := n6_
       have BK362 := n7_
       have GW362 := n8_
       have GE362 := n9_
       have NB331_362 := n10_
       have NB362_331 := n11_
       have NB341_362 := n12_
       have NB362_341 := n13_
       have NB350_362 := n14_
       have NB362_350 := n15_
       clear n0_ n1_ n2_ n3_ n4_ n5_ n6_ n7_ n8_ n9_ n10_ n11_ n12_ n13_ n14_ n15_
       clear hb hbox hg
       obtain ⟨Ao44, co44, eo44⟩ := Kd.R_slice HO353.out
       (first | subst eo44 | (injection eo44 with f1_ f2_ f3_; have f4_ := f1_.symm; have f5_ := f3_.symm; clear f1_ f2_ f3_; subst f4_; subst f5_))
       refine hK.out _ _ ⟨(blk_cell BK341.out 0).trans rfl, (blk_cell BK341.out 1).trans rfl, (blk_cell BK341.out 2).trans rfl⟩ (fun hHeld => ?_)
       clear hK K
       refine norm_ (a' := ?_) ?_ ?_
       rotate_left
       ·
        show Act.put _ (some 13) _ = _
        simp only [Act.put, zs, zs0, zs1, i64_w, i32_w]
        rfl
       refine one_ (i := 9) (N := some 52) (zl 16 9215) rfl rfl (one_of HT_.out (by kernel_rfl)) (by decide) (fun K hK => ?_)
       refine goes_ Try.func9 (by kernel_rfl) rfl #[.agg #[.int .i64 t335, .int .i64 t336, .slice Ao32 t337.length co32], .int .i64 a1, .int .i64 (wrap64 ((wrap64 ((l3.length : Int) - 1)) - a2)), .slice Ao44 t351.length co44] (by rfl) rfl rfl (zm) ?_
       with_reducible refine (block_Cross.calls kj4 t335 t336 _ _ t337 a1 (wrap64 ((wrap64 ((l3.length : Int) - 1)) - a2)) _ _ t351 t354 t355 t356 t357 t358 t361 _ ?side1 ?side2 ?side3 ?side4 A25.out).mono ?_
       (case side1 => exact zC ((Kd.S_reads' HO339.out).2.2))
       (case side2 => exact (Kd.S_reads' HO339.out).2.1)
       (case side3 => exact zC ((Kd.R_reads' HO353.out).2.2))
       (case side4 => exact (Kd.R_reads' HO353.out).2.1)
       rintro e w45 ⟨v359, rfl, ho0, hb⟩
       refine ⟨_, rfl, ?_⟩
       have n0_ := Aside0.mk (zSb HO339 hb)
       have n1_ := Aside0.mk (Kd.R_elder' (zR HO348) (Kd.R_base ho0) hb)
       have n2_ := Aside0.mk (Kd.R_elder' (zR HO353) (Kd.R_base ho0) hb)
       have n3_ := Aside0.mk (Kd.R_lower (Kd.R_new' (Kd.R_new' ho0 (Kd.R_lt (zR HO348))) (Kd.R_lt (zR HO353))) (below_size (zB HB)))
       have n4_ := Aside0.mk (zb BK331 hb)
       have n5_ := Aside0.mk (zb BK341 hb)
       have n6_ := Aside0.mk (zb BK350 hb)
       have n7_ := Aside0.mk (zb BK362 hb)
       have n8_ := Aside0.mk (below_step (zB HB) hb)
       clear HO339
       clear HO348
       clear HO353
       clear BK331
       clear BK341
       clear BK350
       clear BK362
       clear HB
       have HO339 := n0_
       have HO348 := n1_
       have HO353 := n2_
       have HO360 := n3_
       have BK331 := n4_
       have BK341 := n5_
       have BK350 := n6_
       have BK362 := n7_
       have HB := n8_
       clear n0_ n1_ n2_ n3_ n4_ n5_ n6_ n7_ n8_
       (try clear hb)
       (try clear hb2)
       (try clear hk)
       (try clear hi)
       (try clear ho0)
       refine hK.out _ _ ⟨(blk_cell BK341.out 0).trans rfl, (blk_cell BK341.out 1).trans rfl, (blk_cell BK341.out 2).trans rfl⟩ (fun hHeld => ?_)
       clear hK K
       refine norm_ (a' := ?_) ?_ ?_
       rotate_left
       ·
        show Act.put _ (some 52) _ = _
        simp only [Act.put, zs, zs0, zs1, i64_w, i32_w]
        rfl
       refine pure_ (i := 10) (N := some 42) (v := ?_) (a' := ?_) (zl 16 10239) rfl rfl (any_of HT_.out (by kernel_rfl)) (fun _ _ _ h => h) (Or.inl ⟨by rfl, ?_⟩) ?_ ?_
       rotate_left
       ·
        intro w'
        go_simp
        with_reducible rfl
       rotate_left
       ·
        simp only [Act.put, zs, zs0, zs1, i64_w, i32_w]
        rfl
       refine pure_ (i := 11) (N := some 53) (v := ?_) (a' := ?_) (zl 16 12287) rfl rfl (any_of HT_.out (by kernel_rfl)) (fun _ _ _ h => h) (Or.inl ⟨by rfl, ?_⟩) ?_ ?_
       rotate_left
       ·
        intro w'
        go_simp
        with_reducible rfl
       rotate_left
       ·
        simp only [Act.put, zs, zs0, zs1, i64_w, i32_w]
        rfl
       refine pure_ (i := 12) (N := some 54) (v := ?_) (a' := ?_) (zl 16 16383) rfl rfl (any_of HT_.out (by kernel_rfl)) (fun _ _ _ h => h) (Or.inl ⟨by rfl, ?_⟩) ?_ ?_
       rotate_left
       ·
        intro w'
        go_simp
        with_reducible rfl
       rotate_left
       ·
        simp only [Act.put, zs, zs0, zs1, i64_w, i32_w]
        rfl
       exact norm_ (by simp only [putAll, Act.put, zs, zs0, zs1]) (hCont (.slice Ao44 t351.length co44, v359, gb362) _ ⟨hHeld, (zS HO339), (by (with_reducible repeat (first | apply Kd.R_alloc | apply Kd.R_drewN | apply Kd.R_drew)); exact Kd.R_mono HO348.out (fun _ hk => ⟨hk.1.2, hk.2⟩)), (by (with_reducible repeat (first | apply Kd.R_alloc | apply Kd.R_drewN | apply Kd.R_drew)); exact Kd.R_mono HO353.out (fun _ hk => ⟨hk.1.2, hk.2⟩)), (by (with_reducible repeat (first | apply Kd.R_alloc | apply Kd.R_drewN | apply Kd.R_drew)); exact Kd.R_mono HO360.out (fun _ hk => ⟨hk.1.2, hk.2⟩)), (zk BK331), (zk BK341), (zk BK350), (zk BK362), GW362.out, GE362.out, NB331_362.out, NB362_331.out, NB341_362.out, NB362_341.out, NB350_362.out, NB362_350.out, (zB HB)⟩)
     ·
      skip
      refine box_step ?hg (N := 13) ?hd (cs := #[.int .i64 0, .int .i64 0, .int .i64 0, .int .i64 0, .slice none 0 0]) (t := 29) ?hr ?_; (case hd => rfl); (case hg => rfl); (case hr => first | (go_simp; done) | (go_simp; rfl))
      intro gb362 hg w42 hbox hb
      have n0_ := Aside0.mk (zSb HO339 hb)
      have n1_ := Aside0.mk (zRb HO348 hb)
      have n2_ := Aside0.mk (zb BK331 hb)
      have n3_ := Aside0.mk (zb BK341 hb)
      have n4_ := Aside0.mk (zb BK350 hb)
      have n5_ := Aside0.mk (below_step (zB HB) hb)
      have n6_ := Aside0.mk (hbox)
      have n7_ := Aside0.mk ((by rw [hg]; exact (below_size (zB HB)) : w.heap.size ≤ gb362))
      have n8_ := Aside0.mk ((by rw [hg]; exact (below_size (zB HB)) : w.heap.size ≤ gb362))
      have n9_ := Aside0.mk ((by rw [hg]; exact Nat.ne_of_lt (zL BK331) : gb331 ≠ gb362))
      have n10_ := Aside0.mk ((by rw [hg]; exact Nat.ne_of_gt (zL BK331) : gb362 ≠ gb331))
      have n11_ := Aside0.mk ((by rw [hg]; exact Nat.ne_of_lt (zL BK341) : gb341 ≠ gb362))
      have n12_ := Aside0.mk ((by rw [hg]; exact Nat.ne_of_gt (zL BK341) : gb362 ≠ gb341))
      have n13_ := Aside0.mk ((by rw [hg]; exact Nat.ne_of_lt (zL BK350) : gb350 ≠ gb362))
      have n14_ := Aside0.mk ((by rw [hg]; exact Nat.ne_of_gt (zL BK350) : gb362 ≠ gb350))
      clear HO339
      clear HO348
      clear BK331
      clear BK341
      clear BK350
      clear HB
      have HO339 := n0_
      have HO348 := n1_
      have BK331 := n2_
      have BK341 := n3_
      have BK350 := n4_
      have HB := n5_
      have BK362 := n6_
      have GW362 := n7_
      have GE362 := n8_
      have NB331_362 := n9_
      have NB362_331 := n10_
      have NB341_362 := n11_
      have NB362_341 := n12_
      have NB350_362 := n13_
      have NB362_350 := n14_
      clear n0_ n1_ n2_ n3_ n4_ n5_ n6_ n7_ n8_ n9_ n10_ n11_ n12_ n13_ n14_
      clear hb hbox hg
      refine hK.out _ _ ⟨(blk_cell BK341.out 0).trans rfl, (blk_cell BK341.out 1).trans rfl, (blk_cell BK341.out 2).trans rfl⟩ (fun hHeld => ?_)
      clear hK K
      refine norm_ (a' := ?_) ?_ ?_
      rotate_left
      ·
       show Act.put _ (some 13) _ = _
       simp only [Act.put, zs, zs0, zs1, i64_w, i32_w]
       rfl
      refine one_ (i := 8) (N := some 51) (zl 16 8703) rfl rfl (one_of HT_.out (by kernel_rfl)) (by decide) (fun K hK => ?_)
      refine goes_ Try.func16 (by kernel_rfl) rfl #[.slice A3 l3.length c3] (by rfl) rfl rfl (zm) ?_
      with_reducible refine (standstillref01_Turned.calls kj4 _ _ l3 t351 _ ?side1 ?side2 A24.out).mono ?_
      (case side1 => exact zC ((Kd.C_below HR3.out HB.out)))
      (case side2 => exact HC3.out)
      rintro e w43 ⟨v352, rfl, ho0, hb⟩
      refine ⟨_, rfl, ?_⟩
      have n0_ := Aside0.mk (zSb HO339 hb)
      have n1_ := Aside0.mk (Kd.R_elder' (zR HO348) (Kd.R_base ho0) hb)
      have n2_ := Aside0.mk (Kd.R_lower (Kd.R_new' ho0 (Kd.R_lt (zR HO348))) (below_size (zB HB)))
      have n3_ := Aside0.mk (zb BK331 hb)
      have n4_ := Aside0.mk (zb BK341 hb)
      have n5_ := Aside0.mk (zb BK350 hb)
      have n6_ := Aside0.mk (zb BK362 hb)
      have n7_ := Aside0.mk (below_step (zB HB) hb)
      clear HO339
      clear HO348
      clear BK331
      clear BK341
      clear BK350
      clear BK362
      clear HB
      have HO339 := n0_
      have HO348 := n1_
      have HO353 := n2_
      have BK331 := n3_
      have BK341 := n4_
      have BK350 := n5_
      have BK362 := n6_
      have HB := n7_
      clear n0_ n1_ n2_ n3_ n4_ n5_ n6_ n7_
      (try clear hb)
      (try clear hb2)
      (try clear hk)
      (try clear hi)
      (try clear ho0)
      obtain ⟨Ao44, co44, eo44⟩ := Kd.R_slice HO353.out
      (first | subst eo44 | (injection eo44 with f1_ f2_ f3_; have f4_ := f1_.symm; have f5_ := f3_.symm; clear f1_ f2_ f3_; subst f4_; subst f5_))
      refine hK.out _ _ ⟨(blk_cell BK341.out 0).trans rfl, (blk_cell BK341.out 1).trans rfl, (blk_cell BK341.out 2).trans rfl⟩ (fun hHeld => ?_)
      clear hK K
      refine norm_ (a' := ?_) ?_ ?_
      rotate_left
      ·
       show Act.put _ (some 51) _ = _
       simp only [Act.put, zs, zs0, zs1, i64_w, i32_w]
       rfl
      refine one_ (i := 9) (N := some 52) (zl 16 9215) rfl rfl (one_of HT_.out (by kernel_rfl)) (by decide) (fun K hK => ?_)
      refine goes_ Try.func9 (by kernel_rfl) rfl #[.agg #[.int .i64 t335, .int .i64 t336, .slice Ao32 t337.length co32], .int .i64 a1, .int .i64 (wrap64 ((wrap64 ((l3.length : Int) - 1)) - a2)), .slice Ao44 t351.length co44] (by rfl) rfl rfl (zm) ?_
      with_reducible refine (block_Cross.calls kj4 t335 t336 _ _ t337 a1 (wrap64 ((wrap64 ((l3.length : Int) - 1)) - a2)) _ _ t351 t354 t355 t356 t357 t358 t361 _ ?side1 ?side2 ?side3 ?side4 A25.out).mono ?_
      (case side1 => exact zC ((Kd.S_reads' HO339.out).2.2))
      (case side2 => exact (Kd.S_reads' HO339.out).2.1)
      (case side3 => exact zC ((Kd.R_reads' HO353.out).2.2))
      (case side4 => exact (Kd.R_reads' HO353.out).2.1)
      rintro e w45 ⟨v359, rfl, ho0, hb⟩
      refine ⟨_, rfl, ?_⟩
      have n0_ := Aside0.mk (zSb HO339 hb)
      have n1_ := Aside0.mk (Kd.R_elder' (zR HO348) (Kd.R_base ho0) hb)
      have n2_ := Aside0.mk (Kd.R_elder' (zR HO353) (Kd.R_base ho0) hb)
      have n3_ := Aside0.mk (Kd.R_lower (Kd.R_new' (Kd.R_new' ho0 (Kd.R_lt (zR HO348))) (Kd.R_lt (zR HO353))) (below_size (zB HB)))
      have n4_ := Aside0.mk (zb BK331 hb)
      have n5_ := Aside0.mk (zb BK341 hb)
      have n6_ := Aside0.mk (zb BK350 hb)
      have n7_ := Aside0.mk (zb BK362 hb)
      have n8_ := Aside0.mk (below_step (zB HB) hb)
      clear HO339
      clear HO348
      clear HO353
      clear BK331
      clear BK341
      clear BK350
      clear BK362
      clear HB
      have HO339 := n0_
      have HO348 := n1_
      have HO353 := n2_
      have HO360 := n3_
      have BK331 := n4_
      have BK341 := n5_
      have BK350 := n6_
      have BK362 := n7_
      have HB := n8_
      clear n0_ n1_ n2_ n3_ n4_ n5_ n6_ n7_ n8_
      (try clear hb)
      (try clear hb2)
      (try clear hk)
      (try clear hi)
      (try clear ho0)
      refine hK.out _ _ ⟨(blk_cell BK341.out 0).trans rfl, (blk_cell BK341.out 1).trans rfl, (blk_cell BK341.out 2).trans rfl⟩ (fun hHeld => ?_)
      clear hK K
      refine norm_ (a' := ?_) ?_ ?_
      rotate_left
      ·
       show Act.put _ (some 52) _ = _
       simp only [Act.put, zs, zs0, zs1, i64_w, i32_w]
       rfl
      refine pure_ (i := 10) (N := some 42) (v := ?_) (a' := ?_) (zl 16 10239) rfl rfl (any_of HT_.out (by kernel_rfl)) (fun _ _ _ h => h) (Or.inl ⟨by rfl, ?_⟩) ?_ ?_
      rotate_left
      ·
       intro w'
       go_simp
       with_reducible rfl
      rotate_left
      ·
       simp only [Act.put, zs, zs0, zs1, i64_w, i32_w]
       rfl
      refine pure_ (i := 11) (N := some 53) (v := ?_) (a' := ?_) (zl 16 12287) rfl rfl (any_of HT_.out (by kernel_rfl)) (fun _ _ _ h => h) (Or.inl ⟨by rfl, ?_⟩) ?_ ?_
      rotate_left
      ·
       intro w'
       go_simp
       with_reducible rfl
      rotate_left
      ·
       simp only [Act.put, zs, zs0, zs1, i64_w, i32_w]
       rfl
      refine pure_ (i := 12) (N := some 54) (v := ?_) (a' := ?_) (zl 16 16383) rfl rfl (any_of HT_.out (by kernel_rfl)) (fun _ _ _ h => h) (Or.inl ⟨by rfl, ?_⟩) ?_ ?_
      rotate_left
      ·
       intro w'
       go_simp
       with_reducible rfl
      rotate_left
      ·
       simp only [Act.put, zs, zs0, zs1, i64_w, i32_w]
       rfl
      exact norm_ (by simp only [putAll, Act.put, zs, zs0, zs1]) (hCont (.slice Ao44 t351.length co44, v359, gb362) _ ⟨hHeld, (zS HO339), (by (with_reducible repeat (first | apply Kd.R_alloc | apply Kd.R_drewN | apply Kd.R_drew)); exact Kd.R_mono HO348.out (fun _ hk => ⟨hk.1.2, hk.2⟩)), (by (with_reducible repeat (first | apply Kd.R_alloc | apply Kd.R_drewN | apply Kd.R_drew)); exact Kd.R_mono HO353.out (fun _ hk => ⟨hk.1.2, hk.2⟩)), (by (with_reducible repeat (first | apply Kd.R_alloc | apply Kd.R_drewN | apply Kd.R_drew)); exact Kd.R_mono HO360.out (fun _ hk => ⟨hk.1.2, hk.2⟩)), (zk BK331), (zk BK341), (zk BK350), (zk BK362), GW362.out, GE362.out, NB331_362.out, NB362_331.out, NB341_362.out, NB362_341.out, NB350_362.out, NB362_350.out, (zB HB)⟩)
    rintro ⟨v352, v359, gb362⟩ w46 ⟨hS_, h0_, h1_, h2_, h3_, h4_, h5_, h6_, h7_, h8_, h9_, h10_, h11_, h12_, h13_, h14_, h15_, h16_⟩
    have n0_ : Aside0 (Kd.S (Kd.slice 57 k57) 54 w46 w.heap.size (fun _ => True) (.slice Ao32 t337.length co32) t337) := ⟨h0_⟩
    have n1_ : Aside0 (Kd.R (Kd.int .i64) 3 w46 w.heap.size (fun k_ => some k_ ≠ (v352 : Value).ownBlock ∧ some k_ ≠ (v359 : Value).ownBlock) (.slice Ao39 t346.length co39) t346) := ⟨h1_⟩
    have n2_ : Aside0 (Kd.R (Kd.int .i64) 3 w46 w.heap.size (fun k_ => some k_ ≠ (.slice Ao39 t346.length co39 : Value).ownBlock ∧ some k_ ≠ (v359 : Value).ownBlock) v352 t351) := ⟨h2_⟩
    have n3_ : Aside0 (Kd.R (Kd.int .i64) 3 w46 w.heap.size (fun k_ => some k_ ≠ (.slice Ao39 t346.length co39 : Value).ownBlock ∧ some k_ ≠ (v352 : Value).ownBlock) v359 t358) := ⟨h3_⟩
    have n4_ : Aside0 (w46.heap[gb331]? = some (.cells #[.int .i64 a0_0, .int .i64 a0_1, .slice A0_2 l0_2.length c0_2] 24 (0, 0))) := ⟨h4_⟩
    have n5_ : Aside0 (w46.heap[gb341]? = some (.cells #[.int .i64 t335, .int .i64 t336, .slice Ao32 t337.length co32] 24 (0, 0))) := ⟨h5_⟩
    have n6_ : Aside0 (w46.heap[gb350]? = some (.cells #[.int .i64 t342, .int .i64 t343, .int .i64 t344, .int .i64 t345, .slice Ao39 t346.length co39] 29 (0, 0))) := ⟨h6_⟩
    have n7_ : Aside0 (w46.heap[gb362]? = some (.cells #[.int .i64 0, .int .i64 0, .int .i64 0, .int .i64 0, .slice none 0 0] 29 (0, 0))) := ⟨h7_⟩
    have n8_ : Aside0 (w.heap.size ≤ gb362) := ⟨h8_⟩
    have n9_ : Aside0 (w.heap.size ≤ gb362) := ⟨h9_⟩
    have n10_ : Aside0 (gb331 ≠ gb362) := ⟨h10_⟩
    have n11_ : Aside0 (gb362 ≠ gb331) := ⟨h11_⟩
    have n12_ : Aside0 (gb341 ≠ gb362) := ⟨h12_⟩
    have n13_ : Aside0 (gb362 ≠ gb341) := ⟨h13_⟩
    have n14_ : Aside0 (gb350 ≠ gb362) := ⟨h14_⟩
    have n15_ : Aside0 (gb362 ≠ gb350) := ⟨h15_⟩
    have n16_ : Aside0 (Below w.heap.size w w46) := ⟨h16_⟩
    clear HO339
    clear HO348
    clear BK331
    clear BK341
    clear BK350
    clear HB
    clear h0_ h1_ h2_ h3_ h4_ h5_ h6_ h7_ h8_ h9_ h10_ h11_ h12_ h13_ h14_ h15_ h16_
    have HO339 := n0_
    have HO348 := n1_
    have HO353 := n2_
    have HO360 := n3_
    have BK331 := n4_
    have BK341 := n5_
    have BK350 := n6_
    have BK362 := n7_
    have GW362 := n8_
    have GE362 := n9_
    have NB331_362 := n10_
    have NB362_331 := n11_
    have NB341_362 := n12_
    have NB362_341 := n13_
    have NB350_362 := n14_
    have NB362_350 := n15_
    have HB := n16_
    clear n0_ n1_ n2_ n3_ n4_ n5_ n6_ n7_ n8_ n9_ n10_ n11_ n12_ n13_ n14_ n15_ n16_
    have hHeld : w46.cell? ⟨gb341, 0, none⟩ = some (.int .i64 t335) ∧ w46.cell? ⟨gb341, 1, none⟩ = some (.int .i64 t336) ∧ w46.cell? ⟨gb341, 2, none⟩ = some (.slice Ao32 t337.length co32) := hS_
    obtain ⟨Ao51, co51, eo51⟩ := Kd.R_slice HO360.out
    (first | subst eo51 | (injection eo51 with f1_ f2_ f3_; have f4_ := f1_.symm; have f5_ := f3_.symm; clear f1_ f2_ f3_; subst f4_; subst f5_))
    refine norm_ (a' := ?_) ?_ ?_
    rotate_left
    ·
     simp only [putAll, Act.put, zs, zs0, zs1]
     rfl
    refine one_ (i := 14) (N := none) (zl 16 32767) rfl rfl (one_of HT_.out (by kernel_rfl)) (by decide) (fun K hK => ?_)
    have hs47 : w46.cell? ⟨gb362, 0, none⟩ = some (.int .i64 0) := (blk_cell BK362.out 0).trans rfl
    have hfs47 := blk_frozen BK362.out 0
    have hns47_0 := NB331_362.out
    have hns47_1 := NB341_362.out
    have hns47_2 := NB350_362.out
    have hms47_0 := NB362_331.out
    have hms47_1 := NB362_341.out
    have hms47_2 := NB362_350.out
    have hs48 : w46.cell? ⟨gb362, 1, none⟩ = some (.int .i64 0) := (blk_cell BK362.out 1).trans rfl
    have hfs48 := blk_frozen BK362.out 1
    have hns48_0 := NB331_362.out
    have hns48_1 := NB341_362.out
    have hns48_2 := NB350_362.out
    have hms48_0 := NB362_331.out
    have hms48_1 := NB362_341.out
    have hms48_2 := NB362_350.out
    have hs49 : w46.cell? ⟨gb362, 2, none⟩ = some (.int .i64 0) := (blk_cell BK362.out 2).trans rfl
    have hfs49 := blk_frozen BK362.out 2
    have hns49_0 := NB331_362.out
    have hns49_1 := NB341_362.out
    have hns49_2 := NB350_362.out
    have hms49_0 := NB362_331.out
    have hms49_1 := NB362_341.out
    have hms49_2 := NB362_350.out
    have hs50 : w46.cell? ⟨gb362, 3, none⟩ = some (.int .i64 0) := (blk_cell BK362.out 3).trans rfl
    have hfs50 := blk_frozen BK362.out 3
    have hns50_0 := NB331_362.out
    have hns50_1 := NB341_362.out
    have hns50_2 := NB350_362.out
    have hms50_0 := NB362_331.out
    have hms50_1 := NB362_341.out
    have hms50_2 := NB362_350.out
    have hs52 : w46.cell? ⟨gb362, 4, none⟩ = some (.slice none 0 0) := (blk_cell BK362.out 4).trans rfl
    have hfs52 := blk_frozen BK362.out 4
    have hns52_0 := NB331_362.out
    have hns52_1 := NB341_362.out
    have hns52_2 := NB350_362.out
    have hms52_0 := NB362_331.out
    have hms52_1 := NB362_341.out
    have hms52_2 := NB362_350.out
    refine skip_ (w1 := ?_) (by rfl) rfl ?_ ?_
    rotate_left
    ·
     go_simp
     rfl
    refine hK.out _ _ ⟨((cell_far (p := ⟨gb362, _, none⟩) NB341_362.out _).trans (((cell_far (p := ⟨gb362, _, none⟩) NB341_362.out _).trans (((cell_far (p := ⟨gb362, _, none⟩) NB341_362.out _).trans (((cell_far (p := ⟨gb362, _, none⟩) NB341_362.out _).trans (((cell_far (p := ⟨gb362, _, none⟩) NB341_362.out _).trans (hHeld.1)))))))))), ((cell_far (p := ⟨gb362, _, none⟩) NB341_362.out _).trans (((cell_far (p := ⟨gb362, _, none⟩) NB341_362.out _).trans (((cell_far (p := ⟨gb362, _, none⟩) NB341_362.out _).trans (((cell_far (p := ⟨gb362, _, none⟩) NB341_362.out _).trans (((cell_far (p := ⟨gb362, _, none⟩) NB341_362.out _).trans (hHeld.2.1)))))))))), ((cell_far (p := ⟨gb362, _, none⟩) NB341_362.out _).trans (((cell_far (p := ⟨gb362, _, none⟩) NB341_362.out _).trans (((cell_far (p := ⟨gb362, _, none⟩) NB341_362.out _).trans (((cell_far (p := ⟨gb362, _, none⟩) NB341_362.out _).trans (((cell_far (p := ⟨gb362, _, none⟩) NB341_362.out _).trans (hHeld.2.2))))))))))⟩ (fun hHeld => ?_)
    clear hK K
    refine pure_ (i := 15) (N := some 14) (v := ?_) (a' := ?_) (zl 16 65535) rfl rfl (any_of HT_.out (by kernel_rfl)) (fun _ _ _ h => h) (Or.inl ⟨by rfl, ?_⟩) ?_ ?_
    rotate_left
    ·
     intro w'
     go_simp
     with_reducible rfl
    rotate_left
    ·
     simp only [Act.put, zs, zs0, zs1, i64_w, i32_w]
     rfl
    refine done_ (done_of HT_.out (by kernel_rfl)) ?_
    go_upto_region 6 with (fail)
    go_cut [61] (fun v61 wc => ∃ (kq : Nat) (x61_25 : Bool), v61 = .bool x61_25 ∧ Aside0 (standstilllaw05_BlockMirror.j1 kq l3 t349 x61_25 t342 t343 t344 t345 t346 t354 t355 t356 t357 t358 = some r) ∧ Aside0 (kq ≤ kj4) ∧ Aside0 (Kd.S (Kd.slice 57 k57) 54 wc w.heap.size (fun _ => True) (.slice Ao32 t337.length co32) t337) ∧ Aside0 (Kd.R (Kd.int .i64) 3 wc w.heap.size (fun k_ => some k_ ≠ ((.slice Ao51 t358.length co51) : Value).ownBlock) (.slice Ao39 t346.length co39) t346) ∧ Aside0 (Kd.R (Kd.int .i64) 3 wc w.heap.size (fun k_ => some k_ ≠ ((.slice Ao39 t346.length co39) : Value).ownBlock) (.slice Ao51 t358.length co51) t358) ∧ Aside0 (wc.heap[gb331]? = some (.cells #[.int .i64 a0_0, .int .i64 a0_1, (.slice A0_2 l0_2.length c0_2)] 24 (0, 0))) ∧ Aside0 (wc.heap[gb341]? = some (.cells #[.int .i64 t335, .int .i64 t336, (.slice Ao32 t337.length co32)] 24 (0, 0))) ∧ Aside0 (wc.heap[gb350]? = some (.cells #[.int .i64 t342, .int .i64 t343, .int .i64 t344, .int .i64 t345, (.slice Ao39 t346.length co39)] 29 (0, 0))) ∧ Aside0 (wc.heap[gb362]? = some (.cells #[.int .i64 t354, .int .i64 t355, .int .i64 t356, .int .i64 t357, (.slice Ao51 t358.length co51)] 29 (0, 0))) ∧ Aside0 (Below w.heap.size w wc))
    case first =>
     have H := HC26.out
     clear HC26
     by_cases c53 : t340 = 0
     ·
      rw [if_pos c53] at H
      have c53b0 : (t340 == 0) = true := beq_iff_eq.mpr c53
      have c53b1 : (t340 != 0) = false := bne_eq_false_iff_eq.mpr c53
      clear c53
      (first | rw [c53b0] | (simp only [i64_w, i32_w]; rw [c53b0]) | skip)
      (try rw [c53b1])
      have H' := Aside0.mk H
      clear H
      go_wp2
      go_meet
      case rel => exact ⟨_, ((t349 != t361)), (by first | rfl | (simp; done) | (simp [*]; done)), H', ⟨by have := HJ4.out; first | omega | exact Nat.le_refl _⟩, ⟨by (with_reducible repeat (first | apply Kd.S_alloc | apply Kd.S_drewN | apply Kd.S_drew)); exact Kd.S_mono (zSf5 (g := gb362) (Kd.S_types HO339.out BK362.out (by decide))) (fun _ hk => trivial)⟩, ⟨by (with_reducible repeat (first | apply Kd.R_alloc | apply Kd.R_drewN | apply Kd.R_drew)); exact Kd.R_mono (zRf5 (g := gb362) (Kd.R_types HO348.out BK362.out (by decide))) (fun _ hk => hk.1.2)⟩, ⟨by (with_reducible repeat (first | apply Kd.R_alloc | apply Kd.R_drewN | apply Kd.R_drew)); exact Kd.R_mono (zRf5 (g := gb362) (Kd.R_types HO360.out BK362.out (by decide))) (fun _ hk => hk.1.1)⟩, ⟨zK BK331⟩, ⟨zK BK341⟩, ⟨zK BK350⟩, ⟨by (with_reducible repeat (first | refine blk_drewN ?_ _ | refine blk_drew ?_ | refine blk_alloc ?_ _)); refine blk_put (cs := #[.int .i64 t354, .int .i64 t355, .int .i64 t356, .int .i64 t357, .slice none 0 0]) ?_ 4 _ rfl; (with_reducible repeat (first | refine blk_drewN ?_ _ | refine blk_drew ?_ | refine blk_alloc ?_ _)); refine blk_put (cs := #[.int .i64 t354, .int .i64 t355, .int .i64 t356, .int .i64 0, .slice none 0 0]) ?_ 3 _ rfl; (with_reducible repeat (first | refine blk_drewN ?_ _ | refine blk_drew ?_ | refine blk_alloc ?_ _)); refine blk_put (cs := #[.int .i64 t354, .int .i64 t355, .int .i64 0, .int .i64 0, .slice none 0 0]) ?_ 2 _ rfl; (with_reducible repeat (first | refine blk_drewN ?_ _ | refine blk_drew ?_ | refine blk_alloc ?_ _)); refine blk_put (cs := #[.int .i64 t354, .int .i64 0, .int .i64 0, .int .i64 0, .slice none 0 0]) ?_ 1 _ rfl; (with_reducible repeat (first | refine blk_drewN ?_ _ | refine blk_drew ?_ | refine blk_alloc ?_ _)); refine blk_put (cs := #[.int .i64 0, .int .i64 0, .int .i64 0, .int .i64 0, .slice none 0 0]) ?_ 0 _ rfl; (with_reducible repeat (first | refine blk_drewN ?_ _ | refine blk_drew ?_ | refine blk_alloc ?_ _)); exact BK362.out⟩, ⟨zB HB⟩⟩
     ·
      rw [if_neg c53] at H
      have c53b0 : (t340 == 0) = false := beq_eq_false_iff_ne.mpr c53
      have c53b1 : (t340 != 0) = true := bne_iff_ne.mpr c53
      (first | rw [c53b0] | (simp only [i64_w, i32_w]; rw [c53b0]) | skip)
      (try rw [c53b1])
      have H' := Aside0.mk H
      clear H
      go_wp2
      go_meet
      case rel => exact ⟨_, (true), (by first | rfl | (simp; done) | (simp [*]; done)), H', ⟨by have := HJ4.out; first | omega | exact Nat.le_refl _⟩, ⟨by (with_reducible repeat (first | apply Kd.S_alloc | apply Kd.S_drewN | apply Kd.S_drew)); exact Kd.S_mono (zSf5 (g := gb362) (Kd.S_types HO339.out BK362.out (by decide))) (fun _ hk => trivial)⟩, ⟨by (with_reducible repeat (first | apply Kd.R_alloc | apply Kd.R_drewN | apply Kd.R_drew)); exact Kd.R_mono (zRf5 (g := gb362) (Kd.R_types HO348.out BK362.out (by decide))) (fun _ hk => hk.1.2)⟩, ⟨by (with_reducible repeat (first | apply Kd.R_alloc | apply Kd.R_drewN | apply Kd.R_drew)); exact Kd.R_mono (zRf5 (g := gb362) (Kd.R_types HO360.out BK362.out (by decide))) (fun _ hk => hk.1.1)⟩, ⟨zK BK331⟩, ⟨zK BK341⟩, ⟨zK BK350⟩, ⟨by (with_reducible repeat (first | refine blk_drewN ?_ _ | refine blk_drew ?_ | refine blk_alloc ?_ _)); refine blk_put (cs := #[.int .i64 t354, .int .i64 t355, .int .i64 t356, .int .i64 t357, .slice none 0 0]) ?_ 4 _ rfl; (with_reducible repeat (first | refine blk_drewN ?_ _ | refine blk_drew ?_ | refine blk_alloc ?_ _)); refine blk_put (cs := #[.int .i64 t354, .int .i64 t355, .int .i64 t356, .int .i64 0, .slice none 0 0]) ?_ 3 _ rfl; (with_reducible repeat (first | refine blk_drewN ?_ _ | refine blk_drew ?_ | refine blk_alloc ?_ _)); refine blk_put (cs := #[.int .i64 t354, .int .i64 t355, .int .i64 0, .int .i64 0, .slice none 0 0]) ?_ 2 _ rfl; (with_reducible repeat (first | refine blk_drewN ?_ _ | refine blk_drew ?_ | refine blk_alloc ?_ _)); refine blk_put (cs := #[.int .i64 t354, .int .i64 0, .int .i64 0, .int .i64 0, .slice none 0 0]) ?_ 1 _ rfl; (with_reducible repeat (first | refine blk_drewN ?_ _ | refine blk_drew ?_ | refine blk_alloc ?_ _)); refine blk_put (cs := #[.int .i64 0, .int .i64 0, .int .i64 0, .int .i64 0, .slice none 0 0]) ?_ 0 _ rfl; (with_reducible repeat (first | refine blk_drewN ?_ _ | refine blk_drew ?_ | refine blk_alloc ?_ _)); exact BK362.out⟩, ⟨zB HB⟩⟩
    case rest =>
     clear HC26
     try clear c1
     try clear p2
     try clear c3
     try clear c5
     try clear p6
     try clear c9
     try clear c16
     try clear c53
     try clear c53b0
     try clear c53b1
     obtain ⟨kq, x61_25, rfl, HA, HJ25, HO_342002, HO_351004, HO_363004, BK331, BK341, BK350, BK362, HB⟩ := hcut
     cases kq with
     | zero => exact absurd HA.out (by simp [standstilllaw05_BlockMirror.j1])
     | succ kj25 =>
      have H := HA.out
      clear HA
      simp only [standstilllaw05_BlockMirror.j1] at H
      by_cases c54 : x61_25 = true
      ·
       subst c54
       have H1 : (some false) = some r := by rw [if_pos rfl] at H; exact H
       clear H
       have H := H1
       clear H1
       obtain rfl := Option.some.inj H
       go_wp2
       go_ret
       exact ⟨by first | rfl | (simp [errW_none, errW_some] <;> rfl) | (simp [*, errW_none, errW_some] <;> rfl), zB HB⟩
      ·
       replace c54 := Bool.eq_false_iff.mpr c54
       subst c54
       have H1 : (if t349 = 0 then (standstilllaw05_BlockMirror.j2 kj25 l3 t349 (t342 == 3) t342 t343 t344 t345 t346 t354 t355 t356 t357 t358) else (standstilllaw05_BlockMirror.j2 kj25 l3 t349 true t342 t343 t344 t345 t346 t354 t355 t356 t357 t358)) = some r := by rw [if_neg (show ¬ (false = true) by decide)] at H; exact H
       clear H
       have H := H1
       clear H1
       have HC55 := Aside0.mk H
       clear H
       go_upto_region 8 with (fail)
       go_cut [68] (fun v68 wc => ∃ (kq : Nat) (x68_54 : Bool), v68 = .bool x68_54 ∧ Aside0 (standstilllaw05_BlockMirror.j2 kq l3 t349 x68_54 t342 t343 t344 t345 t346 t354 t355 t356 t357 t358 = some r) ∧ Aside0 (kq ≤ kj25) ∧ Aside0 (Kd.S (Kd.slice 57 k57) 54 wc w.heap.size (fun _ => True) (.slice Ao32 t337.length co32) t337) ∧ Aside0 (Kd.R (Kd.int .i64) 3 wc w.heap.size (fun k_ => some k_ ≠ ((.slice Ao51 t358.length co51) : Value).ownBlock) (.slice Ao39 t346.length co39) t346) ∧ Aside0 (Kd.R (Kd.int .i64) 3 wc w.heap.size (fun k_ => some k_ ≠ ((.slice Ao39 t346.length co39) : Value).ownBlock) (.slice Ao51 t358.length co51) t358) ∧ Aside0 (wc.heap[gb331]? = some (.cells #[.int .i64 a0_0, .int .i64 a0_1, (.slice A0_2 l0_2.length c0_2)] 24 (0, 0))) ∧ Aside0 (wc.heap[gb341]? = some (.cells #[.int .i64 t335, .int .i64 t336, (.slice Ao32 t337.length co32)] 24 (0, 0))) ∧ Aside0 (wc.heap[gb350]? = some (.cells #[.int .i64 t342, .int .i64 t343, .int .i64 t344, .int .i64 t345, (.slice Ao39 t346.length co39)] 29 (0, 0))) ∧ Aside0 (wc.heap[gb362]? = some (.cells #[.int .i64 t354, .int .i64 t355, .int .i64 t356, .int .i64 t357, (.slice Ao51 t358.length co51)] 29 (0, 0))) ∧ Aside0 (Below w.heap.size w wc))
       case first =>
        have H := HC55.out
        clear HC55
        by_cases c56 : t349 = 0
        ·
         rw [if_pos c56] at H
         have c56b0 : (t349 == 0) = true := beq_iff_eq.mpr c56
         have c56b1 : (t349 != 0) = false := bne_eq_false_iff_eq.mpr c56
         clear c56
         (first | rw [c56b0] | (simp only [i64_w, i32_w]; rw [c56b0]) | skip)
         (try rw [c56b1])
         have H' := Aside0.mk H
         clear H
         have hnb57 := NB350_331.out
         have hnc57 := NB331_350.out
         have hnb58 := NB350_341.out
         have hnc58 := NB341_350.out
         have hnb59 := NB350_362.out
         have hnc59 := NB362_350.out
         have hcz60_0 : wc.cell? ⟨gb350, 0, none⟩ = some (.int .i64 t342) := (blk_cell BK350.out 0).trans rfl
         have hcz60_1 : wc.cell? ⟨gb350, 1, none⟩ = some (.int .i64 t343) := (blk_cell BK350.out 1).trans rfl
         have hcz60_2 : wc.cell? ⟨gb350, 2, none⟩ = some (.int .i64 t344) := (blk_cell BK350.out 2).trans rfl
         have hcz60_3 : wc.cell? ⟨gb350, 3, none⟩ = some (.int .i64 t345) := (blk_cell BK350.out 3).trans rfl
         have hcz60_4 : wc.cell? ⟨gb350, 4, none⟩ = some (.slice Ao39 t346.length co39) := (blk_cell BK350.out 4).trans rfl
         have hfz60_0 := blk_frozen BK350.out 0
         have hfz60_1 := blk_frozen BK350.out 1
         have hfz60_2 := blk_frozen BK350.out 2
         have hfz60_3 := blk_frozen BK350.out 3
         have hfz60_4 := blk_frozen BK350.out 4
         go_wp2
         go_meet
         case rel => exact ⟨_, ((t342 == 3)), (by first | rfl | (simp; done) | (simp [*]; done)), H', ⟨by have := HJ4.out; have := HJ25.out; first | omega | exact Nat.le_refl _⟩, ⟨zS HO_342002⟩, ⟨zR HO_351004⟩, ⟨zR HO_363004⟩, ⟨zk BK331⟩, ⟨zk BK341⟩, ⟨zk BK350⟩, ⟨zk BK362⟩, ⟨zB HB⟩⟩
        ·
         rw [if_neg c56] at H
         have c56b0 : (t349 == 0) = false := beq_eq_false_iff_ne.mpr c56
         have c56b1 : (t349 != 0) = true := bne_iff_ne.mpr c56
         (first | rw [c56b0] | (simp only [i64_w, i32_w]; rw [c56b0]) | skip)
         (try rw [c56b1])
         have H' := Aside0.mk H
         clear H
         go_wp2
         go_meet
         case rel => exact ⟨_, (true), (by first | rfl | (simp; done) | (simp [*]; done)), H', ⟨by have := HJ4.out; have := HJ25.out; first | omega | exact Nat.le_refl _⟩, ⟨zS HO_342002⟩, ⟨zR HO_351004⟩, ⟨zR HO_363004⟩, ⟨zk BK331⟩, ⟨zk BK341⟩, ⟨zk BK350⟩, ⟨zk BK362⟩, ⟨zB HB⟩⟩
       case rest =>
        clear HC55
        try clear c1
        try clear p2
        try clear c3
        try clear c5
        try clear p6
        try clear c9
        try clear c16
        try clear c53
        try clear c53b0
        try clear c53b1
        try clear c54
        try clear c56
        try clear c56b0
        try clear c56b1
        try clear c57
        try clear c58
        try clear c59
        try clear hcz60_0
        try clear hcz60_1
        try clear hcz60_2
        try clear hcz60_3
        try clear hcz60_4
        try clear hfz60_0
        try clear hfz60_1
        try clear hfz60_2
        try clear hfz60_3
        try clear hfz60_4
        try clear p2
        try clear p6
        obtain ⟨kq, x68_54, rfl, HA, HJ54, HO_342002, HO_351004, HO_363004, BK331, BK341, BK350, BK362, HB⟩ := hcut
        cases kq with
        | zero => exact absurd HA.out (by simp [standstilllaw05_BlockMirror.j2])
        | succ kj54 =>
         have H := HA.out
         clear HA
         simp only [standstilllaw05_BlockMirror.j2] at H
         by_cases c61 : x68_54 = true
         ·
          subst c61
          have H1 : (if t349 = 2 then ((standstilllaw05_awake.f kj54).bind fun t363 => (some t363)) else (if t349 = 0 then (if t354 = 3 then ((standstilllaw05_awake.f kj54).bind fun t364 => (some t364)) else (some false)) else (some false))) = some r := by rw [if_pos rfl] at H; exact H
          clear H
          have H := H1
          clear H1
          by_cases c62 : t349 = 2
          ·
           rw [if_pos c62] at H
           have c62b0 : (t349 == 2) = true := beq_iff_eq.mpr c62
           have c62b1 : (t349 != 2) = false := bne_eq_false_iff_eq.mpr c62
           clear c62
           replace H := Option.bind_eq_some_iff.mp H
           obtain ⟨t363, A630, H⟩ := H
           replace H : (some t363) = some r := H
           have A63 := Aside0.mk A630
           clear A630
           obtain rfl := Option.some.inj H
           go_wp2_with (first | (go_at_call 8; (with_reducible refine (standstilllaw05_awake.calls kj54  t363 _ A63.out).mono ?_); rintro e w64 ⟨rfl, hb⟩; have n0_ := Aside0.mk (zSb HO_342002 hb); have n1_ := Aside0.mk (zRb HO_351004 hb); have n2_ := Aside0.mk (zRb HO_363004 hb); have n3_ := Aside0.mk (zb BK331 hb); have n4_ := Aside0.mk (zb BK341 hb); have n5_ := Aside0.mk (zb BK350 hb); have n6_ := Aside0.mk (zb BK362 hb); have n7_ := Aside0.mk (below_step (zB HB) hb); clear HO_342002; clear HO_351004; clear HO_363004; clear BK331; clear BK341; clear BK350; clear BK362; clear HB; have HO_342002 := n0_; have HO_351004 := n1_; have HO_363004 := n2_; have BK331 := n3_; have BK341 := n4_; have BK350 := n5_; have BK362 := n6_; have HB := n7_; clear n0_ n1_ n2_ n3_ n4_ n5_ n6_ n7_; (try clear hb); (try clear hb2); (try clear hk); (try clear hi)))
           go_ret
           exact ⟨by first | rfl | (simp [errW_none, errW_some] <;> rfl) | (simp [*, errW_none, errW_some] <;> rfl), zB HB⟩
          ·
           rw [if_neg c62] at H
           have c62b0 : (t349 == 2) = false := beq_eq_false_iff_ne.mpr c62
           have c62b1 : (t349 != 2) = true := bne_iff_ne.mpr c62
           by_cases c65 : t349 = 0
           ·
            rw [if_pos c65] at H
            have c65b0 : (t349 == 0) = true := beq_iff_eq.mpr c65
            have c65b1 : (t349 != 0) = false := bne_eq_false_iff_eq.mpr c65
            clear c65
            by_cases c66 : t354 = 3
            ·
             rw [if_pos c66] at H
             have c66b0 : (t354 == 3) = true := beq_iff_eq.mpr c66
             have c66b1 : (t354 != 3) = false := bne_eq_false_iff_eq.mpr c66
             clear c66
             replace H := Option.bind_eq_some_iff.mp H
             obtain ⟨t364, A670, H⟩ := H
             replace H : (some t364) = some r := H
             have A67 := Aside0.mk A670
             clear A670
             obtain rfl := Option.some.inj H
             have hnb68 := NB362_331.out
             have hnc68 := NB331_362.out
             have hnb69 := NB362_341.out
             have hnc69 := NB341_362.out
             have hnb70 := NB362_350.out
             have hnc70 := NB350_362.out
             have hcz71_0 : wc.cell? ⟨gb362, 0, none⟩ = some (.int .i64 t354) := (blk_cell BK362.out 0).trans rfl
             have hcz71_1 : wc.cell? ⟨gb362, 1, none⟩ = some (.int .i64 t355) := (blk_cell BK362.out 1).trans rfl
             have hcz71_2 : wc.cell? ⟨gb362, 2, none⟩ = some (.int .i64 t356) := (blk_cell BK362.out 2).trans rfl
             have hcz71_3 : wc.cell? ⟨gb362, 3, none⟩ = some (.int .i64 t357) := (blk_cell BK362.out 3).trans rfl
             have hcz71_4 : wc.cell? ⟨gb362, 4, none⟩ = some (.slice Ao51 t358.length co51) := (blk_cell BK362.out 4).trans rfl
             have hfz71_0 := blk_frozen BK362.out 0
             have hfz71_1 := blk_frozen BK362.out 1
             have hfz71_2 := blk_frozen BK362.out 2
             have hfz71_3 := blk_frozen BK362.out 3
             have hfz71_4 := blk_frozen BK362.out 4
             go_wp2_with (first | (go_at_call 8; (with_reducible refine (standstilllaw05_awake.calls kj54  t364 _ A67.out).mono ?_); rintro e w72 ⟨rfl, hb⟩; have n0_ := Aside0.mk (zSb HO_342002 hb); have n1_ := Aside0.mk (zRb HO_351004 hb); have n2_ := Aside0.mk (zRb HO_363004 hb); have n3_ := Aside0.mk (zb BK331 hb); have n4_ := Aside0.mk (zb BK341 hb); have n5_ := Aside0.mk (zb BK350 hb); have n6_ := Aside0.mk (zb BK362 hb); have n7_ := Aside0.mk (below_step (zB HB) hb); clear HO_342002; clear HO_351004; clear HO_363004; clear BK331; clear BK341; clear BK350; clear BK362; clear HB; have HO_342002 := n0_; have HO_351004 := n1_; have HO_363004 := n2_; have BK331 := n3_; have BK341 := n4_; have BK350 := n5_; have BK362 := n6_; have HB := n7_; clear n0_ n1_ n2_ n3_ n4_ n5_ n6_ n7_; (try clear hb); (try clear hb2); (try clear hk); (try clear hi)))
             go_ret
             exact ⟨by first | rfl | (simp [errW_none, errW_some] <;> rfl) | (simp [*, errW_none, errW_some] <;> rfl), zB HB⟩
            ·
             rw [if_neg c66] at H
             have c66b0 : (t354 == 3) = false := beq_eq_false_iff_ne.mpr c66
             have c66b1 : (t354 != 3) = true := bne_iff_ne.mpr c66
             obtain rfl := Option.some.inj H
             have hnb73 := NB362_331.out
             have hnc73 := NB331_362.out
             have hnb74 := NB362_341.out
             have hnc74 := NB341_362.out
             have hnb75 := NB362_350.out
             have hnc75 := NB350_362.out
             have hcz76_0 : wc.cell? ⟨gb362, 0, none⟩ = some (.int .i64 t354) := (blk_cell BK362.out 0).trans rfl
             have hcz76_1 : wc.cell? ⟨gb362, 1, none⟩ = some (.int .i64 t355) := (blk_cell BK362.out 1).trans rfl
             have hcz76_2 : wc.cell? ⟨gb362, 2, none⟩ = some (.int .i64 t356) := (blk_cell BK362.out 2).trans rfl
             have hcz76_3 : wc.cell? ⟨gb362, 3, none⟩ = some (.int .i64 t357) := (blk_cell BK362.out 3).trans rfl
             have hcz76_4 : wc.cell? ⟨gb362, 4, none⟩ = some (.slice Ao51 t358.length co51) := (blk_cell BK362.out 4).trans rfl
             have hfz76_0 := blk_frozen BK362.out 0
             have hfz76_1 := blk_frozen BK362.out 1
             have hfz76_2 := blk_frozen BK362.out 2
             have hfz76_3 := blk_frozen BK362.out 3
             have hfz76_4 := blk_frozen BK362.out 4
             go_wp2
             go_ret
             exact ⟨by first | rfl | (simp [errW_none, errW_some] <;> rfl) | (simp [*, errW_none, errW_some] <;> rfl), zB HB⟩
           ·
            rw [if_neg c65] at H
            have c65b0 : (t349 == 0) = false := beq_eq_false_iff_ne.mpr c65
            have c65b1 : (t349 != 0) = true := bne_iff_ne.mpr c65
            obtain rfl := Option.some.inj H
            go_wp2
            go_ret
            exact ⟨by first | rfl | (simp [errW_none, errW_some] <;> rfl) | (simp [*, errW_none, errW_some] <;> rfl), zB HB⟩
         ·
          replace c61 := Bool.eq_false_iff.mpr c61
          subst c61
          have H1 : ((some (([1, 0, 2] : List Int) : List Int)).bind fun y365 => (if t342 < 0 then (standstilllaw05_BlockMirror.j3 kj54 l3 y365 true t342 t343 t344 t345 t346 t354 t355 t356 t357 t358) else (standstilllaw05_BlockMirror.j3 kj54 l3 y365 (decide (t342 > 2)) t342 t343 t344 t345 t346 t354 t355 t356 t357 t358))) = some r := by rw [if_neg (show ¬ (false = true) by decide)] at H; exact H
          clear H
          have H := H1
          clear H1
          obtain ⟨y365, hy365⟩ : ∃ y_ : List Int, y_ = (([1, 0, 2] : List Int)) := ⟨_, rfl⟩
          replace H : (if t342 < 0 then (standstilllaw05_BlockMirror.j3 kj54 l3 y365 true t342 t343 t344 t345 t346 t354 t355 t356 t357 t358) else (standstilllaw05_BlockMirror.j3 kj54 l3 y365 (decide (t342 > 2)) t342 t343 t344 t345 t346 t354 t355 t356 t357 t358)) = some r := by first | (rw [hy365]; with_reducible exact H) | (have H2_ := (Option.bind_some _ _).symm.trans H; rw [hy365]; with_reducible exact H2_) | (have H2_ := (Option.bind_some _ _).symm.trans H; with_reducible exact H2_) | with_reducible exact H | (rw [hy365]; exact H) | exact H
          have Ny365 := Aside0.mk hy365
          clear hy365
          have HC77 := Aside0.mk H
          clear H
          go_upto_region 11 with (first | ((with_reducible refine gate_dst (N := 83) rfl ?_); (try (refine gate_guard (by rfl) ?_; dsimp only)); refine Kd.R_lit (Kd.int .i64) _ 3 ?hg (N := 83) ?hd (xs := ([1, 0, 2] : List Int)) (inner := [.int .i64 1, .int .i64 0, .int .i64 2]) (ok := fun _ => True) (okp := fun _ => True) ?hr ?hp (fun _ hk => hk) trivial (Below.refl _ _) (Nat.le_refl _) (by simp) ?_; (case hd => rfl); (case hg => rfl); (case hr => first | (go_simp; done) | (go_simp; rfl)); (case hp => exact (Reps.one (show Kd.M (Kd.int .i64) _ _ _ 1 [.int .i64 1] from rfl) (Reps.one (show Kd.M (Kd.int .i64) _ _ _ 0 [.int .i64 0] from rfl) (Reps.one (show Kd.M (Kd.int .i64) _ _ _ 2 [.int .i64 2] from rfl) (Reps.none _ _))))); intro v366 w78 ho79 hb hg_ hnew_; clear hg_ hnew_; (first | rw [← Ny365.out] at ho79 | (simp only [Int.reduceToNat] at ho79; rw [← Ny365.out] at ho79)); have n0_ := Aside0.mk (zSb HO_342002 hb); have n1_ := Aside0.mk (Kd.R_elder' (zR HO_351004) (Kd.R_base ho79) hb); have n2_ := Aside0.mk (Kd.R_elder' (zR HO_363004) (Kd.R_base ho79) hb); have n3_ := Aside0.mk (Kd.R_lower (Kd.R_new' (Kd.R_new' ho79 (Kd.R_lt (zR HO_351004))) (Kd.R_lt (zR HO_363004))) (below_size (zB HB))); have n4_ := Aside0.mk (zb BK331 hb); have n5_ := Aside0.mk (zb BK341 hb); have n6_ := Aside0.mk (zb BK350 hb); have n7_ := Aside0.mk (zb BK362 hb); have n8_ := Aside0.mk (below_step (zB HB) hb); clear HO_342002; clear HO_351004; clear HO_363004; clear BK331; clear BK341; clear BK350; clear BK362; clear HB; have HO_342002 := n0_; have HO_351004 := n1_; have HO_363004 := n2_; have HO367 := n3_; have BK331 := n4_; have BK341 := n5_; have BK350 := n6_; have BK362 := n7_; have HB := n8_; clear n0_ n1_ n2_ n3_ n4_ n5_ n6_ n7_ n8_; clear hb ho79))
          (try simp only [Act.put, zs, zs0, zs1])
          go_cut [91] (fun v91 wc => ∃ (kq : Nat) (x91_76 : Bool), v91 = .bool x91_76 ∧ Aside0 (standstilllaw05_BlockMirror.j3 kq l3 y365 x91_76 t342 t343 t344 t345 t346 t354 t355 t356 t357 t358 = some r) ∧ Aside0 (kq ≤ kj54) ∧ Aside0 (Kd.R (Kd.int .i64) 3 wc w.heap.size (fun k_ => some k_ ≠ ((.slice Ao39 t346.length co39) : Value).ownBlock ∧ some k_ ≠ ((.slice Ao51 t358.length co51) : Value).ownBlock) v366 y365) ∧ Aside0 (Kd.S (Kd.slice 57 k57) 54 wc w.heap.size (fun _ => True) (.slice Ao32 t337.length co32) t337) ∧ Aside0 (Kd.R (Kd.int .i64) 3 wc w.heap.size (fun k_ => some k_ ≠ (v366 : Value).ownBlock ∧ some k_ ≠ ((.slice Ao51 t358.length co51) : Value).ownBlock) (.slice Ao39 t346.length co39) t346) ∧ Aside0 (Kd.R (Kd.int .i64) 3 wc w.heap.size (fun k_ => some k_ ≠ (v366 : Value).ownBlock ∧ some k_ ≠ ((.slice Ao39 t346.length co39) : Value).ownBlock) (.slice Ao51 t358.length co51) t358) ∧ Aside0 (wc.heap[gb331]? = some (.cells #[.int .i64 a0_0, .int .i64 a0_1, (.slice A0_2 l0_2.length c0_2)] 24 (0, 0))) ∧ Aside0 (wc.heap[gb341]? = some (.cells #[.int .i64 t335, .int .i64 t336, (.slice Ao32 t337.length co32)] 24 (0, 0))) ∧ Aside0 (wc.heap[gb350]? = some (.cells #[.int .i64 t342, .int .i64 t343, .int .i64 t344, .int .i64 t345, (.slice Ao39 t346.length co39)] 29 (0, 0))) ∧ Aside0 (wc.heap[gb362]? = some (.cells #[.int .i64 t354, .int .i64 t355, .int .i64 t356, .int .i64 t357, (.slice Ao51 t358.length co51)] 29 (0, 0))) ∧ Aside0 (Below w.heap.size w wc))
          case first =>
           have H := HC77.out
           clear HC77
           by_cases c80 : t342 < 0
           ·
            rw [if_pos c80] at H
            have c80b0 : decide (t342 < 0) = true := decide_eq_true c80
            clear c80
            (first | rw [c80b0] | (simp only [i64_w, i32_w]; rw [c80b0]) | skip)
            (try rw [c80b1])
            have H' := Aside0.mk H
            clear H
            have hnb81 := NB350_331.out
            have hnc81 := NB331_350.out
            have hnb82 := NB350_341.out
            have hnc82 := NB341_350.out
            have hnb83 := NB350_362.out
            have hnc83 := NB362_350.out
            have hcz84_0 : w78.cell? ⟨gb350, 0, none⟩ = some (.int .i64 t342) := (blk_cell BK350.out 0).trans rfl
            have hcz84_1 : w78.cell? ⟨gb350, 1, none⟩ = some (.int .i64 t343) := (blk_cell BK350.out 1).trans rfl
            have hcz84_2 : w78.cell? ⟨gb350, 2, none⟩ = some (.int .i64 t344) := (blk_cell BK350.out 2).trans rfl
            have hcz84_3 : w78.cell? ⟨gb350, 3, none⟩ = some (.int .i64 t345) := (blk_cell BK350.out 3).trans rfl
            have hcz84_4 : w78.cell? ⟨gb350, 4, none⟩ = some (.slice Ao39 t346.length co39) := (blk_cell BK350.out 4).trans rfl
            have hfz84_0 := blk_frozen BK350.out 0
            have hfz84_1 := blk_frozen BK350.out 1
            have hfz84_2 := blk_frozen BK350.out 2
            have hfz84_3 := blk_frozen BK350.out 3
            have hfz84_4 := blk_frozen BK350.out 4
            go_wp2
            go_meet
            case rel => exact ⟨_, (true), (by first | rfl | (simp; done) | (simp [*]; done)), H', ⟨by have := HJ4.out; have := HJ25.out; have := HJ54.out; first | omega | exact Nat.le_refl _⟩, ⟨by (with_reducible repeat (first | apply Kd.R_alloc | apply Kd.R_drewN | apply Kd.R_drew)); exact Kd.R_mono HO367.out (fun _ hk => ⟨hk.1.2, hk.2⟩)⟩, ⟨zS HO_342002⟩, ⟨by (with_reducible repeat (first | apply Kd.R_alloc | apply Kd.R_drewN | apply Kd.R_drew)); exact Kd.R_mono HO_351004.out (fun _ hk => ⟨hk.2, hk.1⟩)⟩, ⟨by (with_reducible repeat (first | apply Kd.R_alloc | apply Kd.R_drewN | apply Kd.R_drew)); exact Kd.R_mono HO_363004.out (fun _ hk => ⟨hk.2, hk.1⟩)⟩, ⟨zk BK331⟩, ⟨zk BK341⟩, ⟨zk BK350⟩, ⟨zk BK362⟩, ⟨zB HB⟩⟩
           ·
            rw [if_neg c80] at H
            have c80b0 : decide (t342 < 0) = false := decide_eq_false c80
            clear c80
            (first | rw [c80b0] | (simp only [i64_w, i32_w]; rw [c80b0]) | skip)
            (try rw [c80b1])
            have H' := Aside0.mk H
            clear H
            have hnb85 := NB350_331.out
            have hnc85 := NB331_350.out
            have hnb86 := NB350_341.out
            have hnc86 := NB341_350.out
            have hnb87 := NB350_362.out
            have hnc87 := NB362_350.out
            have hcz88_0 : w78.cell? ⟨gb350, 0, none⟩ = some (.int .i64 t342) := (blk_cell BK350.out 0).trans rfl
            have hcz88_1 : w78.cell? ⟨gb350, 1, none⟩ = some (.int .i64 t343) := (blk_cell BK350.out 1).trans rfl
            have hcz88_2 : w78.cell? ⟨gb350, 2, none⟩ = some (.int .i64 t344) := (blk_cell BK350.out 2).trans rfl
            have hcz88_3 : w78.cell? ⟨gb350, 3, none⟩ = some (.int .i64 t345) := (blk_cell BK350.out 3).trans rfl
            have hcz88_4 : w78.cell? ⟨gb350, 4, none⟩ = some (.slice Ao39 t346.length co39) := (blk_cell BK350.out 4).trans rfl
            have hfz88_0 := blk_frozen BK350.out 0
            have hfz88_1 := blk_frozen BK350.out 1
            have hfz88_2 := blk_frozen BK350.out 2
            have hfz88_3 := blk_frozen BK350.out 3
            have hfz88_4 := blk_frozen BK350.out 4
            go_wp2
            go_meet
            case rel => exact ⟨_, (decide (t342 > 2)), (by first | rfl | (simp; done) | (simp [*]; done)), H', ⟨by have := HJ4.out; have := HJ25.out; have := HJ54.out; first | omega | exact Nat.le_refl _⟩, ⟨by (with_reducible repeat (first | apply Kd.R_alloc | apply Kd.R_drewN | apply Kd.R_drew)); exact Kd.R_mono HO367.out (fun _ hk => ⟨hk.1.2, hk.2⟩)⟩, ⟨zS HO_342002⟩, ⟨by (with_reducible repeat (first | apply Kd.R_alloc | apply Kd.R_drewN | apply Kd.R_drew)); exact Kd.R_mono HO_351004.out (fun _ hk => ⟨hk.2, hk.1⟩)⟩, ⟨by (with_reducible repeat (first | apply Kd.R_alloc | apply Kd.R_drewN | apply Kd.R_drew)); exact Kd.R_mono HO_363004.out (fun _ hk => ⟨hk.2, hk.1⟩)⟩, ⟨zk BK331⟩, ⟨zk BK341⟩, ⟨zk BK350⟩, ⟨zk BK362⟩, ⟨zB HB⟩⟩
          case rest =>
           clear HC77
           try clear c1
           try clear p2
           try clear c3
           try clear c5
           try clear c6
           try clear p6
           try clear c7
           try clear c8
           try clear c9
           try clear c16
           try clear c53
           try clear c53b0
           try clear c53b1
           try clear c54
           try clear c56
           try clear c56b0
           try clear c56b1
           try clear c57
           try clear c58
           try clear c59
           try clear c61
           try clear c62
           try clear c62b0
           try clear c62b1
           try clear p64
           try clear c65
           try clear c65b0
           try clear c65b1
           try clear c66
           try clear c66b0
           try clear c66b1
           try clear c68
           try clear c69
           try clear c70
           try clear c73
           try clear c74
           try clear c75
           try clear c80
           try clear c80b0
           try clear c80b1
           try clear c81
           try clear c82
           try clear c83
           try clear c85
           try clear c86
           try clear c87
           try clear hcz60_0
           try clear hcz60_1
           try clear hcz60_2
           try clear hcz60_3
           try clear hcz60_4
           try clear hcz71_0
           try clear hcz71_1
           try clear hcz71_2
           try clear hcz71_3
           try clear hcz71_4
           try clear hcz76_0
           try clear hcz76_1
           try clear hcz76_2
           try clear hcz76_3
           try clear hcz76_4
           try clear hcz84_0
           try clear hcz84_1
           try clear hcz84_2
           try clear hcz84_3
           try clear hcz84_4
           try clear hcz88_0
           try clear hcz88_1
           try clear hcz88_2
           try clear hcz88_3
           try clear hcz88_4
           try clear hfz60_0
           try clear hfz60_1
           try clear hfz60_2
           try clear hfz60_3
           try clear hfz60_4
           try clear hfz71_0
           try clear hfz71_1
           try clear hfz71_2
           try clear hfz71_3
           try clear hfz71_4
           try clear hfz76_0
           try clear hfz76_1
           try clear hfz76_2
           try clear hfz76_3
           try clear hfz76_4
           try clear hfz84_0
           try clear hfz84_1
           try clear hfz84_2
           try clear hfz84_3
           try clear hfz84_4
           try clear hfz88_0
           try clear hfz88_1
           try clear hfz88_2
           try clear hfz88_3
           try clear hfz88_4
           try clear p2
           try clear p6
           obtain ⟨kq, x91_76, rfl, HA, HJ76, HO_15, HO_342002, HO_351004, HO_363004, BK331, BK341, BK350, BK362, HB⟩ := hcut
           cases kq with
           | zero => exact absurd HA.out (by simp [standstilllaw05_BlockMirror.j3])
           | succ kj76 =>
            have H := HA.out
            clear HA
            simp only [standstilllaw05_BlockMirror.j3] at H
            by_cases c89 : x91_76 = true
            ·
             subst c89
             have H1 : (some false) = some r := by rw [if_pos rfl] at H; exact H
             clear H
             have H := H1
             clear H1
             obtain rfl := Option.some.inj H
             go_wp2
             go_ret
             exact ⟨by first | rfl | (simp [errW_none, errW_some] <;> rfl) | (simp [*, errW_none, errW_some] <;> rfl), zB HB⟩
            ·
             replace c89 := Bool.eq_false_iff.mpr c89
             subst c89
             have H1 : (if 0 ≤ t342 then (if t342 < (y365.length : Int) then (if t354 = (rd y365 t342) then (if t355 = t343 then (if t356 = t344 then (if t357 = (wrap64 ((wrap64 ((l3.length : Int) - 1)) - t345)) then ((standstillref01_Turned.f kj76 t346).bind fun t369 => ((standstillref01_SameInts.f kj76 t358 t369).bind fun t372 => (if t372 = true then ((standstilllaw05_awake.f kj76).bind fun t373 => (some t373)) else (some false)))) else (some false)) else (some false)) else (some false)) else (some false)) else (none)) else (none)) = some r := by rw [if_neg (show ¬ (false = true) by decide)] at H; exact H
             clear H
             have H := H1
             clear H1
             by_cases c90 : 0 ≤ t342
             ·
              rw [if_pos c90] at H
              have c90b0 : decide (0 ≤ t342) = true := decide_eq_true c90
              clear c90
              by_cases c91 : t342 < (y365.length : Int)
              ·
               rw [if_pos c91] at H
               have c91b0 : decide (t342 < (y365.length : Int)) = true := decide_eq_true c91
               clear c91
               by_cases c92 : t354 = (rd y365 t342)
               ·
                rw [if_pos c92] at H
                have c92b0 : (t354 == (rd y365 t342)) = true := beq_iff_eq.mpr c92
                have c92b1 : (t354 != (rd y365 t342)) = false := bne_eq_false_iff_eq.mpr c92
                clear c92
                by_cases c93 : t355 = t343
                ·
                 rw [if_pos c93] at H
                 have c93b0 : (t355 == t343) = true := beq_iff_eq.mpr c93
                 have c93b1 : (t355 != t343) = false := bne_eq_false_iff_eq.mpr c93
                 clear c93
                 by_cases c94 : t356 = t344
                 ·
                  rw [if_pos c94] at H
                  have c94b0 : (t356 == t344) = true := beq_iff_eq.mpr c94
                  have c94b1 : (t356 != t344) = false := bne_eq_false_iff_eq.mpr c94
                  clear c94
                  by_cases c95 : t357 = (wrap64 ((wrap64 ((l3.length : Int) - 1)) - t345))
                  ·
                   rw [if_pos c95] at H
                   have c95b0 : (t357 == (wrap64 ((wrap64 ((l3.length : Int) - 1)) - t345))) = true := beq_iff_eq.mpr c95
                   have c95b1 : (t357 != (wrap64 ((wrap64 ((l3.length : Int) - 1)) - t345))) = false := bne_eq_false_iff_eq.mpr c95
                   clear c95
                   replace H := Option.bind_eq_some_iff.mp H
                   obtain ⟨t369, A960, H⟩ := H
                   replace H : ((standstillref01_SameInts.f kj76 t358 t369).bind fun t372 => (if t372 = true then ((standstilllaw05_awake.f kj76).bind fun t373 => (some t373)) else (some false))) = some r := H
                   have A96 := Aside0.mk A960
                   clear A960
                   replace H := Option.bind_eq_some_iff.mp H
                   obtain ⟨t372, A970, H⟩ := H
                   replace H : (if t372 = true then ((standstilllaw05_awake.f kj76).bind fun t373 => (some t373)) else (some false)) = some r := H
                   have A97 := Aside0.mk A970
                   clear A970
                   by_cases c98 : t372 = true
                   ·
                    subst c98
                    have H1 : ((standstilllaw05_awake.f kj76).bind fun t373 => (some t373)) = some r := by rw [if_pos rfl] at H; exact H
                    clear H
                    have H := H1
                    clear H1
                    replace H := Option.bind_eq_some_iff.mp H
                    obtain ⟨t373, A990, H⟩ := H
                    replace H : (some t373) = some r := H
                    have A99 := Aside0.mk A990
                    clear A990
                    obtain rfl := Option.some.inj H
                    try go_wp2
                    have n0_ := Aside0.mk (Kd.R_drew HO_15.out)
                    have n1_ := Aside0.mk (Kd.S_drew HO_342002.out)
                    have n2_ := Aside0.mk (Kd.R_drew HO_351004.out)
                    have n3_ := Aside0.mk (Kd.R_drew HO_363004.out)
                    have n4_ := Aside0.mk (blk_drew BK331.out)
                    have n5_ := Aside0.mk (blk_drew BK341.out)
                    have n6_ := Aside0.mk (blk_drew BK350.out)
                    have n7_ := Aside0.mk (blk_drew BK362.out)
                    have n8_ := Aside0.mk (below_drew1 HB.out)
                    clear HO_15
                    clear HO_342002
                    clear HO_351004
                    clear HO_363004
                    clear BK331
                    clear BK341
                    clear BK350
                    clear BK362
                    clear HB
                    have HO_15 := n0_
                    have HO_342002 := n1_
                    have HO_351004 := n2_
                    have HO_363004 := n3_
                    have BK331 := n4_
                    have BK341 := n5_
                    have BK350 := n6_
                    have BK362 := n7_
                    have HB := n8_
                    clear n0_ n1_ n2_ n3_ n4_ n5_ n6_ n7_ n8_
                    obtain ⟨Ao101, co101, eo101⟩ := Kd.R_slice HO_15.out
                    (first | subst eo101 | (injection eo101 with f1_ f2_ f3_; have f4_ := f1_.symm; have f5_ := f3_.symm; clear f1_ f2_ f3_; subst f4_; subst f5_))
                    have p368 : 0 ≤ (t342 : Int) := of_decide_eq_true (by first | (with_reducible assumption) | assumption)
                    have q368 : t342 < (y365.length : Int) := of_decide_eq_true (by first | (with_reducible assumption) | assumption)
                    obtain ⟨ad368, e368, hx368_0⟩ := Kd.at_int (Kd.R_reads' HO_15.out).2.2 t342 p368 q368
                    cases e368
                    replace p368 := eq_true p368
                    replace q368 := eq_true q368
                    refine start_ (n := 45) (S := fun w' => w'.cell? ⟨gb362, 0, none⟩ = some (.int .i64 t354) ∧ w'.cell? ⟨gb362, 1, none⟩ = some (.int .i64 t355) ∧ w'.cell? ⟨gb362, 2, none⟩ = some (.int .i64 t356) ∧ w'.cell? ⟨gb362, 3, none⟩ = some (.int .i64 t357) ∧ w'.cell? ⟨gb362, 4, none⟩ = some (.slice Ao51 t358.length co51) ∧ w'.cell? ⟨gb350, 0, none⟩ = some (.int .i64 t342) ∧ w'.cell? ⟨gb350, 1, none⟩ = some (.int .i64 t343) ∧ w'.cell? ⟨gb350, 2, none⟩ = some (.int .i64 t344) ∧ w'.cell? ⟨gb350, 3, none⟩ = some (.int .i64 t345) ∧ w'.cell? ⟨gb350, 4, none⟩ = some (.slice Ao39 t346.length co39) ∧ w'.cell? (ad368.add (t342).toNat) = some (.int .i64 (rd y365 t342))) (ds := []) (zl 45 0) (by kernel_rfl) rfl rfl ⟨(blk_cell BK362.out 0).trans rfl, (blk_cell BK362.out 1).trans rfl, (blk_cell BK362.out 2).trans rfl, (blk_cell BK362.out 3).trans rfl, (blk_cell BK362.out 4).trans rfl, (blk_cell BK350.out 0).trans rfl, (blk_cell BK350.out 1).trans rfl, (blk_cell BK350.out 2).trans rfl, (blk_cell BK350.out 3).trans rfl, (blk_cell BK350.out 4).trans rfl, hx368_0⟩ (fun hHeld => ?_); refine with_tabW standstilllaw05_BlockMirror.tab13 standstilllaw05_BlockMirror.bits13 (fun HT_ HW_ => ?_)
                    generalize wc.drew = w100 at HO_15 HO_342002 HO_351004 HO_363004 BK331 BK341 BK350 BK362 HB hx368_0 hHeld ⊢
                    refine pure_ (i := 0) (N := some 92) (v := ?_) (a' := ?_) (zl 45 1) rfl rfl (any_of HT_.out (by kernel_rfl)) (fun _ _ _ h => h) (Or.inl ⟨by rfl, ?_⟩) ?_ ?_
                    rotate_left
                    ·
                     intro w'
                     go_simp
                     with_reducible rfl
                    rotate_left
                    ·
                     simp only [Act.put, zs, zs0, zs1, i64_w, i32_w]
                     rfl
                    refine pure_ (i := 2) (N := some 94) (v := ?_) (a' := ?_) (zl 45 5) rfl rfl (any_of HT_.out (by kernel_rfl)) (fun _ _ _ h => h) (Or.inl ⟨by rfl, ?_⟩) ?_ ?_
                    rotate_left
                    ·
                     intro w'
                     go_simp
                     with_reducible rfl
                    rotate_left
                    ·
                     simp only [Act.put, zs, zs0, zs1, i64_w, i32_w]
                     rfl
                    refine pure_ (i := 3) (N := some 95) (v := ?_) (a' := ?_) (zl 45 13) rfl rfl (any_of HT_.out (by kernel_rfl)) (fun _ _ _ h => h) (Or.inl ⟨by rfl, ?_⟩) ?_ ?_
                    rotate_left
                    ·
                     intro w'
                     go_simp
                     with_reducible rfl
                    rotate_left
                    ·
                     simp only [Act.put, zs, zs0, zs1, i64_w, i32_w]
                     rfl
                    refine take_ (i := 1) (N := some 93) (v := ?_) (a' := ?_) (zl 45 15) rfl rfl (take_ofW HT_.out HW_.out (by kernel_rfl)) (fun _ _ _ h => h) (Or.inl ⟨by rfl, ?_⟩) hHeld ?_ ?_
                    rotate_left
                    ·
                     rintro w' ⟨s0, s1, s2, s3, s4, s5, s6, s7, s8, s9, s10⟩
                     go_simp
                     with_reducible rfl
                    rotate_left
                    ·
                     simp only [Act.put, zs, zs0, zs1, i64_w, i32_w]
                     rfl
                    refine take_ (i := 4) (N := some 96) (v := ?_) (a' := ?_) (zl 45 31) rfl rfl (take_ofW HT_.out HW_.out (by kernel_rfl)) (fun _ _ _ h => h) (Or.inl ⟨by rfl, ?_⟩) hHeld ?_ ?_
                    rotate_left
                    ·
                     rintro w' ⟨s0, s1, s2, s3, s4, s5, s6, s7, s8, s9, s10⟩
                     go_simp
                     with_reducible rfl
                    rotate_left
                    ·
                     simp only [Act.put, zs, zs0, zs1, i64_w, i32_w]
                     rfl
                    refine pure_ (i := 5) (N := some 97) (v := ?_) (a' := ?_) (zl 45 63) rfl rfl (any_of HT_.out (by kernel_rfl)) (fun _ _ _ h => h) (Or.inl ⟨by rfl, ?_⟩) ?_ ?_
                    rotate_left
                    ·
                     intro w'
                     go_simp
                     with_reducible rfl
                    rotate_left
                    ·
                     simp only [Act.put, zs, zs0, zs1, i64_w, i32_w]
                     rfl
                    refine take_ (i := 6) (N := some 98) (v := ?_) (a' := ?_) (zl 45 127) rfl rfl (take_ofW HT_.out HW_.out (by kernel_rfl)) (fun _ _ _ h => h) (Or.inl ⟨by rfl, ?_⟩) hHeld ?_ ?_
                    rotate_left
                    ·
                     rintro w' ⟨s0, s1, s2, s3, s4, s5, s6, s7, s8, s9, s10⟩
                     go_simp
                     with_reducible rfl
                    rotate_left
                    ·
                     simp only [Act.put, zs, zs0, zs1, i64_w, i32_w]
                     rfl
                    refine pure_ (i := 7) (N := some 99) (v := ?_) (a' := ?_) (zl 45 255) rfl rfl (any_of HT_.out (by kernel_rfl)) (fun _ _ _ h => h) (Or.inl ⟨by rfl, ?_⟩) ?_ ?_
                    rotate_left
                    ·
                     intro w'
                     go_simp
                     with_reducible rfl
                    rotate_left
                    ·
                     simp only [Act.put, zs, zs0, zs1, i64_w, i32_w]
                     rfl
                    refine pure_ (i := 8) (N := some 100) (v := ?_) (a' := ?_) (zl 45 511) rfl rfl (any_of HT_.out (by kernel_rfl)) (fun _ _ _ h => h) (Or.inl ⟨by rfl, ?_⟩) ?_ ?_
                    rotate_left
                    ·
                     intro w'
                     go_simp
                     with_reducible rfl
                    rotate_left
                    ·
                     simp only [Act.put, zs, zs0, zs1, i64_w, i32_w]
                     rfl
                    refine pure_ (i := 9) (N := some 101) (v := ?_) (a' := ?_) (zl 45 1023) rfl rfl (any_of HT_.out (by kernel_rfl)) (fun _ _ _ h => h) (Or.inl ⟨by rfl, ?_⟩) ?_ ?_
                    rotate_left
                    ·
                     intro w'
                     go_simp
                     with_reducible rfl
                    rotate_left
                    ·
                     simp only [Act.put, zs, zs0, zs1, i64_w, i32_w]
                     rfl
                    refine pure_ (i := 11) (N := some 103) (v := ?_) (a' := ?_) (zl 45 3071) rfl rfl (any_of HT_.out (by kernel_rfl)) (fun _ _ _ h => h) (Or.inl ⟨by rfl, ?_⟩) ?_ ?_
                    rotate_left
                    ·
                     intro w'
                     go_simp
                     with_reducible rfl
                    rotate_left
                    ·
                     simp only [Act.put, zs, zs0, zs1, i64_w, i32_w]
                     rfl
                    refine take_ (i := 10) (N := some 102) (v := ?_) (a' := ?_) (zl 45 4095) rfl rfl (take_ofW HT_.out HW_.out (by kernel_rfl)) (fun _ _ _ h => h) (Or.inl ⟨by rfl, ?_⟩) hHeld ?_ ?_
                    rotate_left
                    ·
                     rintro w' ⟨s0, s1, s2, s3, s4, s5, s6, s7, s8, s9, s10⟩
                     go_simp
                     with_reducible rfl
                    rotate_left
                    ·
                     simp only [Act.put, zs, zs0, zs1, i64_w, i32_w]
                     rfl
                    refine take_ (i := 12) (N := some 104) (v := ?_) (a' := ?_) (zl 45 8191) rfl rfl (take_ofW HT_.out HW_.out (by kernel_rfl)) (fun _ _ _ h => h) (Or.inl ⟨by rfl, ?_⟩) hHeld ?_ ?_
                    rotate_left
                    ·
                     rintro w' ⟨s0, s1, s2, s3, s4, s5, s6, s7, s8, s9, s10⟩
                     go_simp
                     with_reducible rfl
                    rotate_left
                    ·
                     simp only [Act.put, zs, zs0, zs1, i64_w, i32_w]
                     rfl
                    refine pure_ (i := 13) (N := some 105) (v := ?_) (a' := ?_) (zl 45 16383) rfl rfl (any_of HT_.out (by kernel_rfl)) (fun _ _ _ h => h) (Or.inl ⟨by rfl, ?_⟩) ?_ ?_
                    rotate_left
                    ·
                     intro w'
                     go_simp
                     with_reducible rfl
                    rotate_left
                    ·
                     simp only [Act.put, zs, zs0, zs1, i64_w, i32_w]
                     rfl
                    refine pure_ (i := 14) (N := some 106) (v := ?_) (a' := ?_) (zl 45 32767) rfl rfl (any_of HT_.out (by kernel_rfl)) (fun _ _ _ h => h) (Or.inl ⟨by rfl, ?_⟩) ?_ ?_
                    rotate_left
                    ·
                     intro w'
                     go_simp
                     with_reducible rfl
                    rotate_left
                    ·
                     simp only [Act.put, zs, zs0, zs1, i64_w, i32_w]
                     rfl
                    refine pure_ (i := 15) (N := some 107) (v := ?_) (a' := ?_) (zl 45 65535) rfl rfl (any_of HT_.out (by kernel_rfl)) (fun _ _ _ h => h) (Or.inl ⟨by rfl, ?_⟩) ?_ ?_
                    rotate_left
                    ·
                     intro w'
                     go_simp
                     with_reducible rfl
                    rotate_left
                    ·
                     simp only [Act.put, zs, zs0, zs1, i64_w, i32_w]
                     rfl
                    refine pure_ (i := 16) (N := some 108) (v := ?_) (a' := ?_) (zl 45 131071) rfl rfl (any_of HT_.out (by kernel_rfl)) (fun _ _ _ h => h) (Or.inl ⟨by rfl, ?_⟩) ?_ ?_
                    rotate_left
                    ·
                     intro w'
                     go_simp
                     with_reducible rfl
                    rotate_left
                    ·
                     simp only [Act.put, zs, zs0, zs1, i64_w, i32_w]
                     rfl
                    refine pure_ (i := 18) (N := some 110) (v := ?_) (a' := ?_) (zl 45 393215) rfl rfl (any_of HT_.out (by kernel_rfl)) (fun _ _ _ h => h) (Or.inl ⟨by rfl, ?_⟩) ?_ ?_
                    rotate_left
                    ·
                     intro w'
                     go_simp
                     with_reducible rfl
                    rotate_left
                    ·
                     simp only [Act.put, zs, zs0, zs1, i64_w, i32_w]
                     rfl
                    refine take_ (i := 17) (N := some 109) (v := ?_) (a' := ?_) (zl 45 524287) rfl rfl (take_ofW HT_.out HW_.out (by kernel_rfl)) (fun _ _ _ h => h) (Or.inl ⟨by rfl, ?_⟩) hHeld ?_ ?_
                    rotate_left
                    ·
                     rintro w' ⟨s0, s1, s2, s3, s4, s5, s6, s7, s8, s9, s10⟩
                     go_simp
                     with_reducible rfl
                    rotate_left
                    ·
                     simp only [Act.put, zs, zs0, zs1, i64_w, i32_w]
                     rfl
                    refine take_ (i := 19) (N := some 111) (v := ?_) (a' := ?_) (zl 45 1048575) rfl rfl (take_ofW HT_.out HW_.out (by kernel_rfl)) (fun _ _ _ h => h) (Or.inl ⟨by rfl, ?_⟩) hHeld ?_ ?_
                    rotate_left
                    ·
                     rintro w' ⟨s0, s1, s2, s3, s4, s5, s6, s7, s8, s9, s10⟩
                     go_simp
                     with_reducible rfl
                    rotate_left
                    ·
                     simp only [Act.put, zs, zs0, zs1, i64_w, i32_w]
                     rfl
                    refine pure_ (i := 20) (N := some 112) (v := ?_) (a' := ?_) (zl 45 2097151) rfl rfl (any_of HT_.out (by kernel_rfl)) (fun _ _ _ h => h) (Or.inl ⟨by rfl, ?_⟩) ?_ ?_
                    rotate_left
                    ·
                     intro w'
                     go_simp
                     with_reducible rfl
                    rotate_left
                    ·
                     simp only [Act.put, zs, zs0, zs1, i64_w, i32_w]
                     rfl
                    refine pure_ (i := 21) (N := some 113) (v := ?_) (a' := ?_) (zl 45 4194303) rfl rfl (any_of HT_.out (by kernel_rfl)) (fun _ _ _ h => h) (Or.inl ⟨by rfl, ?_⟩) ?_ ?_
                    rotate_left
                    ·
                     intro w'
                     go_simp
                     with_reducible rfl
                    rotate_left
                    ·
                     simp only [Act.put, zs, zs0, zs1, i64_w, i32_w]
                     rfl
                    refine pure_ (i := 22) (N := some 114) (v := ?_) (a' := ?_) (zl 45 8388607) rfl rfl (any_of HT_.out (by kernel_rfl)) (fun _ _ _ h => h) (Or.inl ⟨by rfl, ?_⟩) ?_ ?_
                    rotate_left
                    ·
                     intro w'
                     go_simp
                     with_reducible rfl
                    rotate_left
                    ·
                     simp only [Act.put, zs, zs0, zs1, i64_w, i32_w]
                     rfl
                    refine pure_ (i := 23) (N := some 115) (v := ?_) (a' := ?_) (zl 45 16777215) rfl rfl (any_of HT_.out (by kernel_rfl)) (fun _ _ _ h => h) (Or.inl ⟨by rfl, ?_⟩) ?_ ?_
                    rotate_left
                    ·
                     intro w'
                     go_simp
                     with_reducible rfl
                    rotate_left
                    ·
                     simp only [Act.put, zs, zs0, zs1, i64_w, i32_w]
                     rfl
                    refine pure_ (i := 25) (N := some 117) (v := ?_) (a' := ?_) (zl 45 50331647) rfl rfl (any_of HT_.out (by kernel_rfl)) (fun _ _ _ h => h) (Or.inl ⟨by rfl, ?_⟩) ?_ ?_
                    rotate_left
                    ·
                     intro w'
                     go_simp
                     with_reducible rfl
                    rotate_left
                    ·
                     simp only [Act.put, zs, zs0, zs1, i64_w, i32_w]
                     rfl
                    refine pure_ (i := 26) (N := some 118) (v := ?_) (a' := ?_) (zl 45 117440511) rfl rfl (any_of HT_.out (by kernel_rfl)) (fun _ _ _ h => h) (Or.inl ⟨by rfl, ?_⟩) ?_ ?_
                    rotate_left
                    ·
                     intro w'
                     go_simp
                     with_reducible rfl
                    rotate_left
                    ·
                     simp only [Act.put, zs, zs0, zs1, i64_w, i32_w]
                     rfl
                    refine pure_ (i := 27) (N := some 119) (v := ?_) (a' := ?_) (zl 45 251658239) rfl rfl (any_of HT_.out (by kernel_rfl)) (fun _ _ _ h => h) (Or.inl ⟨by rfl, ?_⟩) ?_ ?_
                    rotate_left
                    ·
                     intro w'
                     go_simp
                     with_reducible rfl
                    rotate_left
                    ·
                     simp only [Act.put, zs, zs0, zs1, i64_w, i32_w]
                     rfl
                    refine pure_ (i := 28) (N := some 120) (v := ?_) (a' := ?_) (zl 45 520093695) rfl rfl (any_of HT_.out (by kernel_rfl)) (fun _ _ _ h => h) (Or.inl ⟨by rfl, ?_⟩) ?_ ?_
                    rotate_left
                    ·
                     intro w'
                     go_simp
                     with_reducible rfl
                    rotate_left
                    ·
                     simp only [Act.put, zs, zs0, zs1, i64_w, i32_w]
                     rfl
                    refine take_ (i := 24) (N := some 116) (v := ?_) (a' := ?_) (zl 45 536870911) rfl rfl (take_ofW HT_.out HW_.out (by kernel_rfl)) (fun _ _ _ h => h) (Or.inl ⟨by rfl, ?_⟩) hHeld ?_ ?_
                    rotate_left
                    ·
                     rintro w' ⟨s0, s1, s2, s3, s4, s5, s6, s7, s8, s9, s10⟩
                     go_simp
                     with_reducible rfl
                    rotate_left
                    ·
                     simp only [Act.put, zs, zs0, zs1, i64_w, i32_w]
                     rfl
                    refine take_ (i := 29) (N := some 121) (v := ?_) (a' := ?_) (zl 45 1073741823) rfl rfl (take_ofW HT_.out HW_.out (by kernel_rfl)) (fun _ _ _ h => h) (Or.inl ⟨by rfl, ?_⟩) hHeld ?_ ?_
                    rotate_left
                    ·
                     rintro w' ⟨s0, s1, s2, s3, s4, s5, s6, s7, s8, s9, s10⟩
                     go_simp
                     with_reducible rfl
                    rotate_left
                    ·
                     simp only [Act.put, zs, zs0, zs1, i64_w, i32_w]
                     rfl
                    refine pure_ (i := 30) (N := some 122) (v := ?_) (a' := ?_) (zl 45 2147483647) rfl rfl (any_of HT_.out (by kernel_rfl)) (fun _ _ _ h => h) (Or.inl ⟨by rfl, ?_⟩) ?_ ?_
                    rotate_left
                    ·
                     intro w'
                     go_simp
                     with_reducible rfl
                    rotate_left
                    ·
                     simp only [Act.put, zs, zs0, zs1, i64_w, i32_w]
                     rfl
                    refine pure_ (i := 31) (N := some 123) (v := ?_) (a' := ?_) (zl 45 4294967295) rfl rfl (any_of HT_.out (by kernel_rfl)) (fun _ _ _ h => h) (Or.inl ⟨by rfl, ?_⟩) ?_ ?_
                    rotate_left
                    ·
                     intro w'
                     go_simp
                     with_reducible rfl
                    rotate_left
                    ·
                     simp only [Act.put, zs, zs0, zs1, i64_w, i32_w]
                     rfl
                    refine pure_ (i := 32) (N := some 124) (v := ?_) (a' := ?_) (zl 45 8589934591) rfl rfl (any_of HT_.out (by kernel_rfl)) (fun _ _ _ h => h) (Or.inl ⟨by rfl, ?_⟩) ?_ ?_
                    rotate_left
                    ·
                     intro w'
                     go_simp
                     with_reducible rfl
                    rotate_left
                    ·
                     simp only [Act.put, zs, zs0, zs1, i64_w, i32_w]
                     rfl
                    refine pure_ (i := 33) (N := some 125) (v := ?_) (a' := ?_) (zl 45 17179869183) rfl rfl (any_of HT_.out (by kernel_rfl)) (fun _ _ _ h => h) (Or.inl ⟨by rfl, ?_⟩) ?_ ?_
                    rotate_left
                    ·
                     intro w'
                     go_simp
                     with_reducible rfl
                    rotate_left
                    ·
                     simp only [Act.put, zs, zs0, zs1, i64_w, i32_w]
                     rfl
                    refine pure_ (i := 34) (N := some 126) (v := ?_) (a' := ?_) (zl 45 34359738367) rfl rfl (any_of HT_.out (by kernel_rfl)) (fun _ _ _ h => h) (Or.inl ⟨by rfl, ?_⟩) ?_ ?_
                    rotate_left
                    ·
                     intro w'
                     go_simp
                     with_reducible rfl
                    rotate_left
                    ·
                     simp only [Act.put, zs, zs0, zs1, i64_w, i32_w]
                     rfl
                    refine pure_ (i := 36) (N := some 128) (v := ?_) (a' := ?_) (zl 45 103079215103) rfl rfl (any_of HT_.out (by kernel_rfl)) (fun _ _ _ h => h) (Or.inl ⟨by rfl, ?_⟩) ?_ ?_
                    rotate_left
                    ·
                     intro w'
                     go_simp
                     with_reducible rfl
                    rotate_left
                    ·
                     simp only [Act.put, zs, zs0, zs1, i64_w, i32_w]
                     rfl
                    refine take_ (i := 35) (N := some 127) (v := ?_) (a' := ?_) (zl 45 137438953471) rfl rfl (take_ofW HT_.out HW_.out (by kernel_rfl)) (fun _ _ _ h => h) (Or.inl ⟨by rfl, ?_⟩) hHeld ?_ ?_
                    rotate_left
                    ·
                     rintro w' ⟨s0, s1, s2, s3, s4, s5, s6, s7, s8, s9, s10⟩
                     go_simp
                     with_reducible rfl
                    rotate_left
                    ·
                     simp only [Act.put, zs, zs0, zs1, i64_w, i32_w]
                     rfl
                    refine take_ (i := 37) (N := some 129) (v := ?_) (a' := ?_) (zl 45 274877906943) rfl rfl (take_ofW HT_.out HW_.out (by kernel_rfl)) (fun _ _ _ h => h) (Or.inl ⟨by rfl, ?_⟩) hHeld ?_ ?_
                    rotate_left
                    ·
                     rintro w' ⟨s0, s1, s2, s3, s4, s5, s6, s7, s8, s9, s10⟩
                     go_simp
                     with_reducible rfl
                    rotate_left
                    ·
                     simp only [Act.put, zs, zs0, zs1, i64_w, i32_w]
                     rfl
                    refine one_ (i := 38) (N := some 130) (zl 45 549755813887) rfl rfl (one_of HT_.out (by kernel_rfl)) (by decide) (fun K hK => ?_)
                    refine goes_ Try.func16 (by kernel_rfl) rfl #[.slice Ao39 t346.length co39] (by rfl) rfl rfl (zm) ?_
                    with_reducible refine (standstillref01_Turned.calls kj76 _ _ t346 t369 _ ?side1 ?side2 A96.out).mono ?_
                    (case side1 => exact zC ((Kd.R_reads' HO_351004.out).2.2))
                    (case side2 => exact (Kd.R_reads' HO_351004.out).2.1)
                    rintro e w102 ⟨v370, rfl, ho0, hb⟩
                    have HS10_ := (hb.cell (World.block_lt_of_cell? _ _ (hHeld.2.2.2.2.2.2.2.2.2.2))).trans (hHeld.2.2.2.2.2.2.2.2.2.2)
                    refine ⟨_, rfl, ?_⟩
                    have n0_ := Aside0.mk (Kd.R_elder' (zR HO_15) (Kd.R_base ho0) hb)
                    have n1_ := Aside0.mk (zSb HO_342002 hb)
                    have n2_ := Aside0.mk (Kd.R_elder' (zR HO_351004) (Kd.R_base ho0) hb)
                    have n3_ := Aside0.mk (Kd.R_elder' (zR HO_363004) (Kd.R_base ho0) hb)
                    have n4_ := Aside0.mk (Kd.R_lower (Kd.R_new' (Kd.R_new' (Kd.R_new' ho0 (Kd.R_lt (zR HO_15))) (Kd.R_lt (zR HO_351004))) (Kd.R_lt (zR HO_363004))) (below_size (zB HB)))
                    have n5_ := Aside0.mk (zb BK331 hb)
                    have n6_ := Aside0.mk (zb BK341 hb)
                    have n7_ := Aside0.mk (zb BK350 hb)
                    have n8_ := Aside0.mk (zb BK362 hb)
                    have n9_ := Aside0.mk (below_step (zB HB) hb)
                    clear HO_15
                    clear HO_342002
                    clear HO_351004
                    clear HO_363004
                    clear BK331
                    clear BK341
                    clear BK350
                    clear BK362
                    clear HB
                    have HO_15 := n0_
                    have HO_342002 := n1_
                    have HO_351004 := n2_
                    have HO_363004 := n3_
                    have HO371 := n4_
                    have BK331 := n5_
                    have BK341 := n6_
                    have BK350 := n7_
                    have BK362 := n8_
                    have HB := n9_
                    clear n0_ n1_ n2_ n3_ n4_ n5_ n6_ n7_ n8_ n9_
                    (try clear hb)
                    (try clear hb2)
                    (try clear hk)
                    (try clear hi)
                    (try clear ho0)
                    obtain ⟨Ao103, co103, eo103⟩ := Kd.R_slice HO371.out
                    (first | subst eo103 | (injection eo103 with f1_ f2_ f3_; have f4_ := f1_.symm; have f5_ := f3_.symm; clear f1_ f2_ f3_; subst f4_; subst f5_))
                    refine hK.out _ _ ⟨(blk_cell BK362.out 0).trans rfl, (blk_cell BK362.out 1).trans rfl, (blk_cell BK362.out 2).trans rfl, (blk_cell BK362.out 3).trans rfl, (blk_cell BK362.out 4).trans rfl, (blk_cell BK350.out 0).trans rfl, (blk_cell BK350.out 1).trans rfl, (blk_cell BK350.out 2).trans rfl, (blk_cell BK350.out 3).trans rfl, (blk_cell BK350.out 4).trans rfl, HS10_⟩ (fun hHeld => ?_)
                    clear hK K
                    refine norm_ (a' := ?_) ?_ ?_
                    rotate_left
                    ·
                     show Act.put _ (some 130) _ = _
                     simp only [Act.put, zs, zs0, zs1, i64_w, i32_w]
                     rfl
                    refine one_ (i := 39) (N := some 131) (zl 45 1099511627775) rfl rfl (one_of HT_.out (by kernel_rfl)) (by decide) (fun K hK => ?_)
                    refine goes_ Try.func14 (by kernel_rfl) rfl #[.slice Ao51 t358.length co51, .slice Ao103 t369.length co103] (by rfl) rfl rfl (zm) ?_
                    with_reducible refine (standstillref01_SameInts.calls kj76 _ _ t358 _ _ t369 true _ ?side1 ?side2 ?side3 ?side4 A97.out).mono ?_
                    (case side1 => exact zC ((Kd.R_reads' HO_363004.out).2.2))
                    (case side2 => exact (Kd.R_reads' HO_363004.out).2.1)
                    (case side3 => exact zC ((Kd.R_reads' HO371.out).2.2))
                    (case side4 => exact (Kd.R_reads' HO371.out).2.1)
                    rintro e w' ⟨rfl, ⟨nd, rfl⟩⟩
                    refine ⟨_, rfl, ?_⟩
                    refine hK.out _ _ ⟨(blk_cell BK362.out 0).trans rfl, (blk_cell BK362.out 1).trans rfl, (blk_cell BK362.out 2).trans rfl, (blk_cell BK362.out 3).trans rfl, (blk_cell BK362.out 4).trans rfl, (blk_cell BK350.out 0).trans rfl, (blk_cell BK350.out 1).trans rfl, (blk_cell BK350.out 2).trans rfl, (blk_cell BK350.out 3).trans rfl, (blk_cell BK350.out 4).trans rfl, hHeld.2.2.2.2.2.2.2.2.2.2⟩ (fun hHeld => ?_)
                    clear hK K
                    refine norm_ (a' := ?_) ?_ ?_
                    rotate_left
                    ·
                     show Act.put _ (some 131) _ = _
                     simp only [Act.put, zs, zs0, zs1, i64_w, i32_w]
                     rfl
                    refine pure_ (i := 40) (N := some 132) (v := ?_) (a' := ?_) (zl 45 2199023255551) rfl rfl (any_of HT_.out (by kernel_rfl)) (fun _ _ _ h => h) (Or.inl ⟨by rfl, ?_⟩) ?_ ?_
                    rotate_left
                    ·
                     intro w'
                     go_simp
                     with_reducible rfl
                    rotate_left
                    ·
                     simp only [Act.put, zs, zs0, zs1, i64_w, i32_w]
                     rfl
                    refine pure_ (i := 41) (N := some 133) (v := ?_) (a' := ?_) (zl 45 4398046511103) rfl rfl (any_of HT_.out (by kernel_rfl)) (fun _ _ _ h => h) (Or.inl ⟨by rfl, ?_⟩) ?_ ?_
                    rotate_left
                    ·
                     intro w'
                     go_simp
                     with_reducible rfl
                    rotate_left
                    ·
                     simp only [Act.put, zs, zs0, zs1, i64_w, i32_w]
                     rfl
                    refine one_ (i := 42) (N := some 134) (zl 45 8796093022207) rfl rfl (one_of HT_.out (by kernel_rfl)) (by decide) (fun K hK => ?_)
                    refine goes_ Try.func8 (by kernel_rfl) rfl #[] (by rfl) rfl rfl (zm) ?_
                    with_reducible refine (standstilllaw05_awake.calls kj76  t373 _ A99.out).mono ?_
                    rintro e w104 ⟨rfl, hb⟩
                    have HS10_ := (hb.cell (World.block_lt_of_cell? _ _ (hHeld.2.2.2.2.2.2.2.2.2.2))).trans (hHeld.2.2.2.2.2.2.2.2.2.2)
                    refine ⟨_, rfl, ?_⟩
                    have n0_ := Aside0.mk (zRb HO_15 hb)
                    have n1_ := Aside0.mk (zSb HO_342002 hb)
                    have n2_ := Aside0.mk (zRb HO_351004 hb)
                    have n3_ := Aside0.mk (zRb HO_363004 hb)
                    have n4_ := Aside0.mk (zRb HO371 hb)
                    have n5_ := Aside0.mk (zb BK331 hb)
                    have n6_ := Aside0.mk (zb BK341 hb)
                    have n7_ := Aside0.mk (zb BK350 hb)
                    have n8_ := Aside0.mk (zb BK362 hb)
                    have n9_ := Aside0.mk (below_step (zB HB) hb)
                    clear HO_15
                    clear HO_342002
                    clear HO_351004
                    clear HO_363004
                    clear HO371
                    clear BK331
                    clear BK341
                    clear BK350
                    clear BK362
                    clear HB
                    have HO_15 := n0_
                    have HO_342002 := n1_
                    have HO_351004 := n2_
                    have HO_363004 := n3_
                    have HO371 := n4_
                    have BK331 := n5_
                    have BK341 := n6_
                    have BK350 := n7_
                    have BK362 := n8_
                    have HB := n9_
                    clear n0_ n1_ n2_ n3_ n4_ n5_ n6_ n7_ n8_ n9_
                    (try clear hb)
                    (try clear hb2)
                    (try clear hk)
                    (try clear hi)
                    refine hK.out _ _ ⟨(blk_cell BK362.out 0).trans rfl, (blk_cell BK362.out 1).trans rfl, (blk_cell BK362.out 2).trans rfl, (blk_cell BK362.out 3).trans rfl, (blk_cell BK362.out 4).trans rfl, (blk_cell BK350.out 0).trans rfl, (blk_cell BK350.out 1).trans rfl, (blk_cell BK350.out 2).trans rfl, (blk_cell BK350.out 3).trans rfl, (blk_cell BK350.out 4).trans rfl, HS10_⟩ (fun hHeld => ?_)
                    clear hK K
                    refine norm_ (a' := ?_) ?_ ?_
                    rotate_left
                    ·
                     show Act.put _ (some 134) _ = _
                     simp only [Act.put, zs, zs0, zs1, i64_w, i32_w]
                     rfl
                    refine pure_ (i := 43) (N := some 135) (v := ?_) (a' := ?_) (zl 45 17592186044415) rfl rfl (any_of HT_.out (by kernel_rfl)) (fun _ _ _ h => h) (Or.inl ⟨by rfl, ?_⟩) ?_ ?_
                    rotate_left
                    ·
                     intro w'
                     go_simp
                     with_reducible rfl
                    rotate_left
                    ·
                     simp only [Act.put, zs, zs0, zs1, i64_w, i32_w]
                     rfl
                    refine pure_ (i := 44) (N := some 8) (v := ?_) (a' := ?_) (zl 45 35184372088831) rfl rfl (any_of HT_.out (by kernel_rfl)) (fun _ _ _ h => h) (Or.inl ⟨by rfl, ?_⟩) ?_ ?_
                    rotate_left
                    ·
                     intro w'
                     go_simp
                     with_reducible rfl
                    rotate_left
                    ·
                     simp only [Act.put, zs, zs0, zs1, i64_w, i32_w]
                     rfl
                    refine done_ (done_of HT_.out (by kernel_rfl)) ?_
                    try go_wp2
                    go_ret
                    exact ⟨by first | rfl | (simp [errW_none, errW_some] <;> rfl) | (simp [*, errW_none, errW_some] <;> rfl), zB HB⟩
                   ·
                    replace c98 := Bool.eq_false_iff.mpr c98
                    subst c98
                    have H1 : (some false) = some r := by rw [if_neg (show ¬ (false = true) by decide)] at H; exact H
                    clear H
                    have H := H1
                    clear H1
                    obtain rfl := Option.some.inj H
                    try go_wp2
                    have n0_ := Aside0.mk (Kd.R_drew HO_15.out)
                    have n1_ := Aside0.mk (Kd.S_drew HO_342002.out)
                    have n2_ := Aside0.mk (Kd.R_drew HO_351004.out)
                    have n3_ := Aside0.mk (Kd.R_drew HO_363004.out)
                    have n4_ := Aside0.mk (blk_drew BK331.out)
                    have n5_ := Aside0.mk (blk_drew BK341.out)
                    have n6_ := Aside0.mk (blk_drew BK350.out)
                    have n7_ := Aside0.mk (blk_drew BK362.out)
                    have n8_ := Aside0.mk (below_drew1 HB.out)
                    clear HO_15
                    clear HO_342002
                    clear HO_351004
                    clear HO_363004
                    clear BK331
                    clear BK341
                    clear BK350
                    clear BK362
                    clear HB
                    have HO_15 := n0_
                    have HO_342002 := n1_
                    have HO_351004 := n2_
                    have HO_363004 := n3_
                    have BK331 := n4_
                    have BK341 := n5_
                    have BK350 := n6_
                    have BK362 := n7_
                    have HB := n8_
                    clear n0_ n1_ n2_ n3_ n4_ n5_ n6_ n7_ n8_
                    obtain ⟨Ao106, co106, eo106⟩ := Kd.R_slice HO_15.out
                    (first | subst eo106 | (injection eo106 with f1_ f2_ f3_; have f4_ := f1_.symm; have f5_ := f3_.symm; clear f1_ f2_ f3_; subst f4_; subst f5_))
                    have p368 : 0 ≤ (t342 : Int) := of_decide_eq_true (by first | (with_reducible assumption) | assumption)
                    have q368 : t342 < (y365.length : Int) := of_decide_eq_true (by first | (with_reducible assumption) | assumption)
                    obtain ⟨ad368, e368, hx368_0⟩ := Kd.at_int (Kd.R_reads' HO_15.out).2.2 t342 p368 q368
                    cases e368
                    replace p368 := eq_true p368
                    replace q368 := eq_true q368
                    refine start_ (n := 45) (S := fun w' => w'.cell? ⟨gb362, 0, none⟩ = some (.int .i64 t354) ∧ w'.cell? ⟨gb362, 1, none⟩ = some (.int .i64 t355) ∧ w'.cell? ⟨gb362, 2, none⟩ = some (.int .i64 t356) ∧ w'.cell? ⟨gb362, 3, none⟩ = some (.int .i64 t357) ∧ w'.cell? ⟨gb362, 4, none⟩ = some (.slice Ao51 t358.length co51) ∧ w'.cell? ⟨gb350, 0, none⟩ = some (.int .i64 t342) ∧ w'.cell? ⟨gb350, 1, none⟩ = some (.int .i64 t343) ∧ w'.cell? ⟨gb350, 2, none⟩ = some (.int .i64 t344) ∧ w'.cell? ⟨gb350, 3, none⟩ = some (.int .i64 t345) ∧ w'.cell? ⟨gb350, 4, none⟩ = some (.slice Ao39 t346.length co39) ∧ w'.cell? (ad368.add (t342).toNat) = some (.int .i64 (rd y365 t342))) (ds := []) (zl 45 0) (by kernel_rfl) rfl rfl ⟨(blk_cell BK362.out 0).trans rfl, (blk_cell BK362.out 1).trans rfl, (blk_cell BK362.out 2).trans rfl, (blk_cell BK362.out 3).trans rfl, (blk_cell BK362.out 4).trans rfl, (blk_cell BK350.out 0).trans rfl, (blk_cell BK350.out 1).trans rfl, (blk_cell BK350.out 2).trans rfl, (blk_cell BK350.out 3).trans rfl, (blk_cell BK350.out 4).trans rfl, hx368_0⟩ (fun hHeld => ?_); refine with_tabW standstilllaw05_BlockMirror.tab13 standstilllaw05_BlockMirror.bits13 (fun HT_ HW_ => ?_)
                    generalize wc.drew = w105 at HO_15 HO_342002 HO_351004 HO_363004 BK331 BK341 BK350 BK362 HB hx368_0 hHeld ⊢
                    refine pure_ (i := 0) (N := some 92) (v := ?_) (a' := ?_) (zl 45 1) rfl rfl (any_of HT_.out (by kernel_rfl)) (fun _ _ _ h => h) (Or.inl ⟨by rfl, ?_⟩) ?_ ?_
                    rotate_left
                    ·
                     intro w'
                     go_simp
                     with_reducible rfl
                    rotate_left
                    ·
                     simp only [Act.put, zs, zs0, zs1, i64_w, i32_w]
                     rfl
                    refine pure_ (i := 2) (N := some 94) (v := ?_) (a' := ?_) (zl 45 5) rfl rfl (any_of HT_.out (by kernel_rfl)) (fun _ _ _ h => h) (Or.inl ⟨by rfl, ?_⟩) ?_ ?_
                    rotate_left
                    ·
                     intro w'
                     go_simp
                     with_reducible rfl
                    rotate_left
                    ·
                     simp only [Act.put, zs, zs0, zs1, i64_w, i32_w]
                     rfl
                    refine pure_ (i := 3) (N := some 95) (v := ?_) (a' := ?_) (zl 45 13) rfl rfl (any_of HT_.out (by kernel_rfl)) (fun _ _ _ h => h) (Or.inl ⟨by rfl, ?_⟩) ?_ ?_
                    rotate_left
                    ·
                     intro w'
                     go_simp
                     with_reducible rfl
                    rotate_left
                    ·
                     simp only [Act.put, zs, zs0, zs1, i64_w, i32_w]
                     rfl
                    refine take_ (i := 1) (N := some 93) (v := ?_) (a' := ?_) (zl 45 15) rfl rfl (take_ofW HT_.out HW_.out (by kernel_rfl)) (fun _ _ _ h => h) (Or.inl ⟨by rfl, ?_⟩) hHeld ?_ ?_
                    rotate_left
                    ·
                     rintro w' ⟨s0, s1, s2, s3, s4, s5, s6, s7, s8, s9, s10⟩
                     go_simp
                     with_reducible rfl
                    rotate_left
                    ·
                     simp only [Act.put, zs, zs0, zs1, i64_w, i32_w]
                     rfl
                    refine take_ (i := 4) (N := some 96) (v := ?_) (a' := ?_) (zl 45 31) rfl rfl (take_ofW HT_.out HW_.out (by kernel_rfl)) (fun _ _ _ h => h) (Or.inl ⟨by rfl, ?_⟩) hHeld ?_ ?_
                    rotate_left
                    ·
                     rintro w' ⟨s0, s1, s2, s3, s4, s5, s6, s7, s8, s9, s10⟩
                     go_simp
                     with_reducible rfl
                    rotate_left
                    ·
                     simp only [Act.put, zs, zs0, zs1, i64_w, i32_w]
                     rfl
                    refine pure_ (i := 5) (N := some 97) (v := ?_) (a' := ?_) (zl 45 63) rfl rfl (any_of HT_.out (by kernel_rfl)) (fun _ _ _ h => h) (Or.inl ⟨by rfl, ?_⟩) ?_ ?_
                    rotate_left
                    ·
                     intro w'
                     go_simp
                     with_reducible rfl
                    rotate_left
                    ·
                     simp only [Act.put, zs, zs0, zs1, i64_w, i32_w]
                     rfl
                    refine take_ (i := 6) (N := some 98) (v := ?_) (a' := ?_) (zl 45 127) rfl rfl (take_ofW HT_.out HW_.out (by kernel_rfl)) (fun _ _ _ h => h) (Or.inl ⟨by rfl, ?_⟩) hHeld ?_ ?_
                    rotate_left
                    ·
                     rintro w' ⟨s0, s1, s2, s3, s4, s5, s6, s7, s8, s9, s10⟩
                     go_simp
                     with_reducible rfl
                    rotate_left
                    ·
                     simp only [Act.put, zs, zs0, zs1, i64_w, i32_w]
                     rfl
                    refine pure_ (i := 7) (N := some 99) (v := ?_) (a' := ?_) (zl 45 255) rfl rfl (any_of HT_.out (by kernel_rfl)) (fun _ _ _ h => h) (Or.inl ⟨by rfl, ?_⟩) ?_ ?_
                    rotate_left
                    ·
                     intro w'
                     go_simp
                     with_reducible rfl
                    rotate_left
                    ·
                     simp only [Act.put, zs, zs0, zs1, i64_w, i32_w]
                     rfl
                    refine pure_ (i := 8) (N := some 100) (v := ?_) (a' := ?_) (zl 45 511) rfl rfl (any_of HT_.out (by kernel_rfl)) (fun _ _ _ h => h) (Or.inl ⟨by rfl, ?_⟩) ?_ ?_
                    rotate_left
                    ·
                     intro w'
                     go_simp
                     with_reducible rfl
                    rotate_left
                    ·
                     simp only [Act.put, zs, zs0, zs1, i64_w, i32_w]
                     rfl
                    refine pure_ (i := 9) (N := some 101) (v := ?_) (a' := ?_) (zl 45 1023) rfl rfl (any_of HT_.out (by kernel_rfl)) (fun _ _ _ h => h) (Or.inl ⟨by rfl, ?_⟩) ?_ ?_
                    rotate_left
                    ·
                     intro w'
                     go_simp
                     with_reducible rfl
                    rotate_left
                    ·
                     simp only [Act.put, zs, zs0, zs1, i64_w, i32_w]
                     rfl
                    refine pure_ (i := 11) (N := some 103) (v := ?_) (a' := ?_) (zl 45 3071) rfl rfl (any_of HT_.out (by kernel_rfl)) (fun _ _ _ h => h) (Or.inl ⟨by rfl, ?_⟩) ?_ ?_
                    rotate_left
                    ·
                     intro w'
                     go_simp
                     with_reducible rfl
                    rotate_left
                    ·
                     simp only [Act.put, zs, zs0, zs1, i64_w, i32_w]
                     rfl
                    refine take_ (i := 10) (N := some 102) (v := ?_) (a' := ?_) (zl 45 4095) rfl rfl (take_ofW HT_.out HW_.out (by kernel_rfl)) (fun _ _ _ h => h) (Or.inl ⟨by rfl, ?_⟩) hHeld ?_ ?_
                    rotate_left
                    ·
                     rintro w' ⟨s0, s1, s2, s3, s4, s5, s6, s7, s8, s9, s10⟩
                     go_simp
                     with_reducible rfl
                    rotate_left
                    ·
                     simp only [Act.put, zs, zs0, zs1, i64_w, i32_w]
                     rfl
                    refine take_ (i := 12) (N := some 104) (v := ?_) (a' := ?_) (zl 45 8191) rfl rfl (take_ofW HT_.out HW_.out (by kernel_rfl)) (fun _ _ _ h => h) (Or.inl ⟨by rfl, ?_⟩) hHeld ?_ ?_
                    rotate_left
                    ·
                     rintro w' ⟨s0, s1, s2, s3, s4, s5, s6, s7, s8, s9, s10⟩
                     go_simp
                     with_reducible rfl
                    rotate_left
                    ·
                     simp only [Act.put, zs, zs0, zs1, i64_w, i32_w]
                     rfl
                    refine pure_ (i := 13) (N := some 105) (v := ?_) (a' := ?_) (zl 45 16383) rfl rfl (any_of HT_.out (by kernel_rfl)) (fun _ _ _ h => h) (Or.inl ⟨by rfl, ?_⟩) ?_ ?_
                    rotate_left
                    ·
                     intro w'
                     go_simp
                     with_reducible rfl
                    rotate_left
                    ·
                     simp only [Act.put, zs, zs0, zs1, i64_w, i32_w]
                     rfl
                    refine pure_ (i := 14) (N := some 106) (v := ?_) (a' := ?_) (zl 45 32767) rfl rfl (any_of HT_.out (by kernel_rfl)) (fun _ _ _ h => h) (Or.inl ⟨by rfl, ?_⟩) ?_ ?_
                    rotate_left
                    ·
                     intro w'
                     go_simp
                     with_reducible rfl
                    rotate_left
                    ·
                     simp only [Act.put, zs, zs0, zs1, i64_w, i32_w]
                     rfl
                    refine pure_ (i := 15) (N := some 107) (v := ?_) (a' := ?_) (zl 45 65535) rfl rfl (any_of HT_.out (by kernel_rfl)) (fun _ _ _ h => h) (Or.inl ⟨by rfl, ?_⟩) ?_ ?_
                    rotate_left
                    ·
                     intro w'
                     go_simp
                     with_reducible rfl
                    rotate_left
                    ·
                     simp only [Act.put, zs, zs0, zs1, i64_w, i32_w]
                     rfl
                    refine pure_ (i := 16) (N := some 108) (v := ?_) (a' := ?_) (zl 45 131071) rfl rfl (any_of HT_.out (by kernel_rfl)) (fun _ _ _ h => h) (Or.inl ⟨by rfl, ?_⟩) ?_ ?_
                    rotate_left
                    ·
                     intro w'
                     go_simp
                     with_reducible rfl
                    rotate_left
                    ·
                     simp only [Act.put, zs, zs0, zs1, i64_w, i32_w]
                     rfl
                    refine pure_ (i := 18) (N := some 110) (v := ?_) (a' := ?_) (zl 45 393215) rfl rfl (any_of HT_.out (by kernel_rfl)) (fun _ _ _ h => h) (Or.inl ⟨by rfl, ?_⟩) ?_ ?_
                    rotate_left
                    ·
                     intro w'
                     go_simp
                     with_reducible rfl
                    rotate_left
                    ·
                     simp only [Act.put, zs, zs0, zs1, i64_w, i32_w]
                     rfl
                    refine take_ (i := 17) (N := some 109) (v := ?_) (a' := ?_) (zl 45 524287) rfl rfl (take_ofW HT_.out HW_.out (by kernel_rfl)) (fun _ _ _ h => h) (Or.inl ⟨by rfl, ?_⟩) hHeld ?_ ?_
                    rotate_left
                    ·
                     rintro w' ⟨s0, s1, s2, s3, s4, s5, s6, s7, s8, s9, s10⟩
                     go_simp
                     with_reducible rfl
                    rotate_left
                    ·
                     simp only [Act.put, zs, zs0, zs1, i64_w, i32_w]
                     rfl
                    refine take_ (i := 19) (N := some 111) (v := ?_) (a' := ?_) (zl 45 1048575) rfl rfl (take_ofW HT_.out HW_.out (by kernel_rfl)) (fun _ _ _ h => h) (Or.inl ⟨by rfl, ?_⟩) hHeld ?_ ?_
                    rotate_left
                    ·
                     rintro w' ⟨s0, s1, s2, s3, s4, s5, s6, s7, s8, s9, s10⟩
                     go_simp
                     with_reducible rfl
                    rotate_left
                    ·
                     simp only [Act.put, zs, zs0, zs1, i64_w, i32_w]
                     rfl
                    refine pure_ (i := 20) (N := some 112) (v := ?_) (a' := ?_) (zl 45 2097151) rfl rfl (any_of HT_.out (by kernel_rfl)) (fun _ _ _ h => h) (Or.inl ⟨by rfl, ?_⟩) ?_ ?_
                    rotate_left
                    ·
                     intro w'
                     go_simp
                     with_reducible rfl
                    rotate_left
                    ·
                     simp only [Act.put, zs, zs0, zs1, i64_w, i32_w]
                     rfl
                    refine pure_ (i := 21) (N := some 113) (v := ?_) (a' := ?_) (zl 45 4194303) rfl rfl (any_of HT_.out (by kernel_rfl)) (fun _ _ _ h => h) (Or.inl ⟨by rfl, ?_⟩) ?_ ?_
                    rotate_left
                    ·
                     intro w'
                     go_simp
                     with_reducible rfl
                    rotate_left
                    ·
                     simp only [Act.put, zs, zs0, zs1, i64_w, i32_w]
                     rfl
                    refine pure_ (i := 22) (N := some 114) (v := ?_) (a' := ?_) (zl 45 8388607) rfl rfl (any_of HT_.out (by kernel_rfl)) (fun _ _ _ h => h) (Or.inl ⟨by rfl, ?_⟩) ?_ ?_
                    rotate_left
                    ·
                     intro w'
                     go_simp
                     with_reducible rfl
                    rotate_left
                    ·
                     simp only [Act.put, zs, zs0, zs1, i64_w, i32_w]
                     rfl
                    refine pure_ (i := 23) (N := some 115) (v := ?_) (a' := ?_) (zl 45 16777215) rfl rfl (any_of HT_.out (by kernel_rfl)) (fun _ _ _ h => h) (Or.inl ⟨by rfl, ?_⟩) ?_ ?_
                    rotate_left
                    ·
                     intro w'
                     go_simp
                     with_reducible rfl
                    rotate_left
                    ·
                     simp only [Act.put, zs, zs0, zs1, i64_w, i32_w]
                     rfl
                    refine pure_ (i := 25) (N := some 117) (v := ?_) (a' := ?_) (zl 45 50331647) rfl rfl (any_of HT_.out (by kernel_rfl)) (fun _ _ _ h => h) (Or.inl ⟨by rfl, ?_⟩) ?_ ?_
                    rotate_left
                    ·
                     intro w'
                     go_simp
                     with_reducible rfl
                    rotate_left
                    ·
                     simp only [Act.put, zs, zs0, zs1, i64_w, i32_w]
                     rfl
                    refine pure_ (i := 26) (N := some 118) (v := ?_) (a' := ?_) (zl 45 117440511) rfl rfl (any_of HT_.out (by kernel_rfl)) (fun _ _ _ h => h) (Or.inl ⟨by rfl, ?_⟩) ?_ ?_
                    rotate_left
                    ·
                     intro w'
                     go_simp
                     with_reducible rfl
                    rotate_left
                    ·
                     simp only [Act.put, zs, zs0, zs1, i64_w, i32_w]
                     rfl
                    refine pure_ (i := 27) (N := some 119) (v := ?_) (a' := ?_) (zl 45 251658239) rfl rfl (any_of HT_.out (by kernel_rfl)) (fun _ _ _ h => h) (Or.inl ⟨by rfl, ?_⟩) ?_ ?_
                    rotate_left
                    ·
                     intro w'
                     go_simp
                     with_reducible rfl
                    rotate_left
                    ·
                     simp only [Act.put, zs, zs0, zs1, i64_w, i32_w]
                     rfl
                    refine pure_ (i := 28) (N := some 120) (v := ?_) (a' := ?_) (zl 45 520093695) rfl rfl (any_of HT_.out (by kernel_rfl)) (fun _ _ _ h => h) (Or.inl ⟨by rfl, ?_⟩) ?_ ?_
                    rotate_left
                    ·
                     intro w'
                     go_simp
                     with_reducible rfl
                    rotate_left
                    ·
                     simp only [Act.put, zs, zs0, zs1, i64_w, i32_w]
                     rfl
                    refine take_ (i := 24) (N := some 116) (v := ?_) (a' := ?_) (zl 45 536870911) rfl rfl (take_ofW HT_.out HW_.out (by kernel_rfl)) (fun _ _ _ h => h) (Or.inl ⟨by rfl, ?_⟩) hHeld ?_ ?_
                    rotate_left
                    ·
                     rintro w' ⟨s0, s1, s2, s3, s4, s5, s6, s7, s8, s9, s10⟩
                     go_simp
                     with_reducible rfl
                    rotate_left
                    ·
                     simp only [Act.put, zs, zs0, zs1, i64_w, i32_w]
                     rfl
                    refine take_ (i := 29) (N := some 121) (v := ?_) (a' := ?_) (zl 45 1073741823) rfl rfl (take_ofW HT_.out HW_.out (by kernel_rfl)) (fun _ _ _ h => h) (Or.inl ⟨by rfl, ?_⟩) hHeld ?_ ?_
                    rotate_left
                    ·
                     rintro w' ⟨s0, s1, s2, s3, s4, s5, s6, s7, s8, s9, s10⟩
                     go_simp
                     with_reducible rfl
                    rotate_left
                    ·
                     simp only [Act.put, zs, zs0, zs1, i64_w, i32_w]
                     rfl
                    refine pure_ (i := 30) (N := some 122) (v := ?_) (a' := ?_) (zl 45 2147483647) rfl rfl (any_of HT_.out (by kernel_rfl)) (fun _ _ _ h => h) (Or.inl ⟨by rfl, ?_⟩) ?_ ?_
                    rotate_left
                    ·
                     intro w'
                     go_simp
                     with_reducible rfl
                    rotate_left
                    ·
                     simp only [Act.put, zs, zs0, zs1, i64_w, i32_w]
                     rfl
                    refine pure_ (i := 31) (N := some 123) (v := ?_) (a' := ?_) (zl 45 4294967295) rfl rfl (any_of HT_.out (by kernel_rfl)) (fun _ _ _ h => h) (Or.inl ⟨by rfl, ?_⟩) ?_ ?_
                    rotate_left
                    ·
                     intro w'
                     go_simp
                     with_reducible rfl
                    rotate_left
                    ·
                     simp only [Act.put, zs, zs0, zs1, i64_w, i32_w]
                     rfl
                    refine pure_ (i := 32) (N := some 124) (v := ?_) (a' := ?_) (zl 45 8589934591) rfl rfl (any_of HT_.out (by kernel_rfl)) (fun _ _ _ h => h) (Or.inl ⟨by rfl, ?_⟩) ?_ ?_
                    rotate_left
                    ·
                     intro w'
                     go_simp
                     with_reducible rfl
                    rotate_left
                    ·
                     simp only [Act.put, zs, zs0, zs1, i64_w, i32_w]
                     rfl
                    refine pure_ (i := 33) (N := some 125) (v := ?_) (a' := ?_) (zl 45 17179869183) rfl rfl (any_of HT_.out (by kernel_rfl)) (fun _ _ _ h => h) (Or.inl ⟨by rfl, ?_⟩) ?_ ?_
                    rotate_left
                    ·
                     intro w'
                     go_simp
                     with_reducible rfl
                    rotate_left
                    ·
                     simp only [Act.put, zs, zs0, zs1, i64_w, i32_w]
                     rfl
                    refine pure_ (i := 34) (N := some 126) (v := ?_) (a' := ?_) (zl 45 34359738367) rfl rfl (any_of HT_.out (by kernel_rfl)) (fun _ _ _ h => h) (Or.inl ⟨by rfl, ?_⟩) ?_ ?_
                    rotate_left
                    ·
                     intro w'
                     go_simp
                     with_reducible rfl
                    rotate_left
                    ·
                     simp only [Act.put, zs, zs0, zs1, i64_w, i32_w]
                     rfl
                    refine pure_ (i := 36) (N := some 128) (v := ?_) (a' := ?_) (zl 45 103079215103) rfl rfl (any_of HT_.out (by kernel_rfl)) (fun _ _ _ h => h) (Or.inl ⟨by rfl, ?_⟩) ?_ ?_
                    rotate_left
                    ·
                     intro w'
                     go_simp
                     with_reducible rfl
                    rotate_left
                    ·
                     simp only [Act.put, zs, zs0, zs1, i64_w, i32_w]
                     rfl
                    refine take_ (i := 35) (N := some 127) (v := ?_) (a' := ?_) (zl 45 137438953471) rfl rfl (take_ofW HT_.out HW_.out (by kernel_rfl)) (fun _ _ _ h => h) (Or.inl ⟨by rfl, ?_⟩) hHeld ?_ ?_
                    rotate_left
                    ·
                     rintro w' ⟨s0, s1, s2, s3, s4, s5, s6, s7, s8, s9, s10⟩
                     go_simp
                     with_reducible rfl
                    rotate_left
                    ·
                     simp only [Act.put, zs, zs0, zs1, i64_w, i32_w]
                     rfl
                    refine take_ (i := 37) (N := some 129) (v := ?_) (a' := ?_) (zl 45 274877906943) rfl rfl (take_ofW HT_.out HW_.out (by kernel_rfl)) (fun _ _ _ h => h) (Or.inl ⟨by rfl, ?_⟩) hHeld ?_ ?_
                    rotate_left
                    ·
                     rintro w' ⟨s0, s1, s2, s3, s4, s5, s6, s7, s8, s9, s10⟩
                     go_simp
                     with_reducible rfl
                    rotate_left
                    ·
                     simp only [Act.put, zs, zs0, zs1, i64_w, i32_w]
                     rfl
                    refine one_ (i := 38) (N := some 130) (zl 45 549755813887) rfl rfl (one_of HT_.out (by kernel_rfl)) (by decide) (fun K hK => ?_)
                    refine goes_ Try.func16 (by kernel_rfl) rfl #[.slice Ao39 t346.length co39] (by rfl) rfl rfl (zm) ?_
                    with_reducible refine (standstillref01_Turned.calls kj76 _ _ t346 t369 _ ?side1 ?side2 A96.out).mono ?_
                    (case side1 => exact zC ((Kd.R_reads' HO_351004.out).2.2))
                    (case side2 => exact (Kd.R_reads' HO_351004.out).2.1)
                    rintro e w107 ⟨v370, rfl, ho0, hb⟩
                    have HS10_ := (hb.cell (World.block_lt_of_cell? _ _ (hHeld.2.2.2.2.2.2.2.2.2.2))).trans (hHeld.2.2.2.2.2.2.2.2.2.2)
                    refine ⟨_, rfl, ?_⟩
                    have n0_ := Aside0.mk (Kd.R_elder' (zR HO_15) (Kd.R_base ho0) hb)
                    have n1_ := Aside0.mk (zSb HO_342002 hb)
                    have n2_ := Aside0.mk (Kd.R_elder' (zR HO_351004) (Kd.R_base ho0) hb)
                    have n3_ := Aside0.mk (Kd.R_elder' (zR HO_363004) (Kd.R_base ho0) hb)
                    have n4_ := Aside0.mk (Kd.R_lower (Kd.R_new' (Kd.R_new' (Kd.R_new' ho0 (Kd.R_lt (zR HO_15))) (Kd.R_lt (zR HO_351004))) (Kd.R_lt (zR HO_363004))) (below_size (zB HB)))
                    have n5_ := Aside0.mk (zb BK331 hb)
                    have n6_ := Aside0.mk (zb BK341 hb)
                    have n7_ := Aside0.mk (zb BK350 hb)
                    have n8_ := Aside0.mk (zb BK362 hb)
                    have n9_ := Aside0.mk (below_step (zB HB) hb)
                    clear HO_15
                    clear HO_342002
                    clear HO_351004
                    clear HO_363004
                    clear BK331
                    clear BK341
                    clear BK350
                    clear BK362
                    clear HB
                    have HO_15 := n0_
                    have HO_342002 := n1_
                    have HO_351004 := n2_
                    have HO_363004 := n3_
                    have HO371 := n4_
                    have BK331 := n5_
                    have BK341 := n6_
                    have BK350 := n7_
                    have BK362 := n8_
                    have HB := n9_
                    clear n0_ n1_ n2_ n3_ n4_ n5_ n6_ n7_ n8_ n9_
                    (try clear hb)
                    (try clear hb2)
                    (try clear hk)
                    (try clear hi)
                    (try clear ho0)
                    obtain ⟨Ao108, co108, eo108⟩ := Kd.R_slice HO371.out
                    (first | subst eo108 | (injection eo108 with f1_ f2_ f3_; have f4_ := f1_.symm; have f5_ := f3_.symm; clear f1_ f2_ f3_; subst f4_; subst f5_))
                    refine hK.out _ _ ⟨(blk_cell BK362.out 0).trans rfl, (blk_cell BK362.out 1).trans rfl, (blk_cell BK362.out 2).trans rfl, (blk_cell BK362.out 3).trans rfl, (blk_cell BK362.out 4).trans rfl, (blk_cell BK350.out 0).trans rfl, (blk_cell BK350.out 1).trans rfl, (blk_cell BK350.out 2).trans rfl, (blk_cell BK350.out 3).trans rfl, (blk_cell BK350.out 4).trans rfl, HS10_⟩ (fun hHeld => ?_)
                    clear hK K
                    refine norm_ (a' := ?_) ?_ ?_
                    rotate_left
                    ·
                     show Act.put _ (some 130) _ = _
                     simp only [Act.put, zs, zs0, zs1, i64_w, i32_w]
                     rfl
                    refine one_ (i := 39) (N := some 131) (zl 45 1099511627775) rfl rfl (one_of HT_.out (by kernel_rfl)) (by decide) (fun K hK => ?_)
                    refine goes_ Try.func14 (by kernel_rfl) rfl #[.slice Ao51 t358.length co51, .slice Ao108 t369.length co108] (by rfl) rfl rfl (zm) ?_
                    with_reducible refine (standstillref01_SameInts.calls kj76 _ _ t358 _ _ t369 false _ ?side1 ?side2 ?side3 ?side4 A97.out).mono ?_
                    (case side1 => exact zC ((Kd.R_reads' HO_363004.out).2.2))
                    (case side2 => exact (Kd.R_reads' HO_363004.out).2.1)
                    (case side3 => exact zC ((Kd.R_reads' HO371.out).2.2))
                    (case side4 => exact (Kd.R_reads' HO371.out).2.1)
                    rintro e w' ⟨rfl, ⟨nd, rfl⟩⟩
                    refine ⟨_, rfl, ?_⟩
                    refine hK.out _ _ ⟨(blk_cell BK362.out 0).trans rfl, (blk_cell BK362.out 1).trans rfl, (blk_cell BK362.out 2).trans rfl, (blk_cell BK362.out 3).trans rfl, (blk_cell BK362.out 4).trans rfl, (blk_cell BK350.out 0).trans rfl, (blk_cell BK350.out 1).trans rfl, (blk_cell BK350.out 2).trans rfl, (blk_cell BK350.out 3).trans rfl, (blk_cell BK350.out 4).trans rfl, hHeld.2.2.2.2.2.2.2.2.2.2⟩ (fun hHeld => ?_)
                    clear hK K
                    refine norm_ (a' := ?_) ?_ ?_
                    rotate_left
                    ·
                     show Act.put _ (some 131) _ = _
                     simp only [Act.put, zs, zs0, zs1, i64_w, i32_w]
                     rfl
                    refine pure_ (i := 40) (N := some 132) (v := ?_) (a' := ?_) (zl 45 2199023255551) rfl rfl (any_of HT_.out (by kernel_rfl)) (fun _ _ _ h => h) (Or.inl ⟨by rfl, ?_⟩) ?_ ?_
                    rotate_left
                    ·
                     intro w'
                     go_simp
                     with_reducible rfl
                    rotate_left
                    ·
                     simp only [Act.put, zs, zs0, zs1, i64_w, i32_w]
                     rfl
                    refine pure_ (i := 41) (N := some 133) (v := ?_) (a' := ?_) (zl 45 4398046511103) rfl rfl (any_of HT_.out (by kernel_rfl)) (fun _ _ _ h => h) (Or.inl ⟨by rfl, ?_⟩) ?_ ?_
                    rotate_left
                    ·
                     intro w'
                     go_simp
                     with_reducible rfl
                    rotate_left
                    ·
                     simp only [Act.put, zs, zs0, zs1, i64_w, i32_w]
                     rfl
                    refine pure_ (i := 42) (N := some 134) (v := undef) (a' := ?_) (zl 45 8796093022207) rfl rfl (any_of HT_.out (by kernel_rfl)) (fun _ _ _ h => h) (Or.inr ⟨by rfl, rfl⟩) ?_ ?_
                    rotate_left
                    ·
                     simp only [Act.put, zs, zs0, zs1, i64_w, i32_w]
                     rfl
                    refine pure_ (i := 43) (N := some 135) (v := ?_) (a' := ?_) (zl 45 17592186044415) rfl rfl (any_of HT_.out (by kernel_rfl)) (fun _ _ _ h => h) (Or.inl ⟨by rfl, ?_⟩) ?_ ?_
                    rotate_left
                    ·
                     intro w'
                     go_simp
                     with_reducible rfl
                    rotate_left
                    ·
                     simp only [Act.put, zs, zs0, zs1, i64_w, i32_w]
                     rfl
                    refine pure_ (i := 44) (N := some 8) (v := ?_) (a' := ?_) (zl 45 35184372088831) rfl rfl (any_of HT_.out (by kernel_rfl)) (fun _ _ _ h => h) (Or.inl ⟨by rfl, ?_⟩) ?_ ?_
                    rotate_left
                    ·
                     intro w'
                     go_simp
                     with_reducible rfl
                    rotate_left
                    ·
                     simp only [Act.put, zs, zs0, zs1, i64_w, i32_w]
                     rfl
                    refine done_ (done_of HT_.out (by kernel_rfl)) ?_
                    try go_wp2
                    go_ret
                    exact ⟨by first | rfl | (simp [errW_none, errW_some] <;> rfl) | (simp [*, errW_none, errW_some] <;> rfl), zB HB⟩
                  ·
                   rw [if_neg c95] at H
                   have c95b0 : (t357 == (wrap64 ((wrap64 ((l3.length : Int) - 1)) - t345))) = false := beq_eq_false_iff_ne.mpr c95
                   have c95b1 : (t357 != (wrap64 ((wrap64 ((l3.length : Int) - 1)) - t345))) = true := bne_iff_ne.mpr c95
                   obtain rfl := Option.some.inj H
                   try go_wp2
                   have n0_ := Aside0.mk (Kd.R_drew HO_15.out)
                   have n1_ := Aside0.mk (Kd.S_drew HO_342002.out)
                   have n2_ := Aside0.mk (Kd.R_drew HO_351004.out)
                   have n3_ := Aside0.mk (Kd.R_drew HO_363004.out)
                   have n4_ := Aside0.mk (blk_drew BK331.out)
                   have n5_ := Aside0.mk (blk_drew BK341.out)
                   have n6_ := Aside0.mk (blk_drew BK350.out)
                   have n7_ := Aside0.mk (blk_drew BK362.out)
                   have n8_ := Aside0.mk (below_drew1 HB.out)
                   clear HO_15
                   clear HO_342002
                   clear HO_351004
                   clear HO_363004
                   clear BK331
                   clear BK341
                   clear BK350
                   clear BK362
                   clear HB
                   have HO_15 := n0_
                   have HO_342002 := n1_
                   have HO_351004 := n2_
                   have HO_363004 := n3_
                   have BK331 := n4_
                   have BK341 := n5_
                   have BK350 := n6_
                   have BK362 := n7_
                   have HB := n8_
                   clear n0_ n1_ n2_ n3_ n4_ n5_ n6_ n7_ n8_
                   obtain ⟨Ao110, co110, eo110⟩ := Kd.R_slice HO_15.out
                   (first | subst eo110 | (injection eo110 with f1_ f2_ f3_; have f4_ := f1_.symm; have f5_ := f3_.symm; clear f1_ f2_ f3_; subst f4_; subst f5_))
                   have p368 : 0 ≤ (t342 : Int) := of_decide_eq_true (by first | (with_reducible assumption) | assumption)
                   have q368 : t342 < (y365.length : Int) := of_decide_eq_true (by first | (with_reducible assumption) | assumption)
                   obtain ⟨ad368, e368, hx368_0⟩ := Kd.at_int (Kd.R_reads' HO_15.out).2.2 t342 p368 q368
                   cases e368
                   replace p368 := eq_true p368
                   replace q368 := eq_true q368
                   refine start_ (n := 45) (S := fun w' => w'.cell? ⟨gb362, 0, none⟩ = some (.int .i64 t354) ∧ w'.cell? ⟨gb362, 1, none⟩ = some (.int .i64 t355) ∧ w'.cell? ⟨gb362, 2, none⟩ = some (.int .i64 t356) ∧ w'.cell? ⟨gb362, 3, none⟩ = some (.int .i64 t357) ∧ w'.cell? ⟨gb362, 4, none⟩ = some (.slice Ao51 t358.length co51) ∧ w'.cell? ⟨gb350, 0, none⟩ = some (.int .i64 t342) ∧ w'.cell? ⟨gb350, 1, none⟩ = some (.int .i64 t343) ∧ w'.cell? ⟨gb350, 2, none⟩ = some (.int .i64 t344) ∧ w'.cell? ⟨gb350, 3, none⟩ = some (.int .i64 t345) ∧ w'.cell? ⟨gb350, 4, none⟩ = some (.slice Ao39 t346.length co39) ∧ w'.cell? (ad368.add (t342).toNat) = some (.int .i64 (rd y365 t342))) (ds := []) (zl 45 0) (by kernel_rfl) rfl rfl ⟨(blk_cell BK362.out 0).trans rfl, (blk_cell BK362.out 1).trans rfl, (blk_cell BK362.out 2).trans rfl, (blk_cell BK362.out 3).trans rfl, (blk_cell BK362.out 4).trans rfl, (blk_cell BK350.out 0).trans rfl, (blk_cell BK350.out 1).trans rfl, (blk_cell BK350.out 2).trans rfl, (blk_cell BK350.out 3).trans rfl, (blk_cell BK350.out 4).trans rfl, hx368_0⟩ (fun hHeld => ?_); refine with_tabW standstilllaw05_BlockMirror.tab13 standstilllaw05_BlockMirror.bits13 (fun HT_ HW_ => ?_)
                   generalize wc.drew = w109 at HO_15 HO_342002 HO_351004 HO_363004 BK331 BK341 BK350 BK362 HB hx368_0 hHeld ⊢
                   refine pure_ (i := 0) (N := some 92) (v := ?_) (a' := ?_) (zl 45 1) rfl rfl (any_of HT_.out (by kernel_rfl)) (fun _ _ _ h => h) (Or.inl ⟨by rfl, ?_⟩) ?_ ?_
                   rotate_left
                   ·
                    intro w'
                    go_simp
                    with_reducible rfl
                   rotate_left
                   ·
                    simp only [Act.put, zs, zs0, zs1, i64_w, i32_w]
                    rfl
                   refine pure_ (i := 2) (N := some 94) (v := ?_) (a' := ?_) (zl 45 5) rfl rfl (any_of HT_.out (by kernel_rfl)) (fun _ _ _ h => h) (Or.inl ⟨by rfl, ?_⟩) ?_ ?_
                   rotate_left
                   ·
                    intro w'
                    go_simp
                    with_reducible rfl
                   rotate_left
                   ·
                    simp only [Act.put, zs, zs0, zs1, i64_w, i32_w]
                    rfl
                   refine pure_ (i := 3) (N := some 95) (v := ?_) (a' := ?_) (zl 45 13) rfl rfl (any_of HT_.out (by kernel_rfl)) (fun _ _ _ h => h) (Or.inl ⟨by rfl, ?_⟩) ?_ ?_
                   rotate_left
                   ·
                    intro w'
                    go_simp
                    with_reducible rfl
                   rotate_left
                   ·
                    simp only [Act.put, zs, zs0, zs1, i64_w, i32_w]
                    rfl
                   refine take_ (i := 1) (N := some 93) (v := ?_) (a' := ?_) (zl 45 15) rfl rfl (take_ofW HT_.out HW_.out (by kernel_rfl)) (fun _ _ _ h => h) (Or.inl ⟨by rfl, ?_⟩) hHeld ?_ ?_
                   rotate_left
                   ·
                    rintro w' ⟨s0, s1, s2, s3, s4, s5, s6, s7, s8, s9, s10⟩
                    go_simp
                    with_reducible rfl
                   rotate_left
                   ·
                    simp only [Act.put, zs, zs0, zs1, i64_w, i32_w]
                    rfl
                   refine take_ (i := 4) (N := some 96) (v := ?_) (a' := ?_) (zl 45 31) rfl rfl (take_ofW HT_.out HW_.out (by kernel_rfl)) (fun _ _ _ h => h) (Or.inl ⟨by rfl, ?_⟩) hHeld ?_ ?_
                   rotate_left
                   ·
                    rintro w' ⟨s0, s1, s2, s3, s4, s5, s6, s7, s8, s9, s10⟩
                    go_simp
                    with_reducible rfl
                   rotate_left
                   ·
                    simp only [Act.put, zs, zs0, zs1, i64_w, i32_w]
                    rfl
                   refine pure_ (i := 5) (N := some 97) (v := ?_) (a' := ?_) (zl 45 63) rfl rfl (any_of HT_.out (by kernel_rfl)) (fun _ _ _ h => h) (Or.inl ⟨by rfl, ?_⟩) ?_ ?_
                   rotate_left
                   ·
                    intro w'
                    go_simp
                    with_reducible rfl
                   rotate_left
                   ·
                    simp only [Act.put, zs, zs0, zs1, i64_w, i32_w]
                    rfl
                   refine take_ (i := 6) (N := some 98) (v := ?_) (a' := ?_) (zl 45 127) rfl rfl (take_ofW HT_.out HW_.out (by kernel_rfl)) (fun _ _ _ h => h) (Or.inl ⟨by rfl, ?_⟩) hHeld ?_ ?_
                   rotate_left
                   ·
                    rintro w' ⟨s0, s1, s2, s3, s4, s5, s6, s7, s8, s9, s10⟩
                    go_simp
                    with_reducible rfl
                   rotate_left
                   ·
                    simp only [Act.put, zs, zs0, zs1, i64_w, i32_w]
                    rfl
                   refine pure_ (i := 7) (N := some 99) (v := ?_) (a' := ?_) (zl 45 255) rfl rfl (any_of HT_.out (by kernel_rfl)) (fun _ _ _ h => h) (Or.inl ⟨by rfl, ?_⟩) ?_ ?_
                   rotate_left
                   ·
                    intro w'
                    go_simp
                    with_reducible rfl
                   rotate_left
                   ·
                    simp only [Act.put, zs, zs0, zs1, i64_w, i32_w]
                    rfl
                   refine pure_ (i := 8) (N := some 100) (v := ?_) (a' := ?_) (zl 45 511) rfl rfl (any_of HT_.out (by kernel_rfl)) (fun _ _ _ h => h) (Or.inl ⟨by rfl, ?_⟩) ?_ ?_
                   rotate_left
                   ·
                    intro w'
                    go_simp
                    with_reducible rfl
                   rotate_left
                   ·
                    simp only [Act.put, zs, zs0, zs1, i64_w, i32_w]
                    rfl
                   refine pure_ (i := 9) (N := some 101) (v := ?_) (a' := ?_) (zl 45 1023) rfl rfl (any_of HT_.out (by kernel_rfl)) (fun _ _ _ h => h) (Or.inl ⟨by rfl, ?_⟩) ?_ ?_
                   rotate_left
                   ·
                    intro w'
                    go_simp
                    with_reducible rfl
                   rotate_left
                   ·
                    simp only [Act.put, zs, zs0, zs1, i64_w, i32_w]
                    rfl
                   refine pure_ (i := 11) (N := some 103) (v := ?_) (a' := ?_) (zl 45 3071) rfl rfl (any_of HT_.out (by kernel_rfl)) (fun _ _ _ h => h) (Or.inl ⟨by rfl, ?_⟩) ?_ ?_
                   rotate_left
                   ·
                    intro w'
                    go_simp
                    with_reducible rfl
                   rotate_left
                   ·
                    simp only [Act.put, zs, zs0, zs1, i64_w, i32_w]
                    rfl
                   refine take_ (i := 10) (N := some 102) (v := ?_) (a' := ?_) (zl 45 4095) rfl rfl (take_ofW HT_.out HW_.out (by kernel_rfl)) (fun _ _ _ h => h) (Or.inl ⟨by rfl, ?_⟩) hHeld ?_ ?_
                   rotate_left
                   ·
                    rintro w' ⟨s0, s1, s2, s3, s4, s5, s6, s7, s8, s9, s10⟩
                    go_simp
                    with_reducible rfl
                   rotate_left
                   ·
                    simp only [Act.put, zs, zs0, zs1, i64_w, i32_w]
                    rfl
                   refine take_ (i := 12) (N := some 104) (v := ?_) (a' := ?_) (zl 45 8191) rfl rfl (take_ofW HT_.out HW_.out (by kernel_rfl)) (fun _ _ _ h => h) (Or.inl ⟨by rfl, ?_⟩) hHeld ?_ ?_
                   rotate_left
                   ·
                    rintro w' ⟨s0, s1, s2, s3, s4, s5, s6, s7, s8, s9, s10⟩
                    go_simp
                    with_reducible rfl
                   rotate_left
                   ·
                    simp only [Act.put, zs, zs0, zs1, i64_w, i32_w]
                    rfl
                   refine pure_ (i := 13) (N := some 105) (v := ?_) (a' := ?_) (zl 45 16383) rfl rfl (any_of HT_.out (by kernel_rfl)) (fun _ _ _ h => h) (Or.inl ⟨by rfl, ?_⟩) ?_ ?_
                   rotate_left
                   ·
                    intro w'
                    go_simp
                    with_reducible rfl
                   rotate_left
                   ·
                    simp only [Act.put, zs, zs0, zs1, i64_w, i32_w]
                    rfl
                   refine pure_ (i := 14) (N := some 106) (v := ?_) (a' := ?_) (zl 45 32767) rfl rfl (any_of HT_.out (by kernel_rfl)) (fun _ _ _ h => h) (Or.inl ⟨by rfl, ?_⟩) ?_ ?_
                   rotate_left
                   ·
                    intro w'
                    go_simp
                    with_reducible rfl
                   rotate_left
                   ·
                    simp only [Act.put, zs, zs0, zs1, i64_w, i32_w]
                    rfl
                   refine pure_ (i := 15) (N := some 107) (v := ?_) (a' := ?_) (zl 45 65535) rfl rfl (any_of HT_.out (by kernel_rfl)) (fun _ _ _ h => h) (Or.inl ⟨by rfl, ?_⟩) ?_ ?_
                   rotate_left
                   ·
                    intro w'
                    go_simp
                    with_reducible rfl
                   rotate_left
                   ·
                    simp only [Act.put, zs, zs0, zs1, i64_w, i32_w]
                    rfl
                   refine pure_ (i := 16) (N := some 108) (v := ?_) (a' := ?_) (zl 45 131071) rfl rfl (any_of HT_.out (by kernel_rfl)) (fun _ _ _ h => h) (Or.inl ⟨by rfl, ?_⟩) ?_ ?_
                   rotate_left
                   ·
                    intro w'
                    go_simp
                    with_reducible rfl
                   rotate_left
                   ·
                    simp only [Act.put, zs, zs0, zs1, i64_w, i32_w]
                    rfl
                   refine pure_ (i := 18) (N := some 110) (v := ?_) (a' := ?_) (zl 45 393215) rfl rfl (any_of HT_.out (by kernel_rfl)) (fun _ _ _ h => h) (Or.inl ⟨by rfl, ?_⟩) ?_ ?_
                   rotate_left
                   ·
                    intro w'
                    go_simp
                    with_reducible rfl
                   rotate_left
                   ·
                    simp only [Act.put, zs, zs0, zs1, i64_w, i32_w]
                    rfl
                   refine take_ (i := 17) (N := some 109) (v := ?_) (a' := ?_) (zl 45 524287) rfl rfl (take_ofW HT_.out HW_.out (by kernel_rfl)) (fun _ _ _ h => h) (Or.inl ⟨by rfl, ?_⟩) hHeld ?_ ?_
                   rotate_left
                   ·
                    rintro w' ⟨s0, s1, s2, s3, s4, s5, s6, s7, s8, s9, s10⟩
                    go_simp
                    with_reducible rfl
                   rotate_left
                   ·
                    simp only [Act.put, zs, zs0, zs1, i64_w, i32_w]
                    rfl
                   refine take_ (i := 19) (N := some 111) (v := ?_) (a' := ?_) (zl 45 1048575) rfl rfl (take_ofW HT_.out HW_.out (by kernel_rfl)) (fun _ _ _ h => h) (Or.inl ⟨by rfl, ?_⟩) hHeld ?_ ?_
                   rotate_left
                   ·
                    rintro w' ⟨s0, s1, s2, s3, s4, s5, s6, s7, s8, s9, s10⟩
                    go_simp
                    with_reducible rfl
                   rotate_left
                   ·
                    simp only [Act.put, zs, zs0, zs1, i64_w, i32_w]
                    rfl
                   refine pure_ (i := 20) (N := some 112) (v := ?_) (a' := ?_) (zl 45 2097151) rfl rfl (any_of HT_.out (by kernel_rfl)) (fun _ _ _ h => h) (Or.inl ⟨by rfl, ?_⟩) ?_ ?_
                   rotate_left
                   ·
                    intro w'
                    go_simp
                    with_reducible rfl
                   rotate_left
                   ·
                    simp only [Act.put, zs, zs0, zs1, i64_w, i32_w]
                    rfl
                   refine pure_ (i := 21) (N := some 113) (v := ?_) (a' := ?_) (zl 45 4194303) rfl rfl (any_of HT_.out (by kernel_rfl)) (fun _ _ _ h => h) (Or.inl ⟨by rfl, ?_⟩) ?_ ?_
                   rotate_left
                   ·
                    intro w'
                    go_simp
                    with_reducible rfl
                   rotate_left
                   ·
                    simp only [Act.put, zs, zs0, zs1, i64_w, i32_w]
                    rfl
                   refine pure_ (i := 22) (N := some 114) (v := ?_) (a' := ?_) (zl 45 8388607) rfl rfl (any_of HT_.out (by kernel_rfl)) (fun _ _ _ h => h) (Or.inl ⟨by rfl, ?_⟩) ?_ ?_
                   rotate_left
                   ·
                    intro w'
                    go_simp
                    with_reducible rfl
                   rotate_left
                   ·
                    simp only [Act.put, zs, zs0, zs1, i64_w, i32_w]
                    rfl
                   refine pure_ (i := 23) (N := some 115) (v := ?_) (a' := ?_) (zl 45 16777215) rfl rfl (any_of HT_.out (by kernel_rfl)) (fun _ _ _ h => h) (Or.inl ⟨by rfl, ?_⟩) ?_ ?_
                   rotate_left
                   ·
                    intro w'
                    go_simp
                    with_reducible rfl
                   rotate_left
                   ·
                    simp only [Act.put, zs, zs0, zs1, i64_w, i32_w]
                    rfl
                   refine pure_ (i := 25) (N := some 117) (v := ?_) (a' := ?_) (zl 45 50331647) rfl rfl (any_of HT_.out (by kernel_rfl)) (fun _ _ _ h => h) (Or.inl ⟨by rfl, ?_⟩) ?_ ?_
                   rotate_left
                   ·
                    intro w'
                    go_simp
                    with_reducible rfl
                   rotate_left
                   ·
                    simp only [Act.put, zs, zs0, zs1, i64_w, i32_w]
                    rfl
                   refine pure_ (i := 26) (N := some 118) (v := ?_) (a' := ?_) (zl 45 117440511) rfl rfl (any_of HT_.out (by kernel_rfl)) (fun _ _ _ h => h) (Or.inl ⟨by rfl, ?_⟩) ?_ ?_
                   rotate_left
                   ·
                    intro w'
                    go_simp
                    with_reducible rfl
                   rotate_left
                   ·
                    simp only [Act.put, zs, zs0, zs1, i64_w, i32_w]
                    rfl
                   refine pure_ (i := 27) (N := some 119) (v := ?_) (a' := ?_) (zl 45 251658239) rfl rfl (any_of HT_.out (by kernel_rfl)) (fun _ _ _ h => h) (Or.inl ⟨by rfl, ?_⟩) ?_ ?_
                   rotate_left
                   ·
                    intro w'
                    go_simp
                    with_reducible rfl
                   rotate_left
                   ·
                    simp only [Act.put, zs, zs0, zs1, i64_w, i32_w]
                    rfl
                   refine pure_ (i := 28) (N := some 120) (v := ?_) (a' := ?_) (zl 45 520093695) rfl rfl (any_of HT_.out (by kernel_rfl)) (fun _ _ _ h => h) (Or.inl ⟨by rfl, ?_⟩) ?_ ?_
                   rotate_left
                   ·
                    intro w'
                    go_simp
                    with_reducible rfl
                   rotate_left
                   ·
                    simp only [Act.put, zs, zs0, zs1, i64_w, i32_w]
                    rfl
                   refine take_ (i := 24) (N := some 116) (v := ?_) (a' := ?_) (zl 45 536870911) rfl rfl (take_ofW HT_.out HW_.out (by kernel_rfl)) (fun _ _ _ h => h) (Or.inl ⟨by rfl, ?_⟩) hHeld ?_ ?_
                   rotate_left
                   ·
                    rintro w' ⟨s0, s1, s2, s3, s4, s5, s6, s7, s8, s9, s10⟩
                    go_simp
                    with_reducible rfl
                   rotate_left
                   ·
                    simp only [Act.put, zs, zs0, zs1, i64_w, i32_w]
                    rfl
                   refine take_ (i := 29) (N := some 121) (v := ?_) (a' := ?_) (zl 45 1073741823) rfl rfl (take_ofW HT_.out HW_.out (by kernel_rfl)) (fun _ _ _ h => h) (Or.inl ⟨by rfl, ?_⟩) hHeld ?_ ?_
                   rotate_left
                   ·
                    rintro w' ⟨s0, s1, s2, s3, s4, s5, s6, s7, s8, s9, s10⟩
                    go_simp
                    with_reducible rfl
                   rotate_left
                   ·
                    simp only [Act.put, zs, zs0, zs1, i64_w, i32_w]
                    rfl
                   refine pure_ (i := 30) (N := some 122) (v := ?_) (a' := ?_) (zl 45 2147483647) rfl rfl (any_of HT_.out (by kernel_rfl)) (fun _ _ _ h => h) (Or.inl ⟨by rfl, ?_⟩) ?_ ?_
                   rotate_left
                   ·
                    intro w'
                    go_simp
                    with_reducible rfl
                   rotate_left
                   ·
                    simp only [Act.put, zs, zs0, zs1, i64_w, i32_w]
                    rfl
                   refine pure_ (i := 31) (N := some 123) (v := ?_) (a' := ?_) (zl 45 4294967295) rfl rfl (any_of HT_.out (by kernel_rfl)) (fun _ _ _ h => h) (Or.inl ⟨by rfl, ?_⟩) ?_ ?_
                   rotate_left
                   ·
                    intro w'
                    go_simp
                    with_reducible rfl
                   rotate_left
                   ·
                    simp only [Act.put, zs, zs0, zs1, i64_w, i32_w]
                    rfl
                   refine pure_ (i := 32) (N := some 124) (v := ?_) (a' := ?_) (zl 45 8589934591) rfl rfl (any_of HT_.out (by kernel_rfl)) (fun _ _ _ h => h) (Or.inl ⟨by rfl, ?_⟩) ?_ ?_
                   rotate_left
                   ·
                    intro w'
                    go_simp
                    with_reducible rfl
                   rotate_left
                   ·
                    simp only [Act.put, zs, zs0, zs1, i64_w, i32_w]
                    rfl
                   refine pure_ (i := 33) (N := some 125) (v := ?_) (a' := ?_) (zl 45 17179869183) rfl rfl (any_of HT_.out (by kernel_rfl)) (fun _ _ _ h => h) (Or.inl ⟨by rfl, ?_⟩) ?_ ?_
                   rotate_left
                   ·
                    intro w'
                    go_simp
                    with_reducible rfl
                   rotate_left
                   ·
                    simp only [Act.put, zs, zs0, zs1, i64_w, i32_w]
                    rfl
                   refine pure_ (i := 34) (N := some 126) (v := undef) (a' := ?_) (zl 45 34359738367) rfl rfl (any_of HT_.out (by kernel_rfl)) (fun _ _ _ h => h) (Or.inr ⟨by rfl, rfl⟩) ?_ ?_
                   rotate_left
                   ·
                    simp only [Act.put, zs, zs0, zs1, i64_w, i32_w]
                    rfl
                   refine pure_ (i := 35) (N := some 127) (v := undef) (a' := ?_) (zl 45 68719476735) rfl rfl (any_of HT_.out (by kernel_rfl)) (fun _ _ _ h => h) (Or.inr ⟨by rfl, rfl⟩) ?_ ?_
                   rotate_left
                   ·
                    simp only [Act.put, zs, zs0, zs1, i64_w, i32_w]
                    rfl
                   refine pure_ (i := 36) (N := some 128) (v := undef) (a' := ?_) (zl 45 137438953471) rfl rfl (any_of HT_.out (by kernel_rfl)) (fun _ _ _ h => h) (Or.inr ⟨by rfl, rfl⟩) ?_ ?_
                   rotate_left
                   ·
                    simp only [Act.put, zs, zs0, zs1, i64_w, i32_w]
                    rfl
                   refine pure_ (i := 37) (N := some 129) (v := undef) (a' := ?_) (zl 45 274877906943) rfl rfl (any_of HT_.out (by kernel_rfl)) (fun _ _ _ h => h) (Or.inr ⟨by rfl, rfl⟩) ?_ ?_
                   rotate_left
                   ·
                    simp only [Act.put, zs, zs0, zs1, i64_w, i32_w]
                    rfl
                   refine pure_ (i := 38) (N := some 130) (v := undef) (a' := ?_) (zl 45 549755813887) rfl rfl (any_of HT_.out (by kernel_rfl)) (fun _ _ _ h => h) (Or.inr ⟨by rfl, rfl⟩) ?_ ?_
                   rotate_left
                   ·
                    simp only [Act.put, zs, zs0, zs1, i64_w, i32_w]
                    rfl
                   refine pure_ (i := 39) (N := some 131) (v := undef) (a' := ?_) (zl 45 1099511627775) rfl rfl (any_of HT_.out (by kernel_rfl)) (fun _ _ _ h => h) (Or.inr ⟨by rfl, rfl⟩) ?_ ?_
                   rotate_left
                   ·
                    simp only [Act.put, zs, zs0, zs1, i64_w, i32_w]
                    rfl
                   refine pure_ (i := 40) (N := some 132) (v := ?_) (a' := ?_) (zl 45 2199023255551) rfl rfl (any_of HT_.out (by kernel_rfl)) (fun _ _ _ h => h) (Or.inl ⟨by rfl, ?_⟩) ?_ ?_
                   rotate_left
                   ·
                    intro w'
                    go_simp
                    with_reducible rfl
                   rotate_left
                   ·
                    simp only [Act.put, zs, zs0, zs1, i64_w, i32_w]
                    rfl
                   refine pure_ (i := 41) (N := some 133) (v := ?_) (a' := ?_) (zl 45 4398046511103) rfl rfl (any_of HT_.out (by kernel_rfl)) (fun _ _ _ h => h) (Or.inl ⟨by rfl, ?_⟩) ?_ ?_
                   rotate_left
                   ·
                    intro w'
                    go_simp
                    with_reducible rfl
                   rotate_left
                   ·
                    simp only [Act.put, zs, zs0, zs1, i64_w, i32_w]
                    rfl
                   refine pure_ (i := 42) (N := some 134) (v := undef) (a' := ?_) (zl 45 8796093022207) rfl rfl (any_of HT_.out (by kernel_rfl)) (fun _ _ _ h => h) (Or.inr ⟨by rfl, rfl⟩) ?_ ?_
                   rotate_left
                   ·
                    simp only [Act.put, zs, zs0, zs1, i64_w, i32_w]
                    rfl
                   refine pure_ (i := 43) (N := some 135) (v := ?_) (a' := ?_) (zl 45 17592186044415) rfl rfl (any_of HT_.out (by kernel_rfl)) (fun _ _ _ h => h) (Or.inl ⟨by rfl, ?_⟩) ?_ ?_
                   rotate_left
                   ·
                    intro w'
                    go_simp
                    with_reducible rfl
                   rotate_left
                   ·
                    simp only [Act.put, zs, zs0, zs1, i64_w, i32_w]
                    rfl
                   refine pure_ (i := 44) (N := some 8) (v := ?_) (a' := ?_) (zl 45 35184372088831) rfl rfl (any_of HT_.out (by kernel_rfl)) (fun _ _ _ h => h) (Or.inl ⟨by rfl, ?_⟩) ?_ ?_
                   rotate_left
                   ·
                    intro w'
                    go_simp
                    with_reducible rfl
                   rotate_left
                   ·
                    simp only [Act.put, zs, zs0, zs1, i64_w, i32_w]
                    rfl
                   refine done_ (done_of HT_.out (by kernel_rfl)) ?_
                   try go_wp2
                   go_ret
                   exact ⟨by first | rfl | (simp [errW_none, errW_some] <;> rfl) | (simp [*, errW_none, errW_some] <;> rfl), zB HB⟩
                 ·
                  rw [if_neg c94] at H
                  have c94b0 : (t356 == t344) = false := beq_eq_false_iff_ne.mpr c94
                  have c94b1 : (t356 != t344) = true := bne_iff_ne.mpr c94
                  obtain rfl := Option.some.inj H
                  try go_wp2
                  have n0_ := Aside0.mk (Kd.R_drew HO_15.out)
                  have n1_ := Aside0.mk (Kd.S_drew HO_342002.out)
                  have n2_ := Aside0.mk (Kd.R_drew HO_351004.out)
                  have n3_ := Aside0.mk (Kd.R_drew HO_363004.out)
                  have n4_ := Aside0.mk (blk_drew BK331.out)
                  have n5_ := Aside0.mk (blk_drew BK341.out)
                  have n6_ := Aside0.mk (blk_drew BK350.out)
                  have n7_ := Aside0.mk (blk_drew BK362.out)
                  have n8_ := Aside0.mk (below_drew1 HB.out)
                  clear HO_15
                  clear HO_342002
                  clear HO_351004
                  clear HO_363004
                  clear BK331
                  clear BK341
                  clear BK350
                  clear BK362
                  clear HB
                  have HO_15 := n0_
                  have HO_342002 := n1_
                  have HO_351004 := n2_
                  have HO_363004 := n3_
                  have BK331 := n4_
                  have BK341 := n5_
                  have BK350 := n6_
                  have BK362 := n7_
                  have HB := n8_
                  clear n0_ n1_ n2_ n3_ n4_ n5_ n6_ n7_ n8_
                  obtain ⟨Ao112, co112, eo112⟩ := Kd.R_slice HO_15.out
                  (first | subst eo112 | (injection eo112 with f1_ f2_ f3_; have f4_ := f1_.symm; have f5_ := f3_.symm; clear f1_ f2_ f3_; subst f4_; subst f5_))
                  have p368 : 0 ≤ (t342 : Int) := of_decide_eq_true (by first | (with_reducible assumption) | assumption)
                  have q368 : t342 < (y365.length : Int) := of_decide_eq_true (by first | (with_reducible assumption) | assumption)
                  obtain ⟨ad368, e368, hx368_0⟩ := Kd.at_int (Kd.R_reads' HO_15.out).2.2 t342 p368 q368
                  cases e368
                  replace p368 := eq_true p368
                  replace q368 := eq_true q368
                  refine start_ (n := 45) (S := fun w' => w'.cell? ⟨gb362, 0, none⟩ = some (.int .i64 t354) ∧ w'.cell? ⟨gb362, 1, none⟩ = some (.int .i64 t355) ∧ w'.cell? ⟨gb362, 2, none⟩ = some (.int .i64 t356) ∧ w'.cell? ⟨gb362, 3, none⟩ = some (.int .i64 t357) ∧ w'.cell? ⟨gb362, 4, none⟩ = some (.slice Ao51 t358.length co51) ∧ w'.cell? ⟨gb350, 0, none⟩ = some (.int .i64 t342) ∧ w'.cell? ⟨gb350, 1, none⟩ = some (.int .i64 t343) ∧ w'.cell? ⟨gb350, 2, none⟩ = some (.int .i64 t344) ∧ w'.cell? ⟨gb350, 3, none⟩ = some (.int .i64 t345) ∧ w'.cell? ⟨gb350, 4, none⟩ = some (.slice Ao39 t346.length co39) ∧ w'.cell? (ad368.add (t342).toNat) = some (.int .i64 (rd y365 t342))) (ds := []) (zl 45 0) (by kernel_rfl) rfl rfl ⟨(blk_cell BK362.out 0).trans rfl, (blk_cell BK362.out 1).trans rfl, (blk_cell BK362.out 2).trans rfl, (blk_cell BK362.out 3).trans rfl, (blk_cell BK362.out 4).trans rfl, (blk_cell BK350.out 0).trans rfl, (blk_cell BK350.out 1).trans rfl, (blk_cell BK350.out 2).trans rfl, (blk_cell BK350.out 3).trans rfl, (blk_cell BK350.out 4).trans rfl, hx368_0⟩ (fun hHeld => ?_); refine with_tabW standstilllaw05_BlockMirror.tab13 standstilllaw05_BlockMirror.bits13 (fun HT_ HW_ => ?_)
                  generalize wc.drew = w111 at HO_15 HO_342002 HO_351004 HO_363004 BK331 BK341 BK350 BK362 HB hx368_0 hHeld ⊢
                  refine pure_ (i := 0) (N := some 92) (v := ?_) (a' := ?_) (zl 45 1) rfl rfl (any_of HT_.out (by kernel_rfl)) (fun _ _ _ h => h) (Or.inl ⟨by rfl, ?_⟩) ?_ ?_
                  rotate_left
                  ·
                   intro w'
                   go_simp
                   with_reducible rfl
                  rotate_left
                  ·
                   simp only [Act.put, zs, zs0, zs1, i64_w, i32_w]
                   rfl
                  refine pure_ (i := 2) (N := some 94) (v := ?_) (a' := ?_) (zl 45 5) rfl rfl (any_of HT_.out (by kernel_rfl)) (fun _ _ _ h => h) (Or.inl ⟨by rfl, ?_⟩) ?_ ?_
                  rotate_left
                  ·
                   intro w'
                   go_simp
                   with_reducible rfl
                  rotate_left
                  ·
                   simp only [Act.put, zs, zs0, zs1, i64_w, i32_w]
                   rfl
                  refine pure_ (i := 3) (N := some 95) (v := ?_) (a' := ?_) (zl 45 13) rfl rfl (any_of HT_.out (by kernel_rfl)) (fun _ _ _ h => h) (Or.inl ⟨by rfl, ?_⟩) ?_ ?_
                  rotate_left
                  ·
                   intro w'
                   go_simp
                   with_reducible rfl
                  rotate_left
                  ·
                   simp only [Act.put, zs, zs0, zs1, i64_w, i32_w]
                   rfl
                  refine take_ (i := 1) (N := some 93) (v := ?_) (a' := ?_) (zl 45 15) rfl rfl (take_ofW HT_.out HW_.out (by kernel_rfl)) (fun _ _ _ h => h) (Or.inl ⟨by rfl, ?_⟩) hHeld ?_ ?_
                  rotate_left
                  ·
                   rintro w' ⟨s0, s1, s2, s3, s4, s5, s6, s7, s8, s9, s10⟩
                   go_simp
                   with_reducible rfl
                  rotate_left
                  ·
                   simp only [Act.put, zs, zs0, zs1, i64_w, i32_w]
                   rfl
                  refine take_ (i := 4) (N := some 96) (v := ?_) (a' := ?_) (zl 45 31) rfl rfl (take_ofW HT_.out HW_.out (by kernel_rfl)) (fun _ _ _ h => h) (Or.inl ⟨by rfl, ?_⟩) hHeld ?_ ?_
                  rotate_left
                  ·
                   rintro w' ⟨s0, s1, s2, s3, s4, s5, s6, s7, s8, s9, s10⟩
                   go_simp
                   with_reducible rfl
                  rotate_left
                  ·
                   simp only [Act.put, zs, zs0, zs1, i64_w, i32_w]
                   rfl
                  refine pure_ (i := 5) (N := some 97) (v := ?_) (a' := ?_) (zl 45 63) rfl rfl (any_of HT_.out (by kernel_rfl)) (fun _ _ _ h => h) (Or.inl ⟨by rfl, ?_⟩) ?_ ?_
                  rotate_left
                  ·
                   intro w'
                   go_simp
                   with_reducible rfl
                  rotate_left
                  ·
                   simp only [Act.put, zs, zs0, zs1, i64_w, i32_w]
                   rfl
                  refine take_ (i := 6) (N := some 98) (v := ?_) (a' := ?_) (zl 45 127) rfl rfl (take_ofW HT_.out HW_.out (by kernel_rfl)) (fun _ _ _ h => h) (Or.inl ⟨by rfl, ?_⟩) hHeld ?_ ?_
                  rotate_left
                  ·
                   rintro w' ⟨s0, s1, s2, s3, s4, s5, s6, s7, s8, s9, s10⟩
                   go_simp
                   with_reducible rfl
                  rotate_left
                  ·
                   simp only [Act.put, zs, zs0, zs1, i64_w, i32_w]
                   rfl
                  refine pure_ (i := 7) (N := some 99) (v := ?_) (a' := ?_) (zl 45 255) rfl rfl (any_of HT_.out (by kernel_rfl)) (fun _ _ _ h => h) (Or.inl ⟨by rfl, ?_⟩) ?_ ?_
                  rotate_left
                  ·
                   intro w'
                   go_simp
                   with_reducible rfl
                  rotate_left
                  ·
                   simp only [Act.put, zs, zs0, zs1, i64_w, i32_w]
                   rfl
                  refine pure_ (i := 8) (N := some 100) (v := ?_) (a' := ?_) (zl 45 511) rfl rfl (any_of HT_.out (by kernel_rfl)) (fun _ _ _ h => h) (Or.inl ⟨by rfl, ?_⟩) ?_ ?_
                  rotate_left
                  ·
                   intro w'
                   go_simp
                   with_reducible rfl
                  rotate_left
                  ·
                   simp only [Act.put, zs, zs0, zs1, i64_w, i32_w]
                   rfl
                  refine pure_ (i := 9) (N := some 101) (v := ?_) (a' := ?_) (zl 45 1023) rfl rfl (any_of HT_.out (by kernel_rfl)) (fun _ _ _ h => h) (Or.inl ⟨by rfl, ?_⟩) ?_ ?_
                  rotate_left
                  ·
                   intro w'
                   go_simp
                   with_reducible rfl
                  rotate_left
                  ·
                   simp only [Act.put, zs, zs0, zs1, i64_w, i32_w]
                   rfl
                  refine pure_ (i := 11) (N := some 103) (v := ?_) (a' := ?_) (zl 45 3071) rfl rfl (any_of HT_.out (by kernel_rfl)) (fun _ _ _ h => h) (Or.inl ⟨by rfl, ?_⟩) ?_ ?_
                  rotate_left
                  ·
                   intro w'
                   go_simp
                   with_reducible rfl
                  rotate_left
                  ·
                   simp only [Act.put, zs, zs0, zs1, i64_w, i32_w]
                   rfl
                  refine take_ (i := 10) (N := some 102) (v := ?_) (a' := ?_) (zl 45 4095) rfl rfl (take_ofW HT_.out HW_.out (by kernel_rfl)) (fun _ _ _ h => h) (Or.inl ⟨by rfl, ?_⟩) hHeld ?_ ?_
                  rotate_left
                  ·
                   rintro w' ⟨s0, s1, s2, s3, s4, s5, s6, s7, s8, s9, s10⟩
                   go_simp
                   with_reducible rfl
                  rotate_left
                  ·
                   simp only [Act.put, zs, zs0, zs1, i64_w, i32_w]
                   rfl
                  refine take_ (i := 12) (N := some 104) (v := ?_) (a' := ?_) (zl 45 8191) rfl rfl (take_ofW HT_.out HW_.out (by kernel_rfl)) (fun _ _ _ h => h) (Or.inl ⟨by rfl, ?_⟩) hHeld ?_ ?_
                  rotate_left
                  ·
                   rintro w' ⟨s0, s1, s2, s3, s4, s5, s6, s7, s8, s9, s10⟩
                   go_simp
                   with_reducible rfl
                  rotate_left
                  ·
                   simp only [Act.put, zs, zs0, zs1, i64_w, i32_w]
                   rfl
                  refine pure_ (i := 13) (N := some 105) (v := ?_) (a' := ?_) (zl 45 16383) rfl rfl (any_of HT_.out (by kernel_rfl)) (fun _ _ _ h => h) (Or.inl ⟨by rfl, ?_⟩) ?_ ?_
                  rotate_left
                  ·
                   intro w'
                   go_simp
                   with_reducible rfl
                  rotate_left
                  ·
                   simp only [Act.put, zs, zs0, zs1, i64_w, i32_w]
                   rfl
                  refine pure_ (i := 14) (N := some 106) (v := ?_) (a' := ?_) (zl 45 32767) rfl rfl (any_of HT_.out (by kernel_rfl)) (fun _ _ _ h => h) (Or.inl ⟨by rfl, ?_⟩) ?_ ?_
                  rotate_left
                  ·
                   intro w'
                   go_simp
                   with_reducible rfl
                  rotate_left
                  ·
                   simp only [Act.put, zs, zs0, zs1, i64_w, i32_w]
                   rfl
                  refine pure_ (i := 15) (N := some 107) (v := ?_) (a' := ?_) (zl 45 65535) rfl rfl (any_of HT_.out (by kernel_rfl)) (fun _ _ _ h => h) (Or.inl ⟨by rfl, ?_⟩) ?_ ?_
                  rotate_left
                  ·
                   intro w'
                   go_simp
                   with_reducible rfl
                  rotate_left
                  ·
                   simp only [Act.put, zs, zs0, zs1, i64_w, i32_w]
                   rfl
                  refine pure_ (i := 16) (N := some 108) (v := ?_) (a' := ?_) (zl 45 131071) rfl rfl (any_of HT_.out (by kernel_rfl)) (fun _ _ _ h => h) (Or.inl ⟨by rfl, ?_⟩) ?_ ?_
                  rotate_left
                  ·
                   intro w'
                   go_simp
                   with_reducible rfl
                  rotate_left
                  ·
                   simp only [Act.put, zs, zs0, zs1, i64_w, i32_w]
                   rfl
                  refine pure_ (i := 18) (N := some 110) (v := ?_) (a' := ?_) (zl 45 393215) rfl rfl (any_of HT_.out (by kernel_rfl)) (fun _ _ _ h => h) (Or.inl ⟨by rfl, ?_⟩) ?_ ?_
                  rotate_left
                  ·
                   intro w'
                   go_simp
                   with_reducible rfl
                  rotate_left
                  ·
                   simp only [Act.put, zs, zs0, zs1, i64_w, i32_w]
                   rfl
                  refine take_ (i := 17) (N := some 109) (v := ?_) (a' := ?_) (zl 45 524287) rfl rfl (take_ofW HT_.out HW_.out (by kernel_rfl)) (fun _ _ _ h => h) (Or.inl ⟨by rfl, ?_⟩) hHeld ?_ ?_
                  rotate_left
                  ·
                   rintro w' ⟨s0, s1, s2, s3, s4, s5, s6, s7, s8, s9, s10⟩
                   go_simp
                   with_reducible rfl
                  rotate_left
                  ·
                   simp only [Act.put, zs, zs0, zs1, i64_w, i32_w]
                   rfl
                  refine take_ (i := 19) (N := some 111) (v := ?_) (a' := ?_) (zl 45 1048575) rfl rfl (take_ofW HT_.out HW_.out (by kernel_rfl)) (fun _ _ _ h => h) (Or.inl ⟨by rfl, ?_⟩) hHeld ?_ ?_
                  rotate_left
                  ·
                   rintro w' ⟨s0, s1, s2, s3, s4, s5, s6, s7, s8, s9, s10⟩
                   go_simp
                   with_reducible rfl
                  rotate_left
                  ·
                   simp only [Act.put, zs, zs0, zs1, i64_w, i32_w]
                   rfl
                  refine pure_ (i := 20) (N := some 112) (v := ?_) (a' := ?_) (zl 45 2097151) rfl rfl (any_of HT_.out (by kernel_rfl)) (fun _ _ _ h => h) (Or.inl ⟨by rfl, ?_⟩) ?_ ?_
                  rotate_left
                  ·
                   intro w'
                   go_simp
                   with_reducible rfl
                  rotate_left
                  ·
                   simp only [Act.put, zs, zs0, zs1, i64_w, i32_w]
                   rfl
                  refine pure_ (i := 21) (N := some 113) (v := ?_) (a' := ?_) (zl 45 4194303) rfl rfl (any_of HT_.out (by kernel_rfl)) (fun _ _ _ h => h) (Or.inl ⟨by rfl, ?_⟩) ?_ ?_
                  rotate_left
                  ·
                   intro w'
                   go_simp
                   with_reducible rfl
                  rotate_left
                  ·
                   simp only [Act.put, zs, zs0, zs1, i64_w, i32_w]
                   rfl
                  refine pure_ (i := 22) (N := some 114) (v := ?_) (a' := ?_) (zl 45 8388607) rfl rfl (any_of HT_.out (by kernel_rfl)) (fun _ _ _ h => h) (Or.inl ⟨by rfl, ?_⟩) ?_ ?_
                  rotate_left
                  ·
                   intro w'
                   go_simp
                   with_reducible rfl
                  rotate_left
                  ·
                   simp only [Act.put, zs, zs0, zs1, i64_w, i32_w]
                   rfl
                  refine pure_ (i := 23) (N := some 115) (v := undef) (a' := ?_) (zl 45 16777215) rfl rfl (any_of HT_.out (by kernel_rfl)) (fun _ _ _ h => h) (Or.inr ⟨by rfl, rfl⟩) ?_ ?_
                  rotate_left
                  ·
                   simp only [Act.put, zs, zs0, zs1, i64_w, i32_w]
                   rfl
                  refine pure_ (i := 24) (N := some 116) (v := undef) (a' := ?_) (zl 45 33554431) rfl rfl (any_of HT_.out (by kernel_rfl)) (fun _ _ _ h => h) (Or.inr ⟨by rfl, rfl⟩) ?_ ?_
                  rotate_left
                  ·
                   simp only [Act.put, zs, zs0, zs1, i64_w, i32_w]
                   rfl
                  refine pure_ (i := 25) (N := some 117) (v := undef) (a' := ?_) (zl 45 67108863) rfl rfl (any_of HT_.out (by kernel_rfl)) (fun _ _ _ h => h) (Or.inr ⟨by rfl, rfl⟩) ?_ ?_
                  rotate_left
                  ·
                   simp only [Act.put, zs, zs0, zs1, i64_w, i32_w]
                   rfl
                  refine pure_ (i := 26) (N := some 118) (v := undef) (a' := ?_) (zl 45 134217727) rfl rfl (any_of HT_.out (by kernel_rfl)) (fun _ _ _ h => h) (Or.inr ⟨by rfl, rfl⟩) ?_ ?_
                  rotate_left
                  ·
                   simp only [Act.put, zs, zs0, zs1, i64_w, i32_w]
                   rfl
                  refine pure_ (i := 27) (N := some 119) (v := undef) (a' := ?_) (zl 45 268435455) rfl rfl (any_of HT_.out (by kernel_rfl)) (fun _ _ _ h => h) (Or.inr ⟨by rfl, rfl⟩) ?_ ?_
                  rotate_left
                  ·
                   simp only [Act.put, zs, zs0, zs1, i64_w, i32_w]
                   rfl
                  refine pure_ (i := 28) (N := some 120) (v := undef) (a' := ?_) (zl 45 536870911) rfl rfl (any_of HT_.out (by kernel_rfl)) (fun _ _ _ h => h) (Or.inr ⟨by rfl, rfl⟩) ?_ ?_
                  rotate_left
                  ·
                   simp only [Act.put, zs, zs0, zs1, i64_w, i32_w]
                   rfl
                  refine pure_ (i := 29) (N := some 121) (v := undef) (a' := ?_) (zl 45 1073741823) rfl rfl (any_of HT_.out (by kernel_rfl)) (fun _ _ _ h => h) (Or.inr ⟨by rfl, rfl⟩) ?_ ?_
                  rotate_left
                  ·
                   simp only [Act.put, zs, zs0, zs1, i64_w, i32_w]
                   rfl
                  refine pure_ (i := 30) (N := some 122) (v := undef) (a' := ?_) (zl 45 2147483647) rfl rfl (any_of HT_.out (by kernel_rfl)) (fun _ _ _ h => h) (Or.inr ⟨by rfl, rfl⟩) ?_ ?_
                  rotate_left
                  ·
                   simp only [Act.put, zs, zs0, zs1, i64_w, i32_w]
                   rfl
                  refine pure_ (i := 31) (N := some 123) (v := undef) (a' := ?_) (zl 45 4294967295) rfl rfl (any_of HT_.out (by kernel_rfl)) (fun _ _ _ h => h) (Or.inr ⟨by rfl, rfl⟩) ?_ ?_
                  rotate_left
                  ·
                   simp only [Act.put, zs, zs0, zs1, i64_w, i32_w]
                   rfl
                  refine pure_ (i := 32) (N := some 124) (v := ?_) (a' := ?_) (zl 45 8589934591) rfl rfl (any_of HT_.out (by kernel_rfl)) (fun _ _ _ h => h) (Or.inl ⟨by rfl, ?_⟩) ?_ ?_
                  rotate_left
                  ·
                   intro w'
                   go_simp
                   with_reducible rfl
                  rotate_left
                  ·
                   simp only [Act.put, zs, zs0, zs1, i64_w, i32_w]
                   rfl
                  refine pure_ (i := 33) (N := some 125) (v := ?_) (a' := ?_) (zl 45 17179869183) rfl rfl (any_of HT_.out (by kernel_rfl)) (fun _ _ _ h => h) (Or.inl ⟨by rfl, ?_⟩) ?_ ?_
                  rotate_left
                  ·
                   intro w'
                   go_simp
                   with_reducible rfl
                  rotate_left
                  ·
                   simp only [Act.put, zs, zs0, zs1, i64_w, i32_w]
                   rfl
                  refine pure_ (i := 34) (N := some 126) (v := undef) (a' := ?_) (zl 45 34359738367) rfl rfl (any_of HT_.out (by kernel_rfl)) (fun _ _ _ h => h) (Or.inr ⟨by rfl, rfl⟩) ?_ ?_
                  rotate_left
                  ·
                   simp only [Act.put, zs, zs0, zs1, i64_w, i32_w]
                   rfl
                  refine pure_ (i := 35) (N := some 127) (v := undef) (a' := ?_) (zl 45 68719476735) rfl rfl (any_of HT_.out (by kernel_rfl)) (fun _ _ _ h => h) (Or.inr ⟨by rfl, rfl⟩) ?_ ?_
                  rotate_left
                  ·
                   simp only [Act.put, zs, zs0, zs1, i64_w, i32_w]
                   rfl
                  refine pure_ (i := 36) (N := some 128) (v := undef) (a' := ?_) (zl 45 137438953471) rfl rfl (any_of HT_.out (by kernel_rfl)) (fun _ _ _ h => h) (Or.inr ⟨by rfl, rfl⟩) ?_ ?_
                  rotate_left
                  ·
                   simp only [Act.put, zs, zs0, zs1, i64_w, i32_w]
                   rfl
                  refine pure_ (i := 37) (N := some 129) (v := undef) (a' := ?_) (zl 45 274877906943) rfl rfl (any_of HT_.out (by kernel_rfl)) (fun _ _ _ h => h) (Or.inr ⟨by rfl, rfl⟩) ?_ ?_
                  rotate_left
                  ·
                   simp only [Act.put, zs, zs0, zs1, i64_w, i32_w]
                   rfl
                  refine pure_ (i := 38) (N := some 130) (v := undef) (a' := ?_) (zl 45 549755813887) rfl rfl (any_of HT_.out (by kernel_rfl)) (fun _ _ _ h => h) (Or.inr ⟨by rfl, rfl⟩) ?_ ?_
                  rotate_left
                  ·
                   simp only [Act.put, zs, zs0, zs1, i64_w, i32_w]
                   rfl
                  refine pure_ (i := 39) (N := some 131) (v := undef) (a' := ?_) (zl 45 1099511627775) rfl rfl (any_of HT_.out (by kernel_rfl)) (fun _ _ _ h => h) (Or.inr ⟨by rfl, rfl⟩) ?_ ?_
                  rotate_left
                  ·
                   simp only [Act.put, zs, zs0, zs1, i64_w, i32_w]
                   rfl
                  refine pure_ (i := 40) (N := some 132) (v := ?_) (a' := ?_) (zl 45 2199023255551) rfl rfl (any_of HT_.out (by kernel_rfl)) (fun _ _ _ h => h) (Or.inl ⟨by rfl, ?_⟩) ?_ ?_
                  rotate_left
                  ·
                   intro w'
                   go_simp
                   with_reducible rfl
                  rotate_left
                  ·
                   simp only [Act.put, zs, zs0, zs1, i64_w, i32_w]
                   rfl
                  refine pure_ (i := 41) (N := some 133) (v := ?_) (a' := ?_) (zl 45 4398046511103) rfl rfl (any_of HT_.out (by kernel_rfl)) (fun _ _ _ h => h) (Or.inl ⟨by rfl, ?_⟩) ?_ ?_
                  rotate_left
                  ·
                   intro w'
                   go_simp
                   with_reducible rfl
                  rotate_left
                  ·
                   simp only [Act.put, zs, zs0, zs1, i64_w, i32_w]
                   rfl
                  refine pure_ (i := 42) (N := some 134) (v := undef) (a' := ?_) (zl 45 8796093022207) rfl rfl (any_of HT_.out (by kernel_rfl)) (fun _ _ _ h => h) (Or.inr ⟨by rfl, rfl⟩) ?_ ?_
                  rotate_left
                  ·
                   simp only [Act.put, zs, zs0, zs1, i64_w, i32_w]
                   rfl
                  refine pure_ (i := 43) (N := some 135) (v := ?_) (a' := ?_) (zl 45 17592186044415) rfl rfl (any_of HT_.out (by kernel_rfl)) (fun _ _ _ h => h) (Or.inl ⟨by rfl, ?_⟩) ?_ ?_
                  rotate_left
                  ·
                   intro w'
                   go_simp
                   with_reducible rfl
                  rotate_left
                  ·
                   simp only [Act.put, zs, zs0, zs1, i64_w, i32_w]
                   rfl
                  refine pure_ (i := 44) (N := some 8) (v := ?_) (a' := ?_) (zl 45 35184372088831) rfl rfl (any_of HT_.out (by kernel_rfl)) (fun _ _ _ h => h) (Or.inl ⟨by rfl, ?_⟩) ?_ ?_
                  rotate_left
                  ·
                   intro w'
                   go_simp
                   with_reducible rfl
                  rotate_left
                  ·
                   simp only [Act.put, zs, zs0, zs1, i64_w, i32_w]
                   rfl
                  refine done_ (done_of HT_.out (by kernel_rfl)) ?_
                  try go_wp2
                  go_ret
                  exact ⟨by first | rfl | (simp [errW_none, errW_some] <;> rfl) | (simp [*, errW_none, errW_some] <;> rfl), zB HB⟩
                ·
                 rw [if_neg c93] at H
                 have c93b0 : (t355 == t343) = false := beq_eq_false_iff_ne.mpr c93
                 have c93b1 : (t355 != t343) = true := bne_iff_ne.mpr c93
                 obtain rfl := Option.some.inj H
                 try go_wp2
                 have n0_ := Aside0.mk (Kd.R_drew HO_15.out)
                 have n1_ := Aside0.mk (Kd.S_drew HO_342002.out)
                 have n2_ := Aside0.mk (Kd.R_drew HO_351004.out)
                 have n3_ := Aside0.mk (Kd.R_drew HO_363004.out)
                 have n4_ := Aside0.mk (blk_drew BK331.out)
                 have n5_ := Aside0.mk (blk_drew BK341.out)
                 have n6_ := Aside0.mk (blk_drew BK350.out)
                 have n7_ := Aside0.mk (blk_drew BK362.out)
                 have n8_ := Aside0.mk (below_drew1 HB.out)
                 clear HO_15
                 clear HO_342002
                 clear HO_351004
                 clear HO_363004
                 clear BK331
                 clear BK341
                 clear BK350
                 clear BK362
                 clear HB
                 have HO_15 := n0_
                 have HO_342002 := n1_
                 have HO_351004 := n2_
                 have HO_363004 := n3_
                 have BK331 := n4_
                 have BK341 := n5_
                 have BK350 := n6_
                 have BK362 := n7_
                 have HB := n8_
                 clear n0_ n1_ n2_ n3_ n4_ n5_ n6_ n7_ n8_
                 obtain ⟨Ao114, co114, eo114⟩ := Kd.R_slice HO_15.out
                 (first | subst eo114 | (injection eo114 with f1_ f2_ f3_; have f4_ := f1_.symm; have f5_ := f3_.symm; clear f1_ f2_ f3_; subst f4_; subst f5_))
                 have p368 : 0 ≤ (t342 : Int) := of_decide_eq_true (by first | (with_reducible assumption) | assumption)
                 have q368 : t342 < (y365.length : Int) := of_decide_eq_true (by first | (with_reducible assumption) | assumption)
                 obtain ⟨ad368, e368, hx368_0⟩ := Kd.at_int (Kd.R_reads' HO_15.out).2.2 t342 p368 q368
                 cases e368
                 replace p368 := eq_true p368
                 replace q368 := eq_true q368
                 refine start_ (n := 45) (S := fun w' => w'.cell? ⟨gb362, 0, none⟩ = some (.int .i64 t354) ∧ w'.cell? ⟨gb362, 1, none⟩ = some (.int .i64 t355) ∧ w'.cell? ⟨gb362, 2, none⟩ = some (.int .i64 t356) ∧ w'.cell? ⟨gb362, 3, none⟩ = some (.int .i64 t357) ∧ w'.cell? ⟨gb362, 4, none⟩ = some (.slice Ao51 t358.length co51) ∧ w'.cell? ⟨gb350, 0, none⟩ = some (.int .i64 t342) ∧ w'.cell? ⟨gb350, 1, none⟩ = some (.int .i64 t343) ∧ w'.cell? ⟨gb350, 2, none⟩ = some (.int .i64 t344) ∧ w'.cell? ⟨gb350, 3, none⟩ = some (.int .i64 t345) ∧ w'.cell? ⟨gb350, 4, none⟩ = some (.slice Ao39 t346.length co39) ∧ w'.cell? (ad368.add (t342).toNat) = some (.int .i64 (rd y365 t342))) (ds := []) (zl 45 0) (by kernel_rfl) rfl rfl ⟨(blk_cell BK362.out 0).trans rfl, (blk_cell BK362.out 1).trans rfl, (blk_cell BK362.out 2).trans rfl, (blk_cell BK362.out 3).trans rfl, (blk_cell BK362.out 4).trans rfl, (blk_cell BK350.out 0).trans rfl, (blk_cell BK350.out 1).trans rfl, (blk_cell BK350.out 2).trans rfl, (blk_cell BK350.out 3).trans rfl, (blk_cell BK350.out 4).trans rfl, hx368_0⟩ (fun hHeld => ?_); refine with_tabW standstilllaw05_BlockMirror.tab13 standstilllaw05_BlockMirror.bits13 (fun HT_ HW_ => ?_)
                 generalize wc.drew = w113 at HO_15 HO_342002 HO_351004 HO_363004 BK331 BK341 BK350 BK362 HB hx368_0 hHeld ⊢
                 refine pure_ (i := 0) (N := some 92) (v := ?_) (a' := ?_) (zl 45 1) rfl rfl (any_of HT_.out (by kernel_rfl)) (fun _ _ _ h => h) (Or.inl ⟨by rfl, ?_⟩) ?_ ?_
                 rotate_left
                 ·
                  intro w'
                  go_simp
                  with_reducible rfl
                 rotate_left
                 ·
                  simp only [Act.put, zs, zs0, zs1, i64_w, i32_w]
                  rfl
                 refine pure_ (i := 2) (N := some 94) (v := ?_) (a' := ?_) (zl 45 5) rfl rfl (any_of HT_.out (by kernel_rfl)) (fun _ _ _ h => h) (Or.inl ⟨by rfl, ?_⟩) ?_ ?_
                 rotate_left
                 ·
                  intro w'
                  go_simp
                  with_reducible rfl
                 rotate_left
                 ·
                  simp only [Act.put, zs, zs0, zs1, i64_w, i32_w]
                  rfl
                 refine pure_ (i := 3) (N := some 95) (v := ?_) (a' := ?_) (zl 45 13) rfl rfl (any_of HT_.out (by kernel_rfl)) (fun _ _ _ h => h) (Or.inl ⟨by rfl, ?_⟩) ?_ ?_
                 rotate_left
                 ·
                  intro w'
                  go_simp
                  with_reducible rfl
                 rotate_left
                 ·
                  simp only [Act.put, zs, zs0, zs1, i64_w, i32_w]
                  rfl
                 refine take_ (i := 1) (N := some 93) (v := ?_) (a' := ?_) (zl 45 15) rfl rfl (take_ofW HT_.out HW_.out (by kernel_rfl)) (fun _ _ _ h => h) (Or.inl ⟨by rfl, ?_⟩) hHeld ?_ ?_
                 rotate_left
                 ·
                  rintro w' ⟨s0, s1, s2, s3, s4, s5, s6, s7, s8, s9, s10⟩
                  go_simp
                  with_reducible rfl
                 rotate_left
                 ·
                  simp only [Act.put, zs, zs0, zs1, i64_w, i32_w]
                  rfl
                 refine take_ (i := 4) (N := some 96) (v := ?_) (a' := ?_) (zl 45 31) rfl rfl (take_ofW HT_.out HW_.out (by kernel_rfl)) (fun _ _ _ h => h) (Or.inl ⟨by rfl, ?_⟩) hHeld ?_ ?_
                 rotate_left
                 ·
                  rintro w' ⟨s0, s1, s2, s3, s4, s5, s6, s7, s8, s9, s10⟩
                  go_simp
                  with_reducible rfl
                 rotate_left
                 ·
                  simp only [Act.put, zs, zs0, zs1, i64_w, i32_w]
                  rfl
                 refine pure_ (i := 5) (N := some 97) (v := ?_) (a' := ?_) (zl 45 63) rfl rfl (any_of HT_.out (by kernel_rfl)) (fun _ _ _ h => h) (Or.inl ⟨by rfl, ?_⟩) ?_ ?_
                 rotate_left
                 ·
                  intro w'
                  go_simp
                  with_reducible rfl
                 rotate_left
                 ·
                  simp only [Act.put, zs, zs0, zs1, i64_w, i32_w]
                  rfl
                 refine take_ (i := 6) (N := some 98) (v := ?_) (a' := ?_) (zl 45 127) rfl rfl (take_ofW HT_.out HW_.out (by kernel_rfl)) (fun _ _ _ h => h) (Or.inl ⟨by rfl, ?_⟩) hHeld ?_ ?_
                 rotate_left
                 ·
                  rintro w' ⟨s0, s1, s2, s3, s4, s5, s6, s7, s8, s9, s10⟩
                  go_simp
                  with_reducible rfl
                 rotate_left
                 ·
                  simp only [Act.put, zs, zs0, zs1, i64_w, i32_w]
                  rfl
                 refine pure_ (i := 7) (N := some 99) (v := ?_) (a' := ?_) (zl 45 255) rfl rfl (any_of HT_.out (by kernel_rfl)) (fun _ _ _ h => h) (Or.inl ⟨by rfl, ?_⟩) ?_ ?_
                 rotate_left
                 ·
                  intro w'
                  go_simp
                  with_reducible rfl
                 rotate_left
                 ·
                  simp only [Act.put, zs, zs0, zs1, i64_w, i32_w]
                  rfl
                 refine pure_ (i := 8) (N := some 100) (v := ?_) (a' := ?_) (zl 45 511) rfl rfl (any_of HT_.out (by kernel_rfl)) (fun _ _ _ h => h) (Or.inl ⟨by rfl, ?_⟩) ?_ ?_
                 rotate_left
                 ·
                  intro w'
                  go_simp
                  with_reducible rfl
                 rotate_left
                 ·
                  simp only [Act.put, zs, zs0, zs1, i64_w, i32_w]
                  rfl
                 refine pure_ (i := 9) (N := some 101) (v := ?_) (a' := ?_) (zl 45 1023) rfl rfl (any_of HT_.out (by kernel_rfl)) (fun _ _ _ h => h) (Or.inl ⟨by rfl, ?_⟩) ?_ ?_
                 rotate_left
                 ·
                  intro w'
                  go_simp
                  with_reducible rfl
                 rotate_left
                 ·
                  simp only [Act.put, zs, zs0, zs1, i64_w, i32_w]
                  rfl
                 refine pure_ (i := 11) (N := some 103) (v := ?_) (a' := ?_) (zl 45 3071) rfl rfl (any_of HT_.out (by kernel_rfl)) (fun _ _ _ h => h) (Or.inl ⟨by rfl, ?_⟩) ?_ ?_
                 rotate_left
                 ·
                  intro w'
                  go_simp
                  with_reducible rfl
                 rotate_left
                 ·
                  simp only [Act.put, zs, zs0, zs1, i64_w, i32_w]
                  rfl
                 refine take_ (i := 10) (N := some 102) (v := ?_) (a' := ?_) (zl 45 4095) rfl rfl (take_ofW HT_.out HW_.out (by kernel_rfl)) (fun _ _ _ h => h) (Or.inl ⟨by rfl, ?_⟩) hHeld ?_ ?_
                 rotate_left
                 ·
                  rintro w' ⟨s0, s1, s2, s3, s4, s5, s6, s7, s8, s9, s10⟩
                  go_simp
                  with_reducible rfl
                 rotate_left
                 ·
                  simp only [Act.put, zs, zs0, zs1, i64_w, i32_w]
                  rfl
                 refine take_ (i := 12) (N := some 104) (v := ?_) (a' := ?_) (zl 45 8191) rfl rfl (take_ofW HT_.out HW_.out (by kernel_rfl)) (fun _ _ _ h => h) (Or.inl ⟨by rfl, ?_⟩) hHeld ?_ ?_
                 rotate_left
                 ·
                  rintro w' ⟨s0, s1, s2, s3, s4, s5, s6, s7, s8, s9, s10⟩
                  go_simp
                  with_reducible rfl
                 rotate_left
                 ·
                  simp only [Act.put, zs, zs0, zs1, i64_w, i32_w]
                  rfl
                 refine pure_ (i := 13) (N := some 105) (v := ?_) (a' := ?_) (zl 45 16383) rfl rfl (any_of HT_.out (by kernel_rfl)) (fun _ _ _ h => h) (Or.inl ⟨by rfl, ?_⟩) ?_ ?_
                 rotate_left
                 ·
                  intro w'
                  go_simp
                  with_reducible rfl
                 rotate_left
                 ·
                  simp only [Act.put, zs, zs0, zs1, i64_w, i32_w]
                  rfl
                 refine pure_ (i := 14) (N := some 106) (v := ?_) (a' := ?_) (zl 45 32767) rfl rfl (any_of HT_.out (by kernel_rfl)) (fun _ _ _ h => h) (Or.inl ⟨by rfl, ?_⟩) ?_ ?_
                 rotate_left
                 ·
                  intro w'
                  go_simp
                  with_reducible rfl
                 rotate_left
                 ·
                  simp only [Act.put, zs, zs0, zs1, i64_w, i32_w]
                  rfl
                 refine pure_ (i := 15) (N := some 107) (v := ?_) (a' := ?_) (zl 45 65535) rfl rfl (any_of HT_.out (by kernel_rfl)) (fun _ _ _ h => h) (Or.inl ⟨by rfl, ?_⟩) ?_ ?_
                 rotate_left
                 ·
                  intro w'
                  go_simp
                  with_reducible rfl
                 rotate_left
                 ·
                  simp only [Act.put, zs, zs0, zs1, i64_w, i32_w]
                  rfl
                 refine pure_ (i := 16) (N := some 108) (v := undef) (a' := ?_) (zl 45 131071) rfl rfl (any_of HT_.out (by kernel_rfl)) (fun _ _ _ h => h) (Or.inr ⟨by rfl, rfl⟩) ?_ ?_
                 rotate_left
                 ·
                  simp only [Act.put, zs, zs0, zs1, i64_w, i32_w]
                  rfl
                 refine pure_ (i := 17) (N := some 109) (v := undef) (a' := ?_) (zl 45 262143) rfl rfl (any_of HT_.out (by kernel_rfl)) (fun _ _ _ h => h) (Or.inr ⟨by rfl, rfl⟩) ?_ ?_
                 rotate_left
                 ·
                  simp only [Act.put, zs, zs0, zs1, i64_w, i32_w]
                  rfl
                 refine pure_ (i := 18) (N := some 110) (v := undef) (a' := ?_) (zl 45 524287) rfl rfl (any_of HT_.out (by kernel_rfl)) (fun _ _ _ h => h) (Or.inr ⟨by rfl, rfl⟩) ?_ ?_
                 rotate_left
                 ·
                  simp only [Act.put, zs, zs0, zs1, i64_w, i32_w]
                  rfl
                 refine pure_ (i := 19) (N := some 111) (v := undef) (a' := ?_) (zl 45 1048575) rfl rfl (any_of HT_.out (by kernel_rfl)) (fun _ _ _ h => h) (Or.inr ⟨by rfl, rfl⟩) ?_ ?_
                 rotate_left
                 ·
                  simp only [Act.put, zs, zs0, zs1, i64_w, i32_w]
                  rfl
                 refine pure_ (i := 20) (N := some 112) (v := undef) (a' := ?_) (zl 45 2097151) rfl rfl (any_of HT_.out (by kernel_rfl)) (fun _ _ _ h => h) (Or.inr ⟨by rfl, rfl⟩) ?_ ?_
                 rotate_left
                 ·
                  simp only [Act.put, zs, zs0, zs1, i64_w, i32_w]
                  rfl
                 refine pure_ (i := 21) (N := some 113) (v := ?_) (a' := ?_) (zl 45 4194303) rfl rfl (any_of HT_.out (by kernel_rfl)) (fun _ _ _ h => h) (Or.inl ⟨by rfl, ?_⟩) ?_ ?_
                 rotate_left
                 ·
                  intro w'
                  go_simp
                  with_reducible rfl
                 rotate_left
                 ·
                  simp only [Act.put, zs, zs0, zs1, i64_w, i32_w]
                  rfl
                 refine pure_ (i := 22) (N := some 114) (v := ?_) (a' := ?_) (zl 45 8388607) rfl rfl (any_of HT_.out (by kernel_rfl)) (fun _ _ _ h => h) (Or.inl ⟨by rfl, ?_⟩) ?_ ?_
                 rotate_left
                 ·
                  intro w'
                  go_simp
                  with_reducible rfl
                 rotate_left
                 ·
                  simp only [Act.put, zs, zs0, zs1, i64_w, i32_w]
                  rfl
                 refine pure_ (i := 23) (N := some 115) (v := undef) (a' := ?_) (zl 45 16777215) rfl rfl (any_of HT_.out (by kernel_rfl)) (fun _ _ _ h => h) (Or.inr ⟨by rfl, rfl⟩) ?_ ?_
                 rotate_left
                 ·
                  simp only [Act.put, zs, zs0, zs1, i64_w, i32_w]
                  rfl
                 refine pure_ (i := 24) (N := some 116) (v := undef) (a' := ?_) (zl 45 33554431) rfl rfl (any_of HT_.out (by kernel_rfl)) (fun _ _ _ h => h) (Or.inr ⟨by rfl, rfl⟩) ?_ ?_
                 rotate_left
                 ·
                  simp only [Act.put, zs, zs0, zs1, i64_w, i32_w]
                  rfl
                 refine pure_ (i := 25) (N := some 117) (v := undef) (a' := ?_) (zl 45 67108863) rfl rfl (any_of HT_.out (by kernel_rfl)) (fun _ _ _ h => h) (Or.inr ⟨by rfl, rfl⟩) ?_ ?_
                 rotate_left
                 ·
                  simp only [Act.put, zs, zs0, zs1, i64_w, i32_w]
                  rfl
                 refine pure_ (i := 26) (N := some 118) (v := undef) (a' := ?_) (zl 45 134217727) rfl rfl (any_of HT_.out (by kernel_rfl)) (fun _ _ _ h => h) (Or.inr ⟨by rfl, rfl⟩) ?_ ?_
                 rotate_left
                 ·
                  simp only [Act.put, zs, zs0, zs1, i64_w, i32_w]
                  rfl
                 refine pure_ (i := 27) (N := some 119) (v := undef) (a' := ?_) (zl 45 268435455) rfl rfl (any_of HT_.out (by kernel_rfl)) (fun _ _ _ h => h) (Or.inr ⟨by rfl, rfl⟩) ?_ ?_
                 rotate_left
                 ·
                  simp only [Act.put, zs, zs0, zs1, i64_w, i32_w]
                  rfl
                 refine pure_ (i := 28) (N := some 120) (v := undef) (a' := ?_) (zl 45 536870911) rfl rfl (any_of HT_.out (by kernel_rfl)) (fun _ _ _ h => h) (Or.inr ⟨by rfl, rfl⟩) ?_ ?_
                 rotate_left
                 ·
                  simp only [Act.put, zs, zs0, zs1, i64_w, i32_w]
                  rfl
                 refine pure_ (i := 29) (N := some 121) (v := undef) (a' := ?_) (zl 45 1073741823) rfl rfl (any_of HT_.out (by kernel_rfl)) (fun _ _ _ h => h) (Or.inr ⟨by rfl, rfl⟩) ?_ ?_
                 rotate_left
                 ·
                  simp only [Act.put, zs, zs0, zs1, i64_w, i32_w]
                  rfl
                 refine pure_ (i := 30) (N := some 122) (v := undef) (a' := ?_) (zl 45 2147483647) rfl rfl (any_of HT_.out (by kernel_rfl)) (fun _ _ _ h => h) (Or.inr ⟨by rfl, rfl⟩) ?_ ?_
                 rotate_left
                 ·
                  simp only [Act.put, zs, zs0, zs1, i64_w, i32_w]
                  rfl
                 refine pure_ (i := 31) (N := some 123) (v := undef) (a' := ?_) (zl 45 4294967295) rfl rfl (any_of HT_.out (by kernel_rfl)) (fun _ _ _ h => h) (Or.inr ⟨by rfl, rfl⟩) ?_ ?_
                 rotate_left
                 ·
                  simp only [Act.put, zs, zs0, zs1, i64_w, i32_w]
                  rfl
                 refine pure_ (i := 32) (N := some 124) (v := ?_) (a' := ?_) (zl 45 8589934591) rfl rfl (any_of HT_.out (by kernel_rfl)) (fun _ _ _ h => h) (Or.inl ⟨by rfl, ?_⟩) ?_ ?_
                 rotate_left
                 ·
                  intro w'
                  go_simp
                  with_reducible rfl
                 rotate_left
                 ·
                  simp only [Act.put, zs, zs0, zs1, i64_w, i32_w]
                  rfl
                 refine pure_ (i := 33) (N := some 125) (v := ?_) (a' := ?_) (zl 45 17179869183) rfl rfl (any_of HT_.out (by kernel_rfl)) (fun _ _ _ h => h) (Or.inl ⟨by rfl, ?_⟩) ?_ ?_
                 rotate_left
                 ·
                  intro w'
                  go_simp
                  with_reducible rfl
                 rotate_left
                 ·
                  simp only [Act.put, zs, zs0, zs1, i64_w, i32_w]
                  rfl
                 refine pure_ (i := 34) (N := some 126) (v := undef) (a' := ?_) (zl 45 34359738367) rfl rfl (any_of HT_.out (by kernel_rfl)) (fun _ _ _ h => h) (Or.inr ⟨by rfl, rfl⟩) ?_ ?_
                 rotate_left
                 ·
                  simp only [Act.put, zs, zs0, zs1, i64_w, i32_w]
                  rfl
                 refine pure_ (i := 35) (N := some 127) (v := undef) (a' := ?_) (zl 45 68719476735) rfl rfl (any_of HT_.out (by kernel_rfl)) (fun _ _ _ h => h) (Or.inr ⟨by rfl, rfl⟩) ?_ ?_
                 rotate_left
                 ·
                  simp only [Act.put, zs, zs0, zs1, i64_w, i32_w]
                  rfl
                 refine pure_ (i := 36) (N := some 128) (v := undef) (a' := ?_) (zl 45 137438953471) rfl rfl (any_of HT_.out (by kernel_rfl)) (fun _ _ _ h => h) (Or.inr ⟨by rfl, rfl⟩) ?_ ?_
                 rotate_left
                 ·
                  simp only [Act.put, zs, zs0, zs1, i64_w, i32_w]
                  rfl
                 refine pure_ (i := 37) (N := some 129) (v := undef) (a' := ?_) (zl 45 274877906943) rfl rfl (any_of HT_.out (by kernel_rfl)) (fun _ _ _ h => h) (Or.inr ⟨by rfl, rfl⟩) ?_ ?_
                 rotate_left
                 ·
                  simp only [Act.put, zs, zs0, zs1, i64_w, i32_w]
                  rfl
                 refine pure_ (i := 38) (N := some 130) (v := undef) (a' := ?_) (zl 45 549755813887) rfl rfl (any_of HT_.out (by kernel_rfl)) (fun _ _ _ h => h) (Or.inr ⟨by rfl, rfl⟩) ?_ ?_
                 rotate_left
                 ·
                  simp only [Act.put, zs, zs0, zs1, i64_w, i32_w]
                  rfl
                 refine pure_ (i := 39) (N := some 131) (v := undef) (a' := ?_) (zl 45 1099511627775) rfl rfl (any_of HT_.out (by kernel_rfl)) (fun _ _ _ h => h) (Or.inr ⟨by rfl, rfl⟩) ?_ ?_
                 rotate_left
                 ·
                  simp only [Act.put, zs, zs0, zs1, i64_w, i32_w]
                  rfl
                 refine pure_ (i := 40) (N := some 132) (v := ?_) (a' := ?_) (zl 45 2199023255551) rfl rfl (any_of HT_.out (by kernel_rfl)) (fun _ _ _ h => h) (Or.inl ⟨by rfl, ?_⟩) ?_ ?_
                 rotate_left
                 ·
                  intro w'
                  go_simp
                  with_reducible rfl
                 rotate_left
                 ·
                  simp only [Act.put, zs, zs0, zs1, i64_w, i32_w]
                  rfl
                 refine pure_ (i := 41) (N := some 133) (v := ?_) (a' := ?_) (zl 45 4398046511103) rfl rfl (any_of HT_.out (by kernel_rfl)) (fun _ _ _ h => h) (Or.inl ⟨by rfl, ?_⟩) ?_ ?_
                 rotate_left
                 ·
                  intro w'
                  go_simp
                  with_reducible rfl
                 rotate_left
                 ·
                  simp only [Act.put, zs, zs0, zs1, i64_w, i32_w]
                  rfl
                 refine pure_ (i := 42) (N := some 134) (v := undef) (a' := ?_) (zl 45 8796093022207) rfl rfl (any_of HT_.out (by kernel_rfl)) (fun _ _ _ h => h) (Or.inr ⟨by rfl, rfl⟩) ?_ ?_
                 rotate_left
                 ·
                  simp only [Act.put, zs, zs0, zs1, i64_w, i32_w]
                  rfl
                 refine pure_ (i := 43) (N := some 135) (v := ?_) (a' := ?_) (zl 45 17592186044415) rfl rfl (any_of HT_.out (by kernel_rfl)) (fun _ _ _ h => h) (Or.inl ⟨by rfl, ?_⟩) ?_ ?_
                 rotate_left
                 ·
                  intro w'
                  go_simp
                  with_reducible rfl
                 rotate_left
                 ·
                  simp only [Act.put, zs, zs0, zs1, i64_w, i32_w]
                  rfl
                 refine pure_ (i := 44) (N := some 8) (v := ?_) (a' := ?_) (zl 45 35184372088831) rfl rfl (any_of HT_.out (by kernel_rfl)) (fun _ _ _ h => h) (Or.inl ⟨by rfl, ?_⟩) ?_ ?_
                 rotate_left
                 ·
                  intro w'
                  go_simp
                  with_reducible rfl
                 rotate_left
                 ·
                  simp only [Act.put, zs, zs0, zs1, i64_w, i32_w]
                  rfl
                 refine done_ (done_of HT_.out (by kernel_rfl)) ?_
                 try go_wp2
                 go_ret
                 exact ⟨by first | rfl | (simp [errW_none, errW_some] <;> rfl) | (simp [*, errW_none, errW_some] <;> rfl), zB HB⟩
               ·
                rw [if_neg c92] at H
                have c92b0 : (t354 == (rd y365 t342)) = false := beq_eq_false_iff_ne.mpr c92
                have c92b1 : (t354 != (rd y365 t342)) = true := bne_iff_ne.mpr c92
                obtain rfl := Option.some.inj H
                try go_wp2
                have n0_ := Aside0.mk (Kd.R_drew HO_15.out)
                have n1_ := Aside0.mk (Kd.S_drew HO_342002.out)
                have n2_ := Aside0.mk (Kd.R_drew HO_351004.out)
                have n3_ := Aside0.mk (Kd.R_drew HO_363004.out)
                have n4_ := Aside0.mk (blk_drew BK331.out)
                have n5_ := Aside0.mk (blk_drew BK341.out)
                have n6_ := Aside0.mk (blk_drew BK350.out)
                have n7_ := Aside0.mk (blk_drew BK362.out)
                have n8_ := Aside0.mk (below_drew1 HB.out)
                clear HO_15
                clear HO_342002
                clear HO_351004
                clear HO_363004
                clear BK331
                clear BK341
                clear BK350
                clear BK362
                clear HB
                have HO_15 := n0_
                have HO_342002 := n1_
                have HO_351004 := n2_
                have HO_363004 := n3_
                have BK331 := n4_
                have BK341 := n5_
                have BK350 := n6_
                have BK362 := n7_
                have HB := n8_
                clear n0_ n1_ n2_ n3_ n4_ n5_ n6_ n7_ n8_
                obtain ⟨Ao116, co116, eo116⟩ := Kd.R_slice HO_15.out
                (first | subst eo116 | (injection eo116 with f1_ f2_ f3_; have f4_ := f1_.symm; have f5_ := f3_.symm; clear f1_ f2_ f3_; subst f4_; subst f5_))
                have p368 : 0 ≤ (t342 : Int) := of_decide_eq_true (by first | (with_reducible assumption) | assumption)
                have q368 : t342 < (y365.length : Int) := of_decide_eq_true (by first | (with_reducible assumption) | assumption)
                obtain ⟨ad368, e368, hx368_0⟩ := Kd.at_int (Kd.R_reads' HO_15.out).2.2 t342 p368 q368
                cases e368
                replace p368 := eq_true p368
                replace q368 := eq_true q368
                refine start_ (n := 45) (S := fun w' => w'.cell? ⟨gb362, 0, none⟩ = some (.int .i64 t354) ∧ w'.cell? ⟨gb362, 1, none⟩ = some (.int .i64 t355) ∧ w'.cell? ⟨gb362, 2, none⟩ = some (.int .i64 t356) ∧ w'.cell? ⟨gb362, 3, none⟩ = some (.int .i64 t357) ∧ w'.cell? ⟨gb362, 4, none⟩ = some (.slice Ao51 t358.length co51) ∧ w'.cell? ⟨gb350, 0, none⟩ = some (.int .i64 t342) ∧ w'.cell? ⟨gb350, 1, none⟩ = some (.int .i64 t343) ∧ w'.cell? ⟨gb350, 2, none⟩ = some (.int .i64 t344) ∧ w'.cell? ⟨gb350, 3, none⟩ = some (.int .i64 t345) ∧ w'.cell? ⟨gb350, 4, none⟩ = some (.slice Ao39 t346.length co39) ∧ w'.cell? (ad368.add (t342).toNat) = some (.int .i64 (rd y365 t342))) (ds := []) (zl 45 0) (by kernel_rfl) rfl rfl ⟨(blk_cell BK362.out 0).trans rfl, (blk_cell BK362.out 1).trans rfl, (blk_cell BK362.out 2).trans rfl, (blk_cell BK362.out 3).trans rfl, (blk_cell BK362.out 4).trans rfl, (blk_cell BK350.out 0).trans rfl, (blk_cell BK350.out 1).trans rfl, (blk_cell BK350.out 2).trans rfl, (blk_cell BK350.out 3).trans rfl, (blk_cell BK350.out 4).trans rfl, hx368_0⟩ (fun hHeld => ?_); refine with_tabW standstilllaw05_BlockMirror.tab13 standstilllaw05_BlockMirror.bits13 (fun HT_ HW_ => ?_)
                generalize wc.drew = w115 at HO_15 HO_342002 HO_351004 HO_363004 BK331 BK341 BK350 BK362 HB hx368_0 hHeld ⊢
                refine pure_ (i := 0) (N := some 92) (v := ?_) (a' := ?_) (zl 45 1) rfl rfl (any_of HT_.out (by kernel_rfl)) (fun _ _ _ h => h) (Or.inl ⟨by rfl, ?_⟩) ?_ ?_
                rotate_left
                ·
                 intro w'
                 go_simp
                 with_reducible rfl
                rotate_left
                ·
                 simp only [Act.put, zs, zs0, zs1, i64_w, i32_w]
                 rfl
                refine pure_ (i := 2) (N := some 94) (v := ?_) (a' := ?_) (zl 45 5) rfl rfl (any_of HT_.out (by kernel_rfl)) (fun _ _ _ h => h) (Or.inl ⟨by rfl, ?_⟩) ?_ ?_
                rotate_left
                ·
                 intro w'
                 go_simp
                 with_reducible rfl
                rotate_left
                ·
                 simp only [Act.put, zs, zs0, zs1, i64_w, i32_w]
                 rfl
                refine pure_ (i := 3) (N := some 95) (v := ?_) (a' := ?_) (zl 45 13) rfl rfl (any_of HT_.out (by kernel_rfl)) (fun _ _ _ h => h) (Or.inl ⟨by rfl, ?_⟩) ?_ ?_
                rotate_left
                ·
                 intro w'
                 go_simp
                 with_reducible rfl
                rotate_left
                ·
                 simp only [Act.put, zs, zs0, zs1, i64_w, i32_w]
                 rfl
                refine take_ (i := 1) (N := some 93) (v := ?_) (a' := ?_) (zl 45 15) rfl rfl (take_ofW HT_.out HW_.out (by kernel_rfl)) (fun _ _ _ h => h) (Or.inl ⟨by rfl, ?_⟩) hHeld ?_ ?_
                rotate_left
                ·
                 rintro w' ⟨s0, s1, s2, s3, s4, s5, s6, s7, s8, s9, s10⟩
                 go_simp
                 with_reducible rfl
                rotate_left
                ·
                 simp only [Act.put, zs, zs0, zs1, i64_w, i32_w]
                 rfl
                refine take_ (i := 4) (N := some 96) (v := ?_) (a' := ?_) (zl 45 31) rfl rfl (take_ofW HT_.out HW_.out (by kernel_rfl)) (fun _ _ _ h => h) (Or.inl ⟨by rfl, ?_⟩) hHeld ?_ ?_
                rotate_left
                ·
                 rintro w' ⟨s0, s1, s2, s3, s4, s5, s6, s7, s8, s9, s10⟩
                 go_simp
                 with_reducible rfl
                rotate_left
                ·
                 simp only [Act.put, zs, zs0, zs1, i64_w, i32_w]
                 rfl
                refine pure_ (i := 5) (N := some 97) (v := ?_) (a' := ?_) (zl 45 63) rfl rfl (any_of HT_.out (by kernel_rfl)) (fun _ _ _ h => h) (Or.inl ⟨by rfl, ?_⟩) ?_ ?_
                rotate_left
                ·
                 intro w'
                 go_simp
                 with_reducible rfl
                rotate_left
                ·
                 simp only [Act.put, zs, zs0, zs1, i64_w, i32_w]
                 rfl
                refine take_ (i := 6) (N := some 98) (v := ?_) (a' := ?_) (zl 45 127) rfl rfl (take_ofW HT_.out HW_.out (by kernel_rfl)) (fun _ _ _ h => h) (Or.inl ⟨by rfl, ?_⟩) hHeld ?_ ?_
                rotate_left
                ·
                 rintro w' ⟨s0, s1, s2, s3, s4, s5, s6, s7, s8, s9, s10⟩
                 go_simp
                 with_reducible rfl
                rotate_left
                ·
                 simp only [Act.put, zs, zs0, zs1, i64_w, i32_w]
                 rfl
                refine pure_ (i := 7) (N := some 99) (v := ?_) (a' := ?_) (zl 45 255) rfl rfl (any_of HT_.out (by kernel_rfl)) (fun _ _ _ h => h) (Or.inl ⟨by rfl, ?_⟩) ?_ ?_
                rotate_left
                ·
                 intro w'
                 go_simp
                 with_reducible rfl
                rotate_left
                ·
                 simp only [Act.put, zs, zs0, zs1, i64_w, i32_w]
                 rfl
                refine pure_ (i := 8) (N := some 100) (v := ?_) (a' := ?_) (zl 45 511) rfl rfl (any_of HT_.out (by kernel_rfl)) (fun _ _ _ h => h) (Or.inl ⟨by rfl, ?_⟩) ?_ ?_
                rotate_left
                ·
                 intro w'
                 go_simp
                 with_reducible rfl
                rotate_left
                ·
                 simp only [Act.put, zs, zs0, zs1, i64_w, i32_w]
                 rfl
                refine pure_ (i := 9) (N := some 101) (v := undef) (a' := ?_) (zl 45 1023) rfl rfl (any_of HT_.out (by kernel_rfl)) (fun _ _ _ h => h) (Or.inr ⟨by rfl, rfl⟩) ?_ ?_
                rotate_left
                ·
                 simp only [Act.put, zs, zs0, zs1, i64_w, i32_w]
                 rfl
                refine pure_ (i := 10) (N := some 102) (v := undef) (a' := ?_) (zl 45 2047) rfl rfl (any_of HT_.out (by kernel_rfl)) (fun _ _ _ h => h) (Or.inr ⟨by rfl, rfl⟩) ?_ ?_
                rotate_left
                ·
                 simp only [Act.put, zs, zs0, zs1, i64_w, i32_w]
                 rfl
                refine pure_ (i := 11) (N := some 103) (v := undef) (a' := ?_) (zl 45 4095) rfl rfl (any_of HT_.out (by kernel_rfl)) (fun _ _ _ h => h) (Or.inr ⟨by rfl, rfl⟩) ?_ ?_
                rotate_left
                ·
                 simp only [Act.put, zs, zs0, zs1, i64_w, i32_w]
                 rfl
                refine pure_ (i := 12) (N := some 104) (v := undef) (a' := ?_) (zl 45 8191) rfl rfl (any_of HT_.out (by kernel_rfl)) (fun _ _ _ h => h) (Or.inr ⟨by rfl, rfl⟩) ?_ ?_
                rotate_left
                ·
                 simp only [Act.put, zs, zs0, zs1, i64_w, i32_w]
                 rfl
                refine pure_ (i := 13) (N := some 105) (v := undef) (a' := ?_) (zl 45 16383) rfl rfl (any_of HT_.out (by kernel_rfl)) (fun _ _ _ h => h) (Or.inr ⟨by rfl, rfl⟩) ?_ ?_
                rotate_left
                ·
                 simp only [Act.put, zs, zs0, zs1, i64_w, i32_w]
                 rfl
                refine pure_ (i := 14) (N := some 106) (v := ?_) (a' := ?_) (zl 45 32767) rfl rfl (any_of HT_.out (by kernel_rfl)) (fun _ _ _ h => h) (Or.inl ⟨by rfl, ?_⟩) ?_ ?_
                rotate_left
                ·
                 intro w'
                 go_simp
                 with_reducible rfl
                rotate_left
                ·
                 simp only [Act.put, zs, zs0, zs1, i64_w, i32_w]
                 rfl
                refine pure_ (i := 15) (N := some 107) (v := ?_) (a' := ?_) (zl 45 65535) rfl rfl (any_of HT_.out (by kernel_rfl)) (fun _ _ _ h => h) (Or.inl ⟨by rfl, ?_⟩) ?_ ?_
                rotate_left
                ·
                 intro w'
                 go_simp
                 with_reducible rfl
                rotate_left
                ·
                 simp only [Act.put, zs, zs0, zs1, i64_w, i32_w]
                 rfl
                refine pure_ (i := 16) (N := some 108) (v := undef) (a' := ?_) (zl 45 131071) rfl rfl (any_of HT_.out (by kernel_rfl)) (fun _ _ _ h => h) (Or.inr ⟨by rfl, rfl⟩) ?_ ?_
                rotate_left
                ·
                 simp only [Act.put, zs, zs0, zs1, i64_w, i32_w]
                 rfl
                refine pure_ (i := 17) (N := some 109) (v := undef) (a' := ?_) (zl 45 262143) rfl rfl (any_of HT_.out (by kernel_rfl)) (fun _ _ _ h => h) (Or.inr ⟨by rfl, rfl⟩) ?_ ?_
                rotate_left
                ·
                 simp only [Act.put, zs, zs0, zs1, i64_w, i32_w]
                 rfl
                refine pure_ (i := 18) (N := some 110) (v := undef) (a' := ?_) (zl 45 524287) rfl rfl (any_of HT_.out (by kernel_rfl)) (fun _ _ _ h => h) (Or.inr ⟨by rfl, rfl⟩) ?_ ?_
                rotate_left
                ·
                 simp only [Act.put, zs, zs0, zs1, i64_w, i32_w]
                 rfl
                refine pure_ (i := 19) (N := some 111) (v := undef) (a' := ?_) (zl 45 1048575) rfl rfl (any_of HT_.out (by kernel_rfl)) (fun _ _ _ h => h) (Or.inr ⟨by rfl, rfl⟩) ?_ ?_
                rotate_left
                ·
                 simp only [Act.put, zs, zs0, zs1, i64_w, i32_w]
                 rfl
                refine pure_ (i := 20) (N := some 112) (v := undef) (a' := ?_) (zl 45 2097151) rfl rfl (any_of HT_.out (by kernel_rfl)) (fun _ _ _ h => h) (Or.inr ⟨by rfl, rfl⟩) ?_ ?_
                rotate_left
                ·
                 simp only [Act.put, zs, zs0, zs1, i64_w, i32_w]
                 rfl
                refine pure_ (i := 21) (N := some 113) (v := ?_) (a' := ?_) (zl 45 4194303) rfl rfl (any_of HT_.out (by kernel_rfl)) (fun _ _ _ h => h) (Or.inl ⟨by rfl, ?_⟩) ?_ ?_
                rotate_left
                ·
                 intro w'
                 go_simp
                 with_reducible rfl
                rotate_left
                ·
                 simp only [Act.put, zs, zs0, zs1, i64_w, i32_w]
                 rfl
                refine pure_ (i := 22) (N := some 114) (v := ?_) (a' := ?_) (zl 45 8388607) rfl rfl (any_of HT_.out (by kernel_rfl)) (fun _ _ _ h => h) (Or.inl ⟨by rfl, ?_⟩) ?_ ?_
                rotate_left
                ·
                 intro w'
                 go_simp
                 with_reducible rfl
                rotate_left
                ·
                 simp only [Act.put, zs, zs0, zs1, i64_w, i32_w]
                 rfl
                refine pure_ (i := 23) (N := some 115) (v := undef) (a' := ?_) (zl 45 16777215) rfl rfl (any_of HT_.out (by kernel_rfl)) (fun _ _ _ h => h) (Or.inr ⟨by rfl, rfl⟩) ?_ ?_
                rotate_left
                ·
                 simp only [Act.put, zs, zs0, zs1, i64_w, i32_w]
                 rfl
                refine pure_ (i := 24) (N := some 116) (v := undef) (a' := ?_) (zl 45 33554431) rfl rfl (any_of HT_.out (by kernel_rfl)) (fun _ _ _ h => h) (Or.inr ⟨by rfl, rfl⟩) ?_ ?_
                rotate_left
                ·
                 simp only [Act.put, zs, zs0, zs1, i64_w, i32_w]
                 rfl
                refine pure_ (i := 25) (N := some 117) (v := undef) (a' := ?_) (zl 45 67108863) rfl rfl (any_of HT_.out (by kernel_rfl)) (fun _ _ _ h => h) (Or.inr ⟨by rfl, rfl⟩) ?_ ?_
                rotate_left
                ·
                 simp only [Act.put, zs, zs0, zs1, i64_w, i32_w]
                 rfl
                refine pure_ (i := 26) (N := some 118) (v := undef) (a' := ?_) (zl 45 134217727) rfl rfl (any_of HT_.out (by kernel_rfl)) (fun _ _ _ h => h) (Or.inr ⟨by rfl, rfl⟩) ?_ ?_
                rotate_left
                ·
                 simp only [Act.put, zs, zs0, zs1, i64_w, i32_w]
                 rfl
                refine pure_ (i := 27) (N := some 119) (v := undef) (a' := ?_) (zl 45 268435455) rfl rfl (any_of HT_.out (by kernel_rfl)) (fun _ _ _ h => h) (Or.inr ⟨by rfl, rfl⟩) ?_ ?_
                rotate_left
                ·
                 simp only [Act.put, zs, zs0, zs1, i64_w, i32_w]
                 rfl
                refine pure_ (i := 28) (N := some 120) (v := undef) (a' := ?_) (zl 45 536870911) rfl rfl (any_of HT_.out (by kernel_rfl)) (fun _ _ _ h => h) (Or.inr ⟨by rfl, rfl⟩) ?_ ?_
                rotate_left
                ·
                 simp only [Act.put, zs, zs0, zs1, i64_w, i32_w]
                 rfl
                refine pure_ (i := 29) (N := some 121) (v := undef) (a' := ?_) (zl 45 1073741823) rfl rfl (any_of HT_.out (by kernel_rfl)) (fun _ _ _ h => h) (Or.inr ⟨by rfl, rfl⟩) ?_ ?_
                rotate_left
                ·
                 simp only [Act.put, zs, zs0, zs1, i64_w, i32_w]
                 rfl
                refine pure_ (i := 30) (N := some 122) (v := undef) (a' := ?_) (zl 45 2147483647) rfl rfl (any_of HT_.out (by kernel_rfl)) (fun _ _ _ h => h) (Or.inr ⟨by rfl, rfl⟩) ?_ ?_
                rotate_left
                ·
                 simp only [Act.put, zs, zs0, zs1, i64_w, i32_w]
                 rfl
                refine pure_ (i := 31) (N := some 123) (v := undef) (a' := ?_) (zl 45 4294967295) rfl rfl (any_of HT_.out (by kernel_rfl)) (fun _ _ _ h => h) (Or.inr ⟨by rfl, rfl⟩) ?_ ?_
                rotate_left
                ·
                 simp only [Act.put, zs, zs0, zs1, i64_w, i32_w]
                 rfl
                refine pure_ (i := 32) (N := some 124) (v := ?_) (a' := ?_) (zl 45 8589934591) rfl rfl (any_of HT_.out (by kernel_rfl)) (fun _ _ _ h => h) (Or.inl ⟨by rfl, ?_⟩) ?_ ?_
                rotate_left
                ·
                 intro w'
                 go_simp
                 with_reducible rfl
                rotate_left
                ·
                 simp only [Act.put, zs, zs0, zs1, i64_w, i32_w]
                 rfl
                refine pure_ (i := 33) (N := some 125) (v := ?_) (a' := ?_) (zl 45 17179869183) rfl rfl (any_of HT_.out (by kernel_rfl)) (fun _ _ _ h => h) (Or.inl ⟨by rfl, ?_⟩) ?_ ?_
                rotate_left
                ·
                 intro w'
                 go_simp
                 with_reducible rfl
                rotate_left
                ·
                 simp only [Act.put, zs, zs0, zs1, i64_w, i32_w]
                 rfl
                refine pure_ (i := 34) (N := some 126) (v := undef) (a' := ?_) (zl 45 34359738367) rfl rfl (any_of HT_.out (by kernel_rfl)) (fun _ _ _ h => h) (Or.inr ⟨by rfl, rfl⟩) ?_ ?_
                rotate_left
                ·
                 simp only [Act.put, zs, zs0, zs1, i64_w, i32_w]
                 rfl
                refine pure_ (i := 35) (N := some 127) (v := undef) (a' := ?_) (zl 45 68719476735) rfl rfl (any_of HT_.out (by kernel_rfl)) (fun _ _ _ h => h) (Or.inr ⟨by rfl, rfl⟩) ?_ ?_
                rotate_left
                ·
                 simp only [Act.put, zs, zs0, zs1, i64_w, i32_w]
                 rfl
                refine pure_ (i := 36) (N := some 128) (v := undef) (a' := ?_) (zl 45 137438953471) rfl rfl (any_of HT_.out (by kernel_rfl)) (fun _ _ _ h => h) (Or.inr ⟨by rfl, rfl⟩) ?_ ?_
                rotate_left
                ·
                 simp only [Act.put, zs, zs0, zs1, i64_w, i32_w]
                 rfl
                refine pure_ (i := 37) (N := some 129) (v := undef) (a' := ?_) (zl 45 274877906943) rfl rfl (any_of HT_.out (by kernel_rfl)) (fun _ _ _ h => h) (Or.inr ⟨by rfl, rfl⟩) ?_ ?_
                rotate_left
                ·
                 simp only [Act.put, zs, zs0, zs1, i64_w, i32_w]
                 rfl
                refine pure_ (i := 38) (N := some 130) (v := undef) (a' := ?_) (zl 45 549755813887) rfl rfl (any_of HT_.out (by kernel_rfl)) (fun _ _ _ h => h) (Or.inr ⟨by rfl, rfl⟩) ?_ ?_
                rotate_left
                ·
                 simp only [Act.put, zs, zs0, zs1, i64_w, i32_w]
                 rfl
                refine pure_ (i := 39) (N := some 131) (v := undef) (a' := ?_) (zl 45 1099511627775) rfl rfl (any_of HT_.out (by kernel_rfl)) (fun _ _ _ h => h) (Or.inr ⟨by rfl, rfl⟩) ?_ ?_
                rotate_left
                ·
                 simp only [Act.put, zs, zs0, zs1, i64_w, i32_w]
                 rfl
                refine pure_ (i := 40) (N := some 132) (v := ?_) (a' := ?_) (zl 45 2199023255551) rfl rfl (any_of HT_.out (by kernel_rfl)) (fun _ _ _ h => h) (Or.inl ⟨by rfl, ?_⟩) ?_ ?_
                rotate_left
                ·
                 intro w'
                 go_simp
                 with_reducible rfl
                rotate_left
                ·
                 simp only [Act.put, zs, zs0, zs1, i64_w, i32_w]
                 rfl
                refine pure_ (i := 41) (N := some 133) (v := ?_) (a' := ?_) (zl 45 4398046511103) rfl rfl (any_of HT_.out (by kernel_rfl)) (fun _ _ _ h => h) (Or.inl ⟨by rfl, ?_⟩) ?_ ?_
                rotate_left
                ·
                 intro w'
                 go_simp
                 with_reducible rfl
                rotate_left
                ·
                 simp only [Act.put, zs, zs0, zs1, i64_w, i32_w]
                 rfl
                refine pure_ (i := 42) (N := some 134) (v := undef) (a' := ?_) (zl 45 8796093022207) rfl rfl (any_of HT_.out (by kernel_rfl)) (fun _ _ _ h => h) (Or.inr ⟨by rfl, rfl⟩) ?_ ?_
                rotate_left
                ·
                 simp only [Act.put, zs, zs0, zs1, i64_w, i32_w]
                 rfl
                refine pure_ (i := 43) (N := some 135) (v := ?_) (a' := ?_) (zl 45 17592186044415) rfl rfl (any_of HT_.out (by kernel_rfl)) (fun _ _ _ h => h) (Or.inl ⟨by rfl, ?_⟩) ?_ ?_
                rotate_left
                ·
                 intro w'
                 go_simp
                 with_reducible rfl
                rotate_left
                ·
                 simp only [Act.put, zs, zs0, zs1, i64_w, i32_w]
                 rfl
                refine pure_ (i := 44) (N := some 8) (v := ?_) (a' := ?_) (zl 45 35184372088831) rfl rfl (any_of HT_.out (by kernel_rfl)) (fun _ _ _ h => h) (Or.inl ⟨by rfl, ?_⟩) ?_ ?_
                rotate_left
                ·
                 intro w'
                 go_simp
                 with_reducible rfl
                rotate_left
                ·
                 simp only [Act.put, zs, zs0, zs1, i64_w, i32_w]
                 rfl
                refine done_ (done_of HT_.out (by kernel_rfl)) ?_
                try go_wp2
                go_ret
                exact ⟨by first | rfl | (simp [errW_none, errW_some] <;> rfl) | (simp [*, errW_none, errW_some] <;> rfl), zB HB⟩
              ·
               rw [if_neg c91] at H
               exact absurd H (by simp)
             ·
              rw [if_neg c90] at H
              exact absurd H (by simp)

end Go.Proofs.Ytfjfnpegpcdnaaa.GB
