/- The functions of one seat as Lean functions, each with its contract: the call of the Go function returns what the Lean function answers. Written by a program of this session out of the translation; contracts made by hand are laid between. -/
import Derived.Test.YtfjfnpegpcdnaaaGBx0
import Derived.Test.YtfjfnpegpcdnaaaGBx1
import Derived.Test.YtfjfnpegpcdnaaaGBx3
import Derived.Test.YtfjfnpegpcdnaaaGBx4
import Derived.Test.YtfjfnpegpcdnaaaGBx7
namespace Go.Proofs.Ytfjfnpegpcdnaaa.GB
open Go.RowKit Go.Proofs.YtfjfnpegpcdnaaaW.PrintWords Go.Proofs.YtfjfnpegpcdnaaaW.PrintLast Go.Proofs.YtfjfnpegpcdnaaaW.PrintMore
attribute [local go_sem] max2_int min2_int max_two min_two max_three min_three max_four min_four   -- for this text's walks alone
set_option linter.unusedVariables false
set_option linter.unusedSimpArgs false

/-! ### standstilllaw05_BlockParts: function 4 -/
mutual
def standstilllaw05_BlockParts.j0 : Nat → Int → Int → List Int → Int → Bool → Int → Int → List (List (S57)) → Option (Bool)
 | 0, _, _, _, _, _, _, _, _ => none
 | k + 1, x1, x2, x3, x4, x60, x270000, x270001, x270002 => if x60 = true then ((standstilllaw05_awake.f k).bind fun t273 => (some t273)) else (if (wrap64 ((x3.length : Int) - 1)) = 0 then (none) else ((block_Cross.f k x270000 x270001 x270002 x1 x2 x3).bind fun bt274 => (if bt274.2.2.2.2.2 = 0 then ((some (([] : List Int) : List Int)).bind fun y283 => (if y283.length + x3.length < 17592186044416 then (standstilllaw05_BlockParts.l0 k x1 x2 x3 (wrap64 (1 + (Int.tmod (wrap64 (x4)) (wrap64 ((x3.length : Int) - 1))))) (y283 ++ x3) 0 0 x270000 x270001 x270002 bt274.1 bt274.2.1 bt274.2.2.1 bt274.2.2.2.1 bt274.2.2.2.2.1) else (none))) else (some false))))
def standstilllaw05_BlockParts.l0 : Nat → Int → Int → List Int → Int → List Int → Int → Int → Int → Int → List (List (S57)) → Int → Int → Int → Int → List Int → Option (Bool)
 | 0, _, _, _, _, _, _, _, _, _, _, _, _, _, _, _ => none
 | k + 1, x1, x2, x3, x11, x14, x15, x16, x270000, x270001, x270002, x283000, x283001, x283002, x283003, x283004 => if x16 ≤ 3000 then (standstilllaw05_BlockParts.j2 k x1 x2 x3 x11 x14 x15 x16 true x270000 x270001 x270002 x283000 x283001 x283002 x283003 x283004) else (standstilllaw05_BlockParts.j2 k x1 x2 x3 x11 x14 x15 x16 (x283000 != 3) x270000 x270001 x270002 x283000 x283001 x283002 x283003 x283004)
def standstilllaw05_BlockParts.j2 : Nat → Int → Int → List Int → Int → List Int → Int → Int → Bool → Int → Int → List (List (S57)) → Int → Int → Int → Int → List Int → Option (Bool)
 | 0, _, _, _, _, _, _, _, _, _, _, _, _, _, _, _, _ => none
 | k + 1, x1, x2, x3, x11, x14, x15, x16, x88, x270000, x270001, x270002, x283000, x283001, x283002, x283003, x283004 => if x88 = true then (if x2 ≥ x11 then (standstilllaw05_BlockParts.j3 k x1 x2 x3 x11 x14 x15 x16 x11 (x3.length : Int) x270000 x270001 x270002 x283000 x283001 x283002 x283003 x283004) else (standstilllaw05_BlockParts.j3 k x1 x2 x3 x11 x14 x15 x16 0 x11 x270000 x270001 x270002 x283000 x283001 x283002 x283003 x283004)) else ((standstilllaw05_awake.f k).bind fun t289 => (some t289))
def standstilllaw05_BlockParts.j3 : Nat → Int → Int → List Int → Int → List Int → Int → Int → Int → Int → Int → Int → List (List (S57)) → Int → Int → Int → Int → List Int → Option (Bool)
 | 0, _, _, _, _, _, _, _, _, _, _, _, _, _, _, _, _, _ => none
 | k + 1, x1, x2, x3, x11, x14, x15, x16, x17, x18, x270000, x270001, x270002, x283000, x283001, x283002, x283003, x283004 => if 0 ≤ x17 then (if x17 ≤ x18 then (if x18 ≤ (x14.length : Int) then ((block_Cross.f k x270000 x270001 x270002 x1 (wrap64 (x2 - x17)) ((x14.take (x18 : Int).toNat).drop (x17 : Int).toNat)).bind fun bt294 => (if bt294.2.2.2.2.2 = 0 then (if bt294.1 = 3 then (if x283000 = 3 then ((standstilllaw05_awake.f k).bind fun t303 => (some t303)) else (some false)) else (if (bt294.2.2.2.2.1.length : Int) = (wrap64 (x18 - x17)) then (standstilllaw05_BlockParts.j4 k x3 x11 x14 x15 x16 x17 (decide (bt294.2.2.1 < 1)) x270000 x270001 x270002 x283000 x283001 x283002 x283003 x283004 bt294.1 bt294.2.1 bt294.2.2.1 bt294.2.2.2.1 bt294.2.2.2.2.1) else (standstilllaw05_BlockParts.j4 k x3 x11 x14 x15 x16 x17 true x270000 x270001 x270002 x283000 x283001 x283002 x283003 x283004 bt294.1 bt294.2.1 bt294.2.2.1 bt294.2.2.2.1 bt294.2.2.2.2.1))) else (some false))) else (none)) else (none)) else (none)
def standstilllaw05_BlockParts.j4 : Nat → List Int → Int → List Int → Int → Int → Int → Bool → Int → Int → List (List (S57)) → Int → Int → Int → Int → List Int → Int → Int → Int → Int → List Int → Option (Bool)
 | 0, _, _, _, _, _, _, _, _, _, _, _, _, _, _, _, _, _, _, _, _ => none
 | k + 1, x3, x11, x14, x15, x16, x17, x133, x270000, x270001, x270002, x283000, x283001, x283002, x283003, x283004, x303000, x303001, x303002, x303003, x303004 => if x133 = true then (some false) else (standstilllaw05_BlockParts.l1 k x3 x11 x14 x15 x16 x17 0 x270000 x270001 x270002 x283000 x283001 x283002 x283003 x283004 x303000 x303001 x303002 x303003 x303004)
def standstilllaw05_BlockParts.l1 : Nat → List Int → Int → List Int → Int → Int → Int → Int → Int → Int → List (List (S57)) → Int → Int → Int → Int → List Int → Int → Int → Int → Int → List Int → Option (Bool)
 | 0, _, _, _, _, _, _, _, _, _, _, _, _, _, _, _, _, _, _, _, _ => none
 | k + 1, x3, x11, x14, x15, x16, x17, x21, x270000, x270001, x270002, x283000, x283001, x283002, x283003, x283004, x303000, x303001, x303002, x303003, x303004 => if x21 < (x303004.length : Int) then (if 0 ≤ x21 then (if 0 ≤ (wrap64 (x17 + x21)) then (if (wrap64 (x17 + x21)) < (x14.length : Int) then (standstilllaw05_BlockParts.l1 k x3 x11 (x14.set ((wrap64 (x17 + x21)) : Int).toNat (rd x303004 x21)) x15 x16 x17 (wrap64 (x21 + 1)) x270000 x270001 x270002 x283000 x283001 x283002 x283003 x283004 x303000 x303001 x303002 x303003 x303004) else (none)) else (none)) else (none)) else (if x303000 = 2 then (standstilllaw05_BlockParts.j6 k x303001 (wrap64 (x17 + x303003)) x3 x11 x14 (wrap64 (x15 + x303002)) x16 true x270000 x270001 x270002 x283000 x283001 x283002 x283003 x283004 x303000 x303001 x303002 x303003 x303004) else (if (wrap64 (x17 + x303003)) < 0 then (standstilllaw05_BlockParts.j6 k x303001 (wrap64 (x17 + x303003)) x3 x11 x14 (wrap64 (x15 + x303002)) x16 true x270000 x270001 x270002 x283000 x283001 x283002 x283003 x283004 x303000 x303001 x303002 x303003 x303004) else (standstilllaw05_BlockParts.j6 k x303001 (wrap64 (x17 + x303003)) x3 x11 x14 (wrap64 (x15 + x303002)) x16 (decide ((wrap64 (x17 + x303003)) ≥ (x3.length : Int))) x270000 x270001 x270002 x283000 x283001 x283002 x283003 x283004 x303000 x303001 x303002 x303003 x303004)))
def standstilllaw05_BlockParts.j6 : Nat → Int → Int → List Int → Int → List Int → Int → Int → Bool → Int → Int → List (List (S57)) → Int → Int → Int → Int → List Int → Int → Int → Int → Int → List Int → Option (Bool)
 | 0, _, _, _, _, _, _, _, _, _, _, _, _, _, _, _, _, _, _, _, _, _ => none
 | k + 1, x1, x2, x3, x11, x14, x15, x16, x173, x270000, x270001, x270002, x283000, x283001, x283002, x283003, x283004, x303000, x303001, x303002, x303003, x303004 => if x173 = true then (if x283000 = x303000 then (if x283001 = x1 then (if x283003 = x2 then (if x283002 = x15 then ((standstillref01_SameInts.f k x283004 x14).bind fun t306 => (if t306 = true then ((standstilllaw05_awake.f k).bind fun t307 => (some t307)) else (some false))) else (some false)) else (some false)) else (some false)) else (some false)) else (if x283000 = 3 then (standstilllaw05_BlockParts.l0 k x1 x2 x3 x11 x14 x15 (wrap64 (x16 + 1)) x270000 x270001 x270002 x283000 x283001 x283002 x283003 x283004) else (if x15 > x283002 then (some false) else (standstilllaw05_BlockParts.l0 k x1 x2 x3 x11 x14 x15 (wrap64 (x16 + 1)) x270000 x270001 x270002 x283000 x283001 x283002 x283003 x283004)))
end
def standstilllaw05_BlockParts.f (k : Nat) (a0_0 : Int) (a0_1 : Int) (l0_2 : List (List (S57))) (a1 : Int) (a2 : Int) (l3 : List Int) (a4 : Int) : Option (Bool) := (standstilllaw05_wide.f k a0_0 a0_1 l0_2).bind fun t270 => (if t270 = true then (standstilllaw05_BlockParts.j0 k a1 a2 l3 a4 true a0_0 a0_1 l0_2) else ((standstillref01_Valid.f k a0_0 a0_1 l0_2).bind fun t271 => (if t271 = true then (if a1 < 0 then (standstilllaw05_BlockParts.j0 k a1 a2 l3 a4 true a0_0 a0_1 l0_2) else (if a1 ≥ a0_0 then (standstilllaw05_BlockParts.j0 k a1 a2 l3 a4 true a0_0 a0_1 l0_2) else ((standstillref05_Word.f k a0_0 a0_1 l0_2 l3).bind fun t272 => (if t272 = true then (if (l3.length : Int) < 2 then (standstilllaw05_BlockParts.j0 k a1 a2 l3 a4 true a0_0 a0_1 l0_2) else (if a2 < 0 then (standstilllaw05_BlockParts.j0 k a1 a2 l3 a4 true a0_0 a0_1 l0_2) else (standstilllaw05_BlockParts.j0 k a1 a2 l3 a4 (decide (a2 ≥ (l3.length : Int))) a0_0 a0_1 l0_2))) else (standstilllaw05_BlockParts.j0 k a1 a2 l3 a4 true a0_0 a0_1 l0_2))))) else (standstilllaw05_BlockParts.j0 k a1 a2 l3 a4 true a0_0 a0_1 l0_2))))
theorem standstilllaw05_BlockParts.mono_l : ∀ k, (∀ y0 y1 y2 y3 y4 y5 y6 y7, LeO (standstilllaw05_BlockParts.j0 k y0 y1 y2 y3 y4 y5 y6 y7) (standstilllaw05_BlockParts.j0 (k + 1) y0 y1 y2 y3 y4 y5 y6 y7)) ∧ (∀ y0 y1 y2 y3 y4 y5 y6 y7 y8 y9 y10 y11 y12 y13 y14, LeO (standstilllaw05_BlockParts.l0 k y0 y1 y2 y3 y4 y5 y6 y7 y8 y9 y10 y11 y12 y13 y14) (standstilllaw05_BlockParts.l0 (k + 1) y0 y1 y2 y3 y4 y5 y6 y7 y8 y9 y10 y11 y12 y13 y14)) ∧ (∀ y0 y1 y2 y3 y4 y5 y6 y7 y8 y9 y10 y11 y12 y13 y14 y15, LeO (standstilllaw05_BlockParts.j2 k y0 y1 y2 y3 y4 y5 y6 y7 y8 y9 y10 y11 y12 y13 y14 y15) (standstilllaw05_BlockParts.j2 (k + 1) y0 y1 y2 y3 y4 y5 y6 y7 y8 y9 y10 y11 y12 y13 y14 y15)) ∧ (∀ y0 y1 y2 y3 y4 y5 y6 y7 y8 y9 y10 y11 y12 y13 y14 y15 y16, LeO (standstilllaw05_BlockParts.j3 k y0 y1 y2 y3 y4 y5 y6 y7 y8 y9 y10 y11 y12 y13 y14 y15 y16) (standstilllaw05_BlockParts.j3 (k + 1) y0 y1 y2 y3 y4 y5 y6 y7 y8 y9 y10 y11 y12 y13 y14 y15 y16)) ∧ (∀ y0 y1 y2 y3 y4 y5 y6 y7 y8 y9 y10 y11 y12 y13 y14 y15 y16 y17 y18 y19, LeO (standstilllaw05_BlockParts.j4 k y0 y1 y2 y3 y4 y5 y6 y7 y8 y9 y10 y11 y12 y13 y14 y15 y16 y17 y18 y19) (standstilllaw05_BlockParts.j4 (k + 1) y0 y1 y2 y3 y4 y5 y6 y7 y8 y9 y10 y11 y12 y13 y14 y15 y16 y17 y18 y19)) ∧ (∀ y0 y1 y2 y3 y4 y5 y6 y7 y8 y9 y10 y11 y12 y13 y14 y15 y16 y17 y18 y19, LeO (standstilllaw05_BlockParts.l1 k y0 y1 y2 y3 y4 y5 y6 y7 y8 y9 y10 y11 y12 y13 y14 y15 y16 y17 y18 y19) (standstilllaw05_BlockParts.l1 (k + 1) y0 y1 y2 y3 y4 y5 y6 y7 y8 y9 y10 y11 y12 y13 y14 y15 y16 y17 y18 y19)) ∧ (∀ y0 y1 y2 y3 y4 y5 y6 y7 y8 y9 y10 y11 y12 y13 y14 y15 y16 y17 y18 y19 y20, LeO (standstilllaw05_BlockParts.j6 k y0 y1 y2 y3 y4 y5 y6 y7 y8 y9 y10 y11 y12 y13 y14 y15 y16 y17 y18 y19 y20) (standstilllaw05_BlockParts.j6 (k + 1) y0 y1 y2 y3 y4 y5 y6 y7 y8 y9 y10 y11 y12 y13 y14 y15 y16 y17 y18 y19 y20))
 | 0 => ⟨fun _ _ _ _ _ _ _ _ r h => by simp [standstilllaw05_BlockParts.j0] at h, fun _ _ _ _ _ _ _ _ _ _ _ _ _ _ _ r h => by simp [standstilllaw05_BlockParts.l0] at h, fun _ _ _ _ _ _ _ _ _ _ _ _ _ _ _ _ r h => by simp [standstilllaw05_BlockParts.j2] at h, fun _ _ _ _ _ _ _ _ _ _ _ _ _ _ _ _ _ r h => by simp [standstilllaw05_BlockParts.j3] at h, fun _ _ _ _ _ _ _ _ _ _ _ _ _ _ _ _ _ _ _ _ r h => by simp [standstilllaw05_BlockParts.j4] at h, fun _ _ _ _ _ _ _ _ _ _ _ _ _ _ _ _ _ _ _ _ r h => by simp [standstilllaw05_BlockParts.l1] at h, fun _ _ _ _ _ _ _ _ _ _ _ _ _ _ _ _ _ _ _ _ _ r h => by simp [standstilllaw05_BlockParts.j6] at h⟩
 | k + 1 => by
  obtain ⟨ih0, ih1, ih2, ih3, ih4, ih5, ih6⟩ := standstilllaw05_BlockParts.mono_l k
  refine ⟨?_, ?_, ?_, ?_, ?_, ?_, ?_⟩
  ·
   intro y0 y1 y2 y3 y4 y5 y6 y7
   unfold standstilllaw05_BlockParts.j0
   repeat' first
   | (with_reducible exact ih0 _ _ _ _ _ _ _ _)
   | (with_reducible exact ih1 _ _ _ _ _ _ _ _ _ _ _ _ _ _ _)
   | (with_reducible exact ih2 _ _ _ _ _ _ _ _ _ _ _ _ _ _ _ _)
   | (with_reducible exact ih3 _ _ _ _ _ _ _ _ _ _ _ _ _ _ _ _ _)
   | (with_reducible exact ih4 _ _ _ _ _ _ _ _ _ _ _ _ _ _ _ _ _ _ _ _)
   | (with_reducible exact ih5 _ _ _ _ _ _ _ _ _ _ _ _ _ _ _ _ _ _ _ _)
   | (with_reducible exact ih6 _ _ _ _ _ _ _ _ _ _ _ _ _ _ _ _ _ _ _ _ _)
   | (with_reducible exact block_Cross.mono _ _ _ _ _ _ _)
   | (with_reducible exact standstilllaw05_awake.mono _)
   | (with_reducible exact standstilllaw05_wide.mono _ _ _ _)
   | (with_reducible exact standstillref01_SameInts.mono _ _ _)
   | (with_reducible exact standstillref01_Valid.mono _ _ _ _)
   | (with_reducible exact standstillref05_Word.mono _ _ _ _ _)
   | (with_reducible exact LeO.refl _)
   | (with_reducible exact LeO.none _)
   | (with_reducible refine LeO.ite ?_ ?_)
   | (with_reducible refine LeO.bind ?_ (fun _ => ?_))
   | exact ih0 _ _ _ _ _ _ _ _
   | exact ih1 _ _ _ _ _ _ _ _ _ _ _ _ _ _ _
   | exact ih2 _ _ _ _ _ _ _ _ _ _ _ _ _ _ _ _
   | exact ih3 _ _ _ _ _ _ _ _ _ _ _ _ _ _ _ _ _
   | exact ih4 _ _ _ _ _ _ _ _ _ _ _ _ _ _ _ _ _ _ _ _
   | exact ih5 _ _ _ _ _ _ _ _ _ _ _ _ _ _ _ _ _ _ _ _
   | exact ih6 _ _ _ _ _ _ _ _ _ _ _ _ _ _ _ _ _ _ _ _ _
   | exact block_Cross.mono _ _ _ _ _ _ _
   | exact standstilllaw05_awake.mono _
   | exact standstilllaw05_wide.mono _ _ _ _
   | exact standstillref01_SameInts.mono _ _ _
   | exact standstillref01_Valid.mono _ _ _ _
   | exact standstillref05_Word.mono _ _ _ _ _
   | exact LeO.none _
   | refine LeO.ite ?_ ?_
   | refine LeO.bind ?_ (fun _ => ?_)
  ·
   intro y0 y1 y2 y3 y4 y5 y6 y7 y8 y9 y10 y11 y12 y13 y14
   unfold standstilllaw05_BlockParts.l0
   repeat' first
   | (with_reducible exact ih0 _ _ _ _ _ _ _ _)
   | (with_reducible exact ih1 _ _ _ _ _ _ _ _ _ _ _ _ _ _ _)
   | (with_reducible exact ih2 _ _ _ _ _ _ _ _ _ _ _ _ _ _ _ _)
   | (with_reducible exact ih3 _ _ _ _ _ _ _ _ _ _ _ _ _ _ _ _ _)
   | (with_reducible exact ih4 _ _ _ _ _ _ _ _ _ _ _ _ _ _ _ _ _ _ _ _)
   | (with_reducible exact ih5 _ _ _ _ _ _ _ _ _ _ _ _ _ _ _ _ _ _ _ _)
   | (with_reducible exact ih6 _ _ _ _ _ _ _ _ _ _ _ _ _ _ _ _ _ _ _ _ _)
   | (with_reducible exact block_Cross.mono _ _ _ _ _ _ _)
   | (with_reducible exact standstilllaw05_awake.mono _)
   | (with_reducible exact standstilllaw05_wide.mono _ _ _ _)
   | (with_reducible exact standstillref01_SameInts.mono _ _ _)
   | (with_reducible exact standstillref01_Valid.mono _ _ _ _)
   | (with_reducible exact standstillref05_Word.mono _ _ _ _ _)
   | (with_reducible exact LeO.refl _)
   | (with_reducible exact LeO.none _)
   | (with_reducible refine LeO.ite ?_ ?_)
   | (with_reducible refine LeO.bind ?_ (fun _ => ?_))
   | exact ih0 _ _ _ _ _ _ _ _
   | exact ih1 _ _ _ _ _ _ _ _ _ _ _ _ _ _ _
   | exact ih2 _ _ _ _ _ _ _ _ _ _ _ _ _ _ _ _
   | exact ih3 _ _ _ _ _ _ _ _ _ _ _ _ _ _ _ _ _
   | exact ih4 _ _ _ _ _ _ _ _ _ _ _ _ _ _ _ _ _ _ _ _
   | exact ih5 _ _ _ _ _ _ _ _ _ _ _ _ _ _ _ _ _ _ _ _
   | exact ih6 _ _ _ _ _ _ _ _ _ _ _ _ _ _ _ _ _ _ _ _ _
   | exact block_Cross.mono _ _ _ _ _ _ _
   | exact standstilllaw05_awake.mono _
   | exact standstilllaw05_wide.mono _ _ _ _
   | exact standstillref01_SameInts.mono _ _ _
   | exact standstillref01_Valid.mono _ _ _ _
   | exact standstillref05_Word.mono _ _ _ _ _
   | exact LeO.none _
   | refine LeO.ite ?_ ?_
   | refine LeO.bind ?_ (fun _ => ?_)
  ·
   intro y0 y1 y2 y3 y4 y5 y6 y7 y8 y9 y10 y11 y12 y13 y14 y15
   unfold standstilllaw05_BlockParts.j2
   repeat' first
   | (with_reducible exact ih0 _ _ _ _ _ _ _ _)
   | (with_reducible exact ih1 _ _ _ _ _ _ _ _ _ _ _ _ _ _ _)
   | (with_reducible exact ih2 _ _ _ _ _ _ _ _ _ _ _ _ _ _ _ _)
   | (with_reducible exact ih3 _ _ _ _ _ _ _ _ _ _ _ _ _ _ _ _ _)
   | (with_reducible exact ih4 _ _ _ _ _ _ _ _ _ _ _ _ _ _ _ _ _ _ _ _)
   | (with_reducible exact ih5 _ _ _ _ _ _ _ _ _ _ _ _ _ _ _ _ _ _ _ _)
   | (with_reducible exact ih6 _ _ _ _ _ _ _ _ _ _ _ _ _ _ _ _ _ _ _ _ _)
   | (with_reducible exact block_Cross.mono _ _ _ _ _ _ _)
   | (with_reducible exact standstilllaw05_awake.mono _)
   | (with_reducible exact standstilllaw05_wide.mono _ _ _ _)
   | (with_reducible exact standstillref01_SameInts.mono _ _ _)
   | (with_reducible exact standstillref01_Valid.mono _ _ _ _)
   | (with_reducible exact standstillref05_Word.mono _ _ _ _ _)
   | (with_reducible exact LeO.refl _)
   | (with_reducible exact LeO.none _)
   | (with_reducible refine LeO.ite ?_ ?_)
   | (with_reducible refine LeO.bind ?_ (fun _ => ?_))
   | exact ih0 _ _ _ _ _ _ _ _
   | exact ih1 _ _ _ _ _ _ _ _ _ _ _ _ _ _ _
   | exact ih2 _ _ _ _ _ _ _ _ _ _ _ _ _ _ _ _
   | exact ih3 _ _ _ _ _ _ _ _ _ _ _ _ _ _ _ _ _
   | exact ih4 _ _ _ _ _ _ _ _ _ _ _ _ _ _ _ _ _ _ _ _
   | exact ih5 _ _ _ _ _ _ _ _ _ _ _ _ _ _ _ _ _ _ _ _
   | exact ih6 _ _ _ _ _ _ _ _ _ _ _ _ _ _ _ _ _ _ _ _ _
   | exact block_Cross.mono _ _ _ _ _ _ _
   | exact standstilllaw05_awake.mono _
   | exact standstilllaw05_wide.mono _ _ _ _
   | exact standstillref01_SameInts.mono _ _ _
   | exact standstillref01_Valid.mono _ _ _ _
   | exact standstillref05_Word.mono _ _ _ _ _
   | exact LeO.none _
   | refine LeO.ite ?_ ?_
   | refine LeO.bind ?_ (fun _ => ?_)
  ·
   intro y0 y1 y2 y3 y4 y5 y6 y7 y8 y9 y10 y11 y12 y13 y14 y15 y16
   unfold standstilllaw05_BlockParts.j3
   repeat' first
   | (with_reducible exact ih0 _ _ _ _ _ _ _ _)
   | (with_reducible exact ih1 _ _ _ _ _ _ _ _ _ _ _ _ _ _ _)
   | (with_reducible exact ih2 _ _ _ _ _ _ _ _ _ _ _ _ _ _ _ _)
   | (with_reducible exact ih3 _ _ _ _ _ _ _ _ _ _ _ _ _ _ _ _ _)
   | (with_reducible exact ih4 _ _ _ _ _ _ _ _ _ _ _ _ _ _ _ _ _ _ _ _)
   | (with_reducible exact ih5 _ _ _ _ _ _ _ _ _ _ _ _ _ _ _ _ _ _ _ _)
   | (with_reducible exact ih6 _ _ _ _ _ _ _ _ _ _ _ _ _ _ _ _ _ _ _ _ _)
   | (with_reducible exact block_Cross.mono _ _ _ _ _ _ _)
   | (with_reducible exact standstilllaw05_awake.mono _)
   | (with_reducible exact standstilllaw05_wide.mono _ _ _ _)
   | (with_reducible exact standstillref01_SameInts.mono _ _ _)
   | (with_reducible exact standstillref01_Valid.mono _ _ _ _)
   | (with_reducible exact standstillref05_Word.mono _ _ _ _ _)
   | (with_reducible exact LeO.refl _)
   | (with_reducible exact LeO.none _)
   | (with_reducible refine LeO.ite ?_ ?_)
   | (with_reducible refine LeO.bind ?_ (fun _ => ?_))
   | exact ih0 _ _ _ _ _ _ _ _
   | exact ih1 _ _ _ _ _ _ _ _ _ _ _ _ _ _ _
   | exact ih2 _ _ _ _ _ _ _ _ _ _ _ _ _ _ _ _
   | exact ih3 _ _ _ _ _ _ _ _ _ _ _ _ _ _ _ _ _
   | exact ih4 _ _ _ _ _ _ _ _ _ _ _ _ _ _ _ _ _ _ _ _
   | exact ih5 _ _ _ _ _ _ _ _ _ _ _ _ _ _ _ _ _ _ _ _
   | exact ih6 _ _ _ _ _ _ _ _ _ _ _ _ _ _ _ _ _ _ _ _ _
   | exact block_Cross.mono _ _ _ _ _ _ _
   | exact standstilllaw05_awake.mono _
   | exact standstilllaw05_wide.mono _ _ _ _
   | exact standstillref01_SameInts.mono _ _ _
   | exact standstillref01_Valid.mono _ _ _ _
   | exact standstillref05_Word.mono _ _ _ _ _
   | exact LeO.none _
   | refine LeO.ite ?_ ?_
   | refine LeO.bind ?_ (fun _ => ?_)
  ·
   intro y0 y1 y2 y3 y4 y5 y6 y7 y8 y9 y10 y11 y12 y13 y14 y15 y16 y17 y18 y19
   unfold standstilllaw05_BlockParts.j4
   repeat' first
   | (with_reducible exact ih0 _ _ _ _ _ _ _ _)
   | (with_reducible exact ih1 _ _ _ _ _ _ _ _ _ _ _ _ _ _ _)
   | (with_reducible exact ih2 _ _ _ _ _ _ _ _ _ _ _ _ _ _ _ _)
   | (with_reducible exact ih3 _ _ _ _ _ _ _ _ _ _ _ _ _ _ _ _ _)
   | (with_reducible exact ih4 _ _ _ _ _ _ _ _ _ _ _ _ _ _ _ _ _ _ _ _)
   | (with_reducible exact ih5 _ _ _ _ _ _ _ _ _ _ _ _ _ _ _ _ _ _ _ _)
   | (with_reducible exact ih6 _ _ _ _ _ _ _ _ _ _ _ _ _ _ _ _ _ _ _ _ _)
   | (with_reducible exact block_Cross.mono _ _ _ _ _ _ _)
   | (with_reducible exact standstilllaw05_awake.mono _)
   | (with_reducible exact standstilllaw05_wide.mono _ _ _ _)
   | (with_reducible exact standstillref01_SameInts.mono _ _ _)
   | (with_reducible exact standstillref01_Valid.mono _ _ _ _)
   | (with_reducible exact standstillref05_Word.mono _ _ _ _ _)
   | (with_reducible exact LeO.refl _)
   | (with_reducible exact LeO.none _)
   | (with_reducible refine LeO.ite ?_ ?_)
   | (with_reducible refine LeO.bind ?_ (fun _ => ?_))
   | exact ih0 _ _ _ _ _ _ _ _
   | exact ih1 _ _ _ _ _ _ _ _ _ _ _ _ _ _ _
   | exact ih2 _ _ _ _ _ _ _ _ _ _ _ _ _ _ _ _
   | exact ih3 _ _ _ _ _ _ _ _ _ _ _ _ _ _ _ _ _
   | exact ih4 _ _ _ _ _ _ _ _ _ _ _ _ _ _ _ _ _ _ _ _
   | exact ih5 _ _ _ _ _ _ _ _ _ _ _ _ _ _ _ _ _ _ _ _
   | exact ih6 _ _ _ _ _ _ _ _ _ _ _ _ _ _ _ _ _ _ _ _ _
   | exact block_Cross.mono _ _ _ _ _ _ _
   | exact standstilllaw05_awake.mono _
   | exact standstilllaw05_wide.mono _ _ _ _
   | exact standstillref01_SameInts.mono _ _ _
   | exact standstillref01_Valid.mono _ _ _ _
   | exact standstillref05_Word.mono _ _ _ _ _
   | exact LeO.none _
   | refine LeO.ite ?_ ?_
   | refine LeO.bind ?_ (fun _ => ?_)
  ·
   intro y0 y1 y2 y3 y4 y5 y6 y7 y8 y9 y10 y11 y12 y13 y14 y15 y16 y17 y18 y19
   unfold standstilllaw05_BlockParts.l1
   repeat' first
   | (with_reducible exact ih0 _ _ _ _ _ _ _ _)
   | (with_reducible exact ih1 _ _ _ _ _ _ _ _ _ _ _ _ _ _ _)
   | (with_reducible exact ih2 _ _ _ _ _ _ _ _ _ _ _ _ _ _ _ _)
   | (with_reducible exact ih3 _ _ _ _ _ _ _ _ _ _ _ _ _ _ _ _ _)
   | (with_reducible exact ih4 _ _ _ _ _ _ _ _ _ _ _ _ _ _ _ _ _ _ _ _)
   | (with_reducible exact ih5 _ _ _ _ _ _ _ _ _ _ _ _ _ _ _ _ _ _ _ _)
   | (with_reducible exact ih6 _ _ _ _ _ _ _ _ _ _ _ _ _ _ _ _ _ _ _ _ _)
   | (with_reducible exact block_Cross.mono _ _ _ _ _ _ _)
   | (with_reducible exact standstilllaw05_awake.mono _)
   | (with_reducible exact standstilllaw05_wide.mono _ _ _ _)
   | (with_reducible exact standstillref01_SameInts.mono _ _ _)
   | (with_reducible exact standstillref01_Valid.mono _ _ _ _)
   | (with_reducible exact standstillref05_Word.mono _ _ _ _ _)
   | (with_reducible exact LeO.refl _)
   | (with_reducible exact LeO.none _)
   | (with_reducible refine LeO.ite ?_ ?_)
   | (with_reducible refine LeO.bind ?_ (fun _ => ?_))
   | exact ih0 _ _ _ _ _ _ _ _
   | exact ih1 _ _ _ _ _ _ _ _ _ _ _ _ _ _ _
   | exact ih2 _ _ _ _ _ _ _ _ _ _ _ _ _ _ _ _
   | exact ih3 _ _ _ _ _ _ _ _ _ _ _ _ _ _ _ _ _
   | exact ih4 _ _ _ _ _ _ _ _ _ _ _ _ _ _ _ _ _ _ _ _
   | exact ih5 _ _ _ _ _ _ _ _ _ _ _ _ _ _ _ _ _ _ _ _
   | exact ih6 _ _ _ _ _ _ _ _ _ _ _ _ _ _ _ _ _ _ _ _ _
   | exact block_Cross.mono _ _ _ _ _ _ _
   | exact standstilllaw05_awake.mono _
   | exact standstilllaw05_wide.mono _ _ _ _
   | exact standstillref01_SameInts.mono _ _ _
   | exact standstillref01_Valid.mono _ _ _ _
   | exact standstillref05_Word.mono _ _ _ _ _
   | exact LeO.none _
   | refine LeO.ite ?_ ?_
   | refine LeO.bind ?_ (fun _ => ?_)
  ·
   intro y0 y1 y2 y3 y4 y5 y6 y7 y8 y9 y10 y11 y12 y13 y14 y15 y16 y17 y18 y19 y20
   unfold standstilllaw05_BlockParts.j6
   repeat' first
   | (with_reducible exact ih0 _ _ _ _ _ _ _ _)
   | (with_reducible exact ih1 _ _ _ _ _ _ _ _ _ _ _ _ _ _ _)
   | (with_reducible exact ih2 _ _ _ _ _ _ _ _ _ _ _ _ _ _ _ _)
   | (with_reducible exact ih3 _ _ _ _ _ _ _ _ _ _ _ _ _ _ _ _ _)
   | (with_reducible exact ih4 _ _ _ _ _ _ _ _ _ _ _ _ _ _ _ _ _ _ _ _)
   | (with_reducible exact ih5 _ _ _ _ _ _ _ _ _ _ _ _ _ _ _ _ _ _ _ _)
   | (with_reducible exact ih6 _ _ _ _ _ _ _ _ _ _ _ _ _ _ _ _ _ _ _ _ _)
   | (with_reducible exact block_Cross.mono _ _ _ _ _ _ _)
   | (with_reducible exact standstilllaw05_awake.mono _)
   | (with_reducible exact standstilllaw05_wide.mono _ _ _ _)
   | (with_reducible exact standstillref01_SameInts.mono _ _ _)
   | (with_reducible exact standstillref01_Valid.mono _ _ _ _)
   | (with_reducible exact standstillref05_Word.mono _ _ _ _ _)
   | (with_reducible exact LeO.refl _)
   | (with_reducible exact LeO.none _)
   | (with_reducible refine LeO.ite ?_ ?_)
   | (with_reducible refine LeO.bind ?_ (fun _ => ?_))
   | exact ih0 _ _ _ _ _ _ _ _
   | exact ih1 _ _ _ _ _ _ _ _ _ _ _ _ _ _ _
   | exact ih2 _ _ _ _ _ _ _ _ _ _ _ _ _ _ _ _
   | exact ih3 _ _ _ _ _ _ _ _ _ _ _ _ _ _ _ _ _
   | exact ih4 _ _ _ _ _ _ _ _ _ _ _ _ _ _ _ _ _ _ _ _
   | exact ih5 _ _ _ _ _ _ _ _ _ _ _ _ _ _ _ _ _ _ _ _
   | exact ih6 _ _ _ _ _ _ _ _ _ _ _ _ _ _ _ _ _ _ _ _ _
   | exact block_Cross.mono _ _ _ _ _ _ _
   | exact standstilllaw05_awake.mono _
   | exact standstilllaw05_wide.mono _ _ _ _
   | exact standstillref01_SameInts.mono _ _ _
   | exact standstillref01_Valid.mono _ _ _ _
   | exact standstillref05_Word.mono _ _ _ _ _
   | exact LeO.none _
   | refine LeO.ite ?_ ?_
   | refine LeO.bind ?_ (fun _ => ?_)
theorem standstilllaw05_BlockParts.mono : ∀ a0 a1 a2 a3 a4 a5 a6 k, LeO (standstilllaw05_BlockParts.f k a0 a1 a2 a3 a4 a5 a6) (standstilllaw05_BlockParts.f (k + 1) a0 a1 a2 a3 a4 a5 a6) := by
 intro a0 a1 a2 a3 a4 a5 a6 k
 obtain ⟨ih0, ih1, ih2, ih3, ih4, ih5, ih6⟩ := standstilllaw05_BlockParts.mono_l k
 unfold standstilllaw05_BlockParts.f
 repeat' first
   | (with_reducible exact ih0 _ _ _ _ _ _ _ _)
   | (with_reducible exact ih1 _ _ _ _ _ _ _ _ _ _ _ _ _ _ _)
   | (with_reducible exact ih2 _ _ _ _ _ _ _ _ _ _ _ _ _ _ _ _)
   | (with_reducible exact ih3 _ _ _ _ _ _ _ _ _ _ _ _ _ _ _ _ _)
   | (with_reducible exact ih4 _ _ _ _ _ _ _ _ _ _ _ _ _ _ _ _ _ _ _ _)
   | (with_reducible exact ih5 _ _ _ _ _ _ _ _ _ _ _ _ _ _ _ _ _ _ _ _)
   | (with_reducible exact ih6 _ _ _ _ _ _ _ _ _ _ _ _ _ _ _ _ _ _ _ _ _)
   | (with_reducible exact block_Cross.mono _ _ _ _ _ _ _)
   | (with_reducible exact standstilllaw05_awake.mono _)
   | (with_reducible exact standstilllaw05_wide.mono _ _ _ _)
   | (with_reducible exact standstillref01_SameInts.mono _ _ _)
   | (with_reducible exact standstillref01_Valid.mono _ _ _ _)
   | (with_reducible exact standstillref05_Word.mono _ _ _ _ _)
   | (with_reducible exact LeO.refl _)
   | (with_reducible exact LeO.none _)
   | (with_reducible refine LeO.ite ?_ ?_)
   | (with_reducible refine LeO.bind ?_ (fun _ => ?_))
   | exact ih0 _ _ _ _ _ _ _ _
   | exact ih1 _ _ _ _ _ _ _ _ _ _ _ _ _ _ _
   | exact ih2 _ _ _ _ _ _ _ _ _ _ _ _ _ _ _ _
   | exact ih3 _ _ _ _ _ _ _ _ _ _ _ _ _ _ _ _ _
   | exact ih4 _ _ _ _ _ _ _ _ _ _ _ _ _ _ _ _ _ _ _ _
   | exact ih5 _ _ _ _ _ _ _ _ _ _ _ _ _ _ _ _ _ _ _ _
   | exact ih6 _ _ _ _ _ _ _ _ _ _ _ _ _ _ _ _ _ _ _ _ _
   | exact block_Cross.mono _ _ _ _ _ _ _
   | exact standstilllaw05_awake.mono _
   | exact standstilllaw05_wide.mono _ _ _ _
   | exact standstillref01_SameInts.mono _ _ _
   | exact standstillref01_Valid.mono _ _ _ _
   | exact standstillref05_Word.mono _ _ _ _ _
   | exact LeO.none _
   | refine LeO.ite ?_ ?_
   | refine LeO.bind ?_ (fun _ => ?_)
def standstilllaw05_BlockParts.T14 : Bool × List (List Nat × List Nat) := (true, [([], []), ([], []), ([], []), ([], []), ([2, 3], [2, 3]), ([], []), ([], []), ([], []), ([5, 6, 7], [5, 6, 7]), ([0, 1, 4, 8], [0, 1, 4, 8]), ([9], [9]), ([10], [10]), ([10], [10]), ([], []), ([13, 11, 9, 0, 1, 2, 3, 4, 5, 6, 7, 8, 9, 10, 11, 13], [11, 13]), ([12, 14, 0, 1, 2, 3, 4, 5, 6, 7, 8, 9, 10, 11, 12, 13, 14], [12])])
def standstilllaw05_BlockParts.B14 : List Nat := [0, 0, 0, 0, 12, 0, 0, 0, 224, 511, 1023, 2047, 2047, 0, 12287, 32767]
theorem standstilllaw05_BlockParts.tab14 : rtab .any (opsOf Try.f4 14) = standstilllaw05_BlockParts.T14 := by kernel_rfl
theorem standstilllaw05_BlockParts.bits14 : waitsOk standstilllaw05_BlockParts.T14.2 standstilllaw05_BlockParts.B14 = true := by kernel_rfl
def standstilllaw05_BlockParts.T25 : Bool × List (List Nat × List Nat) := (true, [([], []), ([0], [0]), ([], []), ([], []), ([3], [3]), ([2, 4], [2, 4]), ([], []), ([], []), ([7], [7]), ([6, 8], [6, 8]), ([1, 0, 1], [1]), ([5, 10, 0, 1, 2, 3, 4, 5, 10], [5]), ([9, 11, 0, 1, 2, 3, 4, 5, 6, 7, 8, 9, 10, 11], [6, 9])])
def standstilllaw05_BlockParts.B25 : List Nat := [0, 1, 0, 0, 8, 28, 0, 0, 128, 448, 3, 1087, 4095]
theorem standstilllaw05_BlockParts.tab25 : rtab .any (opsOf Try.f4 25) = standstilllaw05_BlockParts.T25 := by kernel_rfl
theorem standstilllaw05_BlockParts.bits25 : waitsOk standstilllaw05_BlockParts.T25.2 standstilllaw05_BlockParts.B25 = true := by kernel_rfl
set_option maxHeartbeats 8000000 in
set_option maxRecDepth 100000 in
theorem standstilllaw05_BlockParts.calls (k : Nat) (a0_0 : Int) (a0_1 : Int) (A0_2 : Option Addr) (c0_2 : Nat) (l0_2 : List (List (S57))) (a1 : Int) (a2 : Int) (A3 : Option Addr) (c3 : Nat) (l3 : List Int) (a4 : Int) (r : Bool) (w : World) (hr0_2 : Kd.C (Kd.slice 57 k57) w A0_2 l0_2.length l0_2) (hc0_2 : l0_2.length ≤ c0_2) (hr3 : Kd.C (Kd.int .i64) w A3 l3.length l3) (hc3 : l3.length ≤ c3) (h : standstilllaw05_BlockParts.f k a0_0 a0_1 l0_2 a1 a2 l3 a4 = some r) :
  Calls Try.prog 4 #[.agg #[.int .i64 a0_0, .int .i64 a0_1, .slice A0_2 l0_2.length c0_2], .int .i64 a1, .int .i64 a2, .slice A3 l3.length c3, .int .u8 a4] w fun e w' => e = .returned (.bool r) ∧ Below w.heap.size w w' := by
 have hu24 := Try.underlying24
 have hu29 := Try.underlying29
 have HR0_2 := Aside0.mk hr0_2
 have HC0_2 := Aside0.mk hc0_2
 clear hr0_2 hc0_2
 have HR3 := Aside0.mk hr3
 have HC3 := Aside0.mk hc3
 clear hr3 hc3
 have HB := Aside0.mk (Below.refl w.heap.size w)
 have H : ((standstilllaw05_wide.f k a0_0 a0_1 l0_2).bind fun t270 => (if t270 = true then (standstilllaw05_BlockParts.j0 k a1 a2 l3 a4 true a0_0 a0_1 l0_2) else ((standstillref01_Valid.f k a0_0 a0_1 l0_2).bind fun t271 => (if t271 = true then (if a1 < 0 then (standstilllaw05_BlockParts.j0 k a1 a2 l3 a4 true a0_0 a0_1 l0_2) else (if a1 ≥ a0_0 then (standstilllaw05_BlockParts.j0 k a1 a2 l3 a4 true a0_0 a0_1 l0_2) else ((standstillref05_Word.f k a0_0 a0_1 l0_2 l3).bind fun t272 => (if t272 = true then (if (l3.length : Int) < 2 then (standstilllaw05_BlockParts.j0 k a1 a2 l3 a4 true a0_0 a0_1 l0_2) else (if a2 < 0 then (standstilllaw05_BlockParts.j0 k a1 a2 l3 a4 true a0_0 a0_1 l0_2) else (standstilllaw05_BlockParts.j0 k a1 a2 l3 a4 (decide (a2 ≥ (l3.length : Int))) a0_0 a0_1 l0_2))) else (standstilllaw05_BlockParts.j0 k a1 a2 l3 a4 true a0_0 a0_1 l0_2))))) else (standstilllaw05_BlockParts.j0 k a1 a2 l3 a4 true a0_0 a0_1 l0_2))))) = some r := h
 clear h
 have HC6 := Aside0.mk H
 clear H
 go_enter Try.func4, Try.ntmps4
 go_upto_region 1 with (first | ((with_reducible refine gate_dst (N := 5) rfl ?_); (try (refine gate_guard (by rfl) ?_; dsimp only)); refine box_event ?hg (N := 5) ?hd (cs := #[.int .i64 a0_0, .int .i64 a0_1, .slice A0_2 l0_2.length c0_2]) (t := 24) ?hr ?_; (case hd => rfl); (case hg => rfl); (case hr => first | (go_simp; done) | (go_simp; rfl)); intro gb269 hg w7 hbox hb; have BK269 := Aside0.mk (hbox); have GW269 := Aside0.mk ((by rw [hg]; exact (below_size (zB HB)) : w.heap.size ≤ gb269)); have GE269 := Aside0.mk ((by rw [hg]; exact (below_size (zB HB)) : w.heap.size ≤ gb269)); replace HB := Aside0.mk (below_step (zB HB) hb); clear hb hbox hg))
 (try simp only [Act.put, zs, zs0, zs1])
 go_cut [60] (fun v60 wc => ∃ (kq : Nat) (x60_5 : Bool), v60 = .bool x60_5 ∧ Aside0 (standstilllaw05_BlockParts.j0 kq a1 a2 l3 a4 x60_5 a0_0 a0_1 l0_2 = some r) ∧ Aside0 (kq ≤ k) ∧ Aside0 (wc.heap[gb269]? = some (.cells #[.int .i64 a0_0, .int .i64 a0_1, (.slice A0_2 l0_2.length c0_2)] 24 (0, 0))) ∧ Aside0 (Below w.heap.size w wc))
 case first =>
  have H := HC6.out
  clear HC6
  replace H := Option.bind_eq_some_iff.mp H
  obtain ⟨t270, A80, H⟩ := H
  replace H : (if t270 = true then (standstilllaw05_BlockParts.j0 k a1 a2 l3 a4 true a0_0 a0_1 l0_2) else ((standstillref01_Valid.f k a0_0 a0_1 l0_2).bind fun t271 => (if t271 = true then (if a1 < 0 then (standstilllaw05_BlockParts.j0 k a1 a2 l3 a4 true a0_0 a0_1 l0_2) else (if a1 ≥ a0_0 then (standstilllaw05_BlockParts.j0 k a1 a2 l3 a4 true a0_0 a0_1 l0_2) else ((standstillref05_Word.f k a0_0 a0_1 l0_2 l3).bind fun t272 => (if t272 = true then (if (l3.length : Int) < 2 then (standstilllaw05_BlockParts.j0 k a1 a2 l3 a4 true a0_0 a0_1 l0_2) else (if a2 < 0 then (standstilllaw05_BlockParts.j0 k a1 a2 l3 a4 true a0_0 a0_1 l0_2) else (standstilllaw05_BlockParts.j0 k a1 a2 l3 a4 (decide (a2 ≥ (l3.length : Int))) a0_0 a0_1 l0_2))) else (standstilllaw05_BlockParts.j0 k a1 a2 l3 a4 true a0_0 a0_1 l0_2))))) else (standstilllaw05_BlockParts.j0 k a1 a2 l3 a4 true a0_0 a0_1 l0_2)))) = some r := H
  have A8 := Aside0.mk A80
  clear A80
  by_cases c9 : t270 = true
  ·
   subst c9
   have H1 : (standstilllaw05_BlockParts.j0 k a1 a2 l3 a4 true a0_0 a0_1 l0_2) = some r := by rw [if_pos rfl] at H; exact H
   clear H
   have H := H1
   clear H1
   have H' := Aside0.mk H
   clear H
   have hz10 := zc3 BK269
   go_wp2_with (first | ((with_reducible refine gate_callee (f := 7) rfl ?_); refine goesL_ (some 24) rfl rfl Try.func7 (by kernel_rfl) rfl #[.agg #[.int .i64 a0_0, .int .i64 a0_1, .slice A0_2 l0_2.length c0_2]] rfl (zm) ?_; (with_reducible refine (standstilllaw05_wide.calls k a0_0 a0_1 _ _ l0_2 true _ ?side1 ?side2 A8.out).mono ?_); (case side1 => exact zC ((Kd.C_below HR0_2.out HB.out))); (case side2 => exact HC0_2.out); rintro e w11 ⟨rfl, hb⟩; refine ⟨_, rfl, ?_⟩; replace BK269 := Aside0.mk (zb BK269 hb); replace HB := Aside0.mk (below_step (zB HB) hb); (try clear hb); (try clear hb2); (try clear hk); (try clear hi)))
   go_meet
   case rel => exact ⟨_, (true), (by first | rfl | (simp; done) | (simp [*]; done)), H', ⟨by first | omega | exact Nat.le_refl _⟩, ⟨zk BK269⟩, ⟨zB HB⟩⟩
  ·
   replace c9 := Bool.eq_false_iff.mpr c9
   subst c9
   have H1 : ((standstillref01_Valid.f k a0_0 a0_1 l0_2).bind fun t271 => (if t271 = true then (if a1 < 0 then (standstilllaw05_BlockParts.j0 k a1 a2 l3 a4 true a0_0 a0_1 l0_2) else (if a1 ≥ a0_0 then (standstilllaw05_BlockParts.j0 k a1 a2 l3 a4 true a0_0 a0_1 l0_2) else ((standstillref05_Word.f k a0_0 a0_1 l0_2 l3).bind fun t272 => (if t272 = true then (if (l3.length : Int) < 2 then (standstilllaw05_BlockParts.j0 k a1 a2 l3 a4 true a0_0 a0_1 l0_2) else (if a2 < 0 then (standstilllaw05_BlockParts.j0 k a1 a2 l3 a4 true a0_0 a0_1 l0_2) else (standstilllaw05_BlockParts.j0 k a1 a2 l3 a4 (decide (a2 ≥ (l3.length : Int))) a0_0 a0_1 l0_2))) else (standstilllaw05_BlockParts.j0 k a1 a2 l3 a4 true a0_0 a0_1 l0_2))))) else (standstilllaw05_BlockParts.j0 k a1 a2 l3 a4 true a0_0 a0_1 l0_2))) = some r := by rw [if_neg (show ¬ (false = true) by decide)] at H; exact H
   clear H
   have H := H1
   clear H1
   replace H := Option.bind_eq_some_iff.mp H
   obtain ⟨t271, A120, H⟩ := H
   replace H : (if t271 = true then (if a1 < 0 then (standstilllaw05_BlockParts.j0 k a1 a2 l3 a4 true a0_0 a0_1 l0_2) else (if a1 ≥ a0_0 then (standstilllaw05_BlockParts.j0 k a1 a2 l3 a4 true a0_0 a0_1 l0_2) else ((standstillref05_Word.f k a0_0 a0_1 l0_2 l3).bind fun t272 => (if t272 = true then (if (l3.length : Int) < 2 then (standstilllaw05_BlockParts.j0 k a1 a2 l3 a4 true a0_0 a0_1 l0_2) else (if a2 < 0 then (standstilllaw05_BlockParts.j0 k a1 a2 l3 a4 true a0_0 a0_1 l0_2) else (standstilllaw05_BlockParts.j0 k a1 a2 l3 a4 (decide (a2 ≥ (l3.length : Int))) a0_0 a0_1 l0_2))) else (standstilllaw05_BlockParts.j0 k a1 a2 l3 a4 true a0_0 a0_1 l0_2))))) else (standstilllaw05_BlockParts.j0 k a1 a2 l3 a4 true a0_0 a0_1 l0_2)) = some r := H
   have A12 := Aside0.mk A120
   clear A120
   by_cases c13 : t271 = true
   ·
    subst c13
    have H1 : (if a1 < 0 then (standstilllaw05_BlockParts.j0 k a1 a2 l3 a4 true a0_0 a0_1 l0_2) else (if a1 ≥ a0_0 then (standstilllaw05_BlockParts.j0 k a1 a2 l3 a4 true a0_0 a0_1 l0_2) else ((standstillref05_Word.f k a0_0 a0_1 l0_2 l3).bind fun t272 => (if t272 = true then (if (l3.length : Int) < 2 then (standstilllaw05_BlockParts.j0 k a1 a2 l3 a4 true a0_0 a0_1 l0_2) else (if a2 < 0 then (standstilllaw05_BlockParts.j0 k a1 a2 l3 a4 true a0_0 a0_1 l0_2) else (standstilllaw05_BlockParts.j0 k a1 a2 l3 a4 (decide (a2 ≥ (l3.length : Int))) a0_0 a0_1 l0_2))) else (standstilllaw05_BlockParts.j0 k a1 a2 l3 a4 true a0_0 a0_1 l0_2))))) = some r := by rw [if_pos rfl] at H; exact H
    clear H
    have H := H1
    clear H1
    by_cases c14 : a1 < 0
    ·
     rw [if_pos c14] at H
     have c14b0 : decide (a1 < 0) = true := decide_eq_true c14
     clear c14
     (first | rw [c14b0] | (simp only [i64_w, i32_w]; rw [c14b0]) | skip)
     (try rw [c14b1])
     have H' := Aside0.mk H
     clear H
     have hz15 := zc3 BK269
     go_wp2_with (first | ((with_reducible refine gate_callee (f := 7) rfl ?_); refine goesL_ (some 24) rfl rfl Try.func7 (by kernel_rfl) rfl #[.agg #[.int .i64 a0_0, .int .i64 a0_1, .slice A0_2 l0_2.length c0_2]] rfl (zm) ?_; (with_reducible refine (standstilllaw05_wide.calls k a0_0 a0_1 _ _ l0_2 false _ ?side1 ?side2 A8.out).mono ?_); (case side1 => exact zC ((Kd.C_below HR0_2.out HB.out))); (case side2 => exact HC0_2.out); rintro e w16 ⟨rfl, hb⟩; refine ⟨_, rfl, ?_⟩; replace BK269 := Aside0.mk (zb BK269 hb); replace HB := Aside0.mk (below_step (zB HB) hb); (try clear hb); (try clear hb2); (try clear hk); (try clear hi); have hz17 := zc3 BK269) | (go_at_call 10; (with_reducible refine (standstillref01_Valid.calls k a0_0 a0_1 _ _ l0_2 true _ ?side1 ?side2 A12.out).mono ?_); (case side1 => exact zC ((Kd.C_below HR0_2.out HB.out))); (case side2 => exact HC0_2.out); rintro e w18 ⟨rfl, hb⟩; replace BK269 := Aside0.mk (zb BK269 hb); replace HB := Aside0.mk (below_step (zB HB) hb); (try clear hb); (try clear hb2); (try clear hk); (try clear hi)))
     go_meet
     case rel => exact ⟨_, (true), (by first | rfl | (simp; done) | (simp [*]; done)), H', ⟨by first | omega | exact Nat.le_refl _⟩, ⟨zk BK269⟩, ⟨zB HB⟩⟩
    ·
     rw [if_neg c14] at H
     have c14b0 : decide (a1 < 0) = false := decide_eq_false c14
     clear c14
     (first | rw [c14b0] | (simp only [i64_w, i32_w]; rw [c14b0]) | skip)
     (try rw [c14b1])
     by_cases c19 : a1 ≥ a0_0
     ·
      rw [if_pos c19] at H
      have c19b0 : decide (a0_0 ≤ a1) = true := decide_eq_true c19
      clear c19
      have H' := Aside0.mk H
      clear H
      have hz20 := zc3 BK269
      go_wp2_with (first | ((with_reducible refine gate_callee (f := 7) rfl ?_); refine goesL_ (some 24) rfl rfl Try.func7 (by kernel_rfl) rfl #[.agg #[.int .i64 a0_0, .int .i64 a0_1, .slice A0_2 l0_2.length c0_2]] rfl (zm) ?_; (with_reducible refine (standstilllaw05_wide.calls k a0_0 a0_1 _ _ l0_2 false _ ?side1 ?side2 A8.out).mono ?_); (case side1 => exact zC ((Kd.C_below HR0_2.out HB.out))); (case side2 => exact HC0_2.out); rintro e w21 ⟨rfl, hb⟩; refine ⟨_, rfl, ?_⟩; replace BK269 := Aside0.mk (zb BK269 hb); replace HB := Aside0.mk (below_step (zB HB) hb); (try clear hb); (try clear hb2); (try clear hk); (try clear hi); have hz22 := zc3 BK269) | (go_at_call 10; (with_reducible refine (standstillref01_Valid.calls k a0_0 a0_1 _ _ l0_2 true _ ?side1 ?side2 A12.out).mono ?_); (case side1 => exact zC ((Kd.C_below HR0_2.out HB.out))); (case side2 => exact HC0_2.out); rintro e w23 ⟨rfl, hb⟩; replace BK269 := Aside0.mk (zb BK269 hb); replace HB := Aside0.mk (below_step (zB HB) hb); (try clear hb); (try clear hb2); (try clear hk); (try clear hi); have hz24 := zc3 BK269))
      go_meet
      case rel => exact ⟨_, (true), (by first | rfl | (simp; done) | (simp [*]; done)), H', ⟨by first | omega | exact Nat.le_refl _⟩, ⟨zk BK269⟩, ⟨zB HB⟩⟩
     ·
      rw [if_neg c19] at H
      have c19b0 : decide (a0_0 ≤ a1) = false := decide_eq_false c19
      clear c19
      replace H := Option.bind_eq_some_iff.mp H
      obtain ⟨t272, A250, H⟩ := H
      replace H : (if t272 = true then (if (l3.length : Int) < 2 then (standstilllaw05_BlockParts.j0 k a1 a2 l3 a4 true a0_0 a0_1 l0_2) else (if a2 < 0 then (standstilllaw05_BlockParts.j0 k a1 a2 l3 a4 true a0_0 a0_1 l0_2) else (standstilllaw05_BlockParts.j0 k a1 a2 l3 a4 (decide (a2 ≥ (l3.length : Int))) a0_0 a0_1 l0_2))) else (standstilllaw05_BlockParts.j0 k a1 a2 l3 a4 true a0_0 a0_1 l0_2)) = some r := H
      have A25 := Aside0.mk A250
      clear A250
      by_cases c26 : t272 = true
      ·
       subst c26
       have H1 : (if (l3.length : Int) < 2 then (standstilllaw05_BlockParts.j0 k a1 a2 l3 a4 true a0_0 a0_1 l0_2) else (if a2 < 0 then (standstilllaw05_BlockParts.j0 k a1 a2 l3 a4 true a0_0 a0_1 l0_2) else (standstilllaw05_BlockParts.j0 k a1 a2 l3 a4 (decide (a2 ≥ (l3.length : Int))) a0_0 a0_1 l0_2))) = some r := by rw [if_pos rfl] at H; exact H
       clear H
       have H := H1
       clear H1
       by_cases c27 : (l3.length : Int) < 2
       ·
        rw [if_pos c27] at H
        have c27b0 : decide ((l3.length : Int) < 2) = true := decide_eq_true c27
        have c27b1 : decide (l3.length < 2) = true := decide_eq_true (by omega)
        clear c27
        have H' := Aside0.mk H
        clear H
        have hz28 := zc3 BK269
        go_wp2_with (first | ((with_reducible refine gate_callee (f := 7) rfl ?_); refine goesL_ (some 24) rfl rfl Try.func7 (by kernel_rfl) rfl #[.agg #[.int .i64 a0_0, .int .i64 a0_1, .slice A0_2 l0_2.length c0_2]] rfl (zm) ?_; (with_reducible refine (standstilllaw05_wide.calls k a0_0 a0_1 _ _ l0_2 false _ ?side1 ?side2 A8.out).mono ?_); (case side1 => exact zC ((Kd.C_below HR0_2.out HB.out))); (case side2 => exact HC0_2.out); rintro e w29 ⟨rfl, hb⟩; refine ⟨_, rfl, ?_⟩; replace BK269 := Aside0.mk (zb BK269 hb); replace HB := Aside0.mk (below_step (zB HB) hb); (try clear hb); (try clear hb2); (try clear hk); (try clear hi); have hz30 := zc3 BK269) | (go_at_call 10; (with_reducible refine (standstillref01_Valid.calls k a0_0 a0_1 _ _ l0_2 true _ ?side1 ?side2 A12.out).mono ?_); (case side1 => exact zC ((Kd.C_below HR0_2.out HB.out))); (case side2 => exact HC0_2.out); rintro e w31 ⟨rfl, hb⟩; replace BK269 := Aside0.mk (zb BK269 hb); replace HB := Aside0.mk (below_step (zB HB) hb); (try clear hb); (try clear hb2); (try clear hk); (try clear hi); have hz32 := zc3 BK269) | (go_at_call 12; (with_reducible refine (standstillref05_Word.calls k a0_0 a0_1 _ _ l0_2 _ _ l3 true _ ?side1 ?side2 ?side3 ?side4 A25.out).mono ?_); (case side1 => exact zC ((Kd.C_below HR0_2.out HB.out))); (case side2 => exact HC0_2.out); (case side3 => exact zC ((Kd.C_below HR3.out HB.out))); (case side4 => exact HC3.out); rintro e w33 ⟨rfl, hb⟩; replace BK269 := Aside0.mk (zb BK269 hb); replace HB := Aside0.mk (below_step (zB HB) hb); (try clear hb); (try clear hb2); (try clear hk); (try clear hi)))
        go_meet
        case rel => exact ⟨_, (true), (by first | rfl | (simp; done) | (simp [*]; done)), H', ⟨by first | omega | exact Nat.le_refl _⟩, ⟨zk BK269⟩, ⟨zB HB⟩⟩
       ·
        rw [if_neg c27] at H
        have c27b0 : decide ((l3.length : Int) < 2) = false := decide_eq_false c27
        have c27b1 : decide (l3.length < 2) = false := decide_eq_false (by omega)
        clear c27
        by_cases c34 : a2 < 0
        ·
         rw [if_pos c34] at H
         have c34b0 : decide (a2 < 0) = true := decide_eq_true c34
         clear c34
         have H' := Aside0.mk H
         clear H
         have hz35 := zc3 BK269
         go_wp2_with (first | ((with_reducible refine gate_callee (f := 7) rfl ?_); refine goesL_ (some 24) rfl rfl Try.func7 (by kernel_rfl) rfl #[.agg #[.int .i64 a0_0, .int .i64 a0_1, .slice A0_2 l0_2.length c0_2]] rfl (zm) ?_; (with_reducible refine (standstilllaw05_wide.calls k a0_0 a0_1 _ _ l0_2 false _ ?side1 ?side2 A8.out).mono ?_); (case side1 => exact zC ((Kd.C_below HR0_2.out HB.out))); (case side2 => exact HC0_2.out); rintro e w36 ⟨rfl, hb⟩; refine ⟨_, rfl, ?_⟩; replace BK269 := Aside0.mk (zb BK269 hb); replace HB := Aside0.mk (below_step (zB HB) hb); (try clear hb); (try clear hb2); (try clear hk); (try clear hi); have hz37 := zc3 BK269) | (go_at_call 10; (with_reducible refine (standstillref01_Valid.calls k a0_0 a0_1 _ _ l0_2 true _ ?side1 ?side2 A12.out).mono ?_); (case side1 => exact zC ((Kd.C_below HR0_2.out HB.out))); (case side2 => exact HC0_2.out); rintro e w38 ⟨rfl, hb⟩; replace BK269 := Aside0.mk (zb BK269 hb); replace HB := Aside0.mk (below_step (zB HB) hb); (try clear hb); (try clear hb2); (try clear hk); (try clear hi); have hz39 := zc3 BK269) | (go_at_call 12; (with_reducible refine (standstillref05_Word.calls k a0_0 a0_1 _ _ l0_2 _ _ l3 true _ ?side1 ?side2 ?side3 ?side4 A25.out).mono ?_); (case side1 => exact zC ((Kd.C_below HR0_2.out HB.out))); (case side2 => exact HC0_2.out); (case side3 => exact zC ((Kd.C_below HR3.out HB.out))); (case side4 => exact HC3.out); rintro e w40 ⟨rfl, hb⟩; replace BK269 := Aside0.mk (zb BK269 hb); replace HB := Aside0.mk (below_step (zB HB) hb); (try clear hb); (try clear hb2); (try clear hk); (try clear hi)))
         go_meet
         case rel => exact ⟨_, (true), (by first | rfl | (simp; done) | (simp [*]; done)), H', ⟨by first | omega | exact Nat.le_refl _⟩, ⟨zk BK269⟩, ⟨zB HB⟩⟩
        ·
         rw [if_neg c34] at H
         have c34b0 : decide (a2 < 0) = false := decide_eq_false c34
         clear c34
         have H' := Aside0.mk H
         clear H
         have hz41 := zc3 BK269
         go_wp2_with (first | ((with_reducible refine gate_callee (f := 7) rfl ?_); refine goesL_ (some 24) rfl rfl Try.func7 (by kernel_rfl) rfl #[.agg #[.int .i64 a0_0, .int .i64 a0_1, .slice A0_2 l0_2.length c0_2]] rfl (zm) ?_; (with_reducible refine (standstilllaw05_wide.calls k a0_0 a0_1 _ _ l0_2 false _ ?side1 ?side2 A8.out).mono ?_); (case side1 => exact zC ((Kd.C_below HR0_2.out HB.out))); (case side2 => exact HC0_2.out); rintro e w42 ⟨rfl, hb⟩; refine ⟨_, rfl, ?_⟩; replace BK269 := Aside0.mk (zb BK269 hb); replace HB := Aside0.mk (below_step (zB HB) hb); (try clear hb); (try clear hb2); (try clear hk); (try clear hi); have hz43 := zc3 BK269) | (go_at_call 10; (with_reducible refine (standstillref01_Valid.calls k a0_0 a0_1 _ _ l0_2 true _ ?side1 ?side2 A12.out).mono ?_); (case side1 => exact zC ((Kd.C_below HR0_2.out HB.out))); (case side2 => exact HC0_2.out); rintro e w44 ⟨rfl, hb⟩; replace BK269 := Aside0.mk (zb BK269 hb); replace HB := Aside0.mk (below_step (zB HB) hb); (try clear hb); (try clear hb2); (try clear hk); (try clear hi); have hz45 := zc3 BK269) | (go_at_call 12; (with_reducible refine (standstillref05_Word.calls k a0_0 a0_1 _ _ l0_2 _ _ l3 true _ ?side1 ?side2 ?side3 ?side4 A25.out).mono ?_); (case side1 => exact zC ((Kd.C_below HR0_2.out HB.out))); (case side2 => exact HC0_2.out); (case side3 => exact zC ((Kd.C_below HR3.out HB.out))); (case side4 => exact HC3.out); rintro e w46 ⟨rfl, hb⟩; replace BK269 := Aside0.mk (zb BK269 hb); replace HB := Aside0.mk (below_step (zB HB) hb); (try clear hb); (try clear hb2); (try clear hk); (try clear hi)))
         go_meet
         case rel => exact ⟨_, (decide (a2 ≥ (l3.length : Int))), (by first | rfl | (simp; done) | (simp [*]; done)), H', ⟨by first | omega | exact Nat.le_refl _⟩, ⟨zk BK269⟩, ⟨zB HB⟩⟩
      ·
       replace c26 := Bool.eq_false_iff.mpr c26
       subst c26
       have H1 : (standstilllaw05_BlockParts.j0 k a1 a2 l3 a4 true a0_0 a0_1 l0_2) = some r := by rw [if_neg (show ¬ (false = true) by decide)] at H; exact H
       clear H
       have H := H1
       clear H1
       have H' := Aside0.mk H
       clear H
       have hz47 := zc3 BK269
       go_wp2_with (first | ((with_reducible refine gate_callee (f := 7) rfl ?_); refine goesL_ (some 24) rfl rfl Try.func7 (by kernel_rfl) rfl #[.agg #[.int .i64 a0_0, .int .i64 a0_1, .slice A0_2 l0_2.length c0_2]] rfl (zm) ?_; (with_reducible refine (standstilllaw05_wide.calls k a0_0 a0_1 _ _ l0_2 false _ ?side1 ?side2 A8.out).mono ?_); (case side1 => exact zC ((Kd.C_below HR0_2.out HB.out))); (case side2 => exact HC0_2.out); rintro e w48 ⟨rfl, hb⟩; refine ⟨_, rfl, ?_⟩; replace BK269 := Aside0.mk (zb BK269 hb); replace HB := Aside0.mk (below_step (zB HB) hb); (try clear hb); (try clear hb2); (try clear hk); (try clear hi); have hz49 := zc3 BK269) | (go_at_call 10; (with_reducible refine (standstillref01_Valid.calls k a0_0 a0_1 _ _ l0_2 true _ ?side1 ?side2 A12.out).mono ?_); (case side1 => exact zC ((Kd.C_below HR0_2.out HB.out))); (case side2 => exact HC0_2.out); rintro e w50 ⟨rfl, hb⟩; replace BK269 := Aside0.mk (zb BK269 hb); replace HB := Aside0.mk (below_step (zB HB) hb); (try clear hb); (try clear hb2); (try clear hk); (try clear hi); have hz51 := zc3 BK269) | (go_at_call 12; (with_reducible refine (standstillref05_Word.calls k a0_0 a0_1 _ _ l0_2 _ _ l3 false _ ?side1 ?side2 ?side3 ?side4 A25.out).mono ?_); (case side1 => exact zC ((Kd.C_below HR0_2.out HB.out))); (case side2 => exact HC0_2.out); (case side3 => exact zC ((Kd.C_below HR3.out HB.out))); (case side4 => exact HC3.out); rintro e w52 ⟨rfl, hb⟩; replace BK269 := Aside0.mk (zb BK269 hb); replace HB := Aside0.mk (below_step (zB HB) hb); (try clear hb); (try clear hb2); (try clear hk); (try clear hi)))
       go_meet
       case rel => exact ⟨_, (true), (by first | rfl | (simp; done) | (simp [*]; done)), H', ⟨by first | omega | exact Nat.le_refl _⟩, ⟨zk BK269⟩, ⟨zB HB⟩⟩
   ·
    replace c13 := Bool.eq_false_iff.mpr c13
    subst c13
    have H1 : (standstilllaw05_BlockParts.j0 k a1 a2 l3 a4 true a0_0 a0_1 l0_2) = some r := by rw [if_neg (show ¬ (false = true) by decide)] at H; exact H
    clear H
    have H := H1
    clear H1
    have H' := Aside0.mk H
    clear H
    have hz53 := zc3 BK269
    go_wp2_with (first | ((with_reducible refine gate_callee (f := 7) rfl ?_); refine goesL_ (some 24) rfl rfl Try.func7 (by kernel_rfl) rfl #[.agg #[.int .i64 a0_0, .int .i64 a0_1, .slice A0_2 l0_2.length c0_2]] rfl (zm) ?_; (with_reducible refine (standstilllaw05_wide.calls k a0_0 a0_1 _ _ l0_2 false _ ?side1 ?side2 A8.out).mono ?_); (case side1 => exact zC ((Kd.C_below HR0_2.out HB.out))); (case side2 => exact HC0_2.out); rintro e w54 ⟨rfl, hb⟩; refine ⟨_, rfl, ?_⟩; replace BK269 := Aside0.mk (zb BK269 hb); replace HB := Aside0.mk (below_step (zB HB) hb); (try clear hb); (try clear hb2); (try clear hk); (try clear hi); have hz55 := zc3 BK269) | (go_at_call 10; (with_reducible refine (standstillref01_Valid.calls k a0_0 a0_1 _ _ l0_2 false _ ?side1 ?side2 A12.out).mono ?_); (case side1 => exact zC ((Kd.C_below HR0_2.out HB.out))); (case side2 => exact HC0_2.out); rintro e w56 ⟨rfl, hb⟩; replace BK269 := Aside0.mk (zb BK269 hb); replace HB := Aside0.mk (below_step (zB HB) hb); (try clear hb); (try clear hb2); (try clear hk); (try clear hi)))
    go_meet
    case rel => exact ⟨_, (true), (by first | rfl | (simp; done) | (simp [*]; done)), H', ⟨by first | omega | exact Nat.le_refl _⟩, ⟨zk BK269⟩, ⟨zB HB⟩⟩
 case rest =>
  as_aux_lemma =>
  clear HC6
  try clear c1
  try clear c2
  try clear p2
  try clear c3
  try clear c4
  try clear c7
  try clear c9
  try clear c13
  try clear c14
  try clear c14b0
  try clear c14b1
  try clear c19
  try clear c19b0
  try clear c26
  try clear c27
  try clear c27b0
  try clear c27b1
  try clear c34
  try clear c34b0
  try clear hz10
  try clear hz15
  try clear hz17
  try clear hz20
  try clear hz22
  try clear hz24
  try clear hz28
  try clear hz30
  try clear hz32
  try clear hz35
  try clear hz37
  try clear hz39
  try clear hz41
  try clear hz43
  try clear hz45
  try clear hz47
  try clear hz49
  try clear hz51
  try clear hz53
  try clear hz55
  obtain ⟨kq, x60_5, rfl, HA, HJ5, BK269, HB⟩ := hcut
  cases kq with
  | zero => exact absurd HA.out (by simp [standstilllaw05_BlockParts.j0])
  | succ kj5 =>
   have H := HA.out
   clear HA
   simp only [standstilllaw05_BlockParts.j0] at H
   by_cases c57 : x60_5 = true
   ·
    subst c57
    have H1 : ((standstilllaw05_awake.f kj5).bind fun t273 => (some t273)) = some r := by rw [if_pos rfl] at H; exact H
    clear H
    have H := H1
    clear H1
    replace H := Option.bind_eq_some_iff.mp H
    obtain ⟨t273, A580, H⟩ := H
    replace H : (some t273) = some r := H
    have A58 := Aside0.mk A580
    clear A580
    obtain rfl := Option.some.inj H
    go_wp2_with (first | ((with_reducible refine gate_callee (f := 8) rfl ?_); refine goesL_ (some 61) rfl rfl Try.func8 (by kernel_rfl) rfl #[] rfl (zm) ?_; (with_reducible refine (standstilllaw05_awake.calls kj5  t273 _ A58.out).mono ?_); rintro e w59 ⟨rfl, hb⟩; refine ⟨_, rfl, ?_⟩; replace BK269 := Aside0.mk (zb BK269 hb); replace HB := Aside0.mk (below_step (zB HB) hb); (try clear hb); (try clear hb2); (try clear hk); (try clear hi)))
    go_ret
    exact ⟨by first | rfl | (simp [errW_none, errW_some] <;> rfl) | (simp [*, errW_none, errW_some] <;> rfl), zB HB⟩
   ·
    replace c57 := Bool.eq_false_iff.mpr c57
    subst c57
    have H1 : (if (wrap64 ((l3.length : Int) - 1)) = 0 then (none) else ((block_Cross.f kj5 a0_0 a0_1 l0_2 a1 a2 l3).bind fun bt274 => (if bt274.2.2.2.2.2 = 0 then ((some (([] : List Int) : List Int)).bind fun y283 => (if y283.length + l3.length < 17592186044416 then (standstilllaw05_BlockParts.l0 kj5 a1 a2 l3 (wrap64 (1 + (Int.tmod (wrap64 (a4)) (wrap64 ((l3.length : Int) - 1))))) (y283 ++ l3) 0 0 a0_0 a0_1 l0_2 bt274.1 bt274.2.1 bt274.2.2.1 bt274.2.2.2.1 bt274.2.2.2.2.1) else (none))) else (some false)))) = some r := by rw [if_neg (show ¬ (false = true) by decide)] at H; exact H
    clear H
    have H := H1
    clear H1
    by_cases c60 : (wrap64 ((l3.length : Int) - 1)) = 0
    ·
     rw [if_pos c60] at H
     exact absurd H (by simp)
    ·
     rw [if_neg c60] at H
     have c60b0 : ((wrap64 ((l3.length : Int) - 1)) == 0) = false := beq_eq_false_iff_ne.mpr c60
     have c60b1 : ((wrap64 ((l3.length : Int) - 1)) != 0) = true := bne_iff_ne.mpr c60
     replace H := Option.bind_eq_some_iff.mp H
     obtain ⟨⟨t274, t275, t276, t277, t278, t281⟩, A610, H⟩ := H
     replace H : (if t281 = 0 then ((some (([] : List Int) : List Int)).bind fun y283 => (if y283.length + l3.length < 17592186044416 then (standstilllaw05_BlockParts.l0 kj5 a1 a2 l3 (wrap64 (1 + (Int.tmod (wrap64 (a4)) (wrap64 ((l3.length : Int) - 1))))) (y283 ++ l3) 0 0 a0_0 a0_1 l0_2 t274 t275 t276 t277 t278) else (none))) else (some false)) = some r := H
     have A61 := Aside0.mk A610
     clear A610
     have HC62 := Aside0.mk H
     clear H
     have hz63 := zc3 BK269
     go_upto_if 78 with (first | ((with_reducible refine gate_callee (f := 9) rfl ?_); refine goesL_ (some 74) rfl rfl Try.func9 (by kernel_rfl) rfl #[.agg #[.int .i64 a0_0, .int .i64 a0_1, .slice A0_2 l0_2.length c0_2], .int .i64 a1, .int .i64 a2, .slice A3 l3.length c3] rfl (zm) ?_; (with_reducible refine (block_Cross.calls kj5 a0_0 a0_1 _ _ l0_2 a1 a2 _ _ l3 t274 t275 t276 t277 t278 t281 _ ?side1 ?side2 ?side3 ?side4 A61.out).mono ?_); (case side1 => exact zC ((Kd.C_below HR0_2.out HB.out))); (case side2 => exact HC0_2.out); (case side3 => exact zC ((Kd.C_below HR3.out HB.out))); (case side4 => exact HC3.out); rintro e w64 ⟨v279, rfl, ho0, hb⟩; refine ⟨_, rfl, ?_⟩; have HO280 := Aside0.mk (Kd.R_lower ho0 (below_size (zB HB))); replace BK269 := Aside0.mk (zb BK269 hb); replace HB := Aside0.mk (below_step (zB HB) hb); (try clear hb); (try clear hb2); (try clear hk); (try clear hi); (try clear ho0)) | ((with_reducible refine gate_dst (N := 12) rfl ?_); (try (refine gate_guard (by rfl) ?_; dsimp only)); refine box_event ?hg (N := 12) ?hd (cs := #[.int .i64 0, .int .i64 0, .int .i64 0, .int .i64 0, .slice none 0 0]) (t := 29) ?hr ?_; (case hd => rfl); (case hg => rfl); (case hr => first | (go_simp; done) | (go_simp; rfl)); intro gb282 hg w65 hbox hb; have BK282 := Aside0.mk (hbox); have GW282 := Aside0.mk ((by rw [hg]; exact (below_size (zB HB)) : w.heap.size ≤ gb282)); have GE282 := Aside0.mk ((by rw [hg]; exact (below_size (zB HB)) : w.heap.size ≤ gb282)); have NB269_282 := Aside0.mk ((by rw [hg]; exact Nat.ne_of_lt (zL BK269) : gb269 ≠ gb282)); have NB282_269 := Aside0.mk ((by rw [hg]; exact Nat.ne_of_gt (zL BK269) : gb282 ≠ gb269)); replace HO280 := Aside0.mk (zRb HO280 hb); replace BK269 := Aside0.mk (zb BK269 hb); replace HB := Aside0.mk (below_step (zB HB) hb); clear hb hbox hg; have hnb66 := NB282_269.out; have hnc66 := NB269_282.out; have hz67 := zc5 BK282; obtain ⟨Ao68, co68, eo68⟩ := Kd.R_slice HO280.out; subst eo68) | ((with_reducible refine gate_store (t := 29) (p := 12) rfl ?_); refine store_event (t := 29) (p := 12) (v := ?vo_w69) (w1 := (((((w65.setCell ⟨gb282, 0, none⟩ (.int .i64 t274)).setCell ⟨gb282, 1, none⟩ (.int .i64 t275)).setCell ⟨gb282, 2, none⟩ (.int .i64 t276)).setCell ⟨gb282, 3, none⟩ (.int .i64 t277)).setCell ⟨gb282, 4, none⟩ (.slice Ao68 t278.length co68))) ?hg ?ho ?hn ?hr ?_; (case ho => rfl); (case hg => rfl); (case hn => rfl); (case hr => first | (go_simp; done) | (go_simp; rfl)); intro w69 hw; have n0_ : Aside0 (Kd.R (Kd.int .i64) 3 w69 w.heap.size (fun _ => True) (.slice Ao68 t278.length co68) t278) := ⟨(by rw [hw]; exact (by (with_reducible repeat (first | apply Kd.R_alloc | apply Kd.R_drewN | apply Kd.R_drew)); exact Kd.R_mono (zRf5 (g := gb282) (Kd.R_types HO280.out BK282.out (by decide))) (fun _ hk => trivial)))⟩; have n1_ : Aside0 (w69.heap[gb269]? = some (.cells #[.int .i64 a0_0, .int .i64 a0_1, .slice A0_2 l0_2.length c0_2] 24 (0, 0))) := ⟨(by rw [hw]; exact (zK BK269))⟩; have n2_ : Aside0 (w69.heap[gb282]? = some (.cells #[.int .i64 t274, .int .i64 t275, .int .i64 t276, .int .i64 t277, .slice Ao68 t278.length co68] 29 (0, 0))) := ⟨(by rw [hw]; exact (by (with_reducible repeat (first | refine blk_drewN ?_ _ | refine blk_drew ?_ | refine blk_alloc ?_ _)); refine blk_put (cs := #[.int .i64 t274, .int .i64 t275, .int .i64 t276, .int .i64 t277, .slice none 0 0]) ?_ 4 _ rfl; (with_reducible repeat (first | refine blk_drewN ?_ _ | refine blk_drew ?_ | refine blk_alloc ?_ _)); refine blk_put (cs := #[.int .i64 t274, .int .i64 t275, .int .i64 t276, .int .i64 0, .slice none 0 0]) ?_ 3 _ rfl; (with_reducible repeat (first | refine blk_drewN ?_ _ | refine blk_drew ?_ | refine blk_alloc ?_ _)); refine blk_put (cs := #[.int .i64 t274, .int .i64 t275, .int .i64 0, .int .i64 0, .slice none 0 0]) ?_ 2 _ rfl; (with_reducible repeat (first | refine blk_drewN ?_ _ | refine blk_drew ?_ | refine blk_alloc ?_ _)); refine blk_put (cs := #[.int .i64 t274, .int .i64 0, .int .i64 0, .int .i64 0, .slice none 0 0]) ?_ 1 _ rfl; (with_reducible repeat (first | refine blk_drewN ?_ _ | refine blk_drew ?_ | refine blk_alloc ?_ _)); refine blk_put (cs := #[.int .i64 0, .int .i64 0, .int .i64 0, .int .i64 0, .slice none 0 0]) ?_ 0 _ rfl; (with_reducible repeat (first | refine blk_drewN ?_ _ | refine blk_drew ?_ | refine blk_alloc ?_ _)); exact BK282.out))⟩; have n3_ : Aside0 (Below w.heap.size w w69) := ⟨(by rw [hw]; exact (zB HB))⟩; clear hw; clear HO280; clear BK269; clear BK282; clear HB; have HO280 := n0_; have BK269 := n1_; have BK282 := n2_; have HB := n3_; clear n0_ n1_ n2_ n3_))
     (try simp only [Act.put, zs, zs0, zs1])
     have H := HC62.out
     clear HC62
     by_cases c70 : t281 = 0
     ·
      rw [if_pos c70] at H
      have c70b0 : (t281 == 0) = true := beq_iff_eq.mpr c70
      have c70b1 : (t281 != 0) = false := bne_eq_false_iff_eq.mpr c70
      clear c70
      (first | rw [c70b0] | (simp only [i64_w, i32_w]; rw [c70b0]) | skip)
      (try rw [c70b1])
      obtain ⟨y283, hy283⟩ : ∃ y_ : List Int, y_ = (([] : List Int)) := ⟨_, rfl⟩
      replace H : (if y283.length + l3.length < 17592186044416 then (standstilllaw05_BlockParts.l0 kj5 a1 a2 l3 (wrap64 (1 + (Int.tmod (wrap64 (a4)) (wrap64 ((l3.length : Int) - 1))))) (y283 ++ l3) 0 0 a0_0 a0_1 l0_2 t274 t275 t276 t277 t278) else (none)) = some r := by first | (rw [hy283]; with_reducible exact H) | (have H2_ := (Option.bind_some _ _).symm.trans H; rw [hy283]; with_reducible exact H2_) | (have H2_ := (Option.bind_some _ _).symm.trans H; with_reducible exact H2_) | with_reducible exact H | (rw [hy283]; exact H) | exact H
      have Ny283 := Aside0.mk hy283
      clear hy283
      by_cases c71 : y283.length + l3.length < 17592186044416
      ·
       rw [if_pos c71] at H
       have LMc71 := Aside0.mk c71
       clear c71
       obtain ⟨y286, hy286⟩ : ∃ y_ : List Int, y_ = (y283 ++ l3) := ⟨_, rfl⟩
       replace H : (standstilllaw05_BlockParts.l0 kj5 a1 a2 l3 (wrap64 (1 + (Int.tmod (wrap64 (a4)) (wrap64 ((l3.length : Int) - 1))))) y286 0 0 a0_0 a0_1 l0_2 t274 t275 t276 t277 t278) = some r := by first | (rw [hy286]; with_reducible exact H) | (have H2_ := (Option.bind_some _ _).symm.trans H; rw [hy286]; with_reducible exact H2_) | (have H2_ := (Option.bind_some _ _).symm.trans H; with_reducible exact H2_) | with_reducible exact H | (rw [hy286]; exact H) | exact H
       have Ny286 := Aside0.mk hy286
       clear hy286
       have H' := Aside0.mk H
       clear H
       go_wp2_with (first | ((with_reducible refine gate_dst (N := 79) rfl ?_); (try (refine gate_guard (by rfl) ?_; dsimp only)); refine Kd.R_lit (Kd.int .i64) _ 3 ?hg (N := 79) ?hd (xs := ([] : List Int)) (inner := []) (ok := fun _ => True) (okp := fun _ => True) ?hr ?hp (fun _ hk => hk) trivial (Below.refl _ _) (Nat.le_refl _) (by simp) ?_; (case hd => rfl); (case hg => rfl); (case hr => first | (go_simp; done) | (go_simp; rfl)); (case hp => exact (Reps.none _ _)); intro v284 w72 ho73 hb hg_ hnew_; clear hg_ hnew_; (first | rw [← Ny283.out] at ho73 | (simp only [Int.reduceToNat] at ho73; rw [← Ny283.out] at ho73)); have HO285 := Aside0.mk (Kd.R_lower (Kd.R_new' ho73 (Kd.R_lt (zR HO280))) (below_size (zB HB))); replace HO280 := Aside0.mk (Kd.R_elder' (zR HO280) (Kd.R_base ho73) hb); replace BK269 := Aside0.mk (zb BK269 hb); replace BK282 := Aside0.mk (zb BK282 hb); replace HB := Aside0.mk (below_step (zB HB) hb); clear hb ho73) | ((with_reducible refine gate_builtin (b := .append) (xs := #[.tmp 79, .tmp 80]) rfl ?_); (try (refine gate_guard (by rfl) ?_; dsimp only)); at_builtin; refine Kd.R_append_rows (Kd.int .i64) (w0 := w) w.heap.size rfl (.tmp 79) (.tmp 80) 25 3 (.int .i64 0) 8 rfl Try.underlying25 info3 rfl (by decide) (by omega) v284 y283 l3 _ _ _ (fun k_ => some k_ ≠ (.slice Ao68 t278.length co68 : Value).ownBlock) (fun _ => False) rfl rfl ?aO ?aR (fun _ _ h => h) (fun _ h => h.elim) ?aF ?aB ?aS ?aL ?_; (case aR => exact zC ((Kd.C_below HR3.out HB.out))); (case aB => exact (zB HB)); (case aF => exact (fun k_ hk => Kd.fresh' (Kd.R_lt (zR HO280)) k_ hk)); (case aO => exact (by (with_reducible repeat (first | apply Kd.R_alloc | apply Kd.R_drewN | apply Kd.R_drew)); exact Kd.R_mono HO285.out (fun _ hk => hk.2))); (case aS => exact (below_size (zB HB))); (case aL => have := LMc71.out; omega); intro v287 w74 ho hb hg hat; rw [← Ny286.out] at ho; have n0_ := Aside0.mk (blk_grown (g := gb269) (o := .cells #[.int .i64 a0_0, .int .i64 a0_1, .slice A0_2 l0_2.length c0_2] 24 (0, 0)) (zk BK269) hg (Kd.R_ne HO285.out BK269.out (by decide))); have n1_ := Aside0.mk (Kd.R_after (ok := (fun _ => True)) (zR HO280) hg hat); have n2_ := Aside0.mk (blk_grown (g := gb282) (o := .cells #[.int .i64 t274, .int .i64 t275, .int .i64 t276, .int .i64 t277, .slice Ao68 t278.length co68] 29 (0, 0)) (zk BK282) hg (Kd.R_ne HO285.out BK282.out (by decide))); have n3_ := Aside0.mk (hb); have n4_ := Aside0.mk (ho); clear BK269; clear HO280; clear BK282; clear HB; clear HO285; have BK269 := n0_; have HO280 := n1_; have BK282 := n2_; have HB := n3_; have HO288 := n4_; clear n0_ n1_ n2_ n3_ n4_; clear ho hb hg hat))
       go_loopg [1, 2, 15, 16] kj5 (fun kq v1 v2 v15 v16 w' => ∃ (x1_2 : Int) (x2_2 : Int) (x14_2 : List Int) (x15_2 : Int) (x16_2 : Int), v1 = .int .i64 x1_2 ∧ v2 = .int .i64 x2_2 ∧ v15 = .int .i64 x15_2 ∧ v16 = .int .i64 x16_2 ∧ Aside0 (standstilllaw05_BlockParts.l0 kq x1_2 x2_2 l3 (wrap64 (1 + (Int.tmod (wrap64 (a4)) (wrap64 ((l3.length : Int) - 1))))) x14_2 x15_2 x16_2 a0_0 a0_1 l0_2 t274 t275 t276 t277 t278 = some r) ∧ Aside0 (kq ≤ kj5) ∧ Aside0 (Kd.R (Kd.int .i64) 3 w' w.heap.size (fun k_ => some k_ ≠ ((.slice Ao68 t278.length co68) : Value).ownBlock) v287 x14_2) ∧ Aside0 (Kd.R (Kd.int .i64) 3 w' w.heap.size (fun k_ => some k_ ≠ (v287 : Value).ownBlock) (.slice Ao68 t278.length co68) t278) ∧ Aside0 (w'.heap[gb269]? = some (.cells #[.int .i64 a0_0, .int .i64 a0_1, (.slice A0_2 l0_2.length c0_2)] 24 (0, 0))) ∧ Aside0 (w'.heap[gb282]? = some (.cells #[.int .i64 t274, .int .i64 t275, .int .i64 t276, .int .i64 t277, (.slice Ao68 t278.length co68)] 29 (0, 0))) ∧ Aside0 (Below w.heap.size w w'))
       case atStart => exact ⟨(a1), (a2), (y286), (0), (0), (by first | rfl | (simp; done) | (simp [*]; done)), (by first | rfl | (simp; done) | (simp [*]; done)), (by first | rfl | (simp; done) | (simp [*]; done)), (by first | rfl | (simp; done) | (simp [*]; done)), H', ⟨Nat.le_refl _⟩, ⟨zR HO288⟩, ⟨by (with_reducible repeat (first | apply Kd.R_alloc | apply Kd.R_drewN | apply Kd.R_drew)); exact Kd.R_mono HO280.out (fun _ hk => hk.2)⟩, ⟨zk BK269⟩, ⟨zk BK282⟩, ⟨zB HB⟩⟩
       case round =>
        as_aux_lemma =>
        clear H'
        try clear c1
        try clear c2
        try clear p2
        try clear c3
        try clear c4
        try clear c5
        try clear c6
        try clear p6
        try clear c7
        try clear c8
        try clear c9
        try clear c13
        try clear c14
        try clear c14b0
        try clear c14b1
        try clear c19
        try clear c19b0
        try clear c26
        try clear c27
        try clear c27b0
        try clear c27b1
        try clear c34
        try clear c34b0
        try clear c57
        try clear c60
        try clear c60b0
        try clear c60b1
        try clear p64
        try clear c66
        try clear c70
        try clear c70b0
        try clear c70b1
        try clear c71
        try clear hz10
        try clear hz15
        try clear hz17
        try clear hz20
        try clear hz22
        try clear hz24
        try clear hz28
        try clear hz30
        try clear hz32
        try clear hz35
        try clear hz37
        try clear hz39
        try clear hz41
        try clear hz43
        try clear hz45
        try clear hz47
        try clear hz49
        try clear hz51
        try clear hz53
        try clear hz55
        try clear hz63
        try clear hz67
        try clear p2
        obtain ⟨x1_2, x2_2, x14_2, x15_2, x16_2, rfl, rfl, rfl, rfl, HA, HK2, HO_14, HO_283004, BK269, BK282, HB⟩ := hrel
        cases gk with
        | zero => exact absurd HA.out (by simp [standstilllaw05_BlockParts.l0])
        | succ k2 =>
         have H := HA.out
         clear HA
         simp only [standstilllaw05_BlockParts.l0] at H
         have HC75 := Aside0.mk H
         clear H
         go_upto_region 9 with (fail)
         go_cut [88] (fun v88 wc => ∃ (kq : Nat) (x88_74 : Bool), v88 = .bool x88_74 ∧ Aside0 (standstilllaw05_BlockParts.j2 kq x1_2 x2_2 l3 (wrap64 (1 + (Int.tmod (wrap64 (a4)) (wrap64 ((l3.length : Int) - 1))))) x14_2 x15_2 x16_2 x88_74 a0_0 a0_1 l0_2 t274 t275 t276 t277 t278 = some r) ∧ Aside0 (kq ≤ k2) ∧ Aside0 (Kd.R (Kd.int .i64) 3 wc w.heap.size (fun k_ => some k_ ≠ ((.slice Ao68 t278.length co68) : Value).ownBlock) v287 x14_2) ∧ Aside0 (Kd.R (Kd.int .i64) 3 wc w.heap.size (fun k_ => some k_ ≠ (v287 : Value).ownBlock) (.slice Ao68 t278.length co68) t278) ∧ Aside0 (wc.heap[gb269]? = some (.cells #[.int .i64 a0_0, .int .i64 a0_1, (.slice A0_2 l0_2.length c0_2)] 24 (0, 0))) ∧ Aside0 (wc.heap[gb282]? = some (.cells #[.int .i64 t274, .int .i64 t275, .int .i64 t276, .int .i64 t277, (.slice Ao68 t278.length co68)] 29 (0, 0))) ∧ Aside0 (Below w.heap.size w wc))
         case first =>
          have H := HC75.out
          clear HC75
          by_cases c76 : x16_2 ≤ 3000
          ·
           rw [if_pos c76] at H
           have c76b0 : decide (x16_2 ≤ 3000) = true := decide_eq_true c76
           clear c76
           (first | rw [c76b0] | (simp only [i64_w, i32_w]; rw [c76b0]) | skip)
           (try rw [c76b1])
           have H' := Aside0.mk H
           clear H
           go_wp2
           go_meet
           case rel => exact ⟨_, (true), (by first | rfl | (simp; done) | (simp [*]; done)), H', ⟨by have := HJ5.out; have := HK2.out; first | omega | exact Nat.le_refl _⟩, ⟨zR HO_14⟩, ⟨zR HO_283004⟩, ⟨zk BK269⟩, ⟨zk BK282⟩, ⟨zB HB⟩⟩
          ·
           rw [if_neg c76] at H
           have c76b0 : decide (x16_2 ≤ 3000) = false := decide_eq_false c76
           clear c76
           (first | rw [c76b0] | (simp only [i64_w, i32_w]; rw [c76b0]) | skip)
           (try rw [c76b1])
           have H' := Aside0.mk H
           clear H
           have hnb77 := NB282_269.out
           have hnc77 := NB269_282.out
           have hz78 := zc5 BK282
           go_wp2
           go_meet
           case rel => exact ⟨_, ((t274 != 3)), (by first | rfl | (simp; done) | (simp [*]; done)), H', ⟨by have := HJ5.out; have := HK2.out; first | omega | exact Nat.le_refl _⟩, ⟨zR HO_14⟩, ⟨zR HO_283004⟩, ⟨zk BK269⟩, ⟨zk BK282⟩, ⟨zB HB⟩⟩
         case rest =>
          as_aux_lemma =>
          clear HC75
          try clear c1
          try clear c2
          try clear p2
          try clear c3
          try clear c4
          try clear c5
          try clear c6
          try clear p6
          try clear c7
          try clear c8
          try clear c9
          try clear c13
          try clear c14
          try clear c14b0
          try clear c14b1
          try clear c19
          try clear c19b0
          try clear c26
          try clear c27
          try clear c27b0
          try clear c27b1
          try clear c34
          try clear c34b0
          try clear c57
          try clear c60
          try clear c60b0
          try clear c60b1
          try clear p64
          try clear c66
          try clear c70
          try clear c70b0
          try clear c70b1
          try clear c71
          try clear c76
          try clear c76b0
          try clear c76b1
          try clear c77
          try clear hz10
          try clear hz15
          try clear hz17
          try clear hz20
          try clear hz22
          try clear hz24
          try clear hz28
          try clear hz30
          try clear hz32
          try clear hz35
          try clear hz37
          try clear hz39
          try clear hz41
          try clear hz43
          try clear hz45
          try clear hz47
          try clear hz49
          try clear hz51
          try clear hz53
          try clear hz55
          try clear hz63
          try clear hz67
          try clear hz78
          try clear p2
          try clear p6
          try clear p64
          obtain ⟨kq, x88_74, rfl, HA, HJ74, HO_14, HO_283004, BK269, BK282, HB⟩ := hcut
          cases kq with
          | zero => exact absurd HA.out (by simp [standstilllaw05_BlockParts.j2])
          | succ kj74 =>
           have H := HA.out
           clear HA
           simp only [standstilllaw05_BlockParts.j2] at H
           by_cases c79 : x88_74 = true
           ·
            subst c79
            have H1 : (if x2_2 ≥ (wrap64 (1 + (Int.tmod (wrap64 (a4)) (wrap64 ((l3.length : Int) - 1))))) then (standstilllaw05_BlockParts.j3 kj74 x1_2 x2_2 l3 (wrap64 (1 + (Int.tmod (wrap64 (a4)) (wrap64 ((l3.length : Int) - 1))))) x14_2 x15_2 x16_2 (wrap64 (1 + (Int.tmod (wrap64 (a4)) (wrap64 ((l3.length : Int) - 1))))) (l3.length : Int) a0_0 a0_1 l0_2 t274 t275 t276 t277 t278) else (standstilllaw05_BlockParts.j3 kj74 x1_2 x2_2 l3 (wrap64 (1 + (Int.tmod (wrap64 (a4)) (wrap64 ((l3.length : Int) - 1))))) x14_2 x15_2 x16_2 0 (wrap64 (1 + (Int.tmod (wrap64 (a4)) (wrap64 ((l3.length : Int) - 1))))) a0_0 a0_1 l0_2 t274 t275 t276 t277 t278)) = some r := by rw [if_pos rfl] at H; exact H
            clear H
            have H := H1
            clear H1
            have HC80 := Aside0.mk H
            clear H
            go_upto_if 94 with (fail)
            go_cut [17, 18] (fun v17 v18 wc => ∃ (kq : Nat) (x17_79 : Int) (x18_79 : Int), v17 = .int .i64 x17_79 ∧ v18 = .int .i64 x18_79 ∧ Aside0 (standstilllaw05_BlockParts.j3 kq x1_2 x2_2 l3 (wrap64 (1 + (Int.tmod (wrap64 (a4)) (wrap64 ((l3.length : Int) - 1))))) x14_2 x15_2 x16_2 x17_79 x18_79 a0_0 a0_1 l0_2 t274 t275 t276 t277 t278 = some r) ∧ Aside0 (kq ≤ kj74) ∧ Aside0 (Kd.R (Kd.int .i64) 3 wc w.heap.size (fun k_ => some k_ ≠ ((.slice Ao68 t278.length co68) : Value).ownBlock) v287 x14_2) ∧ Aside0 (Kd.R (Kd.int .i64) 3 wc w.heap.size (fun k_ => some k_ ≠ (v287 : Value).ownBlock) (.slice Ao68 t278.length co68) t278) ∧ Aside0 (wc.heap[gb269]? = some (.cells #[.int .i64 a0_0, .int .i64 a0_1, (.slice A0_2 l0_2.length c0_2)] 24 (0, 0))) ∧ Aside0 (wc.heap[gb282]? = some (.cells #[.int .i64 t274, .int .i64 t275, .int .i64 t276, .int .i64 t277, (.slice Ao68 t278.length co68)] 29 (0, 0))) ∧ Aside0 (Below w.heap.size w wc))
            case first =>
             have H := HC80.out
             clear HC80
             by_cases c81 : x2_2 ≥ (wrap64 (1 + (Int.tmod (wrap64 (a4)) (wrap64 ((l3.length : Int) - 1)))))
             ·
              rw [if_pos c81] at H
              have c81b0 : decide ((wrap64 (1 + (Int.tmod (wrap64 (a4)) (wrap64 ((l3.length : Int) - 1))))) ≤ x2_2) = true := decide_eq_true c81
              clear c81
              (first | rw [c81b0] | (simp only [i64_w, i32_w]; rw [c81b0]) | skip)
              (try rw [c81b1])
              have H' := Aside0.mk H
              clear H
              go_wp2
              go_meet
              case rel => exact ⟨_, ((wrap64 (1 + (Int.tmod (wrap64 (a4)) (wrap64 ((l3.length : Int) - 1)))))), ((l3.length : Int)), (by first | rfl | (simp; done) | (simp [*]; done)), (by first | rfl | (simp; done) | (simp [*]; done)), H', ⟨by have := HJ5.out; have := HK2.out; have := HJ74.out; first | omega | exact Nat.le_refl _⟩, ⟨zR HO_14⟩, ⟨zR HO_283004⟩, ⟨zk BK269⟩, ⟨zk BK282⟩, ⟨zB HB⟩⟩
             ·
              rw [if_neg c81] at H
              have c81b0 : decide ((wrap64 (1 + (Int.tmod (wrap64 (a4)) (wrap64 ((l3.length : Int) - 1))))) ≤ x2_2) = false := decide_eq_false c81
              clear c81
              (first | rw [c81b0] | (simp only [i64_w, i32_w]; rw [c81b0]) | skip)
              (try rw [c81b1])
              have H' := Aside0.mk H
              clear H
              go_wp2
              go_meet
              case rel => exact ⟨_, (0), ((wrap64 (1 + (Int.tmod (wrap64 (a4)) (wrap64 ((l3.length : Int) - 1)))))), (by first | rfl | (simp; done) | (simp [*]; done)), (by first | rfl | (simp; done) | (simp [*]; done)), H', ⟨by have := HJ5.out; have := HK2.out; have := HJ74.out; first | omega | exact Nat.le_refl _⟩, ⟨zR HO_14⟩, ⟨zR HO_283004⟩, ⟨zk BK269⟩, ⟨zk BK282⟩, ⟨zB HB⟩⟩
            case rest =>
             as_aux_lemma =>
             clear HC80
             try clear c1
             try clear c2
             try clear p2
             try clear c3
             try clear c4
             try clear c5
             try clear c6
             try clear p6
             try clear c7
             try clear c8
             try clear c9
             try clear c13
             try clear c14
             try clear c14b0
             try clear c14b1
             try clear c19
             try clear c19b0
             try clear c26
             try clear c27
             try clear c27b0
             try clear c27b1
             try clear c34
             try clear c34b0
             try clear c57
             try clear c60
             try clear c60b0
             try clear c60b1
             try clear p64
             try clear c66
             try clear c70
             try clear c70b0
             try clear c70b1
             try clear c71
             try clear c76
             try clear c76b0
             try clear c76b1
             try clear c77
             try clear c79
             try clear c81
             try clear c81b0
             try clear c81b1
             try clear hz10
             try clear hz15
             try clear hz17
             try clear hz20
             try clear hz22
             try clear hz24
             try clear hz28
             try clear hz30
             try clear hz32
             try clear hz35
             try clear hz37
             try clear hz39
             try clear hz41
             try clear hz43
             try clear hz45
             try clear hz47
             try clear hz49
             try clear hz51
             try clear hz53
             try clear hz55
             try clear hz63
             try clear hz67
             try clear hz78
             try clear p2
             try clear p6
             try clear p64
             obtain ⟨kq, x17_79, x18_79, rfl, rfl, HA, HJ79, HO_14, HO_283004, BK269, BK282, HB⟩ := hcut
             cases kq with
             | zero => exact absurd HA.out (by simp [standstilllaw05_BlockParts.j3])
             | succ kj79 =>
              have H := HA.out
              clear HA
              simp only [standstilllaw05_BlockParts.j3] at H
              by_cases c82 : 0 ≤ x17_79
              ·
               rw [if_pos c82] at H
               have c82b0 := eq_true c82
               have c82b1 : decide (0 ≤ x17_79) = true := decide_eq_true c82
               clear c82
               by_cases c83 : x17_79 ≤ x18_79
               ·
                rw [if_pos c83] at H
                have c83b0 := eq_true c83
                have c83b1 : decide (x17_79 ≤ x18_79) = true := decide_eq_true c83
                clear c83
                by_cases c84 : x18_79 ≤ (x14_2.length : Int)
                ·
                 rw [if_pos c84] at H
                 have c84b0 := eq_true c84
                 have c84b1 : decide (x18_79 ≤ (x14_2.length : Int)) = true := decide_eq_true c84
                 clear c84
                 obtain ⟨y290, hy290⟩ : ∃ y_ : List Int, y_ = ((x14_2.take (x18_79 : Int).toNat).drop (x17_79 : Int).toNat) := ⟨_, rfl⟩
                 replace H : ((block_Cross.f kj79 a0_0 a0_1 l0_2 x1_2 (wrap64 (x2_2 - x17_79)) y290).bind fun bt294 => (if bt294.2.2.2.2.2 = 0 then (if bt294.1 = 3 then (if t274 = 3 then ((standstilllaw05_awake.f kj79).bind fun t303 => (some t303)) else (some false)) else (if (bt294.2.2.2.2.1.length : Int) = (wrap64 (x18_79 - x17_79)) then (standstilllaw05_BlockParts.j4 kj79 l3 (wrap64 (1 + (Int.tmod (wrap64 (a4)) (wrap64 ((l3.length : Int) - 1))))) x14_2 x15_2 x16_2 x17_79 (decide (bt294.2.2.1 < 1)) a0_0 a0_1 l0_2 t274 t275 t276 t277 t278 bt294.1 bt294.2.1 bt294.2.2.1 bt294.2.2.2.1 bt294.2.2.2.2.1) else (standstilllaw05_BlockParts.j4 kj79 l3 (wrap64 (1 + (Int.tmod (wrap64 (a4)) (wrap64 ((l3.length : Int) - 1))))) x14_2 x15_2 x16_2 x17_79 true a0_0 a0_1 l0_2 t274 t275 t276 t277 t278 bt294.1 bt294.2.1 bt294.2.2.1 bt294.2.2.2.1 bt294.2.2.2.2.1))) else (some false))) = some r := by first | (rw [hy290]; with_reducible exact H) | (have H2_ := (Option.bind_some _ _).symm.trans H; rw [hy290]; with_reducible exact H2_) | (have H2_ := (Option.bind_some _ _).symm.trans H; with_reducible exact H2_) | with_reducible exact H | (rw [hy290]; exact H) | exact H
                 have Ny290 := Aside0.mk hy290
                 clear hy290
                 replace H := Option.bind_eq_some_iff.mp H
                 obtain ⟨⟨t294, t295, t296, t297, t298, t301⟩, A850, H⟩ := H
                 replace H : (if t301 = 0 then (if t294 = 3 then (if t274 = 3 then ((standstilllaw05_awake.f kj79).bind fun t303 => (some t303)) else (some false)) else (if (t298.length : Int) = (wrap64 (x18_79 - x17_79)) then (standstilllaw05_BlockParts.j4 kj79 l3 (wrap64 (1 + (Int.tmod (wrap64 (a4)) (wrap64 ((l3.length : Int) - 1))))) x14_2 x15_2 x16_2 x17_79 (decide (t296 < 1)) a0_0 a0_1 l0_2 t274 t275 t276 t277 t278 t294 t295 t296 t297 t298) else (standstilllaw05_BlockParts.j4 kj79 l3 (wrap64 (1 + (Int.tmod (wrap64 (a4)) (wrap64 ((l3.length : Int) - 1))))) x14_2 x15_2 x16_2 x17_79 true a0_0 a0_1 l0_2 t274 t275 t276 t277 t278 t294 t295 t296 t297 t298))) else (some false)) = some r := H
                 have A85 := Aside0.mk A850
                 clear A850
                 have HC86 := Aside0.mk H
                 clear H
                 try go_wp2
                 replace HO_14 := Aside0.mk (Kd.R_drew HO_14.out)
                 replace HO_283004 := Aside0.mk (Kd.R_drew HO_283004.out)
                 replace BK269 := Aside0.mk (blk_drew BK269.out)
                 replace BK282 := Aside0.mk (blk_drew BK282.out)
                 replace HB := Aside0.mk (below_drew1 HB.out)
                 obtain ⟨Ao89, co89, eo89⟩ := Kd.R_slice HO_14.out
                 (first | subst eo89 | (injection eo89 with f1_ f2_ f3_; have f4_ := f1_.symm; have f5_ := f3_.symm; clear f1_ f2_ f3_; subst f4_; subst f5_))
                 have q88 : (x18_79 : Int) ≤ ((x14_2.length : Int) : Int) := of_decide_eq_true (by first | (with_reducible assumption) | assumption)
                 obtain ⟨i088, hi088, _, hsz88, _⟩ := info_parts info3
                 have hroom88 : x14_2.length ≤ co89 := (Kd.R_reads' HO_14.out).2.1
                 have hC88 : Kd.C (Kd.int .i64) _ Ao89 x14_2.length x14_2 := (Kd.R_reads' HO_14.out).2.2
                 have ql88 : (x17_79 : Int) ≤ (x18_79 : Int) := of_decide_eq_true (by first | (with_reducible assumption) | assumption)
                 have q088 : (0 : Int) ≤ (x17_79 : Int) := of_decide_eq_true (by first | (with_reducible assumption) | assumption)
                 have hcut88 := cut_mid (P := Try.prog) 25 3 .i64 .i64 Try.underlying25 hi088 1 hsz88 Ao89 x14_2.length co89 x17_79 x18_79 q088 ql88 q88 hroom88
                 have hr88 := Kd.C_mid (lo := (x17_79 : Int).toNat) (hi := (x18_79 : Int).toNat) (c := co89) hC88 (by omega) (by omega) hroom88
                 obtain ⟨A88, hA88⟩ : ∃ A1, A1 = (if co89 = (x17_79 : Int).toNat then Ao89 else (Ao89 : Option Addr).map (·.add ((x17_79 : Int).toNat * 1))) := ⟨_, rfl⟩
                 obtain ⟨c88, hc88⟩ : ∃ c1, c1 = co89 - (x17_79 : Int).toNat := ⟨_, rfl⟩
                 have hy88 : y290.length = (x18_79 : Int).toNat - (x17_79 : Int).toNat := (by rw [Ny290.out, List.length_drop, List.length_take] <;> omega)
                 rw [show ((x14_2).take (x18_79 : Int).toNat).drop (x17_79 : Int).toNat = y290 from Ny290.out.symm] at hr88
                 replace hr88 : Kd.C (Kd.int .i64) _ A88 y290.length y290 := (by rw [hA88]; exact hr88)
                 rw [← hy88, ← hA88, ← hc88] at hcut88
                 have HR293 := Aside0.mk hr88
                 have HC293 := Aside0.mk (show y290.length ≤ c88 from by rw [hy88, hc88]; exact Nat.sub_le_sub_right (Nat.le_trans (by omega) hroom88) _)
                 clear hr88 hC88 hroom88 hi088 hsz88 hc88
                 have KY88 := Aside0.mk hy88
                 have KA88 := Aside0.mk hA88
                 clear hy88 hA88
                 have KL88 := Aside0.mk (show (x18_79 : Int).toNat ≤ x14_2.length from by omega)
                 have KM88 := Aside0.mk (show (x17_79 : Int).toNat ≤ (x18_79 : Int).toNat from by omega)
                 replace q88 := eq_true q88
                 refine start_ (n := 16) (S := fun w' => w'.cell? ⟨gb269, 0, none⟩ = some (.int .i64 a0_0) ∧ w'.cell? ⟨gb269, 1, none⟩ = some (.int .i64 a0_1) ∧ w'.cell? ⟨gb269, 2, none⟩ = some (.slice A0_2 l0_2.length c0_2)) (ds := []) (zl 16 0) (by kernel_rfl) rfl rfl ⟨(blk_cell BK269.out 0).trans rfl, (blk_cell BK269.out 1).trans rfl, (blk_cell BK269.out 2).trans rfl⟩ (fun hHeld => ?_); refine with_tabW standstilllaw05_BlockParts.tab14 standstilllaw05_BlockParts.bits14 (fun HT_ HW_ => ?_)
                 generalize wc.drew = w87 at HO_14 HO_283004 BK269 BK282 HB HR293 hHeld ⊢
                 refine zP 1 (some 100) (zl 16 2) HT_ ?_
                 refine zP 2 (some 101) (zl 16 6) HT_ ?_
                 refine zP 3 (some 102) (zl 16 14) HT_ ?_
                 refine zP 4 (some 103) (zl 16 30) HT_ ?_
                 refine zP 5 (some 104) (zl 16 62) HT_ ?_
                 refine zP 6 (some 105) (zl 16 126) HT_ ?_
                 refine zP 7 (some 106) (zl 16 254) HT_ ?_
                 refine zP 8 (some 107) (zl 16 510) HT_ ?_
                 refine zT 0 (some 99) (zl 16 511) HT_ HW_ hHeld ?_
                 refine join_ (σ := Value × Nat) 2 (zl 16 16383) (fun s_ => [(108, .tuple #[.agg #[.int .i64 t294, .int .i64 t295, .int .i64 t296, .int .i64 t297, s_.1], .int .i64 t301]), (19, .pointer (some ⟨s_.2, 0, none⟩)), (98, .tuple #[.agg #[.int .i64 t294, .int .i64 t295, .int .i64 t296, .int .i64 t297, s_.1], .int .i64 t301]), (109, .agg #[.int .i64 t294, .int .i64 t295, .int .i64 t296, .int .i64 t297, s_.1]), (110, .int .i64 t301)]) (fun s_ w' => (w'.cell? ⟨gb269, 0, none⟩ = some (.int .i64 a0_0) ∧ w'.cell? ⟨gb269, 1, none⟩ = some (.int .i64 a0_1) ∧ w'.cell? ⟨gb269, 2, none⟩ = some (.slice A0_2 l0_2.length c0_2)) ∧ (Kd.R (Kd.int .i64) 3 w' w.heap.size (fun k_ => some k_ ≠ (.slice Ao89 x14_2.length co89 : Value).ownBlock ∧ some k_ ≠ (.slice Ao68 t278.length co68 : Value).ownBlock) s_.1 t298) ∧ (Kd.R (Kd.int .i64) 3 w' w.heap.size (fun k_ => some k_ ≠ (s_.1 : Value).ownBlock ∧ some k_ ≠ (.slice Ao68 t278.length co68 : Value).ownBlock) (.slice Ao89 x14_2.length co89) x14_2) ∧ (Kd.R (Kd.int .i64) 3 w' w.heap.size (fun k_ => some k_ ≠ (s_.1 : Value).ownBlock ∧ some k_ ≠ (.slice Ao89 x14_2.length co89 : Value).ownBlock) (.slice Ao68 t278.length co68) t278) ∧ (w'.heap[gb269]? = some (.cells #[.int .i64 a0_0, .int .i64 a0_1, .slice A0_2 l0_2.length c0_2] 24 (0, 0))) ∧ (w'.heap[gb282]? = some (.cells #[.int .i64 t274, .int .i64 t275, .int .i64 t276, .int .i64 t277, .slice Ao68 t278.length co68] 29 (0, 0))) ∧ (w'.heap[s_.2]? = some (.cells #[.int .i64 0, .int .i64 0, .int .i64 0, .int .i64 0, .slice none 0 0] 29 (0, 0))) ∧ (w.heap.size ≤ s_.2) ∧ (w.heap.size ≤ s_.2) ∧ (gb269 ≠ s_.2) ∧ (s_.2 ≠ gb269) ∧ (gb282 ≠ s_.2) ∧ (s_.2 ≠ gb282) ∧ (Below w.heap.size w w')) ?_ ?_
                 rotate_left
                 ·
                  intro hCont
                  refine two_ (i := 9) (j := 13) (Ni := some 108) (Nj := some 19) (zl 16 1023) (zl 16 8703) rfl rfl rfl rfl (two_of HT_.out (by kernel_rfl)) (by decide) (by decide) (fun K hK => ?_) (fun K hK => ?_)
                  ·
                   skip
                   refine goes_ Try.func9 (by kernel_rfl) rfl #[.agg #[.int .i64 a0_0, .int .i64 a0_1, .slice A0_2 l0_2.length c0_2], .int .i64 x1_2, .int .i64 (wrap64 (x2_2 - x17_79)), .slice A88 y290.length c88] (by rfl) rfl rfl (zm) ?_
                   with_reducible refine (block_Cross.calls kj79 a0_0 a0_1 _ _ l0_2 x1_2 (wrap64 (x2_2 - x17_79)) _ _ y290 t294 t295 t296 t297 t298 t301 _ ?side1 ?side2 ?side3 ?side4 A85.out).mono ?_
                   (case side1 => exact zC ((Kd.C_below HR0_2.out HB.out)))
                   (case side2 => exact HC0_2.out)
                   (case side3 => repeat (first | exact (by repeat (first | (with_reducible exact HR293.out) | (with_reducible refine Kd.C_alloc ?_ _) | (with_reducible refine Kd.C_drewN ?_ _) | (with_reducible refine Kd.C_drew ?_) | exact HR293.out)) | (with_reducible refine Kd.C_alloc ?_ _) | (with_reducible refine Kd.C_drewN ?_ _) | (with_reducible refine Kd.C_drew ?_)))
                   (case side4 => exact HC293.out)
                   rintro e w90 ⟨v299, rfl, ho0, hb⟩
                   refine ⟨_, rfl, ?_⟩
                   have HO300 := Aside0.mk (Kd.R_lower (Kd.R_new' (Kd.R_new' ho0 (Kd.R_lt (zR HO_14))) (Kd.R_lt (zR HO_283004))) (below_size (zB HB)))
                   replace HO_14 := Aside0.mk (Kd.R_elder' (zR HO_14) (Kd.R_base ho0) hb)
                   replace HO_283004 := Aside0.mk (Kd.R_elder' (zR HO_283004) (Kd.R_base ho0) hb)
                   replace BK269 := Aside0.mk (zb BK269 hb)
                   replace BK282 := Aside0.mk (zb BK282 hb)
                   replace HR293 := Aside0.mk (Kd.C_below (by repeat (first | (with_reducible exact HR293.out) | (with_reducible refine Kd.C_alloc ?_ _) | (with_reducible refine Kd.C_drewN ?_ _) | (with_reducible refine Kd.C_drew ?_) | exact HR293.out)) hb)
                   replace HB := Aside0.mk (below_step (zB HB) hb)
                   (try clear hb)
                   (try clear hb2)
                   (try clear hk)
                   (try clear hi)
                   (try clear ho0)
                   refine hK.out _ _ ⟨(blk_cell BK269.out 0).trans rfl, (blk_cell BK269.out 1).trans rfl, (blk_cell BK269.out 2).trans rfl⟩ (fun hHeld => ?_)
                   clear hK K
                   refine norm_ (a' := ?_) ?_ ?_
                   rotate_left
                   ·
                    show Act.put _ (some 108) _ = _
                    simp only [Act.put, zs, zs0, zs1, i64_w, i32_w]
                    rfl
                   refine zP 10 (some 98) (zl 16 2047) HT_ ?_
                   refine zP 11 (some 109) (zl 16 4095) HT_ ?_
                   refine zP 12 (some 110) (zl 16 8191) HT_ ?_
                   refine one_ (i := 13) (N := some 19) (zl 16 16383) rfl rfl (one_of HT_.out (by kernel_rfl)) (by decide) (fun K hK => ?_)
                   refine box_step ?hg (N := 19) ?hd (cs := #[.int .i64 0, .int .i64 0, .int .i64 0, .int .i64 0, .slice none 0 0]) (t := 29) ?hr ?_; (case hd => rfl); (case hg => rfl); (case hr => first | (go_simp; done) | (go_simp; rfl))
                   intro gb302 hg w91 hbox hb
                   have BK302 := Aside0.mk (hbox)
                   have GW302 := Aside0.mk ((by rw [hg]; exact (below_size (zB HB)) : w.heap.size ≤ gb302))
                   have GE302 := Aside0.mk ((by rw [hg]; exact (below_size (zB HB)) : w.heap.size ≤ gb302))
                   have NB269_302 := Aside0.mk ((by rw [hg]; exact Nat.ne_of_lt (zL BK269) : gb269 ≠ gb302))
                   have NB302_269 := Aside0.mk ((by rw [hg]; exact Nat.ne_of_gt (zL BK269) : gb302 ≠ gb269))
                   have NB282_302 := Aside0.mk ((by rw [hg]; exact Nat.ne_of_lt (zL BK282) : gb282 ≠ gb302))
                   have NB302_282 := Aside0.mk ((by rw [hg]; exact Nat.ne_of_gt (zL BK282) : gb302 ≠ gb282))
                   replace HO_14 := Aside0.mk (zRb HO_14 hb)
                   replace HO_283004 := Aside0.mk (zRb HO_283004 hb)
                   replace HO300 := Aside0.mk (zRb HO300 hb)
                   replace BK269 := Aside0.mk (zb BK269 hb)
                   replace BK282 := Aside0.mk (zb BK282 hb)
                   replace HR293 := Aside0.mk (Kd.C_below (by repeat (first | (with_reducible exact HR293.out) | (with_reducible refine Kd.C_alloc ?_ _) | (with_reducible refine Kd.C_drewN ?_ _) | (with_reducible refine Kd.C_drew ?_) | exact HR293.out)) hb)
                   replace HB := Aside0.mk (below_step (zB HB) hb)
                   clear hb hbox hg
                   refine hK.out _ _ ⟨(blk_cell BK269.out 0).trans rfl, (blk_cell BK269.out 1).trans rfl, (blk_cell BK269.out 2).trans rfl⟩ (fun hHeld => ?_)
                   clear hK K
                   refine norm_ (a' := ?_) ?_ ?_
                   rotate_left
                   ·
                    show Act.put _ (some 19) _ = _
                    simp only [Act.put, zs, zs0, zs1, i64_w, i32_w]
                    rfl
                   exact norm_ (by simp only [putAll, Act.put, zs, zs0, zs1]) (hCont (v299, gb302) _ ⟨hHeld, (by (with_reducible repeat (first | apply Kd.R_alloc | apply Kd.R_drewN | apply Kd.R_drew)); exact Kd.R_mono HO300.out (fun _ hk => ⟨hk.1.2, hk.2⟩)), (by (with_reducible repeat (first | apply Kd.R_alloc | apply Kd.R_drewN | apply Kd.R_drew)); exact Kd.R_mono HO_14.out (fun _ hk => ⟨hk.2, hk.1⟩)), (by (with_reducible repeat (first | apply Kd.R_alloc | apply Kd.R_drewN | apply Kd.R_drew)); exact Kd.R_mono HO_283004.out (fun _ hk => ⟨hk.2, hk.1⟩)), (zk BK269), (zk BK282), (zk BK302), GW302.out, GE302.out, NB269_302.out, NB302_269.out, NB282_302.out, NB302_282.out, (zB HB)⟩)
                  ·
                   skip
                   refine box_step ?hg (N := 19) ?hd (cs := #[.int .i64 0, .int .i64 0, .int .i64 0, .int .i64 0, .slice none 0 0]) (t := 29) ?hr ?_; (case hd => rfl); (case hg => rfl); (case hr => first | (go_simp; done) | (go_simp; rfl))
                   intro gb302 hg w90 hbox hb
                   have BK302 := Aside0.mk (hbox)
                   have GW302 := Aside0.mk ((by rw [hg]; exact (below_size (zB HB)) : w.heap.size ≤ gb302))
                   have GE302 := Aside0.mk ((by rw [hg]; exact (below_size (zB HB)) : w.heap.size ≤ gb302))
                   have NB269_302 := Aside0.mk ((by rw [hg]; exact Nat.ne_of_lt (zL BK269) : gb269 ≠ gb302))
                   have NB302_269 := Aside0.mk ((by rw [hg]; exact Nat.ne_of_gt (zL BK269) : gb302 ≠ gb269))
                   have NB282_302 := Aside0.mk ((by rw [hg]; exact Nat.ne_of_lt (zL BK282) : gb282 ≠ gb302))
                   have NB302_282 := Aside0.mk ((by rw [hg]; exact Nat.ne_of_gt (zL BK282) : gb302 ≠ gb282))
                   replace HO_14 := Aside0.mk (zRb HO_14 hb)
                   replace HO_283004 := Aside0.mk (zRb HO_283004 hb)
                   replace BK269 := Aside0.mk (zb BK269 hb)
                   replace BK282 := Aside0.mk (zb BK282 hb)
                   replace HR293 := Aside0.mk (Kd.C_below (by repeat (first | (with_reducible exact HR293.out) | (with_reducible refine Kd.C_alloc ?_ _) | (with_reducible refine Kd.C_drewN ?_ _) | (with_reducible refine Kd.C_drew ?_) | exact HR293.out)) hb)
                   replace HB := Aside0.mk (below_step (zB HB) hb)
                   clear hb hbox hg
                   refine hK.out _ _ ⟨(blk_cell BK269.out 0).trans rfl, (blk_cell BK269.out 1).trans rfl, (blk_cell BK269.out 2).trans rfl⟩ (fun hHeld => ?_)
                   clear hK K
                   refine norm_ (a' := ?_) ?_ ?_
                   rotate_left
                   ·
                    show Act.put _ (some 19) _ = _
                    simp only [Act.put, zs, zs0, zs1, i64_w, i32_w]
                    rfl
                   refine one_ (i := 9) (N := some 108) (zl 16 9215) rfl rfl (one_of HT_.out (by kernel_rfl)) (by decide) (fun K hK => ?_)
                   refine goes_ Try.func9 (by kernel_rfl) rfl #[.agg #[.int .i64 a0_0, .int .i64 a0_1, .slice A0_2 l0_2.length c0_2], .int .i64 x1_2, .int .i64 (wrap64 (x2_2 - x17_79)), .slice A88 y290.length c88] (by rfl) rfl rfl (zm) ?_
                   with_reducible refine (block_Cross.calls kj79 a0_0 a0_1 _ _ l0_2 x1_2 (wrap64 (x2_2 - x17_79)) _ _ y290 t294 t295 t296 t297 t298 t301 _ ?side1 ?side2 ?side3 ?side4 A85.out).mono ?_
                   (case side1 => exact zC ((Kd.C_below HR0_2.out HB.out)))
                   (case side2 => exact HC0_2.out)
                   (case side3 => repeat (first | exact (by repeat (first | (with_reducible exact HR293.out) | (with_reducible refine Kd.C_alloc ?_ _) | (with_reducible refine Kd.C_drewN ?_ _) | (with_reducible refine Kd.C_drew ?_) | exact HR293.out)) | (with_reducible refine Kd.C_alloc ?_ _) | (with_reducible refine Kd.C_drewN ?_ _) | (with_reducible refine Kd.C_drew ?_)))
                   (case side4 => exact HC293.out)
                   rintro e w91 ⟨v299, rfl, ho0, hb⟩
                   refine ⟨_, rfl, ?_⟩
                   have HO300 := Aside0.mk (Kd.R_lower (Kd.R_new' (Kd.R_new' ho0 (Kd.R_lt (zR HO_14))) (Kd.R_lt (zR HO_283004))) (below_size (zB HB)))
                   replace HO_14 := Aside0.mk (Kd.R_elder' (zR HO_14) (Kd.R_base ho0) hb)
                   replace HO_283004 := Aside0.mk (Kd.R_elder' (zR HO_283004) (Kd.R_base ho0) hb)
                   replace BK269 := Aside0.mk (zb BK269 hb)
                   replace BK282 := Aside0.mk (zb BK282 hb)
                   replace HR293 := Aside0.mk (Kd.C_below (by repeat (first | (with_reducible exact HR293.out) | (with_reducible refine Kd.C_alloc ?_ _) | (with_reducible refine Kd.C_drewN ?_ _) | (with_reducible refine Kd.C_drew ?_) | exact HR293.out)) hb)
                   replace BK302 := Aside0.mk (zb BK302 hb)
                   replace HB := Aside0.mk (below_step (zB HB) hb)
                   (try clear hb)
                   (try clear hb2)
                   (try clear hk)
                   (try clear hi)
                   (try clear ho0)
                   refine hK.out _ _ ⟨(blk_cell BK269.out 0).trans rfl, (blk_cell BK269.out 1).trans rfl, (blk_cell BK269.out 2).trans rfl⟩ (fun hHeld => ?_)
                   clear hK K
                   refine norm_ (a' := ?_) ?_ ?_
                   rotate_left
                   ·
                    show Act.put _ (some 108) _ = _
                    simp only [Act.put, zs, zs0, zs1, i64_w, i32_w]
                    rfl
                   refine zP 10 (some 98) (zl 16 10239) HT_ ?_
                   refine zP 11 (some 109) (zl 16 12287) HT_ ?_
                   refine zP 12 (some 110) (zl 16 16383) HT_ ?_
                   exact norm_ (by simp only [putAll, Act.put, zs, zs0, zs1]) (hCont (v299, gb302) _ ⟨hHeld, (by (with_reducible repeat (first | apply Kd.R_alloc | apply Kd.R_drewN | apply Kd.R_drew)); exact Kd.R_mono HO300.out (fun _ hk => ⟨hk.1.2, hk.2⟩)), (by (with_reducible repeat (first | apply Kd.R_alloc | apply Kd.R_drewN | apply Kd.R_drew)); exact Kd.R_mono HO_14.out (fun _ hk => ⟨hk.2, hk.1⟩)), (by (with_reducible repeat (first | apply Kd.R_alloc | apply Kd.R_drewN | apply Kd.R_drew)); exact Kd.R_mono HO_283004.out (fun _ hk => ⟨hk.2, hk.1⟩)), (zk BK269), (zk BK282), (zk BK302), GW302.out, GE302.out, NB269_302.out, NB302_269.out, NB282_302.out, NB302_282.out, (zB HB)⟩)
                 rintro ⟨v299, gb302⟩ w92 ⟨hS_, h0_, h1_, h2_, h3_, h4_, h5_, h6_, h7_, h8_, h9_, h10_, h11_, h12_⟩
                 have n0_ : Aside0 (Kd.R (Kd.int .i64) 3 w92 w.heap.size (fun k_ => some k_ ≠ (.slice Ao89 x14_2.length co89 : Value).ownBlock ∧ some k_ ≠ (.slice Ao68 t278.length co68 : Value).ownBlock) v299 t298) := ⟨h0_⟩
                 have n1_ : Aside0 (Kd.R (Kd.int .i64) 3 w92 w.heap.size (fun k_ => some k_ ≠ (v299 : Value).ownBlock ∧ some k_ ≠ (.slice Ao68 t278.length co68 : Value).ownBlock) (.slice Ao89 x14_2.length co89) x14_2) := ⟨h1_⟩
                 have n2_ : Aside0 (Kd.R (Kd.int .i64) 3 w92 w.heap.size (fun k_ => some k_ ≠ (v299 : Value).ownBlock ∧ some k_ ≠ (.slice Ao89 x14_2.length co89 : Value).ownBlock) (.slice Ao68 t278.length co68) t278) := ⟨h2_⟩
                 have n3_ : Aside0 (w92.heap[gb269]? = some (.cells #[.int .i64 a0_0, .int .i64 a0_1, .slice A0_2 l0_2.length c0_2] 24 (0, 0))) := ⟨h3_⟩
                 have n4_ : Aside0 (w92.heap[gb282]? = some (.cells #[.int .i64 t274, .int .i64 t275, .int .i64 t276, .int .i64 t277, .slice Ao68 t278.length co68] 29 (0, 0))) := ⟨h4_⟩
                 have n5_ : Aside0 (w92.heap[gb302]? = some (.cells #[.int .i64 0, .int .i64 0, .int .i64 0, .int .i64 0, .slice none 0 0] 29 (0, 0))) := ⟨h5_⟩
                 have n6_ : Aside0 (w.heap.size ≤ gb302) := ⟨h6_⟩
                 have n7_ : Aside0 (w.heap.size ≤ gb302) := ⟨h7_⟩
                 have n8_ : Aside0 (gb269 ≠ gb302) := ⟨h8_⟩
                 have n9_ : Aside0 (gb302 ≠ gb269) := ⟨h9_⟩
                 have n10_ : Aside0 (gb282 ≠ gb302) := ⟨h10_⟩
                 have n11_ : Aside0 (gb302 ≠ gb282) := ⟨h11_⟩
                 have n12_ : Aside0 (Below w.heap.size w w92) := ⟨h12_⟩
                 clear HO_14
                 clear HO_283004
                 clear BK269
                 clear BK282
                 clear HB
                 clear h0_ h1_ h2_ h3_ h4_ h5_ h6_ h7_ h8_ h9_ h10_ h11_ h12_
                 have HO300 := n0_
                 have HO_14 := n1_
                 have HO_283004 := n2_
                 have BK269 := n3_
                 have BK282 := n4_
                 have BK302 := n5_
                 have GW302 := n6_
                 have GE302 := n7_
                 have NB269_302 := n8_
                 have NB302_269 := n9_
                 have NB282_302 := n10_
                 have NB302_282 := n11_
                 have HB := n12_
                 clear n0_ n1_ n2_ n3_ n4_ n5_ n6_ n7_ n8_ n9_ n10_ n11_ n12_
                 have hHeld : w92.cell? ⟨gb269, 0, none⟩ = some (.int .i64 a0_0) ∧ w92.cell? ⟨gb269, 1, none⟩ = some (.int .i64 a0_1) ∧ w92.cell? ⟨gb269, 2, none⟩ = some (.slice A0_2 l0_2.length c0_2) := hS_
                 obtain ⟨Ao97, co97, eo97⟩ := Kd.R_slice HO300.out
                 (first | subst eo97 | (injection eo97 with f1_ f2_ f3_; have f4_ := f1_.symm; have f5_ := f3_.symm; clear f1_ f2_ f3_; subst f4_; subst f5_))
                 refine norm_ (a' := ?_) ?_ ?_
                 rotate_left
                 ·
                  simp only [putAll, Act.put, zs, zs0, zs1]
                  rfl
                 refine one_ (i := 14) (N := none) (zl 16 32767) rfl rfl (one_of HT_.out (by kernel_rfl)) (by decide) (fun K hK => ?_)
                 have hs93 : w92.cell? ⟨gb302, 0, none⟩ = some (.int .i64 0) := (blk_cell BK302.out 0).trans rfl
                 have hfs93 := blk_frozen BK302.out 0
                 have hns93_0 := NB269_302.out
                 have hns93_1 := NB282_302.out
                 have hms93_0 := NB302_269.out
                 have hms93_1 := NB302_282.out
                 have hs94 : w92.cell? ⟨gb302, 1, none⟩ = some (.int .i64 0) := (blk_cell BK302.out 1).trans rfl
                 have hfs94 := blk_frozen BK302.out 1
                 have hns94_0 := NB269_302.out
                 have hns94_1 := NB282_302.out
                 have hms94_0 := NB302_269.out
                 have hms94_1 := NB302_282.out
                 have hs95 : w92.cell? ⟨gb302, 2, none⟩ = some (.int .i64 0) := (blk_cell BK302.out 2).trans rfl
                 have hfs95 := blk_frozen BK302.out 2
                 have hns95_0 := NB269_302.out
                 have hns95_1 := NB282_302.out
                 have hms95_0 := NB302_269.out
                 have hms95_1 := NB302_282.out
                 have hs96 : w92.cell? ⟨gb302, 3, none⟩ = some (.int .i64 0) := (blk_cell BK302.out 3).trans rfl
                 have hfs96 := blk_frozen BK302.out 3
                 have hns96_0 := NB269_302.out
                 have hns96_1 := NB282_302.out
                 have hms96_0 := NB302_269.out
                 have hms96_1 := NB302_282.out
                 have hs98 : w92.cell? ⟨gb302, 4, none⟩ = some (.slice none 0 0) := (blk_cell BK302.out 4).trans rfl
                 have hfs98 := blk_frozen BK302.out 4
                 have hns98_0 := NB269_302.out
                 have hns98_1 := NB282_302.out
                 have hms98_0 := NB302_269.out
                 have hms98_1 := NB302_282.out
                 refine skip_ (w1 := ?_) (by rfl) rfl ?_ ?_
                 rotate_left
                 ·
                  go_simp
                  rfl
                 refine hK.out _ _ ⟨((cell_far (p := ⟨gb302, _, none⟩) NB269_302.out _).trans (((cell_far (p := ⟨gb302, _, none⟩) NB269_302.out _).trans (((cell_far (p := ⟨gb302, _, none⟩) NB269_302.out _).trans (((cell_far (p := ⟨gb302, _, none⟩) NB269_302.out _).trans (((cell_far (p := ⟨gb302, _, none⟩) NB269_302.out _).trans (hHeld.1)))))))))), ((cell_far (p := ⟨gb302, _, none⟩) NB269_302.out _).trans (((cell_far (p := ⟨gb302, _, none⟩) NB269_302.out _).trans (((cell_far (p := ⟨gb302, _, none⟩) NB269_302.out _).trans (((cell_far (p := ⟨gb302, _, none⟩) NB269_302.out _).trans (((cell_far (p := ⟨gb302, _, none⟩) NB269_302.out _).trans (hHeld.2.1)))))))))), ((cell_far (p := ⟨gb302, _, none⟩) NB269_302.out _).trans (((cell_far (p := ⟨gb302, _, none⟩) NB269_302.out _).trans (((cell_far (p := ⟨gb302, _, none⟩) NB269_302.out _).trans (((cell_far (p := ⟨gb302, _, none⟩) NB269_302.out _).trans (((cell_far (p := ⟨gb302, _, none⟩) NB269_302.out _).trans (hHeld.2.2))))))))))⟩ (fun hHeld => ?_)
                 clear hK K
                 refine zP 15 (some 20) (zl 16 65535) HT_ ?_
                 refine done_ (done_of HT_.out (by kernel_rfl)) ?_
                 have n0_ : Aside0 (Kd.R (Kd.int .i64) 3 (((((w92.setCell ⟨gb302, 0, none⟩ (.int .i64 t294)).setCell ⟨gb302, 1, none⟩ (.int .i64 t295)).setCell ⟨gb302, 2, none⟩ (.int .i64 t296)).setCell ⟨gb302, 3, none⟩ (.int .i64 t297)).setCell ⟨gb302, 4, none⟩ (.slice Ao97 t298.length co97)) w.heap.size (fun k_ => some k_ ≠ (.slice Ao68 t278.length co68 : Value).ownBlock ∧ some k_ ≠ (.slice Ao97 t298.length co97 : Value).ownBlock) (.slice Ao89 x14_2.length co89) x14_2) := ⟨by (with_reducible repeat (first | apply Kd.R_alloc | apply Kd.R_drewN | apply Kd.R_drew)); exact Kd.R_mono (zRf5 (g := gb302) (Kd.R_types HO_14.out BK302.out (by decide))) (fun _ hk => ⟨hk.1.2, hk.1.1⟩)⟩
                 have n1_ : Aside0 (Kd.R (Kd.int .i64) 3 (((((w92.setCell ⟨gb302, 0, none⟩ (.int .i64 t294)).setCell ⟨gb302, 1, none⟩ (.int .i64 t295)).setCell ⟨gb302, 2, none⟩ (.int .i64 t296)).setCell ⟨gb302, 3, none⟩ (.int .i64 t297)).setCell ⟨gb302, 4, none⟩ (.slice Ao97 t298.length co97)) w.heap.size (fun k_ => some k_ ≠ (.slice Ao89 x14_2.length co89 : Value).ownBlock ∧ some k_ ≠ (.slice Ao97 t298.length co97 : Value).ownBlock) (.slice Ao68 t278.length co68) t278) := ⟨by (with_reducible repeat (first | apply Kd.R_alloc | apply Kd.R_drewN | apply Kd.R_drew)); exact Kd.R_mono (zRf5 (g := gb302) (Kd.R_types HO_283004.out BK302.out (by decide))) (fun _ hk => ⟨hk.1.2, hk.1.1⟩)⟩
                 have n2_ : Aside0 (Kd.R (Kd.int .i64) 3 (((((w92.setCell ⟨gb302, 0, none⟩ (.int .i64 t294)).setCell ⟨gb302, 1, none⟩ (.int .i64 t295)).setCell ⟨gb302, 2, none⟩ (.int .i64 t296)).setCell ⟨gb302, 3, none⟩ (.int .i64 t297)).setCell ⟨gb302, 4, none⟩ (.slice Ao97 t298.length co97)) w.heap.size (fun k_ => some k_ ≠ (.slice Ao89 x14_2.length co89 : Value).ownBlock ∧ some k_ ≠ (.slice Ao68 t278.length co68 : Value).ownBlock) (.slice Ao97 t298.length co97) t298) := ⟨by (with_reducible repeat (first | apply Kd.R_alloc | apply Kd.R_drewN | apply Kd.R_drew)); exact Kd.R_mono (zRf5 (g := gb302) (Kd.R_types HO300.out BK302.out (by decide))) (fun _ hk => ⟨hk.1.1, hk.1.2⟩)⟩
                 have n3_ : Aside0 ((((((w92.setCell ⟨gb302, 0, none⟩ (.int .i64 t294)).setCell ⟨gb302, 1, none⟩ (.int .i64 t295)).setCell ⟨gb302, 2, none⟩ (.int .i64 t296)).setCell ⟨gb302, 3, none⟩ (.int .i64 t297)).setCell ⟨gb302, 4, none⟩ (.slice Ao97 t298.length co97)).heap[gb269]? = some (.cells #[.int .i64 a0_0, .int .i64 a0_1, .slice A0_2 l0_2.length c0_2] 24 (0, 0))) := ⟨zK BK269⟩
                 have n4_ : Aside0 ((((((w92.setCell ⟨gb302, 0, none⟩ (.int .i64 t294)).setCell ⟨gb302, 1, none⟩ (.int .i64 t295)).setCell ⟨gb302, 2, none⟩ (.int .i64 t296)).setCell ⟨gb302, 3, none⟩ (.int .i64 t297)).setCell ⟨gb302, 4, none⟩ (.slice Ao97 t298.length co97)).heap[gb282]? = some (.cells #[.int .i64 t274, .int .i64 t275, .int .i64 t276, .int .i64 t277, .slice Ao68 t278.length co68] 29 (0, 0))) := ⟨zK BK282⟩
                 have n5_ : Aside0 ((((((w92.setCell ⟨gb302, 0, none⟩ (.int .i64 t294)).setCell ⟨gb302, 1, none⟩ (.int .i64 t295)).setCell ⟨gb302, 2, none⟩ (.int .i64 t296)).setCell ⟨gb302, 3, none⟩ (.int .i64 t297)).setCell ⟨gb302, 4, none⟩ (.slice Ao97 t298.length co97)).heap[gb302]? = some (.cells #[.int .i64 t294, .int .i64 t295, .int .i64 t296, .int .i64 t297, .slice Ao97 t298.length co97] 29 (0, 0))) := ⟨by (with_reducible repeat (first | refine blk_drewN ?_ _ | refine blk_drew ?_ | refine blk_alloc ?_ _)); refine blk_put (cs := #[.int .i64 t294, .int .i64 t295, .int .i64 t296, .int .i64 t297, .slice none 0 0]) ?_ 4 _ rfl; (with_reducible repeat (first | refine blk_drewN ?_ _ | refine blk_drew ?_ | refine blk_alloc ?_ _)); refine blk_put (cs := #[.int .i64 t294, .int .i64 t295, .int .i64 t296, .int .i64 0, .slice none 0 0]) ?_ 3 _ rfl; (with_reducible repeat (first | refine blk_drewN ?_ _ | refine blk_drew ?_ | refine blk_alloc ?_ _)); refine blk_put (cs := #[.int .i64 t294, .int .i64 t295, .int .i64 0, .int .i64 0, .slice none 0 0]) ?_ 2 _ rfl; (with_reducible repeat (first | refine blk_drewN ?_ _ | refine blk_drew ?_ | refine blk_alloc ?_ _)); refine blk_put (cs := #[.int .i64 t294, .int .i64 0, .int .i64 0, .int .i64 0, .slice none 0 0]) ?_ 1 _ rfl; (with_reducible repeat (first | refine blk_drewN ?_ _ | refine blk_drew ?_ | refine blk_alloc ?_ _)); refine blk_put (cs := #[.int .i64 0, .int .i64 0, .int .i64 0, .int .i64 0, .slice none 0 0]) ?_ 0 _ rfl; (with_reducible repeat (first | refine blk_drewN ?_ _ | refine blk_drew ?_ | refine blk_alloc ?_ _)); exact BK302.out⟩
                 have n6_ : Aside0 (Below w.heap.size w (((((w92.setCell ⟨gb302, 0, none⟩ (.int .i64 t294)).setCell ⟨gb302, 1, none⟩ (.int .i64 t295)).setCell ⟨gb302, 2, none⟩ (.int .i64 t296)).setCell ⟨gb302, 3, none⟩ (.int .i64 t297)).setCell ⟨gb302, 4, none⟩ (.slice Ao97 t298.length co97))) := ⟨zB HB⟩
                 (try clear HO_14)
                 (try clear HO_283004)
                 (try clear HO300)
                 (try clear BK269)
                 (try clear BK282)
                 (try clear BK302)
                 (try clear HB)
                 generalize (((((w92.setCell ⟨gb302, 0, none⟩ (.int .i64 t294)).setCell ⟨gb302, 1, none⟩ (.int .i64 t295)).setCell ⟨gb302, 2, none⟩ (.int .i64 t296)).setCell ⟨gb302, 3, none⟩ (.int .i64 t297)).setCell ⟨gb302, 4, none⟩ (.slice Ao97 t298.length co97)) = w99 at n0_ n1_ n2_ n3_ n4_ n5_ n6_ ⊢
                 have HO_14 := n0_
                 have HO_283004 := n1_
                 have HO300 := n2_
                 have BK269 := n3_
                 have BK282 := n4_
                 have BK302 := n5_
                 have HB := n6_
                 clear n0_ n1_ n2_ n3_ n4_ n5_ n6_
                 go_upto_if 112 with (fail)
                 have H := HC86.out
                 clear HC86
                 by_cases c100 : t301 = 0
                 ·
                  rw [if_pos c100] at H
                  have c100b0 : (t301 == 0) = true := beq_iff_eq.mpr c100
                  have c100b1 : (t301 != 0) = false := bne_eq_false_iff_eq.mpr c100
                  clear c100
                  (first | rw [c100b0] | (simp only [i64_w, i32_w]; rw [c100b0]) | skip)
                  (try rw [c100b1])
                  by_cases c101 : t294 = 3
                  ·
                   rw [if_pos c101] at H
                   have c101b0 : (t294 == 3) = true := beq_iff_eq.mpr c101
                   have c101b1 : (t294 != 3) = false := bne_eq_false_iff_eq.mpr c101
                   clear c101
                   by_cases c102 : t274 = 3
                   ·
                    rw [if_pos c102] at H
                    have c102b0 : (t274 == 3) = true := beq_iff_eq.mpr c102
                    have c102b1 : (t274 != 3) = false := bne_eq_false_iff_eq.mpr c102
                    clear c102
                    replace H := Option.bind_eq_some_iff.mp H
                    obtain ⟨t303, A1030, H⟩ := H
                    replace H : (some t303) = some r := H
                    have A103 := Aside0.mk A1030
                    clear A1030
                    obtain rfl := Option.some.inj H
                    have hnb104 := NB302_269.out
                    have hnc104 := NB269_302.out
                    have hnb105 := NB302_282.out
                    have hnc105 := NB282_302.out
                    have hz106 := zc5 BK302
                    have hnb107 := NB282_269.out
                    have hnc107 := NB269_282.out
                    have hz108 := zc5 BK282
                    go_wp2_with (first | (go_at_call 8; (with_reducible refine (standstilllaw05_awake.calls kj79  t303 _ A103.out).mono ?_); rintro e w109 ⟨rfl, hb⟩; replace HO_14 := Aside0.mk (zRb HO_14 hb); replace HO_283004 := Aside0.mk (zRb HO_283004 hb); replace HO300 := Aside0.mk (zRb HO300 hb); replace BK269 := Aside0.mk (zb BK269 hb); replace BK282 := Aside0.mk (zb BK282 hb); replace BK302 := Aside0.mk (zb BK302 hb); replace HB := Aside0.mk (below_step (zB HB) hb); (try clear hb); (try clear hb2); (try clear hk); (try clear hi)))
                    go_ret
                    exact ⟨by first | rfl | (simp [errW_none, errW_some] <;> rfl) | (simp [*, errW_none, errW_some] <;> rfl), zB HB⟩
                   ·
                    rw [if_neg c102] at H
                    have c102b0 : (t274 == 3) = false := beq_eq_false_iff_ne.mpr c102
                    have c102b1 : (t274 != 3) = true := bne_iff_ne.mpr c102
                    obtain rfl := Option.some.inj H
                    have hnb110 := NB302_269.out
                    have hnc110 := NB269_302.out
                    have hnb111 := NB302_282.out
                    have hnc111 := NB282_302.out
                    have hz112 := zc5 BK302
                    have hnb113 := NB282_269.out
                    have hnc113 := NB269_282.out
                    have hz114 := zc5 BK282
                    go_wp2
                    go_ret
                    exact ⟨by first | rfl | (simp [errW_none, errW_some] <;> rfl) | (simp [*, errW_none, errW_some] <;> rfl), zB HB⟩
                  ·
                   rw [if_neg c101] at H
                   have c101b0 : (t294 == 3) = false := beq_eq_false_iff_ne.mpr c101
                   have c101b1 : (t294 != 3) = true := bne_iff_ne.mpr c101
                   have HC115 := Aside0.mk H
                   clear H
                   have hnb116 := NB302_269.out
                   have hnc116 := NB269_302.out
                   have hnb117 := NB302_282.out
                   have hnc117 := NB282_302.out
                   have hz118 := zc5 BK302
                   go_upto_region 19 with (fail)
                   go_cut [133] (fun v133 wc => ∃ (kq : Nat) (x133_114 : Bool), v133 = .bool x133_114 ∧ Aside0 (standstilllaw05_BlockParts.j4 kq l3 (wrap64 (1 + (Int.tmod (wrap64 (a4)) (wrap64 ((l3.length : Int) - 1))))) x14_2 x15_2 x16_2 x17_79 x133_114 a0_0 a0_1 l0_2 t274 t275 t276 t277 t278 t294 t295 t296 t297 t298 = some r) ∧ Aside0 (kq ≤ kj79) ∧ Aside0 (Kd.R (Kd.int .i64) 3 wc w.heap.size (fun k_ => some k_ ≠ ((.slice Ao68 t278.length co68) : Value).ownBlock ∧ some k_ ≠ ((.slice Ao97 t298.length co97) : Value).ownBlock) (.slice Ao89 x14_2.length co89) x14_2) ∧ Aside0 (Kd.R (Kd.int .i64) 3 wc w.heap.size (fun k_ => some k_ ≠ ((.slice Ao89 x14_2.length co89) : Value).ownBlock ∧ some k_ ≠ ((.slice Ao97 t298.length co97) : Value).ownBlock) (.slice Ao68 t278.length co68) t278) ∧ Aside0 (Kd.R (Kd.int .i64) 3 wc w.heap.size (fun k_ => some k_ ≠ ((.slice Ao89 x14_2.length co89) : Value).ownBlock ∧ some k_ ≠ ((.slice Ao68 t278.length co68) : Value).ownBlock) (.slice Ao97 t298.length co97) t298) ∧ Aside0 (wc.heap[gb269]? = some (.cells #[.int .i64 a0_0, .int .i64 a0_1, (.slice A0_2 l0_2.length c0_2)] 24 (0, 0))) ∧ Aside0 (wc.heap[gb282]? = some (.cells #[.int .i64 t274, .int .i64 t275, .int .i64 t276, .int .i64 t277, (.slice Ao68 t278.length co68)] 29 (0, 0))) ∧ Aside0 (wc.heap[gb302]? = some (.cells #[.int .i64 t294, .int .i64 t295, .int .i64 t296, .int .i64 t297, (.slice Ao97 t298.length co97)] 29 (0, 0))) ∧ Aside0 (Below w.heap.size w wc))
                   case first =>
                    have H := HC115.out
                    clear HC115
                    by_cases c119 : (t298.length : Int) = (wrap64 (x18_79 - x17_79))
                    ·
                     rw [if_pos c119] at H
                     have c119b0 : ((t298.length : Int) == (wrap64 (x18_79 - x17_79))) = true := beq_iff_eq.mpr c119
                     have c119b1 : ((t298.length : Int) != (wrap64 (x18_79 - x17_79))) = false := bne_eq_false_iff_eq.mpr c119
                     clear c119
                     (first | rw [c119b0] | (simp only [i64_w, i32_w]; rw [c119b0]) | skip)
                     (try rw [c119b1])
                     have H' := Aside0.mk H
                     clear H
                     have hnb120 := NB302_269.out
                     have hnc120 := NB269_302.out
                     have hnb121 := NB302_282.out
                     have hnc121 := NB282_302.out
                     have hz122 := zc5 BK302
                     go_wp2
                     go_meet
                     case rel => exact ⟨_, (decide (t296 < 1)), (by first | rfl | (simp; done) | (simp [*]; done)), H', ⟨by have := HJ5.out; have := HK2.out; have := HJ74.out; have := HJ79.out; first | omega | exact Nat.le_refl _⟩, ⟨zR HO_14⟩, ⟨zR HO_283004⟩, ⟨zR HO300⟩, ⟨zk BK269⟩, ⟨zk BK282⟩, ⟨zk BK302⟩, ⟨zB HB⟩⟩
                    ·
                     rw [if_neg c119] at H
                     have c119b0 : ((t298.length : Int) == (wrap64 (x18_79 - x17_79))) = false := beq_eq_false_iff_ne.mpr c119
                     have c119b1 : ((t298.length : Int) != (wrap64 (x18_79 - x17_79))) = true := bne_iff_ne.mpr c119
                     (first | rw [c119b0] | (simp only [i64_w, i32_w]; rw [c119b0]) | skip)
                     (try rw [c119b1])
                     have H' := Aside0.mk H
                     clear H
                     have hnb123 := NB302_269.out
                     have hnc123 := NB269_302.out
                     have hnb124 := NB302_282.out
                     have hnc124 := NB282_302.out
                     have hz125 := zc5 BK302
                     go_wp2
                     go_meet
                     case rel => exact ⟨_, (true), (by first | rfl | (simp; done) | (simp [*]; done)), H', ⟨by have := HJ5.out; have := HK2.out; have := HJ74.out; have := HJ79.out; first | omega | exact Nat.le_refl _⟩, ⟨zR HO_14⟩, ⟨zR HO_283004⟩, ⟨zR HO300⟩, ⟨zk BK269⟩, ⟨zk BK282⟩, ⟨zk BK302⟩, ⟨zB HB⟩⟩
                   case rest =>
                    as_aux_lemma =>
                    clear HC115
                    try clear c1
                    try clear p2
                    try clear p6
                    try clear c8
                    try clear q8
                    try clear c9
                    try clear c10
                    try clear c11
                    try clear c12
                    try clear p64
                    try clear c88
                    try clear q88
                    try clear c100
                    try clear c100b0
                    try clear c100b1
                    try clear c101
                    try clear c101b0
                    try clear c101b1
                    try clear c102
                    try clear c102b0
                    try clear c102b1
                    try clear c104
                    try clear c105
                    try clear c107
                    try clear c110
                    try clear c111
                    try clear c113
                    try clear c116
                    try clear c117
                    try clear c119
                    try clear c119b0
                    try clear c119b1
                    try clear c120
                    try clear c121
                    try clear c123
                    try clear c124
                    try clear hz106
                    try clear hz108
                    try clear hz112
                    try clear hz114
                    try clear hz118
                    try clear hz122
                    try clear hz125
                    try clear q088
                    try clear q88
                    obtain ⟨kq, x133_114, rfl, HA, HJ114, HO_14, HO_283004, HO_303004, BK269, BK282, BK302, HB⟩ := hcut
                    cases kq with
                    | zero => exact absurd HA.out (by simp [standstilllaw05_BlockParts.j4])
                    | succ kj114 =>
                     have H := HA.out
                     clear HA
                     simp only [standstilllaw05_BlockParts.j4] at H
                     by_cases c126 : x133_114 = true
                     ·
                      subst c126
                      have H1 : (some false) = some r := by rw [if_pos rfl] at H; exact H
                      clear H
                      have H := H1
                      clear H1
                      obtain rfl := Option.some.inj H
                      go_wp2
                      go_ret
                      exact ⟨by first | rfl | (simp [errW_none, errW_some] <;> rfl) | (simp [*, errW_none, errW_some] <;> rfl), zB HB⟩
                     ·
                      replace c126 := Bool.eq_false_iff.mpr c126
                      subst c126
                      have H1 : (standstilllaw05_BlockParts.l1 kj114 l3 (wrap64 (1 + (Int.tmod (wrap64 (a4)) (wrap64 ((l3.length : Int) - 1))))) x14_2 x15_2 x16_2 x17_79 0 a0_0 a0_1 l0_2 t274 t275 t276 t277 t278 t294 t295 t296 t297 t298) = some r := by rw [if_neg (show ¬ (false = true) by decide)] at H; exact H
                      clear H
                      have H := H1
                      clear H1
                      have H' := Aside0.mk H
                      clear H
                      go_wp2
                      go_loopg [21] kj114 (fun kq v21 w' => ∃ (x14_6 : List Int) (x21_6 : Int), v21 = .int .i64 x21_6 ∧ Aside0 (standstilllaw05_BlockParts.l1 kq l3 (wrap64 (1 + (Int.tmod (wrap64 (a4)) (wrap64 ((l3.length : Int) - 1))))) x14_6 x15_2 x16_2 x17_79 x21_6 a0_0 a0_1 l0_2 t274 t275 t276 t277 t278 t294 t295 t296 t297 t298 = some r) ∧ Aside0 (kq ≤ kj114) ∧ Aside0 (Kd.R (Kd.int .i64) 3 w' w.heap.size (fun k_ => some k_ ≠ ((.slice Ao68 t278.length co68) : Value).ownBlock ∧ some k_ ≠ ((.slice Ao97 t298.length co97) : Value).ownBlock) (.slice Ao89 x14_2.length co89) x14_6) ∧ Aside0 (Kd.R (Kd.int .i64) 3 w' w.heap.size (fun k_ => some k_ ≠ ((.slice Ao89 x14_2.length co89) : Value).ownBlock ∧ some k_ ≠ ((.slice Ao97 t298.length co97) : Value).ownBlock) (.slice Ao68 t278.length co68) t278) ∧ Aside0 (Kd.R (Kd.int .i64) 3 w' w.heap.size (fun k_ => some k_ ≠ ((.slice Ao89 x14_2.length co89) : Value).ownBlock ∧ some k_ ≠ ((.slice Ao68 t278.length co68) : Value).ownBlock) (.slice Ao97 t298.length co97) t298) ∧ Aside0 (w'.heap[gb269]? = some (.cells #[.int .i64 a0_0, .int .i64 a0_1, (.slice A0_2 l0_2.length c0_2)] 24 (0, 0))) ∧ Aside0 (w'.heap[gb282]? = some (.cells #[.int .i64 t274, .int .i64 t275, .int .i64 t276, .int .i64 t277, (.slice Ao68 t278.length co68)] 29 (0, 0))) ∧ Aside0 (w'.heap[gb302]? = some (.cells #[.int .i64 t294, .int .i64 t295, .int .i64 t296, .int .i64 t297, (.slice Ao97 t298.length co97)] 29 (0, 0))) ∧ Aside0 (Below w.heap.size w w'))
                      case atStart => exact ⟨(x14_2), (0), (by first | rfl | (simp; done) | (simp [*]; done)), H', ⟨Nat.le_refl _⟩, ⟨zR HO_14⟩, ⟨zR HO_283004⟩, ⟨zR HO_303004⟩, ⟨zk BK269⟩, ⟨zk BK282⟩, ⟨zk BK302⟩, ⟨zB HB⟩⟩
                      case round =>
                       as_aux_lemma =>
                       clear H'
                       try clear c1
                       try clear p2
                       try clear p6
                       try clear c8
                       try clear q8
                       try clear c9
                       try clear c10
                       try clear c11
                       try clear c12
                       try clear p64
                       try clear c88
                       try clear q88
                       try clear c100
                       try clear c100b0
                       try clear c100b1
                       try clear c101
                       try clear c101b0
                       try clear c101b1
                       try clear c102
                       try clear c102b0
                       try clear c102b1
                       try clear c104
                       try clear c105
                       try clear c107
                       try clear c110
                       try clear c111
                       try clear c113
                       try clear c116
                       try clear c117
                       try clear c119
                       try clear c119b0
                       try clear c119b1
                       try clear c120
                       try clear c121
                       try clear c123
                       try clear c124
                       try clear c126
                       try clear hz106
                       try clear hz108
                       try clear hz112
                       try clear hz114
                       try clear hz118
                       try clear hz122
                       try clear hz125
                       try clear p2
                       try clear p6
                       try clear p64
                       try clear q088
                       try clear q8
                       try clear q88
                       obtain ⟨x14_6, x21_6, rfl, HA, HK6, HO_14, HO_283004, HO_303004, BK269, BK282, BK302, HB⟩ := hrel
                       have hl14_6 := (Kd.R_reads' HO_14.out).1
                       rw [hl14_6] at HO_14
                       (try simp only [hl14_6])
                       (try simp only [hl14_6] at BK269)
                       (try simp only [hl14_6] at BK282)
                       (try simp only [hl14_6] at BK302)
                       (try simp only [hl14_6] at HO_283004)
                       (try simp only [hl14_6] at HO_303004)
                       cases gk with
                       | zero => exact absurd HA.out (by simp [standstilllaw05_BlockParts.l1])
                       | succ k6 =>
                        have H := HA.out
                        clear HA
                        simp only [standstilllaw05_BlockParts.l1] at H
                        by_cases c127 : x21_6 < (t298.length : Int)
                        ·
                         rw [if_pos c127] at H
                         have c127b0 : decide (x21_6 < (t298.length : Int)) = true := decide_eq_true c127
                         (try simp only [hl14_6] at c127b0)
                         clear c127
                         by_cases c128 : 0 ≤ x21_6
                         ·
                          rw [if_pos c128] at H
                          have c128b0 : decide (0 ≤ x21_6) = true := decide_eq_true c128
                          clear c128
                          obtain ⟨ji129, hji129⟩ : ∃ j_ : Int, (wrap64 (x17_79 + x21_6)) = j_ := ⟨_, rfl⟩
                          replace H : (if 0 ≤ (ji129) then (if (ji129) < (x14_6.length : Int) then (standstilllaw05_BlockParts.l1 k6 l3 (wrap64 (1 + (Int.tmod (wrap64 (a4)) (wrap64 ((l3.length : Int) - 1))))) (x14_6.set ((ji129) : Int).toNat (rd t298 x21_6)) x15_2 x16_2 x17_79 (wrap64 (x21_6 + 1)) a0_0 a0_1 l0_2 t274 t275 t276 t277 t278 t294 t295 t296 t297 t298) else (none)) else (none)) = some r := by first | (rw [hji129] at H; exact H) | (simp only [hji129] at H ⊢; exact H)
                          have hji129w : (IntKind.i64.wrap (x17_79 + x21_6)) = ji129 := (i64_w _).trans hji129
                          by_cases c130 : 0 ≤ (ji129)
                          ·
                           rw [if_pos c130] at H
                           have c130b0 : decide (0 ≤ (ji129)) = true := decide_eq_true c130
                           clear c130
                           by_cases c131 : (ji129) < (x14_6.length : Int)
                           ·
                            rw [if_pos c131] at H
                            have c131b0 : decide ((ji129) < (x14_6.length : Int)) = true := decide_eq_true c131
                            (try simp only [hl14_6] at c131b0)
                            clear c131
                            obtain ⟨y305, hy305⟩ : ∃ y_ : List Int, y_ = (x14_6.set ((ji129) : Int).toNat (rd t298 x21_6)) := ⟨_, rfl⟩
                            replace H : (standstilllaw05_BlockParts.l1 k6 l3 (wrap64 (1 + (Int.tmod (wrap64 (a4)) (wrap64 ((l3.length : Int) - 1))))) y305 x15_2 x16_2 x17_79 (wrap64 (x21_6 + 1)) a0_0 a0_1 l0_2 t274 t275 t276 t277 t278 t294 t295 t296 t297 t298) = some r := by first | (rw [hy305]; with_reducible exact H) | (have H2_ := (Option.bind_some _ _).symm.trans H; rw [hy305]; with_reducible exact H2_) | (have H2_ := (Option.bind_some _ _).symm.trans H; with_reducible exact H2_) | with_reducible exact H | (rw [hy305]; exact H) | exact H
                            have Ny305 := Aside0.mk hy305
                            clear hy305
                            have H' := Aside0.mk H
                            clear H
                            have hnb133 := NB302_269.out
                            have hnc133 := NB269_302.out
                            have hnb134 := NB302_282.out
                            have hnc134 := NB282_302.out
                            have hz135 := zc5 BK302
                            have p304 : 0 ≤ (x21_6 : Int) := of_decide_eq_true (by first | (with_reducible assumption) | assumption)
                            have q304 : x21_6 < (t298.length : Int) := of_decide_eq_true (by first | (with_reducible assumption) | assumption)
                            obtain ⟨ad304, e304, hx304_0⟩ := Kd.at_int (Kd.R_reads' HO_303004.out).2.2 x21_6 p304 q304
                            cases e304
                            replace p304 := eq_true p304
                            replace q304 := eq_true q304
                            have p132 : 0 ≤ ((ji129) : Int) := of_decide_eq_true (by first | (with_reducible assumption) | assumption)
                            have q132 : ((ji129) : Int) < ((x14_6.length : Int) : Int) := of_decide_eq_true (by first | (with_reducible assumption) | assumption)
                            obtain ⟨go132, co132, eo132, gb132, gl132, cl132, HG132⟩ := Kd.R_form HO_14.out (by omega)
                            (first | cases eo132 | (injection eo132 with ea_ en_ ec_; (first | subst ea_ | (injection ea_ with ea_; subst ea_)); subst ec_; clear en_))
                            have GB132 := Aside0.mk gb132
                            have GG132 := Aside0.mk HG132
                            clear gb132 gl132 HG132
                            obtain ⟨hx132_0, hf132_0⟩ := Kd.R_celln 0 HO_14.out ((ji129) : Int) p132 q132
                            replace p132 := eq_true p132
                            replace q132 := eq_true q132
                            have HP136 := Kd.R_putg HO_14.out ((ji129) : Int) (rd t298 x21_6)
                            go_wp2_with (first | ((with_reducible refine gate_store (t := 3) (p := 150) rfl ?_); refine store_event (t := 3) (p := 150) (v := ?vo_w137) (w1 := (wr.setCell ⟨go132, ((ji129) : Int).toNat, none⟩ (.int .i64 (rd t298 x21_6)))) ?hg ?ho ?hn ?hr ?_; (case ho => rfl); (case hg => rfl); (case hn => rfl); (case hr => first | (go_simp; done) | (go_simp; rfl)); intro w137 hw; have hg : wr.grownBy w137 (some go132) := (by rw [hw]; exact HP136.2); have hp_ : Kd.R (Kd.int .i64) 3 w137 w.heap.size (fun k_ => some k_ ≠ (.slice Ao68 t278.length co68 : Value).ownBlock ∧ some k_ ≠ (.slice (some ad304) t298.length co97 : Value).ownBlock) (.slice (some ⟨go132, 0, none⟩) x14_6.length co89) y305 := (by rw [hw, Ny305.out]; exact HP136.1); clear HP136; replace HO_283004 := Aside0.mk (Kd.R_after (v := (.slice (some ⟨go132, 0, none⟩) x14_6.length co89)) (v1 := (.slice (some ⟨go132, 0, none⟩) x14_6.length co89)) (ok := (fun k_ => some k_ ≠ (.slice (some ad304) t298.length co97 : Value).ownBlock)) (by (with_reducible repeat (first | apply Kd.R_alloc | apply Kd.R_drewN | apply Kd.R_drew)); exact Kd.R_mono HO_283004.out (fun _ hk => ⟨hk.2, hk.1⟩)) hg (.inl rfl)); replace HO_303004 := Aside0.mk (Kd.R_after (v := (.slice (some ⟨go132, 0, none⟩) x14_6.length co89)) (v1 := (.slice (some ⟨go132, 0, none⟩) x14_6.length co89)) (ok := (fun k_ => some k_ ≠ (.slice Ao68 t278.length co68 : Value).ownBlock)) (by (with_reducible repeat (first | apply Kd.R_alloc | apply Kd.R_drewN | apply Kd.R_drew)); exact Kd.R_mono HO_303004.out (fun _ hk => ⟨hk.2, hk.1⟩)) hg (.inl rfl)); replace BK269 := Aside0.mk (blk_grown (g := gb269) (o := .cells #[.int .i64 a0_0, .int .i64 a0_1, .slice A0_2 l0_2.length c0_2] 24 (0, 0)) (zk BK269) hg (Kd.R_ne HO_14.out BK269.out (by decide))); replace BK282 := Aside0.mk (blk_grown (g := gb282) (o := .cells #[.int .i64 t274, .int .i64 t275, .int .i64 t276, .int .i64 t277, .slice Ao68 t278.length co68] 29 (0, 0)) (zk BK282) hg (Kd.R_ne HO_14.out BK282.out (by decide))); replace BK302 := Aside0.mk (blk_grown (g := gb302) (o := .cells #[.int .i64 t294, .int .i64 t295, .int .i64 t296, .int .i64 t297, .slice (some ad304) t298.length co97] 29 (0, 0)) (zk BK302) hg (Kd.R_ne HO_14.out BK302.out (by decide))); replace HO_14 := Aside0.mk (hp_); replace HB := Aside0.mk ((by rw [hw]; exact below_set (HB.out) GB132.out : Below w.heap.size w w137)); clear hg hw hp_))
                            (try simp only [← hl14_6])
                            go_roundg k6
                            case measure => have := HJ5.out; have := HK2.out; have := HJ74.out; have := HJ79.out; have := HJ114.out; have := HK6.out; omega
                            case rel => exact ⟨(y305), (wrap64 (x21_6 + 1)), (by first | rfl | (simp; done) | (simp [*]; done)), H', ⟨by have := HJ5.out; have := HK2.out; have := HJ74.out; have := HJ79.out; have := HJ114.out; have := HK6.out; omega⟩, ⟨by (try simp only [hl14_6]); (with_reducible repeat (first | apply Kd.R_alloc | apply Kd.R_drewN | apply Kd.R_drew)); exact HO_14.out⟩, ⟨by (try simp only [hl14_6]); (with_reducible repeat (first | apply Kd.R_alloc | apply Kd.R_drewN | apply Kd.R_drew)); exact Kd.R_mono HO_283004.out (fun _ hk => ⟨hk.2, hk.1⟩)⟩, ⟨by (try simp only [hl14_6]); (with_reducible repeat (first | apply Kd.R_alloc | apply Kd.R_drewN | apply Kd.R_drew)); exact Kd.R_mono HO_303004.out (fun _ hk => ⟨hk.2, hk.1⟩)⟩, ⟨by (try simp only [hl14_6]); (with_reducible repeat (first | refine blk_drewN ?_ _ | refine blk_drew ?_ | refine blk_alloc ?_ _)); exact BK269.out⟩, ⟨by (try simp only [hl14_6]); (with_reducible repeat (first | refine blk_drewN ?_ _ | refine blk_drew ?_ | refine blk_alloc ?_ _)); exact BK282.out⟩, ⟨by (try simp only [hl14_6]); (with_reducible repeat (first | refine blk_drewN ?_ _ | refine blk_drew ?_ | refine blk_alloc ?_ _)); exact BK302.out⟩, ⟨zB HB⟩⟩
                           ·
                            rw [if_neg c131] at H
                            exact absurd H (by simp)
                          ·
                           rw [if_neg c130] at H
                           exact absurd H (by simp)
                         ·
                          rw [if_neg c128] at H
                          exact absurd H (by simp)
                        ·
                         rw [if_neg c127] at H
                         have c127b0 : decide (x21_6 < (t298.length : Int)) = false := decide_eq_false c127
                         (try simp only [hl14_6] at c127b0)
                         clear c127
                         have HC138 := Aside0.mk H
                         clear H
                         have hnb139 := NB302_269.out
                         have hnc139 := NB269_302.out
                         have hnb140 := NB302_282.out
                         have hnc140 := NB282_302.out
                         have hz141 := zc5 BK302
                         try go_wp2
                         replace HO_14 := Aside0.mk (Kd.R_drew HO_14.out)
                         replace HO_283004 := Aside0.mk (Kd.R_drew HO_283004.out)
                         replace HO_303004 := Aside0.mk (Kd.R_drew HO_303004.out)
                         replace BK269 := Aside0.mk (blk_drew BK269.out)
                         replace BK282 := Aside0.mk (blk_drew BK282.out)
                         replace BK302 := Aside0.mk (blk_drew BK302.out)
                         replace HB := Aside0.mk (below_drew1 HB.out)
                         refine start_ (n := 13) (S := fun w' => w'.cell? ⟨gb302, 0, none⟩ = some (.int .i64 t294) ∧ w'.cell? ⟨gb302, 1, none⟩ = some (.int .i64 t295) ∧ w'.cell? ⟨gb302, 2, none⟩ = some (.int .i64 t296) ∧ w'.cell? ⟨gb302, 3, none⟩ = some (.int .i64 t297) ∧ w'.cell? ⟨gb302, 4, none⟩ = some (.slice Ao97 t298.length co97)) (ds := []) (zl 13 0) (by kernel_rfl) rfl rfl ⟨(blk_cell BK302.out 0).trans rfl, (blk_cell BK302.out 1).trans rfl, (blk_cell BK302.out 2).trans rfl, (blk_cell BK302.out 3).trans rfl, (blk_cell BK302.out 4).trans rfl⟩ (fun hHeld => ?_); refine with_tabW standstilllaw05_BlockParts.tab25 standstilllaw05_BlockParts.bits25 (fun HT_ HW_ => ?_)
                         generalize wr.drew = w142 at HO_14 HO_283004 HO_303004 BK269 BK282 BK302 HB hHeld ⊢
                         refine zP 0 (some 151) (zl 13 1) HT_ ?_
                         refine zP 2 (some 153) (zl 13 5) HT_ ?_
                         refine zP 3 (some 154) (zl 13 13) HT_ ?_
                         refine zP 6 (some 157) (zl 13 77) HT_ ?_
                         refine zP 7 (some 158) (zl 13 205) HT_ ?_
                         refine zT 1 (some 152) (zl 13 207) HT_ HW_ hHeld ?_
                         refine zP 10 (some 1) (zl 13 1231) HT_ ?_
                         refine zT 4 (some 155) (zl 13 1247) HT_ HW_ hHeld ?_
                         refine zP 5 (some 156) (zl 13 1279) HT_ ?_
                         refine zP 11 (some 2) (zl 13 3327) HT_ ?_
                         refine zT 8 (some 159) (zl 13 3583) HT_ HW_ hHeld ?_
                         refine zP 9 (some 160) (zl 13 4095) HT_ ?_
                         refine zP 12 (some 15) (zl 13 8191) HT_ ?_
                         refine done_ (done_of HT_.out (by kernel_rfl)) ?_
                         go_upto_region 26 with (fail)
                         go_cut [173] (fun v173 wc => ∃ (kq : Nat) (x173_137 : Bool), v173 = .bool x173_137 ∧ Aside0 (standstilllaw05_BlockParts.j6 kq t295 (wrap64 (x17_79 + t297)) l3 (wrap64 (1 + (Int.tmod (wrap64 (a4)) (wrap64 ((l3.length : Int) - 1))))) x14_6 (wrap64 (x15_2 + t296)) x16_2 x173_137 a0_0 a0_1 l0_2 t274 t275 t276 t277 t278 t294 t295 t296 t297 t298 = some r) ∧ Aside0 (kq ≤ k6) ∧ Aside0 (Kd.R (Kd.int .i64) 3 wc w.heap.size (fun k_ => some k_ ≠ ((.slice Ao68 t278.length co68) : Value).ownBlock ∧ some k_ ≠ ((.slice Ao97 t298.length co97) : Value).ownBlock) (.slice Ao89 x14_6.length co89) x14_6) ∧ Aside0 (Kd.R (Kd.int .i64) 3 wc w.heap.size (fun k_ => some k_ ≠ ((.slice Ao89 x14_6.length co89) : Value).ownBlock ∧ some k_ ≠ ((.slice Ao97 t298.length co97) : Value).ownBlock) (.slice Ao68 t278.length co68) t278) ∧ Aside0 (Kd.R (Kd.int .i64) 3 wc w.heap.size (fun k_ => some k_ ≠ ((.slice Ao89 x14_6.length co89) : Value).ownBlock ∧ some k_ ≠ ((.slice Ao68 t278.length co68) : Value).ownBlock) (.slice Ao97 t298.length co97) t298) ∧ Aside0 (wc.heap[gb269]? = some (.cells #[.int .i64 a0_0, .int .i64 a0_1, (.slice A0_2 l0_2.length c0_2)] 24 (0, 0))) ∧ Aside0 (wc.heap[gb282]? = some (.cells #[.int .i64 t274, .int .i64 t275, .int .i64 t276, .int .i64 t277, (.slice Ao68 t278.length co68)] 29 (0, 0))) ∧ Aside0 (wc.heap[gb302]? = some (.cells #[.int .i64 t294, .int .i64 t295, .int .i64 t296, .int .i64 t297, (.slice Ao97 t298.length co97)] 29 (0, 0))) ∧ Aside0 (Below w.heap.size w wc))
                         case first =>
                          have H := HC138.out
                          clear HC138
                          by_cases c143 : t294 = 2
                          ·
                           rw [if_pos c143] at H
                           have c143b0 : (t294 == 2) = true := beq_iff_eq.mpr c143
                           have c143b1 : (t294 != 2) = false := bne_eq_false_iff_eq.mpr c143
                           clear c143
                           (first | rw [c143b0] | (simp only [i64_w, i32_w]; rw [c143b0]) | skip)
                           (try rw [c143b1])
                           have H' := Aside0.mk H
                           clear H
                           have hnb144 := NB302_269.out
                           have hnc144 := NB269_302.out
                           have hnb145 := NB302_282.out
                           have hnc145 := NB282_302.out
                           have hz146 := zc5 BK302
                           go_wp2
                           go_meet
                           case rel => exact ⟨_, (true), (by first | rfl | (simp; done) | (simp [*]; done)), H', ⟨by have := HJ5.out; have := HK2.out; have := HJ74.out; have := HJ79.out; have := HJ114.out; have := HK6.out; first | omega | exact Nat.le_refl _⟩, ⟨by (try simp only [hl14_6]); (with_reducible repeat (first | apply Kd.R_alloc | apply Kd.R_drewN | apply Kd.R_drew)); exact HO_14.out⟩, ⟨by (try simp only [hl14_6]); (with_reducible repeat (first | apply Kd.R_alloc | apply Kd.R_drewN | apply Kd.R_drew)); exact HO_283004.out⟩, ⟨by (try simp only [hl14_6]); (with_reducible repeat (first | apply Kd.R_alloc | apply Kd.R_drewN | apply Kd.R_drew)); exact HO_303004.out⟩, ⟨by (try simp only [hl14_6]); (with_reducible repeat (first | refine blk_drewN ?_ _ | refine blk_drew ?_ | refine blk_alloc ?_ _)); exact BK269.out⟩, ⟨by (try simp only [hl14_6]); (with_reducible repeat (first | refine blk_drewN ?_ _ | refine blk_drew ?_ | refine blk_alloc ?_ _)); exact BK282.out⟩, ⟨by (try simp only [hl14_6]); (with_reducible repeat (first | refine blk_drewN ?_ _ | refine blk_drew ?_ | refine blk_alloc ?_ _)); exact BK302.out⟩, ⟨zB HB⟩⟩
                          ·
                           rw [if_neg c143] at H
                           have c143b0 : (t294 == 2) = false := beq_eq_false_iff_ne.mpr c143
                           have c143b1 : (t294 != 2) = true := bne_iff_ne.mpr c143
                           (first | rw [c143b0] | (simp only [i64_w, i32_w]; rw [c143b0]) | skip)
                           (try rw [c143b1])
                           by_cases c147 : (wrap64 (x17_79 + t297)) < 0
                           ·
                            rw [if_pos c147] at H
                            have c147b0 : decide ((wrap64 (x17_79 + t297)) < 0) = true := decide_eq_true c147
                            clear c147
                            have H' := Aside0.mk H
                            clear H
                            have hnb148 := NB302_269.out
                            have hnc148 := NB269_302.out
                            have hnb149 := NB302_282.out
                            have hnc149 := NB282_302.out
                            have hz150 := zc5 BK302
                            go_wp2
                            go_meet
                            case rel => exact ⟨_, (true), (by first | rfl | (simp; done) | (simp [*]; done)), H', ⟨by have := HJ5.out; have := HK2.out; have := HJ74.out; have := HJ79.out; have := HJ114.out; have := HK6.out; first | omega | exact Nat.le_refl _⟩, ⟨by (try simp only [hl14_6]); (with_reducible repeat (first | apply Kd.R_alloc | apply Kd.R_drewN | apply Kd.R_drew)); exact HO_14.out⟩, ⟨by (try simp only [hl14_6]); (with_reducible repeat (first | apply Kd.R_alloc | apply Kd.R_drewN | apply Kd.R_drew)); exact HO_283004.out⟩, ⟨by (try simp only [hl14_6]); (with_reducible repeat (first | apply Kd.R_alloc | apply Kd.R_drewN | apply Kd.R_drew)); exact HO_303004.out⟩, ⟨by (try simp only [hl14_6]); (with_reducible repeat (first | refine blk_drewN ?_ _ | refine blk_drew ?_ | refine blk_alloc ?_ _)); exact BK269.out⟩, ⟨by (try simp only [hl14_6]); (with_reducible repeat (first | refine blk_drewN ?_ _ | refine blk_drew ?_ | refine blk_alloc ?_ _)); exact BK282.out⟩, ⟨by (try simp only [hl14_6]); (with_reducible repeat (first | refine blk_drewN ?_ _ | refine blk_drew ?_ | refine blk_alloc ?_ _)); exact BK302.out⟩, ⟨zB HB⟩⟩
                           ·
                            rw [if_neg c147] at H
                            have c147b0 : decide ((wrap64 (x17_79 + t297)) < 0) = false := decide_eq_false c147
                            clear c147
                            have H' := Aside0.mk H
                            clear H
                            have hnb151 := NB302_269.out
                            have hnc151 := NB269_302.out
                            have hnb152 := NB302_282.out
                            have hnc152 := NB282_302.out
                            have hz153 := zc5 BK302
                            go_wp2
                            go_meet
                            case rel => exact ⟨_, (decide ((wrap64 (x17_79 + t297)) ≥ (l3.length : Int))), (by first | rfl | (simp; done) | (simp [*]; done)), H', ⟨by have := HJ5.out; have := HK2.out; have := HJ74.out; have := HJ79.out; have := HJ114.out; have := HK6.out; first | omega | exact Nat.le_refl _⟩, ⟨by (try simp only [hl14_6]); (with_reducible repeat (first | apply Kd.R_alloc | apply Kd.R_drewN | apply Kd.R_drew)); exact HO_14.out⟩, ⟨by (try simp only [hl14_6]); (with_reducible repeat (first | apply Kd.R_alloc | apply Kd.R_drewN | apply Kd.R_drew)); exact HO_283004.out⟩, ⟨by (try simp only [hl14_6]); (with_reducible repeat (first | apply Kd.R_alloc | apply Kd.R_drewN | apply Kd.R_drew)); exact HO_303004.out⟩, ⟨by (try simp only [hl14_6]); (with_reducible repeat (first | refine blk_drewN ?_ _ | refine blk_drew ?_ | refine blk_alloc ?_ _)); exact BK269.out⟩, ⟨by (try simp only [hl14_6]); (with_reducible repeat (first | refine blk_drewN ?_ _ | refine blk_drew ?_ | refine blk_alloc ?_ _)); exact BK282.out⟩, ⟨by (try simp only [hl14_6]); (with_reducible repeat (first | refine blk_drewN ?_ _ | refine blk_drew ?_ | refine blk_alloc ?_ _)); exact BK302.out⟩, ⟨zB HB⟩⟩
                         case rest =>
                          as_aux_lemma =>
                          clear HC138
                          try clear c1
                          try clear p1
                          try clear q1
                          try clear hx1
                          try clear p2
                          try clear p3
                          try clear q3
                          try clear hx3
                          try clear p6
                          try clear c8
                          try clear q8
                          try clear c9
                          try clear c10
                          try clear c11
                          try clear c12
                          try clear c13
                          try clear p13
                          try clear q13
                          try clear hx13
                          try clear hf13
                          try clear c14
                          try clear c15
                          try clear p30
                          try clear q30
                          try clear hx30
                          try clear p64
                          try clear c88
                          try clear q88
                          try clear c100
                          try clear c100b0
                          try clear c100b1
                          try clear c101
                          try clear c101b0
                          try clear c101b1
                          try clear c102
                          try clear c102b0
                          try clear c102b1
                          try clear c104
                          try clear c105
                          try clear c107
                          try clear c110
                          try clear c111
                          try clear c113
                          try clear c116
                          try clear c117
                          try clear c119
                          try clear c119b0
                          try clear c119b1
                          try clear c120
                          try clear c121
                          try clear c123
                          try clear c124
                          try clear c126
                          try clear c127
                          try clear c127b0
                          try clear c128
                          try clear c128b0
                          try clear c130
                          try clear c130b0
                          try clear c131
                          try clear c131b0
                          try clear p132
                          try clear q132
                          try clear hx132
                          try clear hf132
                          try clear c133
                          try clear c134
                          try clear c139
                          try clear c140
                          try clear c143
                          try clear c143b0
                          try clear c143b1
                          try clear c144
                          try clear c145
                          try clear c147
                          try clear c147b0
                          try clear c148
                          try clear c149
                          try clear c151
                          try clear c152
                          try clear hz106
                          try clear hz108
                          try clear hz112
                          try clear hz114
                          try clear hz118
                          try clear hz122
                          try clear hz125
                          try clear hz135
                          try clear hz141
                          try clear hz146
                          try clear hz150
                          try clear hz153
                          try clear hx132_0
                          try clear hx304_0
                          try clear p132
                          try clear p2
                          try clear p304
                          try clear p6
                          try clear p64
                          try clear q088
                          try clear q132
                          try clear q304
                          try clear q8
                          try clear q88
                          obtain ⟨kq, x173_137, rfl, HA, HJ137, HO_14, HO_283004, HO_303004, BK269, BK282, BK302, HB⟩ := hcut
                          cases kq with
                          | zero => exact absurd HA.out (by simp [standstilllaw05_BlockParts.j6])
                          | succ kj137 =>
                           have H := HA.out
                           clear HA
                           simp only [standstilllaw05_BlockParts.j6] at H
                           by_cases c154 : x173_137 = true
                           ·
                            subst c154
                            have H1 : (if t274 = t294 then (if t275 = t295 then (if t277 = (wrap64 (x17_79 + t297)) then (if t276 = (wrap64 (x15_2 + t296)) then ((standstillref01_SameInts.f kj137 t278 x14_6).bind fun t306 => (if t306 = true then ((standstilllaw05_awake.f kj137).bind fun t307 => (some t307)) else (some false))) else (some false)) else (some false)) else (some false)) else (some false)) = some r := by rw [if_pos rfl] at H; exact H
                            clear H
                            have H := H1
                            clear H1
                            by_cases c155 : t274 = t294
                            ·
                             rw [if_pos c155] at H
                             have c155b0 : (t274 == t294) = true := beq_iff_eq.mpr c155
                             have c155b1 : (t274 != t294) = false := bne_eq_false_iff_eq.mpr c155
                             clear c155
                             by_cases c156 : t275 = t295
                             ·
                              rw [if_pos c156] at H
                              have c156b0 : (t275 == t295) = true := beq_iff_eq.mpr c156
                              have c156b1 : (t275 != t295) = false := bne_eq_false_iff_eq.mpr c156
                              clear c156
                              by_cases c157 : t277 = (wrap64 (x17_79 + t297))
                              ·
                               rw [if_pos c157] at H
                               have c157b0 : (t277 == (wrap64 (x17_79 + t297))) = true := beq_iff_eq.mpr c157
                               have c157b1 : (t277 != (wrap64 (x17_79 + t297))) = false := bne_eq_false_iff_eq.mpr c157
                               clear c157
                               by_cases c158 : t276 = (wrap64 (x15_2 + t296))
                               ·
                                rw [if_pos c158] at H
                                have c158b0 : (t276 == (wrap64 (x15_2 + t296))) = true := beq_iff_eq.mpr c158
                                have c158b1 : (t276 != (wrap64 (x15_2 + t296))) = false := bne_eq_false_iff_eq.mpr c158
                                clear c158
                                replace H := Option.bind_eq_some_iff.mp H
                                obtain ⟨t306, A1590, H⟩ := H
                                replace H : (if t306 = true then ((standstilllaw05_awake.f kj137).bind fun t307 => (some t307)) else (some false)) = some r := H
                                have A159 := Aside0.mk A1590
                                clear A1590
                                by_cases c160 : t306 = true
                                ·
                                 subst c160
                                 have H1 : ((standstilllaw05_awake.f kj137).bind fun t307 => (some t307)) = some r := by rw [if_pos rfl] at H; exact H
                                 clear H
                                 have H := H1
                                 clear H1
                                 replace H := Option.bind_eq_some_iff.mp H
                                 obtain ⟨t307, A1610, H⟩ := H
                                 replace H : (some t307) = some r := H
                                 have A161 := Aside0.mk A1610
                                 clear A1610
                                 obtain rfl := Option.some.inj H
                                 have hnb162 := NB302_269.out
                                 have hnc162 := NB269_302.out
                                 have hnb163 := NB302_282.out
                                 have hnc163 := NB282_302.out
                                 have hz164 := zc5 BK302
                                 have hnb165 := NB282_269.out
                                 have hnc165 := NB269_282.out
                                 have hz166 := zc5 BK282
                                 go_wp2_with (first | (go_at_call 14; (with_reducible refine (standstillref01_SameInts.calls kj137 _ _ t278 _ _ x14_6 true _ ?side1 ?side2 ?side3 ?side4 A159.out).mono ?_); (case side1 => exact zC ((Kd.R_reads' HO_283004.out).2.2)); (case side2 => exact (Kd.R_reads' HO_283004.out).2.1); (case side3 => exact zC ((Kd.R_reads' HO_14.out).2.2)); (case side4 => exact (Kd.R_reads' HO_14.out).2.1); rintro e w' ⟨rfl, ⟨nd, rfl⟩⟩) | (go_at_call 8; (with_reducible refine (standstilllaw05_awake.calls kj137  t307 _ A161.out).mono ?_); rintro e w167 ⟨rfl, hb⟩; replace HO_14 := Aside0.mk (zRb HO_14 hb); replace HO_283004 := Aside0.mk (zRb HO_283004 hb); replace HO_303004 := Aside0.mk (zRb HO_303004 hb); replace BK269 := Aside0.mk (zb BK269 hb); replace BK282 := Aside0.mk (zb BK282 hb); replace BK302 := Aside0.mk (zb BK302 hb); replace HB := Aside0.mk (below_step (zB HB) hb); (try clear hb); (try clear hb2); (try clear hk); (try clear hi)))
                                 go_ret
                                 exact ⟨by first | rfl | (simp [errW_none, errW_some] <;> rfl) | (simp [*, errW_none, errW_some] <;> rfl), zB HB⟩
                                ·
                                 replace c160 := Bool.eq_false_iff.mpr c160
                                 subst c160
                                 have H1 : (some false) = some r := by rw [if_neg (show ¬ (false = true) by decide)] at H; exact H
                                 clear H
                                 have H := H1
                                 clear H1
                                 obtain rfl := Option.some.inj H
                                 have hnb168 := NB302_269.out
                                 have hnc168 := NB269_302.out
                                 have hnb169 := NB302_282.out
                                 have hnc169 := NB282_302.out
                                 have hz170 := zc5 BK302
                                 have hnb171 := NB282_269.out
                                 have hnc171 := NB269_282.out
                                 have hz172 := zc5 BK282
                                 go_wp2_with (first | (go_at_call 14; (with_reducible refine (standstillref01_SameInts.calls kj137 _ _ t278 _ _ x14_6 false _ ?side1 ?side2 ?side3 ?side4 A159.out).mono ?_); (case side1 => exact zC ((Kd.R_reads' HO_283004.out).2.2)); (case side2 => exact (Kd.R_reads' HO_283004.out).2.1); (case side3 => exact zC ((Kd.R_reads' HO_14.out).2.2)); (case side4 => exact (Kd.R_reads' HO_14.out).2.1); rintro e w' ⟨rfl, ⟨nd, rfl⟩⟩))
                                 go_ret
                                 exact ⟨by first | rfl | (simp [errW_none, errW_some] <;> rfl) | (simp [*, errW_none, errW_some] <;> rfl), zB HB⟩
                               ·
                                rw [if_neg c158] at H
                                have c158b0 : (t276 == (wrap64 (x15_2 + t296))) = false := beq_eq_false_iff_ne.mpr c158
                                have c158b1 : (t276 != (wrap64 (x15_2 + t296))) = true := bne_iff_ne.mpr c158
                                obtain rfl := Option.some.inj H
                                have hnb173 := NB302_269.out
                                have hnc173 := NB269_302.out
                                have hnb174 := NB302_282.out
                                have hnc174 := NB282_302.out
                                have hz175 := zc5 BK302
                                have hnb176 := NB282_269.out
                                have hnc176 := NB269_282.out
                                have hz177 := zc5 BK282
                                go_wp2
                                go_ret
                                exact ⟨by first | rfl | (simp [errW_none, errW_some] <;> rfl) | (simp [*, errW_none, errW_some] <;> rfl), zB HB⟩
                              ·
                               rw [if_neg c157] at H
                               have c157b0 : (t277 == (wrap64 (x17_79 + t297))) = false := beq_eq_false_iff_ne.mpr c157
                               have c157b1 : (t277 != (wrap64 (x17_79 + t297))) = true := bne_iff_ne.mpr c157
                               obtain rfl := Option.some.inj H
                               have hnb178 := NB302_269.out
                               have hnc178 := NB269_302.out
                               have hnb179 := NB302_282.out
                               have hnc179 := NB282_302.out
                               have hz180 := zc5 BK302
                               have hnb181 := NB282_269.out
                               have hnc181 := NB269_282.out
                               have hz182 := zc5 BK282
                               go_wp2
                               go_ret
                               exact ⟨by first | rfl | (simp [errW_none, errW_some] <;> rfl) | (simp [*, errW_none, errW_some] <;> rfl), zB HB⟩
                             ·
                              rw [if_neg c156] at H
                              have c156b0 : (t275 == t295) = false := beq_eq_false_iff_ne.mpr c156
                              have c156b1 : (t275 != t295) = true := bne_iff_ne.mpr c156
                              obtain rfl := Option.some.inj H
                              have hnb183 := NB302_269.out
                              have hnc183 := NB269_302.out
                              have hnb184 := NB302_282.out
                              have hnc184 := NB282_302.out
                              have hz185 := zc5 BK302
                              have hnb186 := NB282_269.out
                              have hnc186 := NB269_282.out
                              have hz187 := zc5 BK282
                              go_wp2
                              go_ret
                              exact ⟨by first | rfl | (simp [errW_none, errW_some] <;> rfl) | (simp [*, errW_none, errW_some] <;> rfl), zB HB⟩
                            ·
                             rw [if_neg c155] at H
                             have c155b0 : (t274 == t294) = false := beq_eq_false_iff_ne.mpr c155
                             have c155b1 : (t274 != t294) = true := bne_iff_ne.mpr c155
                             obtain rfl := Option.some.inj H
                             have hnb188 := NB302_269.out
                             have hnc188 := NB269_302.out
                             have hnb189 := NB302_282.out
                             have hnc189 := NB282_302.out
                             have hz190 := zc5 BK302
                             have hnb191 := NB282_269.out
                             have hnc191 := NB269_282.out
                             have hz192 := zc5 BK282
                             go_wp2
                             go_ret
                             exact ⟨by first | rfl | (simp [errW_none, errW_some] <;> rfl) | (simp [*, errW_none, errW_some] <;> rfl), zB HB⟩
                           ·
                            replace c154 := Bool.eq_false_iff.mpr c154
                            subst c154
                            have H1 : (if t274 = 3 then (standstilllaw05_BlockParts.l0 kj137 t295 (wrap64 (x17_79 + t297)) l3 (wrap64 (1 + (Int.tmod (wrap64 (a4)) (wrap64 ((l3.length : Int) - 1))))) x14_6 (wrap64 (x15_2 + t296)) (wrap64 (x16_2 + 1)) a0_0 a0_1 l0_2 t274 t275 t276 t277 t278) else (if (wrap64 (x15_2 + t296)) > t276 then (some false) else (standstilllaw05_BlockParts.l0 kj137 t295 (wrap64 (x17_79 + t297)) l3 (wrap64 (1 + (Int.tmod (wrap64 (a4)) (wrap64 ((l3.length : Int) - 1))))) x14_6 (wrap64 (x15_2 + t296)) (wrap64 (x16_2 + 1)) a0_0 a0_1 l0_2 t274 t275 t276 t277 t278))) = some r := by rw [if_neg (show ¬ (false = true) by decide)] at H; exact H
                            clear H
                            have H := H1
                            clear H1
                            by_cases c193 : t274 = 3
                            ·
                             rw [if_pos c193] at H
                             have c193b0 : (t274 == 3) = true := beq_iff_eq.mpr c193
                             have c193b1 : (t274 != 3) = false := bne_eq_false_iff_eq.mpr c193
                             clear c193
                             have H' := Aside0.mk H
                             clear H
                             have hnb194 := NB282_269.out
                             have hnc194 := NB269_282.out
                             have hnb195 := NB282_302.out
                             have hnc195 := NB302_282.out
                             have hz196 := zc5 BK282
                             go_wp2
                             (try simp only [← hl14_6])
                             go_roundg kj137
                             case measure => have := HJ5.out; have := HK2.out; have := HJ74.out; have := HJ79.out; have := HJ114.out; have := HK6.out; have := HJ137.out; omega
                             case rel => exact ⟨(t295), ((wrap64 (x17_79 + t297))), (x14_6), ((wrap64 (x15_2 + t296))), (wrap64 (x16_2 + 1)), (by first | rfl | (simp; done) | (simp [*]; done)), (by first | rfl | (simp; done) | (simp [*]; done)), (by first | rfl | (simp; done) | (simp [*]; done)), (by first | rfl | (simp; done) | (simp [*]; done)), H', ⟨by have := HJ5.out; have := HK2.out; have := HJ74.out; have := HJ79.out; have := HJ114.out; have := HK6.out; have := HJ137.out; omega⟩, ⟨by (try simp only [hl14_6]); (with_reducible repeat (first | apply Kd.R_alloc | apply Kd.R_drewN | apply Kd.R_drew)); exact Kd.R_mono HO_14.out (fun _ hk => hk.1)⟩, ⟨by (try simp only [hl14_6]); (with_reducible repeat (first | apply Kd.R_alloc | apply Kd.R_drewN | apply Kd.R_drew)); exact Kd.R_mono HO_283004.out (fun _ hk => hk.1)⟩, ⟨by (try simp only [hl14_6]); (with_reducible repeat (first | refine blk_drewN ?_ _ | refine blk_drew ?_ | refine blk_alloc ?_ _)); exact BK269.out⟩, ⟨by (try simp only [hl14_6]); (with_reducible repeat (first | refine blk_drewN ?_ _ | refine blk_drew ?_ | refine blk_alloc ?_ _)); exact BK282.out⟩, ⟨zB HB⟩⟩
                            ·
                             rw [if_neg c193] at H
                             have c193b0 : (t274 == 3) = false := beq_eq_false_iff_ne.mpr c193
                             have c193b1 : (t274 != 3) = true := bne_iff_ne.mpr c193
                             by_cases c197 : (wrap64 (x15_2 + t296)) > t276
                             ·
                              rw [if_pos c197] at H
                              have c197b0 : decide (t276 < (wrap64 (x15_2 + t296))) = true := decide_eq_true c197
                              clear c197
                              obtain rfl := Option.some.inj H
                              have hnb198 := NB282_269.out
                              have hnc198 := NB269_282.out
                              have hnb199 := NB282_302.out
                              have hnc199 := NB302_282.out
                              have hz200 := zc5 BK282
                              go_wp2
                              go_ret
                              exact ⟨by first | rfl | (simp [errW_none, errW_some] <;> rfl) | (simp [*, errW_none, errW_some] <;> rfl), zB HB⟩
                             ·
                              rw [if_neg c197] at H
                              have c197b0 : decide (t276 < (wrap64 (x15_2 + t296))) = false := decide_eq_false c197
                              clear c197
                              have H' := Aside0.mk H
                              clear H
                              have hnb201 := NB282_269.out
                              have hnc201 := NB269_282.out
                              have hnb202 := NB282_302.out
                              have hnc202 := NB302_282.out
                              have hz203 := zc5 BK282
                              go_wp2
                              (try simp only [← hl14_6])
                              go_roundg kj137
                              case measure => have := HJ5.out; have := HK2.out; have := HJ74.out; have := HJ79.out; have := HJ114.out; have := HK6.out; have := HJ137.out; omega
                              case rel => exact ⟨(t295), ((wrap64 (x17_79 + t297))), (x14_6), ((wrap64 (x15_2 + t296))), (wrap64 (x16_2 + 1)), (by first | rfl | (simp; done) | (simp [*]; done)), (by first | rfl | (simp; done) | (simp [*]; done)), (by first | rfl | (simp; done) | (simp [*]; done)), (by first | rfl | (simp; done) | (simp [*]; done)), H', ⟨by have := HJ5.out; have := HK2.out; have := HJ74.out; have := HJ79.out; have := HJ114.out; have := HK6.out; have := HJ137.out; omega⟩, ⟨by (try simp only [hl14_6]); (with_reducible repeat (first | apply Kd.R_alloc | apply Kd.R_drewN | apply Kd.R_drew)); exact Kd.R_mono HO_14.out (fun _ hk => hk.1)⟩, ⟨by (try simp only [hl14_6]); (with_reducible repeat (first | apply Kd.R_alloc | apply Kd.R_drewN | apply Kd.R_drew)); exact Kd.R_mono HO_283004.out (fun _ hk => hk.1)⟩, ⟨by (try simp only [hl14_6]); (with_reducible repeat (first | refine blk_drewN ?_ _ | refine blk_drew ?_ | refine blk_alloc ?_ _)); exact BK269.out⟩, ⟨by (try simp only [hl14_6]); (with_reducible repeat (first | refine blk_drewN ?_ _ | refine blk_drew ?_ | refine blk_alloc ?_ _)); exact BK282.out⟩, ⟨zB HB⟩⟩
                 ·
                  rw [if_neg c100] at H
                  have c100b0 : (t301 == 0) = false := beq_eq_false_iff_ne.mpr c100
                  have c100b1 : (t301 != 0) = true := bne_iff_ne.mpr c100
                  (first | rw [c100b0] | (simp only [i64_w, i32_w]; rw [c100b0]) | skip)
                  (try rw [c100b1])
                  obtain rfl := Option.some.inj H
                  go_wp2
                  go_ret
                  exact ⟨by first | rfl | (simp [errW_none, errW_some] <;> rfl) | (simp [*, errW_none, errW_some] <;> rfl), zB HB⟩
                ·
                 rw [if_neg c84] at H
                 exact absurd H (by simp)
               ·
                rw [if_neg c83] at H
                exact absurd H (by simp)
              ·
               rw [if_neg c82] at H
               exact absurd H (by simp)
           ·
            replace c79 := Bool.eq_false_iff.mpr c79
            subst c79
            have H1 : ((standstilllaw05_awake.f kj74).bind fun t289 => (some t289)) = some r := by rw [if_neg (show ¬ (false = true) by decide)] at H; exact H
            clear H
            have H := H1
            clear H1
            replace H := Option.bind_eq_some_iff.mp H
            obtain ⟨t289, A2040, H⟩ := H
            replace H : (some t289) = some r := H
            have A204 := Aside0.mk A2040
            clear A2040
            obtain rfl := Option.some.inj H
            go_wp2_with (first | ((with_reducible refine gate_callee (f := 8) rfl ?_); refine goesL_ (some 216) rfl rfl Try.func8 (by kernel_rfl) rfl #[] rfl (zm) ?_; (with_reducible refine (standstilllaw05_awake.calls kj74  t289 _ A204.out).mono ?_); rintro e w205 ⟨rfl, hb⟩; refine ⟨_, rfl, ?_⟩; replace HO_14 := Aside0.mk (zRb HO_14 hb); replace HO_283004 := Aside0.mk (zRb HO_283004 hb); replace BK269 := Aside0.mk (zb BK269 hb); replace BK282 := Aside0.mk (zb BK282 hb); replace HB := Aside0.mk (below_step (zB HB) hb); (try clear hb); (try clear hb2); (try clear hk); (try clear hi)))
            go_ret
            exact ⟨by first | rfl | (simp [errW_none, errW_some] <;> rfl) | (simp [*, errW_none, errW_some] <;> rfl), zB HB⟩
      ·
       rw [if_neg c71] at H
       exact absurd H (by simp)
     ·
      rw [if_neg c70] at H
      have c70b0 : (t281 == 0) = false := beq_eq_false_iff_ne.mpr c70
      have c70b1 : (t281 != 0) = true := bne_iff_ne.mpr c70
      (first | rw [c70b0] | (simp only [i64_w, i32_w]; rw [c70b0]) | skip)
      (try rw [c70b1])
      obtain rfl := Option.some.inj H
      go_wp2
      go_ret
      exact ⟨by first | rfl | (simp [errW_none, errW_some] <;> rfl) | (simp [*, errW_none, errW_some] <;> rfl), zB HB⟩

end Go.Proofs.Ytfjfnpegpcdnaaa.GB
