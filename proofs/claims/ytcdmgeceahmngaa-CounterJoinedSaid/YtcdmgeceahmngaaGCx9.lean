/- The functions of one seat as Lean functions, each with its contract: the call of the Go function returns what the Lean function answers. Written by a program of this session out of the translation; contracts made by hand are laid between. -/
import Derived.Test.YtcdmgeceahmngaaGCx0
import Derived.Test.YtcdmgeceahmngaaGCx2
import Derived.Test.YtcdmgeceahmngaaGCx6
import Derived.Test.YtcdmgeceahmngaaGCx7
import Derived.Test.YtcdmgeceahmngaaGCx8
namespace Go.Proofs.Ytcdmgeceahmngaa.GC
open Go.RowKit Go.Proofs.YtcdmgeceahmngaaW.PrintWords Go.Proofs.YtcdmgeceahmngaaW.PrintLast Go.Proofs.YtcdmgeceahmngaaW.PrintMore
attribute [local go_sem] max2_int min2_int max_two min_two max_three min_three max_four min_four   -- for this text's walks alone
set_option linter.unusedVariables false
set_option linter.unusedSimpArgs false

/-! ### standstilllaw06_CounterJoined: function 3 -/
mutual
def standstilllaw06_CounterJoined.j0 : Nat → List Int → Bool → Int → List (S35) → Int → List (S35) → Option (Bool)
 | 0, _, _, _, _, _, _ => none
 | k + 1, x2, x47, x199000, x199001, x200000, x200001 => if x47 = true then ((standstilllaw06_awake.f k).bind fun t202 => (some t202)) else (if 0 ≤ (mx x199000 x200000) then (if (mx x199000 x200000 : Int).toNat ≤ 35184372088832 then (standstilllaw06_CounterJoined.l0 k x2 (mx x199000 x200000) (List.replicate (mx x199000 x200000 : Int).toNat 0) 0 x199000 x199001 x200000 x200001) else (none)) else (none))
def standstilllaw06_CounterJoined.j2 : Nat → List Int → Int → List (S35) → Int → List (S35) → Option (Bool)
 | 0, _, _, _, _, _ => none
 | k + 1, x8, x199000, x199001, x200000, x200001 => if 0 ≤ x199000 then (if x199000 ≤ (x8.length : Int) then ((counter_Run.f k x199000 x199001 0 (x8.take (x199000 : Int).toNat) 3000).bind fun bt212 => (if bt212.2.2.2 = 0 then ((standstillref06_Fits.f k x199000 x199001 bt212.1 bt212.2.1).bind fun t219 => (standstilllaw06_CounterJoined.j3 k x8 bt212.2.2.1 bt212.2.2.2 (!t219) x199000 x199001 x200000 x200001 bt212.1 bt212.2.1)) else (standstilllaw06_CounterJoined.j3 k x8 bt212.2.2.1 bt212.2.2.2 false x199000 x199001 x200000 x200001 bt212.1 bt212.2.1))) else (none)) else (none)
def standstilllaw06_CounterJoined.j3 : Nat → List Int → Int → Int → Bool → Int → List (S35) → Int → List (S35) → Int → List Int → Option (Bool)
 | 0, _, _, _, _, _, _, _, _, _, _ => none
 | k + 1, x8, x11, x12, x92, x199000, x199001, x200000, x200001, x219000, x219001 => if x92 = true then (some false) else (if x12 = 0 then (if 0 ≤ x219000 then (if x219000 < (x199001.length : Int) then (if ((rd_T35 x199001 x219000).f0) = 2 then (if 0 < (x219001.length : Int) then (standstilllaw06_CounterJoined.j4 k x8 x11 (decide ((rd x219001 0) ≥ 1152921504606846976)) x199000 x199001 x200000 x200001 x219000 x219001) else (none)) else (standstilllaw06_CounterJoined.j4 k x8 x11 true x199000 x199001 x200000 x200001 x219000 x219001)) else (none)) else (none)) else (standstilllaw06_CounterJoined.j4 k x8 x11 true x199000 x199001 x200000 x200001 x219000 x219001))
def standstilllaw06_CounterJoined.j4 : Nat → List Int → Int → Bool → Int → List (S35) → Int → List (S35) → Int → List Int → Option (Bool)
 | 0, _, _, _, _, _, _, _, _, _ => none
 | k + 1, x8, x11, x111, x199000, x199001, x200000, x200001, x219000, x219001 => if x111 = true then ((standstilllaw06_awake.f k).bind fun t222 => (some t222)) else ((some (([] : List Int) : List Int)).bind fun y223 => (if y223.length + x219001.length < 17592186044416 then ((some (y223 ++ x219001 : List Int)).bind fun y226 => (if 0 ≤ x199000 then (if x199000 ≤ (x8.length : Int) then ((some (x8.drop (x199000 : Int).toNat : List Int)).bind fun y229 => (if y226.length + y229.length < 17592186044416 then ((some (y226 ++ y229 : List Int)).bind fun y233 => (if 0 ≤ x200000 then (if x200000 ≤ (y233.length : Int) then ((counter_Run.f k x200000 x200001 0 (y233.take (x200000 : Int).toNat) 3000).bind fun bt240 => (if bt240.2.2.2 = 0 then ((standstillref06_Fits.f k x200000 x200001 bt240.1 bt240.2.1).bind fun t247 => (standstilllaw06_CounterJoined.j5 k x8 x11 y233 bt240.2.2.1 bt240.2.2.2 (!t247) x199000 x199001 x200000 x200001 bt240.1 bt240.2.1)) else (standstilllaw06_CounterJoined.j5 k x8 x11 y233 bt240.2.2.1 bt240.2.2.2 false x199000 x199001 x200000 x200001 bt240.1 bt240.2.1))) else (none)) else (none))) else (none))) else (none)) else (none))) else (none)))
def standstilllaw06_CounterJoined.j5 : Nat → List Int → Int → List Int → Int → Int → Bool → Int → List (S35) → Int → List (S35) → Int → List Int → Option (Bool)
 | 0, _, _, _, _, _, _, _, _, _, _, _, _ => none
 | k + 1, x8, x11, x13, x15, x16, x140, x199000, x199001, x200000, x200001, x247000, x247001 => if x140 = true then (some false) else (if x16 = 0 then (if 0 ≤ x247000 then (if x247000 < (x200001.length : Int) then (standstilllaw06_CounterJoined.j6 k x8 x11 x13 x15 (((rd_T35 x200001 x247000).f0) != 2) x199000 x199001 x200000 x200001 x247000 x247001) else (none)) else (none)) else (standstilllaw06_CounterJoined.j6 k x8 x11 x13 x15 true x199000 x199001 x200000 x200001 x247000 x247001))
def standstilllaw06_CounterJoined.j6 : Nat → List Int → Int → List Int → Int → Bool → Int → List (S35) → Int → List (S35) → Int → List Int → Option (Bool)
 | 0, _, _, _, _, _, _, _, _, _, _, _ => none
 | k + 1, x8, x11, x13, x15, x152, x199000, x199001, x200000, x200001, x247000, x247001 => if x152 = true then ((standstilllaw06_awake.f k).bind fun t249 => (some t249)) else ((counter_Join.f k x199000 x199001 x200000 x200001).bind fun bt250 => ((counter_Run.f k bt250.1 bt250.2.1 0 x8 10000).bind fun bt256 => ((some (([] : List Int) : List Int)).bind fun y263 => (if y263.length + x247001.length < 17592186044416 then ((some (y263 ++ x247001 : List Int)).bind fun y266 => (if 0 ≤ x200000 then (if x200000 ≤ (x13.length : Int) then ((some (x13.drop (x200000 : Int).toNat : List Int)).bind fun y269 => (if y266.length + y269.length < 17592186044416 then (if bt250.2.2 = 0 then (if bt256.2.2.2 = 0 then (if bt256.2.2.1 = (wrap64 ((wrap64 (x11 + x15)) + 2)) then (if bt256.1 ≥ 0 then (if bt256.1 < (bt250.2.1.length : Int) then (if 0 ≤ bt256.1 then (if ((rd_T35 bt250.2.1 bt256.1).f0) = 2 then ((standstillref06_SameCount.f k 0 (y266 ++ y269) 0 bt256.2.1).bind fun t277 => (if t277 = true then ((standstilllaw06_awake.f k).bind fun t278 => (some t278)) else (some false))) else (some false)) else (none)) else (some false)) else (some false)) else (some false)) else (some false)) else (some false)) else (none))) else (none)) else (none))) else (none)))))
def standstilllaw06_CounterJoined.l0 : Nat → List Int → Int → List Int → Int → Int → List (S35) → Int → List (S35) → Option (Bool)
 | 0, _, _, _, _, _, _, _, _ => none
 | k + 1, x2, x7, x8, x9, x199000, x199001, x200000, x200001 => if x9 < x7 then (if x9 < (x2.length : Int) then (if 0 ≤ x9 then (if x9 < (x8.length : Int) then (standstilllaw06_CounterJoined.l0 k x2 x7 (x8.set (x9 : Int).toNat (rd x2 x9)) (wrap64 (x9 + 1)) x199000 x199001 x200000 x200001) else (none)) else (none)) else (standstilllaw06_CounterJoined.j2 k x8 x199000 x199001 x200000 x200001)) else (standstilllaw06_CounterJoined.j2 k x8 x199000 x199001 x200000 x200001)
end
def standstilllaw06_CounterJoined.f (k : Nat) (a0_0 : Int) (l0_1 : List (S35)) (a1_0 : Int) (l1_1 : List (S35)) (l2 : List Int) : Option (Bool) := if (l0_1.length : Int) > 900 then (standstilllaw06_CounterJoined.j0 k l2 true a0_0 l0_1 a1_0 l1_1) else (if (l1_1.length : Int) > 900 then (standstilllaw06_CounterJoined.j0 k l2 true a0_0 l0_1 a1_0 l1_1) else (if (l2.length : Int) > 100 then (standstilllaw06_CounterJoined.j0 k l2 true a0_0 l0_1 a1_0 l1_1) else ((standstillref06_Valid.f k a0_0 l0_1).bind fun t200 => (if t200 = true then ((standstillref06_Valid.f k a1_0 l1_1).bind fun t201 => (standstilllaw06_CounterJoined.j0 k l2 (!t201) a0_0 l0_1 a1_0 l1_1)) else (standstilllaw06_CounterJoined.j0 k l2 true a0_0 l0_1 a1_0 l1_1)))))
theorem standstilllaw06_CounterJoined.mono_l : ∀ k, (∀ y0 y1 y2 y3 y4 y5, LeO (standstilllaw06_CounterJoined.j0 k y0 y1 y2 y3 y4 y5) (standstilllaw06_CounterJoined.j0 (k + 1) y0 y1 y2 y3 y4 y5)) ∧ (∀ y0 y1 y2 y3 y4, LeO (standstilllaw06_CounterJoined.j2 k y0 y1 y2 y3 y4) (standstilllaw06_CounterJoined.j2 (k + 1) y0 y1 y2 y3 y4)) ∧ (∀ y0 y1 y2 y3 y4 y5 y6 y7 y8 y9, LeO (standstilllaw06_CounterJoined.j3 k y0 y1 y2 y3 y4 y5 y6 y7 y8 y9) (standstilllaw06_CounterJoined.j3 (k + 1) y0 y1 y2 y3 y4 y5 y6 y7 y8 y9)) ∧ (∀ y0 y1 y2 y3 y4 y5 y6 y7 y8, LeO (standstilllaw06_CounterJoined.j4 k y0 y1 y2 y3 y4 y5 y6 y7 y8) (standstilllaw06_CounterJoined.j4 (k + 1) y0 y1 y2 y3 y4 y5 y6 y7 y8)) ∧ (∀ y0 y1 y2 y3 y4 y5 y6 y7 y8 y9 y10 y11, LeO (standstilllaw06_CounterJoined.j5 k y0 y1 y2 y3 y4 y5 y6 y7 y8 y9 y10 y11) (standstilllaw06_CounterJoined.j5 (k + 1) y0 y1 y2 y3 y4 y5 y6 y7 y8 y9 y10 y11)) ∧ (∀ y0 y1 y2 y3 y4 y5 y6 y7 y8 y9 y10, LeO (standstilllaw06_CounterJoined.j6 k y0 y1 y2 y3 y4 y5 y6 y7 y8 y9 y10) (standstilllaw06_CounterJoined.j6 (k + 1) y0 y1 y2 y3 y4 y5 y6 y7 y8 y9 y10)) ∧ (∀ y0 y1 y2 y3 y4 y5 y6 y7, LeO (standstilllaw06_CounterJoined.l0 k y0 y1 y2 y3 y4 y5 y6 y7) (standstilllaw06_CounterJoined.l0 (k + 1) y0 y1 y2 y3 y4 y5 y6 y7))
 | 0 => ⟨fun _ _ _ _ _ _ r h => by simp [standstilllaw06_CounterJoined.j0] at h, fun _ _ _ _ _ r h => by simp [standstilllaw06_CounterJoined.j2] at h, fun _ _ _ _ _ _ _ _ _ _ r h => by simp [standstilllaw06_CounterJoined.j3] at h, fun _ _ _ _ _ _ _ _ _ r h => by simp [standstilllaw06_CounterJoined.j4] at h, fun _ _ _ _ _ _ _ _ _ _ _ _ r h => by simp [standstilllaw06_CounterJoined.j5] at h, fun _ _ _ _ _ _ _ _ _ _ _ r h => by simp [standstilllaw06_CounterJoined.j6] at h, fun _ _ _ _ _ _ _ _ r h => by simp [standstilllaw06_CounterJoined.l0] at h⟩
 | k + 1 => by
  obtain ⟨ih0, ih1, ih2, ih3, ih4, ih5, ih6⟩ := standstilllaw06_CounterJoined.mono_l k
  refine ⟨?_, ?_, ?_, ?_, ?_, ?_, ?_⟩
  ·
   intro y0 y1 y2 y3 y4 y5
   unfold standstilllaw06_CounterJoined.j0
   repeat' first
   | (with_reducible exact ih0 _ _ _ _ _ _)
   | (with_reducible exact ih1 _ _ _ _ _)
   | (with_reducible exact ih2 _ _ _ _ _ _ _ _ _ _)
   | (with_reducible exact ih3 _ _ _ _ _ _ _ _ _)
   | (with_reducible exact ih4 _ _ _ _ _ _ _ _ _ _ _ _)
   | (with_reducible exact ih5 _ _ _ _ _ _ _ _ _ _ _)
   | (with_reducible exact ih6 _ _ _ _ _ _ _ _)
   | (with_reducible exact counter_Join.mono _ _ _ _ _)
   | (with_reducible exact counter_Run.mono _ _ _ _ _ _)
   | (with_reducible exact standstilllaw06_awake.mono _)
   | (with_reducible exact standstillref06_Fits.mono _ _ _ _ _)
   | (with_reducible exact standstillref06_SameCount.mono _ _ _ _ _)
   | (with_reducible exact standstillref06_Valid.mono _ _ _)
   | (with_reducible exact LeO.refl _)
   | (with_reducible exact LeO.none _)
   | (with_reducible refine LeO.ite ?_ ?_)
   | (with_reducible refine LeO.bind ?_ (fun _ => ?_))
   | exact ih0 _ _ _ _ _ _
   | exact ih1 _ _ _ _ _
   | exact ih2 _ _ _ _ _ _ _ _ _ _
   | exact ih3 _ _ _ _ _ _ _ _ _
   | exact ih4 _ _ _ _ _ _ _ _ _ _ _ _
   | exact ih5 _ _ _ _ _ _ _ _ _ _ _
   | exact ih6 _ _ _ _ _ _ _ _
   | exact counter_Join.mono _ _ _ _ _
   | exact counter_Run.mono _ _ _ _ _ _
   | exact standstilllaw06_awake.mono _
   | exact standstillref06_Fits.mono _ _ _ _ _
   | exact standstillref06_SameCount.mono _ _ _ _ _
   | exact standstillref06_Valid.mono _ _ _
   | exact LeO.none _
   | refine LeO.ite ?_ ?_
   | refine LeO.bind ?_ (fun _ => ?_)
  ·
   intro y0 y1 y2 y3 y4
   unfold standstilllaw06_CounterJoined.j2
   repeat' first
   | (with_reducible exact ih0 _ _ _ _ _ _)
   | (with_reducible exact ih1 _ _ _ _ _)
   | (with_reducible exact ih2 _ _ _ _ _ _ _ _ _ _)
   | (with_reducible exact ih3 _ _ _ _ _ _ _ _ _)
   | (with_reducible exact ih4 _ _ _ _ _ _ _ _ _ _ _ _)
   | (with_reducible exact ih5 _ _ _ _ _ _ _ _ _ _ _)
   | (with_reducible exact ih6 _ _ _ _ _ _ _ _)
   | (with_reducible exact counter_Join.mono _ _ _ _ _)
   | (with_reducible exact counter_Run.mono _ _ _ _ _ _)
   | (with_reducible exact standstilllaw06_awake.mono _)
   | (with_reducible exact standstillref06_Fits.mono _ _ _ _ _)
   | (with_reducible exact standstillref06_SameCount.mono _ _ _ _ _)
   | (with_reducible exact standstillref06_Valid.mono _ _ _)
   | (with_reducible exact LeO.refl _)
   | (with_reducible exact LeO.none _)
   | (with_reducible refine LeO.ite ?_ ?_)
   | (with_reducible refine LeO.bind ?_ (fun _ => ?_))
   | exact ih0 _ _ _ _ _ _
   | exact ih1 _ _ _ _ _
   | exact ih2 _ _ _ _ _ _ _ _ _ _
   | exact ih3 _ _ _ _ _ _ _ _ _
   | exact ih4 _ _ _ _ _ _ _ _ _ _ _ _
   | exact ih5 _ _ _ _ _ _ _ _ _ _ _
   | exact ih6 _ _ _ _ _ _ _ _
   | exact counter_Join.mono _ _ _ _ _
   | exact counter_Run.mono _ _ _ _ _ _
   | exact standstilllaw06_awake.mono _
   | exact standstillref06_Fits.mono _ _ _ _ _
   | exact standstillref06_SameCount.mono _ _ _ _ _
   | exact standstillref06_Valid.mono _ _ _
   | exact LeO.none _
   | refine LeO.ite ?_ ?_
   | refine LeO.bind ?_ (fun _ => ?_)
  ·
   intro y0 y1 y2 y3 y4 y5 y6 y7 y8 y9
   unfold standstilllaw06_CounterJoined.j3
   repeat' first
   | (with_reducible exact ih0 _ _ _ _ _ _)
   | (with_reducible exact ih1 _ _ _ _ _)
   | (with_reducible exact ih2 _ _ _ _ _ _ _ _ _ _)
   | (with_reducible exact ih3 _ _ _ _ _ _ _ _ _)
   | (with_reducible exact ih4 _ _ _ _ _ _ _ _ _ _ _ _)
   | (with_reducible exact ih5 _ _ _ _ _ _ _ _ _ _ _)
   | (with_reducible exact ih6 _ _ _ _ _ _ _ _)
   | (with_reducible exact counter_Join.mono _ _ _ _ _)
   | (with_reducible exact counter_Run.mono _ _ _ _ _ _)
   | (with_reducible exact standstilllaw06_awake.mono _)
   | (with_reducible exact standstillref06_Fits.mono _ _ _ _ _)
   | (with_reducible exact standstillref06_SameCount.mono _ _ _ _ _)
   | (with_reducible exact standstillref06_Valid.mono _ _ _)
   | (with_reducible exact LeO.refl _)
   | (with_reducible exact LeO.none _)
   | (with_reducible refine LeO.ite ?_ ?_)
   | (with_reducible refine LeO.bind ?_ (fun _ => ?_))
   | exact ih0 _ _ _ _ _ _
   | exact ih1 _ _ _ _ _
   | exact ih2 _ _ _ _ _ _ _ _ _ _
   | exact ih3 _ _ _ _ _ _ _ _ _
   | exact ih4 _ _ _ _ _ _ _ _ _ _ _ _
   | exact ih5 _ _ _ _ _ _ _ _ _ _ _
   | exact ih6 _ _ _ _ _ _ _ _
   | exact counter_Join.mono _ _ _ _ _
   | exact counter_Run.mono _ _ _ _ _ _
   | exact standstilllaw06_awake.mono _
   | exact standstillref06_Fits.mono _ _ _ _ _
   | exact standstillref06_SameCount.mono _ _ _ _ _
   | exact standstillref06_Valid.mono _ _ _
   | exact LeO.none _
   | refine LeO.ite ?_ ?_
   | refine LeO.bind ?_ (fun _ => ?_)
  ·
   intro y0 y1 y2 y3 y4 y5 y6 y7 y8
   unfold standstilllaw06_CounterJoined.j4
   repeat' first
   | (with_reducible exact ih0 _ _ _ _ _ _)
   | (with_reducible exact ih1 _ _ _ _ _)
   | (with_reducible exact ih2 _ _ _ _ _ _ _ _ _ _)
   | (with_reducible exact ih3 _ _ _ _ _ _ _ _ _)
   | (with_reducible exact ih4 _ _ _ _ _ _ _ _ _ _ _ _)
   | (with_reducible exact ih5 _ _ _ _ _ _ _ _ _ _ _)
   | (with_reducible exact ih6 _ _ _ _ _ _ _ _)
   | (with_reducible exact counter_Join.mono _ _ _ _ _)
   | (with_reducible exact counter_Run.mono _ _ _ _ _ _)
   | (with_reducible exact standstilllaw06_awake.mono _)
   | (with_reducible exact standstillref06_Fits.mono _ _ _ _ _)
   | (with_reducible exact standstillref06_SameCount.mono _ _ _ _ _)
   | (with_reducible exact standstillref06_Valid.mono _ _ _)
   | (with_reducible exact LeO.refl _)
   | (with_reducible exact LeO.none _)
   | (with_reducible refine LeO.ite ?_ ?_)
   | (with_reducible refine LeO.bind ?_ (fun _ => ?_))
   | exact ih0 _ _ _ _ _ _
   | exact ih1 _ _ _ _ _
   | exact ih2 _ _ _ _ _ _ _ _ _ _
   | exact ih3 _ _ _ _ _ _ _ _ _
   | exact ih4 _ _ _ _ _ _ _ _ _ _ _ _
   | exact ih5 _ _ _ _ _ _ _ _ _ _ _
   | exact ih6 _ _ _ _ _ _ _ _
   | exact counter_Join.mono _ _ _ _ _
   | exact counter_Run.mono _ _ _ _ _ _
   | exact standstilllaw06_awake.mono _
   | exact standstillref06_Fits.mono _ _ _ _ _
   | exact standstillref06_SameCount.mono _ _ _ _ _
   | exact standstillref06_Valid.mono _ _ _
   | exact LeO.none _
   | refine LeO.ite ?_ ?_
   | refine LeO.bind ?_ (fun _ => ?_)
  ·
   intro y0 y1 y2 y3 y4 y5 y6 y7 y8 y9 y10 y11
   unfold standstilllaw06_CounterJoined.j5
   repeat' first
   | (with_reducible exact ih0 _ _ _ _ _ _)
   | (with_reducible exact ih1 _ _ _ _ _)
   | (with_reducible exact ih2 _ _ _ _ _ _ _ _ _ _)
   | (with_reducible exact ih3 _ _ _ _ _ _ _ _ _)
   | (with_reducible exact ih4 _ _ _ _ _ _ _ _ _ _ _ _)
   | (with_reducible exact ih5 _ _ _ _ _ _ _ _ _ _ _)
   | (with_reducible exact ih6 _ _ _ _ _ _ _ _)
   | (with_reducible exact counter_Join.mono _ _ _ _ _)
   | (with_reducible exact counter_Run.mono _ _ _ _ _ _)
   | (with_reducible exact standstilllaw06_awake.mono _)
   | (with_reducible exact standstillref06_Fits.mono _ _ _ _ _)
   | (with_reducible exact standstillref06_SameCount.mono _ _ _ _ _)
   | (with_reducible exact standstillref06_Valid.mono _ _ _)
   | (with_reducible exact LeO.refl _)
   | (with_reducible exact LeO.none _)
   | (with_reducible refine LeO.ite ?_ ?_)
   | (with_reducible refine LeO.bind ?_ (fun _ => ?_))
   | exact ih0 _ _ _ _ _ _
   | exact ih1 _ _ _ _ _
   | exact ih2 _ _ _ _ _ _ _ _ _ _
   | exact ih3 _ _ _ _ _ _ _ _ _
   | exact ih4 _ _ _ _ _ _ _ _ _ _ _ _
   | exact ih5 _ _ _ _ _ _ _ _ _ _ _
   | exact ih6 _ _ _ _ _ _ _ _
   | exact counter_Join.mono _ _ _ _ _
   | exact counter_Run.mono _ _ _ _ _ _
   | exact standstilllaw06_awake.mono _
   | exact standstillref06_Fits.mono _ _ _ _ _
   | exact standstillref06_SameCount.mono _ _ _ _ _
   | exact standstillref06_Valid.mono _ _ _
   | exact LeO.none _
   | refine LeO.ite ?_ ?_
   | refine LeO.bind ?_ (fun _ => ?_)
  ·
   intro y0 y1 y2 y3 y4 y5 y6 y7 y8 y9 y10
   unfold standstilllaw06_CounterJoined.j6
   repeat' first
   | (with_reducible exact ih0 _ _ _ _ _ _)
   | (with_reducible exact ih1 _ _ _ _ _)
   | (with_reducible exact ih2 _ _ _ _ _ _ _ _ _ _)
   | (with_reducible exact ih3 _ _ _ _ _ _ _ _ _)
   | (with_reducible exact ih4 _ _ _ _ _ _ _ _ _ _ _ _)
   | (with_reducible exact ih5 _ _ _ _ _ _ _ _ _ _ _)
   | (with_reducible exact ih6 _ _ _ _ _ _ _ _)
   | (with_reducible exact counter_Join.mono _ _ _ _ _)
   | (with_reducible exact counter_Run.mono _ _ _ _ _ _)
   | (with_reducible exact standstilllaw06_awake.mono _)
   | (with_reducible exact standstillref06_Fits.mono _ _ _ _ _)
   | (with_reducible exact standstillref06_SameCount.mono _ _ _ _ _)
   | (with_reducible exact standstillref06_Valid.mono _ _ _)
   | (with_reducible exact LeO.refl _)
   | (with_reducible exact LeO.none _)
   | (with_reducible refine LeO.ite ?_ ?_)
   | (with_reducible refine LeO.bind ?_ (fun _ => ?_))
   | exact ih0 _ _ _ _ _ _
   | exact ih1 _ _ _ _ _
   | exact ih2 _ _ _ _ _ _ _ _ _ _
   | exact ih3 _ _ _ _ _ _ _ _ _
   | exact ih4 _ _ _ _ _ _ _ _ _ _ _ _
   | exact ih5 _ _ _ _ _ _ _ _ _ _ _
   | exact ih6 _ _ _ _ _ _ _ _
   | exact counter_Join.mono _ _ _ _ _
   | exact counter_Run.mono _ _ _ _ _ _
   | exact standstilllaw06_awake.mono _
   | exact standstillref06_Fits.mono _ _ _ _ _
   | exact standstillref06_SameCount.mono _ _ _ _ _
   | exact standstillref06_Valid.mono _ _ _
   | exact LeO.none _
   | refine LeO.ite ?_ ?_
   | refine LeO.bind ?_ (fun _ => ?_)
  ·
   intro y0 y1 y2 y3 y4 y5 y6 y7
   unfold standstilllaw06_CounterJoined.l0
   repeat' first
   | (with_reducible exact ih0 _ _ _ _ _ _)
   | (with_reducible exact ih1 _ _ _ _ _)
   | (with_reducible exact ih2 _ _ _ _ _ _ _ _ _ _)
   | (with_reducible exact ih3 _ _ _ _ _ _ _ _ _)
   | (with_reducible exact ih4 _ _ _ _ _ _ _ _ _ _ _ _)
   | (with_reducible exact ih5 _ _ _ _ _ _ _ _ _ _ _)
   | (with_reducible exact ih6 _ _ _ _ _ _ _ _)
   | (with_reducible exact counter_Join.mono _ _ _ _ _)
   | (with_reducible exact counter_Run.mono _ _ _ _ _ _)
   | (with_reducible exact standstilllaw06_awake.mono _)
   | (with_reducible exact standstillref06_Fits.mono _ _ _ _ _)
   | (with_reducible exact standstillref06_SameCount.mono _ _ _ _ _)
   | (with_reducible exact standstillref06_Valid.mono _ _ _)
   | (with_reducible exact LeO.refl _)
   | (with_reducible exact LeO.none _)
   | (with_reducible refine LeO.ite ?_ ?_)
   | (with_reducible refine LeO.bind ?_ (fun _ => ?_))
   | exact ih0 _ _ _ _ _ _
   | exact ih1 _ _ _ _ _
   | exact ih2 _ _ _ _ _ _ _ _ _ _
   | exact ih3 _ _ _ _ _ _ _ _ _
   | exact ih4 _ _ _ _ _ _ _ _ _ _ _ _
   | exact ih5 _ _ _ _ _ _ _ _ _ _ _
   | exact ih6 _ _ _ _ _ _ _ _
   | exact counter_Join.mono _ _ _ _ _
   | exact counter_Run.mono _ _ _ _ _ _
   | exact standstilllaw06_awake.mono _
   | exact standstillref06_Fits.mono _ _ _ _ _
   | exact standstillref06_SameCount.mono _ _ _ _ _
   | exact standstillref06_Valid.mono _ _ _
   | exact LeO.none _
   | refine LeO.ite ?_ ?_
   | refine LeO.bind ?_ (fun _ => ?_)
theorem standstilllaw06_CounterJoined.mono : ∀ a0 a1 a2 a3 a4 k, LeO (standstilllaw06_CounterJoined.f k a0 a1 a2 a3 a4) (standstilllaw06_CounterJoined.f (k + 1) a0 a1 a2 a3 a4) := by
 intro a0 a1 a2 a3 a4 k
 obtain ⟨ih0, ih1, ih2, ih3, ih4, ih5, ih6⟩ := standstilllaw06_CounterJoined.mono_l k
 unfold standstilllaw06_CounterJoined.f
 repeat' first
   | (with_reducible exact ih0 _ _ _ _ _ _)
   | (with_reducible exact ih1 _ _ _ _ _)
   | (with_reducible exact ih2 _ _ _ _ _ _ _ _ _ _)
   | (with_reducible exact ih3 _ _ _ _ _ _ _ _ _)
   | (with_reducible exact ih4 _ _ _ _ _ _ _ _ _ _ _ _)
   | (with_reducible exact ih5 _ _ _ _ _ _ _ _ _ _ _)
   | (with_reducible exact ih6 _ _ _ _ _ _ _ _)
   | (with_reducible exact counter_Join.mono _ _ _ _ _)
   | (with_reducible exact counter_Run.mono _ _ _ _ _ _)
   | (with_reducible exact standstilllaw06_awake.mono _)
   | (with_reducible exact standstillref06_Fits.mono _ _ _ _ _)
   | (with_reducible exact standstillref06_SameCount.mono _ _ _ _ _)
   | (with_reducible exact standstillref06_Valid.mono _ _ _)
   | (with_reducible exact LeO.refl _)
   | (with_reducible exact LeO.none _)
   | (with_reducible refine LeO.ite ?_ ?_)
   | (with_reducible refine LeO.bind ?_ (fun _ => ?_))
   | exact ih0 _ _ _ _ _ _
   | exact ih1 _ _ _ _ _
   | exact ih2 _ _ _ _ _ _ _ _ _ _
   | exact ih3 _ _ _ _ _ _ _ _ _
   | exact ih4 _ _ _ _ _ _ _ _ _ _ _ _
   | exact ih5 _ _ _ _ _ _ _ _ _ _ _
   | exact ih6 _ _ _ _ _ _ _ _
   | exact counter_Join.mono _ _ _ _ _
   | exact counter_Run.mono _ _ _ _ _ _
   | exact standstilllaw06_awake.mono _
   | exact standstillref06_Fits.mono _ _ _ _ _
   | exact standstillref06_SameCount.mono _ _ _ _ _
   | exact standstillref06_Valid.mono _ _ _
   | exact LeO.none _
   | refine LeO.ite ?_ ?_
   | refine LeO.bind ?_ (fun _ => ?_)
def standstilllaw06_CounterJoined.T9 : Bool × List (List Nat × List Nat) := (true, [([], []), ([], []), ([], []), ([2], [2]), ([1, 3], [1, 3]), ([4], [4]), ([0, 5], [0, 5]), ([6], [6]), ([7], [7]), ([7], [7]), ([7], [7]), ([], []), ([11, 8, 6, 0, 1, 2, 3, 4, 5, 6, 7, 8, 11], [8, 11]), ([9, 12, 0, 1, 2, 3, 4, 5, 6, 7, 8, 9, 11, 12], [9]), ([10, 13, 0, 1, 2, 3, 4, 5, 6, 7, 8, 9, 10, 11, 12, 13], [10])])
def standstilllaw06_CounterJoined.B9 : List Nat := [0, 0, 0, 4, 14, 30, 63, 127, 255, 255, 255, 0, 2559, 7167, 16383]
theorem standstilllaw06_CounterJoined.tab9 : rtab .any (opsOf Try.f3 9) = standstilllaw06_CounterJoined.T9 := by kernel_rfl
theorem standstilllaw06_CounterJoined.bits9 : waitsOk standstilllaw06_CounterJoined.T9.2 standstilllaw06_CounterJoined.B9 = true := by kernel_rfl
def standstilllaw06_CounterJoined.T14 : Bool × List (List Nat × List Nat) := (true, [([], []), ([], []), ([1], [1]), ([0, 2], [0, 2]), ([], []), ([], []), ([5], [5]), ([4, 6], [4, 6]), ([3, 7, 3], [3, 7]), ([8, 8, 0, 1, 2, 3, 4, 5, 6, 7, 8], [8])])
def standstilllaw06_CounterJoined.B14 : List Nat := [0, 0, 2, 7, 0, 0, 32, 112, 255, 511]
theorem standstilllaw06_CounterJoined.tab14 : rtab .any (opsOf Try.f3 14) = standstilllaw06_CounterJoined.T14 := by kernel_rfl
theorem standstilllaw06_CounterJoined.bits14 : waitsOk standstilllaw06_CounterJoined.T14.2 standstilllaw06_CounterJoined.B14 = true := by kernel_rfl
def standstilllaw06_CounterJoined.T15 : Bool × List (List Nat × List Nat) := (true, [([], []), ([], []), ([], []), ([2], [2]), ([1, 3], [1, 3]), ([4], [4]), ([0, 5], [0, 5]), ([6], [6]), ([7], [7]), ([7], [7]), ([7], [7]), ([], []), ([11, 8, 6, 0, 1, 2, 3, 4, 5, 6, 7, 8, 11], [8, 11]), ([9, 12, 0, 1, 2, 3, 4, 5, 6, 7, 8, 9, 11, 12], [9]), ([10, 13, 0, 1, 2, 3, 4, 5, 6, 7, 8, 9, 10, 11, 12, 13], [10])])
def standstilllaw06_CounterJoined.B15 : List Nat := [0, 0, 0, 4, 14, 30, 63, 127, 255, 255, 255, 0, 2559, 7167, 16383]
theorem standstilllaw06_CounterJoined.tab15 : rtab .any (opsOf Try.f3 15) = standstilllaw06_CounterJoined.T15 := by kernel_rfl
theorem standstilllaw06_CounterJoined.bits15 : waitsOk standstilllaw06_CounterJoined.T15.2 standstilllaw06_CounterJoined.B15 = true := by kernel_rfl
def standstilllaw06_CounterJoined.T22 : Bool × List (List Nat × List Nat) := (true, [([], []), ([], []), ([1], [1]), ([0, 2], [0, 2]), ([], []), ([], []), ([5], [5]), ([4, 6], [4, 6]), ([3, 7, 3], [3, 7]), ([8, 8, 0, 1, 2, 3, 4, 5, 6, 7, 8], [8])])
def standstilllaw06_CounterJoined.B22 : List Nat := [0, 0, 2, 7, 0, 0, 32, 112, 255, 511]
theorem standstilllaw06_CounterJoined.tab22 : rtab .any (opsOf Try.f3 22) = standstilllaw06_CounterJoined.T22 := by kernel_rfl
theorem standstilllaw06_CounterJoined.bits22 : waitsOk standstilllaw06_CounterJoined.T22.2 standstilllaw06_CounterJoined.B22 = true := by kernel_rfl
set_option maxHeartbeats 8000000 in
set_option maxRecDepth 100000 in
theorem standstilllaw06_CounterJoined.calls (k : Nat) (a0_0 : Int) (A0_1 : Option Addr) (c0_1 : Nat) (l0_1 : List (S35)) (a1_0 : Int) (A1_1 : Option Addr) (c1_1 : Nat) (l1_1 : List (S35)) (A2 : Option Addr) (c2 : Nat) (l2 : List Int) (r : Bool) (w : World) (hr0_1 : Kd.C k35 w A0_1 l0_1.length l0_1) (hc0_1 : l0_1.length ≤ c0_1) (hr1_1 : Kd.C k35 w A1_1 l1_1.length l1_1) (hc1_1 : l1_1.length ≤ c1_1) (hr2 : Kd.C (Kd.int .i64) w A2 l2.length l2) (hc2 : l2.length ≤ c2) (h : standstilllaw06_CounterJoined.f k a0_0 l0_1 a1_0 l1_1 l2 = some r) :
  Calls Try.prog 3 #[.agg #[.int .i64 a0_0, .slice A0_1 l0_1.length c0_1], .agg #[.int .i64 a1_0, .slice A1_1 l1_1.length c1_1], .slice A2 l2.length c2] w fun e w' => e = .returned (.bool r) ∧ Below w.heap.size w w' := by
 have hu24 := Try.underlying24
 have hu29 := Try.underlying29
 have HR0_1 := Aside0.mk hr0_1
 have HC0_1 := Aside0.mk hc0_1
 clear hr0_1 hc0_1
 have HR1_1 := Aside0.mk hr1_1
 have HC1_1 := Aside0.mk hc1_1
 clear hr1_1 hc1_1
 have HR2 := Aside0.mk hr2
 have HC2 := Aside0.mk hc2
 clear hr2 hc2
 have HB := Aside0.mk (Below.refl w.heap.size w)
 have H : (if (l0_1.length : Int) > 900 then (standstilllaw06_CounterJoined.j0 k l2 true a0_0 l0_1 a1_0 l1_1) else (if (l1_1.length : Int) > 900 then (standstilllaw06_CounterJoined.j0 k l2 true a0_0 l0_1 a1_0 l1_1) else (if (l2.length : Int) > 100 then (standstilllaw06_CounterJoined.j0 k l2 true a0_0 l0_1 a1_0 l1_1) else ((standstillref06_Valid.f k a0_0 l0_1).bind fun t200 => (if t200 = true then ((standstillref06_Valid.f k a1_0 l1_1).bind fun t201 => (standstilllaw06_CounterJoined.j0 k l2 (!t201) a0_0 l0_1 a1_0 l1_1)) else (standstilllaw06_CounterJoined.j0 k l2 true a0_0 l0_1 a1_0 l1_1)))))) = some r := h
 clear h
 have HC4 := Aside0.mk H
 clear H
 go_enter Try.func3, Try.ntmps3
 go_upto_region 1 with (first | ((with_reducible refine gate_dst (N := 3) rfl ?_); (try (refine gate_guard (by rfl) ?_; dsimp only)); refine box_event ?hg (N := 3) ?hd (cs := #[.int .i64 a0_0, .slice A0_1 l0_1.length c0_1]) (t := 24) ?hr ?_; (case hd => rfl); (case hg => rfl); (case hr => first | (go_simp; done) | (go_simp; rfl)); intro gb198 hg w5 hbox hb; have BK198 := Aside0.mk (hbox); have GW198 := Aside0.mk ((by rw [hg]; exact (below_size (zB HB)) : w.heap.size ≤ gb198)); have GE198 := Aside0.mk ((by rw [hg]; exact (below_size (zB HB)) : w.heap.size ≤ gb198)); replace HB := Aside0.mk (below_step (zB HB) hb); clear hb hbox hg) | ((with_reducible refine gate_dst (N := 4) rfl ?_); (try (refine gate_guard (by rfl) ?_; dsimp only)); refine box_event ?hg (N := 4) ?hd (cs := #[.int .i64 a1_0, .slice A1_1 l1_1.length c1_1]) (t := 24) ?hr ?_; (case hd => rfl); (case hg => rfl); (case hr => first | (go_simp; done) | (go_simp; rfl)); intro gb199 hg w6 hbox hb; have BK199 := Aside0.mk (hbox); have GW199 := Aside0.mk ((by rw [hg]; exact (below_size (zB HB)) : w.heap.size ≤ gb199)); have GE199 := Aside0.mk ((by rw [hg]; exact (below_size (zB HB)) : w.heap.size ≤ gb199)); have NB198_199 := Aside0.mk ((by rw [hg]; exact Nat.ne_of_lt (zL BK198) : gb198 ≠ gb199)); have NB199_198 := Aside0.mk ((by rw [hg]; exact Nat.ne_of_gt (zL BK198) : gb199 ≠ gb198)); replace BK198 := Aside0.mk (zb BK198 hb); replace HB := Aside0.mk (below_step (zB HB) hb); clear hb hbox hg))
 (try simp only [Act.put, zs, zs0, zs1])
 go_cut [47] (fun v47 wc => ∃ (kq : Nat) (x47_3 : Bool), v47 = .bool x47_3 ∧ Aside0 (standstilllaw06_CounterJoined.j0 kq l2 x47_3 a0_0 l0_1 a1_0 l1_1 = some r) ∧ Aside0 (kq ≤ k) ∧ Aside0 (wc.heap[gb198]? = some (.cells #[.int .i64 a0_0, (.slice A0_1 l0_1.length c0_1)] 24 (0, 0))) ∧ Aside0 (wc.heap[gb199]? = some (.cells #[.int .i64 a1_0, (.slice A1_1 l1_1.length c1_1)] 24 (0, 0))) ∧ Aside0 (Below w.heap.size w wc))
 case first =>
  have H := HC4.out
  clear HC4
  by_cases c7 : (l0_1.length : Int) > 900
  ·
   rw [if_pos c7] at H
   have c7b0 : decide (900 < (l0_1.length : Int)) = true := decide_eq_true c7
   have c7b1 : decide (900 < l0_1.length) = true := decide_eq_true (by omega)
   clear c7
   (first | rw [c7b0] | (simp only [i64_w, i32_w]; rw [c7b0]) | skip)
   (try rw [c7b1])
   have H' := Aside0.mk H
   clear H
   have hnb8 := NB198_199.out
   have hnc8 := NB199_198.out
   have hz9 := zc2 BK198
   go_wp2
   go_meet
   case rel => exact ⟨_, (true), (by first | rfl | (simp; done) | (simp [*]; done)), H', ⟨by first | omega | exact Nat.le_refl _⟩, ⟨zk BK198⟩, ⟨zk BK199⟩, ⟨zB HB⟩⟩
  ·
   rw [if_neg c7] at H
   have c7b0 : decide (900 < (l0_1.length : Int)) = false := decide_eq_false c7
   have c7b1 : decide (900 < l0_1.length) = false := decide_eq_false (by omega)
   clear c7
   (first | rw [c7b0] | (simp only [i64_w, i32_w]; rw [c7b0]) | skip)
   (try rw [c7b1])
   by_cases c10 : (l1_1.length : Int) > 900
   ·
    rw [if_pos c10] at H
    have c10b0 : decide (900 < (l1_1.length : Int)) = true := decide_eq_true c10
    have c10b1 : decide (900 < l1_1.length) = true := decide_eq_true (by omega)
    clear c10
    have H' := Aside0.mk H
    clear H
    have hnb11 := NB198_199.out
    have hnc11 := NB199_198.out
    have hz12 := zc2 BK198
    have hz13 := zc2 BK199
    go_wp2
    go_meet
    case rel => exact ⟨_, (true), (by first | rfl | (simp; done) | (simp [*]; done)), H', ⟨by first | omega | exact Nat.le_refl _⟩, ⟨zk BK198⟩, ⟨zk BK199⟩, ⟨zB HB⟩⟩
   ·
    rw [if_neg c10] at H
    have c10b0 : decide (900 < (l1_1.length : Int)) = false := decide_eq_false c10
    have c10b1 : decide (900 < l1_1.length) = false := decide_eq_false (by omega)
    clear c10
    by_cases c14 : (l2.length : Int) > 100
    ·
     rw [if_pos c14] at H
     have c14b0 : decide (100 < (l2.length : Int)) = true := decide_eq_true c14
     have c14b1 : decide (100 < l2.length) = true := decide_eq_true (by omega)
     clear c14
     have H' := Aside0.mk H
     clear H
     have hnb15 := NB198_199.out
     have hnc15 := NB199_198.out
     have hz16 := zc2 BK198
     have hz17 := zc2 BK199
     go_wp2
     go_meet
     case rel => exact ⟨_, (true), (by first | rfl | (simp; done) | (simp [*]; done)), H', ⟨by first | omega | exact Nat.le_refl _⟩, ⟨zk BK198⟩, ⟨zk BK199⟩, ⟨zB HB⟩⟩
    ·
     rw [if_neg c14] at H
     have c14b0 : decide (100 < (l2.length : Int)) = false := decide_eq_false c14
     have c14b1 : decide (100 < l2.length) = false := decide_eq_false (by omega)
     clear c14
     replace H := Option.bind_eq_some_iff.mp H
     obtain ⟨t200, A180, H⟩ := H
     replace H : (if t200 = true then ((standstillref06_Valid.f k a1_0 l1_1).bind fun t201 => (standstilllaw06_CounterJoined.j0 k l2 (!t201) a0_0 l0_1 a1_0 l1_1)) else (standstilllaw06_CounterJoined.j0 k l2 true a0_0 l0_1 a1_0 l1_1)) = some r := H
     have A18 := Aside0.mk A180
     clear A180
     by_cases c19 : t200 = true
     ·
      subst c19
      have H1 : ((standstillref06_Valid.f k a1_0 l1_1).bind fun t201 => (standstilllaw06_CounterJoined.j0 k l2 (!t201) a0_0 l0_1 a1_0 l1_1)) = some r := by rw [if_pos rfl] at H; exact H
      clear H
      have H := H1
      clear H1
      replace H := Option.bind_eq_some_iff.mp H
      obtain ⟨t201, A200, H⟩ := H
      replace H : (standstilllaw06_CounterJoined.j0 k l2 (!t201) a0_0 l0_1 a1_0 l1_1) = some r := H
      have A20 := Aside0.mk A200
      clear A200
      have H' := Aside0.mk H
      clear H
      have hnb21 := NB198_199.out
      have hnc21 := NB199_198.out
      have hz22 := zc2 BK198
      have hz23 := zc2 BK199
      go_wp2_with (first | (go_at_call 6; (with_reducible refine (standstillref06_Valid.calls k a0_0 _ _ l0_1 true _ ?side1 ?side2 A18.out).mono ?_); (case side1 => exact zC ((Kd.C_below HR0_1.out HB.out))); (case side2 => exact HC0_1.out); rintro e w24 ⟨rfl, hb⟩; replace BK198 := Aside0.mk (zb BK198 hb); replace BK199 := Aside0.mk (zb BK199 hb); replace HB := Aside0.mk (below_step (zB HB) hb); (try clear hb); (try clear hb2); (try clear hk); (try clear hi); have hz25 := zc2 BK199) | (go_at_call 6; (with_reducible refine (standstillref06_Valid.calls k a1_0 _ _ l1_1 t201 _ ?side1 ?side2 A20.out).mono ?_); (case side1 => exact zC ((Kd.C_below HR1_1.out HB.out))); (case side2 => exact HC1_1.out); rintro e w26 ⟨rfl, hb⟩; replace BK198 := Aside0.mk (zb BK198 hb); replace BK199 := Aside0.mk (zb BK199 hb); replace HB := Aside0.mk (below_step (zB HB) hb); (try clear hb); (try clear hb2); (try clear hk); (try clear hi)))
      go_meet
      case rel => exact ⟨_, (!t201), (by first | rfl | (simp; done) | (simp [*]; done)), H', ⟨by first | omega | exact Nat.le_refl _⟩, ⟨zk BK198⟩, ⟨zk BK199⟩, ⟨zB HB⟩⟩
     ·
      replace c19 := Bool.eq_false_iff.mpr c19
      subst c19
      have H1 : (standstilllaw06_CounterJoined.j0 k l2 true a0_0 l0_1 a1_0 l1_1) = some r := by rw [if_neg (show ¬ (false = true) by decide)] at H; exact H
      clear H
      have H := H1
      clear H1
      have H' := Aside0.mk H
      clear H
      have hnb27 := NB198_199.out
      have hnc27 := NB199_198.out
      have hz28 := zc2 BK198
      have hz29 := zc2 BK199
      go_wp2_with (first | (go_at_call 6; (with_reducible refine (standstillref06_Valid.calls k a0_0 _ _ l0_1 false _ ?side1 ?side2 A18.out).mono ?_); (case side1 => exact zC ((Kd.C_below HR0_1.out HB.out))); (case side2 => exact HC0_1.out); rintro e w30 ⟨rfl, hb⟩; replace BK198 := Aside0.mk (zb BK198 hb); replace BK199 := Aside0.mk (zb BK199 hb); replace HB := Aside0.mk (below_step (zB HB) hb); (try clear hb); (try clear hb2); (try clear hk); (try clear hi)))
      go_meet
      case rel => exact ⟨_, (true), (by first | rfl | (simp; done) | (simp [*]; done)), H', ⟨by first | omega | exact Nat.le_refl _⟩, ⟨zk BK198⟩, ⟨zk BK199⟩, ⟨zB HB⟩⟩
 case rest =>
  as_aux_lemma =>
  clear HC4
  try clear c1
  try clear c2
  try clear p2
  try clear c3
  try clear c7
  try clear c7b0
  try clear c7b1
  try clear c8
  try clear c10
  try clear c10b0
  try clear c10b1
  try clear c11
  try clear c14
  try clear c14b0
  try clear c14b1
  try clear c15
  try clear c19
  try clear c21
  try clear c27
  try clear hz12
  try clear hz13
  try clear hz16
  try clear hz17
  try clear hz22
  try clear hz23
  try clear hz25
  try clear hz28
  try clear hz29
  try clear hz9
  obtain ⟨kq, x47_3, rfl, HA, HJ3, BK198, BK199, HB⟩ := hcut
  cases kq with
  | zero => exact absurd HA.out (by simp [standstilllaw06_CounterJoined.j0])
  | succ kj3 =>
   have H := HA.out
   clear HA
   simp only [standstilllaw06_CounterJoined.j0] at H
   by_cases c31 : x47_3 = true
   ·
    subst c31
    have H1 : ((standstilllaw06_awake.f kj3).bind fun t202 => (some t202)) = some r := by rw [if_pos rfl] at H; exact H
    clear H
    have H := H1
    clear H1
    replace H := Option.bind_eq_some_iff.mp H
    obtain ⟨t202, A320, H⟩ := H
    replace H : (some t202) = some r := H
    have A32 := Aside0.mk A320
    clear A320
    obtain rfl := Option.some.inj H
    go_wp2_with (first | ((with_reducible refine gate_callee (f := 7) rfl ?_); refine goesL_ (some 48) rfl rfl Try.func7 (by kernel_rfl) rfl #[] rfl (zm) ?_; (with_reducible refine (standstilllaw06_awake.calls kj3  t202 _ A32.out).mono ?_); rintro e w33 ⟨rfl, hb⟩; refine ⟨_, rfl, ?_⟩; replace BK198 := Aside0.mk (zb BK198 hb); replace BK199 := Aside0.mk (zb BK199 hb); replace HB := Aside0.mk (below_step (zB HB) hb); (try clear hb); (try clear hb2); (try clear hk); (try clear hi)))
    go_ret
    exact ⟨by first | rfl | (simp [errW_none, errW_some] <;> rfl) | (simp [*, errW_none, errW_some] <;> rfl), zB HB⟩
   ·
    replace c31 := Bool.eq_false_iff.mpr c31
    subst c31
    have H1 : (if 0 ≤ (mx a0_0 a1_0) then (if (mx a0_0 a1_0 : Int).toNat ≤ 35184372088832 then (standstilllaw06_CounterJoined.l0 kj3 l2 (mx a0_0 a1_0) (List.replicate (mx a0_0 a1_0 : Int).toNat 0) 0 a0_0 l0_1 a1_0 l1_1) else (none)) else (none)) = some r := by rw [if_neg (show ¬ (false = true) by decide)] at H; exact H
    clear H
    have H := H1
    clear H1
    obtain ⟨ji34, hji34⟩ : ∃ j_ : Int, (mx a0_0 a1_0) = j_ := ⟨_, rfl⟩
    replace H : (if 0 ≤ (ji34) then (if (ji34 : Int).toNat ≤ 35184372088832 then (standstilllaw06_CounterJoined.l0 kj3 l2 ji34 (List.replicate (ji34 : Int).toNat 0) 0 a0_0 l0_1 a1_0 l1_1) else (none)) else (none)) = some r := by first | (rw [hji34] at H; exact H) | (simp only [hji34] at H ⊢; exact H)
    have hji34_ : (if a0_0 < a1_0 then a1_0 else a0_0) = ji34 := hji34
    by_cases c35 : 0 ≤ (ji34)
    ·
     rw [if_pos c35] at H
     have c35b0 := eq_true c35
     have c35b1 : decide (0 ≤ (ji34)) = true := decide_eq_true c35
     clear c35
     by_cases c36 : (ji34 : Int).toNat ≤ 35184372088832
     ·
      rw [if_pos c36] at H
      have c36b0 := eq_true c36
      have c36b1 : decide ((ji34 : Int).toNat ≤ 35184372088832) = true := decide_eq_true c36
      clear c36
      obtain ⟨y203, hy203⟩ : ∃ y_ : List Int, y_ = (List.replicate (ji34 : Int).toNat 0) := ⟨_, rfl⟩
      replace H : (standstilllaw06_CounterJoined.l0 kj3 l2 ji34 y203 0 a0_0 l0_1 a1_0 l1_1) = some r := by first | (rw [hy203]; with_reducible exact H) | (have H2_ := (Option.bind_some _ _).symm.trans H; rw [hy203]; with_reducible exact H2_) | (have H2_ := (Option.bind_some _ _).symm.trans H; with_reducible exact H2_) | with_reducible exact H | (rw [hy203]; exact H) | exact H
      have Ny203 := Aside0.mk hy203
      clear hy203
      have HC37 := Aside0.mk H
      clear H
      have hnb38 := NB198_199.out
      have hnc38 := NB199_198.out
      have hz39 := zc2 BK198
      have hz40 := zc2 BK199
      go_upto_block 0 with (first | ((with_reducible refine gate_dst (N := 55) rfl ?_); (try (refine gate_guard (by rfl) ?_; dsimp only)); refine Kd.R_make (Kd.int .i64) _ 3 rfl (N := 55) rfl 25 _ _ rfl ji34 rfl rfl Try.underlying25 (.int .i64 0) 8 info3 rfl (by decide) (by omega) 0 (ok := fun _ => True) (okp := fun _ => True) rfl (fun _ hk => hk) trivial (of_decide_eq_true (by first | (with_reducible assumption) | assumption)) (Nat.le_trans (Nat.mul_le_mul_right _ (of_decide_eq_true (by first | (with_reducible assumption) | assumption) : ji34.toNat ≤ 35184372088832)) (by omega)) (Below.refl _ _) (Nat.le_refl _) ?_; intro v204 w41 ho42 hb hg_ hnew_; clear hg_ hnew_; (first | rw [← Ny203.out] at ho42 | (simp only [Int.reduceToNat] at ho42; rw [← Ny203.out] at ho42)); have HO205 := Aside0.mk (Kd.R_lower ho42 (below_size (zB HB))); replace BK198 := Aside0.mk (zb BK198 hb); replace BK199 := Aside0.mk (zb BK199 hb); replace HB := Aside0.mk (below_step (zB HB) hb); clear hb ho42))
      (try simp only [Act.put, zs, zs0, zs1])
      go_cut [] (fun wc => ∃ (kq : Nat) (x8_36 : List Int), Aside0 (standstilllaw06_CounterJoined.j2 kq x8_36 a0_0 l0_1 a1_0 l1_1 = some r) ∧ Aside0 (kq ≤ kj3) ∧ Aside0 (Kd.R (Kd.int .i64) 3 wc w.heap.size (fun _ => True) v204 x8_36) ∧ Aside0 (wc.heap[gb198]? = some (.cells #[.int .i64 a0_0, (.slice A0_1 l0_1.length c0_1)] 24 (0, 0))) ∧ Aside0 (wc.heap[gb199]? = some (.cells #[.int .i64 a1_0, (.slice A1_1 l1_1.length c1_1)] 24 (0, 0))) ∧ Aside0 (Below w.heap.size w wc))
      case first =>
       have H := HC37.out
       clear HC37
       have H' := Aside0.mk H
       clear H
       go_wp2
       go_loopg [9] kj3 (fun kq v9 w' => ∃ (x8_2 : List Int) (x9_2 : Int), v9 = .int .i64 x9_2 ∧ Aside0 (standstilllaw06_CounterJoined.l0 kq l2 ji34 x8_2 x9_2 a0_0 l0_1 a1_0 l1_1 = some r) ∧ Aside0 (kq ≤ kj3) ∧ Aside0 (Kd.R (Kd.int .i64) 3 w' w.heap.size (fun _ => True) v204 x8_2) ∧ Aside0 (w'.heap[gb198]? = some (.cells #[.int .i64 a0_0, (.slice A0_1 l0_1.length c0_1)] 24 (0, 0))) ∧ Aside0 (w'.heap[gb199]? = some (.cells #[.int .i64 a1_0, (.slice A1_1 l1_1.length c1_1)] 24 (0, 0))) ∧ Aside0 (Below w.heap.size w w'))
       case atStart => exact ⟨(y203), (0), (by first | rfl | (simp; done) | (simp [*]; done)), H', ⟨Nat.le_refl _⟩, ⟨zR HO205⟩, ⟨zk BK198⟩, ⟨zk BK199⟩, ⟨zB HB⟩⟩
       case round =>
        clear H'
        try clear c1
        try clear c2
        try clear p2
        try clear c3
        try clear c7
        try clear c7b0
        try clear c7b1
        try clear c8
        try clear c10
        try clear c10b0
        try clear c10b1
        try clear c11
        try clear c14
        try clear c14b0
        try clear c14b1
        try clear c15
        try clear c19
        try clear c21
        try clear c27
        try clear c31
        try clear c35
        try clear c35b0
        try clear c35b1
        try clear c36
        try clear c36b0
        try clear c36b1
        try clear c38
        try clear hz12
        try clear hz13
        try clear hz16
        try clear hz17
        try clear hz22
        try clear hz23
        try clear hz25
        try clear hz28
        try clear hz29
        try clear hz39
        try clear hz40
        try clear hz9
        try clear p2
        obtain ⟨x8_2, x9_2, rfl, HA, HK2, HO_8, BK198, BK199, HB⟩ := hrel
        cases gk with
        | zero => exact absurd HA.out (by simp [standstilllaw06_CounterJoined.l0])
        | succ k2 =>
         have H := HA.out
         clear HA
         simp only [standstilllaw06_CounterJoined.l0] at H
         by_cases c43 : x9_2 < ji34
         ·
          rw [if_pos c43] at H
          have c43b0 : decide (x9_2 < ji34) = true := decide_eq_true c43
          clear c43
          (first | rw [c43b0] | (simp only [i64_w, i32_w]; rw [c43b0]) | skip)
          (try rw [c43b1])
          by_cases c44 : x9_2 < (l2.length : Int)
          ·
           rw [if_pos c44] at H
           have c44b0 : decide (x9_2 < (l2.length : Int)) = true := decide_eq_true c44
           clear c44
           by_cases c45 : 0 ≤ x9_2
           ·
            rw [if_pos c45] at H
            have c45b0 : decide (0 ≤ x9_2) = true := decide_eq_true c45
            clear c45
            by_cases c46 : x9_2 < (x8_2.length : Int)
            ·
             rw [if_pos c46] at H
             have c46b0 : decide (x9_2 < (x8_2.length : Int)) = true := decide_eq_true c46
             clear c46
             obtain ⟨y207, hy207⟩ : ∃ y_ : List Int, y_ = (x8_2.set (x9_2 : Int).toNat (rd l2 x9_2)) := ⟨_, rfl⟩
             replace H : (standstilllaw06_CounterJoined.l0 k2 l2 ji34 y207 (wrap64 (x9_2 + 1)) a0_0 l0_1 a1_0 l1_1) = some r := by first | (rw [hy207]; with_reducible exact H) | (have H2_ := (Option.bind_some _ _).symm.trans H; rw [hy207]; with_reducible exact H2_) | (have H2_ := (Option.bind_some _ _).symm.trans H; with_reducible exact H2_) | with_reducible exact H | (rw [hy207]; exact H) | exact H
             have Ny207 := Aside0.mk hy207
             clear hy207
             have H' := Aside0.mk H
             clear H
             have p206 : 0 ≤ (x9_2 : Int) := of_decide_eq_true (by first | (with_reducible assumption) | assumption)
             have q206 : x9_2 < (l2.length : Int) := of_decide_eq_true (by first | (with_reducible assumption) | assumption)
             obtain ⟨ad206, e206, hx206_0⟩ := Kd.at_int HR2.out x9_2 p206 q206
             cases e206
             replace hx206_0 := (HB.out.cell (World.block_lt_of_cell? w _ hx206_0)).trans hx206_0
             replace p206 := eq_true p206
             replace q206 := eq_true q206
             have p47 : 0 ≤ (x9_2 : Int) := of_decide_eq_true (by first | (with_reducible assumption) | assumption)
             have q47 : (x9_2 : Int) < ((x8_2.length : Int) : Int) := of_decide_eq_true (by first | (with_reducible assumption) | assumption)
             obtain ⟨go47, co47, eo47, gb47, gl47, cl47, HG47⟩ := Kd.R_form HO_8.out (by omega)
             (first | cases eo47 | (injection eo47 with ea_ en_ ec_; (first | subst ea_ | (injection ea_ with ea_; subst ea_)); subst ec_; clear en_))
             have GB47 := Aside0.mk gb47
             have GG47 := Aside0.mk HG47
             clear gb47 gl47 HG47
             obtain ⟨hx47_0, hf47_0⟩ := Kd.R_celln 0 HO_8.out (x9_2 : Int) p47 q47
             replace p47 := eq_true p47
             replace q47 := eq_true q47
             have HP48 := Kd.R_putg HO_8.out (x9_2 : Int) (rd l2 x9_2)
             go_wp2_with (first | ((with_reducible refine gate_store (t := 3) (p := 73) rfl ?_); refine store_event (t := 3) (p := 73) (v := ?vo_w49) (w1 := (wr.setCell ⟨go47, (x9_2 : Int).toNat, none⟩ (.int .i64 (rd l2 x9_2)))) ?hg ?ho ?hn ?hr ?_; (case ho => rfl); (case hg => rfl); (case hn => rfl); (case hr => first | (go_simp; done) | (go_simp; rfl)); intro w49 hw; have hg : wr.grownBy w49 (some go47) := (by rw [hw]; exact HP48.2); have hp_ : Kd.R (Kd.int .i64) 3 w49 w.heap.size (fun _ => True) (.slice (some ⟨go47, 0, none⟩) x8_2.length co47) y207 := (by rw [hw, Ny207.out]; exact HP48.1); clear HP48; replace BK198 := Aside0.mk (blk_grown (g := gb198) (o := .cells #[.int .i64 a0_0, .slice A0_1 l0_1.length c0_1] 24 (0, 0)) (zk BK198) hg (Kd.R_ne HO_8.out BK198.out (by decide))); replace BK199 := Aside0.mk (blk_grown (g := gb199) (o := .cells #[.int .i64 a1_0, .slice A1_1 l1_1.length c1_1] 24 (0, 0)) (zk BK199) hg (Kd.R_ne HO_8.out BK199.out (by decide))); replace HO_8 := Aside0.mk (hp_); replace HB := Aside0.mk ((by rw [hw]; exact below_set (HB.out) GB47.out : Below w.heap.size w w49)); clear hg hw hp_))
             go_roundg k2
             case measure => have := HJ3.out; have := HK2.out; omega
             case rel => exact ⟨(y207), (wrap64 (x9_2 + 1)), (by first | rfl | (simp; done) | (simp [*]; done)), H', ⟨by have := HJ3.out; have := HK2.out; omega⟩, ⟨zR HO_8⟩, ⟨zk BK198⟩, ⟨zk BK199⟩, ⟨zB HB⟩⟩
            ·
             rw [if_neg c46] at H
             exact absurd H (by simp)
           ·
            rw [if_neg c45] at H
            exact absurd H (by simp)
          ·
           rw [if_neg c44] at H
           have c44b0 : decide (x9_2 < (l2.length : Int)) = false := decide_eq_false c44
           clear c44
           have H' := Aside0.mk H
           clear H
           go_wp2
           go_meet
           case rel => exact ⟨_, (x8_2), H', ⟨by have := HJ3.out; have := HK2.out; first | omega | exact Nat.le_refl _⟩, ⟨zR HO_8⟩, ⟨zk BK198⟩, ⟨zk BK199⟩, ⟨zB HB⟩⟩
         ·
          rw [if_neg c43] at H
          have c43b0 : decide (x9_2 < ji34) = false := decide_eq_false c43
          clear c43
          (first | rw [c43b0] | (simp only [i64_w, i32_w]; rw [c43b0]) | skip)
          (try rw [c43b1])
          have H' := Aside0.mk H
          clear H
          go_wp2
          go_meet
          case rel => exact ⟨_, (x8_2), H', ⟨by have := HJ3.out; have := HK2.out; first | omega | exact Nat.le_refl _⟩, ⟨zR HO_8⟩, ⟨zk BK198⟩, ⟨zk BK199⟩, ⟨zB HB⟩⟩
      case rest =>
       as_aux_lemma =>
       clear HC37
       try clear c1
       try clear c2
       try clear p2
       try clear q2
       try clear hx2
       try clear c3
       try clear c4
       try clear p4
       try clear q4
       try clear hx4
       try clear hf4
       try clear p6
       try clear c7
       try clear c7b0
       try clear c7b1
       try clear c8
       try clear c10
       try clear c10b0
       try clear c10b1
       try clear c11
       try clear c14
       try clear c14b0
       try clear c14b1
       try clear c15
       try clear c19
       try clear p20
       try clear q20
       try clear hx20
       try clear c21
       try clear c27
       try clear c31
       try clear c35
       try clear c35b0
       try clear c35b1
       try clear c36
       try clear c36b0
       try clear c36b1
       try clear c38
       try clear c43
       try clear c43b0
       try clear c43b1
       try clear c44
       try clear c44b0
       try clear c45
       try clear c45b0
       try clear c46
       try clear c46b0
       try clear p47
       try clear q47
       try clear hx47
       try clear hf47
       try clear hz12
       try clear hz13
       try clear hz16
       try clear hz17
       try clear hz22
       try clear hz23
       try clear hz25
       try clear hz28
       try clear hz29
       try clear hz39
       try clear hz40
       try clear hz9
       try clear hx206_0
       try clear hx47_0
       try clear p2
       try clear p206
       try clear p47
       try clear q206
       try clear q47
       obtain ⟨kq, x8_36, HA, HJ36, HO_8, BK198, BK199, HB⟩ := hcut
       cases kq with
       | zero => exact absurd HA.out (by simp [standstilllaw06_CounterJoined.j2])
       | succ kj36 =>
        have H := HA.out
        clear HA
        simp only [standstilllaw06_CounterJoined.j2] at H
        by_cases c50 : 0 ≤ a0_0
        ·
         rw [if_pos c50] at H
         have c50b0 := eq_true c50
         have c50b1 : decide (0 ≤ a0_0) = true := decide_eq_true c50
         clear c50
         by_cases c51 : a0_0 ≤ (x8_36.length : Int)
         ·
          rw [if_pos c51] at H
          have c51b0 := eq_true c51
          have c51b1 : decide (a0_0 ≤ (x8_36.length : Int)) = true := decide_eq_true c51
          clear c51
          obtain ⟨y208, hy208⟩ : ∃ y_ : List Int, y_ = (x8_36.take (a0_0 : Int).toNat) := ⟨_, rfl⟩
          replace H : ((counter_Run.f kj36 a0_0 l0_1 0 y208 3000).bind fun bt212 => (if bt212.2.2.2 = 0 then ((standstillref06_Fits.f kj36 a0_0 l0_1 bt212.1 bt212.2.1).bind fun t219 => (standstilllaw06_CounterJoined.j3 kj36 x8_36 bt212.2.2.1 bt212.2.2.2 (!t219) a0_0 l0_1 a1_0 l1_1 bt212.1 bt212.2.1)) else (standstilllaw06_CounterJoined.j3 kj36 x8_36 bt212.2.2.1 bt212.2.2.2 false a0_0 l0_1 a1_0 l1_1 bt212.1 bt212.2.1))) = some r := by first | (rw [hy208]; with_reducible exact H) | (have H2_ := (Option.bind_some _ _).symm.trans H; rw [hy208]; with_reducible exact H2_) | (have H2_ := (Option.bind_some _ _).symm.trans H; with_reducible exact H2_) | with_reducible exact H | (rw [hy208]; exact H) | exact H
          have Ny208 := Aside0.mk hy208
          clear hy208
          replace H := Option.bind_eq_some_iff.mp H
          obtain ⟨⟨t212, t213, t216, t217⟩, A520, H⟩ := H
          replace H : (if t217 = 0 then ((standstillref06_Fits.f kj36 a0_0 l0_1 t212 t213).bind fun t219 => (standstilllaw06_CounterJoined.j3 kj36 x8_36 t216 t217 (!t219) a0_0 l0_1 a1_0 l1_1 t212 t213)) else (standstilllaw06_CounterJoined.j3 kj36 x8_36 t216 t217 false a0_0 l0_1 a1_0 l1_1 t212 t213)) = some r := H
          have A52 := Aside0.mk A520
          clear A520
          have HC53 := Aside0.mk H
          clear H
          try go_wp2
          replace HO_8 := Aside0.mk (Kd.R_drew HO_8.out)
          replace BK198 := Aside0.mk (blk_drew BK198.out)
          replace BK199 := Aside0.mk (blk_drew BK199.out)
          replace HB := Aside0.mk (below_drew1 HB.out)
          obtain ⟨Ao56, co56, eo56⟩ := Kd.R_slice HO_8.out
          (first | subst eo56 | (injection eo56 with f1_ f2_ f3_; have f4_ := f1_.symm; have f5_ := f3_.symm; clear f1_ f2_ f3_; subst f4_; subst f5_))
          have q55 : (a0_0 : Int) ≤ ((x8_36.length : Int) : Int) := of_decide_eq_true (by first | (with_reducible assumption) | assumption)
          obtain ⟨i055, hi055, _, hsz55, _⟩ := info_parts info3
          have hroom55 : x8_36.length ≤ co56 := (Kd.R_reads' HO_8.out).2.1
          have hC55 : Kd.C (Kd.int .i64) _ Ao56 x8_36.length x8_36 := (Kd.R_reads' HO_8.out).2.2
          have hcut55 := cut_to (P := Try.prog) 25 3 .i64 Try.underlying25 hi055 Ao56 x8_36.length co56 a0_0 (of_decide_eq_true (by first | (with_reducible assumption) | assumption)) q55 hroom55
          have hr55 := Kd.C_take (m := (a0_0 : Int).toNat) hC55 (by omega)
          have hy55 : y208.length = (a0_0 : Int).toNat := (by rw [Ny208.out, List.length_take]; omega)
          rw [← Ny208.out] at hr55
          rw [← hy55] at hcut55
          have HR211 := Aside0.mk hr55
          have HC211 := Aside0.mk (show y208.length ≤ co56 from by omega)
          clear hr55 hC55 hroom55 hi055 hsz55
          have KY55 := Aside0.mk hy55
          clear hy55
          have KL55 := Aside0.mk (show (a0_0 : Int).toNat ≤ x8_36.length from by omega)
          replace q55 := eq_true q55
          refine start_ (n := 15) (S := fun w' => w'.cell? ⟨gb198, 0, none⟩ = some (.int .i64 a0_0) ∧ w'.cell? ⟨gb198, 1, none⟩ = some (.slice A0_1 l0_1.length c0_1)) (ds := []) (zl 15 0) (by kernel_rfl) rfl rfl ⟨(blk_cell BK198.out 0).trans rfl, (blk_cell BK198.out 1).trans rfl⟩ (fun hHeld => ?_); refine with_tabW standstilllaw06_CounterJoined.tab9 standstilllaw06_CounterJoined.bits9 (fun HT_ HW_ => ?_)
          generalize wc.drew = w54 at HO_8 BK198 BK199 HB HR211 hHeld ⊢
          refine zP 1 (some 76) (zl 15 2) HT_ ?_
          refine zP 2 (some 77) (zl 15 6) HT_ ?_
          refine zT 0 (some 75) (zl 15 7) HT_ HW_ hHeld ?_
          refine zT 3 (some 78) (zl 15 15) HT_ HW_ hHeld ?_
          refine zP 4 (some 79) (zl 15 31) HT_ ?_
          refine zP 5 (some 80) (zl 15 63) HT_ ?_
          refine join_ (σ := Value × Nat) 3 (zl 15 4095) (fun s_ => [(81, .tuple #[.agg #[.int .i64 t212, s_.1], .int .i64 t216, .int .i64 t217]), (10, .pointer (some ⟨s_.2, 0, none⟩)), (74, .tuple #[.agg #[.int .i64 t212, s_.1], .int .i64 t216, .int .i64 t217]), (82, .agg #[.int .i64 t212, s_.1]), (83, .int .i64 t216), (84, .int .i64 t217)]) (fun s_ w' => (w'.cell? ⟨gb198, 0, none⟩ = some (.int .i64 a0_0) ∧ w'.cell? ⟨gb198, 1, none⟩ = some (.slice A0_1 l0_1.length c0_1)) ∧ (Kd.R (Kd.int .i64) 3 w' w.heap.size (fun k_ => some k_ ≠ (.slice Ao56 x8_36.length co56 : Value).ownBlock) s_.1 t213) ∧ (Kd.R (Kd.int .i64) 3 w' w.heap.size (fun k_ => some k_ ≠ (s_.1 : Value).ownBlock) (.slice Ao56 x8_36.length co56) x8_36) ∧ (w'.heap[gb198]? = some (.cells #[.int .i64 a0_0, .slice A0_1 l0_1.length c0_1] 24 (0, 0))) ∧ (w'.heap[gb199]? = some (.cells #[.int .i64 a1_0, .slice A1_1 l1_1.length c1_1] 24 (0, 0))) ∧ (w'.heap[s_.2]? = some (.cells #[.int .i64 0, .slice none 0 0] 29 (0, 0))) ∧ (w.heap.size ≤ s_.2) ∧ (w.heap.size ≤ s_.2) ∧ (gb198 ≠ s_.2) ∧ (s_.2 ≠ gb198) ∧ (gb199 ≠ s_.2) ∧ (s_.2 ≠ gb199) ∧ (Below w.heap.size w w')) ?_ ?_
          rotate_left
          ·
           intro hCont
           refine two_ (i := 6) (j := 11) (Ni := some 81) (Nj := some 10) (zl 15 127) (zl 15 2111) rfl rfl rfl rfl (two_of HT_.out (by kernel_rfl)) (by decide) (by decide) (fun K hK => ?_) (fun K hK => ?_)
           ·
            skip
            refine goes_ Try.func8 (by kernel_rfl) rfl #[.agg #[.int .i64 a0_0, .slice A0_1 l0_1.length c0_1], .agg #[.int .i64 0, .slice Ao56 y208.length co56], .int .i64 3000] (by rfl) rfl rfl (zm) ?_
            with_reducible refine (counter_Run.calls kj36 a0_0 _ _ l0_1 0 _ _ y208 3000 t212 t213 t216 t217 _ ?side1 ?side2 ?side3 ?side4 A52.out).mono ?_
            (case side1 => exact zC ((Kd.C_below HR0_1.out HB.out)))
            (case side2 => exact HC0_1.out)
            (case side3 => repeat (first | exact (by repeat (first | (with_reducible exact HR211.out) | (with_reducible refine Kd.C_alloc ?_ _) | (with_reducible refine Kd.C_drewN ?_ _) | (with_reducible refine Kd.C_drew ?_) | exact HR211.out)) | (with_reducible refine Kd.C_alloc ?_ _) | (with_reducible refine Kd.C_drewN ?_ _) | (with_reducible refine Kd.C_drew ?_)))
            (case side4 => exact HC211.out)
            rintro e w57 ⟨v214, rfl, ho0, hb⟩
            refine ⟨_, rfl, ?_⟩
            have HO215 := Aside0.mk (Kd.R_lower (Kd.R_new' ho0 (Kd.R_lt (zR HO_8))) (below_size (zB HB)))
            replace HO_8 := Aside0.mk (Kd.R_elder' (zR HO_8) (Kd.R_base ho0) hb)
            replace BK198 := Aside0.mk (zb BK198 hb)
            replace BK199 := Aside0.mk (zb BK199 hb)
            replace HR211 := Aside0.mk (Kd.C_below (by repeat (first | (with_reducible exact HR211.out) | (with_reducible refine Kd.C_alloc ?_ _) | (with_reducible refine Kd.C_drewN ?_ _) | (with_reducible refine Kd.C_drew ?_) | exact HR211.out)) hb)
            replace HB := Aside0.mk (below_step (zB HB) hb)
            (try clear hb)
            (try clear hb2)
            (try clear hk)
            (try clear hi)
            (try clear ho0)
            refine hK.out _ _ ⟨(blk_cell BK198.out 0).trans rfl, (blk_cell BK198.out 1).trans rfl⟩ (fun hHeld => ?_)
            clear hK K
            refine norm_ (a' := ?_) ?_ ?_
            rotate_left
            ·
             show Act.put _ (some 81) _ = _
             simp only [Act.put, zs, zs0, zs1, i64_w, i32_w]
             rfl
            refine zP 7 (some 74) (zl 15 255) HT_ ?_
            refine zP 8 (some 82) (zl 15 511) HT_ ?_
            refine zP 9 (some 83) (zl 15 1023) HT_ ?_
            refine zP 10 (some 84) (zl 15 2047) HT_ ?_
            refine one_ (i := 11) (N := some 10) (zl 15 4095) rfl rfl (one_of HT_.out (by kernel_rfl)) (by decide) (fun K hK => ?_)
            refine box_step ?hg (N := 10) ?hd (cs := #[.int .i64 0, .slice none 0 0]) (t := 29) ?hr ?_; (case hd => rfl); (case hg => rfl); (case hr => first | (go_simp; done) | (go_simp; rfl))
            intro gb218 hg w58 hbox hb
            have BK218 := Aside0.mk (hbox)
            have GW218 := Aside0.mk ((by rw [hg]; exact (below_size (zB HB)) : w.heap.size ≤ gb218))
            have GE218 := Aside0.mk ((by rw [hg]; exact (below_size (zB HB)) : w.heap.size ≤ gb218))
            have NB198_218 := Aside0.mk ((by rw [hg]; exact Nat.ne_of_lt (zL BK198) : gb198 ≠ gb218))
            have NB218_198 := Aside0.mk ((by rw [hg]; exact Nat.ne_of_gt (zL BK198) : gb218 ≠ gb198))
            have NB199_218 := Aside0.mk ((by rw [hg]; exact Nat.ne_of_lt (zL BK199) : gb199 ≠ gb218))
            have NB218_199 := Aside0.mk ((by rw [hg]; exact Nat.ne_of_gt (zL BK199) : gb218 ≠ gb199))
            replace HO_8 := Aside0.mk (zRb HO_8 hb)
            replace HO215 := Aside0.mk (zRb HO215 hb)
            replace BK198 := Aside0.mk (zb BK198 hb)
            replace BK199 := Aside0.mk (zb BK199 hb)
            replace HR211 := Aside0.mk (Kd.C_below (by repeat (first | (with_reducible exact HR211.out) | (with_reducible refine Kd.C_alloc ?_ _) | (with_reducible refine Kd.C_drewN ?_ _) | (with_reducible refine Kd.C_drew ?_) | exact HR211.out)) hb)
            replace HB := Aside0.mk (below_step (zB HB) hb)
            clear hb hbox hg
            refine hK.out _ _ ⟨(blk_cell BK198.out 0).trans rfl, (blk_cell BK198.out 1).trans rfl⟩ (fun hHeld => ?_)
            clear hK K
            refine norm_ (a' := ?_) ?_ ?_
            rotate_left
            ·
             show Act.put _ (some 10) _ = _
             simp only [Act.put, zs, zs0, zs1, i64_w, i32_w]
             rfl
            exact norm_ (by simp only [putAll, Act.put, zs, zs0, zs1]) (hCont (v214, gb218) _ ⟨hHeld, (by (with_reducible repeat (first | apply Kd.R_alloc | apply Kd.R_drewN | apply Kd.R_drew)); exact Kd.R_mono HO215.out (fun _ hk => hk.2)), (by (with_reducible repeat (first | apply Kd.R_alloc | apply Kd.R_drewN | apply Kd.R_drew)); exact Kd.R_mono HO_8.out (fun _ hk => hk.2)), (zk BK198), (zk BK199), (zk BK218), GW218.out, GE218.out, NB198_218.out, NB218_198.out, NB199_218.out, NB218_199.out, (zB HB)⟩)
           ·
            skip
            refine box_step ?hg (N := 10) ?hd (cs := #[.int .i64 0, .slice none 0 0]) (t := 29) ?hr ?_; (case hd => rfl); (case hg => rfl); (case hr => first | (go_simp; done) | (go_simp; rfl))
            intro gb218 hg w57 hbox hb
            have BK218 := Aside0.mk (hbox)
            have GW218 := Aside0.mk ((by rw [hg]; exact (below_size (zB HB)) : w.heap.size ≤ gb218))
            have GE218 := Aside0.mk ((by rw [hg]; exact (below_size (zB HB)) : w.heap.size ≤ gb218))
            have NB198_218 := Aside0.mk ((by rw [hg]; exact Nat.ne_of_lt (zL BK198) : gb198 ≠ gb218))
            have NB218_198 := Aside0.mk ((by rw [hg]; exact Nat.ne_of_gt (zL BK198) : gb218 ≠ gb198))
            have NB199_218 := Aside0.mk ((by rw [hg]; exact Nat.ne_of_lt (zL BK199) : gb199 ≠ gb218))
            have NB218_199 := Aside0.mk ((by rw [hg]; exact Nat.ne_of_gt (zL BK199) : gb218 ≠ gb199))
            replace HO_8 := Aside0.mk (zRb HO_8 hb)
            replace BK198 := Aside0.mk (zb BK198 hb)
            replace BK199 := Aside0.mk (zb BK199 hb)
            replace HR211 := Aside0.mk (Kd.C_below (by repeat (first | (with_reducible exact HR211.out) | (with_reducible refine Kd.C_alloc ?_ _) | (with_reducible refine Kd.C_drewN ?_ _) | (with_reducible refine Kd.C_drew ?_) | exact HR211.out)) hb)
            replace HB := Aside0.mk (below_step (zB HB) hb)
            clear hb hbox hg
            refine hK.out _ _ ⟨(blk_cell BK198.out 0).trans rfl, (blk_cell BK198.out 1).trans rfl⟩ (fun hHeld => ?_)
            clear hK K
            refine norm_ (a' := ?_) ?_ ?_
            rotate_left
            ·
             show Act.put _ (some 10) _ = _
             simp only [Act.put, zs, zs0, zs1, i64_w, i32_w]
             rfl
            refine one_ (i := 6) (N := some 81) (zl 15 2175) rfl rfl (one_of HT_.out (by kernel_rfl)) (by decide) (fun K hK => ?_)
            refine goes_ Try.func8 (by kernel_rfl) rfl #[.agg #[.int .i64 a0_0, .slice A0_1 l0_1.length c0_1], .agg #[.int .i64 0, .slice Ao56 y208.length co56], .int .i64 3000] (by rfl) rfl rfl (zm) ?_
            with_reducible refine (counter_Run.calls kj36 a0_0 _ _ l0_1 0 _ _ y208 3000 t212 t213 t216 t217 _ ?side1 ?side2 ?side3 ?side4 A52.out).mono ?_
            (case side1 => exact zC ((Kd.C_below HR0_1.out HB.out)))
            (case side2 => exact HC0_1.out)
            (case side3 => repeat (first | exact (by repeat (first | (with_reducible exact HR211.out) | (with_reducible refine Kd.C_alloc ?_ _) | (with_reducible refine Kd.C_drewN ?_ _) | (with_reducible refine Kd.C_drew ?_) | exact HR211.out)) | (with_reducible refine Kd.C_alloc ?_ _) | (with_reducible refine Kd.C_drewN ?_ _) | (with_reducible refine Kd.C_drew ?_)))
            (case side4 => exact HC211.out)
            rintro e w58 ⟨v214, rfl, ho0, hb⟩
            refine ⟨_, rfl, ?_⟩
            have HO215 := Aside0.mk (Kd.R_lower (Kd.R_new' ho0 (Kd.R_lt (zR HO_8))) (below_size (zB HB)))
            replace HO_8 := Aside0.mk (Kd.R_elder' (zR HO_8) (Kd.R_base ho0) hb)
            replace BK198 := Aside0.mk (zb BK198 hb)
            replace BK199 := Aside0.mk (zb BK199 hb)
            replace HR211 := Aside0.mk (Kd.C_below (by repeat (first | (with_reducible exact HR211.out) | (with_reducible refine Kd.C_alloc ?_ _) | (with_reducible refine Kd.C_drewN ?_ _) | (with_reducible refine Kd.C_drew ?_) | exact HR211.out)) hb)
            replace BK218 := Aside0.mk (zb BK218 hb)
            replace HB := Aside0.mk (below_step (zB HB) hb)
            (try clear hb)
            (try clear hb2)
            (try clear hk)
            (try clear hi)
            (try clear ho0)
            refine hK.out _ _ ⟨(blk_cell BK198.out 0).trans rfl, (blk_cell BK198.out 1).trans rfl⟩ (fun hHeld => ?_)
            clear hK K
            refine norm_ (a' := ?_) ?_ ?_
            rotate_left
            ·
             show Act.put _ (some 81) _ = _
             simp only [Act.put, zs, zs0, zs1, i64_w, i32_w]
             rfl
            refine zP 7 (some 74) (zl 15 2303) HT_ ?_
            refine zP 8 (some 82) (zl 15 2559) HT_ ?_
            refine zP 9 (some 83) (zl 15 3071) HT_ ?_
            refine zP 10 (some 84) (zl 15 4095) HT_ ?_
            exact norm_ (by simp only [putAll, Act.put, zs, zs0, zs1]) (hCont (v214, gb218) _ ⟨hHeld, (by (with_reducible repeat (first | apply Kd.R_alloc | apply Kd.R_drewN | apply Kd.R_drew)); exact Kd.R_mono HO215.out (fun _ hk => hk.2)), (by (with_reducible repeat (first | apply Kd.R_alloc | apply Kd.R_drewN | apply Kd.R_drew)); exact Kd.R_mono HO_8.out (fun _ hk => hk.2)), (zk BK198), (zk BK199), (zk BK218), GW218.out, GE218.out, NB198_218.out, NB218_198.out, NB199_218.out, NB218_199.out, (zB HB)⟩)
          rintro ⟨v214, gb218⟩ w59 ⟨hS_, h0_, h1_, h2_, h3_, h4_, h5_, h6_, h7_, h8_, h9_, h10_, h11_⟩
          have n0_ : Aside0 (Kd.R (Kd.int .i64) 3 w59 w.heap.size (fun k_ => some k_ ≠ (.slice Ao56 x8_36.length co56 : Value).ownBlock) v214 t213) := ⟨h0_⟩
          have n1_ : Aside0 (Kd.R (Kd.int .i64) 3 w59 w.heap.size (fun k_ => some k_ ≠ (v214 : Value).ownBlock) (.slice Ao56 x8_36.length co56) x8_36) := ⟨h1_⟩
          have n2_ : Aside0 (w59.heap[gb198]? = some (.cells #[.int .i64 a0_0, .slice A0_1 l0_1.length c0_1] 24 (0, 0))) := ⟨h2_⟩
          have n3_ : Aside0 (w59.heap[gb199]? = some (.cells #[.int .i64 a1_0, .slice A1_1 l1_1.length c1_1] 24 (0, 0))) := ⟨h3_⟩
          have n4_ : Aside0 (w59.heap[gb218]? = some (.cells #[.int .i64 0, .slice none 0 0] 29 (0, 0))) := ⟨h4_⟩
          have n5_ : Aside0 (w.heap.size ≤ gb218) := ⟨h5_⟩
          have n6_ : Aside0 (w.heap.size ≤ gb218) := ⟨h6_⟩
          have n7_ : Aside0 (gb198 ≠ gb218) := ⟨h7_⟩
          have n8_ : Aside0 (gb218 ≠ gb198) := ⟨h8_⟩
          have n9_ : Aside0 (gb199 ≠ gb218) := ⟨h9_⟩
          have n10_ : Aside0 (gb218 ≠ gb199) := ⟨h10_⟩
          have n11_ : Aside0 (Below w.heap.size w w59) := ⟨h11_⟩
          clear HO_8
          clear BK198
          clear BK199
          clear HB
          clear h0_ h1_ h2_ h3_ h4_ h5_ h6_ h7_ h8_ h9_ h10_ h11_
          have HO215 := n0_
          have HO_8 := n1_
          have BK198 := n2_
          have BK199 := n3_
          have BK218 := n4_
          have GW218 := n5_
          have GE218 := n6_
          have NB198_218 := n7_
          have NB218_198 := n8_
          have NB199_218 := n9_
          have NB218_199 := n10_
          have HB := n11_
          clear n0_ n1_ n2_ n3_ n4_ n5_ n6_ n7_ n8_ n9_ n10_ n11_
          have hHeld : w59.cell? ⟨gb198, 0, none⟩ = some (.int .i64 a0_0) ∧ w59.cell? ⟨gb198, 1, none⟩ = some (.slice A0_1 l0_1.length c0_1) := hS_
          obtain ⟨Ao61, co61, eo61⟩ := Kd.R_slice HO215.out
          (first | subst eo61 | (injection eo61 with f1_ f2_ f3_; have f4_ := f1_.symm; have f5_ := f3_.symm; clear f1_ f2_ f3_; subst f4_; subst f5_))
          refine norm_ (a' := ?_) ?_ ?_
          rotate_left
          ·
           simp only [putAll, Act.put, zs, zs0, zs1]
           rfl
          refine one_ (i := 12) (N := none) (zl 15 8191) rfl rfl (one_of HT_.out (by kernel_rfl)) (by decide) (fun K hK => ?_)
          have hs60 : w59.cell? ⟨gb218, 0, none⟩ = some (.int .i64 0) := (blk_cell BK218.out 0).trans rfl
          have hfs60 := blk_frozen BK218.out 0
          have hns60_0 := NB198_218.out
          have hns60_1 := NB199_218.out
          have hms60_0 := NB218_198.out
          have hms60_1 := NB218_199.out
          have hs62 : w59.cell? ⟨gb218, 1, none⟩ = some (.slice none 0 0) := (blk_cell BK218.out 1).trans rfl
          have hfs62 := blk_frozen BK218.out 1
          have hns62_0 := NB198_218.out
          have hns62_1 := NB199_218.out
          have hms62_0 := NB218_198.out
          have hms62_1 := NB218_199.out
          refine skip_ (w1 := ?_) (by rfl) rfl ?_ ?_
          rotate_left
          ·
           go_simp
           rfl
          refine hK.out _ _ ⟨((cell_far (p := ⟨gb218, _, none⟩) NB198_218.out _).trans (((cell_far (p := ⟨gb218, _, none⟩) NB198_218.out _).trans (hHeld.1)))), ((cell_far (p := ⟨gb218, _, none⟩) NB198_218.out _).trans (((cell_far (p := ⟨gb218, _, none⟩) NB198_218.out _).trans (hHeld.2))))⟩ (fun hHeld => ?_)
          clear hK K
          refine zP 13 (some 11) (zl 15 16383) HT_ ?_
          refine zP 14 (some 12) (zl 15 32767) HT_ ?_
          refine done_ (done_of HT_.out (by kernel_rfl)) ?_
          go_upto_region 10 with (fail)
          go_cut [92] (fun v92 wc => ∃ (kq : Nat) (x92_52 : Bool), v92 = .bool x92_52 ∧ Aside0 (standstilllaw06_CounterJoined.j3 kq x8_36 t216 t217 x92_52 a0_0 l0_1 a1_0 l1_1 t212 t213 = some r) ∧ Aside0 (kq ≤ kj36) ∧ Aside0 (Kd.R (Kd.int .i64) 3 wc w.heap.size (fun k_ => some k_ ≠ ((.slice Ao61 t213.length co61) : Value).ownBlock) (.slice Ao56 x8_36.length co56) x8_36) ∧ Aside0 (Kd.R (Kd.int .i64) 3 wc w.heap.size (fun k_ => some k_ ≠ ((.slice Ao56 x8_36.length co56) : Value).ownBlock) (.slice Ao61 t213.length co61) t213) ∧ Aside0 (wc.heap[gb198]? = some (.cells #[.int .i64 a0_0, (.slice A0_1 l0_1.length c0_1)] 24 (0, 0))) ∧ Aside0 (wc.heap[gb199]? = some (.cells #[.int .i64 a1_0, (.slice A1_1 l1_1.length c1_1)] 24 (0, 0))) ∧ Aside0 (wc.heap[gb218]? = some (.cells #[.int .i64 t212, (.slice Ao61 t213.length co61)] 29 (0, 0))) ∧ Aside0 (Below w.heap.size w wc))
          case first =>
           have H := HC53.out
           clear HC53
           by_cases c63 : t217 = 0
           ·
            rw [if_pos c63] at H
            have c63b0 : (t217 == 0) = true := beq_iff_eq.mpr c63
            have c63b1 : (t217 != 0) = false := bne_eq_false_iff_eq.mpr c63
            clear c63
            (first | rw [c63b0] | (simp only [i64_w, i32_w]; rw [c63b0]) | skip)
            (try rw [c63b1])
            replace H := Option.bind_eq_some_iff.mp H
            obtain ⟨t219, A640, H⟩ := H
            replace H : (standstilllaw06_CounterJoined.j3 kj36 x8_36 t216 t217 (!t219) a0_0 l0_1 a1_0 l1_1 t212 t213) = some r := H
            have A64 := Aside0.mk A640
            clear A640
            have H' := Aside0.mk H
            clear H
            have hnb65 := NB198_199.out
            have hnc65 := NB199_198.out
            have hnb66 := NB198_218.out
            have hnc66 := NB218_198.out
            have hz67 := zc2 BK198
            have hnb68 := NB218_199.out
            have hnc68 := NB199_218.out
            have hz69 := zc2 BK218
            go_wp2_with (first | (go_at_call 9; (with_reducible refine (standstillref06_Fits.calls kj36 a0_0 _ _ l0_1 t212 _ _ t213 t219 _ ?side1 ?side2 ?side3 ?side4 A64.out).mono ?_); (case side1 => exact Kd.C_below HR0_1.out (zB HB)); (case side2 => exact HC0_1.out); (case side3 => refine (Kd.R_reads' (e := 3) (base := w.heap.size) (ok := fun k_ => some k_ ≠ (.slice Ao56 x8_36.length co56 : Value).ownBlock) (n := t213.length) (c := co61) ?_).2.2; exact (by (with_reducible repeat (first | apply Kd.R_alloc | apply Kd.R_drewN | apply Kd.R_drew)); exact (Kd.R_mono (zRf2 (g := gb218) (Kd.R_types HO215.out BK218.out (by decide))) (fun _ h_ => h_.1)))); (case side4 => exact (Kd.R_reads' HO215.out).2.1); rintro e w70 ⟨rfl, hb⟩; replace HO_8 := Aside0.mk (Kd.R_below (by (with_reducible repeat (first | apply Kd.R_alloc | apply Kd.R_drewN | apply Kd.R_drew)); exact (Kd.R_mono (zRf2 (g := gb218) (Kd.R_types HO_8.out BK218.out (by decide))) (fun _ h_ => h_.1))) hb); replace HO215 := Aside0.mk (Kd.R_below (by (with_reducible repeat (first | apply Kd.R_alloc | apply Kd.R_drewN | apply Kd.R_drew)); exact (Kd.R_mono (zRf2 (g := gb218) (Kd.R_types HO215.out BK218.out (by decide))) (fun _ h_ => h_.1))) hb); replace BK198 := Aside0.mk (blk_below (g := gb198) (o := .cells #[.int .i64 a0_0, .slice A0_1 l0_1.length c0_1] 24 (0, 0)) (zK BK198) hb); replace BK199 := Aside0.mk (blk_below (g := gb199) (o := .cells #[.int .i64 a1_0, .slice A1_1 l1_1.length c1_1] 24 (0, 0)) (zK BK199) hb); replace BK218 := Aside0.mk (blk_below (g := gb218) (o := .cells #[.int .i64 t212, .slice Ao61 t213.length co61] 29 (0, 0)) (by (with_reducible repeat (first | refine blk_drewN ?_ _ | refine blk_drew ?_ | refine blk_alloc ?_ _)); refine blk_put (cs := #[.int .i64 t212, .slice none 0 0]) ?_ 1 _ rfl; (with_reducible repeat (first | refine blk_drewN ?_ _ | refine blk_drew ?_ | refine blk_alloc ?_ _)); refine blk_put (cs := #[.int .i64 0, .slice none 0 0]) ?_ 0 _ rfl; (with_reducible repeat (first | refine blk_drewN ?_ _ | refine blk_drew ?_ | refine blk_alloc ?_ _)); exact BK218.out) hb); replace HB := Aside0.mk (below_step (zB HB) hb); (try clear hb); (try clear hb2); (try clear hk); (try clear hi)))
            go_meet
            case rel => exact ⟨_, (!t219), (by first | rfl | (simp; done) | (simp [*]; done)), H', ⟨by have := HJ3.out; have := HJ36.out; first | omega | exact Nat.le_refl _⟩, ⟨zR HO_8⟩, ⟨zR HO215⟩, ⟨zk BK198⟩, ⟨zk BK199⟩, ⟨zk BK218⟩, ⟨zB HB⟩⟩
           ·
            rw [if_neg c63] at H
            have c63b0 : (t217 == 0) = false := beq_eq_false_iff_ne.mpr c63
            have c63b1 : (t217 != 0) = true := bne_iff_ne.mpr c63
            (first | rw [c63b0] | (simp only [i64_w, i32_w]; rw [c63b0]) | skip)
            (try rw [c63b1])
            have H' := Aside0.mk H
            clear H
            go_wp2
            go_meet
            case rel => exact ⟨_, (false), (by first | rfl | (simp; done) | (simp [*]; done)), H', ⟨by have := HJ3.out; have := HJ36.out; first | omega | exact Nat.le_refl _⟩, ⟨by (with_reducible repeat (first | apply Kd.R_alloc | apply Kd.R_drewN | apply Kd.R_drew)); exact Kd.R_mono (zRf2 (g := gb218) (Kd.R_types HO_8.out BK218.out (by decide))) (fun _ hk => hk.1)⟩, ⟨by (with_reducible repeat (first | apply Kd.R_alloc | apply Kd.R_drewN | apply Kd.R_drew)); exact Kd.R_mono (zRf2 (g := gb218) (Kd.R_types HO215.out BK218.out (by decide))) (fun _ hk => hk.1)⟩, ⟨zK BK198⟩, ⟨zK BK199⟩, ⟨by (with_reducible repeat (first | refine blk_drewN ?_ _ | refine blk_drew ?_ | refine blk_alloc ?_ _)); refine blk_put (cs := #[.int .i64 t212, .slice none 0 0]) ?_ 1 _ rfl; (with_reducible repeat (first | refine blk_drewN ?_ _ | refine blk_drew ?_ | refine blk_alloc ?_ _)); refine blk_put (cs := #[.int .i64 0, .slice none 0 0]) ?_ 0 _ rfl; (with_reducible repeat (first | refine blk_drewN ?_ _ | refine blk_drew ?_ | refine blk_alloc ?_ _)); exact BK218.out⟩, ⟨zB HB⟩⟩
          case rest =>
           as_aux_lemma =>
           clear HC53
           try clear c1
           try clear c2
           try clear p2
           try clear q2
           try clear hx2
           try clear c3
           try clear c4
           try clear p4
           try clear q4
           try clear hx4
           try clear hf4
           try clear c5
           try clear q5
           try clear c6
           try clear p6
           try clear c7
           try clear c7b0
           try clear c7b1
           try clear c8
           try clear c10
           try clear c10b0
           try clear c10b1
           try clear c11
           try clear c14
           try clear c14b0
           try clear c14b1
           try clear c15
           try clear c19
           try clear p20
           try clear q20
           try clear hx20
           try clear c21
           try clear c27
           try clear c31
           try clear c35
           try clear c35b0
           try clear c35b1
           try clear c36
           try clear c36b0
           try clear c36b1
           try clear c38
           try clear c43
           try clear c43b0
           try clear c43b1
           try clear c44
           try clear c44b0
           try clear c45
           try clear c45b0
           try clear c46
           try clear c46b0
           try clear p47
           try clear q47
           try clear hx47
           try clear hf47
           try clear c50
           try clear c50b0
           try clear c50b1
           try clear c51
           try clear c51b0
           try clear c51b1
           try clear q55
           try clear c63
           try clear c63b0
           try clear c63b1
           try clear p64
           try clear c65
           try clear c66
           try clear c68
           try clear hz12
           try clear hz13
           try clear hz16
           try clear hz17
           try clear hz22
           try clear hz23
           try clear hz25
           try clear hz28
           try clear hz29
           try clear hz39
           try clear hz40
           try clear hz67
           try clear hz69
           try clear hz9
           try clear hx206_0
           try clear hx47_0
           try clear p2
           try clear p20
           try clear p206
           try clear p4
           try clear p47
           try clear p6
           try clear q2
           try clear q20
           try clear q206
           try clear q4
           try clear q47
           try clear q55
           obtain ⟨kq, x92_52, rfl, HA, HJ52, HO_8, HO_219001, BK198, BK199, BK218, HB⟩ := hcut
           cases kq with
           | zero => exact absurd HA.out (by simp [standstilllaw06_CounterJoined.j3])
           | succ kj52 =>
            have H := HA.out
            clear HA
            simp only [standstilllaw06_CounterJoined.j3] at H
            by_cases c71 : x92_52 = true
            ·
             subst c71
             have H1 : (some false) = some r := by rw [if_pos rfl] at H; exact H
             clear H
             have H := H1
             clear H1
             obtain rfl := Option.some.inj H
             go_wp2
             go_ret
             exact ⟨by first | rfl | (simp [errW_none, errW_some] <;> rfl) | (simp only [← hji34]; first | rfl | (simp [errW_none, errW_some] <;> rfl)) | (simp [*, errW_none, errW_some] <;> rfl), zB HB⟩
            ·
             replace c71 := Bool.eq_false_iff.mpr c71
             subst c71
             have H1 : (if t217 = 0 then (if 0 ≤ t212 then (if t212 < (l0_1.length : Int) then (if ((rd_T35 l0_1 t212).f0) = 2 then (if 0 < (t213.length : Int) then (standstilllaw06_CounterJoined.j4 kj52 x8_36 t216 (decide ((rd t213 0) ≥ 1152921504606846976)) a0_0 l0_1 a1_0 l1_1 t212 t213) else (none)) else (standstilllaw06_CounterJoined.j4 kj52 x8_36 t216 true a0_0 l0_1 a1_0 l1_1 t212 t213)) else (none)) else (none)) else (standstilllaw06_CounterJoined.j4 kj52 x8_36 t216 true a0_0 l0_1 a1_0 l1_1 t212 t213)) = some r := by rw [if_neg (show ¬ (false = true) by decide)] at H; exact H
             clear H
             have H := H1
             clear H1
             have HC72 := Aside0.mk H
             clear H
             go_upto_region 12 with (fail)
             go_cut [111] (fun v111 wc => ∃ (kq : Nat) (x111_71 : Bool), v111 = .bool x111_71 ∧ Aside0 (standstilllaw06_CounterJoined.j4 kq x8_36 t216 x111_71 a0_0 l0_1 a1_0 l1_1 t212 t213 = some r) ∧ Aside0 (kq ≤ kj52) ∧ Aside0 (Kd.R (Kd.int .i64) 3 wc w.heap.size (fun k_ => some k_ ≠ ((.slice Ao61 t213.length co61) : Value).ownBlock) (.slice Ao56 x8_36.length co56) x8_36) ∧ Aside0 (Kd.R (Kd.int .i64) 3 wc w.heap.size (fun k_ => some k_ ≠ ((.slice Ao56 x8_36.length co56) : Value).ownBlock) (.slice Ao61 t213.length co61) t213) ∧ Aside0 (wc.heap[gb198]? = some (.cells #[.int .i64 a0_0, (.slice A0_1 l0_1.length c0_1)] 24 (0, 0))) ∧ Aside0 (wc.heap[gb199]? = some (.cells #[.int .i64 a1_0, (.slice A1_1 l1_1.length c1_1)] 24 (0, 0))) ∧ Aside0 (wc.heap[gb218]? = some (.cells #[.int .i64 t212, (.slice Ao61 t213.length co61)] 29 (0, 0))) ∧ Aside0 (Below w.heap.size w wc))
             case first =>
              have H := HC72.out
              clear HC72
              by_cases c73 : t217 = 0
              ·
               rw [if_pos c73] at H
               have c73b0 : (t217 == 0) = true := beq_iff_eq.mpr c73
               have c73b1 : (t217 != 0) = false := bne_eq_false_iff_eq.mpr c73
               clear c73
               (first | rw [c73b0] | (simp only [i64_w, i32_w]; rw [c73b0]) | skip)
               (try rw [c73b1])
               by_cases c74 : 0 ≤ t212
               ·
                rw [if_pos c74] at H
                have c74b0 : decide (0 ≤ t212) = true := decide_eq_true c74
                clear c74
                by_cases c75 : t212 < (l0_1.length : Int)
                ·
                 rw [if_pos c75] at H
                 have c75b0 : decide (t212 < (l0_1.length : Int)) = true := decide_eq_true c75
                 clear c75
                 by_cases c76 : ((rd_T35 l0_1 t212).f0) = 2
                 ·
                  rw [if_pos c76] at H
                  have c76b0 : (((rd_T35 l0_1 t212).f0) == 2) = true := beq_iff_eq.mpr c76
                  have c76b1 : (((rd_T35 l0_1 t212).f0) != 2) = false := bne_eq_false_iff_eq.mpr c76
                  clear c76
                  by_cases c77 : 0 < (t213.length : Int)
                  ·
                   rw [if_pos c77] at H
                   have c77b0 : decide (0 < (t213.length : Int)) = true := decide_eq_true c77
                   have c77b1 : decide (0 < t213.length) = true := decide_eq_true (by omega)
                   clear c77
                   have H' := Aside0.mk H
                   clear H
                   have hnb78 := NB198_199.out
                   have hnc78 := NB199_198.out
                   have hnb79 := NB198_218.out
                   have hnc79 := NB218_198.out
                   have hz80 := zc2 BK198
                   have hnb81 := NB218_199.out
                   have hnc81 := NB199_218.out
                   have hz82 := zc2 BK218
                   have p220 : 0 ≤ (t212 : Int) := of_decide_eq_true (by first | (with_reducible assumption) | assumption)
                   have q220 : t212 < (l0_1.length : Int) := of_decide_eq_true (by first | (with_reducible assumption) | assumption)
                   obtain ⟨ad220, e220, hx220_0, hx220_1, hx220_2, hx220_3⟩ := at_T35 HR0_1.out t212 p220 q220
                   cases e220
                   replace hx220_0 := (HB.out.cell (World.block_lt_of_cell? w _ hx220_0)).trans hx220_0
                   replace hx220_1 := (HB.out.cell (World.block_lt_of_cell? w _ hx220_1)).trans hx220_1
                   replace hx220_2 := (HB.out.cell (World.block_lt_of_cell? w _ hx220_2)).trans hx220_2
                   replace hx220_3 := (HB.out.cell (World.block_lt_of_cell? w _ hx220_3)).trans hx220_3
                   replace p220 := eq_true p220
                   replace q220 := eq_true q220
                   have p221 : 0 ≤ (0 : Int) := (by omega)
                   have q221 : 0 < (t213.length : Int) := of_decide_eq_true (by first | (with_reducible assumption) | assumption)
                   obtain ⟨ad221, e221, hx221_0⟩ := Kd.at_int (Kd.R_reads' HO_219001.out).2.2 0 p221 q221
                   cases e221
                   have qi221 : (0 < t213.length) = True := eq_true (by omega)
                   (try rw [show ((0 : Int)).toNat = 0 from rfl] at hx221_0)
                   (try rw [Addr.add_zero'] at hx221_0)
                   replace p221 := eq_true p221
                   replace q221 := eq_true q221
                   go_wp2
                   go_meet
                   case rel => exact ⟨_, (decide ((rd t213 0) ≥ 1152921504606846976)), (by first | rfl | (simp; done) | (simp [*]; done)), H', ⟨by have := HJ3.out; have := HJ36.out; have := HJ52.out; first | omega | exact Nat.le_refl _⟩, ⟨zR HO_8⟩, ⟨zR HO_219001⟩, ⟨zk BK198⟩, ⟨zk BK199⟩, ⟨zk BK218⟩, ⟨zB HB⟩⟩
                  ·
                   rw [if_neg c77] at H
                   exact absurd H (by simp)
                 ·
                  rw [if_neg c76] at H
                  have c76b0 : (((rd_T35 l0_1 t212).f0) == 2) = false := beq_eq_false_iff_ne.mpr c76
                  have c76b1 : (((rd_T35 l0_1 t212).f0) != 2) = true := bne_iff_ne.mpr c76
                  have H' := Aside0.mk H
                  clear H
                  have hnb83 := NB198_199.out
                  have hnc83 := NB199_198.out
                  have hnb84 := NB198_218.out
                  have hnc84 := NB218_198.out
                  have hz85 := zc2 BK198
                  have hnb86 := NB218_199.out
                  have hnc86 := NB199_218.out
                  have hz87 := zc2 BK218
                  have p220 : 0 ≤ (t212 : Int) := of_decide_eq_true (by first | (with_reducible assumption) | assumption)
                  have q220 : t212 < (l0_1.length : Int) := of_decide_eq_true (by first | (with_reducible assumption) | assumption)
                  obtain ⟨ad220, e220, hx220_0, hx220_1, hx220_2, hx220_3⟩ := at_T35 HR0_1.out t212 p220 q220
                  cases e220
                  replace hx220_0 := (HB.out.cell (World.block_lt_of_cell? w _ hx220_0)).trans hx220_0
                  replace hx220_1 := (HB.out.cell (World.block_lt_of_cell? w _ hx220_1)).trans hx220_1
                  replace hx220_2 := (HB.out.cell (World.block_lt_of_cell? w _ hx220_2)).trans hx220_2
                  replace hx220_3 := (HB.out.cell (World.block_lt_of_cell? w _ hx220_3)).trans hx220_3
                  replace p220 := eq_true p220
                  replace q220 := eq_true q220
                  go_wp2
                  go_meet
                  case rel => exact ⟨_, (true), (by first | rfl | (simp; done) | (simp [*]; done)), H', ⟨by have := HJ3.out; have := HJ36.out; have := HJ52.out; first | omega | exact Nat.le_refl _⟩, ⟨zR HO_8⟩, ⟨zR HO_219001⟩, ⟨zk BK198⟩, ⟨zk BK199⟩, ⟨zk BK218⟩, ⟨zB HB⟩⟩
                ·
                 rw [if_neg c75] at H
                 exact absurd H (by simp)
               ·
                rw [if_neg c74] at H
                exact absurd H (by simp)
              ·
               rw [if_neg c73] at H
               have c73b0 : (t217 == 0) = false := beq_eq_false_iff_ne.mpr c73
               have c73b1 : (t217 != 0) = true := bne_iff_ne.mpr c73
               (first | rw [c73b0] | (simp only [i64_w, i32_w]; rw [c73b0]) | skip)
               (try rw [c73b1])
               have H' := Aside0.mk H
               clear H
               go_wp2
               go_meet
               case rel => exact ⟨_, (true), (by first | rfl | (simp; done) | (simp [*]; done)), H', ⟨by have := HJ3.out; have := HJ36.out; have := HJ52.out; first | omega | exact Nat.le_refl _⟩, ⟨zR HO_8⟩, ⟨zR HO_219001⟩, ⟨zk BK198⟩, ⟨zk BK199⟩, ⟨zk BK218⟩, ⟨zB HB⟩⟩
             case rest =>
              as_aux_lemma =>
              clear HC72
              try clear c1
              try clear c2
              try clear p2
              try clear q2
              try clear hx2
              try clear qi2
              try clear c3
              try clear c4
              try clear p4
              try clear q4
              try clear hx4
              try clear hf4
              try clear c5
              try clear q5
              try clear c6
              try clear p6
              try clear c7
              try clear c7b0
              try clear c7b1
              try clear c8
              try clear c10
              try clear c10b0
              try clear c10b1
              try clear c11
              try clear c14
              try clear c14b0
              try clear c14b1
              try clear c15
              try clear c19
              try clear p20
              try clear q20
              try clear hx20
              try clear c21
              try clear p22
              try clear q22
              try clear hx22
              try clear qi22
              try clear c27
              try clear c31
              try clear c35
              try clear c35b0
              try clear c35b1
              try clear c36
              try clear c36b0
              try clear c36b1
              try clear c38
              try clear c43
              try clear c43b0
              try clear c43b1
              try clear c44
              try clear c44b0
              try clear c45
              try clear c45b0
              try clear c46
              try clear c46b0
              try clear p47
              try clear q47
              try clear hx47
              try clear hf47
              try clear c50
              try clear c50b0
              try clear c50b1
              try clear c51
              try clear c51b0
              try clear c51b1
              try clear q55
              try clear c63
              try clear c63b0
              try clear c63b1
              try clear p64
              try clear c65
              try clear c66
              try clear c68
              try clear c71
              try clear c73
              try clear c73b0
              try clear c73b1
              try clear c74
              try clear c74b0
              try clear c75
              try clear c75b0
              try clear c76
              try clear c76b0
              try clear c76b1
              try clear c77
              try clear c77b0
              try clear c77b1
              try clear c78
              try clear c79
              try clear c81
              try clear c83
              try clear c84
              try clear c86
              try clear hz12
              try clear hz13
              try clear hz16
              try clear hz17
              try clear hz22
              try clear hz23
              try clear hz25
              try clear hz28
              try clear hz29
              try clear hz39
              try clear hz40
              try clear hz67
              try clear hz69
              try clear hz80
              try clear hz82
              try clear hz85
              try clear hz87
              try clear hz9
              try clear hx206_0
              try clear hx220_0
              try clear hx220_1
              try clear hx220_2
              try clear hx220_3
              try clear hx221_0
              try clear hx47_0
              try clear p2
              try clear p20
              try clear p206
              try clear p220
              try clear p221
              try clear p4
              try clear p47
              try clear p6
              try clear p64
              try clear q2
              try clear q20
              try clear q206
              try clear q220
              try clear q221
              try clear q4
              try clear q47
              try clear q5
              try clear q55
              obtain ⟨kq, x111_71, rfl, HA, HJ71, HO_8, HO_219001, BK198, BK199, BK218, HB⟩ := hcut
              cases kq with
              | zero => exact absurd HA.out (by simp [standstilllaw06_CounterJoined.j4])
              | succ kj71 =>
               have H := HA.out
               clear HA
               simp only [standstilllaw06_CounterJoined.j4] at H
               by_cases c88 : x111_71 = true
               ·
                subst c88
                have H1 : ((standstilllaw06_awake.f kj71).bind fun t222 => (some t222)) = some r := by rw [if_pos rfl] at H; exact H
                clear H
                have H := H1
                clear H1
                replace H := Option.bind_eq_some_iff.mp H
                obtain ⟨t222, A890, H⟩ := H
                replace H : (some t222) = some r := H
                have A89 := Aside0.mk A890
                clear A890
                obtain rfl := Option.some.inj H
                go_wp2_with (first | ((with_reducible refine gate_callee (f := 7) rfl ?_); refine goesL_ (some 112) rfl rfl Try.func7 (by kernel_rfl) rfl #[] rfl (zm) ?_; (with_reducible refine (standstilllaw06_awake.calls kj71  t222 _ A89.out).mono ?_); rintro e w90 ⟨rfl, hb⟩; refine ⟨_, rfl, ?_⟩; replace HO_8 := Aside0.mk (zRb HO_8 hb); replace HO_219001 := Aside0.mk (zRb HO_219001 hb); replace BK198 := Aside0.mk (zb BK198 hb); replace BK199 := Aside0.mk (zb BK199 hb); replace BK218 := Aside0.mk (zb BK218 hb); replace HB := Aside0.mk (below_step (zB HB) hb); (try clear hb); (try clear hb2); (try clear hk); (try clear hi)))
                go_ret
                exact ⟨by first | rfl | (simp [errW_none, errW_some] <;> rfl) | (simp only [← hji34]; first | rfl | (simp [errW_none, errW_some] <;> rfl)) | (simp [*, errW_none, errW_some] <;> rfl), zB HB⟩
               ·
                replace c88 := Bool.eq_false_iff.mpr c88
                subst c88
                have H1 : ((some (([] : List Int) : List Int)).bind fun y223 => (if y223.length + t213.length < 17592186044416 then ((some (y223 ++ t213 : List Int)).bind fun y226 => (if 0 ≤ a0_0 then (if a0_0 ≤ (x8_36.length : Int) then ((some (x8_36.drop (a0_0 : Int).toNat : List Int)).bind fun y229 => (if y226.length + y229.length < 17592186044416 then ((some (y226 ++ y229 : List Int)).bind fun y233 => (if 0 ≤ a1_0 then (if a1_0 ≤ (y233.length : Int) then ((counter_Run.f kj71 a1_0 l1_1 0 (y233.take (a1_0 : Int).toNat) 3000).bind fun bt240 => (if bt240.2.2.2 = 0 then ((standstillref06_Fits.f kj71 a1_0 l1_1 bt240.1 bt240.2.1).bind fun t247 => (standstilllaw06_CounterJoined.j5 kj71 x8_36 t216 y233 bt240.2.2.1 bt240.2.2.2 (!t247) a0_0 l0_1 a1_0 l1_1 bt240.1 bt240.2.1)) else (standstilllaw06_CounterJoined.j5 kj71 x8_36 t216 y233 bt240.2.2.1 bt240.2.2.2 false a0_0 l0_1 a1_0 l1_1 bt240.1 bt240.2.1))) else (none)) else (none))) else (none))) else (none)) else (none))) else (none))) = some r := by rw [if_neg (show ¬ (false = true) by decide)] at H; exact H
                clear H
                have H := H1
                clear H1
                obtain ⟨y223, hy223⟩ : ∃ y_ : List Int, y_ = (([] : List Int)) := ⟨_, rfl⟩
                replace H : (if y223.length + t213.length < 17592186044416 then ((some (y223 ++ t213 : List Int)).bind fun y226 => (if 0 ≤ a0_0 then (if a0_0 ≤ (x8_36.length : Int) then ((some (x8_36.drop (a0_0 : Int).toNat : List Int)).bind fun y229 => (if y226.length + y229.length < 17592186044416 then ((some (y226 ++ y229 : List Int)).bind fun y233 => (if 0 ≤ a1_0 then (if a1_0 ≤ (y233.length : Int) then ((counter_Run.f kj71 a1_0 l1_1 0 (y233.take (a1_0 : Int).toNat) 3000).bind fun bt240 => (if bt240.2.2.2 = 0 then ((standstillref06_Fits.f kj71 a1_0 l1_1 bt240.1 bt240.2.1).bind fun t247 => (standstilllaw06_CounterJoined.j5 kj71 x8_36 t216 y233 bt240.2.2.1 bt240.2.2.2 (!t247) a0_0 l0_1 a1_0 l1_1 bt240.1 bt240.2.1)) else (standstilllaw06_CounterJoined.j5 kj71 x8_36 t216 y233 bt240.2.2.1 bt240.2.2.2 false a0_0 l0_1 a1_0 l1_1 bt240.1 bt240.2.1))) else (none)) else (none))) else (none))) else (none)) else (none))) else (none)) = some r := by first | (rw [hy223]; with_reducible exact H) | (have H2_ := (Option.bind_some _ _).symm.trans H; rw [hy223]; with_reducible exact H2_) | (have H2_ := (Option.bind_some _ _).symm.trans H; with_reducible exact H2_) | with_reducible exact H | (rw [hy223]; exact H) | exact H
                have Ny223 := Aside0.mk hy223
                clear hy223
                by_cases c91 : y223.length + t213.length < 17592186044416
                ·
                 rw [if_pos c91] at H
                 have LMc91 := Aside0.mk c91
                 clear c91
                 obtain ⟨y226, hy226⟩ : ∃ y_ : List Int, y_ = (y223 ++ t213) := ⟨_, rfl⟩
                 replace H : (if 0 ≤ a0_0 then (if a0_0 ≤ (x8_36.length : Int) then ((some (x8_36.drop (a0_0 : Int).toNat : List Int)).bind fun y229 => (if y226.length + y229.length < 17592186044416 then ((some (y226 ++ y229 : List Int)).bind fun y233 => (if 0 ≤ a1_0 then (if a1_0 ≤ (y233.length : Int) then ((counter_Run.f kj71 a1_0 l1_1 0 (y233.take (a1_0 : Int).toNat) 3000).bind fun bt240 => (if bt240.2.2.2 = 0 then ((standstillref06_Fits.f kj71 a1_0 l1_1 bt240.1 bt240.2.1).bind fun t247 => (standstilllaw06_CounterJoined.j5 kj71 x8_36 t216 y233 bt240.2.2.1 bt240.2.2.2 (!t247) a0_0 l0_1 a1_0 l1_1 bt240.1 bt240.2.1)) else (standstilllaw06_CounterJoined.j5 kj71 x8_36 t216 y233 bt240.2.2.1 bt240.2.2.2 false a0_0 l0_1 a1_0 l1_1 bt240.1 bt240.2.1))) else (none)) else (none))) else (none))) else (none)) else (none)) = some r := by first | (rw [hy226]; with_reducible exact H) | (have H2_ := (Option.bind_some _ _).symm.trans H; rw [hy226]; with_reducible exact H2_) | (have H2_ := (Option.bind_some _ _).symm.trans H; with_reducible exact H2_) | with_reducible exact H | (rw [hy226]; exact H) | exact H
                 have Ny226 := Aside0.mk hy226
                 clear hy226
                 by_cases c92 : 0 ≤ a0_0
                 ·
                  rw [if_pos c92] at H
                  have c92b0 := eq_true c92
                  have c92b1 : decide (0 ≤ a0_0) = true := decide_eq_true c92
                  clear c92
                  by_cases c93 : a0_0 ≤ (x8_36.length : Int)
                  ·
                   rw [if_pos c93] at H
                   have c93b0 := eq_true c93
                   have c93b1 : decide (a0_0 ≤ (x8_36.length : Int)) = true := decide_eq_true c93
                   clear c93
                   obtain ⟨y229, hy229⟩ : ∃ y_ : List Int, y_ = (x8_36.drop (a0_0 : Int).toNat) := ⟨_, rfl⟩
                   replace H : (if y226.length + y229.length < 17592186044416 then ((some (y226 ++ y229 : List Int)).bind fun y233 => (if 0 ≤ a1_0 then (if a1_0 ≤ (y233.length : Int) then ((counter_Run.f kj71 a1_0 l1_1 0 (y233.take (a1_0 : Int).toNat) 3000).bind fun bt240 => (if bt240.2.2.2 = 0 then ((standstillref06_Fits.f kj71 a1_0 l1_1 bt240.1 bt240.2.1).bind fun t247 => (standstilllaw06_CounterJoined.j5 kj71 x8_36 t216 y233 bt240.2.2.1 bt240.2.2.2 (!t247) a0_0 l0_1 a1_0 l1_1 bt240.1 bt240.2.1)) else (standstilllaw06_CounterJoined.j5 kj71 x8_36 t216 y233 bt240.2.2.1 bt240.2.2.2 false a0_0 l0_1 a1_0 l1_1 bt240.1 bt240.2.1))) else (none)) else (none))) else (none)) = some r := by first | (rw [hy229]; with_reducible exact H) | (have H2_ := (Option.bind_some _ _).symm.trans H; rw [hy229]; with_reducible exact H2_) | (have H2_ := (Option.bind_some _ _).symm.trans H; with_reducible exact H2_) | with_reducible exact H | (rw [hy229]; exact H) | exact H
                   have Ny229 := Aside0.mk hy229
                   clear hy229
                   by_cases c94 : y226.length + y229.length < 17592186044416
                   ·
                    rw [if_pos c94] at H
                    have LMc94 := Aside0.mk c94
                    clear c94
                    obtain ⟨y233, hy233⟩ : ∃ y_ : List Int, y_ = (y226 ++ y229) := ⟨_, rfl⟩
                    replace H : (if 0 ≤ a1_0 then (if a1_0 ≤ (y233.length : Int) then ((counter_Run.f kj71 a1_0 l1_1 0 (y233.take (a1_0 : Int).toNat) 3000).bind fun bt240 => (if bt240.2.2.2 = 0 then ((standstillref06_Fits.f kj71 a1_0 l1_1 bt240.1 bt240.2.1).bind fun t247 => (standstilllaw06_CounterJoined.j5 kj71 x8_36 t216 y233 bt240.2.2.1 bt240.2.2.2 (!t247) a0_0 l0_1 a1_0 l1_1 bt240.1 bt240.2.1)) else (standstilllaw06_CounterJoined.j5 kj71 x8_36 t216 y233 bt240.2.2.1 bt240.2.2.2 false a0_0 l0_1 a1_0 l1_1 bt240.1 bt240.2.1))) else (none)) else (none)) = some r := by first | (rw [hy233]; with_reducible exact H) | (have H2_ := (Option.bind_some _ _).symm.trans H; rw [hy233]; with_reducible exact H2_) | (have H2_ := (Option.bind_some _ _).symm.trans H; with_reducible exact H2_) | with_reducible exact H | (rw [hy233]; exact H) | exact H
                    have Ny233 := Aside0.mk hy233
                    clear hy233
                    by_cases c95 : 0 ≤ a1_0
                    ·
                     rw [if_pos c95] at H
                     have c95b0 := eq_true c95
                     have c95b1 : decide (0 ≤ a1_0) = true := decide_eq_true c95
                     clear c95
                     by_cases c96 : a1_0 ≤ (y233.length : Int)
                     ·
                      rw [if_pos c96] at H
                      have c96b0 := eq_true c96
                      have c96b1 : decide (a1_0 ≤ (y233.length : Int)) = true := decide_eq_true c96
                      clear c96
                      obtain ⟨y236, hy236⟩ : ∃ y_ : List Int, y_ = (y233.take (a1_0 : Int).toNat) := ⟨_, rfl⟩
                      replace H : ((counter_Run.f kj71 a1_0 l1_1 0 y236 3000).bind fun bt240 => (if bt240.2.2.2 = 0 then ((standstillref06_Fits.f kj71 a1_0 l1_1 bt240.1 bt240.2.1).bind fun t247 => (standstilllaw06_CounterJoined.j5 kj71 x8_36 t216 y233 bt240.2.2.1 bt240.2.2.2 (!t247) a0_0 l0_1 a1_0 l1_1 bt240.1 bt240.2.1)) else (standstilllaw06_CounterJoined.j5 kj71 x8_36 t216 y233 bt240.2.2.1 bt240.2.2.2 false a0_0 l0_1 a1_0 l1_1 bt240.1 bt240.2.1))) = some r := by first | (rw [hy236]; with_reducible exact H) | (have H2_ := (Option.bind_some _ _).symm.trans H; rw [hy236]; with_reducible exact H2_) | (have H2_ := (Option.bind_some _ _).symm.trans H; with_reducible exact H2_) | with_reducible exact H | (rw [hy236]; exact H) | exact H
                      have Ny236 := Aside0.mk hy236
                      clear hy236
                      replace H := Option.bind_eq_some_iff.mp H
                      obtain ⟨⟨t240, t241, t244, t245⟩, A970, H⟩ := H
                      replace H : (if t245 = 0 then ((standstillref06_Fits.f kj71 a1_0 l1_1 t240 t241).bind fun t247 => (standstilllaw06_CounterJoined.j5 kj71 x8_36 t216 y233 t244 t245 (!t247) a0_0 l0_1 a1_0 l1_1 t240 t241)) else (standstilllaw06_CounterJoined.j5 kj71 x8_36 t216 y233 t244 t245 false a0_0 l0_1 a1_0 l1_1 t240 t241)) = some r := H
                      have A97 := Aside0.mk A970
                      clear A970
                      have HC98 := Aside0.mk H
                      clear H
                      try go_wp2
                      replace HO_8 := Aside0.mk (Kd.R_drew HO_8.out)
                      replace HO_219001 := Aside0.mk (Kd.R_drew HO_219001.out)
                      replace BK198 := Aside0.mk (blk_drew BK198.out)
                      replace BK199 := Aside0.mk (blk_drew BK199.out)
                      replace BK218 := Aside0.mk (blk_drew BK218.out)
                      replace HB := Aside0.mk (below_drew1 HB.out)
                      have q100 : (a0_0 : Int) ≤ ((x8_36.length : Int) : Int) := of_decide_eq_true (by first | (with_reducible assumption) | assumption)
                      obtain ⟨i0100, hi0100, _, hsz100, _⟩ := info_parts info3
                      have hroom100 : x8_36.length ≤ co56 := (Kd.R_reads' HO_8.out).2.1
                      have hC100 : Kd.C (Kd.int .i64) _ Ao56 x8_36.length x8_36 := (Kd.R_reads' HO_8.out).2.2
                      have q0100 : (0 : Int) ≤ (a0_0 : Int) := of_decide_eq_true (by first | (with_reducible assumption) | assumption)
                      have hcut100 := cut_from (P := Try.prog) 25 3 .i64 Try.underlying25 hi0100 1 hsz100 Ao56 x8_36.length co56 a0_0 q0100 q100
                      have hr100 := Kd.C_drop (m := (a0_0 : Int).toNat) (c := co56) hC100 (by omega) hroom100
                      obtain ⟨A100, hA100⟩ : ∃ A1, A1 = (if co56 = (a0_0 : Int).toNat then Ao56 else (Ao56 : Option Addr).map (·.add ((a0_0 : Int).toNat * 1))) := ⟨_, rfl⟩
                      obtain ⟨c100, hc100⟩ : ∃ c1, c1 = co56 - (a0_0 : Int).toNat := ⟨_, rfl⟩
                      have hy100 : y229.length = x8_36.length - (a0_0 : Int).toNat := (by rw [Ny229.out, List.length_drop] <;> omega)
                      rw [show (x8_36).drop (a0_0 : Int).toNat = y229 from Ny229.out.symm] at hr100
                      replace hr100 : Kd.C (Kd.int .i64) _ A100 y229.length y229 := (by rw [hA100]; exact hr100)
                      rw [← hy100, ← hA100, ← hc100] at hcut100
                      have HR232 := Aside0.mk hr100
                      have HC232 := Aside0.mk (show y229.length ≤ c100 from by rw [hy100, hc100]; exact Nat.sub_le_sub_right hroom100 _)
                      clear hr100 hC100 hroom100 hi0100 hsz100 hc100
                      have KY100 := Aside0.mk hy100
                      have KA100 := Aside0.mk hA100
                      clear hy100 hA100
                      have KL100 := Aside0.mk (show (a0_0 : Int).toNat ≤ x8_36.length from by omega)
                      replace q100 := eq_true q100
                      refine start_ (n := 10) (S := fun w' => w'.cell? ⟨gb218, 0, none⟩ = some (.int .i64 t212) ∧ w'.cell? ⟨gb218, 1, none⟩ = some (.slice Ao61 t213.length co61) ∧ w'.cell? ⟨gb198, 0, none⟩ = some (.int .i64 a0_0) ∧ w'.cell? ⟨gb198, 1, none⟩ = some (.slice A0_1 l0_1.length c0_1)) (ds := []) (zl 10 0) (by kernel_rfl) rfl rfl ⟨(blk_cell BK218.out 0).trans rfl, (blk_cell BK218.out 1).trans rfl, (blk_cell BK198.out 0).trans rfl, (blk_cell BK198.out 1).trans rfl⟩ (fun hHeld => ?_); refine with_tabW standstilllaw06_CounterJoined.tab14 standstilllaw06_CounterJoined.bits14 (fun HT_ HW_ => ?_)
                      generalize wc.drew = w99 at HO_8 HO_219001 BK198 BK199 BK218 HB HR232 hHeld ⊢
                      refine zP 1 (some 114) (zl 10 2) HT_ ?_
                      refine zP 4 (some 117) (zl 10 18) HT_ ?_
                      refine zP 5 (some 118) (zl 10 50) HT_ ?_
                      refine zT 2 (some 115) (zl 10 54) HT_ HW_ hHeld ?_
                      refine zT 6 (some 119) (zl 10 118) HT_ HW_ hHeld ?_
                      refine zP 7 (some 120) (zl 10 246) HT_ ?_
                      refine one_ (i := 0) (N := some 113) (zl 10 247) rfl rfl (one_of HT_.out (by kernel_rfl)) (by decide) (fun K hK => ?_)
                      refine Kd.R_lit_step (Kd.int .i64) _ 3 ?hg (N := 113) ?hd (xs := ([] : List Int)) (inner := []) (ok := fun _ => True) (okp := fun _ => True) ?hr ?hp (fun _ hk => hk) trivial (Below.refl _ _) (Nat.le_refl _) (by simp) ?_; (case hd => rfl); (case hg => rfl); (case hr => first | (go_simp; done) | (go_simp; rfl)); (case hp => exact (Reps.none _ _))
                      intro v224 w101 ho102 hb hg_ hnew_
                      clear hg_ hnew_
                      (first | rw [← Ny223.out] at ho102 | (simp only [Int.reduceToNat] at ho102; rw [← Ny223.out] at ho102))
                      have HO225 := Aside0.mk (Kd.R_lower (Kd.R_new' (Kd.R_new' ho102 (Kd.R_lt (zR HO_8))) (Kd.R_lt (zR HO_219001))) (below_size (zB HB)))
                      replace HO_8 := Aside0.mk (Kd.R_elder' (zR HO_8) (Kd.R_base ho102) hb)
                      replace HO_219001 := Aside0.mk (Kd.R_elder' (zR HO_219001) (Kd.R_base ho102) hb)
                      replace BK198 := Aside0.mk (zb BK198 hb)
                      replace BK199 := Aside0.mk (zb BK199 hb)
                      replace BK218 := Aside0.mk (zb BK218 hb)
                      replace HR232 := Aside0.mk (Kd.C_below (by repeat (first | (with_reducible exact HR232.out) | (with_reducible refine Kd.C_alloc ?_ _) | (with_reducible refine Kd.C_drewN ?_ _) | (with_reducible refine Kd.C_drew ?_) | exact HR232.out)) hb)
                      replace HB := Aside0.mk (below_step (zB HB) hb)
                      clear hb ho102
                      refine hK.out _ _ ⟨(blk_cell BK218.out 0).trans rfl, (blk_cell BK218.out 1).trans rfl, (blk_cell BK198.out 0).trans rfl, (blk_cell BK198.out 1).trans rfl⟩ (fun hHeld => ?_)
                      clear hK K
                      refine norm_ (a' := ?_) ?_ ?_
                      rotate_left
                      ·
                       show Act.put _ (some 113) _ = _
                       simp only [Act.put, zs, zs0, zs1, i64_w, i32_w]
                       rfl
                      refine one_ (i := 3) (N := some 116) (zl 10 255) rfl rfl (one_of HT_.out (by kernel_rfl)) (by decide) (fun K hK => ?_)
                      refine Kd.R_append_rows_step (Kd.int .i64) (w0 := w) w.heap.size (by rfl) (.tmp 113) (.tmp 115) 25 3 (.int .i64 0) 8 rfl Try.underlying25 info3 rfl (by decide) (by omega) v224 y223 t213 _ _ _ (fun k_ => some k_ ≠ (.slice Ao56 x8_36.length co56 : Value).ownBlock ∧ some k_ ≠ (.slice Ao61 t213.length co61 : Value).ownBlock) (fun _ => False) rfl rfl ?aO ?aR (fun _ _ h => h) (fun _ h => h.elim) ?aF ?aB ?aS ?aL ?_
                      (case aR => exact zC ((Kd.R_reads' HO_219001.out).2.2))
                      (case aB => exact (zB HB))
                      (case aF => exact (fun k_ hk => ⟨Kd.fresh' (Kd.R_lt (zR HO_8)) k_ hk, Kd.fresh' (Kd.R_lt (zR HO_219001)) k_ hk⟩))
                      (case aO => exact (by (with_reducible repeat (first | apply Kd.R_alloc | apply Kd.R_drewN | apply Kd.R_drew)); exact Kd.R_mono HO225.out (fun _ hk => ⟨hk.1.2, hk.2⟩)))
                      (case aS => exact (below_size (zB HB)))
                      (case aL => have := LMc91.out; omega)
                      intro v227 w103 ho hb hg hat
                      rw [← Ny226.out] at ho
                      have n0_ := Aside0.mk (Kd.R_after (ok := (fun k_ => some k_ ≠ (.slice Ao61 t213.length co61 : Value).ownBlock)) (zR HO_8) hg hat)
                      have n1_ := Aside0.mk (Kd.R_after (ok := (fun k_ => some k_ ≠ (.slice Ao56 x8_36.length co56 : Value).ownBlock)) (zR HO_219001) hg hat)
                      have n2_ := Aside0.mk (blk_grown (g := gb198) (o := .cells #[.int .i64 a0_0, .slice A0_1 l0_1.length c0_1] 24 (0, 0)) (zk BK198) hg (Kd.R_ne HO225.out BK198.out (by decide)))
                      have n3_ := Aside0.mk (blk_grown (g := gb199) (o := .cells #[.int .i64 a1_0, .slice A1_1 l1_1.length c1_1] 24 (0, 0)) (zk BK199) hg (Kd.R_ne HO225.out BK199.out (by decide)))
                      have n4_ := Aside0.mk (blk_grown (g := gb218) (o := .cells #[.int .i64 t212, .slice Ao61 t213.length co61] 29 (0, 0)) (zk BK218) hg (Kd.R_ne HO225.out BK218.out (by decide)))
                      have n5_ := Aside0.mk (hb)
                      have n6_ := Aside0.mk ((show Kd.C (Kd.int .i64) w103 A100 y229.length y229 from by rw [Ny229.out, KA100.out]; exact Kd.C_drop (m := (a0_0 : Int).toNat) (c := co56) ((Kd.R_reads' (Kd.R_after (ok := (fun k_ => some k_ ≠ (.slice Ao61 t213.length co61 : Value).ownBlock)) (zR HO_8) hg hat)).2.2) KL100.out ((Kd.R_reads' (Kd.R_after (ok := (fun k_ => some k_ ≠ (.slice Ao61 t213.length co61 : Value).ownBlock)) (zR HO_8) hg hat)).2.1)))
                      have n7_ := Aside0.mk (ho)
                      clear HO_8
                      clear HO_219001
                      clear BK198
                      clear BK199
                      clear BK218
                      clear HB
                      clear HR232
                      clear HO225
                      have HO_8 := n0_
                      have HO_219001 := n1_
                      have BK198 := n2_
                      have BK199 := n3_
                      have BK218 := n4_
                      have HB := n5_
                      have HR232 := n6_
                      have HO228 := n7_
                      clear n0_ n1_ n2_ n3_ n4_ n5_ n6_ n7_
                      clear ho hb hg hat
                      refine hK.out _ _ ⟨(blk_cell BK218.out 0).trans rfl, (blk_cell BK218.out 1).trans rfl, (blk_cell BK198.out 0).trans rfl, (blk_cell BK198.out 1).trans rfl⟩ (fun hHeld => ?_)
                      clear hK K
                      refine norm_ (a' := ?_) ?_ ?_
                      rotate_left
                      ·
                       show Act.put _ (some 116) _ = _
                       simp only [Act.put, zs, zs0, zs1, i64_w, i32_w]
                       rfl
                      refine one_ (i := 8) (N := some 121) (zl 10 511) rfl rfl (one_of HT_.out (by kernel_rfl)) (by decide) (fun K hK => ?_)
                      refine Kd.R_append_rows_step (Kd.int .i64) (w0 := w) w.heap.size (by rfl) (.tmp 116) (.tmp 120) 25 3 (.int .i64 0) 8 rfl Try.underlying25 info3 rfl (by decide) (by omega) v227 y226 y229 _ _ _ (fun k_ => some k_ ≠ (.slice Ao56 x8_36.length co56 : Value).ownBlock ∧ some k_ ≠ (.slice Ao61 t213.length co61 : Value).ownBlock) (fun _ => False) rfl rfl ?aO ?aR (fun _ _ h => h) (fun _ h => h.elim) ?aF ?aB ?aS ?aL ?_
                      (case aR => repeat (first | exact (by repeat (first | (with_reducible exact HR232.out) | (with_reducible refine Kd.C_alloc ?_ _) | (with_reducible refine Kd.C_drewN ?_ _) | (with_reducible refine Kd.C_drew ?_) | exact HR232.out)) | (with_reducible refine Kd.C_alloc ?_ _) | (with_reducible refine Kd.C_drewN ?_ _) | (with_reducible refine Kd.C_drew ?_)))
                      (case aB => exact (zB HB))
                      (case aF => exact (fun k_ hk => ⟨Kd.fresh' (Kd.R_lt (zR HO_8)) k_ hk, Kd.fresh' (Kd.R_lt (zR HO_219001)) k_ hk⟩))
                      (case aO => exact (zR HO228))
                      (case aS => exact (below_size (zB HB)))
                      (case aL => have := LMc94.out; omega)
                      intro v234 w104 ho hb hg hat
                      rw [← Ny233.out] at ho
                      have n0_ := Aside0.mk (Kd.R_after (ok := (fun k_ => some k_ ≠ (.slice Ao61 t213.length co61 : Value).ownBlock)) (zR HO_8) hg hat)
                      have n1_ := Aside0.mk (Kd.R_after (ok := (fun k_ => some k_ ≠ (.slice Ao56 x8_36.length co56 : Value).ownBlock)) (zR HO_219001) hg hat)
                      have n2_ := Aside0.mk (blk_grown (g := gb198) (o := .cells #[.int .i64 a0_0, .slice A0_1 l0_1.length c0_1] 24 (0, 0)) (zk BK198) hg (Kd.R_ne HO228.out BK198.out (by decide)))
                      have n3_ := Aside0.mk (blk_grown (g := gb199) (o := .cells #[.int .i64 a1_0, .slice A1_1 l1_1.length c1_1] 24 (0, 0)) (zk BK199) hg (Kd.R_ne HO228.out BK199.out (by decide)))
                      have n4_ := Aside0.mk (blk_grown (g := gb218) (o := .cells #[.int .i64 t212, .slice Ao61 t213.length co61] 29 (0, 0)) (zk BK218) hg (Kd.R_ne HO228.out BK218.out (by decide)))
                      have n5_ := Aside0.mk (hb)
                      have n6_ := Aside0.mk ((show Kd.C (Kd.int .i64) w104 A100 y229.length y229 from by rw [Ny229.out, KA100.out]; exact Kd.C_drop (m := (a0_0 : Int).toNat) (c := co56) ((Kd.R_reads' (Kd.R_after (ok := (fun k_ => some k_ ≠ (.slice Ao61 t213.length co61 : Value).ownBlock)) (zR HO_8) hg hat)).2.2) KL100.out ((Kd.R_reads' (Kd.R_after (ok := (fun k_ => some k_ ≠ (.slice Ao61 t213.length co61 : Value).ownBlock)) (zR HO_8) hg hat)).2.1)))
                      have n7_ := Aside0.mk (ho)
                      clear HO_8
                      clear HO_219001
                      clear BK198
                      clear BK199
                      clear BK218
                      clear HB
                      clear HR232
                      clear HO228
                      have HO_8 := n0_
                      have HO_219001 := n1_
                      have BK198 := n2_
                      have BK199 := n3_
                      have BK218 := n4_
                      have HB := n5_
                      have HR232 := n6_
                      have HO235 := n7_
                      clear n0_ n1_ n2_ n3_ n4_ n5_ n6_ n7_
                      clear ho hb hg hat
                      refine hK.out _ _ ⟨(blk_cell BK218.out 0).trans rfl, (blk_cell BK218.out 1).trans rfl, (blk_cell BK198.out 0).trans rfl, (blk_cell BK198.out 1).trans rfl⟩ (fun hHeld => ?_)
                      clear hK K
                      refine norm_ (a' := ?_) ?_ ?_
                      rotate_left
                      ·
                       show Act.put _ (some 121) _ = _
                       simp only [Act.put, zs, zs0, zs1, i64_w, i32_w]
                       rfl
                      refine zP 9 (some 13) (zl 10 1023) HT_ ?_
                      refine done_ (done_of HT_.out (by kernel_rfl)) ?_
                      try go_wp2
                      replace HO_8 := Aside0.mk (Kd.R_drew HO_8.out)
                      replace HO_219001 := Aside0.mk (Kd.R_drew HO_219001.out)
                      replace HO235 := Aside0.mk (Kd.R_drew HO235.out)
                      replace BK198 := Aside0.mk (blk_drew BK198.out)
                      replace BK199 := Aside0.mk (blk_drew BK199.out)
                      replace BK218 := Aside0.mk (blk_drew BK218.out)
                      replace HR232 := Aside0.mk (Kd.C_drew HR232.out)
                      replace HB := Aside0.mk (below_drew1 HB.out)
                      obtain ⟨Ao107, co107, eo107⟩ := Kd.R_slice HO235.out
                      (first | subst eo107 | (injection eo107 with f1_ f2_ f3_; have f4_ := f1_.symm; have f5_ := f3_.symm; clear f1_ f2_ f3_; subst f4_; subst f5_))
                      have q106 : (a1_0 : Int) ≤ ((y233.length : Int) : Int) := of_decide_eq_true (by first | (with_reducible assumption) | assumption)
                      obtain ⟨i0106, hi0106, _, hsz106, _⟩ := info_parts info3
                      have hroom106 : y233.length ≤ co107 := (Kd.R_reads' HO235.out).2.1
                      have hC106 : Kd.C (Kd.int .i64) _ Ao107 y233.length y233 := (Kd.R_reads' HO235.out).2.2
                      have hcut106 := cut_to (P := Try.prog) 25 3 .i64 Try.underlying25 hi0106 Ao107 y233.length co107 a1_0 (of_decide_eq_true (by first | (with_reducible assumption) | assumption)) q106 hroom106
                      have hr106 := Kd.C_take (m := (a1_0 : Int).toNat) hC106 (by omega)
                      have hy106 : y236.length = (a1_0 : Int).toNat := (by rw [Ny236.out, List.length_take]; omega)
                      rw [← Ny236.out] at hr106
                      rw [← hy106] at hcut106
                      have HR239 := Aside0.mk hr106
                      have HC239 := Aside0.mk (show y236.length ≤ co107 from by omega)
                      clear hr106 hC106 hroom106 hi0106 hsz106
                      have KY106 := Aside0.mk hy106
                      clear hy106
                      have KL106 := Aside0.mk (show (a1_0 : Int).toNat ≤ y233.length from by omega)
                      replace q106 := eq_true q106
                      refine start_ (n := 15) (S := fun w' => w'.cell? ⟨gb199, 0, none⟩ = some (.int .i64 a1_0) ∧ w'.cell? ⟨gb199, 1, none⟩ = some (.slice A1_1 l1_1.length c1_1)) (ds := []) (zl 15 0) (by kernel_rfl) rfl rfl ⟨(blk_cell BK199.out 0).trans rfl, (blk_cell BK199.out 1).trans rfl⟩ (fun hHeld => ?_); refine with_tabW standstilllaw06_CounterJoined.tab15 standstilllaw06_CounterJoined.bits15 (fun HT_ HW_ => ?_)
                      generalize w104.drew = w105 at HO_8 HO_219001 HO235 BK198 BK199 BK218 HR232 HB HR239 hHeld ⊢
                      refine zP 1 (some 124) (zl 15 2) HT_ ?_
                      refine zP 2 (some 125) (zl 15 6) HT_ ?_
                      refine zT 0 (some 123) (zl 15 7) HT_ HW_ hHeld ?_
                      refine zT 3 (some 126) (zl 15 15) HT_ HW_ hHeld ?_
                      refine zP 4 (some 127) (zl 15 31) HT_ ?_
                      refine zP 5 (some 128) (zl 15 63) HT_ ?_
                      refine join_ (σ := Value × Nat) 3 (zl 15 4095) (fun s_ => [(129, .tuple #[.agg #[.int .i64 t240, s_.1], .int .i64 t244, .int .i64 t245]), (14, .pointer (some ⟨s_.2, 0, none⟩)), (122, .tuple #[.agg #[.int .i64 t240, s_.1], .int .i64 t244, .int .i64 t245]), (130, .agg #[.int .i64 t240, s_.1]), (131, .int .i64 t244), (132, .int .i64 t245)]) (fun s_ w' => (w'.cell? ⟨gb199, 0, none⟩ = some (.int .i64 a1_0) ∧ w'.cell? ⟨gb199, 1, none⟩ = some (.slice A1_1 l1_1.length c1_1)) ∧ (Kd.R (Kd.int .i64) 3 w' w.heap.size (fun k_ => some k_ ≠ (s_.1 : Value).ownBlock ∧ some k_ ≠ (.slice Ao61 t213.length co61 : Value).ownBlock ∧ some k_ ≠ (.slice Ao56 x8_36.length co56 : Value).ownBlock) (.slice Ao107 y233.length co107) y233) ∧ (Kd.R (Kd.int .i64) 3 w' w.heap.size (fun k_ => some k_ ≠ (.slice Ao107 y233.length co107 : Value).ownBlock ∧ some k_ ≠ (.slice Ao61 t213.length co61 : Value).ownBlock ∧ some k_ ≠ (.slice Ao56 x8_36.length co56 : Value).ownBlock) s_.1 t241) ∧ (Kd.R (Kd.int .i64) 3 w' w.heap.size (fun k_ => some k_ ≠ (.slice Ao107 y233.length co107 : Value).ownBlock ∧ some k_ ≠ (s_.1 : Value).ownBlock ∧ some k_ ≠ (.slice Ao56 x8_36.length co56 : Value).ownBlock) (.slice Ao61 t213.length co61) t213) ∧ (Kd.R (Kd.int .i64) 3 w' w.heap.size (fun k_ => some k_ ≠ (.slice Ao107 y233.length co107 : Value).ownBlock ∧ some k_ ≠ (s_.1 : Value).ownBlock ∧ some k_ ≠ (.slice Ao61 t213.length co61 : Value).ownBlock) (.slice Ao56 x8_36.length co56) x8_36) ∧ (w'.heap[gb198]? = some (.cells #[.int .i64 a0_0, .slice A0_1 l0_1.length c0_1] 24 (0, 0))) ∧ (w'.heap[gb199]? = some (.cells #[.int .i64 a1_0, .slice A1_1 l1_1.length c1_1] 24 (0, 0))) ∧ (w'.heap[gb218]? = some (.cells #[.int .i64 t212, .slice Ao61 t213.length co61] 29 (0, 0))) ∧ (w'.heap[s_.2]? = some (.cells #[.int .i64 0, .slice none 0 0] 29 (0, 0))) ∧ (w.heap.size ≤ s_.2) ∧ (w.heap.size ≤ s_.2) ∧ (gb198 ≠ s_.2) ∧ (s_.2 ≠ gb198) ∧ (gb199 ≠ s_.2) ∧ (s_.2 ≠ gb199) ∧ (gb218 ≠ s_.2) ∧ (s_.2 ≠ gb218) ∧ (Below w.heap.size w w')) ?_ ?_
                      rotate_left
                      ·
                       intro hCont
                       refine two_ (i := 6) (j := 11) (Ni := some 129) (Nj := some 14) (zl 15 127) (zl 15 2111) rfl rfl rfl rfl (two_of HT_.out (by kernel_rfl)) (by decide) (by decide) (fun K hK => ?_) (fun K hK => ?_)
                       ·
                        skip
                        refine goes_ Try.func8 (by kernel_rfl) rfl #[.agg #[.int .i64 a1_0, .slice A1_1 l1_1.length c1_1], .agg #[.int .i64 0, .slice Ao107 y236.length co107], .int .i64 3000] (by rfl) rfl rfl (zm) ?_
                        with_reducible refine (counter_Run.calls kj71 a1_0 _ _ l1_1 0 _ _ y236 3000 t240 t241 t244 t245 _ ?side1 ?side2 ?side3 ?side4 A97.out).mono ?_
                        (case side1 => exact zC ((Kd.C_below HR1_1.out HB.out)))
                        (case side2 => exact HC1_1.out)
                        (case side3 => repeat (first | exact (by repeat (first | (with_reducible exact HR239.out) | (with_reducible refine Kd.C_alloc ?_ _) | (with_reducible refine Kd.C_drewN ?_ _) | (with_reducible refine Kd.C_drew ?_) | exact HR239.out)) | (with_reducible refine Kd.C_alloc ?_ _) | (with_reducible refine Kd.C_drewN ?_ _) | (with_reducible refine Kd.C_drew ?_)))
                        (case side4 => exact HC239.out)
                        rintro e w108 ⟨v242, rfl, ho0, hb⟩
                        refine ⟨_, rfl, ?_⟩
                        have HO243 := Aside0.mk (Kd.R_lower (Kd.R_new' (Kd.R_new' (Kd.R_new' ho0 (Kd.R_lt (zR HO_8))) (Kd.R_lt (zR HO_219001))) (Kd.R_lt (zR HO235))) (below_size (zB HB)))
                        replace HO_8 := Aside0.mk (Kd.R_elder' (zR HO_8) (Kd.R_base ho0) hb)
                        replace HO_219001 := Aside0.mk (Kd.R_elder' (zR HO_219001) (Kd.R_base ho0) hb)
                        replace HO235 := Aside0.mk (Kd.R_elder' (zR HO235) (Kd.R_base ho0) hb)
                        replace BK198 := Aside0.mk (zb BK198 hb)
                        replace BK199 := Aside0.mk (zb BK199 hb)
                        replace BK218 := Aside0.mk (zb BK218 hb)
                        replace HR232 := Aside0.mk (Kd.C_below (by repeat (first | (with_reducible exact HR232.out) | (with_reducible refine Kd.C_alloc ?_ _) | (with_reducible refine Kd.C_drewN ?_ _) | (with_reducible refine Kd.C_drew ?_) | exact HR232.out)) hb)
                        replace HR239 := Aside0.mk (Kd.C_below (by repeat (first | (with_reducible exact HR239.out) | (with_reducible refine Kd.C_alloc ?_ _) | (with_reducible refine Kd.C_drewN ?_ _) | (with_reducible refine Kd.C_drew ?_) | exact HR239.out)) hb)
                        replace HB := Aside0.mk (below_step (zB HB) hb)
                        (try clear hb)
                        (try clear hb2)
                        (try clear hk)
                        (try clear hi)
                        (try clear ho0)
                        refine hK.out _ _ ⟨(blk_cell BK199.out 0).trans rfl, (blk_cell BK199.out 1).trans rfl⟩ (fun hHeld => ?_)
                        clear hK K
                        refine norm_ (a' := ?_) ?_ ?_
                        rotate_left
                        ·
                         show Act.put _ (some 129) _ = _
                         simp only [Act.put, zs, zs0, zs1, i64_w, i32_w]
                         rfl
                        refine zP 7 (some 122) (zl 15 255) HT_ ?_
                        refine zP 8 (some 130) (zl 15 511) HT_ ?_
                        refine zP 9 (some 131) (zl 15 1023) HT_ ?_
                        refine zP 10 (some 132) (zl 15 2047) HT_ ?_
                        refine one_ (i := 11) (N := some 14) (zl 15 4095) rfl rfl (one_of HT_.out (by kernel_rfl)) (by decide) (fun K hK => ?_)
                        refine box_step ?hg (N := 14) ?hd (cs := #[.int .i64 0, .slice none 0 0]) (t := 29) ?hr ?_; (case hd => rfl); (case hg => rfl); (case hr => first | (go_simp; done) | (go_simp; rfl))
                        intro gb246 hg w109 hbox hb
                        have BK246 := Aside0.mk (hbox)
                        have GW246 := Aside0.mk ((by rw [hg]; exact (below_size (zB HB)) : w.heap.size ≤ gb246))
                        have GE246 := Aside0.mk ((by rw [hg]; exact (below_size (zB HB)) : w.heap.size ≤ gb246))
                        have NB198_246 := Aside0.mk ((by rw [hg]; exact Nat.ne_of_lt (zL BK198) : gb198 ≠ gb246))
                        have NB246_198 := Aside0.mk ((by rw [hg]; exact Nat.ne_of_gt (zL BK198) : gb246 ≠ gb198))
                        have NB199_246 := Aside0.mk ((by rw [hg]; exact Nat.ne_of_lt (zL BK199) : gb199 ≠ gb246))
                        have NB246_199 := Aside0.mk ((by rw [hg]; exact Nat.ne_of_gt (zL BK199) : gb246 ≠ gb199))
                        have NB218_246 := Aside0.mk ((by rw [hg]; exact Nat.ne_of_lt (zL BK218) : gb218 ≠ gb246))
                        have NB246_218 := Aside0.mk ((by rw [hg]; exact Nat.ne_of_gt (zL BK218) : gb246 ≠ gb218))
                        replace HO_8 := Aside0.mk (zRb HO_8 hb)
                        replace HO_219001 := Aside0.mk (zRb HO_219001 hb)
                        replace HO235 := Aside0.mk (zRb HO235 hb)
                        replace HO243 := Aside0.mk (zRb HO243 hb)
                        replace BK198 := Aside0.mk (zb BK198 hb)
                        replace BK199 := Aside0.mk (zb BK199 hb)
                        replace BK218 := Aside0.mk (zb BK218 hb)
                        replace HR232 := Aside0.mk (Kd.C_below (by repeat (first | (with_reducible exact HR232.out) | (with_reducible refine Kd.C_alloc ?_ _) | (with_reducible refine Kd.C_drewN ?_ _) | (with_reducible refine Kd.C_drew ?_) | exact HR232.out)) hb)
                        replace HR239 := Aside0.mk (Kd.C_below (by repeat (first | (with_reducible exact HR239.out) | (with_reducible refine Kd.C_alloc ?_ _) | (with_reducible refine Kd.C_drewN ?_ _) | (with_reducible refine Kd.C_drew ?_) | exact HR239.out)) hb)
                        replace HB := Aside0.mk (below_step (zB HB) hb)
                        clear hb hbox hg
                        refine hK.out _ _ ⟨(blk_cell BK199.out 0).trans rfl, (blk_cell BK199.out 1).trans rfl⟩ (fun hHeld => ?_)
                        clear hK K
                        refine norm_ (a' := ?_) ?_ ?_
                        rotate_left
                        ·
                         show Act.put _ (some 14) _ = _
                         simp only [Act.put, zs, zs0, zs1, i64_w, i32_w]
                         rfl
                        exact norm_ (by simp only [putAll, Act.put, zs, zs0, zs1]) (hCont (v242, gb246) _ ⟨hHeld, (by (with_reducible repeat (first | apply Kd.R_alloc | apply Kd.R_drewN | apply Kd.R_drew)); exact Kd.R_mono HO235.out (fun _ hk => ⟨hk.2, ⟨hk.1.2, hk.1.1⟩⟩)), (by (with_reducible repeat (first | apply Kd.R_alloc | apply Kd.R_drewN | apply Kd.R_drew)); exact Kd.R_mono HO243.out (fun _ hk => ⟨hk.2, ⟨hk.1.2, hk.1.1.2⟩⟩)), (by (with_reducible repeat (first | apply Kd.R_alloc | apply Kd.R_drewN | apply Kd.R_drew)); exact Kd.R_mono HO_219001.out (fun _ hk => ⟨hk.1.2, ⟨hk.2, hk.1.1⟩⟩)), (by (with_reducible repeat (first | apply Kd.R_alloc | apply Kd.R_drewN | apply Kd.R_drew)); exact Kd.R_mono HO_8.out (fun _ hk => ⟨hk.1.2, ⟨hk.2, hk.1.1⟩⟩)), (zk BK198), (zk BK199), (zk BK218), (zk BK246), GW246.out, GE246.out, NB198_246.out, NB246_198.out, NB199_246.out, NB246_199.out, NB218_246.out, NB246_218.out, (zB HB)⟩)
                       ·
                        skip
                        refine box_step ?hg (N := 14) ?hd (cs := #[.int .i64 0, .slice none 0 0]) (t := 29) ?hr ?_; (case hd => rfl); (case hg => rfl); (case hr => first | (go_simp; done) | (go_simp; rfl))
                        intro gb246 hg w108 hbox hb
                        have BK246 := Aside0.mk (hbox)
                        have GW246 := Aside0.mk ((by rw [hg]; exact (below_size (zB HB)) : w.heap.size ≤ gb246))
                        have GE246 := Aside0.mk ((by rw [hg]; exact (below_size (zB HB)) : w.heap.size ≤ gb246))
                        have NB198_246 := Aside0.mk ((by rw [hg]; exact Nat.ne_of_lt (zL BK198) : gb198 ≠ gb246))
                        have NB246_198 := Aside0.mk ((by rw [hg]; exact Nat.ne_of_gt (zL BK198) : gb246 ≠ gb198))
                        have NB199_246 := Aside0.mk ((by rw [hg]; exact Nat.ne_of_lt (zL BK199) : gb199 ≠ gb246))
                        have NB246_199 := Aside0.mk ((by rw [hg]; exact Nat.ne_of_gt (zL BK199) : gb246 ≠ gb199))
                        have NB218_246 := Aside0.mk ((by rw [hg]; exact Nat.ne_of_lt (zL BK218) : gb218 ≠ gb246))
                        have NB246_218 := Aside0.mk ((by rw [hg]; exact Nat.ne_of_gt (zL BK218) : gb246 ≠ gb218))
                        replace HO_8 := Aside0.mk (zRb HO_8 hb)
                        replace HO_219001 := Aside0.mk (zRb HO_219001 hb)
                        replace HO235 := Aside0.mk (zRb HO235 hb)
                        replace BK198 := Aside0.mk (zb BK198 hb)
                        replace BK199 := Aside0.mk (zb BK199 hb)
                        replace BK218 := Aside0.mk (zb BK218 hb)
                        replace HR232 := Aside0.mk (Kd.C_below (by repeat (first | (with_reducible exact HR232.out) | (with_reducible refine Kd.C_alloc ?_ _) | (with_reducible refine Kd.C_drewN ?_ _) | (with_reducible refine Kd.C_drew ?_) | exact HR232.out)) hb)
                        replace HR239 := Aside0.mk (Kd.C_below (by repeat (first | (with_reducible exact HR239.out) | (with_reducible refine Kd.C_alloc ?_ _) | (with_reducible refine Kd.C_drewN ?_ _) | (with_reducible refine Kd.C_drew ?_) | exact HR239.out)) hb)
                        replace HB := Aside0.mk (below_step (zB HB) hb)
                        clear hb hbox hg
                        refine hK.out _ _ ⟨(blk_cell BK199.out 0).trans rfl, (blk_cell BK199.out 1).trans rfl⟩ (fun hHeld => ?_)
                        clear hK K
                        refine norm_ (a' := ?_) ?_ ?_
                        rotate_left
                        ·
                         show Act.put _ (some 14) _ = _
                         simp only [Act.put, zs, zs0, zs1, i64_w, i32_w]
                         rfl
                        refine one_ (i := 6) (N := some 129) (zl 15 2175) rfl rfl (one_of HT_.out (by kernel_rfl)) (by decide) (fun K hK => ?_)
                        refine goes_ Try.func8 (by kernel_rfl) rfl #[.agg #[.int .i64 a1_0, .slice A1_1 l1_1.length c1_1], .agg #[.int .i64 0, .slice Ao107 y236.length co107], .int .i64 3000] (by rfl) rfl rfl (zm) ?_
                        with_reducible refine (counter_Run.calls kj71 a1_0 _ _ l1_1 0 _ _ y236 3000 t240 t241 t244 t245 _ ?side1 ?side2 ?side3 ?side4 A97.out).mono ?_
                        (case side1 => exact zC ((Kd.C_below HR1_1.out HB.out)))
                        (case side2 => exact HC1_1.out)
                        (case side3 => repeat (first | exact (by repeat (first | (with_reducible exact HR239.out) | (with_reducible refine Kd.C_alloc ?_ _) | (with_reducible refine Kd.C_drewN ?_ _) | (with_reducible refine Kd.C_drew ?_) | exact HR239.out)) | (with_reducible refine Kd.C_alloc ?_ _) | (with_reducible refine Kd.C_drewN ?_ _) | (with_reducible refine Kd.C_drew ?_)))
                        (case side4 => exact HC239.out)
                        rintro e w109 ⟨v242, rfl, ho0, hb⟩
                        refine ⟨_, rfl, ?_⟩
                        have HO243 := Aside0.mk (Kd.R_lower (Kd.R_new' (Kd.R_new' (Kd.R_new' ho0 (Kd.R_lt (zR HO_8))) (Kd.R_lt (zR HO_219001))) (Kd.R_lt (zR HO235))) (below_size (zB HB)))
                        replace HO_8 := Aside0.mk (Kd.R_elder' (zR HO_8) (Kd.R_base ho0) hb)
                        replace HO_219001 := Aside0.mk (Kd.R_elder' (zR HO_219001) (Kd.R_base ho0) hb)
                        replace HO235 := Aside0.mk (Kd.R_elder' (zR HO235) (Kd.R_base ho0) hb)
                        replace BK198 := Aside0.mk (zb BK198 hb)
                        replace BK199 := Aside0.mk (zb BK199 hb)
                        replace BK218 := Aside0.mk (zb BK218 hb)
                        replace HR232 := Aside0.mk (Kd.C_below (by repeat (first | (with_reducible exact HR232.out) | (with_reducible refine Kd.C_alloc ?_ _) | (with_reducible refine Kd.C_drewN ?_ _) | (with_reducible refine Kd.C_drew ?_) | exact HR232.out)) hb)
                        replace HR239 := Aside0.mk (Kd.C_below (by repeat (first | (with_reducible exact HR239.out) | (with_reducible refine Kd.C_alloc ?_ _) | (with_reducible refine Kd.C_drewN ?_ _) | (with_reducible refine Kd.C_drew ?_) | exact HR239.out)) hb)
                        replace BK246 := Aside0.mk (zb BK246 hb)
                        replace HB := Aside0.mk (below_step (zB HB) hb)
                        (try clear hb)
                        (try clear hb2)
                        (try clear hk)
                        (try clear hi)
                        (try clear ho0)
                        refine hK.out _ _ ⟨(blk_cell BK199.out 0).trans rfl, (blk_cell BK199.out 1).trans rfl⟩ (fun hHeld => ?_)
                        clear hK K
                        refine norm_ (a' := ?_) ?_ ?_
                        rotate_left
                        ·
                         show Act.put _ (some 129) _ = _
                         simp only [Act.put, zs, zs0, zs1, i64_w, i32_w]
                         rfl
                        refine zP 7 (some 122) (zl 15 2303) HT_ ?_
                        refine zP 8 (some 130) (zl 15 2559) HT_ ?_
                        refine zP 9 (some 131) (zl 15 3071) HT_ ?_
                        refine zP 10 (some 132) (zl 15 4095) HT_ ?_
                        exact norm_ (by simp only [putAll, Act.put, zs, zs0, zs1]) (hCont (v242, gb246) _ ⟨hHeld, (by (with_reducible repeat (first | apply Kd.R_alloc | apply Kd.R_drewN | apply Kd.R_drew)); exact Kd.R_mono HO235.out (fun _ hk => ⟨hk.2, ⟨hk.1.2, hk.1.1⟩⟩)), (by (with_reducible repeat (first | apply Kd.R_alloc | apply Kd.R_drewN | apply Kd.R_drew)); exact Kd.R_mono HO243.out (fun _ hk => ⟨hk.2, ⟨hk.1.2, hk.1.1.2⟩⟩)), (by (with_reducible repeat (first | apply Kd.R_alloc | apply Kd.R_drewN | apply Kd.R_drew)); exact Kd.R_mono HO_219001.out (fun _ hk => ⟨hk.1.2, ⟨hk.2, hk.1.1⟩⟩)), (by (with_reducible repeat (first | apply Kd.R_alloc | apply Kd.R_drewN | apply Kd.R_drew)); exact Kd.R_mono HO_8.out (fun _ hk => ⟨hk.1.2, ⟨hk.2, hk.1.1⟩⟩)), (zk BK198), (zk BK199), (zk BK218), (zk BK246), GW246.out, GE246.out, NB198_246.out, NB246_198.out, NB199_246.out, NB246_199.out, NB218_246.out, NB246_218.out, (zB HB)⟩)
                      rintro ⟨v242, gb246⟩ w110 ⟨hS_, h0_, h1_, h2_, h3_, h4_, h5_, h6_, h7_, h8_, h9_, h10_, h11_, h12_, h13_, h14_, h15_, h16_⟩
                      have n0_ : Aside0 (Kd.R (Kd.int .i64) 3 w110 w.heap.size (fun k_ => some k_ ≠ (v242 : Value).ownBlock ∧ some k_ ≠ (.slice Ao61 t213.length co61 : Value).ownBlock ∧ some k_ ≠ (.slice Ao56 x8_36.length co56 : Value).ownBlock) (.slice Ao107 y233.length co107) y233) := ⟨h0_⟩
                      have n1_ : Aside0 (Kd.R (Kd.int .i64) 3 w110 w.heap.size (fun k_ => some k_ ≠ (.slice Ao107 y233.length co107 : Value).ownBlock ∧ some k_ ≠ (.slice Ao61 t213.length co61 : Value).ownBlock ∧ some k_ ≠ (.slice Ao56 x8_36.length co56 : Value).ownBlock) v242 t241) := ⟨h1_⟩
                      have n2_ : Aside0 (Kd.R (Kd.int .i64) 3 w110 w.heap.size (fun k_ => some k_ ≠ (.slice Ao107 y233.length co107 : Value).ownBlock ∧ some k_ ≠ (v242 : Value).ownBlock ∧ some k_ ≠ (.slice Ao56 x8_36.length co56 : Value).ownBlock) (.slice Ao61 t213.length co61) t213) := ⟨h2_⟩
                      have n3_ : Aside0 (Kd.R (Kd.int .i64) 3 w110 w.heap.size (fun k_ => some k_ ≠ (.slice Ao107 y233.length co107 : Value).ownBlock ∧ some k_ ≠ (v242 : Value).ownBlock ∧ some k_ ≠ (.slice Ao61 t213.length co61 : Value).ownBlock) (.slice Ao56 x8_36.length co56) x8_36) := ⟨h3_⟩
                      have n4_ : Aside0 (w110.heap[gb198]? = some (.cells #[.int .i64 a0_0, .slice A0_1 l0_1.length c0_1] 24 (0, 0))) := ⟨h4_⟩
                      have n5_ : Aside0 (w110.heap[gb199]? = some (.cells #[.int .i64 a1_0, .slice A1_1 l1_1.length c1_1] 24 (0, 0))) := ⟨h5_⟩
                      have n6_ : Aside0 (w110.heap[gb218]? = some (.cells #[.int .i64 t212, .slice Ao61 t213.length co61] 29 (0, 0))) := ⟨h6_⟩
                      have n7_ : Aside0 (w110.heap[gb246]? = some (.cells #[.int .i64 0, .slice none 0 0] 29 (0, 0))) := ⟨h7_⟩
                      have n8_ : Aside0 (w.heap.size ≤ gb246) := ⟨h8_⟩
                      have n9_ : Aside0 (w.heap.size ≤ gb246) := ⟨h9_⟩
                      have n10_ : Aside0 (gb198 ≠ gb246) := ⟨h10_⟩
                      have n11_ : Aside0 (gb246 ≠ gb198) := ⟨h11_⟩
                      have n12_ : Aside0 (gb199 ≠ gb246) := ⟨h12_⟩
                      have n13_ : Aside0 (gb246 ≠ gb199) := ⟨h13_⟩
                      have n14_ : Aside0 (gb218 ≠ gb246) := ⟨h14_⟩
                      have n15_ : Aside0 (gb246 ≠ gb218) := ⟨h15_⟩
                      have n16_ : Aside0 (Below w.heap.size w w110) := ⟨h16_⟩
                      clear HO_8
                      clear HO_219001
                      clear HO235
                      clear BK198
                      clear BK199
                      clear BK218
                      clear HR232
                      clear HB
                      clear h0_ h1_ h2_ h3_ h4_ h5_ h6_ h7_ h8_ h9_ h10_ h11_ h12_ h13_ h14_ h15_ h16_
                      have HO235 := n0_
                      have HO243 := n1_
                      have HO_219001 := n2_
                      have HO_8 := n3_
                      have BK198 := n4_
                      have BK199 := n5_
                      have BK218 := n6_
                      have BK246 := n7_
                      have GW246 := n8_
                      have GE246 := n9_
                      have NB198_246 := n10_
                      have NB246_198 := n11_
                      have NB199_246 := n12_
                      have NB246_199 := n13_
                      have NB218_246 := n14_
                      have NB246_218 := n15_
                      have HB := n16_
                      clear n0_ n1_ n2_ n3_ n4_ n5_ n6_ n7_ n8_ n9_ n10_ n11_ n12_ n13_ n14_ n15_ n16_
                      have hHeld : w110.cell? ⟨gb199, 0, none⟩ = some (.int .i64 a1_0) ∧ w110.cell? ⟨gb199, 1, none⟩ = some (.slice A1_1 l1_1.length c1_1) := hS_
                      obtain ⟨Ao112, co112, eo112⟩ := Kd.R_slice HO243.out
                      (first | subst eo112 | (injection eo112 with f1_ f2_ f3_; have f4_ := f1_.symm; have f5_ := f3_.symm; clear f1_ f2_ f3_; subst f4_; subst f5_))
                      refine norm_ (a' := ?_) ?_ ?_
                      rotate_left
                      ·
                       simp only [putAll, Act.put, zs, zs0, zs1]
                       rfl
                      refine one_ (i := 12) (N := none) (zl 15 8191) rfl rfl (one_of HT_.out (by kernel_rfl)) (by decide) (fun K hK => ?_)
                      have hs111 : w110.cell? ⟨gb246, 0, none⟩ = some (.int .i64 0) := (blk_cell BK246.out 0).trans rfl
                      have hfs111 := blk_frozen BK246.out 0
                      have hns111_0 := NB198_246.out
                      have hns111_1 := NB199_246.out
                      have hns111_2 := NB218_246.out
                      have hms111_0 := NB246_198.out
                      have hms111_1 := NB246_199.out
                      have hms111_2 := NB246_218.out
                      have hs113 : w110.cell? ⟨gb246, 1, none⟩ = some (.slice none 0 0) := (blk_cell BK246.out 1).trans rfl
                      have hfs113 := blk_frozen BK246.out 1
                      have hns113_0 := NB198_246.out
                      have hns113_1 := NB199_246.out
                      have hns113_2 := NB218_246.out
                      have hms113_0 := NB246_198.out
                      have hms113_1 := NB246_199.out
                      have hms113_2 := NB246_218.out
                      refine skip_ (w1 := ?_) (by rfl) rfl ?_ ?_
                      rotate_left
                      ·
                       go_simp
                       rfl
                      refine hK.out _ _ ⟨((cell_far (p := ⟨gb246, _, none⟩) NB199_246.out _).trans (((cell_far (p := ⟨gb246, _, none⟩) NB199_246.out _).trans (hHeld.1)))), ((cell_far (p := ⟨gb246, _, none⟩) NB199_246.out _).trans (((cell_far (p := ⟨gb246, _, none⟩) NB199_246.out _).trans (hHeld.2))))⟩ (fun hHeld => ?_)
                      clear hK K
                      refine zP 13 (some 15) (zl 15 16383) HT_ ?_
                      refine zP 14 (some 16) (zl 15 32767) HT_ ?_
                      refine done_ (done_of HT_.out (by kernel_rfl)) ?_
                      go_upto_region 16 with (fail)
                      go_cut [140] (fun v140 wc => ∃ (kq : Nat) (x140_97 : Bool), v140 = .bool x140_97 ∧ Aside0 (standstilllaw06_CounterJoined.j5 kq x8_36 t216 y233 t244 t245 x140_97 a0_0 l0_1 a1_0 l1_1 t240 t241 = some r) ∧ Aside0 (kq ≤ kj71) ∧ Aside0 (Kd.R (Kd.int .i64) 3 wc w.heap.size (fun k_ => some k_ ≠ ((.slice Ao107 y233.length co107) : Value).ownBlock ∧ some k_ ≠ ((.slice Ao61 t213.length co61) : Value).ownBlock ∧ some k_ ≠ ((.slice Ao112 t241.length co112) : Value).ownBlock) (.slice Ao56 x8_36.length co56) x8_36) ∧ Aside0 (Kd.R (Kd.int .i64) 3 wc w.heap.size (fun k_ => some k_ ≠ ((.slice Ao56 x8_36.length co56) : Value).ownBlock ∧ some k_ ≠ ((.slice Ao61 t213.length co61) : Value).ownBlock ∧ some k_ ≠ ((.slice Ao112 t241.length co112) : Value).ownBlock) (.slice Ao107 y233.length co107) y233) ∧ Aside0 (Kd.R (Kd.int .i64) 3 wc w.heap.size (fun k_ => some k_ ≠ ((.slice Ao56 x8_36.length co56) : Value).ownBlock ∧ some k_ ≠ ((.slice Ao107 y233.length co107) : Value).ownBlock ∧ some k_ ≠ ((.slice Ao112 t241.length co112) : Value).ownBlock) (.slice Ao61 t213.length co61) t213) ∧ Aside0 (Kd.R (Kd.int .i64) 3 wc w.heap.size (fun k_ => some k_ ≠ ((.slice Ao56 x8_36.length co56) : Value).ownBlock ∧ some k_ ≠ ((.slice Ao107 y233.length co107) : Value).ownBlock ∧ some k_ ≠ ((.slice Ao61 t213.length co61) : Value).ownBlock) (.slice Ao112 t241.length co112) t241) ∧ Aside0 (wc.heap[gb198]? = some (.cells #[.int .i64 a0_0, (.slice A0_1 l0_1.length c0_1)] 24 (0, 0))) ∧ Aside0 (wc.heap[gb199]? = some (.cells #[.int .i64 a1_0, (.slice A1_1 l1_1.length c1_1)] 24 (0, 0))) ∧ Aside0 (wc.heap[gb218]? = some (.cells #[.int .i64 t212, (.slice Ao61 t213.length co61)] 29 (0, 0))) ∧ Aside0 (wc.heap[gb246]? = some (.cells #[.int .i64 t240, (.slice Ao112 t241.length co112)] 29 (0, 0))) ∧ Aside0 (Below w.heap.size w wc))
                      case first =>
                       have H := HC98.out
                       clear HC98
                       by_cases c114 : t245 = 0
                       ·
                        rw [if_pos c114] at H
                        have c114b0 : (t245 == 0) = true := beq_iff_eq.mpr c114
                        have c114b1 : (t245 != 0) = false := bne_eq_false_iff_eq.mpr c114
                        clear c114
                        (first | rw [c114b0] | (simp only [i64_w, i32_w]; rw [c114b0]) | skip)
                        (try rw [c114b1])
                        replace H := Option.bind_eq_some_iff.mp H
                        obtain ⟨t247, A1150, H⟩ := H
                        replace H : (standstilllaw06_CounterJoined.j5 kj71 x8_36 t216 y233 t244 t245 (!t247) a0_0 l0_1 a1_0 l1_1 t240 t241) = some r := H
                        have A115 := Aside0.mk A1150
                        clear A1150
                        have H' := Aside0.mk H
                        clear H
                        have hnb116 := NB199_198.out
                        have hnc116 := NB198_199.out
                        have hnb117 := NB199_218.out
                        have hnc117 := NB218_199.out
                        have hnb118 := NB199_246.out
                        have hnc118 := NB246_199.out
                        have hz119 := zc2 BK199
                        have hnb120 := NB246_198.out
                        have hnc120 := NB198_246.out
                        have hnb121 := NB246_218.out
                        have hnc121 := NB218_246.out
                        have hz122 := zc2 BK246
                        go_wp2_with (first | (go_at_call 9; (with_reducible refine (standstillref06_Fits.calls kj71 a1_0 _ _ l1_1 t240 _ _ t241 t247 _ ?side1 ?side2 ?side3 ?side4 A115.out).mono ?_); (case side1 => exact Kd.C_below HR1_1.out (zB HB)); (case side2 => exact HC1_1.out); (case side3 => refine (Kd.R_reads' (e := 3) (base := w.heap.size) (ok := fun k_ => (some k_ ≠ (.slice Ao107 y233.length co107 : Value).ownBlock ∧ (some k_ ≠ (.slice Ao61 t213.length co61 : Value).ownBlock ∧ some k_ ≠ (.slice Ao56 x8_36.length co56 : Value).ownBlock))) (n := t241.length) (c := co112) ?_).2.2; exact (by (with_reducible repeat (first | apply Kd.R_alloc | apply Kd.R_drewN | apply Kd.R_drew)); exact (Kd.R_mono (zRf2 (g := gb246) (Kd.R_types HO243.out BK246.out (by decide))) (fun _ h_ => h_.1)))); (case side4 => exact (Kd.R_reads' HO243.out).2.1); rintro e w123 ⟨rfl, hb⟩; replace HO_8 := Aside0.mk (Kd.R_below (by (with_reducible repeat (first | apply Kd.R_alloc | apply Kd.R_drewN | apply Kd.R_drew)); exact (Kd.R_mono (zRf2 (g := gb246) (Kd.R_types HO_8.out BK246.out (by decide))) (fun _ h_ => h_.1))) hb); replace HO_219001 := Aside0.mk (Kd.R_below (by (with_reducible repeat (first | apply Kd.R_alloc | apply Kd.R_drewN | apply Kd.R_drew)); exact (Kd.R_mono (zRf2 (g := gb246) (Kd.R_types HO_219001.out BK246.out (by decide))) (fun _ h_ => h_.1))) hb); replace HO235 := Aside0.mk (Kd.R_below (by (with_reducible repeat (first | apply Kd.R_alloc | apply Kd.R_drewN | apply Kd.R_drew)); exact (Kd.R_mono (zRf2 (g := gb246) (Kd.R_types HO235.out BK246.out (by decide))) (fun _ h_ => h_.1))) hb); replace HO243 := Aside0.mk (Kd.R_below (by (with_reducible repeat (first | apply Kd.R_alloc | apply Kd.R_drewN | apply Kd.R_drew)); exact (Kd.R_mono (zRf2 (g := gb246) (Kd.R_types HO243.out BK246.out (by decide))) (fun _ h_ => h_.1))) hb); replace BK198 := Aside0.mk (blk_below (g := gb198) (o := .cells #[.int .i64 a0_0, .slice A0_1 l0_1.length c0_1] 24 (0, 0)) (zK BK198) hb); replace BK199 := Aside0.mk (blk_below (g := gb199) (o := .cells #[.int .i64 a1_0, .slice A1_1 l1_1.length c1_1] 24 (0, 0)) (zK BK199) hb); replace BK218 := Aside0.mk (blk_below (g := gb218) (o := .cells #[.int .i64 t212, .slice Ao61 t213.length co61] 29 (0, 0)) (zK BK218) hb); replace BK246 := Aside0.mk (blk_below (g := gb246) (o := .cells #[.int .i64 t240, .slice Ao112 t241.length co112] 29 (0, 0)) (by (with_reducible repeat (first | refine blk_drewN ?_ _ | refine blk_drew ?_ | refine blk_alloc ?_ _)); refine blk_put (cs := #[.int .i64 t240, .slice none 0 0]) ?_ 1 _ rfl; (with_reducible repeat (first | refine blk_drewN ?_ _ | refine blk_drew ?_ | refine blk_alloc ?_ _)); refine blk_put (cs := #[.int .i64 0, .slice none 0 0]) ?_ 0 _ rfl; (with_reducible repeat (first | refine blk_drewN ?_ _ | refine blk_drew ?_ | refine blk_alloc ?_ _)); exact BK246.out) hb); replace HB := Aside0.mk (below_step (zB HB) hb); (try clear hb); (try clear hb2); (try clear hk); (try clear hi)))
                        go_meet
                        case rel => exact ⟨_, (!t247), (by first | rfl | (simp; done) | (simp [*]; done)), H', ⟨by have := HJ3.out; have := HJ36.out; have := HJ52.out; have := HJ71.out; first | omega | exact Nat.le_refl _⟩, ⟨by (with_reducible repeat (first | apply Kd.R_alloc | apply Kd.R_drewN | apply Kd.R_drew)); exact Kd.R_mono HO_8.out (fun _ hk => ⟨hk.1, ⟨hk.2.2, hk.2.1⟩⟩)⟩, ⟨by (with_reducible repeat (first | apply Kd.R_alloc | apply Kd.R_drewN | apply Kd.R_drew)); exact Kd.R_mono HO235.out (fun _ hk => ⟨hk.2.2, ⟨hk.2.1, hk.1⟩⟩)⟩, ⟨by (with_reducible repeat (first | apply Kd.R_alloc | apply Kd.R_drewN | apply Kd.R_drew)); exact Kd.R_mono HO_219001.out (fun _ hk => ⟨hk.2.2, ⟨hk.1, hk.2.1⟩⟩)⟩, ⟨by (with_reducible repeat (first | apply Kd.R_alloc | apply Kd.R_drewN | apply Kd.R_drew)); exact Kd.R_mono HO243.out (fun _ hk => ⟨hk.2.2, ⟨hk.1, hk.2.1⟩⟩)⟩, ⟨zk BK198⟩, ⟨zk BK199⟩, ⟨zk BK218⟩, ⟨zk BK246⟩, ⟨zB HB⟩⟩
                       ·
                        rw [if_neg c114] at H
                        have c114b0 : (t245 == 0) = false := beq_eq_false_iff_ne.mpr c114
                        have c114b1 : (t245 != 0) = true := bne_iff_ne.mpr c114
                        (first | rw [c114b0] | (simp only [i64_w, i32_w]; rw [c114b0]) | skip)
                        (try rw [c114b1])
                        have H' := Aside0.mk H
                        clear H
                        go_wp2
                        go_meet
                        case rel => exact ⟨_, (false), (by first | rfl | (simp; done) | (simp [*]; done)), H', ⟨by have := HJ3.out; have := HJ36.out; have := HJ52.out; have := HJ71.out; first | omega | exact Nat.le_refl _⟩, ⟨by (with_reducible repeat (first | apply Kd.R_alloc | apply Kd.R_drewN | apply Kd.R_drew)); exact Kd.R_mono (zRf2 (g := gb246) (Kd.R_types HO_8.out BK246.out (by decide))) (fun _ hk => ⟨hk.1.1, ⟨hk.1.2.2, hk.1.2.1⟩⟩)⟩, ⟨by (with_reducible repeat (first | apply Kd.R_alloc | apply Kd.R_drewN | apply Kd.R_drew)); exact Kd.R_mono (zRf2 (g := gb246) (Kd.R_types HO235.out BK246.out (by decide))) (fun _ hk => ⟨hk.1.2.2, ⟨hk.1.2.1, hk.1.1⟩⟩)⟩, ⟨by (with_reducible repeat (first | apply Kd.R_alloc | apply Kd.R_drewN | apply Kd.R_drew)); exact Kd.R_mono (zRf2 (g := gb246) (Kd.R_types HO_219001.out BK246.out (by decide))) (fun _ hk => ⟨hk.1.2.2, ⟨hk.1.1, hk.1.2.1⟩⟩)⟩, ⟨by (with_reducible repeat (first | apply Kd.R_alloc | apply Kd.R_drewN | apply Kd.R_drew)); exact Kd.R_mono (zRf2 (g := gb246) (Kd.R_types HO243.out BK246.out (by decide))) (fun _ hk => ⟨hk.1.2.2, ⟨hk.1.1, hk.1.2.1⟩⟩)⟩, ⟨zK BK198⟩, ⟨zK BK199⟩, ⟨zK BK218⟩, ⟨by (with_reducible repeat (first | refine blk_drewN ?_ _ | refine blk_drew ?_ | refine blk_alloc ?_ _)); refine blk_put (cs := #[.int .i64 t240, .slice none 0 0]) ?_ 1 _ rfl; (with_reducible repeat (first | refine blk_drewN ?_ _ | refine blk_drew ?_ | refine blk_alloc ?_ _)); refine blk_put (cs := #[.int .i64 0, .slice none 0 0]) ?_ 0 _ rfl; (with_reducible repeat (first | refine blk_drewN ?_ _ | refine blk_drew ?_ | refine blk_alloc ?_ _)); exact BK246.out⟩, ⟨zB HB⟩⟩
                      case rest =>
                       as_aux_lemma =>
                       clear HC98
                       try clear c1
                       try clear q1
                       try clear p2
                       try clear c8
                       try clear c9
                       try clear q10
                       try clear c11
                       try clear c12
                       try clear c94
                       try clear q106
                       try clear c114
                       try clear c114b0
                       try clear c114b1
                       try clear c116
                       try clear c117
                       try clear c118
                       try clear c120
                       try clear c121
                       try clear hz119
                       try clear hz122
                       try clear q106
                       obtain ⟨kq, x140_97, rfl, HA, HJ97, HO_8, HO_13, HO_219001, HO_247001, BK198, BK199, BK218, BK246, HB⟩ := hcut
                       cases kq with
                       | zero => exact absurd HA.out (by simp [standstilllaw06_CounterJoined.j5])
                       | succ kj97 =>
                        have H := HA.out
                        clear HA
                        simp only [standstilllaw06_CounterJoined.j5] at H
                        by_cases c124 : x140_97 = true
                        ·
                         subst c124
                         have H1 : (some false) = some r := by rw [if_pos rfl] at H; exact H
                         clear H
                         have H := H1
                         clear H1
                         obtain rfl := Option.some.inj H
                         go_wp2
                         go_ret
                         exact ⟨by first | rfl | (simp [errW_none, errW_some] <;> rfl) | (simp only [← hji34]; first | rfl | (simp [errW_none, errW_some] <;> rfl)) | (simp [*, errW_none, errW_some] <;> rfl), zB HB⟩
                        ·
                         replace c124 := Bool.eq_false_iff.mpr c124
                         subst c124
                         have H1 : (if t245 = 0 then (if 0 ≤ t240 then (if t240 < (l1_1.length : Int) then (standstilllaw06_CounterJoined.j6 kj97 x8_36 t216 y233 t244 (((rd_T35 l1_1 t240).f0) != 2) a0_0 l0_1 a1_0 l1_1 t240 t241) else (none)) else (none)) else (standstilllaw06_CounterJoined.j6 kj97 x8_36 t216 y233 t244 true a0_0 l0_1 a1_0 l1_1 t240 t241)) = some r := by rw [if_neg (show ¬ (false = true) by decide)] at H; exact H
                         clear H
                         have H := H1
                         clear H1
                         have HC125 := Aside0.mk H
                         clear H
                         go_upto_region 18 with (fail)
                         go_cut [152] (fun v152 wc => ∃ (kq : Nat) (x152_124 : Bool), v152 = .bool x152_124 ∧ Aside0 (standstilllaw06_CounterJoined.j6 kq x8_36 t216 y233 t244 x152_124 a0_0 l0_1 a1_0 l1_1 t240 t241 = some r) ∧ Aside0 (kq ≤ kj97) ∧ Aside0 (Kd.R (Kd.int .i64) 3 wc w.heap.size (fun k_ => some k_ ≠ ((.slice Ao107 y233.length co107) : Value).ownBlock ∧ some k_ ≠ ((.slice Ao61 t213.length co61) : Value).ownBlock ∧ some k_ ≠ ((.slice Ao112 t241.length co112) : Value).ownBlock) (.slice Ao56 x8_36.length co56) x8_36) ∧ Aside0 (Kd.R (Kd.int .i64) 3 wc w.heap.size (fun k_ => some k_ ≠ ((.slice Ao56 x8_36.length co56) : Value).ownBlock ∧ some k_ ≠ ((.slice Ao61 t213.length co61) : Value).ownBlock ∧ some k_ ≠ ((.slice Ao112 t241.length co112) : Value).ownBlock) (.slice Ao107 y233.length co107) y233) ∧ Aside0 (Kd.R (Kd.int .i64) 3 wc w.heap.size (fun k_ => some k_ ≠ ((.slice Ao56 x8_36.length co56) : Value).ownBlock ∧ some k_ ≠ ((.slice Ao107 y233.length co107) : Value).ownBlock ∧ some k_ ≠ ((.slice Ao112 t241.length co112) : Value).ownBlock) (.slice Ao61 t213.length co61) t213) ∧ Aside0 (Kd.R (Kd.int .i64) 3 wc w.heap.size (fun k_ => some k_ ≠ ((.slice Ao56 x8_36.length co56) : Value).ownBlock ∧ some k_ ≠ ((.slice Ao107 y233.length co107) : Value).ownBlock ∧ some k_ ≠ ((.slice Ao61 t213.length co61) : Value).ownBlock) (.slice Ao112 t241.length co112) t241) ∧ Aside0 (wc.heap[gb198]? = some (.cells #[.int .i64 a0_0, (.slice A0_1 l0_1.length c0_1)] 24 (0, 0))) ∧ Aside0 (wc.heap[gb199]? = some (.cells #[.int .i64 a1_0, (.slice A1_1 l1_1.length c1_1)] 24 (0, 0))) ∧ Aside0 (wc.heap[gb218]? = some (.cells #[.int .i64 t212, (.slice Ao61 t213.length co61)] 29 (0, 0))) ∧ Aside0 (wc.heap[gb246]? = some (.cells #[.int .i64 t240, (.slice Ao112 t241.length co112)] 29 (0, 0))) ∧ Aside0 (Below w.heap.size w wc))
                         case first =>
                          have H := HC125.out
                          clear HC125
                          by_cases c126 : t245 = 0
                          ·
                           rw [if_pos c126] at H
                           have c126b0 : (t245 == 0) = true := beq_iff_eq.mpr c126
                           have c126b1 : (t245 != 0) = false := bne_eq_false_iff_eq.mpr c126
                           clear c126
                           (first | rw [c126b0] | (simp only [i64_w, i32_w]; rw [c126b0]) | skip)
                           (try rw [c126b1])
                           by_cases c127 : 0 ≤ t240
                           ·
                            rw [if_pos c127] at H
                            have c127b0 : decide (0 ≤ t240) = true := decide_eq_true c127
                            clear c127
                            by_cases c128 : t240 < (l1_1.length : Int)
                            ·
                             rw [if_pos c128] at H
                             have c128b0 : decide (t240 < (l1_1.length : Int)) = true := decide_eq_true c128
                             clear c128
                             have H' := Aside0.mk H
                             clear H
                             have hnb129 := NB199_198.out
                             have hnc129 := NB198_199.out
                             have hnb130 := NB199_218.out
                             have hnc130 := NB218_199.out
                             have hnb131 := NB199_246.out
                             have hnc131 := NB246_199.out
                             have hz132 := zc2 BK199
                             have hnb133 := NB246_198.out
                             have hnc133 := NB198_246.out
                             have hnb134 := NB246_218.out
                             have hnc134 := NB218_246.out
                             have hz135 := zc2 BK246
                             have p248 : 0 ≤ (t240 : Int) := of_decide_eq_true (by first | (with_reducible assumption) | assumption)
                             have q248 : t240 < (l1_1.length : Int) := of_decide_eq_true (by first | (with_reducible assumption) | assumption)
                             obtain ⟨ad248, e248, hx248_0, hx248_1, hx248_2, hx248_3⟩ := at_T35 HR1_1.out t240 p248 q248
                             cases e248
                             replace hx248_0 := (HB.out.cell (World.block_lt_of_cell? w _ hx248_0)).trans hx248_0
                             replace hx248_1 := (HB.out.cell (World.block_lt_of_cell? w _ hx248_1)).trans hx248_1
                             replace hx248_2 := (HB.out.cell (World.block_lt_of_cell? w _ hx248_2)).trans hx248_2
                             replace hx248_3 := (HB.out.cell (World.block_lt_of_cell? w _ hx248_3)).trans hx248_3
                             replace p248 := eq_true p248
                             replace q248 := eq_true q248
                             go_wp2
                             go_meet
                             case rel => exact ⟨_, ((((rd_T35 l1_1 t240).f0) != 2)), (by first | rfl | (simp; done) | (simp [*]; done)), H', ⟨by have := HJ3.out; have := HJ36.out; have := HJ52.out; have := HJ71.out; have := HJ97.out; first | omega | exact Nat.le_refl _⟩, ⟨zR HO_8⟩, ⟨zR HO_13⟩, ⟨zR HO_219001⟩, ⟨zR HO_247001⟩, ⟨zk BK198⟩, ⟨zk BK199⟩, ⟨zk BK218⟩, ⟨zk BK246⟩, ⟨zB HB⟩⟩
                            ·
                             rw [if_neg c128] at H
                             exact absurd H (by simp)
                           ·
                            rw [if_neg c127] at H
                            exact absurd H (by simp)
                          ·
                           rw [if_neg c126] at H
                           have c126b0 : (t245 == 0) = false := beq_eq_false_iff_ne.mpr c126
                           have c126b1 : (t245 != 0) = true := bne_iff_ne.mpr c126
                           (first | rw [c126b0] | (simp only [i64_w, i32_w]; rw [c126b0]) | skip)
                           (try rw [c126b1])
                           have H' := Aside0.mk H
                           clear H
                           go_wp2
                           go_meet
                           case rel => exact ⟨_, (true), (by first | rfl | (simp; done) | (simp [*]; done)), H', ⟨by have := HJ3.out; have := HJ36.out; have := HJ52.out; have := HJ71.out; have := HJ97.out; first | omega | exact Nat.le_refl _⟩, ⟨zR HO_8⟩, ⟨zR HO_13⟩, ⟨zR HO_219001⟩, ⟨zR HO_247001⟩, ⟨zk BK198⟩, ⟨zk BK199⟩, ⟨zk BK218⟩, ⟨zk BK246⟩, ⟨zB HB⟩⟩
                         case rest =>
                          as_aux_lemma =>
                          clear HC125
                          try clear c1
                          try clear q1
                          try clear p2
                          try clear q2
                          try clear hx2
                          try clear c8
                          try clear c9
                          try clear q10
                          try clear c11
                          try clear c12
                          try clear c13
                          try clear p24
                          try clear q24
                          try clear hx24
                          try clear c94
                          try clear q106
                          try clear c114
                          try clear c114b0
                          try clear c114b1
                          try clear c116
                          try clear c117
                          try clear c118
                          try clear c120
                          try clear c121
                          try clear c124
                          try clear c126
                          try clear c126b0
                          try clear c126b1
                          try clear c127
                          try clear c127b0
                          try clear c128
                          try clear c128b0
                          try clear c129
                          try clear c130
                          try clear c131
                          try clear c133
                          try clear c134
                          try clear hz119
                          try clear hz122
                          try clear hz132
                          try clear hz135
                          try clear hx248_0
                          try clear hx248_1
                          try clear hx248_2
                          try clear hx248_3
                          try clear p2
                          try clear p248
                          try clear q1
                          try clear q10
                          try clear q106
                          try clear q248
                          obtain ⟨kq, x152_124, rfl, HA, HJ124, HO_8, HO_13, HO_219001, HO_247001, BK198, BK199, BK218, BK246, HB⟩ := hcut
                          cases kq with
                          | zero => exact absurd HA.out (by simp [standstilllaw06_CounterJoined.j6])
                          | succ kj124 =>
                           have H := HA.out
                           clear HA
                           simp only [standstilllaw06_CounterJoined.j6] at H
                           by_cases c136 : x152_124 = true
                           ·
                            subst c136
                            have H1 : ((standstilllaw06_awake.f kj124).bind fun t249 => (some t249)) = some r := by rw [if_pos rfl] at H; exact H
                            clear H
                            have H := H1
                            clear H1
                            replace H := Option.bind_eq_some_iff.mp H
                            obtain ⟨t249, A1370, H⟩ := H
                            replace H : (some t249) = some r := H
                            have A137 := Aside0.mk A1370
                            clear A1370
                            obtain rfl := Option.some.inj H
                            go_wp2_with (first | ((with_reducible refine gate_callee (f := 7) rfl ?_); refine goesL_ (some 153) rfl rfl Try.func7 (by kernel_rfl) rfl #[] rfl (zm) ?_; (with_reducible refine (standstilllaw06_awake.calls kj124  t249 _ A137.out).mono ?_); rintro e w138 ⟨rfl, hb⟩; refine ⟨_, rfl, ?_⟩; replace HO_8 := Aside0.mk (zRb HO_8 hb); replace HO_13 := Aside0.mk (zRb HO_13 hb); replace HO_219001 := Aside0.mk (zRb HO_219001 hb); replace HO_247001 := Aside0.mk (zRb HO_247001 hb); replace BK198 := Aside0.mk (zb BK198 hb); replace BK199 := Aside0.mk (zb BK199 hb); replace BK218 := Aside0.mk (zb BK218 hb); replace BK246 := Aside0.mk (zb BK246 hb); replace HB := Aside0.mk (below_step (zB HB) hb); (try clear hb); (try clear hb2); (try clear hk); (try clear hi)))
                            go_ret
                            exact ⟨by first | rfl | (simp [errW_none, errW_some] <;> rfl) | (simp only [← hji34]; first | rfl | (simp [errW_none, errW_some] <;> rfl)) | (simp [*, errW_none, errW_some] <;> rfl), zB HB⟩
                           ·
                            replace c136 := Bool.eq_false_iff.mpr c136
                            subst c136
                            have H1 : ((counter_Join.f kj124 a0_0 l0_1 a1_0 l1_1).bind fun bt250 => ((counter_Run.f kj124 bt250.1 bt250.2.1 0 x8_36 10000).bind fun bt256 => ((some (([] : List Int) : List Int)).bind fun y263 => (if y263.length + t241.length < 17592186044416 then ((some (y263 ++ t241 : List Int)).bind fun y266 => (if 0 ≤ a1_0 then (if a1_0 ≤ (y233.length : Int) then ((some (y233.drop (a1_0 : Int).toNat : List Int)).bind fun y269 => (if y266.length + y269.length < 17592186044416 then (if bt250.2.2 = 0 then (if bt256.2.2.2 = 0 then (if bt256.2.2.1 = (wrap64 ((wrap64 (t216 + t244)) + 2)) then (if bt256.1 ≥ 0 then (if bt256.1 < (bt250.2.1.length : Int) then (if 0 ≤ bt256.1 then (if ((rd_T35 bt250.2.1 bt256.1).f0) = 2 then ((standstillref06_SameCount.f kj124 0 (y266 ++ y269) 0 bt256.2.1).bind fun t277 => (if t277 = true then ((standstilllaw06_awake.f kj124).bind fun t278 => (some t278)) else (some false))) else (some false)) else (none)) else (some false)) else (some false)) else (some false)) else (some false)) else (some false)) else (none))) else (none)) else (none))) else (none))))) = some r := by rw [if_neg (show ¬ (false = true) by decide)] at H; exact H
                            clear H
                            have H := H1
                            clear H1
                            replace H := Option.bind_eq_some_iff.mp H
                            obtain ⟨⟨t250, t251, t254⟩, A1390, H⟩ := H
                            replace H : ((counter_Run.f kj124 t250 t251 0 x8_36 10000).bind fun bt256 => ((some (([] : List Int) : List Int)).bind fun y263 => (if y263.length + t241.length < 17592186044416 then ((some (y263 ++ t241 : List Int)).bind fun y266 => (if 0 ≤ a1_0 then (if a1_0 ≤ (y233.length : Int) then ((some (y233.drop (a1_0 : Int).toNat : List Int)).bind fun y269 => (if y266.length + y269.length < 17592186044416 then (if t254 = 0 then (if bt256.2.2.2 = 0 then (if bt256.2.2.1 = (wrap64 ((wrap64 (t216 + t244)) + 2)) then (if bt256.1 ≥ 0 then (if bt256.1 < (t251.length : Int) then (if 0 ≤ bt256.1 then (if ((rd_T35 t251 bt256.1).f0) = 2 then ((standstillref06_SameCount.f kj124 0 (y266 ++ y269) 0 bt256.2.1).bind fun t277 => (if t277 = true then ((standstilllaw06_awake.f kj124).bind fun t278 => (some t278)) else (some false))) else (some false)) else (none)) else (some false)) else (some false)) else (some false)) else (some false)) else (some false)) else (none))) else (none)) else (none))) else (none)))) = some r := H
                            have A139 := Aside0.mk A1390
                            clear A1390
                            replace H := Option.bind_eq_some_iff.mp H
                            obtain ⟨⟨t256, t257, t260, t261⟩, A1400, H⟩ := H
                            replace H : ((some (([] : List Int) : List Int)).bind fun y263 => (if y263.length + t241.length < 17592186044416 then ((some (y263 ++ t241 : List Int)).bind fun y266 => (if 0 ≤ a1_0 then (if a1_0 ≤ (y233.length : Int) then ((some (y233.drop (a1_0 : Int).toNat : List Int)).bind fun y269 => (if y266.length + y269.length < 17592186044416 then (if t254 = 0 then (if t261 = 0 then (if t260 = (wrap64 ((wrap64 (t216 + t244)) + 2)) then (if t256 ≥ 0 then (if t256 < (t251.length : Int) then (if 0 ≤ t256 then (if ((rd_T35 t251 t256).f0) = 2 then ((standstillref06_SameCount.f kj124 0 (y266 ++ y269) 0 t257).bind fun t277 => (if t277 = true then ((standstilllaw06_awake.f kj124).bind fun t278 => (some t278)) else (some false))) else (some false)) else (none)) else (some false)) else (some false)) else (some false)) else (some false)) else (some false)) else (none))) else (none)) else (none))) else (none))) = some r := H
                            have A140 := Aside0.mk A1400
                            clear A1400
                            obtain ⟨y263, hy263⟩ : ∃ y_ : List Int, y_ = (([] : List Int)) := ⟨_, rfl⟩
                            replace H : (if y263.length + t241.length < 17592186044416 then ((some (y263 ++ t241 : List Int)).bind fun y266 => (if 0 ≤ a1_0 then (if a1_0 ≤ (y233.length : Int) then ((some (y233.drop (a1_0 : Int).toNat : List Int)).bind fun y269 => (if y266.length + y269.length < 17592186044416 then (if t254 = 0 then (if t261 = 0 then (if t260 = (wrap64 ((wrap64 (t216 + t244)) + 2)) then (if t256 ≥ 0 then (if t256 < (t251.length : Int) then (if 0 ≤ t256 then (if ((rd_T35 t251 t256).f0) = 2 then ((standstillref06_SameCount.f kj124 0 (y266 ++ y269) 0 t257).bind fun t277 => (if t277 = true then ((standstilllaw06_awake.f kj124).bind fun t278 => (some t278)) else (some false))) else (some false)) else (none)) else (some false)) else (some false)) else (some false)) else (some false)) else (some false)) else (none))) else (none)) else (none))) else (none)) = some r := by first | (rw [hy263]; with_reducible exact H) | (have H2_ := (Option.bind_some _ _).symm.trans H; rw [hy263]; with_reducible exact H2_) | (have H2_ := (Option.bind_some _ _).symm.trans H; with_reducible exact H2_) | with_reducible exact H | (rw [hy263]; exact H) | exact H
                            have Ny263 := Aside0.mk hy263
                            clear hy263
                            by_cases c141 : y263.length + t241.length < 17592186044416
                            ·
                             rw [if_pos c141] at H
                             have LMc141 := Aside0.mk c141
                             clear c141
                             obtain ⟨y266, hy266⟩ : ∃ y_ : List Int, y_ = (y263 ++ t241) := ⟨_, rfl⟩
                             replace H : (if 0 ≤ a1_0 then (if a1_0 ≤ (y233.length : Int) then ((some (y233.drop (a1_0 : Int).toNat : List Int)).bind fun y269 => (if y266.length + y269.length < 17592186044416 then (if t254 = 0 then (if t261 = 0 then (if t260 = (wrap64 ((wrap64 (t216 + t244)) + 2)) then (if t256 ≥ 0 then (if t256 < (t251.length : Int) then (if 0 ≤ t256 then (if ((rd_T35 t251 t256).f0) = 2 then ((standstillref06_SameCount.f kj124 0 (y266 ++ y269) 0 t257).bind fun t277 => (if t277 = true then ((standstilllaw06_awake.f kj124).bind fun t278 => (some t278)) else (some false))) else (some false)) else (none)) else (some false)) else (some false)) else (some false)) else (some false)) else (some false)) else (none))) else (none)) else (none)) = some r := by first | (rw [hy266]; with_reducible exact H) | (have H2_ := (Option.bind_some _ _).symm.trans H; rw [hy266]; with_reducible exact H2_) | (have H2_ := (Option.bind_some _ _).symm.trans H; with_reducible exact H2_) | with_reducible exact H | (rw [hy266]; exact H) | exact H
                             have Ny266 := Aside0.mk hy266
                             clear hy266
                             by_cases c142 : 0 ≤ a1_0
                             ·
                              rw [if_pos c142] at H
                              have c142b0 := eq_true c142
                              have c142b1 : decide (0 ≤ a1_0) = true := decide_eq_true c142
                              clear c142
                              by_cases c143 : a1_0 ≤ (y233.length : Int)
                              ·
                               rw [if_pos c143] at H
                               have c143b0 := eq_true c143
                               have c143b1 : decide (a1_0 ≤ (y233.length : Int)) = true := decide_eq_true c143
                               clear c143
                               obtain ⟨y269, hy269⟩ : ∃ y_ : List Int, y_ = (y233.drop (a1_0 : Int).toNat) := ⟨_, rfl⟩
                               replace H : (if y266.length + y269.length < 17592186044416 then (if t254 = 0 then (if t261 = 0 then (if t260 = (wrap64 ((wrap64 (t216 + t244)) + 2)) then (if t256 ≥ 0 then (if t256 < (t251.length : Int) then (if 0 ≤ t256 then (if ((rd_T35 t251 t256).f0) = 2 then ((standstillref06_SameCount.f kj124 0 (y266 ++ y269) 0 t257).bind fun t277 => (if t277 = true then ((standstilllaw06_awake.f kj124).bind fun t278 => (some t278)) else (some false))) else (some false)) else (none)) else (some false)) else (some false)) else (some false)) else (some false)) else (some false)) else (none)) = some r := by first | (rw [hy269]; with_reducible exact H) | (have H2_ := (Option.bind_some _ _).symm.trans H; rw [hy269]; with_reducible exact H2_) | (have H2_ := (Option.bind_some _ _).symm.trans H; with_reducible exact H2_) | with_reducible exact H | (rw [hy269]; exact H) | exact H
                               have Ny269 := Aside0.mk hy269
                               clear hy269
                               by_cases c144 : y266.length + y269.length < 17592186044416
                               ·
                                rw [if_pos c144] at H
                                have LMc144 := Aside0.mk c144
                                clear c144
                                obtain ⟨y273, hy273⟩ : ∃ y_ : List Int, y_ = (y266 ++ y269) := ⟨_, rfl⟩
                                replace H : (if t254 = 0 then (if t261 = 0 then (if t260 = (wrap64 ((wrap64 (t216 + t244)) + 2)) then (if t256 ≥ 0 then (if t256 < (t251.length : Int) then (if 0 ≤ t256 then (if ((rd_T35 t251 t256).f0) = 2 then ((standstillref06_SameCount.f kj124 0 y273 0 t257).bind fun t277 => (if t277 = true then ((standstilllaw06_awake.f kj124).bind fun t278 => (some t278)) else (some false))) else (some false)) else (none)) else (some false)) else (some false)) else (some false)) else (some false)) else (some false)) = some r := by first | (rw [hy273]; with_reducible exact H) | (have H2_ := (Option.bind_some _ _).symm.trans H; rw [hy273]; with_reducible exact H2_) | (have H2_ := (Option.bind_some _ _).symm.trans H; with_reducible exact H2_) | with_reducible exact H | (rw [hy273]; exact H) | exact H
                                have Ny273 := Aside0.mk hy273
                                clear hy273
                                have HC145 := Aside0.mk H
                                clear H
                                have hnb146 := NB198_199.out
                                have hnc146 := NB199_198.out
                                have hnb147 := NB198_218.out
                                have hnc147 := NB218_198.out
                                have hnb148 := NB198_246.out
                                have hnc148 := NB246_198.out
                                have hz149 := zc2 BK198
                                have hnb150 := NB199_218.out
                                have hnc150 := NB218_199.out
                                have hnb151 := NB199_246.out
                                have hnc151 := NB246_199.out
                                have hz152 := zc2 BK199
                                try go_wp2_with (first | ((with_reducible refine gate_callee (f := 10) rfl ?_); refine goesL_ (some 157) rfl rfl Try.func10 (by kernel_rfl) rfl #[.agg #[.int .i64 a0_0, .slice A0_1 l0_1.length c0_1], .agg #[.int .i64 a1_0, .slice A1_1 l1_1.length c1_1]] rfl (zm) ?_; (with_reducible refine (counter_Join.calls kj124 a0_0 _ _ l0_1 a1_0 _ _ l1_1 t250 t251 t254 _ ?side1 ?side2 ?side3 ?side4 A139.out).mono ?_); (case side1 => exact zC ((Kd.C_below HR0_1.out HB.out))); (case side2 => exact HC0_1.out); (case side3 => exact zC ((Kd.C_below HR1_1.out HB.out))); (case side4 => exact HC1_1.out); rintro e w153 ⟨v252, rfl, ho0, hb⟩; refine ⟨_, rfl, ?_⟩; have HO253 := Aside0.mk (Kd.R_lower ho0 (below_size (zB HB))); replace HO_8 := Aside0.mk (zRb HO_8 hb); replace HO_13 := Aside0.mk (zRb HO_13 hb); replace HO_219001 := Aside0.mk (zRb HO_219001 hb); replace HO_247001 := Aside0.mk (zRb HO_247001 hb); replace BK198 := Aside0.mk (zb BK198 hb); replace BK199 := Aside0.mk (zb BK199 hb); replace BK218 := Aside0.mk (zb BK218 hb); replace BK246 := Aside0.mk (zb BK246 hb); replace HB := Aside0.mk (below_step (zB HB) hb); (try clear hb); (try clear hb2); (try clear hk); (try clear hi); (try clear ho0)) | ((with_reducible refine gate_dst (N := 17) rfl ?_); (try (refine gate_guard (by rfl) ?_; dsimp only)); refine box_event ?hg (N := 17) ?hd (cs := #[.int .i64 0, .slice none 0 0]) (t := 24) ?hr ?_; (case hd => rfl); (case hg => rfl); (case hr => first | (go_simp; done) | (go_simp; rfl)); intro gb255 hg w154 hbox hb; have BK255 := Aside0.mk (hbox); have GW255 := Aside0.mk ((by rw [hg]; exact (below_size (zB HB)) : w.heap.size ≤ gb255)); have GE255 := Aside0.mk ((by rw [hg]; exact (below_size (zB HB)) : w.heap.size ≤ gb255)); have NB198_255 := Aside0.mk ((by rw [hg]; exact Nat.ne_of_lt (zL BK198) : gb198 ≠ gb255)); have NB255_198 := Aside0.mk ((by rw [hg]; exact Nat.ne_of_gt (zL BK198) : gb255 ≠ gb198)); have NB199_255 := Aside0.mk ((by rw [hg]; exact Nat.ne_of_lt (zL BK199) : gb199 ≠ gb255)); have NB255_199 := Aside0.mk ((by rw [hg]; exact Nat.ne_of_gt (zL BK199) : gb255 ≠ gb199)); have NB218_255 := Aside0.mk ((by rw [hg]; exact Nat.ne_of_lt (zL BK218) : gb218 ≠ gb255)); have NB255_218 := Aside0.mk ((by rw [hg]; exact Nat.ne_of_gt (zL BK218) : gb255 ≠ gb218)); have NB246_255 := Aside0.mk ((by rw [hg]; exact Nat.ne_of_lt (zL BK246) : gb246 ≠ gb255)); have NB255_246 := Aside0.mk ((by rw [hg]; exact Nat.ne_of_gt (zL BK246) : gb255 ≠ gb246)); replace HO_8 := Aside0.mk (zRb HO_8 hb); replace HO_13 := Aside0.mk (zRb HO_13 hb); replace HO_219001 := Aside0.mk (zRb HO_219001 hb); replace HO_247001 := Aside0.mk (zRb HO_247001 hb); replace HO253 := Aside0.mk (zRb HO253 hb); replace BK198 := Aside0.mk (zb BK198 hb); replace BK199 := Aside0.mk (zb BK199 hb); replace BK218 := Aside0.mk (zb BK218 hb); replace BK246 := Aside0.mk (zb BK246 hb); replace HB := Aside0.mk (below_step (zB HB) hb); clear hb hbox hg; have hnb155 := NB255_198.out; have hnc155 := NB198_255.out; have hnb156 := NB255_199.out; have hnc156 := NB199_255.out; have hnb157 := NB255_218.out; have hnc157 := NB218_255.out; have hnb158 := NB255_246.out; have hnc158 := NB246_255.out; have hz159 := zc2 BK255; obtain ⟨Ao160, co160, eo160⟩ := Kd.R_slice HO253.out; subst eo160) | ((with_reducible refine gate_callee (f := 8) rfl ?_); refine goesL_ (some 164) rfl rfl Try.func8 (by kernel_rfl) rfl #[.agg #[.int .i64 t250, .slice Ao160 t251.length co160], .agg #[.int .i64 0, .slice Ao56 x8_36.length co56], .int .i64 10000] rfl (zm) ?_; (with_reducible refine (counter_Run.calls kj124 t250 _ _ t251 0 _ _ x8_36 10000 t256 t257 t260 t261 _ ?side1 ?side2 ?side3 ?side4 A140.out).mono ?_); (case side1 => refine (Kd.R_reads' (e := 35) (base := w.heap.size) (ok := fun k_ => True) (n := t251.length) (c := co160) ?_).2.2; exact (by (with_reducible repeat (first | apply Kd.R_alloc | apply Kd.R_drewN | apply Kd.R_drew)); exact (Kd.R_mono (zRf2 (g := gb255) (Kd.R_types HO253.out BK255.out (by decide))) (fun _ h_ => h_.1)))); (case side2 => exact (Kd.R_reads' HO253.out).2.1); (case side3 => refine (Kd.R_reads' (e := 3) (base := w.heap.size) (ok := fun k_ => (some k_ ≠ (.slice Ao107 y233.length co107 : Value).ownBlock ∧ (some k_ ≠ (.slice Ao61 t213.length co61 : Value).ownBlock ∧ some k_ ≠ (.slice Ao112 t241.length co112 : Value).ownBlock))) (n := x8_36.length) (c := co56) ?_).2.2; exact (by (with_reducible repeat (first | apply Kd.R_alloc | apply Kd.R_drewN | apply Kd.R_drew)); exact (Kd.R_mono (zRf2 (g := gb255) (Kd.R_types HO_8.out BK255.out (by decide))) (fun _ h_ => h_.1)))); (case side4 => exact (Kd.R_reads' HO_8.out).2.1); rintro e w161 ⟨v258, rfl, ho0, hb⟩; refine ⟨_, rfl, ?_⟩; have HO259 := Aside0.mk (Kd.R_lower (Kd.R_new' (Kd.R_new' (Kd.R_new' (Kd.R_new' ho0 (Kd.R_lt (by (with_reducible repeat (first | apply Kd.R_alloc | apply Kd.R_drewN | apply Kd.R_drew)); exact (Kd.R_mono (zRf2 (g := gb255) (Kd.R_types HO_8.out BK255.out (by decide))) (fun _ h_ => h_.1))))) (Kd.R_lt (by (with_reducible repeat (first | apply Kd.R_alloc | apply Kd.R_drewN | apply Kd.R_drew)); exact (Kd.R_mono (zRf2 (g := gb255) (Kd.R_types HO_13.out BK255.out (by decide))) (fun _ h_ => h_.1))))) (Kd.R_lt (by (with_reducible repeat (first | apply Kd.R_alloc | apply Kd.R_drewN | apply Kd.R_drew)); exact (Kd.R_mono (zRf2 (g := gb255) (Kd.R_types HO_219001.out BK255.out (by decide))) (fun _ h_ => h_.1))))) (Kd.R_lt (by (with_reducible repeat (first | apply Kd.R_alloc | apply Kd.R_drewN | apply Kd.R_drew)); exact (Kd.R_mono (zRf2 (g := gb255) (Kd.R_types HO_247001.out BK255.out (by decide))) (fun _ h_ => h_.1))))) (below_size (zB HB))); replace HO_8 := Aside0.mk (Kd.R_elder' (by (with_reducible repeat (first | apply Kd.R_alloc | apply Kd.R_drewN | apply Kd.R_drew)); exact (Kd.R_mono (zRf2 (g := gb255) (Kd.R_types HO_8.out BK255.out (by decide))) (fun _ h_ => h_.1))) (Kd.R_base ho0) hb); replace HO_13 := Aside0.mk (Kd.R_elder' (by (with_reducible repeat (first | apply Kd.R_alloc | apply Kd.R_drewN | apply Kd.R_drew)); exact (Kd.R_mono (zRf2 (g := gb255) (Kd.R_types HO_13.out BK255.out (by decide))) (fun _ h_ => h_.1))) (Kd.R_base ho0) hb); replace HO_219001 := Aside0.mk (Kd.R_elder' (by (with_reducible repeat (first | apply Kd.R_alloc | apply Kd.R_drewN | apply Kd.R_drew)); exact (Kd.R_mono (zRf2 (g := gb255) (Kd.R_types HO_219001.out BK255.out (by decide))) (fun _ h_ => h_.1))) (Kd.R_base ho0) hb); replace HO_247001 := Aside0.mk (Kd.R_elder' (by (with_reducible repeat (first | apply Kd.R_alloc | apply Kd.R_drewN | apply Kd.R_drew)); exact (Kd.R_mono (zRf2 (g := gb255) (Kd.R_types HO_247001.out BK255.out (by decide))) (fun _ h_ => h_.1))) (Kd.R_base ho0) hb); replace HO253 := Aside0.mk (Kd.R_below (by (with_reducible repeat (first | apply Kd.R_alloc | apply Kd.R_drewN | apply Kd.R_drew)); exact (Kd.R_mono (zRf2 (g := gb255) (Kd.R_types HO253.out BK255.out (by decide))) (fun _ h_ => h_.1))) hb); replace BK198 := Aside0.mk (blk_below (g := gb198) (o := .cells #[.int .i64 a0_0, .slice A0_1 l0_1.length c0_1] 24 (0, 0)) (zK BK198) hb); replace BK199 := Aside0.mk (blk_below (g := gb199) (o := .cells #[.int .i64 a1_0, .slice A1_1 l1_1.length c1_1] 24 (0, 0)) (zK BK199) hb); replace BK218 := Aside0.mk (blk_below (g := gb218) (o := .cells #[.int .i64 t212, .slice Ao61 t213.length co61] 29 (0, 0)) (zK BK218) hb); replace BK246 := Aside0.mk (blk_below (g := gb246) (o := .cells #[.int .i64 t240, .slice Ao112 t241.length co112] 29 (0, 0)) (zK BK246) hb); replace BK255 := Aside0.mk (blk_below (g := gb255) (o := .cells #[.int .i64 t250, .slice Ao160 t251.length co160] 24 (0, 0)) (by (with_reducible repeat (first | refine blk_drewN ?_ _ | refine blk_drew ?_ | refine blk_alloc ?_ _)); refine blk_put (cs := #[.int .i64 t250, .slice none 0 0]) ?_ 1 _ rfl; (with_reducible repeat (first | refine blk_drewN ?_ _ | refine blk_drew ?_ | refine blk_alloc ?_ _)); refine blk_put (cs := #[.int .i64 0, .slice none 0 0]) ?_ 0 _ rfl; (with_reducible repeat (first | refine blk_drewN ?_ _ | refine blk_drew ?_ | refine blk_alloc ?_ _)); exact BK255.out) hb); replace HB := Aside0.mk (below_step (zB HB) hb); (try clear hb); (try clear hb2); (try clear hk); (try clear hi); (try clear ho0)) | ((with_reducible refine gate_dst (N := 19) rfl ?_); (try (refine gate_guard (by rfl) ?_; dsimp only)); refine box_event ?hg (N := 19) ?hd (cs := #[.int .i64 0, .slice none 0 0]) (t := 29) ?hr ?_; (case hd => rfl); (case hg => rfl); (case hr => first | (go_simp; done) | (go_simp; rfl)); intro gb262 hg w162 hbox hb; have BK262 := Aside0.mk (hbox); have GW262 := Aside0.mk ((by rw [hg]; exact (below_size (zB HB)) : w.heap.size ≤ gb262)); have GE262 := Aside0.mk ((by rw [hg]; exact (below_size (zB HB)) : w.heap.size ≤ gb262)); have NB198_262 := Aside0.mk ((by rw [hg]; exact Nat.ne_of_lt (zL BK198) : gb198 ≠ gb262)); have NB262_198 := Aside0.mk ((by rw [hg]; exact Nat.ne_of_gt (zL BK198) : gb262 ≠ gb198)); have NB199_262 := Aside0.mk ((by rw [hg]; exact Nat.ne_of_lt (zL BK199) : gb199 ≠ gb262)); have NB262_199 := Aside0.mk ((by rw [hg]; exact Nat.ne_of_gt (zL BK199) : gb262 ≠ gb199)); have NB218_262 := Aside0.mk ((by rw [hg]; exact Nat.ne_of_lt (zL BK218) : gb218 ≠ gb262)); have NB262_218 := Aside0.mk ((by rw [hg]; exact Nat.ne_of_gt (zL BK218) : gb262 ≠ gb218)); have NB246_262 := Aside0.mk ((by rw [hg]; exact Nat.ne_of_lt (zL BK246) : gb246 ≠ gb262)); have NB262_246 := Aside0.mk ((by rw [hg]; exact Nat.ne_of_gt (zL BK246) : gb262 ≠ gb246)); have NB255_262 := Aside0.mk ((by rw [hg]; exact Nat.ne_of_lt (zL BK255) : gb255 ≠ gb262)); have NB262_255 := Aside0.mk ((by rw [hg]; exact Nat.ne_of_gt (zL BK255) : gb262 ≠ gb255)); replace HO_8 := Aside0.mk (zRb HO_8 hb); replace HO_13 := Aside0.mk (zRb HO_13 hb); replace HO_219001 := Aside0.mk (zRb HO_219001 hb); replace HO_247001 := Aside0.mk (zRb HO_247001 hb); replace HO253 := Aside0.mk (zRb HO253 hb); replace HO259 := Aside0.mk (zRb HO259 hb); replace BK198 := Aside0.mk (zb BK198 hb); replace BK199 := Aside0.mk (zb BK199 hb); replace BK218 := Aside0.mk (zb BK218 hb); replace BK246 := Aside0.mk (zb BK246 hb); replace BK255 := Aside0.mk (zb BK255 hb); replace HB := Aside0.mk (below_step (zB HB) hb); clear hb hbox hg; have hnb163 := NB262_198.out; have hnc163 := NB198_262.out; have hnb164 := NB262_199.out; have hnc164 := NB199_262.out; have hnb165 := NB262_218.out; have hnc165 := NB218_262.out; have hnb166 := NB262_246.out; have hnc166 := NB246_262.out; have hnb167 := NB262_255.out; have hnc167 := NB255_262.out; have hz168 := zc2 BK262; obtain ⟨Ao169, co169, eo169⟩ := Kd.R_slice HO259.out; subst eo169))
                                have n0_ : Aside0 (Kd.R (Kd.int .i64) 3 ((w162.setCell ⟨gb262, 0, none⟩ (.int .i64 t256)).setCell ⟨gb262, 1, none⟩ (.slice Ao169 t257.length co169)) w.heap.size (fun k_ => some k_ ≠ (.slice Ao107 y233.length co107 : Value).ownBlock ∧ some k_ ≠ (.slice Ao61 t213.length co61 : Value).ownBlock ∧ some k_ ≠ (.slice Ao112 t241.length co112 : Value).ownBlock ∧ some k_ ≠ (.slice Ao169 t257.length co169 : Value).ownBlock) (.slice Ao56 x8_36.length co56) x8_36) := ⟨by (with_reducible repeat (first | apply Kd.R_alloc | apply Kd.R_drewN | apply Kd.R_drew)); exact Kd.R_mono (zRf2 (g := gb262) (Kd.R_types HO_8.out BK262.out (by decide))) (fun _ hk => ⟨hk.1.1.1, ⟨hk.1.1.2.1, ⟨hk.1.1.2.2, hk.1.2⟩⟩⟩)⟩
                                have n1_ : Aside0 (Kd.R (Kd.int .i64) 3 ((w162.setCell ⟨gb262, 0, none⟩ (.int .i64 t256)).setCell ⟨gb262, 1, none⟩ (.slice Ao169 t257.length co169)) w.heap.size (fun k_ => some k_ ≠ (.slice Ao56 x8_36.length co56 : Value).ownBlock ∧ some k_ ≠ (.slice Ao61 t213.length co61 : Value).ownBlock ∧ some k_ ≠ (.slice Ao112 t241.length co112 : Value).ownBlock ∧ some k_ ≠ (.slice Ao169 t257.length co169 : Value).ownBlock) (.slice Ao107 y233.length co107) y233) := ⟨by (with_reducible repeat (first | apply Kd.R_alloc | apply Kd.R_drewN | apply Kd.R_drew)); exact Kd.R_mono (zRf2 (g := gb262) (Kd.R_types HO_13.out BK262.out (by decide))) (fun _ hk => ⟨hk.1.1.1, ⟨hk.1.1.2.1, ⟨hk.1.1.2.2, hk.1.2⟩⟩⟩)⟩
                                have n2_ : Aside0 (Kd.R (Kd.int .i64) 3 ((w162.setCell ⟨gb262, 0, none⟩ (.int .i64 t256)).setCell ⟨gb262, 1, none⟩ (.slice Ao169 t257.length co169)) w.heap.size (fun k_ => some k_ ≠ (.slice Ao56 x8_36.length co56 : Value).ownBlock ∧ some k_ ≠ (.slice Ao107 y233.length co107 : Value).ownBlock ∧ some k_ ≠ (.slice Ao112 t241.length co112 : Value).ownBlock ∧ some k_ ≠ (.slice Ao169 t257.length co169 : Value).ownBlock) (.slice Ao61 t213.length co61) t213) := ⟨by (with_reducible repeat (first | apply Kd.R_alloc | apply Kd.R_drewN | apply Kd.R_drew)); exact Kd.R_mono (zRf2 (g := gb262) (Kd.R_types HO_219001.out BK262.out (by decide))) (fun _ hk => ⟨hk.1.1.1, ⟨hk.1.1.2.1, ⟨hk.1.1.2.2, hk.1.2⟩⟩⟩)⟩
                                have n3_ : Aside0 (Kd.R (Kd.int .i64) 3 ((w162.setCell ⟨gb262, 0, none⟩ (.int .i64 t256)).setCell ⟨gb262, 1, none⟩ (.slice Ao169 t257.length co169)) w.heap.size (fun k_ => some k_ ≠ (.slice Ao56 x8_36.length co56 : Value).ownBlock ∧ some k_ ≠ (.slice Ao107 y233.length co107 : Value).ownBlock ∧ some k_ ≠ (.slice Ao61 t213.length co61 : Value).ownBlock ∧ some k_ ≠ (.slice Ao169 t257.length co169 : Value).ownBlock) (.slice Ao112 t241.length co112) t241) := ⟨by (with_reducible repeat (first | apply Kd.R_alloc | apply Kd.R_drewN | apply Kd.R_drew)); exact Kd.R_mono (zRf2 (g := gb262) (Kd.R_types HO_247001.out BK262.out (by decide))) (fun _ hk => ⟨hk.1.1.1, ⟨hk.1.1.2.1, ⟨hk.1.1.2.2, hk.1.2⟩⟩⟩)⟩
                                have n4_ : Aside0 (Kd.R k35 35 ((w162.setCell ⟨gb262, 0, none⟩ (.int .i64 t256)).setCell ⟨gb262, 1, none⟩ (.slice Ao169 t257.length co169)) w.heap.size (fun _ => True) (.slice Ao160 t251.length co160) t251) := ⟨by (with_reducible repeat (first | apply Kd.R_alloc | apply Kd.R_drewN | apply Kd.R_drew)); exact Kd.R_mono (zRf2 (g := gb262) (Kd.R_types HO253.out BK262.out (by decide))) (fun _ hk => trivial)⟩
                                have n5_ : Aside0 (Kd.R (Kd.int .i64) 3 ((w162.setCell ⟨gb262, 0, none⟩ (.int .i64 t256)).setCell ⟨gb262, 1, none⟩ (.slice Ao169 t257.length co169)) w.heap.size (fun k_ => some k_ ≠ (.slice Ao56 x8_36.length co56 : Value).ownBlock ∧ some k_ ≠ (.slice Ao107 y233.length co107 : Value).ownBlock ∧ some k_ ≠ (.slice Ao61 t213.length co61 : Value).ownBlock ∧ some k_ ≠ (.slice Ao112 t241.length co112 : Value).ownBlock) (.slice Ao169 t257.length co169) t257) := ⟨by (with_reducible repeat (first | apply Kd.R_alloc | apply Kd.R_drewN | apply Kd.R_drew)); exact Kd.R_mono (zRf2 (g := gb262) (Kd.R_types HO259.out BK262.out (by decide))) (fun _ hk => ⟨hk.1.1.1.1.2, ⟨hk.1.1.1.2, ⟨hk.1.1.2, hk.1.2⟩⟩⟩)⟩
                                have n6_ : Aside0 (((w162.setCell ⟨gb262, 0, none⟩ (.int .i64 t256)).setCell ⟨gb262, 1, none⟩ (.slice Ao169 t257.length co169)).heap[gb198]? = some (.cells #[.int .i64 a0_0, .slice A0_1 l0_1.length c0_1] 24 (0, 0))) := ⟨zK BK198⟩
                                have n7_ : Aside0 (((w162.setCell ⟨gb262, 0, none⟩ (.int .i64 t256)).setCell ⟨gb262, 1, none⟩ (.slice Ao169 t257.length co169)).heap[gb199]? = some (.cells #[.int .i64 a1_0, .slice A1_1 l1_1.length c1_1] 24 (0, 0))) := ⟨zK BK199⟩
                                have n8_ : Aside0 (((w162.setCell ⟨gb262, 0, none⟩ (.int .i64 t256)).setCell ⟨gb262, 1, none⟩ (.slice Ao169 t257.length co169)).heap[gb218]? = some (.cells #[.int .i64 t212, .slice Ao61 t213.length co61] 29 (0, 0))) := ⟨zK BK218⟩
                                have n9_ : Aside0 (((w162.setCell ⟨gb262, 0, none⟩ (.int .i64 t256)).setCell ⟨gb262, 1, none⟩ (.slice Ao169 t257.length co169)).heap[gb246]? = some (.cells #[.int .i64 t240, .slice Ao112 t241.length co112] 29 (0, 0))) := ⟨zK BK246⟩
                                have n10_ : Aside0 (((w162.setCell ⟨gb262, 0, none⟩ (.int .i64 t256)).setCell ⟨gb262, 1, none⟩ (.slice Ao169 t257.length co169)).heap[gb255]? = some (.cells #[.int .i64 t250, .slice Ao160 t251.length co160] 24 (0, 0))) := ⟨zK BK255⟩
                                have n11_ : Aside0 (((w162.setCell ⟨gb262, 0, none⟩ (.int .i64 t256)).setCell ⟨gb262, 1, none⟩ (.slice Ao169 t257.length co169)).heap[gb262]? = some (.cells #[.int .i64 t256, .slice Ao169 t257.length co169] 29 (0, 0))) := ⟨by (with_reducible repeat (first | refine blk_drewN ?_ _ | refine blk_drew ?_ | refine blk_alloc ?_ _)); refine blk_put (cs := #[.int .i64 t256, .slice none 0 0]) ?_ 1 _ rfl; (with_reducible repeat (first | refine blk_drewN ?_ _ | refine blk_drew ?_ | refine blk_alloc ?_ _)); refine blk_put (cs := #[.int .i64 0, .slice none 0 0]) ?_ 0 _ rfl; (with_reducible repeat (first | refine blk_drewN ?_ _ | refine blk_drew ?_ | refine blk_alloc ?_ _)); exact BK262.out⟩
                                have n12_ : Aside0 (Below w.heap.size w ((w162.setCell ⟨gb262, 0, none⟩ (.int .i64 t256)).setCell ⟨gb262, 1, none⟩ (.slice Ao169 t257.length co169))) := ⟨zB HB⟩
                                (try clear HO_8)
                                (try clear HO_13)
                                (try clear HO_219001)
                                (try clear HO_247001)
                                (try clear HO253)
                                (try clear HO259)
                                (try clear BK198)
                                (try clear BK199)
                                (try clear BK218)
                                (try clear BK246)
                                (try clear BK255)
                                (try clear BK262)
                                (try clear HB)
                                generalize ((w162.setCell ⟨gb262, 0, none⟩ (.int .i64 t256)).setCell ⟨gb262, 1, none⟩ (.slice Ao169 t257.length co169)) = w170 at n0_ n1_ n2_ n3_ n4_ n5_ n6_ n7_ n8_ n9_ n10_ n11_ n12_ ⊢
                                have HO_8 := n0_
                                have HO_13 := n1_
                                have HO_219001 := n2_
                                have HO_247001 := n3_
                                have HO253 := n4_
                                have HO259 := n5_
                                have BK198 := n6_
                                have BK199 := n7_
                                have BK218 := n8_
                                have BK246 := n9_
                                have BK255 := n10_
                                have BK262 := n11_
                                have HB := n12_
                                clear n0_ n1_ n2_ n3_ n4_ n5_ n6_ n7_ n8_ n9_ n10_ n11_ n12_
                                replace HO_8 := Aside0.mk (Kd.R_drew HO_8.out)
                                replace HO_13 := Aside0.mk (Kd.R_drew HO_13.out)
                                replace HO_219001 := Aside0.mk (Kd.R_drew HO_219001.out)
                                replace HO_247001 := Aside0.mk (Kd.R_drew HO_247001.out)
                                replace HO253 := Aside0.mk (Kd.R_drew HO253.out)
                                replace HO259 := Aside0.mk (Kd.R_drew HO259.out)
                                replace BK198 := Aside0.mk (blk_drew BK198.out)
                                replace BK199 := Aside0.mk (blk_drew BK199.out)
                                replace BK218 := Aside0.mk (blk_drew BK218.out)
                                replace BK246 := Aside0.mk (blk_drew BK246.out)
                                replace BK255 := Aside0.mk (blk_drew BK255.out)
                                replace BK262 := Aside0.mk (blk_drew BK262.out)
                                replace HB := Aside0.mk (below_drew1 HB.out)
                                have q172 : (a1_0 : Int) ≤ ((y233.length : Int) : Int) := of_decide_eq_true (by first | (with_reducible assumption) | assumption)
                                obtain ⟨i0172, hi0172, _, hsz172, _⟩ := info_parts info3
                                have hroom172 : y233.length ≤ co107 := (Kd.R_reads' HO_13.out).2.1
                                have hC172 : Kd.C (Kd.int .i64) _ Ao107 y233.length y233 := (Kd.R_reads' HO_13.out).2.2
                                have q0172 : (0 : Int) ≤ (a1_0 : Int) := of_decide_eq_true (by first | (with_reducible assumption) | assumption)
                                have hcut172 := cut_from (P := Try.prog) 25 3 .i64 Try.underlying25 hi0172 1 hsz172 Ao107 y233.length co107 a1_0 q0172 q172
                                have hr172 := Kd.C_drop (m := (a1_0 : Int).toNat) (c := co107) hC172 (by omega) hroom172
                                obtain ⟨A172, hA172⟩ : ∃ A1, A1 = (if co107 = (a1_0 : Int).toNat then Ao107 else (Ao107 : Option Addr).map (·.add ((a1_0 : Int).toNat * 1))) := ⟨_, rfl⟩
                                obtain ⟨c172, hc172⟩ : ∃ c1, c1 = co107 - (a1_0 : Int).toNat := ⟨_, rfl⟩
                                have hy172 : y269.length = y233.length - (a1_0 : Int).toNat := (by rw [Ny269.out, List.length_drop] <;> omega)
                                rw [show (y233).drop (a1_0 : Int).toNat = y269 from Ny269.out.symm] at hr172
                                replace hr172 : Kd.C (Kd.int .i64) _ A172 y269.length y269 := (by rw [hA172]; exact hr172)
                                rw [← hy172, ← hA172, ← hc172] at hcut172
                                have HR272 := Aside0.mk hr172
                                have HC272 := Aside0.mk (show y269.length ≤ c172 from by rw [hy172, hc172]; exact Nat.sub_le_sub_right hroom172 _)
                                clear hr172 hC172 hroom172 hi0172 hsz172 hc172
                                have KY172 := Aside0.mk hy172
                                have KA172 := Aside0.mk hA172
                                clear hy172 hA172
                                have KL172 := Aside0.mk (show (a1_0 : Int).toNat ≤ y233.length from by omega)
                                replace q172 := eq_true q172
                                refine start_ (n := 10) (S := fun w' => w'.cell? ⟨gb246, 0, none⟩ = some (.int .i64 t240) ∧ w'.cell? ⟨gb246, 1, none⟩ = some (.slice Ao112 t241.length co112) ∧ w'.cell? ⟨gb199, 0, none⟩ = some (.int .i64 a1_0) ∧ w'.cell? ⟨gb199, 1, none⟩ = some (.slice A1_1 l1_1.length c1_1)) (ds := []) (zl 10 0) (by kernel_rfl) rfl rfl ⟨(blk_cell BK246.out 0).trans rfl, (blk_cell BK246.out 1).trans rfl, (blk_cell BK199.out 0).trans rfl, (blk_cell BK199.out 1).trans rfl⟩ (fun hHeld => ?_); refine with_tabW standstilllaw06_CounterJoined.tab22 standstilllaw06_CounterJoined.bits22 (fun HT_ HW_ => ?_)
                                generalize w170.drew = w171 at HO_8 HO_13 HO_219001 HO_247001 HO253 HO259 BK198 BK199 BK218 BK246 BK255 BK262 HB HR272 hHeld ⊢
                                refine zP 1 (some 169) (zl 10 2) HT_ ?_
                                refine zP 4 (some 172) (zl 10 18) HT_ ?_
                                refine zP 5 (some 173) (zl 10 50) HT_ ?_
                                refine zT 2 (some 170) (zl 10 54) HT_ HW_ hHeld ?_
                                refine zT 6 (some 174) (zl 10 118) HT_ HW_ hHeld ?_
                                refine zP 7 (some 175) (zl 10 246) HT_ ?_
                                refine one_ (i := 0) (N := some 168) (zl 10 247) rfl rfl (one_of HT_.out (by kernel_rfl)) (by decide) (fun K hK => ?_)
                                refine Kd.R_lit_step (Kd.int .i64) _ 3 ?hg (N := 168) ?hd (xs := ([] : List Int)) (inner := []) (ok := fun _ => True) (okp := fun _ => True) ?hr ?hp (fun _ hk => hk) trivial (Below.refl _ _) (Nat.le_refl _) (by simp) ?_; (case hd => rfl); (case hg => rfl); (case hr => first | (go_simp; done) | (go_simp; rfl)); (case hp => exact (Reps.none _ _))
                                intro v264 w173 ho174 hb hg_ hnew_
                                clear hg_ hnew_
                                (first | rw [← Ny263.out] at ho174 | (simp only [Int.reduceToNat] at ho174; rw [← Ny263.out] at ho174))
                                have HO265 := Aside0.mk (Kd.R_lower (Kd.R_new' (Kd.R_new' (Kd.R_new' (Kd.R_new' (Kd.R_new' ho174 (Kd.R_lt (zR HO_8))) (Kd.R_lt (zR HO_13))) (Kd.R_lt (zR HO_219001))) (Kd.R_lt (zR HO_247001))) (Kd.R_lt (zR HO259))) (below_size (zB HB)))
                                replace HO_8 := Aside0.mk (Kd.R_elder' (zR HO_8) (Kd.R_base ho174) hb)
                                replace HO_13 := Aside0.mk (Kd.R_elder' (zR HO_13) (Kd.R_base ho174) hb)
                                replace HO_219001 := Aside0.mk (Kd.R_elder' (zR HO_219001) (Kd.R_base ho174) hb)
                                replace HO_247001 := Aside0.mk (Kd.R_elder' (zR HO_247001) (Kd.R_base ho174) hb)
                                replace HO253 := Aside0.mk (zRb HO253 hb)
                                replace HO259 := Aside0.mk (Kd.R_elder' (zR HO259) (Kd.R_base ho174) hb)
                                replace BK198 := Aside0.mk (zb BK198 hb)
                                replace BK199 := Aside0.mk (zb BK199 hb)
                                replace BK218 := Aside0.mk (zb BK218 hb)
                                replace BK246 := Aside0.mk (zb BK246 hb)
                                replace BK255 := Aside0.mk (zb BK255 hb)
                                replace BK262 := Aside0.mk (zb BK262 hb)
                                replace HR272 := Aside0.mk (Kd.C_below (by repeat (first | (with_reducible exact HR272.out) | (with_reducible refine Kd.C_alloc ?_ _) | (with_reducible refine Kd.C_drewN ?_ _) | (with_reducible refine Kd.C_drew ?_) | exact HR272.out)) hb)
                                replace HB := Aside0.mk (below_step (zB HB) hb)
                                clear hb ho174
                                refine hK.out _ _ ⟨(blk_cell BK246.out 0).trans rfl, (blk_cell BK246.out 1).trans rfl, (blk_cell BK199.out 0).trans rfl, (blk_cell BK199.out 1).trans rfl⟩ (fun hHeld => ?_)
                                clear hK K
                                refine norm_ (a' := ?_) ?_ ?_
                                rotate_left
                                ·
                                 show Act.put _ (some 168) _ = _
                                 simp only [Act.put, zs, zs0, zs1, i64_w, i32_w]
                                 rfl
                                refine one_ (i := 3) (N := some 171) (zl 10 255) rfl rfl (one_of HT_.out (by kernel_rfl)) (by decide) (fun K hK => ?_)
                                refine Kd.R_append_rows_step (Kd.int .i64) (w0 := w) w.heap.size (by rfl) (.tmp 168) (.tmp 170) 25 3 (.int .i64 0) 8 rfl Try.underlying25 info3 rfl (by decide) (by omega) v264 y263 t241 _ _ _ (fun k_ => some k_ ≠ (.slice Ao56 x8_36.length co56 : Value).ownBlock ∧ some k_ ≠ (.slice Ao107 y233.length co107 : Value).ownBlock ∧ some k_ ≠ (.slice Ao61 t213.length co61 : Value).ownBlock ∧ some k_ ≠ (.slice Ao112 t241.length co112 : Value).ownBlock ∧ some k_ ≠ (.slice Ao169 t257.length co169 : Value).ownBlock) (fun _ => False) rfl rfl ?aO ?aR (fun _ _ h => h) (fun _ h => h.elim) ?aF ?aB ?aS ?aL ?_
                                (case aR => exact zC ((Kd.R_reads' HO_247001.out).2.2))
                                (case aB => exact (zB HB))
                                (case aF => exact (fun k_ hk => ⟨Kd.fresh' (Kd.R_lt (zR HO_8)) k_ hk, Kd.fresh' (Kd.R_lt (zR HO_13)) k_ hk, Kd.fresh' (Kd.R_lt (zR HO_219001)) k_ hk, Kd.fresh' (Kd.R_lt (zR HO_247001)) k_ hk, Kd.fresh' (Kd.R_lt (zR HO259)) k_ hk⟩))
                                (case aO => exact (by (with_reducible repeat (first | apply Kd.R_alloc | apply Kd.R_drewN | apply Kd.R_drew)); exact Kd.R_mono HO265.out (fun _ hk => ⟨hk.1.1.1.1.2, ⟨hk.1.1.1.2, ⟨hk.1.1.2, ⟨hk.1.2, hk.2⟩⟩⟩⟩)))
                                (case aS => exact (below_size (zB HB)))
                                (case aL => have := LMc141.out; omega)
                                intro v267 w175 ho hb hg hat
                                rw [← Ny266.out] at ho
                                have n0_ := Aside0.mk (Kd.R_after (ok := (fun k_ => some k_ ≠ (.slice Ao107 y233.length co107 : Value).ownBlock ∧ some k_ ≠ (.slice Ao61 t213.length co61 : Value).ownBlock ∧ some k_ ≠ (.slice Ao112 t241.length co112 : Value).ownBlock ∧ some k_ ≠ (.slice Ao169 t257.length co169 : Value).ownBlock)) (zR HO_8) hg hat)
                                have n1_ := Aside0.mk (Kd.R_after (ok := (fun k_ => some k_ ≠ (.slice Ao56 x8_36.length co56 : Value).ownBlock ∧ some k_ ≠ (.slice Ao61 t213.length co61 : Value).ownBlock ∧ some k_ ≠ (.slice Ao112 t241.length co112 : Value).ownBlock ∧ some k_ ≠ (.slice Ao169 t257.length co169 : Value).ownBlock)) (zR HO_13) hg hat)
                                have n2_ := Aside0.mk (Kd.R_after (ok := (fun k_ => some k_ ≠ (.slice Ao56 x8_36.length co56 : Value).ownBlock ∧ some k_ ≠ (.slice Ao107 y233.length co107 : Value).ownBlock ∧ some k_ ≠ (.slice Ao112 t241.length co112 : Value).ownBlock ∧ some k_ ≠ (.slice Ao169 t257.length co169 : Value).ownBlock)) (zR HO_219001) hg hat)
                                have n3_ := Aside0.mk (Kd.R_after (ok := (fun k_ => some k_ ≠ (.slice Ao56 x8_36.length co56 : Value).ownBlock ∧ some k_ ≠ (.slice Ao107 y233.length co107 : Value).ownBlock ∧ some k_ ≠ (.slice Ao61 t213.length co61 : Value).ownBlock ∧ some k_ ≠ (.slice Ao169 t257.length co169 : Value).ownBlock)) (zR HO_247001) hg hat)
                                have n4_ := Aside0.mk (blk_grown (g := gb198) (o := .cells #[.int .i64 a0_0, .slice A0_1 l0_1.length c0_1] 24 (0, 0)) (zk BK198) hg (Kd.R_ne HO265.out BK198.out (by decide)))
                                have n5_ := Aside0.mk (blk_grown (g := gb199) (o := .cells #[.int .i64 a1_0, .slice A1_1 l1_1.length c1_1] 24 (0, 0)) (zk BK199) hg (Kd.R_ne HO265.out BK199.out (by decide)))
                                have n6_ := Aside0.mk (blk_grown (g := gb218) (o := .cells #[.int .i64 t212, .slice Ao61 t213.length co61] 29 (0, 0)) (zk BK218) hg (Kd.R_ne HO265.out BK218.out (by decide)))
                                have n7_ := Aside0.mk (blk_grown (g := gb246) (o := .cells #[.int .i64 t240, .slice Ao112 t241.length co112] 29 (0, 0)) (zk BK246) hg (Kd.R_ne HO265.out BK246.out (by decide)))
                                have n8_ := Aside0.mk (Kd.R_over' (zR HO253) (Kd.R_typed (zR HO265)) (by decide) hg)
                                have n9_ := Aside0.mk (blk_grown (g := gb255) (o := .cells #[.int .i64 t250, .slice Ao160 t251.length co160] 24 (0, 0)) (zk BK255) hg (Kd.R_ne HO265.out BK255.out (by decide)))
                                have n10_ := Aside0.mk (Kd.R_after (ok := (fun k_ => some k_ ≠ (.slice Ao56 x8_36.length co56 : Value).ownBlock ∧ some k_ ≠ (.slice Ao107 y233.length co107 : Value).ownBlock ∧ some k_ ≠ (.slice Ao61 t213.length co61 : Value).ownBlock ∧ some k_ ≠ (.slice Ao112 t241.length co112 : Value).ownBlock)) (zR HO259) hg hat)
                                have n11_ := Aside0.mk (blk_grown (g := gb262) (o := .cells #[.int .i64 t256, .slice Ao169 t257.length co169] 29 (0, 0)) (zk BK262) hg (Kd.R_ne HO265.out BK262.out (by decide)))
                                have n12_ := Aside0.mk (hb)
                                have n13_ := Aside0.mk ((show Kd.C (Kd.int .i64) w175 A172 y269.length y269 from by rw [Ny269.out, KA172.out]; exact Kd.C_drop (m := (a1_0 : Int).toNat) (c := co107) ((Kd.R_reads' (Kd.R_after (ok := (fun k_ => some k_ ≠ (.slice Ao56 x8_36.length co56 : Value).ownBlock ∧ some k_ ≠ (.slice Ao61 t213.length co61 : Value).ownBlock ∧ some k_ ≠ (.slice Ao112 t241.length co112 : Value).ownBlock ∧ some k_ ≠ (.slice Ao169 t257.length co169 : Value).ownBlock)) (zR HO_13) hg hat)).2.2) KL172.out ((Kd.R_reads' (Kd.R_after (ok := (fun k_ => some k_ ≠ (.slice Ao56 x8_36.length co56 : Value).ownBlock ∧ some k_ ≠ (.slice Ao61 t213.length co61 : Value).ownBlock ∧ some k_ ≠ (.slice Ao112 t241.length co112 : Value).ownBlock ∧ some k_ ≠ (.slice Ao169 t257.length co169 : Value).ownBlock)) (zR HO_13) hg hat)).2.1)))
                                have n14_ := Aside0.mk (ho)
                                clear HO_8
                                clear HO_13
                                clear HO_219001
                                clear HO_247001
                                clear BK198
                                clear BK199
                                clear BK218
                                clear BK246
                                clear HO253
                                clear BK255
                                clear HO259
                                clear BK262
                                clear HB
                                clear HR272
                                clear HO265
                                have HO_8 := n0_
                                have HO_13 := n1_
                                have HO_219001 := n2_
                                have HO_247001 := n3_
                                have BK198 := n4_
                                have BK199 := n5_
                                have BK218 := n6_
                                have BK246 := n7_
                                have HO253 := n8_
                                have BK255 := n9_
                                have HO259 := n10_
                                have BK262 := n11_
                                have HB := n12_
                                have HR272 := n13_
                                have HO268 := n14_
                                clear n0_ n1_ n2_ n3_ n4_ n5_ n6_ n7_ n8_ n9_ n10_ n11_ n12_ n13_ n14_
                                clear ho hb hg hat
                                refine hK.out _ _ ⟨(blk_cell BK246.out 0).trans rfl, (blk_cell BK246.out 1).trans rfl, (blk_cell BK199.out 0).trans rfl, (blk_cell BK199.out 1).trans rfl⟩ (fun hHeld => ?_)
                                clear hK K
                                refine norm_ (a' := ?_) ?_ ?_
                                rotate_left
                                ·
                                 show Act.put _ (some 171) _ = _
                                 simp only [Act.put, zs, zs0, zs1, i64_w, i32_w]
                                 rfl
                                refine one_ (i := 8) (N := some 176) (zl 10 511) rfl rfl (one_of HT_.out (by kernel_rfl)) (by decide) (fun K hK => ?_)
                                refine Kd.R_append_rows_step (Kd.int .i64) (w0 := w) w.heap.size (by rfl) (.tmp 171) (.tmp 175) 25 3 (.int .i64 0) 8 rfl Try.underlying25 info3 rfl (by decide) (by omega) v267 y266 y269 _ _ _ (fun k_ => some k_ ≠ (.slice Ao56 x8_36.length co56 : Value).ownBlock ∧ some k_ ≠ (.slice Ao107 y233.length co107 : Value).ownBlock ∧ some k_ ≠ (.slice Ao61 t213.length co61 : Value).ownBlock ∧ some k_ ≠ (.slice Ao112 t241.length co112 : Value).ownBlock ∧ some k_ ≠ (.slice Ao169 t257.length co169 : Value).ownBlock) (fun _ => False) rfl rfl ?aO ?aR (fun _ _ h => h) (fun _ h => h.elim) ?aF ?aB ?aS ?aL ?_
                                (case aR => repeat (first | exact (by repeat (first | (with_reducible exact HR272.out) | (with_reducible refine Kd.C_alloc ?_ _) | (with_reducible refine Kd.C_drewN ?_ _) | (with_reducible refine Kd.C_drew ?_) | exact HR272.out)) | (with_reducible refine Kd.C_alloc ?_ _) | (with_reducible refine Kd.C_drewN ?_ _) | (with_reducible refine Kd.C_drew ?_)))
                                (case aB => exact (zB HB))
                                (case aF => exact (fun k_ hk => ⟨Kd.fresh' (Kd.R_lt (zR HO_8)) k_ hk, Kd.fresh' (Kd.R_lt (zR HO_13)) k_ hk, Kd.fresh' (Kd.R_lt (zR HO_219001)) k_ hk, Kd.fresh' (Kd.R_lt (zR HO_247001)) k_ hk, Kd.fresh' (Kd.R_lt (zR HO259)) k_ hk⟩))
                                (case aO => exact (zR HO268))
                                (case aS => exact (below_size (zB HB)))
                                (case aL => have := LMc144.out; omega)
                                intro v274 w176 ho hb hg hat
                                rw [← Ny273.out] at ho
                                have n0_ := Aside0.mk (Kd.R_after (ok := (fun k_ => some k_ ≠ (.slice Ao107 y233.length co107 : Value).ownBlock ∧ some k_ ≠ (.slice Ao61 t213.length co61 : Value).ownBlock ∧ some k_ ≠ (.slice Ao112 t241.length co112 : Value).ownBlock ∧ some k_ ≠ (.slice Ao169 t257.length co169 : Value).ownBlock)) (zR HO_8) hg hat)
                                have n1_ := Aside0.mk (Kd.R_after (ok := (fun k_ => some k_ ≠ (.slice Ao56 x8_36.length co56 : Value).ownBlock ∧ some k_ ≠ (.slice Ao61 t213.length co61 : Value).ownBlock ∧ some k_ ≠ (.slice Ao112 t241.length co112 : Value).ownBlock ∧ some k_ ≠ (.slice Ao169 t257.length co169 : Value).ownBlock)) (zR HO_13) hg hat)
                                have n2_ := Aside0.mk (Kd.R_after (ok := (fun k_ => some k_ ≠ (.slice Ao56 x8_36.length co56 : Value).ownBlock ∧ some k_ ≠ (.slice Ao107 y233.length co107 : Value).ownBlock ∧ some k_ ≠ (.slice Ao112 t241.length co112 : Value).ownBlock ∧ some k_ ≠ (.slice Ao169 t257.length co169 : Value).ownBlock)) (zR HO_219001) hg hat)
                                have n3_ := Aside0.mk (Kd.R_after (ok := (fun k_ => some k_ ≠ (.slice Ao56 x8_36.length co56 : Value).ownBlock ∧ some k_ ≠ (.slice Ao107 y233.length co107 : Value).ownBlock ∧ some k_ ≠ (.slice Ao61 t213.length co61 : Value).ownBlock ∧ some k_ ≠ (.slice Ao169 t257.length co169 : Value).ownBlock)) (zR HO_247001) hg hat)
                                have n4_ := Aside0.mk (blk_grown (g := gb198) (o := .cells #[.int .i64 a0_0, .slice A0_1 l0_1.length c0_1] 24 (0, 0)) (zk BK198) hg (Kd.R_ne HO268.out BK198.out (by decide)))
                                have n5_ := Aside0.mk (blk_grown (g := gb199) (o := .cells #[.int .i64 a1_0, .slice A1_1 l1_1.length c1_1] 24 (0, 0)) (zk BK199) hg (Kd.R_ne HO268.out BK199.out (by decide)))
                                have n6_ := Aside0.mk (blk_grown (g := gb218) (o := .cells #[.int .i64 t212, .slice Ao61 t213.length co61] 29 (0, 0)) (zk BK218) hg (Kd.R_ne HO268.out BK218.out (by decide)))
                                have n7_ := Aside0.mk (blk_grown (g := gb246) (o := .cells #[.int .i64 t240, .slice Ao112 t241.length co112] 29 (0, 0)) (zk BK246) hg (Kd.R_ne HO268.out BK246.out (by decide)))
                                have n8_ := Aside0.mk (Kd.R_over' (zR HO253) (Kd.R_typed (zR HO268)) (by decide) hg)
                                have n9_ := Aside0.mk (blk_grown (g := gb255) (o := .cells #[.int .i64 t250, .slice Ao160 t251.length co160] 24 (0, 0)) (zk BK255) hg (Kd.R_ne HO268.out BK255.out (by decide)))
                                have n10_ := Aside0.mk (Kd.R_after (ok := (fun k_ => some k_ ≠ (.slice Ao56 x8_36.length co56 : Value).ownBlock ∧ some k_ ≠ (.slice Ao107 y233.length co107 : Value).ownBlock ∧ some k_ ≠ (.slice Ao61 t213.length co61 : Value).ownBlock ∧ some k_ ≠ (.slice Ao112 t241.length co112 : Value).ownBlock)) (zR HO259) hg hat)
                                have n11_ := Aside0.mk (blk_grown (g := gb262) (o := .cells #[.int .i64 t256, .slice Ao169 t257.length co169] 29 (0, 0)) (zk BK262) hg (Kd.R_ne HO268.out BK262.out (by decide)))
                                have n12_ := Aside0.mk (hb)
                                have n13_ := Aside0.mk ((show Kd.C (Kd.int .i64) w176 A172 y269.length y269 from by rw [Ny269.out, KA172.out]; exact Kd.C_drop (m := (a1_0 : Int).toNat) (c := co107) ((Kd.R_reads' (Kd.R_after (ok := (fun k_ => some k_ ≠ (.slice Ao56 x8_36.length co56 : Value).ownBlock ∧ some k_ ≠ (.slice Ao61 t213.length co61 : Value).ownBlock ∧ some k_ ≠ (.slice Ao112 t241.length co112 : Value).ownBlock ∧ some k_ ≠ (.slice Ao169 t257.length co169 : Value).ownBlock)) (zR HO_13) hg hat)).2.2) KL172.out ((Kd.R_reads' (Kd.R_after (ok := (fun k_ => some k_ ≠ (.slice Ao56 x8_36.length co56 : Value).ownBlock ∧ some k_ ≠ (.slice Ao61 t213.length co61 : Value).ownBlock ∧ some k_ ≠ (.slice Ao112 t241.length co112 : Value).ownBlock ∧ some k_ ≠ (.slice Ao169 t257.length co169 : Value).ownBlock)) (zR HO_13) hg hat)).2.1)))
                                have n14_ := Aside0.mk (ho)
                                clear HO_8
                                clear HO_13
                                clear HO_219001
                                clear HO_247001
                                clear BK198
                                clear BK199
                                clear BK218
                                clear BK246
                                clear HO253
                                clear BK255
                                clear HO259
                                clear BK262
                                clear HB
                                clear HR272
                                clear HO268
                                have HO_8 := n0_
                                have HO_13 := n1_
                                have HO_219001 := n2_
                                have HO_247001 := n3_
                                have BK198 := n4_
                                have BK199 := n5_
                                have BK218 := n6_
                                have BK246 := n7_
                                have HO253 := n8_
                                have BK255 := n9_
                                have HO259 := n10_
                                have BK262 := n11_
                                have HB := n12_
                                have HR272 := n13_
                                have HO275 := n14_
                                clear n0_ n1_ n2_ n3_ n4_ n5_ n6_ n7_ n8_ n9_ n10_ n11_ n12_ n13_ n14_
                                clear ho hb hg hat
                                refine hK.out _ _ ⟨(blk_cell BK246.out 0).trans rfl, (blk_cell BK246.out 1).trans rfl, (blk_cell BK199.out 0).trans rfl, (blk_cell BK199.out 1).trans rfl⟩ (fun hHeld => ?_)
                                clear hK K
                                refine norm_ (a' := ?_) ?_ ?_
                                rotate_left
                                ·
                                 show Act.put _ (some 176) _ = _
                                 simp only [Act.put, zs, zs0, zs1, i64_w, i32_w]
                                 rfl
                                refine zP 9 (some 22) (zl 10 1023) HT_ ?_
                                refine done_ (done_of HT_.out (by kernel_rfl)) ?_
                                go_upto_region 23 with (fail)
                                have H := HC145.out
                                clear HC145
                                by_cases c177 : t254 = 0
                                ·
                                 rw [if_pos c177] at H
                                 have c177b0 : (t254 == 0) = true := beq_iff_eq.mpr c177
                                 have c177b1 : (t254 != 0) = false := bne_eq_false_iff_eq.mpr c177
                                 clear c177
                                 (first | rw [c177b0] | (simp only [i64_w, i32_w]; rw [c177b0]) | skip)
                                 (try rw [c177b1])
                                 by_cases c178 : t261 = 0
                                 ·
                                  rw [if_pos c178] at H
                                  have c178b0 : (t261 == 0) = true := beq_iff_eq.mpr c178
                                  have c178b1 : (t261 != 0) = false := bne_eq_false_iff_eq.mpr c178
                                  clear c178
                                  by_cases c179 : t260 = (wrap64 ((wrap64 (t216 + t244)) + 2))
                                  ·
                                   rw [if_pos c179] at H
                                   have c179b0 : (t260 == (wrap64 ((wrap64 (t216 + t244)) + 2))) = true := beq_iff_eq.mpr c179
                                   have c179b1 : (t260 != (wrap64 ((wrap64 (t216 + t244)) + 2))) = false := bne_eq_false_iff_eq.mpr c179
                                   clear c179
                                   by_cases c180 : t256 ≥ 0
                                   ·
                                    rw [if_pos c180] at H
                                    have c180b0 : decide (0 ≤ t256) = true := decide_eq_true c180
                                    clear c180
                                    by_cases c181 : t256 < (t251.length : Int)
                                    ·
                                     rw [if_pos c181] at H
                                     have c181b0 : decide (t256 < (t251.length : Int)) = true := decide_eq_true c181
                                     clear c181
                                     by_cases c182 : 0 ≤ t256
                                     ·
                                      rw [if_pos c182] at H
                                      have c182b0 : decide (0 ≤ t256) = true := decide_eq_true c182
                                      clear c182
                                      by_cases c183 : ((rd_T35 t251 t256).f0) = 2
                                      ·
                                       rw [if_pos c183] at H
                                       have c183b0 : (((rd_T35 t251 t256).f0) == 2) = true := beq_iff_eq.mpr c183
                                       have c183b1 : (((rd_T35 t251 t256).f0) != 2) = false := bne_eq_false_iff_eq.mpr c183
                                       clear c183
                                       replace H := Option.bind_eq_some_iff.mp H
                                       obtain ⟨t277, A1840, H⟩ := H
                                       replace H : (if t277 = true then ((standstilllaw06_awake.f kj124).bind fun t278 => (some t278)) else (some false)) = some r := H
                                       have A184 := Aside0.mk A1840
                                       clear A1840
                                       by_cases c185 : t277 = true
                                       ·
                                        subst c185
                                        have H1 : ((standstilllaw06_awake.f kj124).bind fun t278 => (some t278)) = some r := by rw [if_pos rfl] at H; exact H
                                        clear H
                                        have H := H1
                                        clear H1
                                        replace H := Option.bind_eq_some_iff.mp H
                                        obtain ⟨t278, A1860, H⟩ := H
                                        replace H : (some t278) = some r := H
                                        have A186 := Aside0.mk A1860
                                        clear A1860
                                        obtain rfl := Option.some.inj H
                                        have hnb187 := NB262_198.out
                                        have hnc187 := NB198_262.out
                                        have hnb188 := NB262_199.out
                                        have hnc188 := NB199_262.out
                                        have hnb189 := NB262_218.out
                                        have hnc189 := NB218_262.out
                                        have hnb190 := NB262_246.out
                                        have hnc190 := NB246_262.out
                                        have hnb191 := NB262_255.out
                                        have hnc191 := NB255_262.out
                                        have hz192 := zc2 BK262
                                        have hnb193 := NB255_198.out
                                        have hnc193 := NB198_255.out
                                        have hnb194 := NB255_199.out
                                        have hnc194 := NB199_255.out
                                        have hnb195 := NB255_218.out
                                        have hnc195 := NB218_255.out
                                        have hnb196 := NB255_246.out
                                        have hnc196 := NB246_255.out
                                        have hz197 := zc2 BK255
                                        have p276 : 0 ≤ (t256 : Int) := of_decide_eq_true (by first | (with_reducible assumption) | assumption)
                                        have q276 : t256 < (t251.length : Int) := of_decide_eq_true (by first | (with_reducible assumption) | assumption)
                                        obtain ⟨ad276, e276, hx276_0, hx276_1, hx276_2, hx276_3⟩ := at_T35 (Kd.R_reads' HO253.out).2.2 t256 p276 q276
                                        cases e276
                                        replace p276 := eq_true p276
                                        replace q276 := eq_true q276
                                        obtain ⟨Ao198, co198, eo198⟩ := Kd.R_slice HO275.out
                                        subst eo198
                                        go_wp2_with (first | (go_at_call 11; (with_reducible refine (standstillref06_SameCount.calls kj124 0 _ _ y273 0 _ _ t257 true _ ?side1 ?side2 ?side3 ?side4 A184.out).mono ?_); (case side1 => exact zC ((Kd.R_reads' HO275.out).2.2)); (case side2 => exact (Kd.R_reads' HO275.out).2.1); (case side3 => exact zC ((Kd.R_reads' HO259.out).2.2)); (case side4 => exact (Kd.R_reads' HO259.out).2.1); rintro e w199 ⟨rfl, hb⟩; replace HO_8 := Aside0.mk (zRb HO_8 hb); replace HO_13 := Aside0.mk (zRb HO_13 hb); replace HO_219001 := Aside0.mk (zRb HO_219001 hb); replace HO_247001 := Aside0.mk (zRb HO_247001 hb); replace HO253 := Aside0.mk (zRb HO253 hb); replace HO259 := Aside0.mk (zRb HO259 hb); replace HO275 := Aside0.mk (zRb HO275 hb); replace BK198 := Aside0.mk (zb BK198 hb); replace BK199 := Aside0.mk (zb BK199 hb); replace BK218 := Aside0.mk (zb BK218 hb); replace BK246 := Aside0.mk (zb BK246 hb); replace BK255 := Aside0.mk (zb BK255 hb); replace BK262 := Aside0.mk (zb BK262 hb); replace HR272 := Aside0.mk (Kd.C_below (by repeat (first | (with_reducible exact HR272.out) | (with_reducible refine Kd.C_alloc ?_ _) | (with_reducible refine Kd.C_drewN ?_ _) | (with_reducible refine Kd.C_drew ?_) | exact HR272.out)) hb); replace HB := Aside0.mk (below_step (zB HB) hb); (try clear hb); (try clear hb2); (try clear hk); (try clear hi)) | (go_at_call 7; (with_reducible refine (standstilllaw06_awake.calls kj124  t278 _ A186.out).mono ?_); rintro e w200 ⟨rfl, hb⟩; replace HO_8 := Aside0.mk (zRb HO_8 hb); replace HO_13 := Aside0.mk (zRb HO_13 hb); replace HO_219001 := Aside0.mk (zRb HO_219001 hb); replace HO_247001 := Aside0.mk (zRb HO_247001 hb); replace HO253 := Aside0.mk (zRb HO253 hb); replace HO259 := Aside0.mk (zRb HO259 hb); replace HO275 := Aside0.mk (zRb HO275 hb); replace BK198 := Aside0.mk (zb BK198 hb); replace BK199 := Aside0.mk (zb BK199 hb); replace BK218 := Aside0.mk (zb BK218 hb); replace BK246 := Aside0.mk (zb BK246 hb); replace BK255 := Aside0.mk (zb BK255 hb); replace BK262 := Aside0.mk (zb BK262 hb); replace HR272 := Aside0.mk (Kd.C_below (by repeat (first | (with_reducible exact HR272.out) | (with_reducible refine Kd.C_alloc ?_ _) | (with_reducible refine Kd.C_drewN ?_ _) | (with_reducible refine Kd.C_drew ?_) | exact HR272.out)) hb); replace HB := Aside0.mk (below_step (zB HB) hb); (try clear hb); (try clear hb2); (try clear hk); (try clear hi)))
                                        go_ret
                                        exact ⟨by first | rfl | (simp [errW_none, errW_some] <;> rfl) | (simp only [← hji34]; first | rfl | (simp [errW_none, errW_some] <;> rfl)) | (simp [*, errW_none, errW_some] <;> rfl), zB HB⟩
                                       ·
                                        replace c185 := Bool.eq_false_iff.mpr c185
                                        subst c185
                                        have H1 : (some false) = some r := by rw [if_neg (show ¬ (false = true) by decide)] at H; exact H
                                        clear H
                                        have H := H1
                                        clear H1
                                        obtain rfl := Option.some.inj H
                                        have hnb201 := NB262_198.out
                                        have hnc201 := NB198_262.out
                                        have hnb202 := NB262_199.out
                                        have hnc202 := NB199_262.out
                                        have hnb203 := NB262_218.out
                                        have hnc203 := NB218_262.out
                                        have hnb204 := NB262_246.out
                                        have hnc204 := NB246_262.out
                                        have hnb205 := NB262_255.out
                                        have hnc205 := NB255_262.out
                                        have hz206 := zc2 BK262
                                        have hnb207 := NB255_198.out
                                        have hnc207 := NB198_255.out
                                        have hnb208 := NB255_199.out
                                        have hnc208 := NB199_255.out
                                        have hnb209 := NB255_218.out
                                        have hnc209 := NB218_255.out
                                        have hnb210 := NB255_246.out
                                        have hnc210 := NB246_255.out
                                        have hz211 := zc2 BK255
                                        have p276 : 0 ≤ (t256 : Int) := of_decide_eq_true (by first | (with_reducible assumption) | assumption)
                                        have q276 : t256 < (t251.length : Int) := of_decide_eq_true (by first | (with_reducible assumption) | assumption)
                                        obtain ⟨ad276, e276, hx276_0, hx276_1, hx276_2, hx276_3⟩ := at_T35 (Kd.R_reads' HO253.out).2.2 t256 p276 q276
                                        cases e276
                                        replace p276 := eq_true p276
                                        replace q276 := eq_true q276
                                        obtain ⟨Ao212, co212, eo212⟩ := Kd.R_slice HO275.out
                                        subst eo212
                                        go_wp2_with (first | (go_at_call 11; (with_reducible refine (standstillref06_SameCount.calls kj124 0 _ _ y273 0 _ _ t257 false _ ?side1 ?side2 ?side3 ?side4 A184.out).mono ?_); (case side1 => exact zC ((Kd.R_reads' HO275.out).2.2)); (case side2 => exact (Kd.R_reads' HO275.out).2.1); (case side3 => exact zC ((Kd.R_reads' HO259.out).2.2)); (case side4 => exact (Kd.R_reads' HO259.out).2.1); rintro e w213 ⟨rfl, hb⟩; replace HO_8 := Aside0.mk (zRb HO_8 hb); replace HO_13 := Aside0.mk (zRb HO_13 hb); replace HO_219001 := Aside0.mk (zRb HO_219001 hb); replace HO_247001 := Aside0.mk (zRb HO_247001 hb); replace HO253 := Aside0.mk (zRb HO253 hb); replace HO259 := Aside0.mk (zRb HO259 hb); replace HO275 := Aside0.mk (zRb HO275 hb); replace BK198 := Aside0.mk (zb BK198 hb); replace BK199 := Aside0.mk (zb BK199 hb); replace BK218 := Aside0.mk (zb BK218 hb); replace BK246 := Aside0.mk (zb BK246 hb); replace BK255 := Aside0.mk (zb BK255 hb); replace BK262 := Aside0.mk (zb BK262 hb); replace HR272 := Aside0.mk (Kd.C_below (by repeat (first | (with_reducible exact HR272.out) | (with_reducible refine Kd.C_alloc ?_ _) | (with_reducible refine Kd.C_drewN ?_ _) | (with_reducible refine Kd.C_drew ?_) | exact HR272.out)) hb); replace HB := Aside0.mk (below_step (zB HB) hb); (try clear hb); (try clear hb2); (try clear hk); (try clear hi)))
                                        go_ret
                                        exact ⟨by first | rfl | (simp [errW_none, errW_some] <;> rfl) | (simp only [← hji34]; first | rfl | (simp [errW_none, errW_some] <;> rfl)) | (simp [*, errW_none, errW_some] <;> rfl), zB HB⟩
                                      ·
                                       rw [if_neg c183] at H
                                       have c183b0 : (((rd_T35 t251 t256).f0) == 2) = false := beq_eq_false_iff_ne.mpr c183
                                       have c183b1 : (((rd_T35 t251 t256).f0) != 2) = true := bne_iff_ne.mpr c183
                                       obtain rfl := Option.some.inj H
                                       have hnb214 := NB262_198.out
                                       have hnc214 := NB198_262.out
                                       have hnb215 := NB262_199.out
                                       have hnc215 := NB199_262.out
                                       have hnb216 := NB262_218.out
                                       have hnc216 := NB218_262.out
                                       have hnb217 := NB262_246.out
                                       have hnc217 := NB246_262.out
                                       have hnb218 := NB262_255.out
                                       have hnc218 := NB255_262.out
                                       have hz219 := zc2 BK262
                                       have hnb220 := NB255_198.out
                                       have hnc220 := NB198_255.out
                                       have hnb221 := NB255_199.out
                                       have hnc221 := NB199_255.out
                                       have hnb222 := NB255_218.out
                                       have hnc222 := NB218_255.out
                                       have hnb223 := NB255_246.out
                                       have hnc223 := NB246_255.out
                                       have hz224 := zc2 BK255
                                       have p276 : 0 ≤ (t256 : Int) := of_decide_eq_true (by first | (with_reducible assumption) | assumption)
                                       have q276 : t256 < (t251.length : Int) := of_decide_eq_true (by first | (with_reducible assumption) | assumption)
                                       obtain ⟨ad276, e276, hx276_0, hx276_1, hx276_2, hx276_3⟩ := at_T35 (Kd.R_reads' HO253.out).2.2 t256 p276 q276
                                       cases e276
                                       replace p276 := eq_true p276
                                       replace q276 := eq_true q276
                                       go_wp2
                                       go_ret
                                       exact ⟨by first | rfl | (simp [errW_none, errW_some] <;> rfl) | (simp only [← hji34]; first | rfl | (simp [errW_none, errW_some] <;> rfl)) | (simp [*, errW_none, errW_some] <;> rfl), zB HB⟩
                                     ·
                                      rw [if_neg c182] at H
                                      exact absurd H (by simp)
                                    ·
                                     rw [if_neg c181] at H
                                     have c181b0 : decide (t256 < (t251.length : Int)) = false := decide_eq_false c181
                                     clear c181
                                     obtain rfl := Option.some.inj H
                                     have hnb225 := NB262_198.out
                                     have hnc225 := NB198_262.out
                                     have hnb226 := NB262_199.out
                                     have hnc226 := NB199_262.out
                                     have hnb227 := NB262_218.out
                                     have hnc227 := NB218_262.out
                                     have hnb228 := NB262_246.out
                                     have hnc228 := NB246_262.out
                                     have hnb229 := NB262_255.out
                                     have hnc229 := NB255_262.out
                                     have hz230 := zc2 BK262
                                     have hnb231 := NB255_198.out
                                     have hnc231 := NB198_255.out
                                     have hnb232 := NB255_199.out
                                     have hnc232 := NB199_255.out
                                     have hnb233 := NB255_218.out
                                     have hnc233 := NB218_255.out
                                     have hnb234 := NB255_246.out
                                     have hnc234 := NB246_255.out
                                     have hz235 := zc2 BK255
                                     go_wp2
                                     go_ret
                                     exact ⟨by first | rfl | (simp [errW_none, errW_some] <;> rfl) | (simp only [← hji34]; first | rfl | (simp [errW_none, errW_some] <;> rfl)) | (simp [*, errW_none, errW_some] <;> rfl), zB HB⟩
                                   ·
                                    rw [if_neg c180] at H
                                    have c180b0 : decide (0 ≤ t256) = false := decide_eq_false c180
                                    clear c180
                                    obtain rfl := Option.some.inj H
                                    have hnb236 := NB262_198.out
                                    have hnc236 := NB198_262.out
                                    have hnb237 := NB262_199.out
                                    have hnc237 := NB199_262.out
                                    have hnb238 := NB262_218.out
                                    have hnc238 := NB218_262.out
                                    have hnb239 := NB262_246.out
                                    have hnc239 := NB246_262.out
                                    have hnb240 := NB262_255.out
                                    have hnc240 := NB255_262.out
                                    have hz241 := zc2 BK262
                                    go_wp2
                                    go_ret
                                    exact ⟨by first | rfl | (simp [errW_none, errW_some] <;> rfl) | (simp only [← hji34]; first | rfl | (simp [errW_none, errW_some] <;> rfl)) | (simp [*, errW_none, errW_some] <;> rfl), zB HB⟩
                                  ·
                                   rw [if_neg c179] at H
                                   have c179b0 : (t260 == (wrap64 ((wrap64 (t216 + t244)) + 2))) = false := beq_eq_false_iff_ne.mpr c179
                                   have c179b1 : (t260 != (wrap64 ((wrap64 (t216 + t244)) + 2))) = true := bne_iff_ne.mpr c179
                                   obtain rfl := Option.some.inj H
                                   go_wp2
                                   go_ret
                                   exact ⟨by first | rfl | (simp [errW_none, errW_some] <;> rfl) | (simp only [← hji34]; first | rfl | (simp [errW_none, errW_some] <;> rfl)) | (simp [*, errW_none, errW_some] <;> rfl), zB HB⟩
                                 ·
                                  rw [if_neg c178] at H
                                  have c178b0 : (t261 == 0) = false := beq_eq_false_iff_ne.mpr c178
                                  have c178b1 : (t261 != 0) = true := bne_iff_ne.mpr c178
                                  obtain rfl := Option.some.inj H
                                  go_wp2
                                  go_ret
                                  exact ⟨by first | rfl | (simp [errW_none, errW_some] <;> rfl) | (simp only [← hji34]; first | rfl | (simp [errW_none, errW_some] <;> rfl)) | (simp [*, errW_none, errW_some] <;> rfl), zB HB⟩
                                ·
                                 rw [if_neg c177] at H
                                 have c177b0 : (t254 == 0) = false := beq_eq_false_iff_ne.mpr c177
                                 have c177b1 : (t254 != 0) = true := bne_iff_ne.mpr c177
                                 (first | rw [c177b0] | (simp only [i64_w, i32_w]; rw [c177b0]) | skip)
                                 (try rw [c177b1])
                                 obtain rfl := Option.some.inj H
                                 go_wp2
                                 go_ret
                                 exact ⟨by first | rfl | (simp [errW_none, errW_some] <;> rfl) | (simp only [← hji34]; first | rfl | (simp [errW_none, errW_some] <;> rfl)) | (simp [*, errW_none, errW_some] <;> rfl), zB HB⟩
                               ·
                                rw [if_neg c144] at H
                                exact absurd H (by simp)
                              ·
                               rw [if_neg c143] at H
                               exact absurd H (by simp)
                             ·
                              rw [if_neg c142] at H
                              exact absurd H (by simp)
                            ·
                             rw [if_neg c141] at H
                             exact absurd H (by simp)
                     ·
                      rw [if_neg c96] at H
                      exact absurd H (by simp)
                    ·
                     rw [if_neg c95] at H
                     exact absurd H (by simp)
                   ·
                    rw [if_neg c94] at H
                    exact absurd H (by simp)
                  ·
                   rw [if_neg c93] at H
                   exact absurd H (by simp)
                 ·
                  rw [if_neg c92] at H
                  exact absurd H (by simp)
                ·
                 rw [if_neg c91] at H
                 exact absurd H (by simp)
         ·
          rw [if_neg c51] at H
          exact absurd H (by simp)
        ·
         rw [if_neg c50] at H
         exact absurd H (by simp)
     ·
      rw [if_neg c36] at H
      exact absurd H (by simp)
    ·
     rw [if_neg c35] at H
     exact absurd H (by simp)

end Go.Proofs.Ytcdmgeceahmngaa.GC
