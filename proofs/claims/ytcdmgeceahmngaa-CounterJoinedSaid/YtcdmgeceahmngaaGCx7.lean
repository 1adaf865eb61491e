/- The functions of one seat as Lean functions, each with its contract: the call of the Go function returns what the Lean function answers. Written by a program of this session out of the translation; contracts made by hand are laid between. -/
import Derived.Test.YtcdmgeceahmngaaGCx0
import Derived.Test.YtcdmgeceahmngaaGCx2
namespace Go.Proofs.Ytcdmgeceahmngaa.GC
open Go.RowKit Go.Proofs.YtcdmgeceahmngaaW.PrintWords Go.Proofs.YtcdmgeceahmngaaW.PrintLast Go.Proofs.YtcdmgeceahmngaaW.PrintMore
attribute [local go_sem] max2_int min2_int max_two min_two max_three min_three max_four min_four   -- for this text's walks alone
set_option linter.unusedVariables false
set_option linter.unusedSimpArgs false

/-! ### standstillref06_Fits: function 9 -/
mutual
def standstillref06_Fits.j0 : Nat → Bool → Int → List Int → Option (Bool)
 | 0, _, _, _ => none
 | k + 1, x23, x163000, x163001 => if x23 = true then (some false) else (standstillref06_Fits.l0 k 0 x163000 x163001)
def standstillref06_Fits.l0 : Nat → Int → Int → List Int → Option (Bool)
 | 0, _, _, _ => none
 | k + 1, x5, x163000, x163001 => if x5 < (x163001.length : Int) then (if 0 ≤ x5 then (if (rd x163001 x5) < 0 then (some false) else (if (rd x163001 x5) > 1152921504606846976 then (some false) else (standstillref06_Fits.l0 k (wrap64 (x5 + 1)) x163000 x163001))) else (none)) else (some true)
end
def standstillref06_Fits.f (k : Nat) (a0_0 : Int) (l0_1 : List (S35)) (a1_0 : Int) (l1_1 : List Int) : Option (Bool) := (standstillref06_Valid.f k a0_0 l0_1).bind fun t163 => (if t163 = true then ((standstillref06_index.f a0_0 l0_1 a1_0).bind fun t164 => (if t164 = true then (standstillref06_Fits.j0 k ((l1_1.length : Int) != a0_0) a1_0 l1_1) else (standstillref06_Fits.j0 k true a1_0 l1_1))) else (standstillref06_Fits.j0 k true a1_0 l1_1))
theorem standstillref06_Fits.mono_l : ∀ k, (∀ y0 y1 y2, LeO (standstillref06_Fits.j0 k y0 y1 y2) (standstillref06_Fits.j0 (k + 1) y0 y1 y2)) ∧ (∀ y0 y1 y2, LeO (standstillref06_Fits.l0 k y0 y1 y2) (standstillref06_Fits.l0 (k + 1) y0 y1 y2))
 | 0 => ⟨fun _ _ _ r h => by simp [standstillref06_Fits.j0] at h, fun _ _ _ r h => by simp [standstillref06_Fits.l0] at h⟩
 | k + 1 => by
  obtain ⟨ih0, ih1⟩ := standstillref06_Fits.mono_l k
  refine ⟨?_, ?_⟩
  ·
   intro y0 y1 y2
   unfold standstillref06_Fits.j0
   repeat' first
   | (with_reducible exact ih0 _ _ _)
   | (with_reducible exact ih1 _ _ _)
   | (with_reducible exact standstillref06_Valid.mono _ _ _)
   | (with_reducible exact LeO.refl _)
   | (with_reducible exact LeO.none _)
   | (with_reducible refine LeO.ite ?_ ?_)
   | (with_reducible refine LeO.bind ?_ (fun _ => ?_))
   | exact ih0 _ _ _
   | exact ih1 _ _ _
   | exact standstillref06_Valid.mono _ _ _
   | exact LeO.none _
   | refine LeO.ite ?_ ?_
   | refine LeO.bind ?_ (fun _ => ?_)
  ·
   intro y0 y1 y2
   unfold standstillref06_Fits.l0
   repeat' first
   | (with_reducible exact ih0 _ _ _)
   | (with_reducible exact ih1 _ _ _)
   | (with_reducible exact standstillref06_Valid.mono _ _ _)
   | (with_reducible exact LeO.refl _)
   | (with_reducible exact LeO.none _)
   | (with_reducible refine LeO.ite ?_ ?_)
   | (with_reducible refine LeO.bind ?_ (fun _ => ?_))
   | exact ih0 _ _ _
   | exact ih1 _ _ _
   | exact standstillref06_Valid.mono _ _ _
   | exact LeO.none _
   | refine LeO.ite ?_ ?_
   | refine LeO.bind ?_ (fun _ => ?_)
theorem standstillref06_Fits.mono : ∀ a0 a1 a2 a3 k, LeO (standstillref06_Fits.f k a0 a1 a2 a3) (standstillref06_Fits.f (k + 1) a0 a1 a2 a3) := by
 intro a0 a1 a2 a3 k
 obtain ⟨ih0, ih1⟩ := standstillref06_Fits.mono_l k
 unfold standstillref06_Fits.f
 repeat' first
   | (with_reducible exact ih0 _ _ _)
   | (with_reducible exact ih1 _ _ _)
   | (with_reducible exact standstillref06_Valid.mono _ _ _)
   | (with_reducible exact LeO.refl _)
   | (with_reducible exact LeO.none _)
   | (with_reducible refine LeO.ite ?_ ?_)
   | (with_reducible refine LeO.bind ?_ (fun _ => ?_))
   | exact ih0 _ _ _
   | exact ih1 _ _ _
   | exact standstillref06_Valid.mono _ _ _
   | exact LeO.none _
   | refine LeO.ite ?_ ?_
   | refine LeO.bind ?_ (fun _ => ?_)
set_option maxHeartbeats 8000000 in
set_option maxRecDepth 100000 in
theorem standstillref06_Fits.calls (k : Nat) (a0_0 : Int) (A0_1 : Option Addr) (c0_1 : Nat) (l0_1 : List (S35)) (a1_0 : Int) (A1_1 : Option Addr) (c1_1 : Nat) (l1_1 : List Int) (r : Bool) (w : World) (hr0_1 : Kd.C k35 w A0_1 l0_1.length l0_1) (hc0_1 : l0_1.length ≤ c0_1) (hr1_1 : Kd.C (Kd.int .i64) w A1_1 l1_1.length l1_1) (hc1_1 : l1_1.length ≤ c1_1) (h : standstillref06_Fits.f k a0_0 l0_1 a1_0 l1_1 = some r) :
  Calls Try.prog 9 #[.agg #[.int .i64 a0_0, .slice A0_1 l0_1.length c0_1], .agg #[.int .i64 a1_0, .slice A1_1 l1_1.length c1_1]] w fun e w' => e = .returned (.bool r) ∧ Below w.heap.size w w' := by
 have hu24 := Try.underlying24
 have hu29 := Try.underlying29
 have HR0_1 := Aside0.mk hr0_1
 have HC0_1 := Aside0.mk hc0_1
 clear hr0_1 hc0_1
 have HR1_1 := Aside0.mk hr1_1
 have HC1_1 := Aside0.mk hc1_1
 clear hr1_1 hc1_1
 have HB := Aside0.mk (Below.refl w.heap.size w)
 have H : ((standstillref06_Valid.f k a0_0 l0_1).bind fun t163 => (if t163 = true then ((standstillref06_index.f a0_0 l0_1 a1_0).bind fun t164 => (if t164 = true then (standstillref06_Fits.j0 k ((l1_1.length : Int) != a0_0) a1_0 l1_1) else (standstillref06_Fits.j0 k true a1_0 l1_1))) else (standstillref06_Fits.j0 k true a1_0 l1_1))) = some r := h
 clear h
 have HC3 := Aside0.mk H
 clear H
 go_enter Try.func9, Try.ntmps9
 go_upto_region 1 with (first | ((with_reducible refine gate_dst (N := 2) rfl ?_); (try (refine gate_guard (by rfl) ?_; dsimp only)); refine box_event ?hg (N := 2) ?hd (cs := #[.int .i64 a0_0, .slice A0_1 l0_1.length c0_1]) (t := 24) ?hr ?_; (case hd => rfl); (case hg => rfl); (case hr => first | (go_simp; done) | (go_simp; rfl)); intro gb161 hg w4 hbox hb; have BK161 := Aside0.mk (hbox); have GW161 := Aside0.mk ((by rw [hg]; exact (below_size (zB HB)) : w.heap.size ≤ gb161)); have GE161 := Aside0.mk ((by rw [hg]; exact (below_size (zB HB)) : w.heap.size ≤ gb161)); replace HB := Aside0.mk (below_step (zB HB) hb); clear hb hbox hg) | ((with_reducible refine gate_dst (N := 3) rfl ?_); (try (refine gate_guard (by rfl) ?_; dsimp only)); refine box_event ?hg (N := 3) ?hd (cs := #[.int .i64 a1_0, .slice A1_1 l1_1.length c1_1]) (t := 29) ?hr ?_; (case hd => rfl); (case hg => rfl); (case hr => first | (go_simp; done) | (go_simp; rfl)); intro gb162 hg w5 hbox hb; have BK162 := Aside0.mk (hbox); have GW162 := Aside0.mk ((by rw [hg]; exact (below_size (zB HB)) : w.heap.size ≤ gb162)); have GE162 := Aside0.mk ((by rw [hg]; exact (below_size (zB HB)) : w.heap.size ≤ gb162)); have NB161_162 := Aside0.mk ((by rw [hg]; exact Nat.ne_of_lt (zL BK161) : gb161 ≠ gb162)); have NB162_161 := Aside0.mk ((by rw [hg]; exact Nat.ne_of_gt (zL BK161) : gb162 ≠ gb161)); replace BK161 := Aside0.mk (zb BK161 hb); replace HB := Aside0.mk (below_step (zB HB) hb); clear hb hbox hg))
 (try simp only [Act.put, zs, zs0, zs1])
 go_cut [23] (fun v23 wc => ∃ (kq : Nat) (x23_2 : Bool), v23 = .bool x23_2 ∧ Aside0 (standstillref06_Fits.j0 kq x23_2 a1_0 l1_1 = some r) ∧ Aside0 (kq ≤ k) ∧ Aside0 (wc.heap[gb161]? = some (.cells #[.int .i64 a0_0, (.slice A0_1 l0_1.length c0_1)] 24 (0, 0))) ∧ Aside0 (wc.heap[gb162]? = some (.cells #[.int .i64 a1_0, (.slice A1_1 l1_1.length c1_1)] 29 (0, 0))) ∧ Aside0 (Below w.heap.size w wc))
 case first =>
  have H := HC3.out
  clear HC3
  replace H := Option.bind_eq_some_iff.mp H
  obtain ⟨t163, A60, H⟩ := H
  replace H : (if t163 = true then ((standstillref06_index.f a0_0 l0_1 a1_0).bind fun t164 => (if t164 = true then (standstillref06_Fits.j0 k ((l1_1.length : Int) != a0_0) a1_0 l1_1) else (standstillref06_Fits.j0 k true a1_0 l1_1))) else (standstillref06_Fits.j0 k true a1_0 l1_1)) = some r := H
  have A6 := Aside0.mk A60
  clear A60
  by_cases c7 : t163 = true
  ·
   subst c7
   have H1 : ((standstillref06_index.f a0_0 l0_1 a1_0).bind fun t164 => (if t164 = true then (standstillref06_Fits.j0 k ((l1_1.length : Int) != a0_0) a1_0 l1_1) else (standstillref06_Fits.j0 k true a1_0 l1_1))) = some r := by rw [if_pos rfl] at H; exact H
   clear H
   have H := H1
   clear H1
   replace H := Option.bind_eq_some_iff.mp H
   obtain ⟨t164, A80, H⟩ := H
   replace H : (if t164 = true then (standstillref06_Fits.j0 k ((l1_1.length : Int) != a0_0) a1_0 l1_1) else (standstillref06_Fits.j0 k true a1_0 l1_1)) = some r := H
   have A8 := Aside0.mk A80
   clear A80
   by_cases c9 : t164 = true
   ·
    subst c9
    have H1 : (standstillref06_Fits.j0 k ((l1_1.length : Int) != a0_0) a1_0 l1_1) = some r := by rw [if_pos rfl] at H; exact H
    clear H
    have H := H1
    clear H1
    have H' := Aside0.mk H
    clear H
    have hnb10 := NB161_162.out
    have hnc10 := NB162_161.out
    have hz11 := zc2 BK161
    go_wp2_with (first | ((with_reducible refine gate_callee (f := 6) rfl ?_); refine goesL_ (some 7) rfl rfl Try.func6 (by kernel_rfl) rfl #[.agg #[.int .i64 a0_0, .slice A0_1 l0_1.length c0_1]] rfl (zm) ?_; (with_reducible refine (standstillref06_Valid.calls k a0_0 _ _ l0_1 true _ ?side1 ?side2 A6.out).mono ?_); (case side1 => exact zC ((Kd.C_below HR0_1.out HB.out))); (case side2 => exact HC0_1.out); rintro e w12 ⟨rfl, hb⟩; refine ⟨_, rfl, ?_⟩; replace BK161 := Aside0.mk (zb BK161 hb); replace BK162 := Aside0.mk (zb BK162 hb); replace HB := Aside0.mk (below_step (zB HB) hb); (try clear hb); (try clear hb2); (try clear hk); (try clear hi); have hz13 := zc2 BK161; have hz14 := zc2 BK162) | (go_at_call 21; (with_reducible refine (standstillref06_index.calls a0_0 _ _ l0_1 a1_0 true _ ?side1 ?side2 A8.out).mono ?_); (case side1 => exact zC ((Kd.C_below HR0_1.out HB.out))); (case side2 => exact HC0_1.out); rintro e w15 ⟨rfl, hb⟩; replace BK161 := Aside0.mk (zb BK161 hb); replace BK162 := Aside0.mk (zb BK162 hb); replace HB := Aside0.mk (below_step (zB HB) hb); (try clear hb); (try clear hb2); (try clear hk); (try clear hi); have hz16 := zc2 BK162; have hz17 := zc2 BK161))
    go_meet
    case rel => exact ⟨_, (((l1_1.length : Int) != a0_0)), (by first | rfl | (simp; done) | (simp [*]; done)), H', ⟨by first | omega | exact Nat.le_refl _⟩, ⟨zk BK161⟩, ⟨zk BK162⟩, ⟨zB HB⟩⟩
   ·
    replace c9 := Bool.eq_false_iff.mpr c9
    subst c9
    have H1 : (standstillref06_Fits.j0 k true a1_0 l1_1) = some r := by rw [if_neg (show ¬ (false = true) by decide)] at H; exact H
    clear H
    have H := H1
    clear H1
    have H' := Aside0.mk H
    clear H
    have hnb18 := NB161_162.out
    have hnc18 := NB162_161.out
    have hz19 := zc2 BK161
    go_wp2_with (first | ((with_reducible refine gate_callee (f := 6) rfl ?_); refine goesL_ (some 7) rfl rfl Try.func6 (by kernel_rfl) rfl #[.agg #[.int .i64 a0_0, .slice A0_1 l0_1.length c0_1]] rfl (zm) ?_; (with_reducible refine (standstillref06_Valid.calls k a0_0 _ _ l0_1 true _ ?side1 ?side2 A6.out).mono ?_); (case side1 => exact zC ((Kd.C_below HR0_1.out HB.out))); (case side2 => exact HC0_1.out); rintro e w20 ⟨rfl, hb⟩; refine ⟨_, rfl, ?_⟩; replace BK161 := Aside0.mk (zb BK161 hb); replace BK162 := Aside0.mk (zb BK162 hb); replace HB := Aside0.mk (below_step (zB HB) hb); (try clear hb); (try clear hb2); (try clear hk); (try clear hi); have hz21 := zc2 BK161; have hz22 := zc2 BK162) | (go_at_call 21; (with_reducible refine (standstillref06_index.calls a0_0 _ _ l0_1 a1_0 false _ ?side1 ?side2 A8.out).mono ?_); (case side1 => exact zC ((Kd.C_below HR0_1.out HB.out))); (case side2 => exact HC0_1.out); rintro e w23 ⟨rfl, hb⟩; replace BK161 := Aside0.mk (zb BK161 hb); replace BK162 := Aside0.mk (zb BK162 hb); replace HB := Aside0.mk (below_step (zB HB) hb); (try clear hb); (try clear hb2); (try clear hk); (try clear hi)))
    go_meet
    case rel => exact ⟨_, (true), (by first | rfl | (simp; done) | (simp [*]; done)), H', ⟨by first | omega | exact Nat.le_refl _⟩, ⟨zk BK161⟩, ⟨zk BK162⟩, ⟨zB HB⟩⟩
  ·
   replace c7 := Bool.eq_false_iff.mpr c7
   subst c7
   have H1 : (standstillref06_Fits.j0 k true a1_0 l1_1) = some r := by rw [if_neg (show ¬ (false = true) by decide)] at H; exact H
   clear H
   have H := H1
   clear H1
   have H' := Aside0.mk H
   clear H
   have hnb24 := NB161_162.out
   have hnc24 := NB162_161.out
   have hz25 := zc2 BK161
   go_wp2_with (first | ((with_reducible refine gate_callee (f := 6) rfl ?_); refine goesL_ (some 7) rfl rfl Try.func6 (by kernel_rfl) rfl #[.agg #[.int .i64 a0_0, .slice A0_1 l0_1.length c0_1]] rfl (zm) ?_; (with_reducible refine (standstillref06_Valid.calls k a0_0 _ _ l0_1 false _ ?side1 ?side2 A6.out).mono ?_); (case side1 => exact zC ((Kd.C_below HR0_1.out HB.out))); (case side2 => exact HC0_1.out); rintro e w26 ⟨rfl, hb⟩; refine ⟨_, rfl, ?_⟩; replace BK161 := Aside0.mk (zb BK161 hb); replace BK162 := Aside0.mk (zb BK162 hb); replace HB := Aside0.mk (below_step (zB HB) hb); (try clear hb); (try clear hb2); (try clear hk); (try clear hi)))
   go_meet
   case rel => exact ⟨_, (true), (by first | rfl | (simp; done) | (simp [*]; done)), H', ⟨by first | omega | exact Nat.le_refl _⟩, ⟨zk BK161⟩, ⟨zk BK162⟩, ⟨zB HB⟩⟩
 case rest =>
  clear HC3
  try clear c1
  try clear c2
  try clear p2
  try clear c6
  try clear c7
  try clear c9
  try clear c10
  try clear c18
  try clear c24
  try clear hz11
  try clear hz13
  try clear hz14
  try clear hz16
  try clear hz17
  try clear hz19
  try clear hz21
  try clear hz22
  try clear hz25
  obtain ⟨kq, x23_2, rfl, HA, HJ2, BK161, BK162, HB⟩ := hcut
  cases kq with
  | zero => exact absurd HA.out (by simp [standstillref06_Fits.j0])
  | succ kj2 =>
   have H := HA.out
   clear HA
   simp only [standstillref06_Fits.j0] at H
   by_cases c27 : x23_2 = true
   ·
    subst c27
    have H1 : (some false) = some r := by rw [if_pos rfl] at H; exact H
    clear H
    have H := H1
    clear H1
    obtain rfl := Option.some.inj H
    go_wp2
    go_ret
    exact ⟨by first | rfl | (simp [errW_none, errW_some] <;> rfl) | (simp [*, errW_none, errW_some] <;> rfl), zB HB⟩
   ·
    replace c27 := Bool.eq_false_iff.mpr c27
    subst c27
    have H1 : (standstillref06_Fits.l0 kj2 0 a1_0 l1_1) = some r := by rw [if_neg (show ¬ (false = true) by decide)] at H; exact H
    clear H
    have H := H1
    clear H1
    have H' := Aside0.mk H
    clear H
    go_wp2
    go_loopg [5] kj2 (fun kq v5 w' => ∃ (x5_2 : Int), v5 = .int .i64 x5_2 ∧ Aside0 (standstillref06_Fits.l0 kq x5_2 a1_0 l1_1 = some r) ∧ Aside0 (kq ≤ kj2) ∧ Aside0 (w'.heap[gb161]? = some (.cells #[.int .i64 a0_0, (.slice A0_1 l0_1.length c0_1)] 24 (0, 0))) ∧ Aside0 (w'.heap[gb162]? = some (.cells #[.int .i64 a1_0, (.slice A1_1 l1_1.length c1_1)] 29 (0, 0))) ∧ Aside0 (Below w.heap.size w w'))
    case atStart => exact ⟨(0), (by first | rfl | (simp; done) | (simp [*]; done)), H', ⟨Nat.le_refl _⟩, ⟨zk BK161⟩, ⟨zk BK162⟩, ⟨zB HB⟩⟩
    case round =>
     clear H'
     try clear c1
     try clear c2
     try clear p2
     try clear c6
     try clear c7
     try clear c9
     try clear c10
     try clear c18
     try clear c24
     try clear c27
     try clear hz11
     try clear hz13
     try clear hz14
     try clear hz16
     try clear hz17
     try clear hz19
     try clear hz21
     try clear hz22
     try clear hz25
     try clear p2
     obtain ⟨x5_2, rfl, HA, HK2, BK161, BK162, HB⟩ := hrel
     cases gk with
     | zero => exact absurd HA.out (by simp [standstillref06_Fits.l0])
     | succ k2 =>
      have H := HA.out
      clear HA
      simp only [standstillref06_Fits.l0] at H
      by_cases c28 : x5_2 < (l1_1.length : Int)
      ·
       rw [if_pos c28] at H
       have c28b0 : decide (x5_2 < (l1_1.length : Int)) = true := decide_eq_true c28
       clear c28
       by_cases c29 : 0 ≤ x5_2
       ·
        rw [if_pos c29] at H
        have c29b0 : decide (0 ≤ x5_2) = true := decide_eq_true c29
        clear c29
        by_cases c30 : (rd l1_1 x5_2) < 0
        ·
         rw [if_pos c30] at H
         have c30b0 : decide ((rd l1_1 x5_2) < 0) = true := decide_eq_true c30
         clear c30
         obtain rfl := Option.some.inj H
         have hnb31 := NB162_161.out
         have hnc31 := NB161_162.out
         have hz32 := zc2 BK162
         have p165 : 0 ≤ (x5_2 : Int) := of_decide_eq_true (by first | (with_reducible assumption) | assumption)
         have q165 : x5_2 < (l1_1.length : Int) := of_decide_eq_true (by first | (with_reducible assumption) | assumption)
         obtain ⟨ad165, e165, hx165_0⟩ := Kd.at_int HR1_1.out x5_2 p165 q165
         cases e165
         replace hx165_0 := (HB.out.cell (World.block_lt_of_cell? w _ hx165_0)).trans hx165_0
         replace p165 := eq_true p165
         replace q165 := eq_true q165
         go_wp2
         go_ret
         exact ⟨by first | rfl | (simp [errW_none, errW_some] <;> rfl) | (simp [*, errW_none, errW_some] <;> rfl), zB HB⟩
        ·
         rw [if_neg c30] at H
         have c30b0 : decide ((rd l1_1 x5_2) < 0) = false := decide_eq_false c30
         clear c30
         by_cases c33 : (rd l1_1 x5_2) > 1152921504606846976
         ·
          rw [if_pos c33] at H
          have c33b0 : decide (1152921504606846976 < (rd l1_1 x5_2)) = true := decide_eq_true c33
          clear c33
          obtain rfl := Option.some.inj H
          have hnb34 := NB162_161.out
          have hnc34 := NB161_162.out
          have hz35 := zc2 BK162
          have p165 : 0 ≤ (x5_2 : Int) := of_decide_eq_true (by first | (with_reducible assumption) | assumption)
          have q165 : x5_2 < (l1_1.length : Int) := of_decide_eq_true (by first | (with_reducible assumption) | assumption)
          obtain ⟨ad165, e165, hx165_0⟩ := Kd.at_int HR1_1.out x5_2 p165 q165
          cases e165
          replace hx165_0 := (HB.out.cell (World.block_lt_of_cell? w _ hx165_0)).trans hx165_0
          replace p165 := eq_true p165
          replace q165 := eq_true q165
          have p166 : 0 ≤ (x5_2 : Int) := of_decide_eq_true (by first | (with_reducible assumption) | assumption)
          have q166 : x5_2 < (l1_1.length : Int) := of_decide_eq_true (by first | (with_reducible assumption) | assumption)
          obtain ⟨ad166, e166, hx166_0⟩ := Kd.at_int HR1_1.out x5_2 p166 q166
          obtain rfl : ad165 = ad166 := (by injection e166)
          replace hx166_0 := (HB.out.cell (World.block_lt_of_cell? w _ hx166_0)).trans hx166_0
          replace p166 := eq_true p166
          replace q166 := eq_true q166
          go_wp2
          go_ret
          exact ⟨by first | rfl | (simp [errW_none, errW_some] <;> rfl) | (simp [*, errW_none, errW_some] <;> rfl), zB HB⟩
         ·
          rw [if_neg c33] at H
          have c33b0 : decide (1152921504606846976 < (rd l1_1 x5_2)) = false := decide_eq_false c33
          clear c33
          have H' := Aside0.mk H
          clear H
          have hnb36 := NB162_161.out
          have hnc36 := NB161_162.out
          have hz37 := zc2 BK162
          have p165 : 0 ≤ (x5_2 : Int) := of_decide_eq_true (by first | (with_reducible assumption) | assumption)
          have q165 : x5_2 < (l1_1.length : Int) := of_decide_eq_true (by first | (with_reducible assumption) | assumption)
          obtain ⟨ad165, e165, hx165_0⟩ := Kd.at_int HR1_1.out x5_2 p165 q165
          cases e165
          replace hx165_0 := (HB.out.cell (World.block_lt_of_cell? w _ hx165_0)).trans hx165_0
          replace p165 := eq_true p165
          replace q165 := eq_true q165
          have p166 : 0 ≤ (x5_2 : Int) := of_decide_eq_true (by first | (with_reducible assumption) | assumption)
          have q166 : x5_2 < (l1_1.length : Int) := of_decide_eq_true (by first | (with_reducible assumption) | assumption)
          obtain ⟨ad166, e166, hx166_0⟩ := Kd.at_int HR1_1.out x5_2 p166 q166
          obtain rfl : ad165 = ad166 := (by injection e166)
          replace hx166_0 := (HB.out.cell (World.block_lt_of_cell? w _ hx166_0)).trans hx166_0
          replace p166 := eq_true p166
          replace q166 := eq_true q166
          go_wp2
          go_roundg k2
          case measure => have := HJ2.out; have := HK2.out; omega
          case rel => exact ⟨(wrap64 (x5_2 + 1)), (by first | rfl | (simp; done) | (simp [*]; done)), H', ⟨by have := HJ2.out; have := HK2.out; omega⟩, ⟨zk BK161⟩, ⟨zk BK162⟩, ⟨zB HB⟩⟩
       ·
        rw [if_neg c29] at H
        exact absurd H (by simp)
      ·
       rw [if_neg c28] at H
       have c28b0 : decide (x5_2 < (l1_1.length : Int)) = false := decide_eq_false c28
       clear c28
       obtain rfl := Option.some.inj H
       have hnb38 := NB162_161.out
       have hnc38 := NB161_162.out
       have hz39 := zc2 BK162
       go_wp2
       go_ret
       exact ⟨by first | rfl | (simp [errW_none, errW_some] <;> rfl) | (simp [*, errW_none, errW_some] <;> rfl), zB HB⟩

end Go.Proofs.Ytcdmgeceahmngaa.GC
