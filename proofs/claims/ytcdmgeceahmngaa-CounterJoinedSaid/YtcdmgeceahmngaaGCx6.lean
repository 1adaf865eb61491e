/- The functions of one seat as Lean functions, each with its contract: the call of the Go function returns what the Lean function answers. Written by a program of this session out of the translation; contracts made by hand are laid between. -/
import Derived.Test.YtcdmgeceahmngaaGCx0
import Derived.Test.YtcdmgeceahmngaaGCx4
import Derived.Test.YtcdmgeceahmngaaGCx5
namespace Go.Proofs.Ytcdmgeceahmngaa.GC
open Go.RowKit Go.Proofs.YtcdmgeceahmngaaW.PrintWords Go.Proofs.YtcdmgeceahmngaaW.PrintLast Go.Proofs.YtcdmgeceahmngaaW.PrintMore
attribute [local go_sem] max2_int min2_int max_two min_two max_three min_three max_four min_four   -- for this text's walks alone
set_option linter.unusedVariables false
set_option linter.unusedSimpArgs false

/-! ### counter_Run: function 8 -/
def counter_Run.j0 : Nat → Int → Bool → Int → List (S35) → Int → List Int → Option (Int × List Int × Int × Int)
 | 0, _, _, _, _, _, _ => none
 | k + 1, x2, x22, x125000, x125001, x126000, x126001 => if x22 = true then (some (0, ([] : List Int), 0, 2)) else ((counter_run.f k x125000 x125001 x126000 x126001 x2).bind fun bt128 => (if bt128.2.2.2 = true then (some (bt128.1, bt128.2.1, bt128.2.2.1, 0)) else (some (0, ([] : List Int), 0, 4))))
def counter_Run.f (k : Nat) (a0_0 : Int) (l0_1 : List (S35)) (a1_0 : Int) (l1_1 : List Int) (a2 : Int) : Option (Int × List Int × Int × Int) := (counter_Fits.f k a0_0 l0_1 a1_0 l1_1).bind fun t127 => (if t127 = true then (if a2 < 0 then (counter_Run.j0 k a2 true a0_0 l0_1 a1_0 l1_1) else (counter_Run.j0 k a2 (decide (a2 > 1000000)) a0_0 l0_1 a1_0 l1_1)) else (some (0, ([] : List Int), 0, 1)))
theorem counter_Run.mono_l : ∀ k, (∀ y0 y1 y2 y3 y4 y5, LeO (counter_Run.j0 k y0 y1 y2 y3 y4 y5) (counter_Run.j0 (k + 1) y0 y1 y2 y3 y4 y5))
 | 0 => fun _ _ _ _ _ _ r h => by simp [counter_Run.j0] at h
 | k + 1 => by
  have ih0 := counter_Run.mono_l k
  ·
   intro y0 y1 y2 y3 y4 y5
   unfold counter_Run.j0
   repeat' first
   | (with_reducible exact ih0 _ _ _ _ _ _)
   | (with_reducible exact counter_Fits.mono _ _ _ _ _)
   | (with_reducible exact counter_run.mono _ _ _ _ _ _)
   | (with_reducible exact LeO.refl _)
   | (with_reducible exact LeO.none _)
   | (with_reducible refine LeO.ite ?_ ?_)
   | (with_reducible refine LeO.bind ?_ (fun _ => ?_))
   | exact ih0 _ _ _ _ _ _
   | exact counter_Fits.mono _ _ _ _ _
   | exact counter_run.mono _ _ _ _ _ _
   | exact LeO.none _
   | refine LeO.ite ?_ ?_
   | refine LeO.bind ?_ (fun _ => ?_)
theorem counter_Run.mono : ∀ a0 a1 a2 a3 a4 k, LeO (counter_Run.f k a0 a1 a2 a3 a4) (counter_Run.f (k + 1) a0 a1 a2 a3 a4) := by
 intro a0 a1 a2 a3 a4 k
 have ih0 := counter_Run.mono_l k
 unfold counter_Run.f
 repeat' first
   | (with_reducible exact ih0 _ _ _ _ _ _)
   | (with_reducible exact counter_Fits.mono _ _ _ _ _)
   | (with_reducible exact counter_run.mono _ _ _ _ _ _)
   | (with_reducible exact LeO.refl _)
   | (with_reducible exact LeO.none _)
   | (with_reducible refine LeO.ite ?_ ?_)
   | (with_reducible refine LeO.bind ?_ (fun _ => ?_))
   | exact ih0 _ _ _ _ _ _
   | exact counter_Fits.mono _ _ _ _ _
   | exact counter_run.mono _ _ _ _ _ _
   | exact LeO.none _
   | refine LeO.ite ?_ ?_
   | refine LeO.bind ?_ (fun _ => ?_)
set_option maxHeartbeats 8000000 in
set_option maxRecDepth 100000 in
theorem counter_Run.calls (k : Nat) (a0_0 : Int) (A0_1 : Option Addr) (c0_1 : Nat) (l0_1 : List (S35)) (a1_0 : Int) (A1_1 : Option Addr) (c1_1 : Nat) (l1_1 : List Int) (a2 : Int) (r1 : Int) (r2 : List Int) (r3 : Int) (r4 : Int) (w : World) (hr0_1 : Kd.C k35 w A0_1 l0_1.length l0_1) (hc0_1 : l0_1.length ≤ c0_1) (hr1_1 : Kd.C (Kd.int .i64) w A1_1 l1_1.length l1_1) (hc1_1 : l1_1.length ≤ c1_1) (h : counter_Run.f k a0_0 l0_1 a1_0 l1_1 a2 = some (r1, r2, r3, r4)) :
  Calls Try.prog 8 #[.agg #[.int .i64 a0_0, .slice A0_1 l0_1.length c0_1], .agg #[.int .i64 a1_0, .slice A1_1 l1_1.length c1_1], .int .i64 a2] w fun e w' => ∃ v1_ : Value, e = .returned (.tuple #[.agg #[.int .i64 r1, v1_], .int .i64 r3, .int .i64 r4]) ∧ Kd.R (Kd.int .i64) 3 w' w.heap.size (fun _ => True) v1_ r2 ∧ Below w.heap.size w w' := by
 have hu24 := Try.underlying24
 have hu29 := Try.underlying29
 have HR0_1 := Aside0.mk hr0_1
 have HC0_1 := Aside0.mk hc0_1
 clear hr0_1 hc0_1
 have HR1_1 := Aside0.mk hr1_1
 have HC1_1 := Aside0.mk hc1_1
 clear hr1_1 hc1_1
 have HB := Aside0.mk (Below.refl w.heap.size w)
 have H : ((counter_Fits.f k a0_0 l0_1 a1_0 l1_1).bind fun t127 => (if t127 = true then (if a2 < 0 then (counter_Run.j0 k a2 true a0_0 l0_1 a1_0 l1_1) else (counter_Run.j0 k a2 (decide (a2 > 1000000)) a0_0 l0_1 a1_0 l1_1)) else (some (0, ([] : List Int), 0, 1)))) = some (r1, r2, r3, r4) := h
 clear h
 replace H := Option.bind_eq_some_iff.mp H
 obtain ⟨t127, A40, H⟩ := H
 replace H : (if t127 = true then (if a2 < 0 then (counter_Run.j0 k a2 true a0_0 l0_1 a1_0 l1_1) else (counter_Run.j0 k a2 (decide (a2 > 1000000)) a0_0 l0_1 a1_0 l1_1)) else (some (0, ([] : List Int), 0, 1))) = some (r1, r2, r3, r4) := H
 have A4 := Aside0.mk A40
 clear A40
 have HC5 := Aside0.mk H
 clear H
 go_enter Try.func8, Try.ntmps8
 go_upto_if 15 with (first | ((with_reducible refine gate_dst (N := 3) rfl ?_); refine box_event ?hg (N := 3) ?hd (cs := #[.int .i64 a0_0, .slice A0_1 l0_1.length c0_1]) (t := 24) ?hr ?_; (case hd => rfl); (case hg => rfl); (case hr => first | (go_simp; done) | (go_simp; rfl)); intro gb124 hg w6 hbox hb; have BK124 := Aside0.mk (hbox); have GW124 := Aside0.mk ((by rw [hg]; exact (below_size (zB HB)) : w.heap.size ≤ gb124)); have GE124 := Aside0.mk ((by rw [hg]; exact (below_size (zB HB)) : w.heap.size ≤ gb124)); replace HB := Aside0.mk (below_step (zB HB) hb); clear hb hbox hg) | ((with_reducible refine gate_dst (N := 4) rfl ?_); refine box_event ?hg (N := 4) ?hd (cs := #[.int .i64 a1_0, .slice A1_1 l1_1.length c1_1]) (t := 29) ?hr ?_; (case hd => rfl); (case hg => rfl); (case hr => first | (go_simp; done) | (go_simp; rfl)); intro gb125 hg w7 hbox hb; have BK125 := Aside0.mk (hbox); have GW125 := Aside0.mk ((by rw [hg]; exact (below_size (zB HB)) : w.heap.size ≤ gb125)); have GE125 := Aside0.mk ((by rw [hg]; exact (below_size (zB HB)) : w.heap.size ≤ gb125)); have NB124_125 := Aside0.mk ((by rw [hg]; exact Nat.ne_of_lt (zL BK124) : gb124 ≠ gb125)); have NB125_124 := Aside0.mk ((by rw [hg]; exact Nat.ne_of_gt (zL BK124) : gb125 ≠ gb124)); replace BK124 := Aside0.mk (zb BK124 hb); replace HB := Aside0.mk (below_step (zB HB) hb); clear hb hbox hg) | ((with_reducible refine gate_dst (N := 6) rfl ?_); refine box_event ?hg (N := 6) ?hd (cs := #[.int .i64 0, .slice none 0 0]) (t := 29) ?hr ?_; (case hd => rfl); (case hg => rfl); (case hr => first | (go_simp; done) | (go_simp; rfl)); intro gb126 hg w8 hbox hb; have BK126 := Aside0.mk (hbox); have GW126 := Aside0.mk ((by rw [hg]; exact (below_size (zB HB)) : w.heap.size ≤ gb126)); have GE126 := Aside0.mk ((by rw [hg]; exact (below_size (zB HB)) : w.heap.size ≤ gb126)); have NB124_126 := Aside0.mk ((by rw [hg]; exact Nat.ne_of_lt (zL BK124) : gb124 ≠ gb126)); have NB126_124 := Aside0.mk ((by rw [hg]; exact Nat.ne_of_gt (zL BK124) : gb126 ≠ gb124)); have NB125_126 := Aside0.mk ((by rw [hg]; exact Nat.ne_of_lt (zL BK125) : gb125 ≠ gb126)); have NB126_125 := Aside0.mk ((by rw [hg]; exact Nat.ne_of_gt (zL BK125) : gb126 ≠ gb125)); replace BK124 := Aside0.mk (zb BK124 hb); replace BK125 := Aside0.mk (zb BK125 hb); replace HB := Aside0.mk (below_step (zB HB) hb); clear hb hbox hg; have hnb9 := NB124_125.out; have hnc9 := NB125_124.out; have hnb10 := NB124_126.out; have hnc10 := NB126_124.out; have hz11 := zc2 BK124; have hnb12 := NB125_126.out; have hnc12 := NB126_125.out; have hz13 := zc2 BK125) | ((with_reducible refine gate_callee (f := 14) rfl ?_); refine goesL_ (some 14) rfl rfl Try.func14 (by kernel_rfl) rfl #[.agg #[.int .i64 a0_0, .slice A0_1 l0_1.length c0_1], .agg #[.int .i64 a1_0, .slice A1_1 l1_1.length c1_1]] rfl (zm) ?_; (with_reducible refine (counter_Fits.calls k a0_0 _ _ l0_1 a1_0 _ _ l1_1 t127 _ ?side1 ?side2 ?side3 ?side4 A4.out).mono ?_); (case side1 => exact zC ((Kd.C_below HR0_1.out HB.out))); (case side2 => exact HC0_1.out); (case side3 => exact zC ((Kd.C_below HR1_1.out HB.out))); (case side4 => exact HC1_1.out); rintro e w14 ⟨rfl, hb⟩; refine ⟨_, rfl, ?_⟩; replace BK124 := Aside0.mk (zb BK124 hb); replace BK125 := Aside0.mk (zb BK125 hb); replace BK126 := Aside0.mk (zb BK126 hb); replace HB := Aside0.mk (below_step (zB HB) hb); (try clear hb); (try clear hb2); (try clear hk); (try clear hi)))
 (try simp only [Act.put, zs, zs0, zs1])
 have H := HC5.out
 clear HC5
 by_cases c15 : t127 = true
 ·
  subst c15
  have H1 : (if a2 < 0 then (counter_Run.j0 k a2 true a0_0 l0_1 a1_0 l1_1) else (counter_Run.j0 k a2 (decide (a2 > 1000000)) a0_0 l0_1 a1_0 l1_1)) = some (r1, r2, r3, r4) := by rw [if_pos rfl] at H; exact H
  clear H
  have H := H1
  clear H1
  have HC16 := Aside0.mk H
  clear H
  go_upto_region 3 with (fail)
  go_cut [22] (fun v22 wc => ∃ (kq : Nat) (x22_15 : Bool), v22 = .bool x22_15 ∧ Aside0 (counter_Run.j0 kq a2 x22_15 a0_0 l0_1 a1_0 l1_1 = some (r1, r2, r3, r4)) ∧ Aside0 (kq ≤ k) ∧ Aside0 (wc.heap[gb124]? = some (.cells #[.int .i64 a0_0, (.slice A0_1 l0_1.length c0_1)] 24 (0, 0))) ∧ Aside0 (wc.heap[gb125]? = some (.cells #[.int .i64 a1_0, (.slice A1_1 l1_1.length c1_1)] 29 (0, 0))) ∧ Aside0 (wc.heap[gb126]? = some (.cells #[.int .i64 0, (.slice none 0 0)] 29 (0, 0))) ∧ Aside0 (Below w.heap.size w wc))
  case first =>
   have H := HC16.out
   clear HC16
   by_cases c17 : a2 < 0
   ·
    rw [if_pos c17] at H
    have c17b0 : decide (a2 < 0) = true := decide_eq_true c17
    clear c17
    (first | rw [c17b0] | (simp only [i64_w, i32_w]; rw [c17b0]) | skip)
    (try rw [c17b1])
    have H' := Aside0.mk H
    clear H
    go_wp2
    go_meet
    case rel => exact ⟨_, (true), (by first | rfl | (simp; done) | (simp [*]; done)), H', ⟨by first | omega | exact Nat.le_refl _⟩, ⟨zk BK124⟩, ⟨zk BK125⟩, ⟨zk BK126⟩, ⟨zB HB⟩⟩
   ·
    rw [if_neg c17] at H
    have c17b0 : decide (a2 < 0) = false := decide_eq_false c17
    clear c17
    (first | rw [c17b0] | (simp only [i64_w, i32_w]; rw [c17b0]) | skip)
    (try rw [c17b1])
    have H' := Aside0.mk H
    clear H
    go_wp2
    go_meet
    case rel => exact ⟨_, (decide (a2 > 1000000)), (by first | rfl | (simp; done) | (simp [*]; done)), H', ⟨by first | omega | exact Nat.le_refl _⟩, ⟨zk BK124⟩, ⟨zk BK125⟩, ⟨zk BK126⟩, ⟨zB HB⟩⟩
  case rest =>
   clear HC16
   try clear c1
   try clear p2
   try clear c8
   try clear c9
   try clear c10
   try clear c12
   try clear c14
   try clear c15
   try clear c17
   try clear c17b0
   try clear c17b1
   try clear hz11
   try clear hz13
   obtain ⟨kq, x22_15, rfl, HA, HJ15, BK124, BK125, BK126, HB⟩ := hcut
   cases kq with
   | zero => exact absurd HA.out (by simp [counter_Run.j0])
   | succ kj15 =>
    have H := HA.out
    clear HA
    simp only [counter_Run.j0] at H
    by_cases c18 : x22_15 = true
    ·
     subst c18
     have H1 : (some (0, ([] : List Int), 0, 2)) = some (r1, r2, r3, r4) := by rw [if_pos rfl] at H; exact H
     clear H
     have H := H1
     clear H1
     simp only [Option.some.injEq, Prod.mk.injEq] at H
     obtain ⟨rfl, rfl, rfl, rfl⟩ := H
     have hnb19 := NB126_124.out
     have hnc19 := NB124_126.out
     have hnb20 := NB126_125.out
     have hnc20 := NB125_126.out
     have hz21 := zc2 BK126
     go_wp2
     refine bodyPost_ret (results_ctt rfl _ _ gb126 29 #[.int .i64 0, .slice none 0 0] (0, 0) _ rfl (by (with_reducible repeat (first | refine blk_drewN ?_ _ | refine blk_drew ?_ | refine blk_alloc ?_ _)); refine blk_put (cs := #[.int .i64 0, .slice none 0 0]) ?_ 1 _ rfl; (with_reducible repeat (first | refine blk_drewN ?_ _ | refine blk_drew ?_ | refine blk_alloc ?_ _)); refine blk_put (cs := #[.int .i64 0, .slice none 0 0]) ?_ 0 _ rfl; (with_reducible repeat (first | refine blk_drewN ?_ _ | refine blk_drew ?_ | refine blk_alloc ?_ _)); exact BK126.out) Try.underlying29 rfl (by kernel_rfl)) rfl ?_
     exact ⟨_, by first | rfl | (simp [errW_none, errW_some] <;> rfl) | (simp [*, errW_none, errW_some] <;> rfl), by first | exact Kd.R_nil _ _ _ _ _ | exact Kd.N_nil _ _ _ _ _ | exact Kd.V_nil _ _ _ _ _ | exact Kd.Q_nil _ _ _ _ _ | exact Kd.S_nil _ _ _ _ _, zB HB⟩
    ·
     replace c18 := Bool.eq_false_iff.mpr c18
     subst c18
     have H1 : ((counter_run.f kj15 a0_0 l0_1 a1_0 l1_1 a2).bind fun bt128 => (if bt128.2.2.2 = true then (some (bt128.1, bt128.2.1, bt128.2.2.1, 0)) else (some (0, ([] : List Int), 0, 4)))) = some (r1, r2, r3, r4) := by rw [if_neg (show ¬ (false = true) by decide)] at H; exact H
     clear H
     have H := H1
     clear H1
     replace H := Option.bind_eq_some_iff.mp H
     obtain ⟨⟨t128, t129, t132, t133⟩, A220, H⟩ := H
     replace H : (if t133 = true then (some (t128, t129, t132, 0)) else (some (0, ([] : List Int), 0, 4))) = some (r1, r2, r3, r4) := H
     have A22 := Aside0.mk A220
     clear A220
     have HC23 := Aside0.mk H
     clear H
     have hnb24 := NB124_125.out
     have hnc24 := NB125_124.out
     have hnb25 := NB124_126.out
     have hnc25 := NB126_124.out
     have hz26 := zc2 BK124
     have hnb27 := NB125_126.out
     have hnc27 := NB126_125.out
     have hz28 := zc2 BK125
     go_upto_if 33 with (first | ((with_reducible refine gate_callee (f := 23) rfl ?_); refine goesL_ (some 28) rfl rfl Try.func23 (by kernel_rfl) rfl #[.agg #[.int .i64 a0_0, .slice A0_1 l0_1.length c0_1], .agg #[.int .i64 a1_0, .slice A1_1 l1_1.length c1_1], .int .i64 a2, .func (.func 24) #[] #[]] rfl (zm) ?_; (with_reducible refine (counter_run.calls kj15 a0_0 _ _ l0_1 a1_0 _ _ l1_1 a2 t128 t129 t132 t133 _ ?side1 ?side2 ?side3 ?side4 A22.out).mono ?_); (case side1 => exact zC ((Kd.C_below HR0_1.out HB.out))); (case side2 => exact HC0_1.out); (case side3 => exact zC ((Kd.C_below HR1_1.out HB.out))); (case side4 => exact HC1_1.out); rintro e w29 ⟨v130, rfl, ho0, hb⟩; refine ⟨_, rfl, ?_⟩; have HO131 := Aside0.mk (Kd.R_lower ho0 (below_size (zB HB))); replace BK124 := Aside0.mk (zb BK124 hb); replace BK125 := Aside0.mk (zb BK125 hb); replace BK126 := Aside0.mk (zb BK126 hb); replace HB := Aside0.mk (below_step (zB HB) hb); (try clear hb); (try clear hb2); (try clear hk); (try clear hi); (try clear ho0)) | ((with_reducible refine gate_dst (N := 9) rfl ?_); refine box_event ?hg (N := 9) ?hd (cs := #[.int .i64 0, .slice none 0 0]) (t := 29) ?hr ?_; (case hd => rfl); (case hg => rfl); (case hr => first | (go_simp; done) | (go_simp; rfl)); intro gb134 hg w30 hbox hb; have BK134 := Aside0.mk (hbox); have GW134 := Aside0.mk ((by rw [hg]; exact (below_size (zB HB)) : w.heap.size ≤ gb134)); have GE134 := Aside0.mk ((by rw [hg]; exact (below_size (zB HB)) : w.heap.size ≤ gb134)); have NB124_134 := Aside0.mk ((by rw [hg]; exact Nat.ne_of_lt (zL BK124) : gb124 ≠ gb134)); have NB134_124 := Aside0.mk ((by rw [hg]; exact Nat.ne_of_gt (zL BK124) : gb134 ≠ gb124)); have NB125_134 := Aside0.mk ((by rw [hg]; exact Nat.ne_of_lt (zL BK125) : gb125 ≠ gb134)); have NB134_125 := Aside0.mk ((by rw [hg]; exact Nat.ne_of_gt (zL BK125) : gb134 ≠ gb125)); have NB126_134 := Aside0.mk ((by rw [hg]; exact Nat.ne_of_lt (zL BK126) : gb126 ≠ gb134)); have NB134_126 := Aside0.mk ((by rw [hg]; exact Nat.ne_of_gt (zL BK126) : gb134 ≠ gb126)); replace HO131 := Aside0.mk (zRb HO131 hb); replace BK124 := Aside0.mk (zb BK124 hb); replace BK125 := Aside0.mk (zb BK125 hb); replace BK126 := Aside0.mk (zb BK126 hb); replace HB := Aside0.mk (below_step (zB HB) hb); clear hb hbox hg; have hnb31 := NB134_124.out; have hnc31 := NB124_134.out; have hnb32 := NB134_125.out; have hnc32 := NB125_134.out; have hnb33 := NB134_126.out; have hnc33 := NB126_134.out; have hz34 := zc2 BK134; obtain ⟨Ao35, co35, eo35⟩ := Kd.R_slice HO131.out; subst eo35) | ((with_reducible refine gate_store (t := 29) (p := 9) rfl ?_); refine store_event (t := 29) (p := 9) (v := ?vo_w36) (w1 := ((w30.setCell ⟨gb134, 0, none⟩ (.int .i64 t128)).setCell ⟨gb134, 1, none⟩ (.slice Ao35 t129.length co35))) ?hg ?ho ?hn ?hr ?_; (case ho => rfl); (case hg => rfl); (case hn => rfl); (case hr => first | (go_simp; done) | (go_simp; rfl)); intro w36 hw; have n0_ : Aside0 (Kd.R (Kd.int .i64) 3 w36 w.heap.size (fun _ => True) (.slice Ao35 t129.length co35) t129) := ⟨(by rw [hw]; exact (by (with_reducible repeat (first | apply Kd.R_alloc | apply Kd.R_drewN | apply Kd.R_drew)); exact Kd.R_mono (zRf2 (g := gb134) (Kd.R_types HO131.out BK134.out (by decide))) (fun _ hk => trivial)))⟩; have n1_ : Aside0 (w36.heap[gb124]? = some (.cells #[.int .i64 a0_0, .slice A0_1 l0_1.length c0_1] 24 (0, 0))) := ⟨(by rw [hw]; exact (zK BK124))⟩; have n2_ : Aside0 (w36.heap[gb125]? = some (.cells #[.int .i64 a1_0, .slice A1_1 l1_1.length c1_1] 29 (0, 0))) := ⟨(by rw [hw]; exact (zK BK125))⟩; have n3_ : Aside0 (w36.heap[gb126]? = some (.cells #[.int .i64 0, .slice none 0 0] 29 (0, 0))) := ⟨(by rw [hw]; exact (zK BK126))⟩; have n4_ : Aside0 (w36.heap[gb134]? = some (.cells #[.int .i64 t128, .slice Ao35 t129.length co35] 29 (0, 0))) := ⟨(by rw [hw]; exact (by (with_reducible repeat (first | refine blk_drewN ?_ _ | refine blk_drew ?_ | refine blk_alloc ?_ _)); refine blk_put (cs := #[.int .i64 t128, .slice none 0 0]) ?_ 1 _ rfl; (with_reducible repeat (first | refine blk_drewN ?_ _ | refine blk_drew ?_ | refine blk_alloc ?_ _)); refine blk_put (cs := #[.int .i64 0, .slice none 0 0]) ?_ 0 _ rfl; (with_reducible repeat (first | refine blk_drewN ?_ _ | refine blk_drew ?_ | refine blk_alloc ?_ _)); exact BK134.out))⟩; have n5_ : Aside0 (Below w.heap.size w w36) := ⟨(by rw [hw]; exact (zB HB))⟩; clear hw; clear HO131; clear BK124; clear BK125; clear BK126; clear BK134; clear HB; have HO131 := n0_; have BK124 := n1_; have BK125 := n2_; have BK126 := n3_; have BK134 := n4_; have HB := n5_; clear n0_ n1_ n2_ n3_ n4_ n5_))
     (try simp only [Act.put, zs, zs0, zs1])
     have H := HC23.out
     clear HC23
     by_cases c37 : t133 = true
     ·
      subst c37
      have H1 : (some (t128, t129, t132, 0)) = some (r1, r2, r3, r4) := by rw [if_pos rfl] at H; exact H
      clear H
      have H := H1
      clear H1
      simp only [Option.some.injEq, Prod.mk.injEq] at H
      obtain ⟨rfl, rfl, rfl, rfl⟩ := H
      have hnb38 := NB134_124.out
      have hnc38 := NB124_134.out
      have hnb39 := NB134_125.out
      have hnc39 := NB125_134.out
      have hnb40 := NB134_126.out
      have hnc40 := NB126_134.out
      have hz41 := zc2 BK134
      have hnb42 := NB126_124.out
      have hnc42 := NB124_126.out
      have hnb43 := NB126_125.out
      have hnc43 := NB125_126.out
      have hz44 := zc2 BK126
      go_wp2
      refine bodyPost_ret (results_ctt rfl _ _ gb126 29 #[.int .i64 t128, .slice Ao35 t129.length co35] (0, 0) _ rfl (by (with_reducible repeat (first | refine blk_drewN ?_ _ | refine blk_drew ?_ | refine blk_alloc ?_ _)); refine blk_put (cs := #[.int .i64 t128, .slice none 0 0]) ?_ 1 _ rfl; (with_reducible repeat (first | refine blk_drewN ?_ _ | refine blk_drew ?_ | refine blk_alloc ?_ _)); refine blk_put (cs := #[.int .i64 0, .slice none 0 0]) ?_ 0 _ rfl; (with_reducible repeat (first | refine blk_drewN ?_ _ | refine blk_drew ?_ | refine blk_alloc ?_ _)); exact BK126.out) Try.underlying29 rfl (by kernel_rfl)) rfl ?_
      exact ⟨_, by first | rfl | (simp [errW_none, errW_some] <;> rfl) | (simp [*, errW_none, errW_some] <;> rfl), by (with_reducible repeat (first | apply Kd.R_alloc | apply Kd.R_drewN | apply Kd.R_drew)); exact Kd.R_mono (zRf2 (g := gb126) (Kd.R_types HO131.out BK126.out (by decide))) (fun _ hk => trivial), zB HB⟩
     ·
      replace c37 := Bool.eq_false_iff.mpr c37
      subst c37
      have H1 : (some (0, ([] : List Int), 0, 4)) = some (r1, r2, r3, r4) := by rw [if_neg (show ¬ (false = true) by decide)] at H; exact H
      clear H
      have H := H1
      clear H1
      simp only [Option.some.injEq, Prod.mk.injEq] at H
      obtain ⟨rfl, rfl, rfl, rfl⟩ := H
      have hnb45 := NB126_124.out
      have hnc45 := NB124_126.out
      have hnb46 := NB126_125.out
      have hnc46 := NB125_126.out
      have hnb47 := NB126_134.out
      have hnc47 := NB134_126.out
      have hz48 := zc2 BK126
      go_wp2
      refine bodyPost_ret (results_ctt rfl _ _ gb126 29 #[.int .i64 0, .slice none 0 0] (0, 0) _ rfl (by (with_reducible repeat (first | refine blk_drewN ?_ _ | refine blk_drew ?_ | refine blk_alloc ?_ _)); refine blk_put (cs := #[.int .i64 0, .slice none 0 0]) ?_ 1 _ rfl; (with_reducible repeat (first | refine blk_drewN ?_ _ | refine blk_drew ?_ | refine blk_alloc ?_ _)); refine blk_put (cs := #[.int .i64 0, .slice none 0 0]) ?_ 0 _ rfl; (with_reducible repeat (first | refine blk_drewN ?_ _ | refine blk_drew ?_ | refine blk_alloc ?_ _)); exact BK126.out) Try.underlying29 rfl (by kernel_rfl)) rfl ?_
      exact ⟨_, by first | rfl | (simp [errW_none, errW_some] <;> rfl) | (simp [*, errW_none, errW_some] <;> rfl), by first | exact Kd.R_nil _ _ _ _ _ | exact Kd.N_nil _ _ _ _ _ | exact Kd.V_nil _ _ _ _ _ | exact Kd.Q_nil _ _ _ _ _ | exact Kd.S_nil _ _ _ _ _, zB HB⟩
 ·
  replace c15 := Bool.eq_false_iff.mpr c15
  subst c15
  have H1 : (some (0, ([] : List Int), 0, 1)) = some (r1, r2, r3, r4) := by rw [if_neg (show ¬ (false = true) by decide)] at H; exact H
  clear H
  have H := H1
  clear H1
  simp only [Option.some.injEq, Prod.mk.injEq] at H
  obtain ⟨rfl, rfl, rfl, rfl⟩ := H
  have hnb49 := NB126_124.out
  have hnc49 := NB124_126.out
  have hnb50 := NB126_125.out
  have hnc50 := NB125_126.out
  have hz51 := zc2 BK126
  go_wp2
  refine bodyPost_ret (results_ctt rfl _ _ gb126 29 #[.int .i64 0, .slice none 0 0] (0, 0) _ rfl (by (with_reducible repeat (first | refine blk_drewN ?_ _ | refine blk_drew ?_ | refine blk_alloc ?_ _)); refine blk_put (cs := #[.int .i64 0, .slice none 0 0]) ?_ 1 _ rfl; (with_reducible repeat (first | refine blk_drewN ?_ _ | refine blk_drew ?_ | refine blk_alloc ?_ _)); refine blk_put (cs := #[.int .i64 0, .slice none 0 0]) ?_ 0 _ rfl; (with_reducible repeat (first | refine blk_drewN ?_ _ | refine blk_drew ?_ | refine blk_alloc ?_ _)); exact BK126.out) Try.underlying29 rfl (by kernel_rfl)) rfl ?_
  exact ⟨_, by first | rfl | (simp [errW_none, errW_some] <;> rfl) | (simp [*, errW_none, errW_some] <;> rfl), by first | exact Kd.R_nil _ _ _ _ _ | exact Kd.N_nil _ _ _ _ _ | exact Kd.V_nil _ _ _ _ _ | exact Kd.Q_nil _ _ _ _ _ | exact Kd.S_nil _ _ _ _ _, zB HB⟩

/-! ### standstillref06_SameCount: function 11 -/
mutual
def standstillref06_SameCount.j0 : Nat → Bool → Int → List Int → Int → List Int → Option (Bool)
 | 0, _, _, _, _, _ => none
 | k + 1, x19, x136000, x136001, x137000, x137001 => if x19 = true then (some false) else (standstillref06_SameCount.l0 k 0 x136000 x136001 x137000 x137001)
def standstillref06_SameCount.l0 : Nat → Int → Int → List Int → Int → List Int → Option (Bool)
 | 0, _, _, _, _, _ => none
 | k + 1, x5, x136000, x136001, x137000, x137001 => if x5 < (x136001.length : Int) then (if 0 ≤ x5 then (if x5 < (x137001.length : Int) then (if (rd x136001 x5) = (rd x137001 x5) then (standstillref06_SameCount.l0 k (wrap64 (x5 + 1)) x136000 x136001 x137000 x137001) else (some false)) else (none)) else (none)) else (some true)
end
def standstillref06_SameCount.f (k : Nat) (a0_0 : Int) (l0_1 : List Int) (a1_0 : Int) (l1_1 : List Int) : Option (Bool) := if a0_0 = a1_0 then (standstillref06_SameCount.j0 k ((l0_1.length : Int) != (l1_1.length : Int)) a0_0 l0_1 a1_0 l1_1) else (standstillref06_SameCount.j0 k true a0_0 l0_1 a1_0 l1_1)
theorem standstillref06_SameCount.mono_l : ∀ k, (∀ y0 y1 y2 y3 y4, LeO (standstillref06_SameCount.j0 k y0 y1 y2 y3 y4) (standstillref06_SameCount.j0 (k + 1) y0 y1 y2 y3 y4)) ∧ (∀ y0 y1 y2 y3 y4, LeO (standstillref06_SameCount.l0 k y0 y1 y2 y3 y4) (standstillref06_SameCount.l0 (k + 1) y0 y1 y2 y3 y4))
 | 0 => ⟨fun _ _ _ _ _ r h => by simp [standstillref06_SameCount.j0] at h, fun _ _ _ _ _ r h => by simp [standstillref06_SameCount.l0] at h⟩
 | k + 1 => by
  obtain ⟨ih0, ih1⟩ := standstillref06_SameCount.mono_l k
  refine ⟨?_, ?_⟩
  ·
   intro y0 y1 y2 y3 y4
   unfold standstillref06_SameCount.j0
   repeat' first
   | (with_reducible exact ih0 _ _ _ _ _)
   | (with_reducible exact ih1 _ _ _ _ _)
   | (with_reducible exact LeO.refl _)
   | (with_reducible exact LeO.none _)
   | (with_reducible refine LeO.ite ?_ ?_)
   | (with_reducible refine LeO.bind ?_ (fun _ => ?_))
   | exact ih0 _ _ _ _ _
   | exact ih1 _ _ _ _ _
   | exact LeO.none _
   | refine LeO.ite ?_ ?_
   | refine LeO.bind ?_ (fun _ => ?_)
  ·
   intro y0 y1 y2 y3 y4
   unfold standstillref06_SameCount.l0
   repeat' first
   | (with_reducible exact ih0 _ _ _ _ _)
   | (with_reducible exact ih1 _ _ _ _ _)
   | (with_reducible exact LeO.refl _)
   | (with_reducible exact LeO.none _)
   | (with_reducible refine LeO.ite ?_ ?_)
   | (with_reducible refine LeO.bind ?_ (fun _ => ?_))
   | exact ih0 _ _ _ _ _
   | exact ih1 _ _ _ _ _
   | exact LeO.none _
   | refine LeO.ite ?_ ?_
   | refine LeO.bind ?_ (fun _ => ?_)
theorem standstillref06_SameCount.mono : ∀ a0 a1 a2 a3 k, LeO (standstillref06_SameCount.f k a0 a1 a2 a3) (standstillref06_SameCount.f (k + 1) a0 a1 a2 a3) := by
 intro a0 a1 a2 a3 k
 obtain ⟨ih0, ih1⟩ := standstillref06_SameCount.mono_l k
 unfold standstillref06_SameCount.f
 repeat' first
   | (with_reducible exact ih0 _ _ _ _ _)
   | (with_reducible exact ih1 _ _ _ _ _)
   | (with_reducible exact LeO.refl _)
   | (with_reducible exact LeO.none _)
   | (with_reducible refine LeO.ite ?_ ?_)
   | (with_reducible refine LeO.bind ?_ (fun _ => ?_))
   | exact ih0 _ _ _ _ _
   | exact ih1 _ _ _ _ _
   | exact LeO.none _
   | refine LeO.ite ?_ ?_
   | refine LeO.bind ?_ (fun _ => ?_)
set_option maxHeartbeats 8000000 in
set_option maxRecDepth 100000 in
theorem standstillref06_SameCount.calls (k : Nat) (a0_0 : Int) (A0_1 : Option Addr) (c0_1 : Nat) (l0_1 : List Int) (a1_0 : Int) (A1_1 : Option Addr) (c1_1 : Nat) (l1_1 : List Int) (r : Bool) (w : World) (hr0_1 : Kd.C (Kd.int .i64) w A0_1 l0_1.length l0_1) (hc0_1 : l0_1.length ≤ c0_1) (hr1_1 : Kd.C (Kd.int .i64) w A1_1 l1_1.length l1_1) (hc1_1 : l1_1.length ≤ c1_1) (h : standstillref06_SameCount.f k a0_0 l0_1 a1_0 l1_1 = some r) :
  Calls Try.prog 11 #[.agg #[.int .i64 a0_0, .slice A0_1 l0_1.length c0_1], .agg #[.int .i64 a1_0, .slice A1_1 l1_1.length c1_1]] w fun e w' => e = .returned (.bool r) ∧ Below w.heap.size w w' := by
 have hu29 := Try.underlying29
 have HR0_1 := Aside0.mk hr0_1
 have HC0_1 := Aside0.mk hc0_1
 clear hr0_1 hc0_1
 have HR1_1 := Aside0.mk hr1_1
 have HC1_1 := Aside0.mk hc1_1
 clear hr1_1 hc1_1
 have HB := Aside0.mk (Below.refl w.heap.size w)
 have H : (if a0_0 = a1_0 then (standstillref06_SameCount.j0 k ((l0_1.length : Int) != (l1_1.length : Int)) a0_0 l0_1 a1_0 l1_1) else (standstillref06_SameCount.j0 k true a0_0 l0_1 a1_0 l1_1)) = some r := h
 clear h
 have HC3 := Aside0.mk H
 clear H
 go_enter Try.func11, Try.ntmps11
 go_upto_region 1 with (first | ((with_reducible refine gate_dst (N := 2) rfl ?_); (try (refine gate_guard (by rfl) ?_; dsimp only)); refine box_event ?hg (N := 2) ?hd (cs := #[.int .i64 a0_0, .slice A0_1 l0_1.length c0_1]) (t := 29) ?hr ?_; (case hd => rfl); (case hg => rfl); (case hr => first | (go_simp; done) | (go_simp; rfl)); intro gb135 hg w4 hbox hb; have BK135 := Aside0.mk (hbox); have GW135 := Aside0.mk ((by rw [hg]; exact (below_size (zB HB)) : w.heap.size ≤ gb135)); have GE135 := Aside0.mk ((by rw [hg]; exact (below_size (zB HB)) : w.heap.size ≤ gb135)); replace HB := Aside0.mk (below_step (zB HB) hb); clear hb hbox hg) | ((with_reducible refine gate_dst (N := 3) rfl ?_); (try (refine gate_guard (by rfl) ?_; dsimp only)); refine box_event ?hg (N := 3) ?hd (cs := #[.int .i64 a1_0, .slice A1_1 l1_1.length c1_1]) (t := 29) ?hr ?_; (case hd => rfl); (case hg => rfl); (case hr => first | (go_simp; done) | (go_simp; rfl)); intro gb136 hg w5 hbox hb; have BK136 := Aside0.mk (hbox); have GW136 := Aside0.mk ((by rw [hg]; exact (below_size (zB HB)) : w.heap.size ≤ gb136)); have GE136 := Aside0.mk ((by rw [hg]; exact (below_size (zB HB)) : w.heap.size ≤ gb136)); have NB135_136 := Aside0.mk ((by rw [hg]; exact Nat.ne_of_lt (zL BK135) : gb135 ≠ gb136)); have NB136_135 := Aside0.mk ((by rw [hg]; exact Nat.ne_of_gt (zL BK135) : gb136 ≠ gb135)); replace BK135 := Aside0.mk (zb BK135 hb); replace HB := Aside0.mk (below_step (zB HB) hb); clear hb hbox hg))
 repeat (go_quiet (first | ((with_reducible refine gate_dst (N := 2) rfl ?_); (try (refine gate_guard (by rfl) ?_; dsimp only)); refine box_event ?hg (N := 2) ?hd (cs := #[.int .i64 a0_0, .slice A0_1 l0_1.length c0_1]) (t := 29) ?hr ?_; (case hd => rfl); (case hg => rfl); (case hr => first | (go_simp; done) | (go_simp; rfl)); intro gb135 hg w4 hbox hb; have BK135 := Aside0.mk (hbox); have GW135 := Aside0.mk ((by rw [hg]; exact (below_size (zB HB)) : w.heap.size ≤ gb135)); have GE135 := Aside0.mk ((by rw [hg]; exact (below_size (zB HB)) : w.heap.size ≤ gb135)); replace HB := Aside0.mk (below_step (zB HB) hb); clear hb hbox hg) | ((with_reducible refine gate_dst (N := 3) rfl ?_); (try (refine gate_guard (by rfl) ?_; dsimp only)); refine box_event ?hg (N := 3) ?hd (cs := #[.int .i64 a1_0, .slice A1_1 l1_1.length c1_1]) (t := 29) ?hr ?_; (case hd => rfl); (case hg => rfl); (case hr => first | (go_simp; done) | (go_simp; rfl)); intro gb136 hg w5 hbox hb; have BK136 := Aside0.mk (hbox); have GW136 := Aside0.mk ((by rw [hg]; exact (below_size (zB HB)) : w.heap.size ≤ gb136)); have GE136 := Aside0.mk ((by rw [hg]; exact (below_size (zB HB)) : w.heap.size ≤ gb136)); have NB135_136 := Aside0.mk ((by rw [hg]; exact Nat.ne_of_lt (zL BK135) : gb135 ≠ gb136)); have NB136_135 := Aside0.mk ((by rw [hg]; exact Nat.ne_of_gt (zL BK135) : gb136 ≠ gb135)); replace BK135 := Aside0.mk (zb BK135 hb); replace HB := Aside0.mk (below_step (zB HB) hb); clear hb hbox hg)); go_upto_region 1 with (first | ((with_reducible refine gate_dst (N := 2) rfl ?_); (try (refine gate_guard (by rfl) ?_; dsimp only)); refine box_event ?hg (N := 2) ?hd (cs := #[.int .i64 a0_0, .slice A0_1 l0_1.length c0_1]) (t := 29) ?hr ?_; (case hd => rfl); (case hg => rfl); (case hr => first | (go_simp; done) | (go_simp; rfl)); intro gb135 hg w4 hbox hb; have BK135 := Aside0.mk (hbox); have GW135 := Aside0.mk ((by rw [hg]; exact (below_size (zB HB)) : w.heap.size ≤ gb135)); have GE135 := Aside0.mk ((by rw [hg]; exact (below_size (zB HB)) : w.heap.size ≤ gb135)); replace HB := Aside0.mk (below_step (zB HB) hb); clear hb hbox hg) | ((with_reducible refine gate_dst (N := 3) rfl ?_); (try (refine gate_guard (by rfl) ?_; dsimp only)); refine box_event ?hg (N := 3) ?hd (cs := #[.int .i64 a1_0, .slice A1_1 l1_1.length c1_1]) (t := 29) ?hr ?_; (case hd => rfl); (case hg => rfl); (case hr => first | (go_simp; done) | (go_simp; rfl)); intro gb136 hg w5 hbox hb; have BK136 := Aside0.mk (hbox); have GW136 := Aside0.mk ((by rw [hg]; exact (below_size (zB HB)) : w.heap.size ≤ gb136)); have GE136 := Aside0.mk ((by rw [hg]; exact (below_size (zB HB)) : w.heap.size ≤ gb136)); have NB135_136 := Aside0.mk ((by rw [hg]; exact Nat.ne_of_lt (zL BK135) : gb135 ≠ gb136)); have NB136_135 := Aside0.mk ((by rw [hg]; exact Nat.ne_of_gt (zL BK135) : gb136 ≠ gb135)); replace BK135 := Aside0.mk (zb BK135 hb); replace HB := Aside0.mk (below_step (zB HB) hb); clear hb hbox hg)))
 (try simp only [Act.put, zs, zs0, zs1])
 go_cut [19] (fun v19 wc => ∃ (kq : Nat) (x19_2 : Bool), v19 = .bool x19_2 ∧ Aside0 (standstillref06_SameCount.j0 kq x19_2 a0_0 l0_1 a1_0 l1_1 = some r) ∧ Aside0 (kq ≤ k) ∧ Aside0 (wc.heap[gb135]? = some (.cells #[.int .i64 a0_0, (.slice A0_1 l0_1.length c0_1)] 29 (0, 0))) ∧ Aside0 (wc.heap[gb136]? = some (.cells #[.int .i64 a1_0, (.slice A1_1 l1_1.length c1_1)] 29 (0, 0))) ∧ Aside0 (Below w.heap.size w wc))
 case first =>
  have H := HC3.out
  clear HC3
  by_cases c6 : a0_0 = a1_0
  ·
   rw [if_pos c6] at H
   have c6b0 : (a0_0 == a1_0) = true := beq_iff_eq.mpr c6
   have c6b1 : (a0_0 != a1_0) = false := bne_eq_false_iff_eq.mpr c6
   clear c6
   (first | rw [c6b0] | (simp only [i64_w, i32_w]; rw [c6b0]) | skip)
   (try rw [c6b1])
   have H' := Aside0.mk H
   clear H
   have hnb7 := NB135_136.out
   have hnc7 := NB136_135.out
   have hz8 := zc2 BK135
   have hz9 := zc2 BK136
   go_wp2
   repeat (go_quiet (fail); try go_wp2)
   go_meet
   case rel => exact ⟨_, (((l0_1.length : Int) != (l1_1.length : Int))), (by first | rfl | (simp; done) | (simp [*]; done)), H', ⟨by first | omega | exact Nat.le_refl _⟩, ⟨zk BK135⟩, ⟨zk BK136⟩, ⟨zB HB⟩⟩
  ·
   rw [if_neg c6] at H
   have c6b0 : (a0_0 == a1_0) = false := beq_eq_false_iff_ne.mpr c6
   have c6b1 : (a0_0 != a1_0) = true := bne_iff_ne.mpr c6
   (first | rw [c6b0] | (simp only [i64_w, i32_w]; rw [c6b0]) | skip)
   (try rw [c6b1])
   have H' := Aside0.mk H
   clear H
   have hnb10 := NB135_136.out
   have hnc10 := NB136_135.out
   have hz11 := zc2 BK135
   have hz12 := zc2 BK136
   go_wp2
   repeat (go_quiet (fail); try go_wp2)
   go_meet
   case rel => exact ⟨_, (true), (by first | rfl | (simp; done) | (simp [*]; done)), H', ⟨by first | omega | exact Nat.le_refl _⟩, ⟨zk BK135⟩, ⟨zk BK136⟩, ⟨zB HB⟩⟩
 case rest =>
  clear HC3
  try clear c1
  try clear p2
  try clear c6
  try clear c6b0
  try clear c6b1
  try clear c7
  try clear c10
  try clear c11
  try clear hz11
  try clear hz12
  try clear hz8
  try clear hz9
  obtain ⟨kq, x19_2, rfl, HA, HJ2, BK135, BK136, HB⟩ := hcut
  cases kq with
  | zero => exact absurd HA.out (by simp [standstillref06_SameCount.j0])
  | succ kj2 =>
   have H := HA.out
   clear HA
   simp only [standstillref06_SameCount.j0] at H
   by_cases c13 : x19_2 = true
   ·
    subst c13
    have H1 : (some false) = some r := by rw [if_pos rfl] at H; exact H
    clear H
    have H := H1
    clear H1
    obtain rfl := Option.some.inj H
    go_wp2
    repeat (go_quiet (fail); try go_wp2)
    go_ret
    exact ⟨by first | rfl | (simp [errW_none, errW_some] <;> rfl) | (simp [*, errW_none, errW_some] <;> rfl), zB HB⟩
   ·
    replace c13 := Bool.eq_false_iff.mpr c13
    subst c13
    have H1 : (standstillref06_SameCount.l0 kj2 0 a0_0 l0_1 a1_0 l1_1) = some r := by rw [if_neg (show ¬ (false = true) by decide)] at H; exact H
    clear H
    have H := H1
    clear H1
    have H' := Aside0.mk H
    clear H
    go_wp2
    repeat (go_quiet (fail); try go_wp2)
    go_loopg [5] kj2 (fun kq v5 w' => ∃ (x5_2 : Int), v5 = .int .i64 x5_2 ∧ Aside0 (standstillref06_SameCount.l0 kq x5_2 a0_0 l0_1 a1_0 l1_1 = some r) ∧ Aside0 (kq ≤ kj2) ∧ Aside0 (w'.heap[gb135]? = some (.cells #[.int .i64 a0_0, (.slice A0_1 l0_1.length c0_1)] 29 (0, 0))) ∧ Aside0 (w'.heap[gb136]? = some (.cells #[.int .i64 a1_0, (.slice A1_1 l1_1.length c1_1)] 29 (0, 0))) ∧ Aside0 (Below w.heap.size w w'))
    case atStart => exact ⟨(0), (by first | rfl | (simp; done) | (simp [*]; done)), H', ⟨Nat.le_refl _⟩, ⟨zk BK135⟩, ⟨zk BK136⟩, ⟨zB HB⟩⟩
    case round =>
     clear H'
     try clear c1
     try clear p2
     try clear c6
     try clear c6b0
     try clear c6b1
     try clear c7
     try clear c10
     try clear c11
     try clear c13
     try clear hz11
     try clear hz12
     try clear hz8
     try clear hz9
     try clear p2
     obtain ⟨x5_2, rfl, HA, HK2, BK135, BK136, HB⟩ := hrel
     cases gk with
     | zero => exact absurd HA.out (by simp [standstillref06_SameCount.l0])
     | succ k2 =>
      have H := HA.out
      clear HA
      simp only [standstillref06_SameCount.l0] at H
      by_cases c14 : x5_2 < (l0_1.length : Int)
      ·
       rw [if_pos c14] at H
       have c14b0 : decide (x5_2 < (l0_1.length : Int)) = true := decide_eq_true c14
       clear c14
       by_cases c15 : 0 ≤ x5_2
       ·
        rw [if_pos c15] at H
        have c15b0 : decide (0 ≤ x5_2) = true := decide_eq_true c15
        clear c15
        by_cases c16 : x5_2 < (l1_1.length : Int)
        ·
         rw [if_pos c16] at H
         have c16b0 : decide (x5_2 < (l1_1.length : Int)) = true := decide_eq_true c16
         clear c16
         by_cases c17 : (rd l0_1 x5_2) = (rd l1_1 x5_2)
         ·
          rw [if_pos c17] at H
          have c17b0 : ((rd l0_1 x5_2) == (rd l1_1 x5_2)) = true := beq_iff_eq.mpr c17
          have c17b1 : ((rd l0_1 x5_2) != (rd l1_1 x5_2)) = false := bne_eq_false_iff_eq.mpr c17
          clear c17
          have H' := Aside0.mk H
          clear H
          have hnb18 := NB135_136.out
          have hnc18 := NB136_135.out
          have hz19 := zc2 BK135
          have p137 : 0 ≤ (x5_2 : Int) := of_decide_eq_true (by first | (with_reducible assumption) | assumption)
          have q137 : x5_2 < (l0_1.length : Int) := of_decide_eq_true (by first | (with_reducible assumption) | assumption)
          obtain ⟨ad137, e137, hx137_0⟩ := Kd.at_int HR0_1.out x5_2 p137 q137
          cases e137
          replace hx137_0 := (HB.out.cell (World.block_lt_of_cell? w _ hx137_0)).trans hx137_0
          replace p137 := eq_true p137
          replace q137 := eq_true q137
          have hz20 := zc2 BK136
          have p138 : 0 ≤ (x5_2 : Int) := of_decide_eq_true (by first | (with_reducible assumption) | assumption)
          have q138 : x5_2 < (l1_1.length : Int) := of_decide_eq_true (by first | (with_reducible assumption) | assumption)
          obtain ⟨ad138, e138, hx138_0⟩ := Kd.at_int HR1_1.out x5_2 p138 q138
          cases e138
          replace hx138_0 := (HB.out.cell (World.block_lt_of_cell? w _ hx138_0)).trans hx138_0
          replace p138 := eq_true p138
          replace q138 := eq_true q138
          go_wp2
          repeat (go_quiet (fail); try go_wp2)
          go_roundg k2
          case measure => have := HJ2.out; have := HK2.out; omega
          case rel => exact ⟨(wrap64 (x5_2 + 1)), (by first | rfl | (simp; done) | (simp [*]; done)), H', ⟨by have := HJ2.out; have := HK2.out; omega⟩, ⟨zk BK135⟩, ⟨zk BK136⟩, ⟨zB HB⟩⟩
         ·
          rw [if_neg c17] at H
          have c17b0 : ((rd l0_1 x5_2) == (rd l1_1 x5_2)) = false := beq_eq_false_iff_ne.mpr c17
          have c17b1 : ((rd l0_1 x5_2) != (rd l1_1 x5_2)) = true := bne_iff_ne.mpr c17
          obtain rfl := Option.some.inj H
          have hnb21 := NB135_136.out
          have hnc21 := NB136_135.out
          have hz22 := zc2 BK135
          have p137 : 0 ≤ (x5_2 : Int) := of_decide_eq_true (by first | (with_reducible assumption) | assumption)
          have q137 : x5_2 < (l0_1.length : Int) := of_decide_eq_true (by first | (with_reducible assumption) | assumption)
          obtain ⟨ad137, e137, hx137_0⟩ := Kd.at_int HR0_1.out x5_2 p137 q137
          cases e137
          replace hx137_0 := (HB.out.cell (World.block_lt_of_cell? w _ hx137_0)).trans hx137_0
          replace p137 := eq_true p137
          replace q137 := eq_true q137
          have hz23 := zc2 BK136
          have p138 : 0 ≤ (x5_2 : Int) := of_decide_eq_true (by first | (with_reducible assumption) | assumption)
          have q138 : x5_2 < (l1_1.length : Int) := of_decide_eq_true (by first | (with_reducible assumption) | assumption)
          obtain ⟨ad138, e138, hx138_0⟩ := Kd.at_int HR1_1.out x5_2 p138 q138
          cases e138
          replace hx138_0 := (HB.out.cell (World.block_lt_of_cell? w _ hx138_0)).trans hx138_0
          replace p138 := eq_true p138
          replace q138 := eq_true q138
          go_wp2
          repeat (go_quiet (fail); try go_wp2)
          go_ret
          exact ⟨by first | rfl | (simp [errW_none, errW_some] <;> rfl) | (simp [*, errW_none, errW_some] <;> rfl), zB HB⟩
        ·
         rw [if_neg c16] at H
         exact absurd H (by simp)
       ·
        rw [if_neg c15] at H
        exact absurd H (by simp)
      ·
       rw [if_neg c14] at H
       have c14b0 : decide (x5_2 < (l0_1.length : Int)) = false := decide_eq_false c14
       clear c14
       obtain rfl := Option.some.inj H
       have hnb24 := NB135_136.out
       have hnc24 := NB136_135.out
       have hz25 := zc2 BK135
       go_wp2
       repeat (go_quiet (fail); try go_wp2)
       go_ret
       exact ⟨by first | rfl | (simp [errW_none, errW_some] <;> rfl) | (simp [*, errW_none, errW_some] <;> rfl), zB HB⟩

/-! ### standstilllaw06_Moves: function 22 -/
def standstilllaw06_Moves.f  : Option (Int × (List (S35))) := some (2, (([(⟨1, 0, 1, 2⟩ : S35), (⟨0, 1, 0, 0⟩ : S35), (⟨2, 0, 0, 0⟩ : S35)] : List (S35))))
set_option maxHeartbeats 8000000 in
set_option maxRecDepth 100000 in
theorem standstilllaw06_Moves.calls  (r1 : Int) (r2 : List (S35)) (w : World) (h : standstilllaw06_Moves.f  = some (r1, r2)) :
  Calls Try.prog 22 #[] w fun e w' => ∃ v1_ : Value, e = .returned (.agg #[.int .i64 r1, v1_]) ∧ Kd.R k35 35 w' w.heap.size (fun _ => True) v1_ r2 ∧ Below w.heap.size w w' := by
 have hu24 := Try.underlying24
 have hu35 := Try.underlying35
 have HB := Aside0.mk (Below.refl w.heap.size w)
 have H : (some (2, (([(⟨1, 0, 1, 2⟩ : S35), (⟨0, 1, 0, 0⟩ : S35), (⟨2, 0, 0, 0⟩ : S35)] : List (S35))))) = some (r1, r2) := h
 clear h
 obtain ⟨y140, hy140⟩ : ∃ y_ : List (S35), y_ = (([(⟨1, 0, 1, 2⟩ : S35), (⟨0, 1, 0, 0⟩ : S35), (⟨2, 0, 0, 0⟩ : S35)] : List (S35))) := ⟨_, rfl⟩
 replace H : (some (2, y140)) = some (r1, r2) := by first | (rw [hy140]; with_reducible exact H) | (have H2_ := (Option.bind_some _ _).symm.trans H; rw [hy140]; with_reducible exact H2_) | (have H2_ := (Option.bind_some _ _).symm.trans H; with_reducible exact H2_) | with_reducible exact H | (rw [hy140]; exact H) | exact H
 have Ny140 := Aside0.mk hy140
 clear hy140
 simp only [Option.some.injEq, Prod.mk.injEq] at H
 obtain ⟨rfl, rfl⟩ := H
 go_enter Try.func22, Try.ntmps22
 go_wp2_with (first | ((with_reducible refine gate_dst (N := 0) rfl ?_); refine box_event ?hg (N := 0) ?hd (cs := #[.int .i64 0, .slice none 0 0]) (t := 24) ?hr ?_; (case hd => rfl); (case hg => rfl); (case hr => first | (go_simp; done) | (go_simp; rfl)); intro gb139 hg w1 hbox hb; have BK139 := Aside0.mk (hbox); have GW139 := Aside0.mk ((by rw [hg]; exact (below_size (zB HB)) : w.heap.size ≤ gb139)); have GE139 := Aside0.mk ((by rw [hg]; exact (below_size (zB HB)) : w.heap.size ≤ gb139)); replace HB := Aside0.mk (below_step (zB HB) hb); clear hb hbox hg) | ((with_reducible refine gate_dst (N := 4) rfl ?_); refine Kd.R_lit k35 _ 35 ?hg (N := 4) ?hd (xs := ([(⟨1, 0, 1, 2⟩ : S35), (⟨0, 1, 0, 0⟩ : S35), (⟨2, 0, 0, 0⟩ : S35)] : List (S35))) (inner := [.int .i64 1, .int .i64 0, .int .i64 1, .int .i64 2, .int .i64 0, .int .i64 1, .int .i64 0, .int .i64 0, .int .i64 2, .int .i64 0, .int .i64 0, .int .i64 0]) (ok := fun _ => True) (okp := fun _ => True) ?hr ?hp (fun _ hk => hk) trivial (Below.refl _ _) (Nat.le_refl _) (by simp) ?_; (case hd => rfl); (case hg => rfl); (case hr => first | (go_simp; done) | (go_simp; rfl)); (case hp => exact (Reps.c4 (show Kd.M k35 _ _ _ (⟨1, 0, 1, 2⟩ : S35) [.int .i64 1, .int .i64 0, .int .i64 1, .int .i64 2] from (k35_mkM _ _ _ (⟨1, 0, 1, 2⟩ : S35) )) (Reps.c4 (show Kd.M k35 _ _ _ (⟨0, 1, 0, 0⟩ : S35) [.int .i64 0, .int .i64 1, .int .i64 0, .int .i64 0] from (k35_mkM _ _ _ (⟨0, 1, 0, 0⟩ : S35) )) (Reps.c4 (show Kd.M k35 _ _ _ (⟨2, 0, 0, 0⟩ : S35) [.int .i64 2, .int .i64 0, .int .i64 0, .int .i64 0] from (k35_mkM _ _ _ (⟨2, 0, 0, 0⟩ : S35) )) (Reps.none _ _))))); intro v141 w2 ho3 hb hg_ hnew_; clear hg_ hnew_; (first | rw [← Ny140.out] at ho3 | (simp only [Int.reduceToNat] at ho3; rw [← Ny140.out] at ho3)); have HO142 := Aside0.mk (Kd.R_lower ho3 (below_size (zB HB))); replace BK139 := Aside0.mk (zb BK139 hb); replace HB := Aside0.mk (below_step (zB HB) hb); clear hb ho3; obtain ⟨Ao4, co4, eo4⟩ := Kd.R_slice HO142.out; subst eo4; have hz5 := zc2 BK139))
 refine bodyPost_ret (results_cell_row rfl _ _ gb139 24 #[.int .i64 2, .slice Ao4 y140.length co4] (0, 0) _ rfl (by (with_reducible repeat (first | refine blk_drewN ?_ _ | refine blk_drew ?_ | refine blk_alloc ?_ _)); refine blk_put (cs := #[.int .i64 2, .slice none 0 0]) ?_ 1 _ rfl; (with_reducible repeat (first | refine blk_drewN ?_ _ | refine blk_drew ?_ | refine blk_alloc ?_ _)); refine blk_put (cs := #[.int .i64 0, .slice none 0 0]) ?_ 0 _ rfl; (with_reducible repeat (first | refine blk_drewN ?_ _ | refine blk_drew ?_ | refine blk_alloc ?_ _)); exact BK139.out) Try.underlying24 rfl (by kernel_rfl)) rfl ?_
 exact ⟨_, by first | rfl | (simp [errW_none, errW_some] <;> rfl) | (simp [*, errW_none, errW_some] <;> rfl), by (with_reducible repeat (first | apply Kd.R_alloc | apply Kd.R_drewN | apply Kd.R_drew)); exact Kd.R_mono (zRf2 (g := gb139) (Kd.R_types HO142.out BK139.out (by decide))) (fun _ hk => trivial), zB HB⟩

/-! ### standstilllaw06_awake: function 7 -/
def standstilllaw06_awake.f (k : Nat)  : Option (Bool) := (standstilllaw06_Moves.f).bind fun bt143 => ((counter_Run.f k bt143.1 bt143.2 0 (([3, 4] : List Int)) 100).bind fun bt150 => (if bt150.2.2.2 = 0 then (if bt150.2.2.1 = 7 then ((standstillref06_SameCount.f k bt150.1 bt150.2.1 2 (([0, 7] : List Int))).bind fun t160 => (some t160)) else (some false)) else (some false)))
theorem standstilllaw06_awake.mono : ∀ k, LeO (standstilllaw06_awake.f k ) (standstilllaw06_awake.f (k + 1) ) := by
 intro  k
 unfold standstilllaw06_awake.f
 repeat' first
   | (with_reducible exact counter_Run.mono _ _ _ _ _ _)
   | (with_reducible exact standstillref06_SameCount.mono _ _ _ _ _)
   | (with_reducible exact LeO.refl _)
   | (with_reducible exact LeO.none _)
   | (with_reducible refine LeO.ite ?_ ?_)
   | (with_reducible refine LeO.bind ?_ (fun _ => ?_))
   | exact counter_Run.mono _ _ _ _ _ _
   | exact standstillref06_SameCount.mono _ _ _ _ _
   | exact LeO.none _
   | refine LeO.ite ?_ ?_
   | refine LeO.bind ?_ (fun _ => ?_)
set_option maxHeartbeats 8000000 in
set_option maxRecDepth 100000 in
theorem standstilllaw06_awake.calls (k : Nat)  (r : Bool) (w : World) (h : standstilllaw06_awake.f k  = some r) :
  Calls Try.prog 7 #[] w fun e w' => e = .returned (.bool r) ∧ Below w.heap.size w w' := by
 have hu29 := Try.underlying29
 have HB := Aside0.mk (Below.refl w.heap.size w)
 have H : ((standstilllaw06_Moves.f).bind fun bt143 => ((counter_Run.f k bt143.1 bt143.2 0 (([3, 4] : List Int)) 100).bind fun bt150 => (if bt150.2.2.2 = 0 then (if bt150.2.2.1 = 7 then ((standstillref06_SameCount.f k bt150.1 bt150.2.1 2 (([0, 7] : List Int))).bind fun t160 => (some t160)) else (some false)) else (some false)))) = some r := h
 clear h
 replace H := Option.bind_eq_some_iff.mp H
 obtain ⟨⟨t143, t144⟩, A10, H⟩ := H
 replace H : ((counter_Run.f k t143 t144 0 (([3, 4] : List Int)) 100).bind fun bt150 => (if bt150.2.2.2 = 0 then (if bt150.2.2.1 = 7 then ((standstillref06_SameCount.f k bt150.1 bt150.2.1 2 (([0, 7] : List Int))).bind fun t160 => (some t160)) else (some false)) else (some false))) = some r := H
 have A1 := Aside0.mk A10
 clear A10
 obtain ⟨y147, hy147⟩ : ∃ y_ : List Int, y_ = (([3, 4] : List Int)) := ⟨_, rfl⟩
 replace H : ((counter_Run.f k t143 t144 0 y147 100).bind fun bt150 => (if bt150.2.2.2 = 0 then (if bt150.2.2.1 = 7 then ((standstillref06_SameCount.f k bt150.1 bt150.2.1 2 (([0, 7] : List Int))).bind fun t160 => (some t160)) else (some false)) else (some false))) = some r := by first | (rw [hy147]; with_reducible exact H) | (have H2_ := (Option.bind_some _ _).symm.trans H; rw [hy147]; with_reducible exact H2_) | (have H2_ := (Option.bind_some _ _).symm.trans H; with_reducible exact H2_) | with_reducible exact H | (rw [hy147]; exact H) | exact H
 have Ny147 := Aside0.mk hy147
 clear hy147
 replace H := Option.bind_eq_some_iff.mp H
 obtain ⟨⟨t150, t151, t154, t155⟩, A20, H⟩ := H
 replace H : (if t155 = 0 then (if t154 = 7 then ((standstillref06_SameCount.f k t150 t151 2 (([0, 7] : List Int))).bind fun t160 => (some t160)) else (some false)) else (some false)) = some r := H
 have A2 := Aside0.mk A20
 clear A20
 have HC3 := Aside0.mk H
 clear H
 go_enter Try.func7, Try.ntmps7
 go_upto_region 2 with (first | ((with_reducible refine gate_callee (f := 22) rfl ?_); refine goesL_ (some 5) rfl rfl Try.func22 (by kernel_rfl) rfl #[] rfl (zm) ?_; (with_reducible refine (standstilllaw06_Moves.calls  t143 t144 _ A1.out).mono ?_); rintro e w4 ⟨v145, rfl, ho0, hb⟩; refine ⟨_, rfl, ?_⟩; have HO146 := Aside0.mk (Kd.R_lower ho0 (below_size (zB HB))); replace HB := Aside0.mk (below_step (zB HB) hb); (try clear hb); (try clear hb2); (try clear hk); (try clear hi); (try clear ho0)) | ((with_reducible refine gate_dst (N := 6) rfl ?_); (try (refine gate_guard (by rfl) ?_; dsimp only)); refine Kd.R_lit (Kd.int .i64) _ 3 ?hg (N := 6) ?hd (xs := ([3, 4] : List Int)) (inner := [.int .i64 3, .int .i64 4]) (ok := fun _ => True) (okp := fun _ => True) ?hr ?hp (fun _ hk => hk) trivial (Below.refl _ _) (Nat.le_refl _) (by simp) ?_; (case hd => rfl); (case hg => rfl); (case hr => first | (go_simp; done) | (go_simp; rfl)); (case hp => exact (Reps.one (show Kd.M (Kd.int .i64) _ _ _ 3 [.int .i64 3] from rfl) (Reps.one (show Kd.M (Kd.int .i64) _ _ _ 4 [.int .i64 4] from rfl) (Reps.none _ _)))); intro v148 w5 ho6 hb hg_ hnew_; clear hg_ hnew_; (first | rw [← Ny147.out] at ho6 | (simp only [Int.reduceToNat] at ho6; rw [← Ny147.out] at ho6)); have HO149 := Aside0.mk (Kd.R_lower ho6 (below_size (zB HB))); replace HO146 := Aside0.mk (zRb HO146 hb); replace HB := Aside0.mk (below_step (zB HB) hb); clear hb ho6; obtain ⟨Ao7, co7, eo7⟩ := Kd.R_slice HO149.out; subst eo7; obtain ⟨Ao8, co8, eo8⟩ := Kd.R_slice HO146.out; subst eo8) | ((with_reducible refine gate_callee (f := 8) rfl ?_); refine goesL_ (some 8) rfl rfl Try.func8 (by kernel_rfl) rfl #[.agg #[.int .i64 t143, .slice Ao8 t144.length co8], .agg #[.int .i64 0, .slice Ao7 y147.length co7], .int .i64 100] rfl (zm) ?_; (with_reducible refine (counter_Run.calls k t143 _ _ t144 0 _ _ y147 100 t150 t151 t154 t155 _ ?side1 ?side2 ?side3 ?side4 A2.out).mono ?_); (case side1 => exact zC ((Kd.R_reads' HO146.out).2.2)); (case side2 => exact (Kd.R_reads' HO146.out).2.1); (case side3 => exact zC ((Kd.R_reads' HO149.out).2.2)); (case side4 => exact (Kd.R_reads' HO149.out).2.1); rintro e w9 ⟨v152, rfl, ho0, hb⟩; refine ⟨_, rfl, ?_⟩; have HO153 := Aside0.mk (Kd.R_lower (Kd.R_new' ho0 (Kd.R_lt (zR HO149))) (below_size (zB HB))); replace HO146 := Aside0.mk (zRb HO146 hb); replace HO149 := Aside0.mk (Kd.R_elder' (zR HO149) (Kd.R_base ho0) hb); replace HB := Aside0.mk (below_step (zB HB) hb); (try clear hb); (try clear hb2); (try clear hk); (try clear hi); (try clear ho0)) | ((with_reducible refine gate_dst (N := 1) rfl ?_); (try (refine gate_guard (by rfl) ?_; dsimp only)); refine box_event ?hg (N := 1) ?hd (cs := #[.int .i64 0, .slice none 0 0]) (t := 29) ?hr ?_; (case hd => rfl); (case hg => rfl); (case hr => first | (go_simp; done) | (go_simp; rfl)); intro gb156 hg w10 hbox hb; have BK156 := Aside0.mk (hbox); have GW156 := Aside0.mk ((by rw [hg]; exact (below_size (zB HB)) : w.heap.size ≤ gb156)); have GE156 := Aside0.mk ((by rw [hg]; exact (below_size (zB HB)) : w.heap.size ≤ gb156)); replace HO146 := Aside0.mk (zRb HO146 hb); replace HO149 := Aside0.mk (zRb HO149 hb); replace HO153 := Aside0.mk (zRb HO153 hb); replace HB := Aside0.mk (below_step (zB HB) hb); clear hb hbox hg; have hz11 := zc2 BK156; obtain ⟨Ao12, co12, eo12⟩ := Kd.R_slice HO153.out; subst eo12) | ((with_reducible refine gate_store (t := 29) (p := 1) rfl ?_); refine store_event (t := 29) (p := 1) (v := ?vo_w13) (w1 := ((w10.setCell ⟨gb156, 0, none⟩ (.int .i64 t150)).setCell ⟨gb156, 1, none⟩ (.slice Ao12 t151.length co12))) ?hg ?ho ?hn ?hr ?_; (case ho => rfl); (case hg => rfl); (case hn => rfl); (case hr => first | (go_simp; done) | (go_simp; rfl)); intro w13 hw; have n0_ : Aside0 (Kd.R k35 35 w13 w.heap.size (fun _ => True) (.slice Ao8 t144.length co8) t144) := ⟨(by rw [hw]; exact (by (with_reducible repeat (first | apply Kd.R_alloc | apply Kd.R_drewN | apply Kd.R_drew)); exact Kd.R_mono (zRf2 (g := gb156) (Kd.R_types HO146.out BK156.out (by decide))) (fun _ hk => trivial)))⟩; have n1_ : Aside0 (Kd.R (Kd.int .i64) 3 w13 w.heap.size (fun k_ => some k_ ≠ (.slice Ao12 t151.length co12 : Value).ownBlock) (.slice Ao7 y147.length co7) y147) := ⟨(by rw [hw]; exact (by (with_reducible repeat (first | apply Kd.R_alloc | apply Kd.R_drewN | apply Kd.R_drew)); exact Kd.R_mono (zRf2 (g := gb156) (Kd.R_types HO149.out BK156.out (by decide))) (fun _ hk => hk.1.2)))⟩; have n2_ : Aside0 (Kd.R (Kd.int .i64) 3 w13 w.heap.size (fun k_ => some k_ ≠ (.slice Ao7 y147.length co7 : Value).ownBlock) (.slice Ao12 t151.length co12) t151) := ⟨(by rw [hw]; exact (by (with_reducible repeat (first | apply Kd.R_alloc | apply Kd.R_drewN | apply Kd.R_drew)); exact Kd.R_mono (zRf2 (g := gb156) (Kd.R_types HO153.out BK156.out (by decide))) (fun _ hk => hk.1.2)))⟩; have n3_ : Aside0 (w13.heap[gb156]? = some (.cells #[.int .i64 t150, .slice Ao12 t151.length co12] 29 (0, 0))) := ⟨(by rw [hw]; exact (by (with_reducible repeat (first | refine blk_drewN ?_ _ | refine blk_drew ?_ | refine blk_alloc ?_ _)); refine blk_put (cs := #[.int .i64 t150, .slice none 0 0]) ?_ 1 _ rfl; (with_reducible repeat (first | refine blk_drewN ?_ _ | refine blk_drew ?_ | refine blk_alloc ?_ _)); refine blk_put (cs := #[.int .i64 0, .slice none 0 0]) ?_ 0 _ rfl; (with_reducible repeat (first | refine blk_drewN ?_ _ | refine blk_drew ?_ | refine blk_alloc ?_ _)); exact BK156.out))⟩; have n4_ : Aside0 (Below w.heap.size w w13) := ⟨(by rw [hw]; exact (zB HB))⟩; clear hw; clear HO146; clear HO149; clear HO153; clear BK156; clear HB; have HO146 := n0_; have HO149 := n1_; have HO153 := n2_; have BK156 := n3_; have HB := n4_; clear n0_ n1_ n2_ n3_ n4_))
 (try simp only [Act.put, zs, zs0, zs1])
 have H := HC3.out
 clear HC3
 by_cases c14 : t155 = 0
 ·
  rw [if_pos c14] at H
  have c14b0 : (t155 == 0) = true := beq_iff_eq.mpr c14
  have c14b1 : (t155 != 0) = false := bne_eq_false_iff_eq.mpr c14
  clear c14
  (first | rw [c14b0] | (simp only [i64_w, i32_w]; rw [c14b0]) | skip)
  (try rw [c14b1])
  by_cases c15 : t154 = 7
  ·
   rw [if_pos c15] at H
   have c15b0 : (t154 == 7) = true := beq_iff_eq.mpr c15
   have c15b1 : (t154 != 7) = false := bne_eq_false_iff_eq.mpr c15
   clear c15
   obtain ⟨y157, hy157⟩ : ∃ y_ : List Int, y_ = (([0, 7] : List Int)) := ⟨_, rfl⟩
   replace H : ((standstillref06_SameCount.f k t150 t151 2 y157).bind fun t160 => (some t160)) = some r := by first | (rw [hy157]; with_reducible exact H) | (have H2_ := (Option.bind_some _ _).symm.trans H; rw [hy157]; with_reducible exact H2_) | (have H2_ := (Option.bind_some _ _).symm.trans H; with_reducible exact H2_) | with_reducible exact H | (rw [hy157]; exact H) | exact H
   have Ny157 := Aside0.mk hy157
   clear hy157
   replace H := Option.bind_eq_some_iff.mp H
   obtain ⟨t160, A160, H⟩ := H
   replace H : (some t160) = some r := H
   have A16 := Aside0.mk A160
   clear A160
   obtain rfl := Option.some.inj H
   have hz17 := zc2 BK156
   go_wp2_with (first | ((with_reducible refine gate_dst (N := 20) rfl ?_); (try (refine gate_guard (by rfl) ?_; dsimp only)); refine Kd.R_lit (Kd.int .i64) _ 3 ?hg (N := 20) ?hd (xs := ([0, 7] : List Int)) (inner := [.int .i64 0, .int .i64 7]) (ok := fun _ => True) (okp := fun _ => True) ?hr ?hp (fun _ hk => hk) trivial (Below.refl _ _) (Nat.le_refl _) (by simp) ?_; (case hd => rfl); (case hg => rfl); (case hr => first | (go_simp; done) | (go_simp; rfl)); (case hp => exact (Reps.one (show Kd.M (Kd.int .i64) _ _ _ 0 [.int .i64 0] from rfl) (Reps.one (show Kd.M (Kd.int .i64) _ _ _ 7 [.int .i64 7] from rfl) (Reps.none _ _)))); intro v158 w18 ho19 hb hg_ hnew_; clear hg_ hnew_; (first | rw [← Ny157.out] at ho19 | (simp only [Int.reduceToNat] at ho19; rw [← Ny157.out] at ho19)); have HO159 := Aside0.mk (Kd.R_lower (Kd.R_new' (Kd.R_new' ho19 (Kd.R_lt (zR HO149))) (Kd.R_lt (zR HO153))) (below_size (zB HB))); replace HO146 := Aside0.mk (zRb HO146 hb); replace HO149 := Aside0.mk (Kd.R_elder' (zR HO149) (Kd.R_base ho19) hb); replace HO153 := Aside0.mk (Kd.R_elder' (zR HO153) (Kd.R_base ho19) hb); replace BK156 := Aside0.mk (zb BK156 hb); replace HB := Aside0.mk (below_step (zB HB) hb); clear hb ho19; obtain ⟨Ao20, co20, eo20⟩ := Kd.R_slice HO159.out; subst eo20) | (go_at_call 11; (with_reducible refine (standstillref06_SameCount.calls k t150 _ _ t151 2 _ _ y157 t160 _ ?side1 ?side2 ?side3 ?side4 A16.out).mono ?_); (case side1 => exact zC ((Kd.R_reads' HO153.out).2.2)); (case side2 => exact (Kd.R_reads' HO153.out).2.1); (case side3 => exact zC ((Kd.R_reads' HO159.out).2.2)); (case side4 => exact (Kd.R_reads' HO159.out).2.1); rintro e w21 ⟨rfl, hb⟩; replace HO146 := Aside0.mk (zRb HO146 hb); replace HO149 := Aside0.mk (zRb HO149 hb); replace HO153 := Aside0.mk (zRb HO153 hb); replace HO159 := Aside0.mk (zRb HO159 hb); replace BK156 := Aside0.mk (zb BK156 hb); replace HB := Aside0.mk (below_step (zB HB) hb); (try clear hb); (try clear hb2); (try clear hk); (try clear hi)))
   go_ret
   exact ⟨by first | rfl | (simp [errW_none, errW_some] <;> rfl) | (simp [*, errW_none, errW_some] <;> rfl), zB HB⟩
  ·
   rw [if_neg c15] at H
   have c15b0 : (t154 == 7) = false := beq_eq_false_iff_ne.mpr c15
   have c15b1 : (t154 != 7) = true := bne_iff_ne.mpr c15
   obtain rfl := Option.some.inj H
   go_wp2
   go_ret
   exact ⟨by first | rfl | (simp [errW_none, errW_some] <;> rfl) | (simp [*, errW_none, errW_some] <;> rfl), zB HB⟩
 ·
  rw [if_neg c14] at H
  have c14b0 : (t155 == 0) = false := beq_eq_false_iff_ne.mpr c14
  have c14b1 : (t155 != 0) = true := bne_iff_ne.mpr c14
  (first | rw [c14b0] | (simp only [i64_w, i32_w]; rw [c14b0]) | skip)
  (try rw [c14b1])
  obtain rfl := Option.some.inj H
  go_wp2
  go_ret
  exact ⟨by first | rfl | (simp [errW_none, errW_some] <;> rfl) | (simp [*, errW_none, errW_some] <;> rfl), zB HB⟩

end Go.Proofs.Ytcdmgeceahmngaa.GC
