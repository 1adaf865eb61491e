/- The functions of one seat as Lean functions, each with its contract: the call of the Go function returns what the Lean function answers. Written by a program of this session out of the translation; contracts made by hand are laid between. -/
import Derived.Test.YtpemcbjdlpajlaaG1x0
import Derived.Test.YtpemcbjdlpajlaaG1x1
import Derived.Test.YtpemcbjdlpajlaaG1x5
import Derived.Test.YtpemcbjdlpajlaaG1x6
import Derived.Test.YtpemcbjdlpajlaaG1x7
namespace Go.Proofs.Ytpemcbjdlpajlaa.G1
open Go.RowKit Go.Proofs.YtpemcbjdlpajlaaW.PrintWords Go.Proofs.YtpemcbjdlpajlaaW.PrintLast Go.Proofs.YtpemcbjdlpajlaaW.PrintMore
attribute [local go_sem] max2_int min2_int max_two min_two max_three min_three max_four min_four   -- for this text's walks alone
set_option linter.unusedVariables false
set_option linter.unusedSimpArgs false

attribute [local go_sem high] eqA62
/-! ### leap_copied: function 25 -/
def leap_copied.f (a0_0 : Int) (a0_1 : Int) (a0_2 : Int) (l0_3 : List (S62)) (l0_4 : List (S62)) : Option (Int × Int × Int × (List (S62)) × (List (S62))) := (api_Run.f l0_3).bind fun t222 => ((api_Run.f l0_4).bind fun t225 => (some (a0_0, a0_1, a0_2, t222, t225)))
def leap_copied.T1 : Bool × List (List Nat × List Nat) := (true, [([], []), ([0], [0]), ([1], [1]), ([], []), ([3], [3]), ([4, 2], [4]), ([0, 1, 2, 3, 4], []), ([6, 2, 5, 0, 1, 2, 3, 4], [2, 6]), ([0, 1, 2, 3, 4, 5, 6, 7], []), ([8, 5, 7, 0, 1, 2, 3, 4, 5, 6, 7], [5, 8])])
def leap_copied.B1 : List Nat := [0, 1, 3, 0, 8, 31, 31, 127, 255, 511]
theorem leap_copied.tab1 : rtab .any (opsOf Try.f25 1) = leap_copied.T1 := by kernel_rfl
theorem leap_copied.bits1 : waitsOk leap_copied.T1.2 leap_copied.B1 = true := by kernel_rfl
set_option maxHeartbeats 8000000 in
set_option maxRecDepth 100000 in
theorem leap_copied.calls (a0_0 : Int) (a0_1 : Int) (a0_2 : Int) (A0_3 : Option Addr) (c0_3 : Nat) (l0_3 : List (S62)) (A0_4 : Option Addr) (c0_4 : Nat) (l0_4 : List (S62)) (r1 : Int) (r2 : Int) (r3 : Int) (r4 : List (S62)) (r5 : List (S62)) (w : World) (hr0_3 : Kd.C k62 w A0_3 l0_3.length l0_3) (hc0_3 : l0_3.length ≤ c0_3) (hr0_4 : Kd.C k62 w A0_4 l0_4.length l0_4) (hc0_4 : l0_4.length ≤ c0_4) (h : leap_copied.f a0_0 a0_1 a0_2 l0_3 l0_4 = some (r1, r2, r3, r4, r5)) :
  Calls Try.prog 25 #[.agg #[.int .i64 a0_0, .int .i64 a0_1, .int .i64 a0_2, .slice A0_3 l0_3.length c0_3, .slice A0_4 l0_4.length c0_4]] w fun e w' => ∃ v3_ v4_ : Value, e = .returned (.agg #[.int .i64 r1, .int .i64 r2, .int .i64 r3, v3_, v4_]) ∧ Kd.R k62 62 w' w.heap.size (fun k_ => some k_ ≠ (v4_ : Value).ownBlock) v3_ r4 ∧ Kd.R k62 62 w' w.heap.size (fun k_ => some k_ ≠ (v3_ : Value).ownBlock) v4_ r5 ∧ Below w.heap.size w w' := by
 have hu27 := Try.underlying27
 have HR0_3 := Aside0.mk hr0_3
 have HC0_3 := Aside0.mk hc0_3
 clear hr0_3 hc0_3
 have HR0_4 := Aside0.mk hr0_4
 have HC0_4 := Aside0.mk hc0_4
 clear hr0_4 hc0_4
 have HB := Aside0.mk (Below.refl w.heap.size w)
 have H : ((api_Run.f l0_3).bind fun t222 => ((api_Run.f l0_4).bind fun t225 => (some (a0_0, a0_1, a0_2, t222, t225)))) = some (r1, r2, r3, r4, r5) := h
 clear h
 replace H := Option.bind_eq_some_iff.mp H
 obtain ⟨t222, A20, H⟩ := H
 replace H : ((api_Run.f l0_4).bind fun t225 => (some (a0_0, a0_1, a0_2, t222, t225))) = some (r1, r2, r3, r4, r5) := H
 have A2 := Aside0.mk A20
 clear A20
 replace H := Option.bind_eq_some_iff.mp H
 obtain ⟨t225, A30, H⟩ := H
 replace H : (some (a0_0, a0_1, a0_2, t222, t225)) = some (r1, r2, r3, r4, r5) := H
 have A3 := Aside0.mk A30
 clear A30
 simp only [Option.some.injEq, Prod.mk.injEq] at H
 obtain ⟨rfl, rfl, rfl, rfl, rfl⟩ := H
 go_enter Try.func25, Try.ntmps25
 try go_wp2_with (first | ((with_reducible refine gate_dst (N := 1) rfl ?_); refine box_event ?hg (N := 1) ?hd (cs := #[.int .i64 a0_0, .int .i64 a0_1, .int .i64 a0_2, .slice A0_3 l0_3.length c0_3, .slice A0_4 l0_4.length c0_4]) (t := 27) ?hr ?_; (case hd => rfl); (case hg => rfl); (case hr => first | (go_simp; done) | (go_simp; rfl)); intro gb220 hg w4 hbox hb; have BK220 := Aside0.mk (hbox); have GW220 := Aside0.mk ((by rw [hg]; exact (below_size (zB HB)) : w.heap.size ≤ gb220)); have GE220 := Aside0.mk ((by rw [hg]; exact (below_size (zB HB)) : w.heap.size ≤ gb220)); replace HB := Aside0.mk (below_step (zB HB) hb); clear hb hbox hg) | ((with_reducible refine gate_dst (N := 2) rfl ?_); refine box_event ?hg (N := 2) ?hd (cs := #[.int .i64 0, .int .i64 0, .int .i64 0, .slice none 0 0, .slice none 0 0]) (t := 27) ?hr ?_; (case hd => rfl); (case hg => rfl); (case hr => first | (go_simp; done) | (go_simp; rfl)); intro gb221 hg w5 hbox hb; have BK221 := Aside0.mk (hbox); have GW221 := Aside0.mk ((by rw [hg]; exact (below_size (zB HB)) : w.heap.size ≤ gb221)); have GE221 := Aside0.mk ((by rw [hg]; exact (below_size (zB HB)) : w.heap.size ≤ gb221)); have NB220_221 := Aside0.mk ((by rw [hg]; exact Nat.ne_of_lt (zL BK220) : gb220 ≠ gb221)); have NB221_220 := Aside0.mk ((by rw [hg]; exact Nat.ne_of_gt (zL BK220) : gb221 ≠ gb220)); replace BK220 := Aside0.mk (zb BK220 hb); replace HB := Aside0.mk (below_step (zB HB) hb); clear hb hbox hg))
 replace BK220 := Aside0.mk (blk_drew BK220.out)
 replace BK221 := Aside0.mk (blk_drew BK221.out)
 replace HB := Aside0.mk (below_drew1 HB.out)
 refine start_ (n := 10) (S := fun w' => w'.cell? ⟨gb220, 0, none⟩ = some (.int .i64 a0_0) ∧ w'.cell? ⟨gb220, 1, none⟩ = some (.int .i64 a0_1) ∧ w'.cell? ⟨gb220, 2, none⟩ = some (.int .i64 a0_2) ∧ w'.cell? ⟨gb220, 3, none⟩ = some (.slice A0_3 l0_3.length c0_3) ∧ w'.cell? ⟨gb220, 4, none⟩ = some (.slice A0_4 l0_4.length c0_4)) (ds := [7, 9]) (zl 10 0) (by kernel_rfl) rfl rfl ⟨(blk_cell BK220.out 0).trans rfl, (blk_cell BK220.out 1).trans rfl, (blk_cell BK220.out 2).trans rfl, (blk_cell BK220.out 3).trans rfl, (blk_cell BK220.out 4).trans rfl⟩ (fun hHeld => ?_); refine with_tabW leap_copied.tab1 leap_copied.bits1 (fun HT_ HW_ => ?_)
 generalize w5.drew = w6 at BK220 BK221 HB hHeld ⊢
 refine zP 0 (some 3) (zl 10 1) HT_ ?_
 refine zP 3 (some 6) (zl 10 9) HT_ ?_
 refine zT 1 (some 4) (zl 10 11) HT_ HW_ hHeld ?_
 refine zT 4 (some 7) (zl 10 27) HT_ HW_ hHeld ?_
 refine one_ (i := 2) (N := some 5) (zl 10 31) rfl rfl (one_of HT_.out (by kernel_rfl)) (by decide) (fun K hK => ?_)
 refine goes_ Try.func36 (by kernel_rfl) rfl #[.slice A0_3 l0_3.length c0_3] (by rfl) rfl rfl (zm) ?_
 with_reducible refine (api_Run.calls _ _ l0_3 t222 _ ?side1 ?side2 A2.out).mono ?_
 (case side1 => exact zC ((Kd.C_below HR0_3.out HB.out)))
 (case side2 => exact HC0_3.out)
 rintro e w7 ⟨v223, rfl, ho0, hb⟩
 refine ⟨_, rfl, ?_⟩
 have HO224 := Aside0.mk (Kd.R_lower ho0 (below_size (zB HB)))
 replace BK220 := Aside0.mk (zb BK220 hb)
 replace BK221 := Aside0.mk (zb BK221 hb)
 replace HB := Aside0.mk (below_step (zB HB) hb)
 (try clear hb)
 (try clear hb2)
 (try clear hk)
 (try clear hi)
 (try clear ho0)
 refine hK.out _ _ ⟨(blk_cell BK220.out 0).trans rfl, (blk_cell BK220.out 1).trans rfl, (blk_cell BK220.out 2).trans rfl, (blk_cell BK220.out 3).trans rfl, (blk_cell BK220.out 4).trans rfl⟩ (fun hHeld => ?_)
 clear hK K
 refine norm_ (a' := ?_) ?_ ?_
 rotate_left
 ·
  show Act.put _ (some 5) _ = _
  simp only [Act.put, zs, zs0, zs1, i64_w, i32_w]
  rfl
 refine zP 6 (some 9) (zl 10 95) HT_ ?_
 refine one_ (i := 5) (N := some 8) (zl 10 127) rfl rfl (one_of HT_.out (by kernel_rfl)) (by decide) (fun K hK => ?_)
 refine goes_ Try.func36 (by kernel_rfl) rfl #[.slice A0_4 l0_4.length c0_4] (by rfl) rfl rfl (zm) ?_
 with_reducible refine (api_Run.calls _ _ l0_4 t225 _ ?side1 ?side2 A3.out).mono ?_
 (case side1 => exact zC ((Kd.C_below HR0_4.out HB.out)))
 (case side2 => exact HC0_4.out)
 rintro e w8 ⟨v226, rfl, ho0, hb⟩
 refine ⟨_, rfl, ?_⟩
 have HO227 := Aside0.mk (Kd.R_lower (Kd.R_new' ho0 (Kd.R_lt (zR HO224))) (below_size (zB HB)))
 replace HO224 := Aside0.mk (Kd.R_elder' (zR HO224) (Kd.R_base ho0) hb)
 replace BK220 := Aside0.mk (zb BK220 hb)
 replace BK221 := Aside0.mk (zb BK221 hb)
 replace HB := Aside0.mk (below_step (zB HB) hb)
 (try clear hb)
 (try clear hb2)
 (try clear hk)
 (try clear hi)
 (try clear ho0)
 obtain ⟨Ao9, co9, eo9⟩ := Kd.R_slice HO224.out
 (first | subst eo9 | (injection eo9 with f1_ f2_ f3_; have f4_ := f1_.symm; have f5_ := f3_.symm; clear f1_ f2_ f3_; subst f4_; subst f5_))
 obtain ⟨Ao11, co11, eo11⟩ := Kd.R_slice HO227.out
 (first | subst eo11 | (injection eo11 with f1_ f2_ f3_; have f4_ := f1_.symm; have f5_ := f3_.symm; clear f1_ f2_ f3_; subst f4_; subst f5_))
 refine hK.out _ _ ⟨(blk_cell BK220.out 0).trans rfl, (blk_cell BK220.out 1).trans rfl, (blk_cell BK220.out 2).trans rfl, (blk_cell BK220.out 3).trans rfl, (blk_cell BK220.out 4).trans rfl⟩ (fun hHeld => ?_)
 clear hK K
 refine norm_ (a' := ?_) ?_ ?_
 rotate_left
 ·
  show Act.put _ (some 8) _ = _
  simp only [Act.put, zs, zs0, zs1, i64_w, i32_w]
  rfl
 refine last_ (i := 7) (N := none) (zl 10 255) rfl rfl (one_of HT_.out (by kernel_rfl)) (by decide) (fun K hK => ?_)
 have hs10 : w8.cell? ⟨gb220, 3, none⟩ = some (.slice A0_3 l0_3.length c0_3) := (blk_cell BK220.out 3).trans rfl
 have hfs10 := blk_frozen BK220.out 3
 have hns10_1 := NB221_220.out
 have hms10_1 := NB220_221.out
 refine skip_ (w1 := ?_) (by rfl) rfl ?_ ?_
 rotate_left
 ·
  go_simp
  rfl
 refine hK.out _ _ ?_
 clear hK K
 refine zP 8 (some 10) (zl 10 511) HT_ ?_
 refine last_ (i := 9) (N := none) (zl 10 1023) rfl rfl (one_of HT_.out (by kernel_rfl)) (by decide) (fun K hK => ?_)
 have hs12 : w8.cell? ⟨gb220, 4, none⟩ = some (.slice A0_4 l0_4.length c0_4) := (blk_cell BK220.out 4).trans rfl
 have hfs12 := blk_frozen BK220.out 4
 have hns12_1 := NB221_220.out
 have hms12_1 := NB220_221.out
 refine skip_ (w1 := ?_) (by rfl) rfl ?_ ?_
 rotate_left
 ·
  go_simp
  rfl
 refine hK.out _ _ ?_
 clear hK K
 refine done_ (done_of HT_.out (by kernel_rfl)) ?_
 have hnb13 := NB220_221.out
 have hnc13 := NB221_220.out
 have hz14 := zc5 BK220
 have hz15 := zc5 BK221
 try go_wp2
 refine bodyPost_ret (results_cell_row rfl _ _ gb221 27 #[.int .i64 a0_0, .int .i64 a0_1, .int .i64 a0_2, .slice Ao9 t222.length co9, .slice Ao11 t225.length co11] (0, 0) _ rfl (by (with_reducible repeat (first | refine blk_drewN ?_ _ | refine blk_drew ?_ | refine blk_alloc ?_ _)); refine blk_put (cs := #[.int .i64 a0_0, .int .i64 a0_1, .int .i64 a0_2, .slice Ao9 t222.length co9, .slice none 0 0]) ?_ 4 _ rfl; (with_reducible repeat (first | refine blk_drewN ?_ _ | refine blk_drew ?_ | refine blk_alloc ?_ _)); refine blk_put (cs := #[.int .i64 a0_0, .int .i64 a0_1, .int .i64 a0_2, .slice none 0 0, .slice none 0 0]) ?_ 3 _ rfl; (with_reducible repeat (first | refine blk_drewN ?_ _ | refine blk_drew ?_ | refine blk_alloc ?_ _)); refine blk_put (cs := #[.int .i64 a0_0, .int .i64 a0_1, .int .i64 0, .slice none 0 0, .slice none 0 0]) ?_ 2 _ rfl; (with_reducible repeat (first | refine blk_drewN ?_ _ | refine blk_drew ?_ | refine blk_alloc ?_ _)); refine blk_put (cs := #[.int .i64 a0_0, .int .i64 0, .int .i64 0, .slice none 0 0, .slice none 0 0]) ?_ 1 _ rfl; (with_reducible repeat (first | refine blk_drewN ?_ _ | refine blk_drew ?_ | refine blk_alloc ?_ _)); refine blk_put (cs := #[.int .i64 0, .int .i64 0, .int .i64 0, .slice none 0 0, .slice none 0 0]) ?_ 0 _ rfl; (with_reducible repeat (first | refine blk_drewN ?_ _ | refine blk_drew ?_ | refine blk_alloc ?_ _)); refine blk_far ?_ NB221_220.out _; (with_reducible repeat (first | refine blk_drewN ?_ _ | refine blk_drew ?_ | refine blk_alloc ?_ _)); refine blk_far ?_ NB221_220.out _; (with_reducible repeat (first | refine blk_drewN ?_ _ | refine blk_drew ?_ | refine blk_alloc ?_ _)); exact BK221.out) Try.underlying27 rfl (by kernel_rfl)) rfl ?_
 exact ⟨_, _, by first | rfl | (simp [errW_none, errW_some] <;> rfl) | (simp [*, errW_none, errW_some] <;> rfl), by (with_reducible repeat (first | apply Kd.R_alloc | apply Kd.R_drewN | apply Kd.R_drew)); exact Kd.R_mono (zRf5 (g := gb221) (Kd.R_far (p := ⟨gb220, 4, none⟩) (Kd.R_far (p := ⟨gb220, 3, none⟩) (Kd.R_types (Kd.R_types HO224.out BK220.out (by decide)) BK221.out (by decide)) (fun _ hk => hk.1.2) (.slice Ao9 t222.length co9)) (fun _ hk => hk.1.2) (.slice Ao11 t225.length co11))) (fun _ hk => hk.1.1.2), by (with_reducible repeat (first | apply Kd.R_alloc | apply Kd.R_drewN | apply Kd.R_drew)); exact Kd.R_mono (zRf5 (g := gb221) (Kd.R_far (p := ⟨gb220, 4, none⟩) (Kd.R_far (p := ⟨gb220, 3, none⟩) (Kd.R_types (Kd.R_types HO227.out BK220.out (by decide)) BK221.out (by decide)) (fun _ hk => hk.1.2) (.slice Ao9 t222.length co9)) (fun _ hk => hk.1.2) (.slice Ao11 t225.length co11))) (fun _ hk => hk.1.1.2), zB HB⟩

/-! ### leap_Leap: function 11 -/
def leap_Leap.f (k : Nat) (a0_0 : Int) (a0_1 : Int) (l0_2 : List (List (S37))) (a1_0 : Int) (a1_1 : Int) (a1_2 : Int) (l1_3 : List (S62)) (l1_4 : List (S62)) : Option (Int × Int × Int × (List (S62)) × (List (S62)) × Int × Bool × Int) := (leap_Fits.f k a0_0 a0_1 l0_2 a1_0 a1_1 a1_2 l1_3 l1_4).bind fun t231 => (if t231 = true then (if a1_0 = (-1) then (some (0, 0, 0, ([] : List (S62)), ([] : List (S62)), 0, false, 5)) else ((leap_leap.f k a0_0 a0_1 l0_2 a1_0 a1_1 a1_2 l1_3 l1_4).bind fun bt232 => (if bt232.2.2.2.2.2.2 = true then ((leap_copied.f a1_0 a1_1 a1_2 l1_3 l1_4).bind fun bt244 => (some (bt244.1, bt244.2.1, bt244.2.2.1, bt244.2.2.2.1, bt244.2.2.2.2, 0, true, 0))) else ((leap_fits.f k a0_0 a0_1 bt232.1 bt232.2.1 bt232.2.2.1 bt232.2.2.2.1 bt232.2.2.2.2.1).bind fun t253 => (if t253 = true then (some (bt232.1, bt232.2.1, bt232.2.2.1, bt232.2.2.2.1, bt232.2.2.2.2.1, bt232.2.2.2.2.2.1, false, 0)) else (some (0, 0, 0, ([] : List (S62)), ([] : List (S62)), 0, false, 4))))))) else (some (0, 0, 0, ([] : List (S62)), ([] : List (S62)), 0, false, 1)))
theorem leap_Leap.mono : ∀ a0 a1 a2 a3 a4 a5 a6 a7 k, LeO (leap_Leap.f k a0 a1 a2 a3 a4 a5 a6 a7) (leap_Leap.f (k + 1) a0 a1 a2 a3 a4 a5 a6 a7) := by
 intro a0 a1 a2 a3 a4 a5 a6 a7 k
 unfold leap_Leap.f
 repeat' first
   | (with_reducible exact leap_Fits.mono _ _ _ _ _ _ _ _ _)
   | (with_reducible exact leap_fits.mono _ _ _ _ _ _ _ _)
   | (with_reducible exact leap_leap.mono _ _ _ _ _ _ _ _ _)
   | (with_reducible exact LeO.refl _)
   | (with_reducible exact LeO.none _)
   | (with_reducible refine LeO.ite ?_ ?_)
   | (with_reducible refine LeO.bind ?_ (fun _ => ?_))
   | exact leap_Fits.mono _ _ _ _ _ _ _ _ _
   | exact leap_fits.mono _ _ _ _ _ _ _ _
   | exact leap_leap.mono _ _ _ _ _ _ _ _ _
   | exact LeO.none _
   | refine LeO.ite ?_ ?_
   | refine LeO.bind ?_ (fun _ => ?_)
set_option maxHeartbeats 8000000 in
set_option maxRecDepth 100000 in
theorem leap_Leap.calls (k : Nat) (a0_0 : Int) (a0_1 : Int) (A0_2 : Option Addr) (c0_2 : Nat) (l0_2 : List (List (S37))) (a1_0 : Int) (a1_1 : Int) (a1_2 : Int) (P1_3_ : Nat → Prop) (A1_3 : Option Addr) (c1_3 : Nat) (l1_3 : List (S62)) (P1_4_ : Nat → Prop) (A1_4 : Option Addr) (c1_4 : Nat) (l1_4 : List (S62)) (r1 : Int) (r2 : Int) (r3 : Int) (r4 : List (S62)) (r5 : List (S62)) (r6 : Int) (r7 : Bool) (r8 : Int) (w : World) (hr0_2 : Kd.C (Kd.slice 37 k37) w A0_2 l0_2.length l0_2) (hc0_2 : l0_2.length ≤ c0_2) (hs1_3 : Kd.V k62 62 w w.heap.size (fun k_ => P1_3_ k_) (.slice A1_3 l1_3.length c1_3) l1_3) (hs1_4 : Kd.V k62 62 w w.heap.size (fun k_ => P1_4_ k_) (.slice A1_4 l1_4.length c1_4) l1_4) (h : leap_Leap.f k a0_0 a0_1 l0_2 a1_0 a1_1 a1_2 l1_3 l1_4 = some (r1, r2, r3, r4, r5, r6, r7, r8)) :
  Calls Try.prog 11 #[.agg #[.int .i64 a0_0, .int .i64 a0_1, .slice A0_2 l0_2.length c0_2], .agg #[.int .i64 a1_0, .int .i64 a1_1, .int .i64 a1_2, .slice A1_3 l1_3.length c1_3, .slice A1_4 l1_4.length c1_4]] w fun e w' => ∃ v3_ v4_ : Value, e = .returned (.tuple #[.agg #[.int .i64 r1, .int .i64 r2, .int .i64 r3, v3_, v4_], .int .i64 r6, .bool r7, .int .i64 r8]) ∧ Kd.V k62 62 w' w.heap.size (fun k_ => ((P1_3_ k_ ∨ P1_4_ k_) ∨ w.heap.size ≤ k_)) v3_ r4 ∧ Kd.V k62 62 w' w.heap.size (fun k_ => ((P1_3_ k_ ∨ P1_4_ k_) ∨ w.heap.size ≤ k_)) v4_ r5 ∧ Below w.heap.size w w' := by
 have hu24 := Try.underlying24
 have hu27 := Try.underlying27
 have HR0_2 := Aside0.mk hr0_2
 have HC0_2 := Aside0.mk hc0_2
 clear hr0_2 hc0_2
 have HO1_3 := Aside0.mk (show Kd.V k62 62 w w.heap.size (fun k_ => ((P1_3_ k_ ∨ P1_4_ k_) ∨ w.heap.size ≤ k_)) (.slice A1_3 l1_3.length c1_3) l1_3 from Kd.V_mono hs1_3 (fun k_ hk => .inl (.inl hk)))
 have HO1_4 := Aside0.mk (show Kd.V k62 62 w w.heap.size (fun k_ => ((P1_3_ k_ ∨ P1_4_ k_) ∨ w.heap.size ≤ k_)) (.slice A1_4 l1_4.length c1_4) l1_4 from Kd.V_mono hs1_4 (fun k_ hk => .inl (.inr hk)))
 have HB := Aside0.mk (Below.refl w.heap.size w)
 have H : ((leap_Fits.f k a0_0 a0_1 l0_2 a1_0 a1_1 a1_2 l1_3 l1_4).bind fun t231 => (if t231 = true then (if a1_0 = (-1) then (some (0, 0, 0, ([] : List (S62)), ([] : List (S62)), 0, false, 5)) else ((leap_leap.f k a0_0 a0_1 l0_2 a1_0 a1_1 a1_2 l1_3 l1_4).bind fun bt232 => (if bt232.2.2.2.2.2.2 = true then ((leap_copied.f a1_0 a1_1 a1_2 l1_3 l1_4).bind fun bt244 => (some (bt244.1, bt244.2.1, bt244.2.2.1, bt244.2.2.2.1, bt244.2.2.2.2, 0, true, 0))) else ((leap_fits.f k a0_0 a0_1 bt232.1 bt232.2.1 bt232.2.2.1 bt232.2.2.2.1 bt232.2.2.2.2.1).bind fun t253 => (if t253 = true then (some (bt232.1, bt232.2.1, bt232.2.2.1, bt232.2.2.2.1, bt232.2.2.2.2.1, bt232.2.2.2.2.2.1, false, 0)) else (some (0, 0, 0, ([] : List (S62)), ([] : List (S62)), 0, false, 4))))))) else (some (0, 0, 0, ([] : List (S62)), ([] : List (S62)), 0, false, 1)))) = some (r1, r2, r3, r4, r5, r6, r7, r8) := h
 clear h
 replace H := Option.bind_eq_some_iff.mp H
 obtain ⟨t231, A30, H⟩ := H
 replace H : (if t231 = true then (if a1_0 = (-1) then (some (0, 0, 0, ([] : List (S62)), ([] : List (S62)), 0, false, 5)) else ((leap_leap.f k a0_0 a0_1 l0_2 a1_0 a1_1 a1_2 l1_3 l1_4).bind fun bt232 => (if bt232.2.2.2.2.2.2 = true then ((leap_copied.f a1_0 a1_1 a1_2 l1_3 l1_4).bind fun bt244 => (some (bt244.1, bt244.2.1, bt244.2.2.1, bt244.2.2.2.1, bt244.2.2.2.2, 0, true, 0))) else ((leap_fits.f k a0_0 a0_1 bt232.1 bt232.2.1 bt232.2.2.1 bt232.2.2.2.1 bt232.2.2.2.2.1).bind fun t253 => (if t253 = true then (some (bt232.1, bt232.2.1, bt232.2.2.1, bt232.2.2.2.1, bt232.2.2.2.2.1, bt232.2.2.2.2.2.1, false, 0)) else (some (0, 0, 0, ([] : List (S62)), ([] : List (S62)), 0, false, 4))))))) else (some (0, 0, 0, ([] : List (S62)), ([] : List (S62)), 0, false, 1))) = some (r1, r2, r3, r4, r5, r6, r7, r8) := H
 have A3 := Aside0.mk A30
 clear A30
 have HC4 := Aside0.mk H
 clear H
 go_enter Try.func11, Try.ntmps11
 go_upto_if 14 with (first | ((with_reducible refine gate_dst (N := 2) rfl ?_); refine box_event ?hg (N := 2) ?hd (cs := #[.int .i64 a0_0, .int .i64 a0_1, .slice A0_2 l0_2.length c0_2]) (t := 24) ?hr ?_; (case hd => rfl); (case hg => rfl); (case hr => first | (go_simp; done) | (go_simp; rfl)); intro gb228 hg w5 hbox hb; have BK228 := Aside0.mk (hbox); have GW228 := Aside0.mk ((by rw [hg]; exact (below_size (zB HB)) : w.heap.size ≤ gb228)); have GE228 := Aside0.mk ((by rw [hg]; exact (below_size (zB HB)) : w.heap.size ≤ gb228)); replace HO1_3 := Aside0.mk (Kd.V_below (Kd.V_elderB (zV HO1_3) gb228 (Nat.le_of_eq hg.symm)) hb); replace HO1_4 := Aside0.mk (Kd.V_below (Kd.V_elderB (zV HO1_4) gb228 (Nat.le_of_eq hg.symm)) hb); replace HB := Aside0.mk (below_step (zB HB) hb); clear hb hbox hg) | ((with_reducible refine gate_dst (N := 3) rfl ?_); refine box_event ?hg (N := 3) ?hd (cs := #[.int .i64 a1_0, .int .i64 a1_1, .int .i64 a1_2, .slice A1_3 l1_3.length c1_3, .slice A1_4 l1_4.length c1_4]) (t := 27) ?hr ?_; (case hd => rfl); (case hg => rfl); (case hr => first | (go_simp; done) | (go_simp; rfl)); intro gb229 hg w6 hbox hb; have BK229 := Aside0.mk (hbox); have GW229 := Aside0.mk ((by rw [hg]; exact (below_size (zB HB)) : w.heap.size ≤ gb229)); have GE229 := Aside0.mk ((by rw [hg]; exact (below_size (zB HB)) : w.heap.size ≤ gb229)); have NB228_229 := Aside0.mk ((by rw [hg]; exact Nat.ne_of_lt (zL BK228) : gb228 ≠ gb229)); have NB229_228 := Aside0.mk ((by rw [hg]; exact Nat.ne_of_gt (zL BK228) : gb229 ≠ gb228)); replace HO1_3 := Aside0.mk (Kd.V_below (Kd.V_elderB (zV HO1_3) gb229 (Nat.le_of_eq hg.symm)) hb); replace HO1_4 := Aside0.mk (Kd.V_below (Kd.V_elderB (zV HO1_4) gb229 (Nat.le_of_eq hg.symm)) hb); replace BK228 := Aside0.mk (zb BK228 hb); replace HB := Aside0.mk (below_step (zB HB) hb); clear hb hbox hg) | ((with_reducible refine gate_dst (N := 4) rfl ?_); refine box_event ?hg (N := 4) ?hd (cs := #[.int .i64 0, .int .i64 0, .int .i64 0, .slice none 0 0, .slice none 0 0]) (t := 27) ?hr ?_; (case hd => rfl); (case hg => rfl); (case hr => first | (go_simp; done) | (go_simp; rfl)); intro gb230 hg w7 hbox hb; have BK230 := Aside0.mk (hbox); have GW230 := Aside0.mk ((by rw [hg]; exact (below_size (zB HB)) : w.heap.size ≤ gb230)); have GE230 := Aside0.mk ((by rw [hg]; exact (below_size (zB HB)) : w.heap.size ≤ gb230)); have NB228_230 := Aside0.mk ((by rw [hg]; exact Nat.ne_of_lt (zL BK228) : gb228 ≠ gb230)); have NB230_228 := Aside0.mk ((by rw [hg]; exact Nat.ne_of_gt (zL BK228) : gb230 ≠ gb228)); have NB229_230 := Aside0.mk ((by rw [hg]; exact Nat.ne_of_lt (zL BK229) : gb229 ≠ gb230)); have NB230_229 := Aside0.mk ((by rw [hg]; exact Nat.ne_of_gt (zL BK229) : gb230 ≠ gb229)); replace HO1_3 := Aside0.mk (Kd.V_below (Kd.V_elderB (zV HO1_3) gb230 (Nat.le_of_eq hg.symm)) hb); replace HO1_4 := Aside0.mk (Kd.V_below (Kd.V_elderB (zV HO1_4) gb230 (Nat.le_of_eq hg.symm)) hb); replace BK228 := Aside0.mk (zb BK228 hb); replace BK229 := Aside0.mk (zb BK229 hb); replace HB := Aside0.mk (below_step (zB HB) hb); clear hb hbox hg; have hnb8 := NB228_229.out; have hnc8 := NB229_228.out; have hnb9 := NB228_230.out; have hnc9 := NB230_228.out; have hz10 := zc3 BK228; have hnb11 := NB229_230.out; have hnc11 := NB230_229.out; have hz12 := zc5 BK229) | ((with_reducible refine gate_callee (f := 23) rfl ?_); refine goesL_ (some 13) rfl rfl Try.func23 (by kernel_rfl) rfl #[.agg #[.int .i64 a0_0, .int .i64 a0_1, .slice A0_2 l0_2.length c0_2], .agg #[.int .i64 a1_0, .int .i64 a1_1, .int .i64 a1_2, .slice A1_3 l1_3.length c1_3, .slice A1_4 l1_4.length c1_4]] rfl (zm) ?_; (with_reducible refine (leap_Fits.calls k a0_0 a0_1 _ _ l0_2 a1_0 a1_1 a1_2 _ _ l1_3 _ _ l1_4 t231 _ ?side1 ?side2 ?side3 ?side4 ?side5 ?side6 A3.out).mono ?_); (case side1 => exact zC ((Kd.C_below HR0_2.out HB.out))); (case side2 => exact HC0_2.out); (case side3 => exact zC ((Kd.V_reads' HO1_3.out).2.2)); (case side4 => exact (Kd.V_reads' HO1_3.out).2.1); (case side5 => exact zC ((Kd.V_reads' HO1_4.out).2.2)); (case side6 => exact (Kd.V_reads' HO1_4.out).2.1); rintro e w13 ⟨rfl, hb⟩; refine ⟨_, rfl, ?_⟩; replace HO1_3 := Aside0.mk (zVb HO1_3 hb); replace HO1_4 := Aside0.mk (zVb HO1_4 hb); replace BK228 := Aside0.mk (zb BK228 hb); replace BK229 := Aside0.mk (zb BK229 hb); replace BK230 := Aside0.mk (zb BK230 hb); replace HB := Aside0.mk (below_step (zB HB) hb); (try clear hb); (try clear hb2); (try clear hk); (try clear hi)))
 (try simp only [Act.put, zs, zs0, zs1])
 have H := HC4.out
 clear HC4
 by_cases c14 : t231 = true
 ·
  subst c14
  have H1 : (if a1_0 = (-1) then (some (0, 0, 0, ([] : List (S62)), ([] : List (S62)), 0, false, 5)) else ((leap_leap.f k a0_0 a0_1 l0_2 a1_0 a1_1 a1_2 l1_3 l1_4).bind fun bt232 => (if bt232.2.2.2.2.2.2 = true then ((leap_copied.f a1_0 a1_1 a1_2 l1_3 l1_4).bind fun bt244 => (some (bt244.1, bt244.2.1, bt244.2.2.1, bt244.2.2.2.1, bt244.2.2.2.2, 0, true, 0))) else ((leap_fits.f k a0_0 a0_1 bt232.1 bt232.2.1 bt232.2.2.1 bt232.2.2.2.1 bt232.2.2.2.2.1).bind fun t253 => (if t253 = true then (some (bt232.1, bt232.2.1, bt232.2.2.1, bt232.2.2.2.1, bt232.2.2.2.2.1, bt232.2.2.2.2.2.1, false, 0)) else (some (0, 0, 0, ([] : List (S62)), ([] : List (S62)), 0, false, 4))))))) = some (r1, r2, r3, r4, r5, r6, r7, r8) := by rw [if_pos rfl] at H; exact H
  clear H
  have H := H1
  clear H1
  by_cases c15 : a1_0 = (-1)
  ·
   rw [if_pos c15] at H
   have c15b0 : (a1_0 == (-1)) = true := beq_iff_eq.mpr c15
   have c15b1 : (a1_0 != (-1)) = false := bne_eq_false_iff_eq.mpr c15
   clear c15
   (first | rw [c15b0] | (simp only [i64_w, i32_w]; rw [c15b0]) | skip)
   (try rw [c15b1])
   simp only [Option.some.injEq, Prod.mk.injEq] at H
   obtain ⟨rfl, rfl, rfl, rfl, rfl, rfl, rfl, rfl⟩ := H
   have hnb16 := NB229_228.out
   have hnc16 := NB228_229.out
   have hnb17 := NB229_230.out
   have hnc17 := NB230_229.out
   have hz18 := zc5 BK229
   have hnb19 := NB230_228.out
   have hnc19 := NB228_230.out
   have hz20 := zc5 BK230
   go_wp2
   refine bodyPost_ret (results_list (rs := [.cell 4 27, .tmp 5, .tmp 6, .tmp 7]) rfl (by simp) (.cell gb230 27 #[.int .i64 0, .int .i64 0, .int .i64 0, .slice none 0 0, .slice none 0 0] (0, 0) _ rfl (by (with_reducible repeat (first | refine blk_drewN ?_ _ | refine blk_drew ?_ | refine blk_alloc ?_ _)); refine blk_put (cs := #[.int .i64 0, .int .i64 0, .int .i64 0, .slice none 0 0, .slice none 0 0]) ?_ 4 _ rfl; (with_reducible repeat (first | refine blk_drewN ?_ _ | refine blk_drew ?_ | refine blk_alloc ?_ _)); refine blk_put (cs := #[.int .i64 0, .int .i64 0, .int .i64 0, .slice none 0 0, .slice none 0 0]) ?_ 3 _ rfl; (with_reducible repeat (first | refine blk_drewN ?_ _ | refine blk_drew ?_ | refine blk_alloc ?_ _)); refine blk_put (cs := #[.int .i64 0, .int .i64 0, .int .i64 0, .slice none 0 0, .slice none 0 0]) ?_ 2 _ rfl; (with_reducible repeat (first | refine blk_drewN ?_ _ | refine blk_drew ?_ | refine blk_alloc ?_ _)); refine blk_put (cs := #[.int .i64 0, .int .i64 0, .int .i64 0, .slice none 0 0, .slice none 0 0]) ?_ 1 _ rfl; (with_reducible repeat (first | refine blk_drewN ?_ _ | refine blk_drew ?_ | refine blk_alloc ?_ _)); refine blk_put (cs := #[.int .i64 0, .int .i64 0, .int .i64 0, .slice none 0 0, .slice none 0 0]) ?_ 0 _ rfl; (with_reducible repeat (first | refine blk_drewN ?_ _ | refine blk_drew ?_ | refine blk_alloc ?_ _)); exact BK230.out) Try.underlying27 rfl (by kernel_rfl) (.tmp (.tmp (.tmp .nil))))) rfl ?_
   exact ⟨_, _, by first | rfl | (simp [errW_none, errW_some] <;> rfl) | (simp [*, errW_none, errW_some] <;> rfl), by first | exact Kd.R_nil _ _ _ _ _ | exact Kd.N_nil _ _ _ _ _ | exact Kd.V_nil _ _ _ _ _ | exact Kd.Q_nil _ _ _ _ _ | exact Kd.S_nil _ _ _ _ _, by first | exact Kd.R_nil _ _ _ _ _ | exact Kd.N_nil _ _ _ _ _ | exact Kd.V_nil _ _ _ _ _ | exact Kd.Q_nil _ _ _ _ _ | exact Kd.S_nil _ _ _ _ _, zB HB⟩
  ·
   rw [if_neg c15] at H
   have c15b0 : (a1_0 == (-1)) = false := beq_eq_false_iff_ne.mpr c15
   have c15b1 : (a1_0 != (-1)) = true := bne_iff_ne.mpr c15
   (first | rw [c15b0] | (simp only [i64_w, i32_w]; rw [c15b0]) | skip)
   (try rw [c15b1])
   replace H := Option.bind_eq_some_iff.mp H
   obtain ⟨⟨t232, t233, t234, t235, t238, t241, t242⟩, A210, H⟩ := H
   replace H : (if t242 = true then ((leap_copied.f a1_0 a1_1 a1_2 l1_3 l1_4).bind fun bt244 => (some (bt244.1, bt244.2.1, bt244.2.2.1, bt244.2.2.2.1, bt244.2.2.2.2, 0, true, 0))) else ((leap_fits.f k a0_0 a0_1 t232 t233 t234 t235 t238).bind fun t253 => (if t253 = true then (some (t232, t233, t234, t235, t238, t241, false, 0)) else (some (0, 0, 0, ([] : List (S62)), ([] : List (S62)), 0, false, 4))))) = some (r1, r2, r3, r4, r5, r6, r7, r8) := H
   have A21 := Aside0.mk A210
   clear A210
   have HC22 := Aside0.mk H
   clear H
   have hnb23 := NB229_228.out
   have hnc23 := NB228_229.out
   have hnb24 := NB229_230.out
   have hnc24 := NB230_229.out
   have hz25 := zc5 BK229
   have hnb26 := NB228_230.out
   have hnc26 := NB230_228.out
   have hz27 := zc3 BK228
   go_upto_if 27 with (first | ((with_reducible refine gate_callee (f := 24) rfl ?_); refine goesL_ (some 23) rfl rfl Try.func24 (by kernel_rfl) rfl #[.agg #[.int .i64 a0_0, .int .i64 a0_1, .slice A0_2 l0_2.length c0_2], .agg #[.int .i64 a1_0, .int .i64 a1_1, .int .i64 a1_2, .slice A1_3 l1_3.length c1_3, .slice A1_4 l1_4.length c1_4]] rfl (zm) ?_; (with_reducible refine (leap_leap.calls k a0_0 a0_1 _ _ l0_2 a1_0 a1_1 a1_2 (fun k_ => (((((P1_3_ k_ ∨ P1_4_ k_) ∨ w.heap.size ≤ k_) ∧ k_ ≠ gb228) ∧ k_ ≠ gb229) ∧ k_ ≠ gb230)) _ _ l1_3 (fun k_ => (((((P1_3_ k_ ∨ P1_4_ k_) ∨ w.heap.size ≤ k_) ∧ k_ ≠ gb228) ∧ k_ ≠ gb229) ∧ k_ ≠ gb230)) _ _ l1_4 t232 t233 t234 t235 t238 t241 t242 _ ?side1 ?side2 ?side3 ?side4 A21.out).mono ?_); (case side1 => exact zC ((Kd.C_below HR0_2.out HB.out))); (case side2 => exact HC0_2.out); (case side3 => exact HO1_3.out); (case side4 => exact HO1_4.out); rintro e w28 ⟨v236, v239, rfl, ho0, ho1, hb⟩; refine ⟨_, rfl, ?_⟩; have HO237 := Aside0.mk (Kd.V_lower (Kd.V_mono (ok' := fun k_ => ((P1_3_ k_ ∨ P1_4_ k_) ∨ w.heap.size ≤ k_) ∧ k_ ≠ gb228 ∧ k_ ≠ gb229 ∧ k_ ≠ gb230) ho0 (fun k_ hk_ => ⟨Or.elim hk_ (fun hs_ => Or.elim hs_ (fun hs_ => hs_.1.1.1) (fun hs_ => hs_.1.1.1)) (fun hn_ => (.inr (Nat.le_trans (below_size (zB HB)) hn_))), Or.elim hk_ (fun hs_ => Or.elim hs_ (fun hs_ => hs_.1.1.2) (fun hs_ => hs_.1.1.2)) (fun hn_ => zf BK228 hn_), Or.elim hk_ (fun hs_ => Or.elim hs_ (fun hs_ => hs_.1.2) (fun hs_ => hs_.1.2)) (fun hn_ => zf BK229 hn_), Or.elim hk_ (fun hs_ => Or.elim hs_ (fun hs_ => hs_.2) (fun hs_ => hs_.2)) (fun hn_ => zf BK230 hn_)⟩)) (below_size (zB HB))); have HO240 := Aside0.mk (Kd.V_lower (Kd.V_mono (ok' := fun k_ => ((P1_3_ k_ ∨ P1_4_ k_) ∨ w.heap.size ≤ k_) ∧ k_ ≠ gb228 ∧ k_ ≠ gb229 ∧ k_ ≠ gb230) ho1 (fun k_ hk_ => ⟨Or.elim hk_ (fun hs_ => Or.elim hs_ (fun hs_ => hs_.1.1.1) (fun hs_ => hs_.1.1.1)) (fun hn_ => (.inr (Nat.le_trans (below_size (zB HB)) hn_))), Or.elim hk_ (fun hs_ => Or.elim hs_ (fun hs_ => hs_.1.1.2) (fun hs_ => hs_.1.1.2)) (fun hn_ => zf BK228 hn_), Or.elim hk_ (fun hs_ => Or.elim hs_ (fun hs_ => hs_.1.2) (fun hs_ => hs_.1.2)) (fun hn_ => zf BK229 hn_), Or.elim hk_ (fun hs_ => Or.elim hs_ (fun hs_ => hs_.2) (fun hs_ => hs_.2)) (fun hn_ => zf BK230 hn_)⟩)) (below_size (zB HB))); replace HO1_3 := Aside0.mk (zVb HO1_3 hb); replace HO1_4 := Aside0.mk (zVb HO1_4 hb); replace BK228 := Aside0.mk (zb BK228 hb); replace BK229 := Aside0.mk (zb BK229 hb); replace BK230 := Aside0.mk (zb BK230 hb); replace HB := Aside0.mk (below_step (zB HB) hb); (try clear hb); (try clear hb2); (try clear hk); (try clear hi); (try clear ho0); (try clear ho1)) | ((with_reducible refine gate_dst (N := 8) rfl ?_); refine box_event ?hg (N := 8) ?hd (cs := #[.int .i64 0, .int .i64 0, .int .i64 0, .slice none 0 0, .slice none 0 0]) (t := 27) ?hr ?_; (case hd => rfl); (case hg => rfl); (case hr => first | (go_simp; done) | (go_simp; rfl)); intro gb243 hg w29 hbox hb; have BK243 := Aside0.mk (hbox); have GW243 := Aside0.mk ((by rw [hg]; exact (below_size (zB HB)) : w.heap.size ≤ gb243)); have GE243 := Aside0.mk ((by rw [hg]; exact (below_size (zB HB)) : w.heap.size ≤ gb243)); have NB228_243 := Aside0.mk ((by rw [hg]; exact Nat.ne_of_lt (zL BK228) : gb228 ≠ gb243)); have NB243_228 := Aside0.mk ((by rw [hg]; exact Nat.ne_of_gt (zL BK228) : gb243 ≠ gb228)); have NB229_243 := Aside0.mk ((by rw [hg]; exact Nat.ne_of_lt (zL BK229) : gb229 ≠ gb243)); have NB243_229 := Aside0.mk ((by rw [hg]; exact Nat.ne_of_gt (zL BK229) : gb243 ≠ gb229)); have NB230_243 := Aside0.mk ((by rw [hg]; exact Nat.ne_of_lt (zL BK230) : gb230 ≠ gb243)); have NB243_230 := Aside0.mk ((by rw [hg]; exact Nat.ne_of_gt (zL BK230) : gb243 ≠ gb230)); replace HO1_3 := Aside0.mk (Kd.V_below (Kd.V_elderB (zV HO1_3) gb243 (Nat.le_of_eq hg.symm)) hb); replace HO1_4 := Aside0.mk (Kd.V_below (Kd.V_elderB (zV HO1_4) gb243 (Nat.le_of_eq hg.symm)) hb); replace HO237 := Aside0.mk (Kd.V_below (Kd.V_elderB (zV HO237) gb243 (Nat.le_of_eq hg.symm)) hb); replace HO240 := Aside0.mk (Kd.V_below (Kd.V_elderB (zV HO240) gb243 (Nat.le_of_eq hg.symm)) hb); replace BK228 := Aside0.mk (zb BK228 hb); replace BK229 := Aside0.mk (zb BK229 hb); replace BK230 := Aside0.mk (zb BK230 hb); replace HB := Aside0.mk (below_step (zB HB) hb); clear hb hbox hg; have hnb30 := NB243_228.out; have hnc30 := NB228_243.out; have hnb31 := NB243_229.out; have hnc31 := NB229_243.out; have hnb32 := NB243_230.out; have hnc32 := NB230_243.out; have hz33 := zc5 BK243; obtain ⟨Ao34, co34, eo34⟩ := Kd.V_slice HO237.out; subst eo34; obtain ⟨Ao35, co35, eo35⟩ := Kd.V_slice HO240.out; subst eo35) | ((with_reducible refine gate_store (t := 27) (p := 8) rfl ?_); refine store_event (t := 27) (p := 8) (v := ?vo_w36) (w1 := (((((w29.setCell ⟨gb243, 0, none⟩ (.int .i64 t232)).setCell ⟨gb243, 1, none⟩ (.int .i64 t233)).setCell ⟨gb243, 2, none⟩ (.int .i64 t234)).setCell ⟨gb243, 3, none⟩ (.slice Ao34 t235.length co34)).setCell ⟨gb243, 4, none⟩ (.slice Ao35 t238.length co35))) ?hg ?ho ?hn ?hr ?_; (case ho => rfl); (case hg => rfl); (case hn => rfl); (case hr => first | (go_simp; done) | (go_simp; rfl)); intro w36 hw; have n0_ : Aside0 (Kd.V k62 62 w36 w.heap.size (fun k_ => ((P1_3_ k_ ∨ P1_4_ k_) ∨ w.heap.size ≤ k_) ∧ k_ ≠ gb228 ∧ k_ ≠ gb229 ∧ k_ ≠ gb230 ∧ k_ ≠ gb243) (.slice A1_3 l1_3.length c1_3) l1_3) := ⟨(by rw [hw]; exact (by (with_reducible repeat (first | apply Kd.V_alloc | apply Kd.V_drewN | apply Kd.V_drew)); exact Kd.V_mono (zVf5 (g := gb243) (Kd.V_mono HO1_3.out (fun k_ hk => (⟨hk, hk.2⟩ : _ ∧ k_ ≠ gb243)))) (fun _ hk => ⟨hk.1.1.1.1.1, ⟨hk.1.1.1.1.2, ⟨hk.1.1.1.2, ⟨hk.1.1.2, hk.1.2⟩⟩⟩⟩)))⟩; have n1_ : Aside0 (Kd.V k62 62 w36 w.heap.size (fun k_ => ((P1_3_ k_ ∨ P1_4_ k_) ∨ w.heap.size ≤ k_) ∧ k_ ≠ gb228 ∧ k_ ≠ gb229 ∧ k_ ≠ gb230 ∧ k_ ≠ gb243) (.slice A1_4 l1_4.length c1_4) l1_4) := ⟨(by rw [hw]; exact (by (with_reducible repeat (first | apply Kd.V_alloc | apply Kd.V_drewN | apply Kd.V_drew)); exact Kd.V_mono (zVf5 (g := gb243) (Kd.V_mono HO1_4.out (fun k_ hk => (⟨hk, hk.2⟩ : _ ∧ k_ ≠ gb243)))) (fun _ hk => ⟨hk.1.1.1.1.1, ⟨hk.1.1.1.1.2, ⟨hk.1.1.1.2, ⟨hk.1.1.2, hk.1.2⟩⟩⟩⟩)))⟩; have n2_ : Aside0 (Kd.V k62 62 w36 w.heap.size (fun k_ => ((P1_3_ k_ ∨ P1_4_ k_) ∨ w.heap.size ≤ k_) ∧ k_ ≠ gb228 ∧ k_ ≠ gb229 ∧ k_ ≠ gb230 ∧ k_ ≠ gb243) (.slice Ao34 t235.length co34) t235) := ⟨(by rw [hw]; exact (by (with_reducible repeat (first | apply Kd.V_alloc | apply Kd.V_drewN | apply Kd.V_drew)); exact Kd.V_mono (zVf5 (g := gb243) (Kd.V_mono HO237.out (fun k_ hk => (⟨hk, hk.2⟩ : _ ∧ k_ ≠ gb243)))) (fun _ hk => ⟨hk.1.1.1, ⟨hk.1.1.2.1, ⟨hk.1.1.2.2.1, ⟨hk.1.1.2.2.2, hk.1.2⟩⟩⟩⟩)))⟩; have n3_ : Aside0 (Kd.V k62 62 w36 w.heap.size (fun k_ => ((P1_3_ k_ ∨ P1_4_ k_) ∨ w.heap.size ≤ k_) ∧ k_ ≠ gb228 ∧ k_ ≠ gb229 ∧ k_ ≠ gb230 ∧ k_ ≠ gb243) (.slice Ao35 t238.length co35) t238) := ⟨(by rw [hw]; exact (by (with_reducible repeat (first | apply Kd.V_alloc | apply Kd.V_drewN | apply Kd.V_drew)); exact Kd.V_mono (zVf5 (g := gb243) (Kd.V_mono HO240.out (fun k_ hk => (⟨hk, hk.2⟩ : _ ∧ k_ ≠ gb243)))) (fun _ hk => ⟨hk.1.1.1, ⟨hk.1.1.2.1, ⟨hk.1.1.2.2.1, ⟨hk.1.1.2.2.2, hk.1.2⟩⟩⟩⟩)))⟩; have n4_ : Aside0 (w36.heap[gb228]? = some (.cells #[.int .i64 a0_0, .int .i64 a0_1, .slice A0_2 l0_2.length c0_2] 24 (0, 0))) := ⟨(by rw [hw]; exact (zK BK228))⟩; have n5_ : Aside0 (w36.heap[gb229]? = some (.cells #[.int .i64 a1_0, .int .i64 a1_1, .int .i64 a1_2, .slice A1_3 l1_3.length c1_3, .slice A1_4 l1_4.length c1_4] 27 (0, 0))) := ⟨(by rw [hw]; exact (zK BK229))⟩; have n6_ : Aside0 (w36.heap[gb230]? = some (.cells #[.int .i64 0, .int .i64 0, .int .i64 0, .slice none 0 0, .slice none 0 0] 27 (0, 0))) := ⟨(by rw [hw]; exact (zK BK230))⟩; have n7_ : Aside0 (w36.heap[gb243]? = some (.cells #[.int .i64 t232, .int .i64 t233, .int .i64 t234, .slice Ao34 t235.length co34, .slice Ao35 t238.length co35] 27 (0, 0))) := ⟨(by rw [hw]; exact (by (with_reducible repeat (first | refine blk_drewN ?_ _ | refine blk_drew ?_ | refine blk_alloc ?_ _)); refine blk_put (cs := #[.int .i64 t232, .int .i64 t233, .int .i64 t234, .slice Ao34 t235.length co34, .slice none 0 0]) ?_ 4 _ rfl; (with_reducible repeat (first | refine blk_drewN ?_ _ | refine blk_drew ?_ | refine blk_alloc ?_ _)); refine blk_put (cs := #[.int .i64 t232, .int .i64 t233, .int .i64 t234, .slice none 0 0, .slice none 0 0]) ?_ 3 _ rfl; (with_reducible repeat (first | refine blk_drewN ?_ _ | refine blk_drew ?_ | refine blk_alloc ?_ _)); refine blk_put (cs := #[.int .i64 t232, .int .i64 t233, .int .i64 0, .slice none 0 0, .slice none 0 0]) ?_ 2 _ rfl; (with_reducible repeat (first | refine blk_drewN ?_ _ | refine blk_drew ?_ | refine blk_alloc ?_ _)); refine blk_put (cs := #[.int .i64 t232, .int .i64 0, .int .i64 0, .slice none 0 0, .slice none 0 0]) ?_ 1 _ rfl; (with_reducible repeat (first | refine blk_drewN ?_ _ | refine blk_drew ?_ | refine blk_alloc ?_ _)); refine blk_put (cs := #[.int .i64 0, .int .i64 0, .int .i64 0, .slice none 0 0, .slice none 0 0]) ?_ 0 _ rfl; (with_reducible repeat (first | refine blk_drewN ?_ _ | refine blk_drew ?_ | refine blk_alloc ?_ _)); exact BK243.out))⟩; have n8_ : Aside0 (Below w.heap.size w w36) := ⟨(by rw [hw]; exact (zB HB))⟩; clear hw; clear HO1_3; clear HO1_4; clear HO237; clear HO240; clear BK228; clear BK229; clear BK230; clear BK243; clear HB; have HO1_3 := n0_; have HO1_4 := n1_; have HO237 := n2_; have HO240 := n3_; have BK228 := n4_; have BK229 := n5_; have BK230 := n6_; have BK243 := n7_; have HB := n8_; clear n0_ n1_ n2_ n3_ n4_ n5_ n6_ n7_ n8_))
   (try simp only [Act.put, zs, zs0, zs1])
   have H := HC22.out
   clear HC22
   by_cases c37 : t242 = true
   ·
    subst c37
    have H1 : ((leap_copied.f a1_0 a1_1 a1_2 l1_3 l1_4).bind fun bt244 => (some (bt244.1, bt244.2.1, bt244.2.2.1, bt244.2.2.2.1, bt244.2.2.2.2, 0, true, 0))) = some (r1, r2, r3, r4, r5, r6, r7, r8) := by rw [if_pos rfl] at H; exact H
    clear H
    have H := H1
    clear H1
    replace H := Option.bind_eq_some_iff.mp H
    obtain ⟨⟨t244, t245, t246, t247, t250⟩, A380, H⟩ := H
    replace H : (some (t244, t245, t246, t247, t250, 0, true, 0)) = some (r1, r2, r3, r4, r5, r6, r7, r8) := H
    have A38 := Aside0.mk A380
    clear A380
    simp only [Option.some.injEq, Prod.mk.injEq] at H
    obtain ⟨rfl, rfl, rfl, rfl, rfl, rfl, rfl, rfl⟩ := H
    have hnb39 := NB229_228.out
    have hnc39 := NB228_229.out
    have hnb40 := NB229_230.out
    have hnc40 := NB230_229.out
    have hnb41 := NB229_243.out
    have hnc41 := NB243_229.out
    have hz42 := zc5 BK229
    go_wp2_with (first | ((with_reducible refine gate_callee (f := 25) rfl ?_); refine goesL_ (some 29) rfl rfl Try.func25 (by kernel_rfl) rfl #[.agg #[.int .i64 a1_0, .int .i64 a1_1, .int .i64 a1_2, .slice A1_3 l1_3.length c1_3, .slice A1_4 l1_4.length c1_4]] rfl (zm) ?_; (with_reducible refine (leap_copied.calls a1_0 a1_1 a1_2 _ _ l1_3 _ _ l1_4 t244 t245 t246 t247 t250 _ ?side1 ?side2 ?side3 ?side4 A38.out).mono ?_); (case side1 => exact zC ((Kd.V_reads' HO1_3.out).2.2)); (case side2 => exact (Kd.V_reads' HO1_3.out).2.1); (case side3 => exact zC ((Kd.V_reads' HO1_4.out).2.2)); (case side4 => exact (Kd.V_reads' HO1_4.out).2.1); rintro e w43 ⟨v248, v251, rfl, ho0, ho1, hb⟩; refine ⟨_, rfl, ?_⟩; have HO249 := Aside0.mk (Kd.R_lower (Kd.R_newM (M := fun k_ => (w.heap.size ≤ k_)) ho0 (below_size (zB HB)) (fun k_ h_ => h_)) (below_size (zB HB))); have HO252 := Aside0.mk (Kd.R_lower (Kd.R_newM (M := fun k_ => (w.heap.size ≤ k_)) ho1 (below_size (zB HB)) (fun k_ h_ => h_)) (below_size (zB HB))); replace HO1_3 := Aside0.mk (Kd.V_mono (Kd.V_told (Kd.V_told (Kd.V_old (zV HO1_3) hb) (Kd.R_base ho0)) (Kd.R_base ho1)) (fun _ h_ => h_.1)); replace HO1_4 := Aside0.mk (Kd.V_mono (Kd.V_told (Kd.V_told (Kd.V_old (zV HO1_4) hb) (Kd.R_base ho0)) (Kd.R_base ho1)) (fun _ h_ => h_.1)); replace HO237 := Aside0.mk (Kd.V_mono (Kd.V_told (Kd.V_told (Kd.V_old (zV HO237) hb) (Kd.R_base ho0)) (Kd.R_base ho1)) (fun _ h_ => h_.1)); replace HO240 := Aside0.mk (Kd.V_mono (Kd.V_told (Kd.V_told (Kd.V_old (zV HO240) hb) (Kd.R_base ho0)) (Kd.R_base ho1)) (fun _ h_ => h_.1)); replace BK228 := Aside0.mk (zb BK228 hb); replace BK229 := Aside0.mk (zb BK229 hb); replace BK230 := Aside0.mk (zb BK230 hb); replace BK243 := Aside0.mk (zb BK243 hb); replace HB := Aside0.mk (below_step (zB HB) hb); (try clear hb); (try clear hb2); (try clear hk); (try clear hi); (try clear ho0); (try clear ho1); have hnb44 := NB230_228.out; have hnc44 := NB228_230.out; have hnb45 := NB230_243.out; have hnc45 := NB243_230.out; have hz46 := zc5 BK230; obtain ⟨Ao47, co47, eo47⟩ := Kd.R_slice HO249.out; subst eo47; obtain ⟨Ao48, co48, eo48⟩ := Kd.R_slice HO252.out; subst eo48))
    refine bodyPost_ret (results_list (rs := [.cell 4 27, .tmp 5, .tmp 6, .tmp 7]) rfl (by simp) (.cell gb230 27 #[.int .i64 t244, .int .i64 t245, .int .i64 t246, .slice Ao47 t247.length co47, .slice Ao48 t250.length co48] (0, 0) _ rfl (by (with_reducible repeat (first | refine blk_drewN ?_ _ | refine blk_drew ?_ | refine blk_alloc ?_ _)); refine blk_put (cs := #[.int .i64 t244, .int .i64 t245, .int .i64 t246, .slice Ao47 t247.length co47, .slice none 0 0]) ?_ 4 _ rfl; (with_reducible repeat (first | refine blk_drewN ?_ _ | refine blk_drew ?_ | refine blk_alloc ?_ _)); refine blk_put (cs := #[.int .i64 t244, .int .i64 t245, .int .i64 t246, .slice none 0 0, .slice none 0 0]) ?_ 3 _ rfl; (with_reducible repeat (first | refine blk_drewN ?_ _ | refine blk_drew ?_ | refine blk_alloc ?_ _)); refine blk_put (cs := #[.int .i64 t244, .int .i64 t245, .int .i64 0, .slice none 0 0, .slice none 0 0]) ?_ 2 _ rfl; (with_reducible repeat (first | refine blk_drewN ?_ _ | refine blk_drew ?_ | refine blk_alloc ?_ _)); refine blk_put (cs := #[.int .i64 t244, .int .i64 0, .int .i64 0, .slice none 0 0, .slice none 0 0]) ?_ 1 _ rfl; (with_reducible repeat (first | refine blk_drewN ?_ _ | refine blk_drew ?_ | refine blk_alloc ?_ _)); refine blk_put (cs := #[.int .i64 0, .int .i64 0, .int .i64 0, .slice none 0 0, .slice none 0 0]) ?_ 0 _ rfl; (with_reducible repeat (first | refine blk_drewN ?_ _ | refine blk_drew ?_ | refine blk_alloc ?_ _)); exact BK230.out) Try.underlying27 rfl (by kernel_rfl) (.tmp (.tmp (.tmp .nil))))) rfl ?_
    exact ⟨_, _, by first | rfl | (simp [errW_none, errW_some] <;> rfl) | (simp [*, errW_none, errW_some] <;> rfl), Kd.V_mono (Kd.R_V (by (with_reducible repeat (first | apply Kd.R_alloc | apply Kd.R_drewN | apply Kd.R_drew)); exact Kd.R_mono (zRf5 (g := gb230) (Kd.R_types HO249.out BK230.out (by decide))) (fun _ hk => hk.1.1))) (fun k_ hk => by first | exact ⟨(.inr (hk.1)), hk.2⟩ | exact (.inr (hk))), Kd.V_mono (Kd.R_V (by (with_reducible repeat (first | apply Kd.R_alloc | apply Kd.R_drewN | apply Kd.R_drew)); exact Kd.R_mono (zRf5 (g := gb230) (Kd.R_types HO252.out BK230.out (by decide))) (fun _ hk => hk.1.1))) (fun k_ hk => by first | exact ⟨(.inr (hk.1)), hk.2⟩ | exact (.inr (hk))), zB HB⟩
   ·
    replace c37 := Bool.eq_false_iff.mpr c37
    subst c37
    have H1 : ((leap_fits.f k a0_0 a0_1 t232 t233 t234 t235 t238).bind fun t253 => (if t253 = true then (some (t232, t233, t234, t235, t238, t241, false, 0)) else (some (0, 0, 0, ([] : List (S62)), ([] : List (S62)), 0, false, 4)))) = some (r1, r2, r3, r4, r5, r6, r7, r8) := by rw [if_neg (show ¬ (false = true) by decide)] at H; exact H
    clear H
    have H := H1
    clear H1
    replace H := Option.bind_eq_some_iff.mp H
    obtain ⟨t253, A490, H⟩ := H
    replace H : (if t253 = true then (some (t232, t233, t234, t235, t238, t241, false, 0)) else (some (0, 0, 0, ([] : List (S62)), ([] : List (S62)), 0, false, 4))) = some (r1, r2, r3, r4, r5, r6, r7, r8) := H
    have A49 := Aside0.mk A490
    clear A490
    have HC50 := Aside0.mk H
    clear H
    have hnb51 := NB228_229.out
    have hnc51 := NB229_228.out
    have hnb52 := NB228_230.out
    have hnc52 := NB230_228.out
    have hnb53 := NB228_243.out
    have hnc53 := NB243_228.out
    have hz54 := zc3 BK228
    have hnb55 := NB243_229.out
    have hnc55 := NB229_243.out
    have hnb56 := NB243_230.out
    have hnc56 := NB230_243.out
    have hz57 := zc5 BK243
    go_upto_if 36 with (first | ((with_reducible refine gate_callee (f := 26) rfl ?_); refine goesL_ (some 35) rfl rfl Try.func26 (by kernel_rfl) rfl #[.int .i64 a0_0, .int .i64 a0_1, .agg #[.int .i64 t232, .int .i64 t233, .int .i64 t234, .slice Ao34 t235.length co34, .slice Ao35 t238.length co35]] rfl (zm) ?_; (with_reducible refine (leap_fits.calls k a0_0 a0_1 t232 t233 t234 _ _ t235 _ _ t238 t253 _ ?side1 ?side2 ?side3 ?side4 A49.out).mono ?_); (case side1 => exact zC ((Kd.V_reads' HO237.out).2.2)); (case side2 => exact (Kd.V_reads' HO237.out).2.1); (case side3 => exact zC ((Kd.V_reads' HO240.out).2.2)); (case side4 => exact (Kd.V_reads' HO240.out).2.1); rintro e w58 ⟨rfl, hb⟩; refine ⟨_, rfl, ?_⟩; replace HO1_3 := Aside0.mk (zVb HO1_3 hb); replace HO1_4 := Aside0.mk (zVb HO1_4 hb); replace HO237 := Aside0.mk (zVb HO237 hb); replace HO240 := Aside0.mk (zVb HO240 hb); replace BK228 := Aside0.mk (zb BK228 hb); replace BK229 := Aside0.mk (zb BK229 hb); replace BK230 := Aside0.mk (zb BK230 hb); replace BK243 := Aside0.mk (zb BK243 hb); replace HB := Aside0.mk (below_step (zB HB) hb); (try clear hb); (try clear hb2); (try clear hk); (try clear hi)))
    (try simp only [Act.put, zs, zs0, zs1])
    have H := HC50.out
    clear HC50
    by_cases c59 : t253 = true
    ·
     subst c59
     have H1 : (some (t232, t233, t234, t235, t238, t241, false, 0)) = some (r1, r2, r3, r4, r5, r6, r7, r8) := by rw [if_pos rfl] at H; exact H
     clear H
     have H := H1
     clear H1
     simp only [Option.some.injEq, Prod.mk.injEq] at H
     obtain ⟨rfl, rfl, rfl, rfl, rfl, rfl, rfl, rfl⟩ := H
     have hnb60 := NB243_228.out
     have hnc60 := NB228_243.out
     have hnb61 := NB243_229.out
     have hnc61 := NB229_243.out
     have hnb62 := NB243_230.out
     have hnc62 := NB230_243.out
     have hz63 := zc5 BK243
     have hnb64 := NB230_228.out
     have hnc64 := NB228_230.out
     have hnb65 := NB230_229.out
     have hnc65 := NB229_230.out
     have hz66 := zc5 BK230
     go_wp2
     refine bodyPost_ret (results_list (rs := [.cell 4 27, .tmp 5, .tmp 6, .tmp 7]) rfl (by simp) (.cell gb230 27 #[.int .i64 t232, .int .i64 t233, .int .i64 t234, .slice Ao34 t235.length co34, .slice Ao35 t238.length co35] (0, 0) _ rfl (by (with_reducible repeat (first | refine blk_drewN ?_ _ | refine blk_drew ?_ | refine blk_alloc ?_ _)); refine blk_put (cs := #[.int .i64 t232, .int .i64 t233, .int .i64 t234, .slice Ao34 t235.length co34, .slice none 0 0]) ?_ 4 _ rfl; (with_reducible repeat (first | refine blk_drewN ?_ _ | refine blk_drew ?_ | refine blk_alloc ?_ _)); refine blk_put (cs := #[.int .i64 t232, .int .i64 t233, .int .i64 t234, .slice none 0 0, .slice none 0 0]) ?_ 3 _ rfl; (with_reducible repeat (first | refine blk_drewN ?_ _ | refine blk_drew ?_ | refine blk_alloc ?_ _)); refine blk_put (cs := #[.int .i64 t232, .int .i64 t233, .int .i64 0, .slice none 0 0, .slice none 0 0]) ?_ 2 _ rfl; (with_reducible repeat (first | refine blk_drewN ?_ _ | refine blk_drew ?_ | refine blk_alloc ?_ _)); refine blk_put (cs := #[.int .i64 t232, .int .i64 0, .int .i64 0, .slice none 0 0, .slice none 0 0]) ?_ 1 _ rfl; (with_reducible repeat (first | refine blk_drewN ?_ _ | refine blk_drew ?_ | refine blk_alloc ?_ _)); refine blk_put (cs := #[.int .i64 0, .int .i64 0, .int .i64 0, .slice none 0 0, .slice none 0 0]) ?_ 0 _ rfl; (with_reducible repeat (first | refine blk_drewN ?_ _ | refine blk_drew ?_ | refine blk_alloc ?_ _)); exact BK230.out) Try.underlying27 rfl (by kernel_rfl) (.tmp (.tmp (.tmp .nil))))) rfl ?_
     exact ⟨_, _, by first | rfl | (simp [errW_none, errW_some] <;> rfl) | (simp [*, errW_none, errW_some] <;> rfl), by (with_reducible repeat (first | apply Kd.V_alloc | apply Kd.V_drewN | apply Kd.V_drew)); exact Kd.V_mono (zVf5 (g := gb230) (Kd.V_mono HO237.out (fun k_ hk => (⟨hk, hk.2.2.2.1⟩ : _ ∧ k_ ≠ gb230)))) (fun _ hk => hk.1.1), by (with_reducible repeat (first | apply Kd.V_alloc | apply Kd.V_drewN | apply Kd.V_drew)); exact Kd.V_mono (zVf5 (g := gb230) (Kd.V_mono HO240.out (fun k_ hk => (⟨hk, hk.2.2.2.1⟩ : _ ∧ k_ ≠ gb230)))) (fun _ hk => hk.1.1), zB HB⟩
    ·
     replace c59 := Bool.eq_false_iff.mpr c59
     subst c59
     have H1 : (some (0, 0, 0, ([] : List (S62)), ([] : List (S62)), 0, false, 4)) = some (r1, r2, r3, r4, r5, r6, r7, r8) := by rw [if_neg (show ¬ (false = true) by decide)] at H; exact H
     clear H
     have H := H1
     clear H1
     simp only [Option.some.injEq, Prod.mk.injEq] at H
     obtain ⟨rfl, rfl, rfl, rfl, rfl, rfl, rfl, rfl⟩ := H
     have hnb67 := NB230_228.out
     have hnc67 := NB228_230.out
     have hnb68 := NB230_229.out
     have hnc68 := NB229_230.out
     have hnb69 := NB230_243.out
     have hnc69 := NB243_230.out
     have hz70 := zc5 BK230
     go_wp2
     refine bodyPost_ret (results_list (rs := [.cell 4 27, .tmp 5, .tmp 6, .tmp 7]) rfl (by simp) (.cell gb230 27 #[.int .i64 0, .int .i64 0, .int .i64 0, .slice none 0 0, .slice none 0 0] (0, 0) _ rfl (by (with_reducible repeat (first | refine blk_drewN ?_ _ | refine blk_drew ?_ | refine blk_alloc ?_ _)); refine blk_put (cs := #[.int .i64 0, .int .i64 0, .int .i64 0, .slice none 0 0, .slice none 0 0]) ?_ 4 _ rfl; (with_reducible repeat (first | refine blk_drewN ?_ _ | refine blk_drew ?_ | refine blk_alloc ?_ _)); refine blk_put (cs := #[.int .i64 0, .int .i64 0, .int .i64 0, .slice none 0 0, .slice none 0 0]) ?_ 3 _ rfl; (with_reducible repeat (first | refine blk_drewN ?_ _ | refine blk_drew ?_ | refine blk_alloc ?_ _)); refine blk_put (cs := #[.int .i64 0, .int .i64 0, .int .i64 0, .slice none 0 0, .slice none 0 0]) ?_ 2 _ rfl; (with_reducible repeat (first | refine blk_drewN ?_ _ | refine blk_drew ?_ | refine blk_alloc ?_ _)); refine blk_put (cs := #[.int .i64 0, .int .i64 0, .int .i64 0, .slice none 0 0, .slice none 0 0]) ?_ 1 _ rfl; (with_reducible repeat (first | refine blk_drewN ?_ _ | refine blk_drew ?_ | refine blk_alloc ?_ _)); refine blk_put (cs := #[.int .i64 0, .int .i64 0, .int .i64 0, .slice none 0 0, .slice none 0 0]) ?_ 0 _ rfl; (with_reducible repeat (first | refine blk_drewN ?_ _ | refine blk_drew ?_ | refine blk_alloc ?_ _)); exact BK230.out) Try.underlying27 rfl (by kernel_rfl) (.tmp (.tmp (.tmp .nil))))) rfl ?_
     exact ⟨_, _, by first | rfl | (simp [errW_none, errW_some] <;> rfl) | (simp [*, errW_none, errW_some] <;> rfl), by first | exact Kd.R_nil _ _ _ _ _ | exact Kd.N_nil _ _ _ _ _ | exact Kd.V_nil _ _ _ _ _ | exact Kd.Q_nil _ _ _ _ _ | exact Kd.S_nil _ _ _ _ _, by first | exact Kd.R_nil _ _ _ _ _ | exact Kd.N_nil _ _ _ _ _ | exact Kd.V_nil _ _ _ _ _ | exact Kd.Q_nil _ _ _ _ _ | exact Kd.S_nil _ _ _ _ _, zB HB⟩
 ·
  replace c14 := Bool.eq_false_iff.mpr c14
  subst c14
  have H1 : (some (0, 0, 0, ([] : List (S62)), ([] : List (S62)), 0, false, 1)) = some (r1, r2, r3, r4, r5, r6, r7, r8) := by rw [if_neg (show ¬ (false = true) by decide)] at H; exact H
  clear H
  have H := H1
  clear H1
  simp only [Option.some.injEq, Prod.mk.injEq] at H
  obtain ⟨rfl, rfl, rfl, rfl, rfl, rfl, rfl, rfl⟩ := H
  have hnb71 := NB230_228.out
  have hnc71 := NB228_230.out
  have hnb72 := NB230_229.out
  have hnc72 := NB229_230.out
  have hz73 := zc5 BK230
  go_wp2
  refine bodyPost_ret (results_list (rs := [.cell 4 27, .tmp 5, .tmp 6, .tmp 7]) rfl (by simp) (.cell gb230 27 #[.int .i64 0, .int .i64 0, .int .i64 0, .slice none 0 0, .slice none 0 0] (0, 0) _ rfl (by (with_reducible repeat (first | refine blk_drewN ?_ _ | refine blk_drew ?_ | refine blk_alloc ?_ _)); refine blk_put (cs := #[.int .i64 0, .int .i64 0, .int .i64 0, .slice none 0 0, .slice none 0 0]) ?_ 4 _ rfl; (with_reducible repeat (first | refine blk_drewN ?_ _ | refine blk_drew ?_ | refine blk_alloc ?_ _)); refine blk_put (cs := #[.int .i64 0, .int .i64 0, .int .i64 0, .slice none 0 0, .slice none 0 0]) ?_ 3 _ rfl; (with_reducible repeat (first | refine blk_drewN ?_ _ | refine blk_drew ?_ | refine blk_alloc ?_ _)); refine blk_put (cs := #[.int .i64 0, .int .i64 0, .int .i64 0, .slice none 0 0, .slice none 0 0]) ?_ 2 _ rfl; (with_reducible repeat (first | refine blk_drewN ?_ _ | refine blk_drew ?_ | refine blk_alloc ?_ _)); refine blk_put (cs := #[.int .i64 0, .int .i64 0, .int .i64 0, .slice none 0 0, .slice none 0 0]) ?_ 1 _ rfl; (with_reducible repeat (first | refine blk_drewN ?_ _ | refine blk_drew ?_ | refine blk_alloc ?_ _)); refine blk_put (cs := #[.int .i64 0, .int .i64 0, .int .i64 0, .slice none 0 0, .slice none 0 0]) ?_ 0 _ rfl; (with_reducible repeat (first | refine blk_drewN ?_ _ | refine blk_drew ?_ | refine blk_alloc ?_ _)); exact BK230.out) Try.underlying27 rfl (by kernel_rfl) (.tmp (.tmp (.tmp .nil))))) rfl ?_
  exact ⟨_, _, by first | rfl | (simp [errW_none, errW_some] <;> rfl) | (simp [*, errW_none, errW_some] <;> rfl), by first | exact Kd.R_nil _ _ _ _ _ | exact Kd.N_nil _ _ _ _ _ | exact Kd.V_nil _ _ _ _ _ | exact Kd.Q_nil _ _ _ _ _ | exact Kd.S_nil _ _ _ _ _, by first | exact Kd.R_nil _ _ _ _ _ | exact Kd.N_nil _ _ _ _ _ | exact Kd.V_nil _ _ _ _ _ | exact Kd.Q_nil _ _ _ _ _ | exact Kd.S_nil _ _ _ _ _, zB HB⟩

/-! ### standstillref04_SameRuns: function 27 -/
def standstillref04_SameRuns.l0 : Nat → List (S62) → List (S62) → Int → Option (Bool)
 | 0, _, _, _ => none
 | k + 1, x0, x1, x5 => if x5 < (x0.length : Int) then (if 0 ≤ x5 then (if x5 < (x1.length : Int) then (if (!(((rd_T62 x0 x5).f0) == ((rd_T62 x1 x5).f0)) || (!(((rd_T62 x0 x5).f1) == ((rd_T62 x1 x5).f1)))) = true then (some false) else (standstillref04_SameRuns.l0 k x0 x1 (wrap64 (x5 + 1)))) else (none)) else (none)) else (some true)
def standstillref04_SameRuns.f (k : Nat) (l0 : List (S62)) (l1 : List (S62)) : Option (Bool) := if (l0.length : Int) = (l1.length : Int) then (standstillref04_SameRuns.l0 k l0 l1 0) else (some false)
theorem standstillref04_SameRuns.mono_l : ∀ k, (∀ y0 y1 y2, LeO (standstillref04_SameRuns.l0 k y0 y1 y2) (standstillref04_SameRuns.l0 (k + 1) y0 y1 y2))
 | 0 => fun _ _ _ r h => by simp [standstillref04_SameRuns.l0] at h
 | k + 1 => by
  have ih0 := standstillref04_SameRuns.mono_l k
  ·
   intro y0 y1 y2
   unfold standstillref04_SameRuns.l0
   repeat' first
   | (with_reducible exact ih0 _ _ _)
   | (with_reducible exact LeO.refl _)
   | (with_reducible exact LeO.none _)
   | (with_reducible refine LeO.ite ?_ ?_)
   | (with_reducible refine LeO.bind ?_ (fun _ => ?_))
   | exact ih0 _ _ _
   | exact LeO.none _
   | refine LeO.ite ?_ ?_
   | refine LeO.bind ?_ (fun _ => ?_)
theorem standstillref04_SameRuns.mono : ∀ a0 a1 k, LeO (standstillref04_SameRuns.f k a0 a1) (standstillref04_SameRuns.f (k + 1) a0 a1) := by
 intro a0 a1 k
 have ih0 := standstillref04_SameRuns.mono_l k
 unfold standstillref04_SameRuns.f
 repeat' first
   | (with_reducible exact ih0 _ _ _)
   | (with_reducible exact LeO.refl _)
   | (with_reducible exact LeO.none _)
   | (with_reducible refine LeO.ite ?_ ?_)
   | (with_reducible refine LeO.bind ?_ (fun _ => ?_))
   | exact ih0 _ _ _
   | exact LeO.none _
   | refine LeO.ite ?_ ?_
   | refine LeO.bind ?_ (fun _ => ?_)
set_option maxHeartbeats 8000000 in
set_option maxRecDepth 100000 in
theorem standstillref04_SameRuns.calls (k : Nat) (A0 : Option Addr) (c0 : Nat) (l0 : List (S62)) (A1 : Option Addr) (c1 : Nat) (l1 : List (S62)) (r : Bool) (w : World) (hr0 : Kd.C k62 w A0 l0.length l0) (hc0 : l0.length ≤ c0) (hr1 : Kd.C k62 w A1 l1.length l1) (hc1 : l1.length ≤ c1) (h : standstillref04_SameRuns.f k l0 l1 = some r) :
  Calls Try.prog 27 #[.slice A0 l0.length c0, .slice A1 l1.length c1] w fun e w' => e = .returned (.bool r) ∧ Drawn0 w w' := by
 have hu62 := Try.underlying62
 have HR0 := Aside0.mk hr0
 have HC0 := Aside0.mk hc0
 clear hr0 hc0
 have HR1 := Aside0.mk hr1
 have HC1 := Aside0.mk hc1
 clear hr1 hc1
 have H : (if (l0.length : Int) = (l1.length : Int) then (standstillref04_SameRuns.l0 k l0 l1 0) else (some false)) = some r := h
 clear h
 by_cases c3 : (l0.length : Int) = (l1.length : Int)
 ·
  rw [if_pos c3] at H
  have c3b0 : ((l0.length : Int) == (l1.length : Int)) = true := beq_iff_eq.mpr c3
  have c3b1 : ((l0.length : Int) != (l1.length : Int)) = false := bne_eq_false_iff_eq.mpr c3
  have c3b2 : (l0.length == l1.length) = true := by first | simpa using c3 | (simp at c3 ⊢; omega)
  clear c3
  have H' := Aside0.mk H
  clear H
  go_enter Try.func27, Try.ntmps27
  go_wp2
  repeat (go_quiet (fail); try go_wp2)
  go_loopg [5] k (fun kq v5 w' => ∃ (x5_1 : Int), v5 = .int .i64 x5_1 ∧ Aside0 (standstillref04_SameRuns.l0 kq l0 l1 x5_1 = some r) ∧ Aside0 (kq ≤ k) ∧ Drawn0 w w')
  case atStart => exact ⟨(0), (by first | rfl | (simp; done) | (simp [*]; done)), H', ⟨Nat.le_refl _⟩, by repeat (first | exact Drawn0.refl _ | apply Drawn0.step)⟩
  case round =>
   clear H'
   try clear c1
   try clear c2
   try clear p2
   try clear c3
   try clear c3b0
   try clear c3b1
   try clear c3b2
   obtain ⟨x5_1, rfl, HA, HK1, ⟨m1, rfl⟩⟩ := hrel
   cases gk with
   | zero => exact absurd HA.out (by simp [standstillref04_SameRuns.l0])
   | succ k1 =>
    have H := HA.out
    clear HA
    simp only [standstillref04_SameRuns.l0] at H
    by_cases c4 : x5_1 < (l0.length : Int)
    ·
     rw [if_pos c4] at H
     have c4b0 : decide (x5_1 < (l0.length : Int)) = true := decide_eq_true c4
     clear c4
     by_cases c5 : 0 ≤ x5_1
     ·
      rw [if_pos c5] at H
      have c5b0 : decide (0 ≤ x5_1) = true := decide_eq_true c5
      clear c5
      by_cases c6 : x5_1 < (l1.length : Int)
      ·
       rw [if_pos c6] at H
       have c6b0 : decide (x5_1 < (l1.length : Int)) = true := decide_eq_true c6
       clear c6
       by_cases c7 : (!(((rd_T62 l0 x5_1).f0) == ((rd_T62 l1 x5_1).f0)) || (!(((rd_T62 l0 x5_1).f1) == ((rd_T62 l1 x5_1).f1)))) = true
       ·
        rw [if_pos c7] at H
        have c7b0 : (!(((rd_T62 l0 x5_1).f0) == ((rd_T62 l1 x5_1).f0)) || (!(((rd_T62 l0 x5_1).f1) == ((rd_T62 l1 x5_1).f1)))) = true := c7
        clear c7
        obtain rfl := Option.some.inj H
        have p254 : 0 ≤ (x5_1 : Int) := of_decide_eq_true (by first | (with_reducible assumption) | assumption)
        have q254 : x5_1 < (l0.length : Int) := of_decide_eq_true (by first | (with_reducible assumption) | assumption)
        obtain ⟨ad254, e254, hx254_0, hx254_1⟩ := at_T62 HR0.out x5_1 p254 q254
        cases e254
        replace p254 := eq_true p254
        replace q254 := eq_true q254
        have p255 : 0 ≤ (x5_1 : Int) := of_decide_eq_true (by first | (with_reducible assumption) | assumption)
        have q255 : x5_1 < (l1.length : Int) := of_decide_eq_true (by first | (with_reducible assumption) | assumption)
        obtain ⟨ad255, e255, hx255_0, hx255_1⟩ := at_T62 HR1.out x5_1 p255 q255
        cases e255
        replace p255 := eq_true p255
        replace q255 := eq_true q255
        go_wp2
        repeat (go_quiet (fail); try go_wp2)
        go_ret
        exact ⟨by first | rfl | (simp; done) | (simp [*]; done), by repeat (first | exact Drawn0.refl _ | apply Drawn0.step)⟩
       ·
        rw [if_neg c7] at H
        have c7b0 : (!(((rd_T62 l0 x5_1).f0) == ((rd_T62 l1 x5_1).f0)) || (!(((rd_T62 l0 x5_1).f1) == ((rd_T62 l1 x5_1).f1)))) = false := by simpa using c7
        clear c7
        have H' := Aside0.mk H
        clear H
        have p254 : 0 ≤ (x5_1 : Int) := of_decide_eq_true (by first | (with_reducible assumption) | assumption)
        have q254 : x5_1 < (l0.length : Int) := of_decide_eq_true (by first | (with_reducible assumption) | assumption)
        obtain ⟨ad254, e254, hx254_0, hx254_1⟩ := at_T62 HR0.out x5_1 p254 q254
        cases e254
        replace p254 := eq_true p254
        replace q254 := eq_true q254
        have p255 : 0 ≤ (x5_1 : Int) := of_decide_eq_true (by first | (with_reducible assumption) | assumption)
        have q255 : x5_1 < (l1.length : Int) := of_decide_eq_true (by first | (with_reducible assumption) | assumption)
        obtain ⟨ad255, e255, hx255_0, hx255_1⟩ := at_T62 HR1.out x5_1 p255 q255
        cases e255
        replace p255 := eq_true p255
        replace q255 := eq_true q255
        go_wp2
        repeat (go_quiet (fail); try go_wp2)
        go_roundg k1
        case measure => have := HK1.out; omega
        case rel => exact ⟨(wrap64 (x5_1 + 1)), (by first | rfl | (simp; done) | (simp [*]; done)), H', ⟨by have := HK1.out; omega⟩, by repeat (first | exact Drawn0.refl _ | apply Drawn0.step)⟩
      ·
       rw [if_neg c6] at H
       exact absurd H (by simp)
     ·
      rw [if_neg c5] at H
      exact absurd H (by simp)
    ·
     rw [if_neg c4] at H
     have c4b0 : decide (x5_1 < (l0.length : Int)) = false := decide_eq_false c4
     clear c4
     obtain rfl := Option.some.inj H
     go_wp2
     repeat (go_quiet (fail); try go_wp2)
     go_ret
     exact ⟨by first | rfl | (simp; done) | (simp [*]; done), by repeat (first | exact Drawn0.refl _ | apply Drawn0.step)⟩
 ·
  rw [if_neg c3] at H
  have c3b0 : ((l0.length : Int) == (l1.length : Int)) = false := beq_eq_false_iff_ne.mpr c3
  have c3b1 : ((l0.length : Int) != (l1.length : Int)) = true := bne_iff_ne.mpr c3
  have c3b2 : (l0.length == l1.length) = false := by first | simpa using c3 | (simp at c3 ⊢; omega)
  obtain rfl := Option.some.inj H
  go_enter Try.func27, Try.ntmps27
  go_wp2
  repeat (go_quiet (fail); try go_wp2)
  go_ret
  exact ⟨by first | rfl | (simp; done) | (simp [*]; done), by repeat (first | exact Drawn0.refl _ | apply Drawn0.step)⟩

/-! ### standstillref04_Same: function 13 -/
def standstillref04_Same.f (k : Nat) (a0_0 : Int) (a0_1 : Int) (a0_2 : Int) (l0_3 : List (S62)) (l0_4 : List (S62)) (a1_0 : Int) (a1_1 : Int) (a1_2 : Int) (l1_3 : List (S62)) (l1_4 : List (S62)) : Option (Bool) := if a0_0 = a1_0 then (if a0_1 = a1_1 then (if a0_2 = a1_2 then ((standstillref04_SameRuns.f k l0_3 l1_3).bind fun t258 => (if t258 = true then ((standstillref04_SameRuns.f k l0_4 l1_4).bind fun t259 => (some t259)) else (some false))) else (some false)) else (some false)) else (some false)
theorem standstillref04_Same.mono : ∀ a0 a1 a2 a3 a4 a5 a6 a7 a8 a9 k, LeO (standstillref04_Same.f k a0 a1 a2 a3 a4 a5 a6 a7 a8 a9) (standstillref04_Same.f (k + 1) a0 a1 a2 a3 a4 a5 a6 a7 a8 a9) := by
 intro a0 a1 a2 a3 a4 a5 a6 a7 a8 a9 k
 unfold standstillref04_Same.f
 repeat' first
   | (with_reducible exact standstillref04_SameRuns.mono _ _ _)
   | (with_reducible exact LeO.refl _)
   | (with_reducible exact LeO.none _)
   | (with_reducible refine LeO.ite ?_ ?_)
   | (with_reducible refine LeO.bind ?_ (fun _ => ?_))
   | exact standstillref04_SameRuns.mono _ _ _
   | exact LeO.none _
   | refine LeO.ite ?_ ?_
   | refine LeO.bind ?_ (fun _ => ?_)
set_option maxHeartbeats 8000000 in
set_option maxRecDepth 100000 in
theorem standstillref04_Same.calls (k : Nat) (a0_0 : Int) (a0_1 : Int) (a0_2 : Int) (A0_3 : Option Addr) (c0_3 : Nat) (l0_3 : List (S62)) (A0_4 : Option Addr) (c0_4 : Nat) (l0_4 : List (S62)) (a1_0 : Int) (a1_1 : Int) (a1_2 : Int) (A1_3 : Option Addr) (c1_3 : Nat) (l1_3 : List (S62)) (A1_4 : Option Addr) (c1_4 : Nat) (l1_4 : List (S62)) (r : Bool) (w : World) (hr0_3 : Kd.C k62 w A0_3 l0_3.length l0_3) (hc0_3 : l0_3.length ≤ c0_3) (hr0_4 : Kd.C k62 w A0_4 l0_4.length l0_4) (hc0_4 : l0_4.length ≤ c0_4) (hr1_3 : Kd.C k62 w A1_3 l1_3.length l1_3) (hc1_3 : l1_3.length ≤ c1_3) (hr1_4 : Kd.C k62 w A1_4 l1_4.length l1_4) (hc1_4 : l1_4.length ≤ c1_4) (h : standstillref04_Same.f k a0_0 a0_1 a0_2 l0_3 l0_4 a1_0 a1_1 a1_2 l1_3 l1_4 = some r) :
  Calls Try.prog 13 #[.agg #[.int .i64 a0_0, .int .i64 a0_1, .int .i64 a0_2, .slice A0_3 l0_3.length c0_3, .slice A0_4 l0_4.length c0_4], .agg #[.int .i64 a1_0, .int .i64 a1_1, .int .i64 a1_2, .slice A1_3 l1_3.length c1_3, .slice A1_4 l1_4.length c1_4]] w fun e w' => e = .returned (.bool r) ∧ Below w.heap.size w w' := by
 have hu27 := Try.underlying27
 have HR0_3 := Aside0.mk hr0_3
 have HC0_3 := Aside0.mk hc0_3
 clear hr0_3 hc0_3
 have HR0_4 := Aside0.mk hr0_4
 have HC0_4 := Aside0.mk hc0_4
 clear hr0_4 hc0_4
 have HR1_3 := Aside0.mk hr1_3
 have HC1_3 := Aside0.mk hc1_3
 clear hr1_3 hc1_3
 have HR1_4 := Aside0.mk hr1_4
 have HC1_4 := Aside0.mk hc1_4
 clear hr1_4 hc1_4
 have HB := Aside0.mk (Below.refl w.heap.size w)
 have H : (if a0_0 = a1_0 then (if a0_1 = a1_1 then (if a0_2 = a1_2 then ((standstillref04_SameRuns.f k l0_3 l1_3).bind fun t258 => (if t258 = true then ((standstillref04_SameRuns.f k l0_4 l1_4).bind fun t259 => (some t259)) else (some false))) else (some false)) else (some false)) else (some false)) = some r := h
 clear h
 have HC3 := Aside0.mk H
 clear H
 go_enter Try.func13, Try.ntmps13
 go_upto_region 1 with (first | ((with_reducible refine gate_dst (N := 2) rfl ?_); refine box_event ?hg (N := 2) ?hd (cs := #[.int .i64 a0_0, .int .i64 a0_1, .int .i64 a0_2, .slice A0_3 l0_3.length c0_3, .slice A0_4 l0_4.length c0_4]) (t := 27) ?hr ?_; (case hd => rfl); (case hg => rfl); (case hr => first | (go_simp; done) | (go_simp; rfl)); intro gb256 hg w4 hbox hb; have BK256 := Aside0.mk (hbox); have GW256 := Aside0.mk ((by rw [hg]; exact (below_size (zB HB)) : w.heap.size ≤ gb256)); have GE256 := Aside0.mk ((by rw [hg]; exact (below_size (zB HB)) : w.heap.size ≤ gb256)); replace HB := Aside0.mk (below_step (zB HB) hb); clear hb hbox hg) | ((with_reducible refine gate_dst (N := 3) rfl ?_); refine box_event ?hg (N := 3) ?hd (cs := #[.int .i64 a1_0, .int .i64 a1_1, .int .i64 a1_2, .slice A1_3 l1_3.length c1_3, .slice A1_4 l1_4.length c1_4]) (t := 27) ?hr ?_; (case hd => rfl); (case hg => rfl); (case hr => first | (go_simp; done) | (go_simp; rfl)); intro gb257 hg w5 hbox hb; have BK257 := Aside0.mk (hbox); have GW257 := Aside0.mk ((by rw [hg]; exact (below_size (zB HB)) : w.heap.size ≤ gb257)); have GE257 := Aside0.mk ((by rw [hg]; exact (below_size (zB HB)) : w.heap.size ≤ gb257)); have NB256_257 := Aside0.mk ((by rw [hg]; exact Nat.ne_of_lt (zL BK256) : gb256 ≠ gb257)); have NB257_256 := Aside0.mk ((by rw [hg]; exact Nat.ne_of_gt (zL BK256) : gb257 ≠ gb256)); replace BK256 := Aside0.mk (zb BK256 hb); replace HB := Aside0.mk (below_step (zB HB) hb); clear hb hbox hg))
 (try simp only [Act.put, zs, zs0, zs1])
 have H := HC3.out
 clear HC3
 by_cases c6 : a0_0 = a1_0
 ·
  rw [if_pos c6] at H
  have c6b0 : (a0_0 == a1_0) = true := beq_iff_eq.mpr c6
  have c6b1 : (a0_0 != a1_0) = false := bne_eq_false_iff_eq.mpr c6
  clear c6
  (first | rw [c6b0] | (simp only [i64_w, i32_w]; rw [c6b0]) | skip)
  (try rw [c6b1])
  by_cases c7 : a0_1 = a1_1
  ·
   rw [if_pos c7] at H
   have c7b0 : (a0_1 == a1_1) = true := beq_iff_eq.mpr c7
   have c7b1 : (a0_1 != a1_1) = false := bne_eq_false_iff_eq.mpr c7
   clear c7
   by_cases c8 : a0_2 = a1_2
   ·
    rw [if_pos c8] at H
    have c8b0 : (a0_2 == a1_2) = true := beq_iff_eq.mpr c8
    have c8b1 : (a0_2 != a1_2) = false := bne_eq_false_iff_eq.mpr c8
    clear c8
    replace H := Option.bind_eq_some_iff.mp H
    obtain ⟨t258, A90, H⟩ := H
    replace H : (if t258 = true then ((standstillref04_SameRuns.f k l0_4 l1_4).bind fun t259 => (some t259)) else (some false)) = some r := H
    have A9 := Aside0.mk A90
    clear A90
    by_cases c10 : t258 = true
    ·
     subst c10
     have H1 : ((standstillref04_SameRuns.f k l0_4 l1_4).bind fun t259 => (some t259)) = some r := by rw [if_pos rfl] at H; exact H
     clear H
     have H := H1
     clear H1
     replace H := Option.bind_eq_some_iff.mp H
     obtain ⟨t259, A110, H⟩ := H
     replace H : (some t259) = some r := H
     have A11 := Aside0.mk A110
     clear A110
     obtain rfl := Option.some.inj H
     have hnb12 := NB256_257.out
     have hnc12 := NB257_256.out
     have hz13 := zc5 BK256
     have hz14 := zc5 BK257
     go_wp2_with (first | (go_at_call 27; (with_reducible refine (standstillref04_SameRuns.calls k _ _ l0_3 _ _ l1_3 true _ ?side1 ?side2 ?side3 ?side4 A9.out).mono ?_); (case side1 => exact zC ((Kd.C_below HR0_3.out HB.out))); (case side2 => exact HC0_3.out); (case side3 => exact zC ((Kd.C_below HR1_3.out HB.out))); (case side4 => exact HC1_3.out); rintro e w' ⟨rfl, ⟨nd, rfl⟩⟩) | (go_at_call 27; (with_reducible refine (standstillref04_SameRuns.calls k _ _ l0_4 _ _ l1_4 t259 _ ?side1 ?side2 ?side3 ?side4 A11.out).mono ?_); (case side1 => exact zC ((Kd.C_below HR0_4.out (zB HB)))); (case side2 => exact HC0_4.out); (case side3 => exact zC ((Kd.C_below HR1_4.out (zB HB)))); (case side4 => exact HC1_4.out); rintro e w' ⟨rfl, ⟨nd, rfl⟩⟩))
     go_ret
     exact ⟨by first | rfl | (simp [errW_none, errW_some] <;> rfl) | (simp [*, errW_none, errW_some] <;> rfl), zB HB⟩
    ·
     replace c10 := Bool.eq_false_iff.mpr c10
     subst c10
     have H1 : (some false) = some r := by rw [if_neg (show ¬ (false = true) by decide)] at H; exact H
     clear H
     have H := H1
     clear H1
     obtain rfl := Option.some.inj H
     have hnb15 := NB256_257.out
     have hnc15 := NB257_256.out
     have hz16 := zc5 BK256
     have hz17 := zc5 BK257
     go_wp2_with (first | (go_at_call 27; (with_reducible refine (standstillref04_SameRuns.calls k _ _ l0_3 _ _ l1_3 false _ ?side1 ?side2 ?side3 ?side4 A9.out).mono ?_); (case side1 => exact zC ((Kd.C_below HR0_3.out HB.out))); (case side2 => exact HC0_3.out); (case side3 => exact zC ((Kd.C_below HR1_3.out HB.out))); (case side4 => exact HC1_3.out); rintro e w' ⟨rfl, ⟨nd, rfl⟩⟩))
     go_ret
     exact ⟨by first | rfl | (simp [errW_none, errW_some] <;> rfl) | (simp [*, errW_none, errW_some] <;> rfl), zB HB⟩
   ·
    rw [if_neg c8] at H
    have c8b0 : (a0_2 == a1_2) = false := beq_eq_false_iff_ne.mpr c8
    have c8b1 : (a0_2 != a1_2) = true := bne_iff_ne.mpr c8
    obtain rfl := Option.some.inj H
    have hnb18 := NB256_257.out
    have hnc18 := NB257_256.out
    have hz19 := zc5 BK256
    have hz20 := zc5 BK257
    go_wp2
    go_ret
    exact ⟨by first | rfl | (simp [errW_none, errW_some] <;> rfl) | (simp [*, errW_none, errW_some] <;> rfl), zB HB⟩
  ·
   rw [if_neg c7] at H
   have c7b0 : (a0_1 == a1_1) = false := beq_eq_false_iff_ne.mpr c7
   have c7b1 : (a0_1 != a1_1) = true := bne_iff_ne.mpr c7
   obtain rfl := Option.some.inj H
   have hnb21 := NB256_257.out
   have hnc21 := NB257_256.out
   have hz22 := zc5 BK256
   have hz23 := zc5 BK257
   go_wp2
   go_ret
   exact ⟨by first | rfl | (simp [errW_none, errW_some] <;> rfl) | (simp [*, errW_none, errW_some] <;> rfl), zB HB⟩
 ·
  rw [if_neg c6] at H
  have c6b0 : (a0_0 == a1_0) = false := beq_eq_false_iff_ne.mpr c6
  have c6b1 : (a0_0 != a1_0) = true := bne_iff_ne.mpr c6
  (first | rw [c6b0] | (simp only [i64_w, i32_w]; rw [c6b0]) | skip)
  (try rw [c6b1])
  obtain rfl := Option.some.inj H
  have hnb24 := NB256_257.out
  have hnc24 := NB257_256.out
  have hz25 := zc5 BK256
  have hz26 := zc5 BK257
  go_wp2
  go_ret
  exact ⟨by first | rfl | (simp [errW_none, errW_some] <;> rfl) | (simp [*, errW_none, errW_some] <;> rfl), zB HB⟩

end Go.Proofs.Ytpemcbjdlpajlaa.G1
