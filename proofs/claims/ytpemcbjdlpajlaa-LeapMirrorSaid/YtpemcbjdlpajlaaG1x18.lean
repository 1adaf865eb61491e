/- The functions of one seat as Lean functions, each with its contract: the call of the Go function returns what the Lean function answers. Written by a program of this session out of the translation; contracts made by hand are laid between. -/
import Derived.Test.YtpemcbjdlpajlaaG1x0
import Derived.Test.YtpemcbjdlpajlaaG1x2
import Derived.Test.YtpemcbjdlpajlaaG1x8
import Derived.Test.YtpemcbjdlpajlaaG1x11
import Derived.Test.YtpemcbjdlpajlaaG1x13
import Derived.Test.YtpemcbjdlpajlaaG1x17
namespace Go.Proofs.Ytpemcbjdlpajlaa.G1
open Go.RowKit Go.Proofs.YtpemcbjdlpajlaaW.PrintWords Go.Proofs.YtpemcbjdlpajlaaW.PrintLast Go.Proofs.YtpemcbjdlpajlaaW.PrintMore
attribute [local go_sem] max2_int min2_int max_two min_two max_three min_three max_four min_four   -- for this text's walks alone
set_option linter.unusedVariables false
set_option linter.unusedSimpArgs false

/-! ### standstilllaw04_LeapMirror: function 5 -/
def standstilllaw04_LeapMirror.j0 : Nat → Int → Bool → Int → Int → List (List (S37)) → Int → Int → Int → List (S62) → List (S62) → Option (Bool)
 | 0, _, _, _, _, _, _, _, _, _, _ => none
 | k + 1, x2, x27, x616000, x616001, x616002, x617000, x617001, x617002, x617003, x617004 => if x27 = true then ((standstilllaw04_awake.f k).bind fun t619 => (some t619)) else ((tape_Mirror.f k x616000 x616001 x616002).bind fun bt620 => ((leap_Leaps.f k x616000 x616001 x616002 x617000 x617001 x617002 x617003 x617004 (Int.tmod (wrap64 (x2)) 301)).bind fun bt627 => ((standstilllaw04_mirrored.f x617000 x617001 x617002 x617003 x617004).bind fun bt641 => ((leap_Leaps.f k bt620.1 bt620.2.1 bt620.2.2.1 bt641.1 bt641.2.1 bt641.2.2.1 bt641.2.2.2.1 bt641.2.2.2.2 (Int.tmod (wrap64 (x2)) 301)).bind fun bt650 => (if bt620.2.2.2 = 0 then (if bt627.2.2.2.2.2.2.2.2 = bt650.2.2.2.2.2.2.2.2 then (if bt627.2.2.2.2.2.1 = bt650.2.2.2.2.2.1 then (if bt627.2.2.2.2.2.2.1 = bt650.2.2.2.2.2.2.1 then (if (bt627.2.2.2.2.2.2.2.1 == bt650.2.2.2.2.2.2.2.1) = true then (if bt627.2.2.2.2.2.2.2.2 = 0 then ((standstilllaw04_mirrored.f bt627.1 bt627.2.1 bt627.2.2.1 bt627.2.2.2.1 bt627.2.2.2.2.1).bind fun bt664 => ((standstillref04_Same.f k bt650.1 bt650.2.1 bt650.2.2.1 bt650.2.2.2.1 bt650.2.2.2.2.1 bt664.1 bt664.2.1 bt664.2.2.1 bt664.2.2.2.1 bt664.2.2.2.2).bind fun t673 => (if t673 = true then ((standstilllaw04_awake.f k).bind fun t674 => (some t674)) else (some false)))) else ((standstilllaw04_awake.f k).bind fun t675 => (some t675))) else (some false)) else (some false)) else (some false)) else (some false)) else (some false))))))
def standstilllaw04_LeapMirror.f (k : Nat) (a0_0 : Int) (a0_1 : Int) (l0_2 : List (List (S37))) (a1_0 : Int) (a1_1 : Int) (a1_2 : Int) (l1_3 : List (S62)) (l1_4 : List (S62)) (a2 : Int) : Option (Bool) := (standstilllaw04_wide.f k a0_0 a0_1 l0_2 0 0 0 ([] : List Int) a1_0 a1_1 a1_2 l1_3 l1_4).bind fun t617 => (if t617 = true then (standstilllaw04_LeapMirror.j0 k a2 true a0_0 a0_1 l0_2 a1_0 a1_1 a1_2 l1_3 l1_4) else ((standstillref01_Valid.f k a0_0 a0_1 l0_2).bind fun t618 => (standstilllaw04_LeapMirror.j0 k a2 (!t618) a0_0 a0_1 l0_2 a1_0 a1_1 a1_2 l1_3 l1_4)))
theorem standstilllaw04_LeapMirror.mono_l : ∀ k, (∀ y0 y1 y2 y3 y4 y5 y6 y7 y8 y9, LeO (standstilllaw04_LeapMirror.j0 k y0 y1 y2 y3 y4 y5 y6 y7 y8 y9) (standstilllaw04_LeapMirror.j0 (k + 1) y0 y1 y2 y3 y4 y5 y6 y7 y8 y9))
 | 0 => fun _ _ _ _ _ _ _ _ _ _ r h => by simp [standstilllaw04_LeapMirror.j0] at h
 | k + 1 => by
  have ih0 := standstilllaw04_LeapMirror.mono_l k
  ·
   intro y0 y1 y2 y3 y4 y5 y6 y7 y8 y9
   unfold standstilllaw04_LeapMirror.j0
   repeat' first
   | (with_reducible exact ih0 _ _ _ _ _ _ _ _ _ _)
   | (with_reducible exact leap_Leaps.mono _ _ _ _ _ _ _ _ _ _)
   | (with_reducible exact standstilllaw04_awake.mono _)
   | (with_reducible exact standstilllaw04_wide.mono _ _ _ _ _ _ _ _ _ _ _ _ _)
   | (with_reducible exact standstillref01_Valid.mono _ _ _ _)
   | (with_reducible exact standstillref04_Same.mono _ _ _ _ _ _ _ _ _ _ _)
   | (with_reducible exact tape_Mirror.mono _ _ _ _)
   | (with_reducible exact LeO.refl _)
   | (with_reducible exact LeO.none _)
   | (with_reducible refine LeO.ite ?_ ?_)
   | (with_reducible refine LeO.bind ?_ (fun _ => ?_))
   | exact ih0 _ _ _ _ _ _ _ _ _ _
   | exact leap_Leaps.mono _ _ _ _ _ _ _ _ _ _
   | exact standstilllaw04_awake.mono _
   | exact standstilllaw04_wide.mono _ _ _ _ _ _ _ _ _ _ _ _ _
   | exact standstillref01_Valid.mono _ _ _ _
   | exact standstillref04_Same.mono _ _ _ _ _ _ _ _ _ _ _
   | exact tape_Mirror.mono _ _ _ _
   | exact LeO.none _
   | refine LeO.ite ?_ ?_
   | refine LeO.bind ?_ (fun _ => ?_)
theorem standstilllaw04_LeapMirror.mono : ∀ a0 a1 a2 a3 a4 a5 a6 a7 a8 k, LeO (standstilllaw04_LeapMirror.f k a0 a1 a2 a3 a4 a5 a6 a7 a8) (standstilllaw04_LeapMirror.f (k + 1) a0 a1 a2 a3 a4 a5 a6 a7 a8) := by
 intro a0 a1 a2 a3 a4 a5 a6 a7 a8 k
 have ih0 := standstilllaw04_LeapMirror.mono_l k
 unfold standstilllaw04_LeapMirror.f
 repeat' first
   | (with_reducible exact ih0 _ _ _ _ _ _ _ _ _ _)
   | (with_reducible exact leap_Leaps.mono _ _ _ _ _ _ _ _ _ _)
   | (with_reducible exact standstilllaw04_awake.mono _)
   | (with_reducible exact standstilllaw04_wide.mono _ _ _ _ _ _ _ _ _ _ _ _ _)
   | (with_reducible exact standstillref01_Valid.mono _ _ _ _)
   | (with_reducible exact standstillref04_Same.mono _ _ _ _ _ _ _ _ _ _ _)
   | (with_reducible exact tape_Mirror.mono _ _ _ _)
   | (with_reducible exact LeO.refl _)
   | (with_reducible exact LeO.none _)
   | (with_reducible refine LeO.ite ?_ ?_)
   | (with_reducible refine LeO.bind ?_ (fun _ => ?_))
   | exact ih0 _ _ _ _ _ _ _ _ _ _
   | exact leap_Leaps.mono _ _ _ _ _ _ _ _ _ _
   | exact standstilllaw04_awake.mono _
   | exact standstilllaw04_wide.mono _ _ _ _ _ _ _ _ _ _ _ _ _
   | exact standstillref01_Valid.mono _ _ _ _
   | exact standstillref04_Same.mono _ _ _ _ _ _ _ _ _ _ _
   | exact tape_Mirror.mono _ _ _ _
   | exact LeO.none _
   | refine LeO.ite ?_ ?_
   | refine LeO.bind ?_ (fun _ => ?_)
def standstilllaw04_LeapMirror.T5 : Bool × List (List Nat × List Nat) := (true, [([], []), ([], []), ([1], [1]), ([], []), ([3], [3]), ([4], [4]), ([0, 2, 5, 2], [0, 2, 5]), ([6], [6]), ([7], [7]), ([7], [7]), ([7], [7]), ([7], [7]), ([7], [7]), ([], []), ([13, 8, 6, 0, 1, 2, 3, 4, 5, 6, 7, 8, 13], [8, 13]), ([9, 14, 0, 1, 2, 3, 4, 5, 6, 7, 8, 9, 13, 14], [9]), ([10, 15, 0, 1, 2, 3, 4, 5, 6, 7, 8, 9, 10, 13, 14, 15], [10]), ([11, 16, 0, 1, 2, 3, 4, 5, 6, 7, 8, 9, 10, 11, 13, 14, 15, 16], [11]), ([12, 17, 0, 1, 2, 3, 4, 5, 6, 7, 8, 9, 10, 11, 12, 13, 14, 15, 16, 17], [12])])
def standstilllaw04_LeapMirror.B5 : List Nat := [0, 0, 2, 0, 8, 24, 63, 127, 255, 255, 255, 255, 255, 0, 8703, 25599, 59391, 126975, 262143]
theorem standstilllaw04_LeapMirror.tab5 : rtab .any (opsOf Try.f5 5) = standstilllaw04_LeapMirror.T5 := by kernel_rfl
theorem standstilllaw04_LeapMirror.bits5 : waitsOk standstilllaw04_LeapMirror.T5.2 standstilllaw04_LeapMirror.B5 = true := by kernel_rfl
def standstilllaw04_LeapMirror.T6 : Bool × List (List Nat × List Nat) := (true, [([], []), ([0], [0]), ([1], [1]), ([2], [2]), ([2], [2]), ([3, 4, 2], [2, 3, 4]), ([2, 5], [2, 5]), ([6, 2], [6]), ([7], [7]), ([7], [7]), ([8, 9, 7], [7, 8, 9]), ([7, 10], [7, 10]), ([11, 7], [11]), ([12], [12]), ([12], [12]), ([13, 14, 12], [12, 13, 14]), ([12, 15], [12, 15]), ([16, 12], [16]), ([17], [17]), ([17], [17]), ([18, 19, 17], [17, 18, 19]), ([17, 20], [17, 20]), ([21, 17], [21]), ([22], [22]), ([23, 22], [22, 23]), ([24, 22, 22], [22, 24]), ([25], [25]), ([25], [25]), ([27, 25, 25], [25, 27]), ([26, 28, 28, 25], [25, 26, 28]), ([25, 29, 22], [22, 25, 29]), ([22, 30], [22, 30]), ([31, 29], [31]), ([32, 32], [32]), ([32, 33], [32, 33]), ([34, 33, 0, 1, 2, 3, 4, 5, 6, 7, 8, 9, 10, 11, 12, 13, 14, 15, 16, 17, 18, 19, 20, 21, 22, 23, 24, 25, 26, 27, 28, 29, 30, 31, 32, 33, 34], [34])])
def standstilllaw04_LeapMirror.B6 : List Nat := [0, 1, 3, 7, 7, 31, 63, 127, 255, 255, 1023, 2047, 4095, 8191, 8191, 32767, 65535, 131071, 262143, 262143, 1048575, 2097151, 4194303, 8388607, 16777215, 33554431, 67108863, 67108863, 201326591, 536870911, 1073741823, 2147483647, 4294967295, 8589934591, 17179869183, 34359738367]
theorem standstilllaw04_LeapMirror.tab6 : rtab .any (opsOf Try.f5 6) = standstilllaw04_LeapMirror.T6 := by kernel_rfl
theorem standstilllaw04_LeapMirror.bits6 : waitsOk standstilllaw04_LeapMirror.T6.2 standstilllaw04_LeapMirror.B6 = true := by kernel_rfl
set_option maxHeartbeats 8000000 in
set_option maxRecDepth 100000 in
theorem standstilllaw04_LeapMirror.calls (k : Nat) (a0_0 : Int) (a0_1 : Int) (A0_2 : Option Addr) (c0_2 : Nat) (l0_2 : List (List (S37))) (a1_0 : Int) (a1_1 : Int) (a1_2 : Int) (A1_3 : Option Addr) (c1_3 : Nat) (l1_3 : List (S62)) (A1_4 : Option Addr) (c1_4 : Nat) (l1_4 : List (S62)) (a2 : Int) (r : Bool) (w : World) (hr0_2 : Kd.C (Kd.slice 37 k37) w A0_2 l0_2.length l0_2) (hc0_2 : l0_2.length ≤ c0_2) (hr1_3 : Kd.C k62 w A1_3 l1_3.length l1_3) (hc1_3 : l1_3.length ≤ c1_3) (hr1_4 : Kd.C k62 w A1_4 l1_4.length l1_4) (hc1_4 : l1_4.length ≤ c1_4) (h : standstilllaw04_LeapMirror.f k a0_0 a0_1 l0_2 a1_0 a1_1 a1_2 l1_3 l1_4 a2 = some r) :
  Calls Try.prog 5 #[.agg #[.int .i64 a0_0, .int .i64 a0_1, .slice A0_2 l0_2.length c0_2], .agg #[.int .i64 a1_0, .int .i64 a1_1, .int .i64 a1_2, .slice A1_3 l1_3.length c1_3, .slice A1_4 l1_4.length c1_4], .int .u16 a2] w fun e w' => e = .returned (.bool r) ∧ Below w.heap.size w w' := by
 have hu24 := Try.underlying24
 have hu27 := Try.underlying27
 have hu32 := Try.underlying32
 have HR0_2 := Aside0.mk hr0_2
 have HC0_2 := Aside0.mk hc0_2
 clear hr0_2 hc0_2
 have HR1_3 := Aside0.mk hr1_3
 have HC1_3 := Aside0.mk hc1_3
 clear hr1_3 hc1_3
 have HR1_4 := Aside0.mk hr1_4
 have HC1_4 := Aside0.mk hc1_4
 clear hr1_4 hc1_4
 have HB := Aside0.mk (Below.refl w.heap.size w)
 have H : ((standstilllaw04_wide.f k a0_0 a0_1 l0_2 0 0 0 ([] : List Int) a1_0 a1_1 a1_2 l1_3 l1_4).bind fun t617 => (if t617 = true then (standstilllaw04_LeapMirror.j0 k a2 true a0_0 a0_1 l0_2 a1_0 a1_1 a1_2 l1_3 l1_4) else ((standstillref01_Valid.f k a0_0 a0_1 l0_2).bind fun t618 => (standstilllaw04_LeapMirror.j0 k a2 (!t618) a0_0 a0_1 l0_2 a1_0 a1_1 a1_2 l1_3 l1_4)))) = some r := h
 clear h
 have HC4 := Aside0.mk H
 clear H
 go_enter Try.func5, Try.ntmps5
 go_upto_region 1 with (first | ((with_reducible refine gate_dst (N := 3) rfl ?_); refine box_event ?hg (N := 3) ?hd (cs := #[.int .i64 a0_0, .int .i64 a0_1, .slice A0_2 l0_2.length c0_2]) (t := 24) ?hr ?_; (case hd => rfl); (case hg => rfl); (case hr => first | (go_simp; done) | (go_simp; rfl)); intro gb615 hg w5 hbox hb; have BK615 := Aside0.mk (hbox); have GW615 := Aside0.mk ((by rw [hg]; exact (below_size (zB HB)) : w.heap.size ≤ gb615)); have GE615 := Aside0.mk ((by rw [hg]; exact (below_size (zB HB)) : w.heap.size ≤ gb615)); replace HB := Aside0.mk (below_step (zB HB) hb); clear hb hbox hg) | ((with_reducible refine gate_dst (N := 4) rfl ?_); refine box_event ?hg (N := 4) ?hd (cs := #[.int .i64 a1_0, .int .i64 a1_1, .int .i64 a1_2, .slice A1_3 l1_3.length c1_3, .slice A1_4 l1_4.length c1_4]) (t := 27) ?hr ?_; (case hd => rfl); (case hg => rfl); (case hr => first | (go_simp; done) | (go_simp; rfl)); intro gb616 hg w6 hbox hb; have BK616 := Aside0.mk (hbox); have GW616 := Aside0.mk ((by rw [hg]; exact (below_size (zB HB)) : w.heap.size ≤ gb616)); have GE616 := Aside0.mk ((by rw [hg]; exact (below_size (zB HB)) : w.heap.size ≤ gb616)); have NB615_616 := Aside0.mk ((by rw [hg]; exact Nat.ne_of_lt (zL BK615) : gb615 ≠ gb616)); have NB616_615 := Aside0.mk ((by rw [hg]; exact Nat.ne_of_gt (zL BK615) : gb616 ≠ gb615)); replace BK615 := Aside0.mk (zb BK615 hb); replace HB := Aside0.mk (below_step (zB HB) hb); clear hb hbox hg))
 (try simp only [Act.put, zs, zs0, zs1])
 go_cut [27] (fun v27 wc => ∃ (kq : Nat) (x27_3 : Bool), v27 = .bool x27_3 ∧ Aside0 (standstilllaw04_LeapMirror.j0 kq a2 x27_3 a0_0 a0_1 l0_2 a1_0 a1_1 a1_2 l1_3 l1_4 = some r) ∧ Aside0 (kq ≤ k) ∧ Aside0 (wc.heap[gb615]? = some (.cells #[.int .i64 a0_0, .int .i64 a0_1, (.slice A0_2 l0_2.length c0_2)] 24 (0, 0))) ∧ Aside0 (wc.heap[gb616]? = some (.cells #[.int .i64 a1_0, .int .i64 a1_1, .int .i64 a1_2, (.slice A1_3 l1_3.length c1_3), (.slice A1_4 l1_4.length c1_4)] 27 (0, 0))) ∧ Aside0 (Below w.heap.size w wc))
 case first =>
  have H := HC4.out
  clear HC4
  replace H := Option.bind_eq_some_iff.mp H
  obtain ⟨t617, A70, H⟩ := H
  replace H : (if t617 = true then (standstilllaw04_LeapMirror.j0 k a2 true a0_0 a0_1 l0_2 a1_0 a1_1 a1_2 l1_3 l1_4) else ((standstillref01_Valid.f k a0_0 a0_1 l0_2).bind fun t618 => (standstilllaw04_LeapMirror.j0 k a2 (!t618) a0_0 a0_1 l0_2 a1_0 a1_1 a1_2 l1_3 l1_4))) = some r := H
  have A7 := Aside0.mk A70
  clear A70
  by_cases c8 : t617 = true
  ·
   subst c8
   have H1 : (standstilllaw04_LeapMirror.j0 k a2 true a0_0 a0_1 l0_2 a1_0 a1_1 a1_2 l1_3 l1_4) = some r := by rw [if_pos rfl] at H; exact H
   clear H
   have H := H1
   clear H1
   have H' := Aside0.mk H
   clear H
   have hnb9 := NB615_616.out
   have hnc9 := NB616_615.out
   have hz10 := zc3 BK615
   have hz11 := zc5 BK616
   go_wp2_with (first | ((with_reducible refine gate_callee (f := 6) rfl ?_); refine goesL_ (some 22) rfl rfl Try.func6 (by kernel_rfl) rfl #[.agg #[.int .i64 a0_0, .int .i64 a0_1, .slice A0_2 l0_2.length c0_2], .agg #[.int .i64 0, .int .i64 0, .int .i64 0, .slice none 0 0], .agg #[.int .i64 a1_0, .int .i64 a1_1, .int .i64 a1_2, .slice A1_3 l1_3.length c1_3, .slice A1_4 l1_4.length c1_4]] rfl (zm) ?_; (refine (standstilllaw04_wide.calls k a0_0 a0_1 _ _ l0_2 0 0 0 _ _ ([] : List Int) a1_0 a1_1 a1_2 _ _ l1_3 _ _ l1_4 true _ ?side1 ?side2 ?side3 ?side4 ?side5 ?side6 ?side7 ?side8 A7.out).mono ?_); (case side1 => exact zC ((Kd.C_below HR0_2.out HB.out))); (case side2 => exact HC0_2.out); (case side3 => exact Kd.C_nil _ _); (case side4 => exact Nat.le_refl _); (case side5 => exact zC ((Kd.C_below HR1_3.out HB.out))); (case side6 => exact HC1_3.out); (case side7 => exact zC ((Kd.C_below HR1_4.out HB.out))); (case side8 => exact HC1_4.out); rintro e w12 ⟨rfl, hb⟩; refine ⟨_, rfl, ?_⟩; replace BK615 := Aside0.mk (zb BK615 hb); replace BK616 := Aside0.mk (zb BK616 hb); replace HB := Aside0.mk (below_step (zB HB) hb); (try clear hb); (try clear hb2); (try clear hk); (try clear hi)))
   go_meet
   case rel => exact ⟨_, (true), (by first | rfl | (simp; done) | (simp [*]; done)), H', ⟨by first | omega | exact Nat.le_refl _⟩, ⟨zk BK615⟩, ⟨zk BK616⟩, ⟨zB HB⟩⟩
  ·
   replace c8 := Bool.eq_false_iff.mpr c8
   subst c8
   have H1 : ((standstillref01_Valid.f k a0_0 a0_1 l0_2).bind fun t618 => (standstilllaw04_LeapMirror.j0 k a2 (!t618) a0_0 a0_1 l0_2 a1_0 a1_1 a1_2 l1_3 l1_4)) = some r := by rw [if_neg (show ¬ (false = true) by decide)] at H; exact H
   clear H
   have H := H1
   clear H1
   replace H := Option.bind_eq_some_iff.mp H
   obtain ⟨t618, A130, H⟩ := H
   replace H : (standstilllaw04_LeapMirror.j0 k a2 (!t618) a0_0 a0_1 l0_2 a1_0 a1_1 a1_2 l1_3 l1_4) = some r := H
   have A13 := Aside0.mk A130
   clear A130
   have H' := Aside0.mk H
   clear H
   have hnb14 := NB615_616.out
   have hnc14 := NB616_615.out
   have hz15 := zc3 BK615
   have hz16 := zc5 BK616
   go_wp2_with (first | ((with_reducible refine gate_callee (f := 6) rfl ?_); refine goesL_ (some 22) rfl rfl Try.func6 (by kernel_rfl) rfl #[.agg #[.int .i64 a0_0, .int .i64 a0_1, .slice A0_2 l0_2.length c0_2], .agg #[.int .i64 0, .int .i64 0, .int .i64 0, .slice none 0 0], .agg #[.int .i64 a1_0, .int .i64 a1_1, .int .i64 a1_2, .slice A1_3 l1_3.length c1_3, .slice A1_4 l1_4.length c1_4]] rfl (zm) ?_; (refine (standstilllaw04_wide.calls k a0_0 a0_1 _ _ l0_2 0 0 0 _ _ ([] : List Int) a1_0 a1_1 a1_2 _ _ l1_3 _ _ l1_4 false _ ?side1 ?side2 ?side3 ?side4 ?side5 ?side6 ?side7 ?side8 A7.out).mono ?_); (case side1 => exact zC ((Kd.C_below HR0_2.out HB.out))); (case side2 => exact HC0_2.out); (case side3 => exact Kd.C_nil _ _); (case side4 => exact Nat.le_refl _); (case side5 => exact zC ((Kd.C_below HR1_3.out HB.out))); (case side6 => exact HC1_3.out); (case side7 => exact zC ((Kd.C_below HR1_4.out HB.out))); (case side8 => exact HC1_4.out); rintro e w17 ⟨rfl, hb⟩; refine ⟨_, rfl, ?_⟩; replace BK615 := Aside0.mk (zb BK615 hb); replace BK616 := Aside0.mk (zb BK616 hb); replace HB := Aside0.mk (below_step (zB HB) hb); (try clear hb); (try clear hb2); (try clear hk); (try clear hi); have hz18 := zc3 BK615) | (go_at_call 18; (with_reducible refine (standstillref01_Valid.calls k a0_0 a0_1 _ _ l0_2 t618 _ ?side1 ?side2 A13.out).mono ?_); (case side1 => exact zC ((Kd.C_below HR0_2.out HB.out))); (case side2 => exact HC0_2.out); rintro e w19 ⟨rfl, hb⟩; replace BK615 := Aside0.mk (zb BK615 hb); replace BK616 := Aside0.mk (zb BK616 hb); replace HB := Aside0.mk (below_step (zB HB) hb); (try clear hb); (try clear hb2); (try clear hk); (try clear hi)))
   go_meet
   case rel => exact ⟨_, (!t618), (by first | rfl | (simp; done) | (simp [*]; done)), H', ⟨by first | omega | exact Nat.le_refl _⟩, ⟨zk BK615⟩, ⟨zk BK616⟩, ⟨zB HB⟩⟩
 case rest =>
  clear HC4
  try clear c1
  try clear p2
  try clear c5
  try clear c6
  try clear c8
  try clear c9
  try clear c14
  try clear hz10
  try clear hz11
  try clear hz15
  try clear hz16
  try clear hz18
  obtain ⟨kq, x27_3, rfl, HA, HJ3, BK615, BK616, HB⟩ := hcut
  cases kq with
  | zero => exact absurd HA.out (by simp [standstilllaw04_LeapMirror.j0])
  | succ kj3 =>
   have H := HA.out
   clear HA
   simp only [standstilllaw04_LeapMirror.j0] at H
   by_cases c20 : x27_3 = true
   ·
    subst c20
    have H1 : ((standstilllaw04_awake.f kj3).bind fun t619 => (some t619)) = some r := by rw [if_pos rfl] at H; exact H
    clear H
    have H := H1
    clear H1
    replace H := Option.bind_eq_some_iff.mp H
    obtain ⟨t619, A210, H⟩ := H
    replace H : (some t619) = some r := H
    have A21 := Aside0.mk A210
    clear A210
    obtain rfl := Option.some.inj H
    go_wp2_with (first | ((with_reducible refine gate_callee (f := 9) rfl ?_); refine goesL_ (some 28) rfl rfl Try.func9 (by kernel_rfl) rfl #[] rfl (zm) ?_; (with_reducible refine (standstilllaw04_awake.calls kj3  t619 _ A21.out).mono ?_); rintro e w22 ⟨rfl, hb⟩; refine ⟨_, rfl, ?_⟩; replace BK615 := Aside0.mk (zb BK615 hb); replace BK616 := Aside0.mk (zb BK616 hb); replace HB := Aside0.mk (below_step (zB HB) hb); (try clear hb); (try clear hb2); (try clear hk); (try clear hi)))
    go_ret
    exact ⟨by first | rfl | (simp [errW_none, errW_some] <;> rfl) | (simp [*, errW_none, errW_some] <;> rfl), zB HB⟩
   ·
    replace c20 := Bool.eq_false_iff.mpr c20
    subst c20
    have H1 : ((tape_Mirror.f kj3 a0_0 a0_1 l0_2).bind fun bt620 => ((leap_Leaps.f kj3 a0_0 a0_1 l0_2 a1_0 a1_1 a1_2 l1_3 l1_4 (Int.tmod (wrap64 (a2)) 301)).bind fun bt627 => ((standstilllaw04_mirrored.f a1_0 a1_1 a1_2 l1_3 l1_4).bind fun bt641 => ((leap_Leaps.f kj3 bt620.1 bt620.2.1 bt620.2.2.1 bt641.1 bt641.2.1 bt641.2.2.1 bt641.2.2.2.1 bt641.2.2.2.2 (Int.tmod (wrap64 (a2)) 301)).bind fun bt650 => (if bt620.2.2.2 = 0 then (if bt627.2.2.2.2.2.2.2.2 = bt650.2.2.2.2.2.2.2.2 then (if bt627.2.2.2.2.2.1 = bt650.2.2.2.2.2.1 then (if bt627.2.2.2.2.2.2.1 = bt650.2.2.2.2.2.2.1 then (if (bt627.2.2.2.2.2.2.2.1 == bt650.2.2.2.2.2.2.2.1) = true then (if bt627.2.2.2.2.2.2.2.2 = 0 then ((standstilllaw04_mirrored.f bt627.1 bt627.2.1 bt627.2.2.1 bt627.2.2.2.1 bt627.2.2.2.2.1).bind fun bt664 => ((standstillref04_Same.f kj3 bt650.1 bt650.2.1 bt650.2.2.1 bt650.2.2.2.1 bt650.2.2.2.2.1 bt664.1 bt664.2.1 bt664.2.2.1 bt664.2.2.2.1 bt664.2.2.2.2).bind fun t673 => (if t673 = true then ((standstilllaw04_awake.f kj3).bind fun t674 => (some t674)) else (some false)))) else ((standstilllaw04_awake.f kj3).bind fun t675 => (some t675))) else (some false)) else (some false)) else (some false)) else (some false)) else (some false)))))) = some r := by rw [if_neg (show ¬ (false = true) by decide)] at H; exact H
    clear H
    have H := H1
    clear H1
    replace H := Option.bind_eq_some_iff.mp H
    obtain ⟨⟨t620, t621, t622, t625⟩, A230, H⟩ := H
    replace H : ((leap_Leaps.f kj3 a0_0 a0_1 l0_2 a1_0 a1_1 a1_2 l1_3 l1_4 (Int.tmod (wrap64 (a2)) 301)).bind fun bt627 => ((standstilllaw04_mirrored.f a1_0 a1_1 a1_2 l1_3 l1_4).bind fun bt641 => ((leap_Leaps.f kj3 t620 t621 t622 bt641.1 bt641.2.1 bt641.2.2.1 bt641.2.2.2.1 bt641.2.2.2.2 (Int.tmod (wrap64 (a2)) 301)).bind fun bt650 => (if t625 = 0 then (if bt627.2.2.2.2.2.2.2.2 = bt650.2.2.2.2.2.2.2.2 then (if bt627.2.2.2.2.2.1 = bt650.2.2.2.2.2.1 then (if bt627.2.2.2.2.2.2.1 = bt650.2.2.2.2.2.2.1 then (if (bt627.2.2.2.2.2.2.2.1 == bt650.2.2.2.2.2.2.2.1) = true then (if bt627.2.2.2.2.2.2.2.2 = 0 then ((standstilllaw04_mirrored.f bt627.1 bt627.2.1 bt627.2.2.1 bt627.2.2.2.1 bt627.2.2.2.2.1).bind fun bt664 => ((standstillref04_Same.f kj3 bt650.1 bt650.2.1 bt650.2.2.1 bt650.2.2.2.1 bt650.2.2.2.2.1 bt664.1 bt664.2.1 bt664.2.2.1 bt664.2.2.2.1 bt664.2.2.2.2).bind fun t673 => (if t673 = true then ((standstilllaw04_awake.f kj3).bind fun t674 => (some t674)) else (some false)))) else ((standstilllaw04_awake.f kj3).bind fun t675 => (some t675))) else (some false)) else (some false)) else (some false)) else (some false)) else (some false))))) = some r := H
    have A23 := Aside0.mk A230
    clear A230
    replace H := Option.bind_eq_some_iff.mp H
    obtain ⟨⟨t627, t628, t629, t630, t633, t636, t637, t638, t639⟩, A240, H⟩ := H
    replace H : ((standstilllaw04_mirrored.f a1_0 a1_1 a1_2 l1_3 l1_4).bind fun bt641 => ((leap_Leaps.f kj3 t620 t621 t622 bt641.1 bt641.2.1 bt641.2.2.1 bt641.2.2.2.1 bt641.2.2.2.2 (Int.tmod (wrap64 (a2)) 301)).bind fun bt650 => (if t625 = 0 then (if t639 = bt650.2.2.2.2.2.2.2.2 then (if t636 = bt650.2.2.2.2.2.1 then (if t637 = bt650.2.2.2.2.2.2.1 then (if (t638 == bt650.2.2.2.2.2.2.2.1) = true then (if t639 = 0 then ((standstilllaw04_mirrored.f t627 t628 t629 t630 t633).bind fun bt664 => ((standstillref04_Same.f kj3 bt650.1 bt650.2.1 bt650.2.2.1 bt650.2.2.2.1 bt650.2.2.2.2.1 bt664.1 bt664.2.1 bt664.2.2.1 bt664.2.2.2.1 bt664.2.2.2.2).bind fun t673 => (if t673 = true then ((standstilllaw04_awake.f kj3).bind fun t674 => (some t674)) else (some false)))) else ((standstilllaw04_awake.f kj3).bind fun t675 => (some t675))) else (some false)) else (some false)) else (some false)) else (some false)) else (some false)))) = some r := H
    have A24 := Aside0.mk A240
    clear A240
    replace H := Option.bind_eq_some_iff.mp H
    obtain ⟨⟨t641, t642, t643, t644, t647⟩, A250, H⟩ := H
    replace H : ((leap_Leaps.f kj3 t620 t621 t622 t641 t642 t643 t644 t647 (Int.tmod (wrap64 (a2)) 301)).bind fun bt650 => (if t625 = 0 then (if t639 = bt650.2.2.2.2.2.2.2.2 then (if t636 = bt650.2.2.2.2.2.1 then (if t637 = bt650.2.2.2.2.2.2.1 then (if (t638 == bt650.2.2.2.2.2.2.2.1) = true then (if t639 = 0 then ((standstilllaw04_mirrored.f t627 t628 t629 t630 t633).bind fun bt664 => ((standstillref04_Same.f kj3 bt650.1 bt650.2.1 bt650.2.2.1 bt650.2.2.2.1 bt650.2.2.2.2.1 bt664.1 bt664.2.1 bt664.2.2.1 bt664.2.2.2.1 bt664.2.2.2.2).bind fun t673 => (if t673 = true then ((standstilllaw04_awake.f kj3).bind fun t674 => (some t674)) else (some false)))) else ((standstilllaw04_awake.f kj3).bind fun t675 => (some t675))) else (some false)) else (some false)) else (some false)) else (some false)) else (some false))) = some r := H
    have A25 := Aside0.mk A250
    clear A250
    replace H := Option.bind_eq_some_iff.mp H
    obtain ⟨⟨t650, t651, t652, t653, t656, t659, t660, t661, t662⟩, A260, H⟩ := H
    replace H : (if t625 = 0 then (if t639 = t662 then (if t636 = t659 then (if t637 = t660 then (if (t638 == t661) = true then (if t639 = 0 then ((standstilllaw04_mirrored.f t627 t628 t629 t630 t633).bind fun bt664 => ((standstillref04_Same.f kj3 t650 t651 t652 t653 t656 bt664.1 bt664.2.1 bt664.2.2.1 bt664.2.2.2.1 bt664.2.2.2.2).bind fun t673 => (if t673 = true then ((standstilllaw04_awake.f kj3).bind fun t674 => (some t674)) else (some false)))) else ((standstilllaw04_awake.f kj3).bind fun t675 => (some t675))) else (some false)) else (some false)) else (some false)) else (some false)) else (some false)) = some r := H
    have A26 := Aside0.mk A260
    clear A260
    have HC27 := Aside0.mk H
    clear H
    have hnb28 := NB615_616.out
    have hnc28 := NB616_615.out
    have hz29 := zc3 BK615
    try go_wp2_with (first | ((with_reducible refine gate_callee (f := 19) rfl ?_); refine goesL_ (some 31) rfl rfl Try.func19 (by kernel_rfl) rfl #[.agg #[.int .i64 a0_0, .int .i64 a0_1, .slice A0_2 l0_2.length c0_2]] rfl (zm) ?_; (with_reducible refine (tape_Mirror.calls kj3 a0_0 a0_1 _ _ l0_2 t620 t621 t622 t625 _ ?side1 ?side2 A23.out).mono ?_); (case side1 => exact zC ((Kd.C_below HR0_2.out HB.out))); (case side2 => exact HC0_2.out); rintro e w30 ⟨v623, rfl, ho0, hb⟩; refine ⟨_, rfl, ?_⟩; have HO624 := Aside0.mk (Kd.S_lower ho0 (below_size (zB HB))); replace BK615 := Aside0.mk (zb BK615 hb); replace BK616 := Aside0.mk (zb BK616 hb); replace HB := Aside0.mk (below_step (zB HB) hb); (try clear hb); (try clear hb2); (try clear hk); (try clear hi); (try clear ho0)) | ((with_reducible refine gate_dst (N := 7) rfl ?_); refine box_event ?hg (N := 7) ?hd (cs := #[.int .i64 0, .int .i64 0, .slice none 0 0]) (t := 24) ?hr ?_; (case hd => rfl); (case hg => rfl); (case hr => first | (go_simp; done) | (go_simp; rfl)); intro gb626 hg w31 hbox hb; have BK626 := Aside0.mk (hbox); have GW626 := Aside0.mk ((by rw [hg]; exact (below_size (zB HB)) : w.heap.size ≤ gb626)); have GE626 := Aside0.mk ((by rw [hg]; exact (below_size (zB HB)) : w.heap.size ≤ gb626)); have NB615_626 := Aside0.mk ((by rw [hg]; exact Nat.ne_of_lt (zL BK615) : gb615 ≠ gb626)); have NB626_615 := Aside0.mk ((by rw [hg]; exact Nat.ne_of_gt (zL BK615) : gb626 ≠ gb615)); have NB616_626 := Aside0.mk ((by rw [hg]; exact Nat.ne_of_lt (zL BK616) : gb616 ≠ gb626)); have NB626_616 := Aside0.mk ((by rw [hg]; exact Nat.ne_of_gt (zL BK616) : gb626 ≠ gb616)); replace HO624 := Aside0.mk (zSb HO624 hb); replace BK615 := Aside0.mk (zb BK615 hb); replace BK616 := Aside0.mk (zb BK616 hb); replace HB := Aside0.mk (below_step (zB HB) hb); clear hb hbox hg; have hnb32 := NB626_615.out; have hnc32 := NB615_626.out; have hnb33 := NB626_616.out; have hnc33 := NB616_626.out; have hz34 := zc3 BK626; obtain ⟨Ao35, co35, eo35⟩ := Kd.S_slice HO624.out; subst eo35; have hz36 := zc3 BK615; have hz37 := zc5 BK616) | ((with_reducible refine gate_callee (f := 14) rfl ?_); refine goesL_ (some 40) rfl rfl Try.func14 (by kernel_rfl) rfl #[.agg #[.int .i64 a0_0, .int .i64 a0_1, .slice A0_2 l0_2.length c0_2], .agg #[.int .i64 a1_0, .int .i64 a1_1, .int .i64 a1_2, .slice A1_3 l1_3.length c1_3, .slice A1_4 l1_4.length c1_4], .int .i64 (Int.tmod (wrap64 (a2)) 301)] rfl (zm) ?_; (with_reducible refine (leap_Leaps.calls kj3 a0_0 a0_1 _ _ l0_2 a1_0 a1_1 a1_2 _ _ l1_3 _ _ l1_4 (Int.tmod (wrap64 (a2)) 301) t627 t628 t629 t630 t633 t636 t637 t638 t639 _ ?side1 ?side2 ?side3 ?side4 ?side5 ?side6 A24.out).mono ?_); (case side1 => exact Kd.C_below HR0_2.out (zB HB)); (case side2 => exact HC0_2.out); (case side3 => exact Kd.C_below HR1_3.out (zB HB)); (case side4 => exact HC1_3.out); (case side5 => exact Kd.C_below HR1_4.out (zB HB)); (case side6 => exact HC1_4.out); rintro e w38 ⟨v631, v634, rfl, ho0, ho1, hb⟩; refine ⟨_, rfl, ?_⟩; have HO632 := Aside0.mk (Kd.V_lower (Kd.V_mono (ok' := fun k_ => some k_ ≠ (.slice Ao35 t622.length co35 : Value).ownBlock ∧ k_ ≠ gb615 ∧ k_ ≠ gb616 ∧ k_ ≠ gb626) ho0 (fun k_ hk_ => ⟨(Kd.fresh' (Kd.S_lt (by (with_reducible repeat (first | apply Kd.S_alloc | apply Kd.S_drewN | apply Kd.S_drew)); exact (Kd.S_mono (zSf3 (g := gb626) (Kd.S_types HO624.out BK626.out (by decide))) (fun _ h_ => h_.1)))) k_ hk_), (Kd.freshB (g := gb615) (o := .cells #[.int .i64 a0_0, .int .i64 a0_1, .slice A0_2 l0_2.length c0_2] 24 (0, 0)) (zK BK615) k_ hk_), (Kd.freshB (g := gb616) (o := .cells #[.int .i64 a1_0, .int .i64 a1_1, .int .i64 a1_2, .slice A1_3 l1_3.length c1_3, .slice A1_4 l1_4.length c1_4] 27 (0, 0)) (zK BK616) k_ hk_), (Kd.freshB (g := gb626) (o := .cells #[.int .i64 t620, .int .i64 t621, .slice Ao35 t622.length co35] 24 (0, 0)) (by (with_reducible repeat (first | refine blk_drewN ?_ _ | refine blk_drew ?_ | refine blk_alloc ?_ _)); refine blk_put (cs := #[.int .i64 t620, .int .i64 t621, .slice none 0 0]) ?_ 2 _ rfl; (with_reducible repeat (first | refine blk_drewN ?_ _ | refine blk_drew ?_ | refine blk_alloc ?_ _)); refine blk_put (cs := #[.int .i64 t620, .int .i64 0, .slice none 0 0]) ?_ 1 _ rfl; (with_reducible repeat (first | refine blk_drewN ?_ _ | refine blk_drew ?_ | refine blk_alloc ?_ _)); refine blk_put (cs := #[.int .i64 0, .int .i64 0, .slice none 0 0]) ?_ 0 _ rfl; (with_reducible repeat (first | refine blk_drewN ?_ _ | refine blk_drew ?_ | refine blk_alloc ?_ _)); exact BK626.out) k_ hk_)⟩)) (below_size (zB HB))); have HO635 := Aside0.mk (Kd.V_lower (Kd.V_mono (ok' := fun k_ => some k_ ≠ (.slice Ao35 t622.length co35 : Value).ownBlock ∧ k_ ≠ gb615 ∧ k_ ≠ gb616 ∧ k_ ≠ gb626) ho1 (fun k_ hk_ => ⟨(Kd.fresh' (Kd.S_lt (by (with_reducible repeat (first | apply Kd.S_alloc | apply Kd.S_drewN | apply Kd.S_drew)); exact (Kd.S_mono (zSf3 (g := gb626) (Kd.S_types HO624.out BK626.out (by decide))) (fun _ h_ => h_.1)))) k_ hk_), (Kd.freshB (g := gb615) (o := .cells #[.int .i64 a0_0, .int .i64 a0_1, .slice A0_2 l0_2.length c0_2] 24 (0, 0)) (zK BK615) k_ hk_), (Kd.freshB (g := gb616) (o := .cells #[.int .i64 a1_0, .int .i64 a1_1, .int .i64 a1_2, .slice A1_3 l1_3.length c1_3, .slice A1_4 l1_4.length c1_4] 27 (0, 0)) (zK BK616) k_ hk_), (Kd.freshB (g := gb626) (o := .cells #[.int .i64 t620, .int .i64 t621, .slice Ao35 t622.length co35] 24 (0, 0)) (by (with_reducible repeat (first | refine blk_drewN ?_ _ | refine blk_drew ?_ | refine blk_alloc ?_ _)); refine blk_put (cs := #[.int .i64 t620, .int .i64 t621, .slice none 0 0]) ?_ 2 _ rfl; (with_reducible repeat (first | refine blk_drewN ?_ _ | refine blk_drew ?_ | refine blk_alloc ?_ _)); refine blk_put (cs := #[.int .i64 t620, .int .i64 0, .slice none 0 0]) ?_ 1 _ rfl; (with_reducible repeat (first | refine blk_drewN ?_ _ | refine blk_drew ?_ | refine blk_alloc ?_ _)); refine blk_put (cs := #[.int .i64 0, .int .i64 0, .slice none 0 0]) ?_ 0 _ rfl; (with_reducible repeat (first | refine blk_drewN ?_ _ | refine blk_drew ?_ | refine blk_alloc ?_ _)); exact BK626.out) k_ hk_)⟩)) (below_size (zB HB))); replace HO624 := Aside0.mk (Kd.S_below (by (with_reducible repeat (first | apply Kd.S_alloc | apply Kd.S_drewN | apply Kd.S_drew)); exact (Kd.S_mono (zSf3 (g := gb626) (Kd.S_types HO624.out BK626.out (by decide))) (fun _ h_ => h_.1))) hb); replace BK615 := Aside0.mk (blk_below (g := gb615) (o := .cells #[.int .i64 a0_0, .int .i64 a0_1, .slice A0_2 l0_2.length c0_2] 24 (0, 0)) (zK BK615) hb); replace BK616 := Aside0.mk (blk_below (g := gb616) (o := .cells #[.int .i64 a1_0, .int .i64 a1_1, .int .i64 a1_2, .slice A1_3 l1_3.length c1_3, .slice A1_4 l1_4.length c1_4] 27 (0, 0)) (zK BK616) hb); replace BK626 := Aside0.mk (blk_below (g := gb626) (o := .cells #[.int .i64 t620, .int .i64 t621, .slice Ao35 t622.length co35] 24 (0, 0)) (by (with_reducible repeat (first | refine blk_drewN ?_ _ | refine blk_drew ?_ | refine blk_alloc ?_ _)); refine blk_put (cs := #[.int .i64 t620, .int .i64 t621, .slice none 0 0]) ?_ 2 _ rfl; (with_reducible repeat (first | refine blk_drewN ?_ _ | refine blk_drew ?_ | refine blk_alloc ?_ _)); refine blk_put (cs := #[.int .i64 t620, .int .i64 0, .slice none 0 0]) ?_ 1 _ rfl; (with_reducible repeat (first | refine blk_drewN ?_ _ | refine blk_drew ?_ | refine blk_alloc ?_ _)); refine blk_put (cs := #[.int .i64 0, .int .i64 0, .slice none 0 0]) ?_ 0 _ rfl; (with_reducible repeat (first | refine blk_drewN ?_ _ | refine blk_drew ?_ | refine blk_alloc ?_ _)); exact BK626.out) hb); replace HB := Aside0.mk (below_step (zB HB) hb); (try clear hb); (try clear hb2); (try clear hk); (try clear hi); (try clear ho0); (try clear ho1)) | ((with_reducible refine gate_dst (N := 9) rfl ?_); refine box_event ?hg (N := 9) ?hd (cs := #[.int .i64 0, .int .i64 0, .int .i64 0, .slice none 0 0, .slice none 0 0]) (t := 27) ?hr ?_; (case hd => rfl); (case hg => rfl); (case hr => first | (go_simp; done) | (go_simp; rfl)); intro gb640 hg w39 hbox hb; have BK640 := Aside0.mk (hbox); have GW640 := Aside0.mk ((by rw [hg]; exact (below_size (zB HB)) : w.heap.size ≤ gb640)); have GE640 := Aside0.mk ((by rw [hg]; exact (below_size (zB HB)) : w.heap.size ≤ gb640)); have NB615_640 := Aside0.mk ((by rw [hg]; exact Nat.ne_of_lt (zL BK615) : gb615 ≠ gb640)); have NB640_615 := Aside0.mk ((by rw [hg]; exact Nat.ne_of_gt (zL BK615) : gb640 ≠ gb615)); have NB616_640 := Aside0.mk ((by rw [hg]; exact Nat.ne_of_lt (zL BK616) : gb616 ≠ gb640)); have NB640_616 := Aside0.mk ((by rw [hg]; exact Nat.ne_of_gt (zL BK616) : gb640 ≠ gb616)); have NB626_640 := Aside0.mk ((by rw [hg]; exact Nat.ne_of_lt (zL BK626) : gb626 ≠ gb640)); have NB640_626 := Aside0.mk ((by rw [hg]; exact Nat.ne_of_gt (zL BK626) : gb640 ≠ gb626)); replace HO624 := Aside0.mk (zSb HO624 hb); replace HO632 := Aside0.mk (Kd.V_below (Kd.V_elderB (zV HO632) gb640 (Nat.le_of_eq hg.symm)) hb); replace HO635 := Aside0.mk (Kd.V_below (Kd.V_elderB (zV HO635) gb640 (Nat.le_of_eq hg.symm)) hb); replace BK615 := Aside0.mk (zb BK615 hb); replace BK616 := Aside0.mk (zb BK616 hb); replace BK626 := Aside0.mk (zb BK626 hb); replace HB := Aside0.mk (below_step (zB HB) hb); clear hb hbox hg; have hnb40 := NB640_615.out; have hnc40 := NB615_640.out; have hnb41 := NB640_616.out; have hnc41 := NB616_640.out; have hnb42 := NB640_626.out; have hnc42 := NB626_640.out; have hz43 := zc5 BK640; obtain ⟨Ao44, co44, eo44⟩ := Kd.V_slice HO632.out; subst eo44; obtain ⟨Ao45, co45, eo45⟩ := Kd.V_slice HO635.out; subst eo45))
    have n0_ : Aside0 (Kd.S (Kd.slice 37 k37) 38 (((((w39.setCell ⟨gb640, 0, none⟩ (.int .i64 t627)).setCell ⟨gb640, 1, none⟩ (.int .i64 t628)).setCell ⟨gb640, 2, none⟩ (.int .i64 t629)).setCell ⟨gb640, 3, none⟩ (.slice Ao44 t630.length co44)).setCell ⟨gb640, 4, none⟩ (.slice Ao45 t633.length co45)) w.heap.size (fun _ => True) (.slice Ao35 t622.length co35) t622) := ⟨by (with_reducible repeat (first | apply Kd.S_alloc | apply Kd.S_drewN | apply Kd.S_drew)); exact Kd.S_mono (zSf5 (g := gb640) (Kd.S_types HO624.out BK640.out (by decide))) (fun _ hk => trivial)⟩
    have n1_ : Aside0 (Kd.V k62 62 (((((w39.setCell ⟨gb640, 0, none⟩ (.int .i64 t627)).setCell ⟨gb640, 1, none⟩ (.int .i64 t628)).setCell ⟨gb640, 2, none⟩ (.int .i64 t629)).setCell ⟨gb640, 3, none⟩ (.slice Ao44 t630.length co44)).setCell ⟨gb640, 4, none⟩ (.slice Ao45 t633.length co45)) w.heap.size (fun k_ => some k_ ≠ (.slice Ao35 t622.length co35 : Value).ownBlock ∧ k_ ≠ gb615 ∧ k_ ≠ gb616 ∧ k_ ≠ gb626 ∧ k_ ≠ gb640) (.slice Ao44 t630.length co44) t630) := ⟨by (with_reducible repeat (first | apply Kd.V_alloc | apply Kd.V_drewN | apply Kd.V_drew)); exact Kd.V_mono (zVf5 (g := gb640) (Kd.V_mono HO632.out (fun k_ hk => (⟨hk, hk.2⟩ : _ ∧ k_ ≠ gb640)))) (fun _ hk => ⟨hk.1.1.1, ⟨hk.1.1.2.1, ⟨hk.1.1.2.2.1, ⟨hk.1.1.2.2.2, hk.1.2⟩⟩⟩⟩)⟩
    have n2_ : Aside0 (Kd.V k62 62 (((((w39.setCell ⟨gb640, 0, none⟩ (.int .i64 t627)).setCell ⟨gb640, 1, none⟩ (.int .i64 t628)).setCell ⟨gb640, 2, none⟩ (.int .i64 t629)).setCell ⟨gb640, 3, none⟩ (.slice Ao44 t630.length co44)).setCell ⟨gb640, 4, none⟩ (.slice Ao45 t633.length co45)) w.heap.size (fun k_ => some k_ ≠ (.slice Ao35 t622.length co35 : Value).ownBlock ∧ k_ ≠ gb615 ∧ k_ ≠ gb616 ∧ k_ ≠ gb626 ∧ k_ ≠ gb640) (.slice Ao45 t633.length co45) t633) := ⟨by (with_reducible repeat (first | apply Kd.V_alloc | apply Kd.V_drewN | apply Kd.V_drew)); exact Kd.V_mono (zVf5 (g := gb640) (Kd.V_mono HO635.out (fun k_ hk => (⟨hk, hk.2⟩ : _ ∧ k_ ≠ gb640)))) (fun _ hk => ⟨hk.1.1.1, ⟨hk.1.1.2.1, ⟨hk.1.1.2.2.1, ⟨hk.1.1.2.2.2, hk.1.2⟩⟩⟩⟩)⟩
    have n3_ : Aside0 ((((((w39.setCell ⟨gb640, 0, none⟩ (.int .i64 t627)).setCell ⟨gb640, 1, none⟩ (.int .i64 t628)).setCell ⟨gb640, 2, none⟩ (.int .i64 t629)).setCell ⟨gb640, 3, none⟩ (.slice Ao44 t630.length co44)).setCell ⟨gb640, 4, none⟩ (.slice Ao45 t633.length co45)).heap[gb615]? = some (.cells #[.int .i64 a0_0, .int .i64 a0_1, .slice A0_2 l0_2.length c0_2] 24 (0, 0))) := ⟨zK BK615⟩
    have n4_ : Aside0 ((((((w39.setCell ⟨gb640, 0, none⟩ (.int .i64 t627)).setCell ⟨gb640, 1, none⟩ (.int .i64 t628)).setCell ⟨gb640, 2, none⟩ (.int .i64 t629)).setCell ⟨gb640, 3, none⟩ (.slice Ao44 t630.length co44)).setCell ⟨gb640, 4, none⟩ (.slice Ao45 t633.length co45)).heap[gb616]? = some (.cells #[.int .i64 a1_0, .int .i64 a1_1, .int .i64 a1_2, .slice A1_3 l1_3.length c1_3, .slice A1_4 l1_4.length c1_4] 27 (0, 0))) := ⟨zK BK616⟩
    have n5_ : Aside0 ((((((w39.setCell ⟨gb640, 0, none⟩ (.int .i64 t627)).setCell ⟨gb640, 1, none⟩ (.int .i64 t628)).setCell ⟨gb640, 2, none⟩ (.int .i64 t629)).setCell ⟨gb640, 3, none⟩ (.slice Ao44 t630.length co44)).setCell ⟨gb640, 4, none⟩ (.slice Ao45 t633.length co45)).heap[gb626]? = some (.cells #[.int .i64 t620, .int .i64 t621, .slice Ao35 t622.length co35] 24 (0, 0))) := ⟨zK BK626⟩
    have n6_ : Aside0 ((((((w39.setCell ⟨gb640, 0, none⟩ (.int .i64 t627)).setCell ⟨gb640, 1, none⟩ (.int .i64 t628)).setCell ⟨gb640, 2, none⟩ (.int .i64 t629)).setCell ⟨gb640, 3, none⟩ (.slice Ao44 t630.length co44)).setCell ⟨gb640, 4, none⟩ (.slice Ao45 t633.length co45)).heap[gb640]? = some (.cells #[.int .i64 t627, .int .i64 t628, .int .i64 t629, .slice Ao44 t630.length co44, .slice Ao45 t633.length co45] 27 (0, 0))) := ⟨by (with_reducible repeat (first | refine blk_drewN ?_ _ | refine blk_drew ?_ | refine blk_alloc ?_ _)); refine blk_put (cs := #[.int .i64 t627, .int .i64 t628, .int .i64 t629, .slice Ao44 t630.length co44, .slice none 0 0]) ?_ 4 _ rfl; (with_reducible repeat (first | refine blk_drewN ?_ _ | refine blk_drew ?_ | refine blk_alloc ?_ _)); refine blk_put (cs := #[.int .i64 t627, .int .i64 t628, .int .i64 t629, .slice none 0 0, .slice none 0 0]) ?_ 3 _ rfl; (with_reducible repeat (first | refine blk_drewN ?_ _ | refine blk_drew ?_ | refine blk_alloc ?_ _)); refine blk_put (cs := #[.int .i64 t627, .int .i64 t628, .int .i64 0, .slice none 0 0, .slice none 0 0]) ?_ 2 _ rfl; (with_reducible repeat (first | refine blk_drewN ?_ _ | refine blk_drew ?_ | refine blk_alloc ?_ _)); refine blk_put (cs := #[.int .i64 t627, .int .i64 0, .int .i64 0, .slice none 0 0, .slice none 0 0]) ?_ 1 _ rfl; (with_reducible repeat (first | refine blk_drewN ?_ _ | refine blk_drew ?_ | refine blk_alloc ?_ _)); refine blk_put (cs := #[.int .i64 0, .int .i64 0, .int .i64 0, .slice none 0 0, .slice none 0 0]) ?_ 0 _ rfl; (with_reducible repeat (first | refine blk_drewN ?_ _ | refine blk_drew ?_ | refine blk_alloc ?_ _)); exact BK640.out⟩
    have n7_ : Aside0 (Below w.heap.size w (((((w39.setCell ⟨gb640, 0, none⟩ (.int .i64 t627)).setCell ⟨gb640, 1, none⟩ (.int .i64 t628)).setCell ⟨gb640, 2, none⟩ (.int .i64 t629)).setCell ⟨gb640, 3, none⟩ (.slice Ao44 t630.length co44)).setCell ⟨gb640, 4, none⟩ (.slice Ao45 t633.length co45))) := ⟨zB HB⟩
    (try clear HO624)
    (try clear HO632)
    (try clear HO635)
    (try clear BK615)
    (try clear BK616)
    (try clear BK626)
    (try clear BK640)
    (try clear HB)
    generalize (((((w39.setCell ⟨gb640, 0, none⟩ (.int .i64 t627)).setCell ⟨gb640, 1, none⟩ (.int .i64 t628)).setCell ⟨gb640, 2, none⟩ (.int .i64 t629)).setCell ⟨gb640, 3, none⟩ (.slice Ao44 t630.length co44)).setCell ⟨gb640, 4, none⟩ (.slice Ao45 t633.length co45)) = w46 at n0_ n1_ n2_ n3_ n4_ n5_ n6_ n7_ ⊢
    have HO624 := n0_
    have HO632 := n1_
    have HO635 := n2_
    have BK615 := n3_
    have BK616 := n4_
    have BK626 := n5_
    have BK640 := n6_
    have HB := n7_
    clear n0_ n1_ n2_ n3_ n4_ n5_ n6_ n7_
    replace HO624 := Aside0.mk (Kd.S_drew HO624.out)
    replace HO632 := Aside0.mk (Kd.V_drew HO632.out)
    replace HO635 := Aside0.mk (Kd.V_drew HO635.out)
    replace BK615 := Aside0.mk (blk_drew BK615.out)
    replace BK616 := Aside0.mk (blk_drew BK616.out)
    replace BK626 := Aside0.mk (blk_drew BK626.out)
    replace BK640 := Aside0.mk (blk_drew BK640.out)
    replace HB := Aside0.mk (below_drew1 HB.out)
    refine start_ (n := 19) (S := fun w' => w'.cell? ⟨gb626, 0, none⟩ = some (.int .i64 t620) ∧ w'.cell? ⟨gb626, 1, none⟩ = some (.int .i64 t621) ∧ w'.cell? ⟨gb626, 2, none⟩ = some (.slice Ao35 t622.length co35) ∧ w'.cell? ⟨gb616, 0, none⟩ = some (.int .i64 a1_0) ∧ w'.cell? ⟨gb616, 1, none⟩ = some (.int .i64 a1_1) ∧ w'.cell? ⟨gb616, 2, none⟩ = some (.int .i64 a1_2) ∧ w'.cell? ⟨gb616, 3, none⟩ = some (.slice A1_3 l1_3.length c1_3) ∧ w'.cell? ⟨gb616, 4, none⟩ = some (.slice A1_4 l1_4.length c1_4)) (ds := []) (zl 19 0) (by kernel_rfl) rfl rfl ⟨(blk_cell BK626.out 0).trans rfl, (blk_cell BK626.out 1).trans rfl, (blk_cell BK626.out 2).trans rfl, (blk_cell BK616.out 0).trans rfl, (blk_cell BK616.out 1).trans rfl, (blk_cell BK616.out 2).trans rfl, (blk_cell BK616.out 3).trans rfl, (blk_cell BK616.out 4).trans rfl⟩ (fun hHeld => ?_); refine with_tabW standstilllaw04_LeapMirror.tab5 standstilllaw04_LeapMirror.bits5 (fun HT_ HW_ => ?_)
    generalize w46.drew = w47 at HO624 HO632 HO635 BK615 BK616 BK626 BK640 HB hHeld ⊢
    refine zP 3 (some 50) (zl 19 8) HT_ ?_
    refine zP 4 (some 51) (zl 19 24) HT_ ?_
    refine zP 5 (some 52) (zl 19 56) HT_ ?_
    refine zT 0 (some 47) (zl 19 57) HT_ HW_ hHeld ?_
    refine zT 1 (some 48) (zl 19 59) HT_ HW_ hHeld ?_
    refine join_ (σ := Value × Value × Value × Value × Nat) 5 (zl 19 16383) (fun s_ => [(49, .agg #[.int .i64 t641, .int .i64 t642, .int .i64 t643, s_.1, s_.2.1]), (53, .tuple #[.agg #[.int .i64 t650, .int .i64 t651, .int .i64 t652, s_.2.2.1, s_.2.2.2.1], .int .i64 t659, .int .i64 t660, .bool t661, .int .i64 t662]), (14, .pointer (some ⟨s_.2.2.2.2, 0, none⟩)), (46, .tuple #[.agg #[.int .i64 t650, .int .i64 t651, .int .i64 t652, s_.2.2.1, s_.2.2.2.1], .int .i64 t659, .int .i64 t660, .bool t661, .int .i64 t662]), (54, .agg #[.int .i64 t650, .int .i64 t651, .int .i64 t652, s_.2.2.1, s_.2.2.2.1]), (55, .int .i64 t659), (56, .int .i64 t660), (57, .bool t661), (58, .int .i64 t662)]) (fun s_ w' => (w'.cell? ⟨gb626, 0, none⟩ = some (.int .i64 t620) ∧ w'.cell? ⟨gb626, 1, none⟩ = some (.int .i64 t621) ∧ w'.cell? ⟨gb626, 2, none⟩ = some (.slice Ao35 t622.length co35) ∧ w'.cell? ⟨gb616, 0, none⟩ = some (.int .i64 a1_0) ∧ w'.cell? ⟨gb616, 1, none⟩ = some (.int .i64 a1_1) ∧ w'.cell? ⟨gb616, 2, none⟩ = some (.int .i64 a1_2) ∧ w'.cell? ⟨gb616, 3, none⟩ = some (.slice A1_3 l1_3.length c1_3) ∧ w'.cell? ⟨gb616, 4, none⟩ = some (.slice A1_4 l1_4.length c1_4)) ∧ (Kd.S (Kd.slice 37 k37) 38 w' w.heap.size (fun _ => True) (.slice Ao35 t622.length co35) t622) ∧ (Kd.V k62 62 w' w.heap.size (fun k_ => some k_ ≠ (.slice Ao35 t622.length co35 : Value).ownBlock ∧ k_ ≠ gb615 ∧ k_ ≠ gb616 ∧ k_ ≠ gb626 ∧ k_ ≠ gb640 ∧ k_ ≠ s_.2.2.2.2) (.slice Ao44 t630.length co44) t630) ∧ (Kd.V k62 62 w' w.heap.size (fun k_ => some k_ ≠ (.slice Ao35 t622.length co35 : Value).ownBlock ∧ k_ ≠ gb615 ∧ k_ ≠ gb616 ∧ k_ ≠ gb626 ∧ k_ ≠ gb640 ∧ k_ ≠ s_.2.2.2.2) (.slice Ao45 t633.length co45) t633) ∧ (Kd.V k62 62 w' w.heap.size (fun k_ => some k_ ≠ (.slice Ao35 t622.length co35 : Value).ownBlock ∧ k_ ≠ gb615 ∧ k_ ≠ gb616 ∧ k_ ≠ gb626 ∧ k_ ≠ gb640 ∧ k_ ≠ s_.2.2.2.2) s_.1 t644) ∧ (Kd.V k62 62 w' w.heap.size (fun k_ => some k_ ≠ (.slice Ao35 t622.length co35 : Value).ownBlock ∧ k_ ≠ gb615 ∧ k_ ≠ gb616 ∧ k_ ≠ gb626 ∧ k_ ≠ gb640 ∧ k_ ≠ s_.2.2.2.2) s_.2.1 t647) ∧ (Kd.V k62 62 w' w.heap.size (fun k_ => some k_ ≠ (.slice Ao35 t622.length co35 : Value).ownBlock ∧ k_ ≠ gb615 ∧ k_ ≠ gb616 ∧ k_ ≠ gb626 ∧ k_ ≠ gb640 ∧ k_ ≠ s_.2.2.2.2) s_.2.2.1 t653) ∧ (Kd.V k62 62 w' w.heap.size (fun k_ => some k_ ≠ (.slice Ao35 t622.length co35 : Value).ownBlock ∧ k_ ≠ gb615 ∧ k_ ≠ gb616 ∧ k_ ≠ gb626 ∧ k_ ≠ gb640 ∧ k_ ≠ s_.2.2.2.2) s_.2.2.2.1 t656) ∧ (w'.heap[gb615]? = some (.cells #[.int .i64 a0_0, .int .i64 a0_1, .slice A0_2 l0_2.length c0_2] 24 (0, 0))) ∧ (w'.heap[gb616]? = some (.cells #[.int .i64 a1_0, .int .i64 a1_1, .int .i64 a1_2, .slice A1_3 l1_3.length c1_3, .slice A1_4 l1_4.length c1_4] 27 (0, 0))) ∧ (w'.heap[gb626]? = some (.cells #[.int .i64 t620, .int .i64 t621, .slice Ao35 t622.length co35] 24 (0, 0))) ∧ (w'.heap[gb640]? = some (.cells #[.int .i64 t627, .int .i64 t628, .int .i64 t629, .slice Ao44 t630.length co44, .slice Ao45 t633.length co45] 27 (0, 0))) ∧ (w'.heap[s_.2.2.2.2]? = some (.cells #[.int .i64 0, .int .i64 0, .int .i64 0, .slice none 0 0, .slice none 0 0] 27 (0, 0))) ∧ (w.heap.size ≤ s_.2.2.2.2) ∧ (w.heap.size ≤ s_.2.2.2.2) ∧ (gb615 ≠ s_.2.2.2.2) ∧ (s_.2.2.2.2 ≠ gb615) ∧ (gb616 ≠ s_.2.2.2.2) ∧ (s_.2.2.2.2 ≠ gb616) ∧ (gb626 ≠ s_.2.2.2.2) ∧ (s_.2.2.2.2 ≠ gb626) ∧ (gb640 ≠ s_.2.2.2.2) ∧ (s_.2.2.2.2 ≠ gb640) ∧ (Below w.heap.size w w')) ?_ ?_
    rotate_left
    ·
     intro hCont
     refine two_ (i := 2) (j := 13) (Ni := some 49) (Nj := some 14) (zl 19 63) (zl 19 8251) rfl rfl rfl rfl (two_of HT_.out (by kernel_rfl)) (by decide) (by decide) (fun K hK => ?_) (fun K hK => ?_)
     ·
      skip
      refine goes_ Try.func20 (by kernel_rfl) rfl #[.agg #[.int .i64 a1_0, .int .i64 a1_1, .int .i64 a1_2, .slice A1_3 l1_3.length c1_3, .slice A1_4 l1_4.length c1_4]] (by rfl) rfl rfl (zm) ?_
      with_reducible refine (standstilllaw04_mirrored.calls a1_0 a1_1 a1_2 (fun k_ => k_ < w.heap.size) _ _ l1_3 (fun k_ => k_ < w.heap.size) _ _ l1_4 t641 t642 t643 t644 t647 _ ?side1 ?side2 A25.out).mono ?_
      (case side1 => exact Kd.V_mk HC1_3.out (Kd.F_below (Kd.C_F k62_heap HR1_3.out) (zB HB)))
      (case side2 => exact Kd.V_mk HC1_4.out (Kd.F_below (Kd.C_F k62_heap HR1_4.out) (zB HB)))
      rintro e w48 ⟨v645, v648, rfl, ho0, ho1, hb⟩
      refine ⟨_, rfl, ?_⟩
      have HO646 := Aside0.mk (Kd.V_lower (Kd.V_mono (ok' := fun k_ => some k_ ≠ (.slice Ao35 t622.length co35 : Value).ownBlock ∧ k_ ≠ gb615 ∧ k_ ≠ gb616 ∧ k_ ≠ gb626 ∧ k_ ≠ gb640) ho0 (fun k_ hk_ => ⟨Or.elim hk_ (fun hs_ => Or.elim hs_ (fun hs_ => fun e_ => Nat.not_le.2 hs_ (Kd.S_base HO624.out k_ e_.symm)) (fun hs_ => fun e_ => Nat.not_le.2 hs_ (Kd.S_base HO624.out k_ e_.symm))) (fun hn_ => (Kd.fresh' (Kd.S_lt (zS HO624)) k_ hn_)), Or.elim hk_ (fun hs_ => Or.elim hs_ (zn GW615) (zn GW615)) (fun hn_ => zf BK615 hn_), Or.elim hk_ (fun hs_ => Or.elim hs_ (zn GW616) (zn GW616)) (fun hn_ => zf BK616 hn_), Or.elim hk_ (fun hs_ => Or.elim hs_ (zn GW626) (zn GW626)) (fun hn_ => zf BK626 hn_), Or.elim hk_ (fun hs_ => Or.elim hs_ (zn GW640) (zn GW640)) (fun hn_ => zf BK640 hn_)⟩)) (below_size (zB HB)))
      have HO649 := Aside0.mk (Kd.V_lower (Kd.V_mono (ok' := fun k_ => some k_ ≠ (.slice Ao35 t622.length co35 : Value).ownBlock ∧ k_ ≠ gb615 ∧ k_ ≠ gb616 ∧ k_ ≠ gb626 ∧ k_ ≠ gb640) ho1 (fun k_ hk_ => ⟨Or.elim hk_ (fun hs_ => Or.elim hs_ (fun hs_ => fun e_ => Nat.not_le.2 hs_ (Kd.S_base HO624.out k_ e_.symm)) (fun hs_ => fun e_ => Nat.not_le.2 hs_ (Kd.S_base HO624.out k_ e_.symm))) (fun hn_ => (Kd.fresh' (Kd.S_lt (zS HO624)) k_ hn_)), Or.elim hk_ (fun hs_ => Or.elim hs_ (zn GW615) (zn GW615)) (fun hn_ => zf BK615 hn_), Or.elim hk_ (fun hs_ => Or.elim hs_ (zn GW616) (zn GW616)) (fun hn_ => zf BK616 hn_), Or.elim hk_ (fun hs_ => Or.elim hs_ (zn GW626) (zn GW626)) (fun hn_ => zf BK626 hn_), Or.elim hk_ (fun hs_ => Or.elim hs_ (zn GW640) (zn GW640)) (fun hn_ => zf BK640 hn_)⟩)) (below_size (zB HB)))
      replace HO624 := Aside0.mk (zSb HO624 hb)
      replace HO632 := Aside0.mk (zVb HO632 hb)
      replace HO635 := Aside0.mk (zVb HO635 hb)
      replace BK615 := Aside0.mk (zb BK615 hb)
      replace BK616 := Aside0.mk (zb BK616 hb)
      replace BK626 := Aside0.mk (zb BK626 hb)
      replace BK640 := Aside0.mk (zb BK640 hb)
      replace HB := Aside0.mk (below_step (zB HB) hb)
      (try clear hb)
      (try clear hb2)
      (try clear hk)
      (try clear hi)
      (try clear ho0)
      (try clear ho1)
      obtain ⟨Ao49, co49, eo49⟩ := Kd.V_slice HO646.out
      (first | subst eo49 | (injection eo49 with f1_ f2_ f3_; have f4_ := f1_.symm; have f5_ := f3_.symm; clear f1_ f2_ f3_; subst f4_; subst f5_))
      obtain ⟨Ao50, co50, eo50⟩ := Kd.V_slice HO649.out
      (first | subst eo50 | (injection eo50 with f1_ f2_ f3_; have f4_ := f1_.symm; have f5_ := f3_.symm; clear f1_ f2_ f3_; subst f4_; subst f5_))
      refine hK.out _ _ ⟨(blk_cell BK626.out 0).trans rfl, (blk_cell BK626.out 1).trans rfl, (blk_cell BK626.out 2).trans rfl, (blk_cell BK616.out 0).trans rfl, (blk_cell BK616.out 1).trans rfl, (blk_cell BK616.out 2).trans rfl, (blk_cell BK616.out 3).trans rfl, (blk_cell BK616.out 4).trans rfl⟩ (fun hHeld => ?_)
      clear hK K
      refine norm_ (a' := ?_) ?_ ?_
      rotate_left
      ·
       show Act.put _ (some 49) _ = _
       simp only [Act.put, zs, zs0, zs1, i64_w, i32_w]
       rfl
      refine two_ (i := 6) (j := 13) (Ni := some 53) (Nj := some 14) (zl 19 127) (zl 19 8255) rfl rfl rfl rfl (two_of HT_.out (by kernel_rfl)) (by decide) (by decide) (fun K hK => ?_) (fun K hK => ?_)
      ·
       skip
       refine goes_ Try.func14 (by kernel_rfl) rfl #[.agg #[.int .i64 t620, .int .i64 t621, .slice Ao35 t622.length co35], .agg #[.int .i64 t641, .int .i64 t642, .int .i64 t643, .slice Ao49 t644.length co49, .slice Ao50 t647.length co50], .int .i64 (Int.tmod (wrap64 (a2)) 301)] (by rfl) rfl rfl (zm) ?_
       with_reducible refine (leap_Leaps.calls kj3 t620 t621 _ _ t622 t641 t642 t643 _ _ t644 _ _ t647 (Int.tmod (wrap64 (a2)) 301) t650 t651 t652 t653 t656 t659 t660 t661 t662 _ ?side1 ?side2 ?side3 ?side4 ?side5 ?side6 A26.out).mono ?_
       (case side1 => exact zC ((Kd.S_reads' HO624.out).2.2))
       (case side2 => exact (Kd.S_reads' HO624.out).2.1)
       (case side3 => exact zC ((Kd.V_reads' HO646.out).2.2))
       (case side4 => exact (Kd.V_reads' HO646.out).2.1)
       (case side5 => exact zC ((Kd.V_reads' HO649.out).2.2))
       (case side6 => exact (Kd.V_reads' HO649.out).2.1)
       rintro e w51 ⟨v654, v657, rfl, ho0, ho1, hb⟩
       refine ⟨_, rfl, ?_⟩
       have HO655 := Aside0.mk (Kd.V_lower (Kd.V_mono (ok' := fun k_ => some k_ ≠ (.slice Ao35 t622.length co35 : Value).ownBlock ∧ k_ ≠ gb615 ∧ k_ ≠ gb616 ∧ k_ ≠ gb626 ∧ k_ ≠ gb640) ho0 (fun k_ hk_ => ⟨(Kd.fresh' (Kd.S_lt (zS HO624)) k_ hk_), (Kd.freshB (g := gb615) (o := .cells #[.int .i64 a0_0, .int .i64 a0_1, .slice A0_2 l0_2.length c0_2] 24 (0, 0)) (zk BK615) k_ hk_), (Kd.freshB (g := gb616) (o := .cells #[.int .i64 a1_0, .int .i64 a1_1, .int .i64 a1_2, .slice A1_3 l1_3.length c1_3, .slice A1_4 l1_4.length c1_4] 27 (0, 0)) (zk BK616) k_ hk_), (Kd.freshB (g := gb626) (o := .cells #[.int .i64 t620, .int .i64 t621, .slice Ao35 t622.length co35] 24 (0, 0)) (zk BK626) k_ hk_), (Kd.freshB (g := gb640) (o := .cells #[.int .i64 t627, .int .i64 t628, .int .i64 t629, .slice Ao44 t630.length co44, .slice Ao45 t633.length co45] 27 (0, 0)) (zk BK640) k_ hk_)⟩)) (below_size (zB HB)))
       have HO658 := Aside0.mk (Kd.V_lower (Kd.V_mono (ok' := fun k_ => some k_ ≠ (.slice Ao35 t622.length co35 : Value).ownBlock ∧ k_ ≠ gb615 ∧ k_ ≠ gb616 ∧ k_ ≠ gb626 ∧ k_ ≠ gb640) ho1 (fun k_ hk_ => ⟨(Kd.fresh' (Kd.S_lt (zS HO624)) k_ hk_), (Kd.freshB (g := gb615) (o := .cells #[.int .i64 a0_0, .int .i64 a0_1, .slice A0_2 l0_2.length c0_2] 24 (0, 0)) (zk BK615) k_ hk_), (Kd.freshB (g := gb616) (o := .cells #[.int .i64 a1_0, .int .i64 a1_1, .int .i64 a1_2, .slice A1_3 l1_3.length c1_3, .slice A1_4 l1_4.length c1_4] 27 (0, 0)) (zk BK616) k_ hk_), (Kd.freshB (g := gb626) (o := .cells #[.int .i64 t620, .int .i64 t621, .slice Ao35 t622.length co35] 24 (0, 0)) (zk BK626) k_ hk_), (Kd.freshB (g := gb640) (o := .cells #[.int .i64 t627, .int .i64 t628, .int .i64 t629, .slice Ao44 t630.length co44, .slice Ao45 t633.length co45] 27 (0, 0)) (zk BK640) k_ hk_)⟩)) (below_size (zB HB)))
       replace HO624 := Aside0.mk (zSb HO624 hb)
       replace HO632 := Aside0.mk (zVb HO632 hb)
       replace HO635 := Aside0.mk (zVb HO635 hb)
       replace HO646 := Aside0.mk (zVb HO646 hb)
       replace HO649 := Aside0.mk (zVb HO649 hb)
       replace BK615 := Aside0.mk (zb BK615 hb)
       replace BK616 := Aside0.mk (zb BK616 hb)
       replace BK626 := Aside0.mk (zb BK626 hb)
       replace BK640 := Aside0.mk (zb BK640 hb)
       replace HB := Aside0.mk (below_step (zB HB) hb)
       (try clear hb)
       (try clear hb2)
       (try clear hk)
       (try clear hi)
       (try clear ho0)
       (try clear ho1)
       refine hK.out _ _ ⟨(blk_cell BK626.out 0).trans rfl, (blk_cell BK626.out 1).trans rfl, (blk_cell BK626.out 2).trans rfl, (blk_cell BK616.out 0).trans rfl, (blk_cell BK616.out 1).trans rfl, (blk_cell BK616.out 2).trans rfl, (blk_cell BK616.out 3).trans rfl, (blk_cell BK616.out 4).trans rfl⟩ (fun hHeld => ?_)
       clear hK K
       refine norm_ (a' := ?_) ?_ ?_
       rotate_left
       ·
        show Act.put _ (some 53) _ = _
        simp only [Act.put, zs, zs0, zs1, i64_w, i32_w]
        rfl
       refine zP 7 (some 46) (zl 19 255) HT_ ?_
       refine zP 8 (some 54) (zl 19 511) HT_ ?_
       refine zP 9 (some 55) (zl 19 1023) HT_ ?_
       refine zP 10 (some 56) (zl 19 2047) HT_ ?_
       refine zP 11 (some 57) (zl 19 4095) HT_ ?_
       refine zP 12 (some 58) (zl 19 8191) HT_ ?_
       refine one_ (i := 13) (N := some 14) (zl 19 16383) rfl rfl (one_of HT_.out (by kernel_rfl)) (by decide) (fun K hK => ?_)
       refine box_step ?hg (N := 14) ?hd (cs := #[.int .i64 0, .int .i64 0, .int .i64 0, .slice none 0 0, .slice none 0 0]) (t := 27) ?hr ?_; (case hd => rfl); (case hg => rfl); (case hr => first | (go_simp; done) | (go_simp; rfl))
       intro gb663 hg w52 hbox hb
       have BK663 := Aside0.mk (hbox)
       have GW663 := Aside0.mk ((by rw [hg]; exact (below_size (zB HB)) : w.heap.size ≤ gb663))
       have GE663 := Aside0.mk ((by rw [hg]; exact (below_size (zB HB)) : w.heap.size ≤ gb663))
       have NB615_663 := Aside0.mk ((by rw [hg]; exact Nat.ne_of_lt (zL BK615) : gb615 ≠ gb663))
       have NB663_615 := Aside0.mk ((by rw [hg]; exact Nat.ne_of_gt (zL BK615) : gb663 ≠ gb615))
       have NB616_663 := Aside0.mk ((by rw [hg]; exact Nat.ne_of_lt (zL BK616) : gb616 ≠ gb663))
       have NB663_616 := Aside0.mk ((by rw [hg]; exact Nat.ne_of_gt (zL BK616) : gb663 ≠ gb616))
       have NB626_663 := Aside0.mk ((by rw [hg]; exact Nat.ne_of_lt (zL BK626) : gb626 ≠ gb663))
       have NB663_626 := Aside0.mk ((by rw [hg]; exact Nat.ne_of_gt (zL BK626) : gb663 ≠ gb626))
       have NB640_663 := Aside0.mk ((by rw [hg]; exact Nat.ne_of_lt (zL BK640) : gb640 ≠ gb663))
       have NB663_640 := Aside0.mk ((by rw [hg]; exact Nat.ne_of_gt (zL BK640) : gb663 ≠ gb640))
       replace HO624 := Aside0.mk (zSb HO624 hb)
       replace HO632 := Aside0.mk (Kd.V_below (Kd.V_elderB (zV HO632) gb663 (Nat.le_of_eq hg.symm)) hb)
       replace HO635 := Aside0.mk (Kd.V_below (Kd.V_elderB (zV HO635) gb663 (Nat.le_of_eq hg.symm)) hb)
       replace HO646 := Aside0.mk (Kd.V_below (Kd.V_elderB (zV HO646) gb663 (Nat.le_of_eq hg.symm)) hb)
       replace HO649 := Aside0.mk (Kd.V_below (Kd.V_elderB (zV HO649) gb663 (Nat.le_of_eq hg.symm)) hb)
       replace HO655 := Aside0.mk (Kd.V_below (Kd.V_elderB (zV HO655) gb663 (Nat.le_of_eq hg.symm)) hb)
       replace HO658 := Aside0.mk (Kd.V_below (Kd.V_elderB (zV HO658) gb663 (Nat.le_of_eq hg.symm)) hb)
       replace BK615 := Aside0.mk (zb BK615 hb)
       replace BK616 := Aside0.mk (zb BK616 hb)
       replace BK626 := Aside0.mk (zb BK626 hb)
       replace BK640 := Aside0.mk (zb BK640 hb)
       replace HB := Aside0.mk (below_step (zB HB) hb)
       clear hb hbox hg
       refine hK.out _ _ ⟨(blk_cell BK626.out 0).trans rfl, (blk_cell BK626.out 1).trans rfl, (blk_cell BK626.out 2).trans rfl, (blk_cell BK616.out 0).trans rfl, (blk_cell BK616.out 1).trans rfl, (blk_cell BK616.out 2).trans rfl, (blk_cell BK616.out 3).trans rfl, (blk_cell BK616.out 4).trans rfl⟩ (fun hHeld => ?_)
       clear hK K
       refine norm_ (a' := ?_) ?_ ?_
       rotate_left
       ·
        show Act.put _ (some 14) _ = _
        simp only [Act.put, zs, zs0, zs1, i64_w, i32_w]
        rfl
       exact norm_ (by simp only [putAll, Act.put, zs, zs0, zs1]) (hCont (.slice Ao49 t644.length co49, .slice Ao50 t647.length co50, v654, v657, gb663) _ ⟨hHeld, (zS HO624), (by (with_reducible repeat (first | apply Kd.V_alloc | apply Kd.V_drewN | apply Kd.V_drew)); exact Kd.V_mono HO632.out (fun _ hk => ⟨hk.1.1, ⟨hk.1.2.1, ⟨hk.1.2.2.1, ⟨hk.1.2.2.2.1, ⟨hk.1.2.2.2.2, hk.2⟩⟩⟩⟩⟩)), (by (with_reducible repeat (first | apply Kd.V_alloc | apply Kd.V_drewN | apply Kd.V_drew)); exact Kd.V_mono HO635.out (fun _ hk => ⟨hk.1.1, ⟨hk.1.2.1, ⟨hk.1.2.2.1, ⟨hk.1.2.2.2.1, ⟨hk.1.2.2.2.2, hk.2⟩⟩⟩⟩⟩)), (by (with_reducible repeat (first | apply Kd.V_alloc | apply Kd.V_drewN | apply Kd.V_drew)); exact Kd.V_mono HO646.out (fun _ hk => ⟨hk.1.1, ⟨hk.1.2.1, ⟨hk.1.2.2.1, ⟨hk.1.2.2.2.1, ⟨hk.1.2.2.2.2, hk.2⟩⟩⟩⟩⟩)), (by (with_reducible repeat (first | apply Kd.V_alloc | apply Kd.V_drewN | apply Kd.V_drew)); exact Kd.V_mono HO649.out (fun _ hk => ⟨hk.1.1, ⟨hk.1.2.1, ⟨hk.1.2.2.1, ⟨hk.1.2.2.2.1, ⟨hk.1.2.2.2.2, hk.2⟩⟩⟩⟩⟩)), (by (with_reducible repeat (first | apply Kd.V_alloc | apply Kd.V_drewN | apply Kd.V_drew)); exact Kd.V_mono HO655.out (fun _ hk => ⟨hk.1.1, ⟨hk.1.2.1, ⟨hk.1.2.2.1, ⟨hk.1.2.2.2.1, ⟨hk.1.2.2.2.2, hk.2⟩⟩⟩⟩⟩)), (by (with_reducible repeat (first | apply Kd.V_alloc | apply Kd.V_drewN | apply Kd.V_drew)); exact Kd.V_mono HO658.out (fun _ hk => ⟨hk.1.1, ⟨hk.1.2.1, ⟨hk.1.2.2.1, ⟨hk.1.2.2.2.1, ⟨hk.1.2.2.2.2, hk.2⟩⟩⟩⟩⟩)), (zk BK615), (zk BK616), (zk BK626), (zk BK640), (zk BK663), GW663.out, GE663.out, NB615_663.out, NB663_615.out, NB616_663.out, NB663_616.out, NB626_663.out, NB663_626.out, NB640_663.out, NB663_640.out, (zB HB)⟩)
      ·
       skip
       refine box_step ?hg (N := 14) ?hd (cs := #[.int .i64 0, .int .i64 0, .int .i64 0, .slice none 0 0, .slice none 0 0]) (t := 27) ?hr ?_; (case hd => rfl); (case hg => rfl); (case hr => first | (go_simp; done) | (go_simp; rfl))
       intro gb663 hg w49 hbox hb
       have BK663 := Aside0.mk (hbox)
       have GW663 := Aside0.mk ((by rw [hg]; exact (below_size (zB HB)) : w.heap.size ≤ gb663))
       have GE663 := Aside0.mk ((by rw [hg]; exact (below_size (zB HB)) : w.heap.size ≤ gb663))
       have NB615_663 := Aside0.mk ((by rw [hg]; exact Nat.ne_of_lt (zL BK615) : gb615 ≠ gb663))
       have NB663_615 := Aside0.mk ((by rw [hg]; exact Nat.ne_of_gt (zL BK615) : gb663 ≠ gb615))
       have NB616_663 := Aside0.mk ((by rw [hg]; exact Nat.ne_of_lt (zL BK616) : gb616 ≠ gb663))
       have NB663_616 := Aside0.mk ((by rw [hg]; exact Nat.ne_of_gt (zL BK616) : gb663 ≠ gb616))
       have NB626_663 := Aside0.mk ((by rw [hg]; exact Nat.ne_of_lt (zL BK626) : gb626 ≠ gb663))
       have NB663_626 := Aside0.mk ((by rw [hg]; exact Nat.ne_of_gt (zL BK626) : gb663 ≠ gb626))
       have NB640_663 := Aside0.mk ((by rw [hg]; exact Nat.ne_of_lt (zL BK640) : gb640 ≠ gb663))
       have NB663_640 := Aside0.mk ((by rw [hg]; exact Nat.ne_of_gt (zL BK640) : gb663 ≠ gb640))
       replace HO624 := Aside0.mk (zSb HO624 hb)
       replace HO632 := Aside0.mk (Kd.V_below (Kd.V_elderB (zV HO632) gb663 (Nat.le_of_eq hg.symm)) hb)
       replace HO635 := Aside0.mk (Kd.V_below (Kd.V_elderB (zV HO635) gb663 (Nat.le_of_eq hg.symm)) hb)
       replace HO646 := Aside0.mk (Kd.V_below (Kd.V_elderB (zV HO646) gb663 (Nat.le_of_eq hg.symm)) hb)
       replace HO649 := Aside0.mk (Kd.V_below (Kd.V_elderB (zV HO649) gb663 (Nat.le_of_eq hg.symm)) hb)
       replace BK615 := Aside0.mk (zb BK615 hb)
       replace BK616 := Aside0.mk (zb BK616 hb)
       replace BK626 := Aside0.mk (zb BK626 hb)
       replace BK640 := Aside0.mk (zb BK640 hb)
       replace HB := Aside0.mk (below_step (zB HB) hb)
       clear hb hbox hg
       obtain ⟨Ao50, co50, eo50⟩ := Kd.V_slice HO646.out
       (first | subst eo50 | (injection eo50 with f1_ f2_ f3_; have f4_ := f1_.symm; have f5_ := f3_.symm; clear f1_ f2_ f3_; subst f4_; subst f5_))
       obtain ⟨Ao51, co51, eo51⟩ := Kd.V_slice HO649.out
       (first | subst eo51 | (injection eo51 with f1_ f2_ f3_; have f4_ := f1_.symm; have f5_ := f3_.symm; clear f1_ f2_ f3_; subst f4_; subst f5_))
       refine hK.out _ _ ⟨(blk_cell BK626.out 0).trans rfl, (blk_cell BK626.out 1).trans rfl, (blk_cell BK626.out 2).trans rfl, (blk_cell BK616.out 0).trans rfl, (blk_cell BK616.out 1).trans rfl, (blk_cell BK616.out 2).trans rfl, (blk_cell BK616.out 3).trans rfl, (blk_cell BK616.out 4).trans rfl⟩ (fun hHeld => ?_)
       clear hK K
       refine norm_ (a' := ?_) ?_ ?_
       rotate_left
       ·
        show Act.put _ (some 14) _ = _
        simp only [Act.put, zs, zs0, zs1, i64_w, i32_w]
        rfl
       refine one_ (i := 6) (N := some 53) (zl 19 8319) rfl rfl (one_of HT_.out (by kernel_rfl)) (by decide) (fun K hK => ?_)
       refine goes_ Try.func14 (by kernel_rfl) rfl #[.agg #[.int .i64 t620, .int .i64 t621, .slice Ao35 t622.length co35], .agg #[.int .i64 t641, .int .i64 t642, .int .i64 t643, .slice Ao50 t644.length co50, .slice Ao51 t647.length co51], .int .i64 (Int.tmod (wrap64 (a2)) 301)] (by rfl) rfl rfl (zm) ?_
       with_reducible refine (leap_Leaps.calls kj3 t620 t621 _ _ t622 t641 t642 t643 _ _ t644 _ _ t647 (Int.tmod (wrap64 (a2)) 301) t650 t651 t652 t653 t656 t659 t660 t661 t662 _ ?side1 ?side2 ?side3 ?side4 ?side5 ?side6 A26.out).mono ?_
       (case side1 => exact zC ((Kd.S_reads' HO624.out).2.2))
       (case side2 => exact (Kd.S_reads' HO624.out).2.1)
       (case side3 => exact zC ((Kd.V_reads' HO646.out).2.2))
       (case side4 => exact (Kd.V_reads' HO646.out).2.1)
       (case side5 => exact zC ((Kd.V_reads' HO649.out).2.2))
       (case side6 => exact (Kd.V_reads' HO649.out).2.1)
       rintro e w52 ⟨v654, v657, rfl, ho0, ho1, hb⟩
       refine ⟨_, rfl, ?_⟩
       have HO655 := Aside0.mk (Kd.V_lower (Kd.V_mono (ok' := fun k_ => some k_ ≠ (.slice Ao35 t622.length co35 : Value).ownBlock ∧ k_ ≠ gb615 ∧ k_ ≠ gb616 ∧ k_ ≠ gb626 ∧ k_ ≠ gb640 ∧ k_ ≠ gb663) ho0 (fun k_ hk_ => ⟨(Kd.fresh' (Kd.S_lt (zS HO624)) k_ hk_), (Kd.freshB (g := gb615) (o := .cells #[.int .i64 a0_0, .int .i64 a0_1, .slice A0_2 l0_2.length c0_2] 24 (0, 0)) (zk BK615) k_ hk_), (Kd.freshB (g := gb616) (o := .cells #[.int .i64 a1_0, .int .i64 a1_1, .int .i64 a1_2, .slice A1_3 l1_3.length c1_3, .slice A1_4 l1_4.length c1_4] 27 (0, 0)) (zk BK616) k_ hk_), (Kd.freshB (g := gb626) (o := .cells #[.int .i64 t620, .int .i64 t621, .slice Ao35 t622.length co35] 24 (0, 0)) (zk BK626) k_ hk_), (Kd.freshB (g := gb640) (o := .cells #[.int .i64 t627, .int .i64 t628, .int .i64 t629, .slice Ao44 t630.length co44, .slice Ao45 t633.length co45] 27 (0, 0)) (zk BK640) k_ hk_), (Kd.freshB (g := gb663) (o := .cells #[.int .i64 0, .int .i64 0, .int .i64 0, .slice none 0 0, .slice none 0 0] 27 (0, 0)) (zk BK663) k_ hk_)⟩)) (below_size (zB HB)))
       have HO658 := Aside0.mk (Kd.V_lower (Kd.V_mono (ok' := fun k_ => some k_ ≠ (.slice Ao35 t622.length co35 : Value).ownBlock ∧ k_ ≠ gb615 ∧ k_ ≠ gb616 ∧ k_ ≠ gb626 ∧ k_ ≠ gb640 ∧ k_ ≠ gb663) ho1 (fun k_ hk_ => ⟨(Kd.fresh' (Kd.S_lt (zS HO624)) k_ hk_), (Kd.freshB (g := gb615) (o := .cells #[.int .i64 a0_0, .int .i64 a0_1, .slice A0_2 l0_2.length c0_2] 24 (0, 0)) (zk BK615) k_ hk_), (Kd.freshB (g := gb616) (o := .cells #[.int .i64 a1_0, .int .i64 a1_1, .int .i64 a1_2, .slice A1_3 l1_3.length c1_3, .slice A1_4 l1_4.length c1_4] 27 (0, 0)) (zk BK616) k_ hk_), (Kd.freshB (g := gb626) (o := .cells #[.int .i64 t620, .int .i64 t621, .slice Ao35 t622.length co35] 24 (0, 0)) (zk BK626) k_ hk_), (Kd.freshB (g := gb640) (o := .cells #[.int .i64 t627, .int .i64 t628, .int .i64 t629, .slice Ao44 t630.length co44, .slice Ao45 t633.length co45] 27 (0, 0)) (zk BK640) k_ hk_), (Kd.freshB (g := gb663) (o := .cells #[.int .i64 0, .int .i64 0, .int .i64 0, .slice none 0 0, .slice none 0 0] 27 (0, 0)) (zk BK663) k_ hk_)⟩)) (below_size (zB HB)))
       replace HO624 := Aside0.mk (zSb HO624 hb)
       replace HO632 := Aside0.mk (zVb HO632 hb)
       replace HO635 := Aside0.mk (zVb HO635 hb)
       replace HO646 := Aside0.mk (zVb HO646 hb)
       replace HO649 := Aside0.mk (zVb HO649 hb)
       replace BK615 := Aside0.mk (zb BK615 hb)
       replace BK616 := Aside0.mk (zb BK616 hb)
       replace BK626 := Aside0.mk (zb BK626 hb)
       replace BK640 := Aside0.mk (zb BK640 hb)
       replace BK663 := Aside0.mk (zb BK663 hb)
       replace HB := Aside0.mk (below_step (zB HB) hb)
       (try clear hb)
       (try clear hb2)
       (try clear hk)
       (try clear hi)
       (try clear ho0)
       (try clear ho1)
       refine hK.out _ _ ⟨(blk_cell BK626.out 0).trans rfl, (blk_cell BK626.out 1).trans rfl, (blk_cell BK626.out 2).trans rfl, (blk_cell BK616.out 0).trans rfl, (blk_cell BK616.out 1).trans rfl, (blk_cell BK616.out 2).trans rfl, (blk_cell BK616.out 3).trans rfl, (blk_cell BK616.out 4).trans rfl⟩ (fun hHeld => ?_)
       clear hK K
       refine norm_ (a' := ?_) ?_ ?_
       rotate_left
       ·
        show Act.put _ (some 53) _ = _
        simp only [Act.put, zs, zs0, zs1, i64_w, i32_w]
        rfl
       refine zP 7 (some 46) (zl 19 8447) HT_ ?_
       refine zP 8 (some 54) (zl 19 8703) HT_ ?_
       refine zP 9 (some 55) (zl 19 9215) HT_ ?_
       refine zP 10 (some 56) (zl 19 10239) HT_ ?_
       refine zP 11 (some 57) (zl 19 12287) HT_ ?_
       refine zP 12 (some 58) (zl 19 16383) HT_ ?_
       exact norm_ (by simp only [putAll, Act.put, zs, zs0, zs1]) (hCont (.slice Ao50 t644.length co50, .slice Ao51 t647.length co51, v654, v657, gb663) _ ⟨hHeld, (zS HO624), (by (with_reducible repeat (first | apply Kd.V_alloc | apply Kd.V_drewN | apply Kd.V_drew)); exact Kd.V_mono HO632.out (fun _ hk => ⟨hk.1.1, ⟨hk.1.2.1, ⟨hk.1.2.2.1, ⟨hk.1.2.2.2.1, ⟨hk.1.2.2.2.2, hk.2⟩⟩⟩⟩⟩)), (by (with_reducible repeat (first | apply Kd.V_alloc | apply Kd.V_drewN | apply Kd.V_drew)); exact Kd.V_mono HO635.out (fun _ hk => ⟨hk.1.1, ⟨hk.1.2.1, ⟨hk.1.2.2.1, ⟨hk.1.2.2.2.1, ⟨hk.1.2.2.2.2, hk.2⟩⟩⟩⟩⟩)), (by (with_reducible repeat (first | apply Kd.V_alloc | apply Kd.V_drewN | apply Kd.V_drew)); exact Kd.V_mono HO646.out (fun _ hk => ⟨hk.1.1, ⟨hk.1.2.1, ⟨hk.1.2.2.1, ⟨hk.1.2.2.2.1, ⟨hk.1.2.2.2.2, hk.2⟩⟩⟩⟩⟩)), (by (with_reducible repeat (first | apply Kd.V_alloc | apply Kd.V_drewN | apply Kd.V_drew)); exact Kd.V_mono HO649.out (fun _ hk => ⟨hk.1.1, ⟨hk.1.2.1, ⟨hk.1.2.2.1, ⟨hk.1.2.2.2.1, ⟨hk.1.2.2.2.2, hk.2⟩⟩⟩⟩⟩)), (zV HO655), (zV HO658), (zk BK615), (zk BK616), (zk BK626), (zk BK640), (zk BK663), GW663.out, GE663.out, NB615_663.out, NB663_615.out, NB616_663.out, NB663_616.out, NB626_663.out, NB663_626.out, NB640_663.out, NB663_640.out, (zB HB)⟩)
     ·
      skip
      refine box_step ?hg (N := 14) ?hd (cs := #[.int .i64 0, .int .i64 0, .int .i64 0, .slice none 0 0, .slice none 0 0]) (t := 27) ?hr ?_; (case hd => rfl); (case hg => rfl); (case hr => first | (go_simp; done) | (go_simp; rfl))
      intro gb663 hg w48 hbox hb
      have BK663 := Aside0.mk (hbox)
      have GW663 := Aside0.mk ((by rw [hg]; exact (below_size (zB HB)) : w.heap.size ≤ gb663))
      have GE663 := Aside0.mk ((by rw [hg]; exact (below_size (zB HB)) : w.heap.size ≤ gb663))
      have NB615_663 := Aside0.mk ((by rw [hg]; exact Nat.ne_of_lt (zL BK615) : gb615 ≠ gb663))
      have NB663_615 := Aside0.mk ((by rw [hg]; exact Nat.ne_of_gt (zL BK615) : gb663 ≠ gb615))
      have NB616_663 := Aside0.mk ((by rw [hg]; exact Nat.ne_of_lt (zL BK616) : gb616 ≠ gb663))
      have NB663_616 := Aside0.mk ((by rw [hg]; exact Nat.ne_of_gt (zL BK616) : gb663 ≠ gb616))
      have NB626_663 := Aside0.mk ((by rw [hg]; exact Nat.ne_of_lt (zL BK626) : gb626 ≠ gb663))
      have NB663_626 := Aside0.mk ((by rw [hg]; exact Nat.ne_of_gt (zL BK626) : gb663 ≠ gb626))
      have NB640_663 := Aside0.mk ((by rw [hg]; exact Nat.ne_of_lt (zL BK640) : gb640 ≠ gb663))
      have NB663_640 := Aside0.mk ((by rw [hg]; exact Nat.ne_of_gt (zL BK640) : gb663 ≠ gb640))
      replace HO624 := Aside0.mk (zSb HO624 hb)
      replace HO632 := Aside0.mk (Kd.V_below (Kd.V_elderB (zV HO632) gb663 (Nat.le_of_eq hg.symm)) hb)
      replace HO635 := Aside0.mk (Kd.V_below (Kd.V_elderB (zV HO635) gb663 (Nat.le_of_eq hg.symm)) hb)
      replace BK615 := Aside0.mk (zb BK615 hb)
      replace BK616 := Aside0.mk (zb BK616 hb)
      replace BK626 := Aside0.mk (zb BK626 hb)
      replace BK640 := Aside0.mk (zb BK640 hb)
      replace HB := Aside0.mk (below_step (zB HB) hb)
      clear hb hbox hg
      refine hK.out _ _ ⟨(blk_cell BK626.out 0).trans rfl, (blk_cell BK626.out 1).trans rfl, (blk_cell BK626.out 2).trans rfl, (blk_cell BK616.out 0).trans rfl, (blk_cell BK616.out 1).trans rfl, (blk_cell BK616.out 2).trans rfl, (blk_cell BK616.out 3).trans rfl, (blk_cell BK616.out 4).trans rfl⟩ (fun hHeld => ?_)
      clear hK K
      refine norm_ (a' := ?_) ?_ ?_
      rotate_left
      ·
       show Act.put _ (some 14) _ = _
       simp only [Act.put, zs, zs0, zs1, i64_w, i32_w]
       rfl
      refine one_ (i := 2) (N := some 49) (zl 19 8255) rfl rfl (one_of HT_.out (by kernel_rfl)) (by decide) (fun K hK => ?_)
      refine goes_ Try.func20 (by kernel_rfl) rfl #[.agg #[.int .i64 a1_0, .int .i64 a1_1, .int .i64 a1_2, .slice A1_3 l1_3.length c1_3, .slice A1_4 l1_4.length c1_4]] (by rfl) rfl rfl (zm) ?_
      with_reducible refine (standstilllaw04_mirrored.calls a1_0 a1_1 a1_2 (fun k_ => k_ < w.heap.size) _ _ l1_3 (fun k_ => k_ < w.heap.size) _ _ l1_4 t641 t642 t643 t644 t647 _ ?side1 ?side2 A25.out).mono ?_
      (case side1 => exact Kd.V_mk HC1_3.out (Kd.F_below (Kd.C_F k62_heap HR1_3.out) (zB HB)))
      (case side2 => exact Kd.V_mk HC1_4.out (Kd.F_below (Kd.C_F k62_heap HR1_4.out) (zB HB)))
      rintro e w49 ⟨v645, v648, rfl, ho0, ho1, hb⟩
      refine ⟨_, rfl, ?_⟩
      have HO646 := Aside0.mk (Kd.V_lower (Kd.V_mono (ok' := fun k_ => some k_ ≠ (.slice Ao35 t622.length co35 : Value).ownBlock ∧ k_ ≠ gb615 ∧ k_ ≠ gb616 ∧ k_ ≠ gb626 ∧ k_ ≠ gb640 ∧ k_ ≠ gb663) ho0 (fun k_ hk_ => ⟨Or.elim hk_ (fun hs_ => Or.elim hs_ (fun hs_ => fun e_ => Nat.not_le.2 hs_ (Kd.S_base HO624.out k_ e_.symm)) (fun hs_ => fun e_ => Nat.not_le.2 hs_ (Kd.S_base HO624.out k_ e_.symm))) (fun hn_ => (Kd.fresh' (Kd.S_lt (zS HO624)) k_ hn_)), Or.elim hk_ (fun hs_ => Or.elim hs_ (zn GW615) (zn GW615)) (fun hn_ => zf BK615 hn_), Or.elim hk_ (fun hs_ => Or.elim hs_ (zn GW616) (zn GW616)) (fun hn_ => zf BK616 hn_), Or.elim hk_ (fun hs_ => Or.elim hs_ (zn GW626) (zn GW626)) (fun hn_ => zf BK626 hn_), Or.elim hk_ (fun hs_ => Or.elim hs_ (zn GW640) (zn GW640)) (fun hn_ => zf BK640 hn_), Or.elim hk_ (fun hs_ => Or.elim hs_ (zn GW663) (zn GW663)) (fun hn_ => zf BK663 hn_)⟩)) (below_size (zB HB)))
      have HO649 := Aside0.mk (Kd.V_lower (Kd.V_mono (ok' := fun k_ => some k_ ≠ (.slice Ao35 t622.length co35 : Value).ownBlock ∧ k_ ≠ gb615 ∧ k_ ≠ gb616 ∧ k_ ≠ gb626 ∧ k_ ≠ gb640 ∧ k_ ≠ gb663) ho1 (fun k_ hk_ => ⟨Or.elim hk_ (fun hs_ => Or.elim hs_ (fun hs_ => fun e_ => Nat.not_le.2 hs_ (Kd.S_base HO624.out k_ e_.symm)) (fun hs_ => fun e_ => Nat.not_le.2 hs_ (Kd.S_base HO624.out k_ e_.symm))) (fun hn_ => (Kd.fresh' (Kd.S_lt (zS HO624)) k_ hn_)), Or.elim hk_ (fun hs_ => Or.elim hs_ (zn GW615) (zn GW615)) (fun hn_ => zf BK615 hn_), Or.elim hk_ (fun hs_ => Or.elim hs_ (zn GW616) (zn GW616)) (fun hn_ => zf BK616 hn_), Or.elim hk_ (fun hs_ => Or.elim hs_ (zn GW626) (zn GW626)) (fun hn_ => zf BK626 hn_), Or.elim hk_ (fun hs_ => Or.elim hs_ (zn GW640) (zn GW640)) (fun hn_ => zf BK640 hn_), Or.elim hk_ (fun hs_ => Or.elim hs_ (zn GW663) (zn GW663)) (fun hn_ => zf BK663 hn_)⟩)) (below_size (zB HB)))
      replace HO624 := Aside0.mk (zSb HO624 hb)
      replace HO632 := Aside0.mk (zVb HO632 hb)
      replace HO635 := Aside0.mk (zVb HO635 hb)
      replace BK615 := Aside0.mk (zb BK615 hb)
      replace BK616 := Aside0.mk (zb BK616 hb)
      replace BK626 := Aside0.mk (zb BK626 hb)
      replace BK640 := Aside0.mk (zb BK640 hb)
      replace BK663 := Aside0.mk (zb BK663 hb)
      replace HB := Aside0.mk (below_step (zB HB) hb)
      (try clear hb)
      (try clear hb2)
      (try clear hk)
      (try clear hi)
      (try clear ho0)
      (try clear ho1)
      obtain ⟨Ao50, co50, eo50⟩ := Kd.V_slice HO646.out
      (first | subst eo50 | (injection eo50 with f1_ f2_ f3_; have f4_ := f1_.symm; have f5_ := f3_.symm; clear f1_ f2_ f3_; subst f4_; subst f5_))
      obtain ⟨Ao51, co51, eo51⟩ := Kd.V_slice HO649.out
      (first | subst eo51 | (injection eo51 with f1_ f2_ f3_; have f4_ := f1_.symm; have f5_ := f3_.symm; clear f1_ f2_ f3_; subst f4_; subst f5_))
      refine hK.out _ _ ⟨(blk_cell BK626.out 0).trans rfl, (blk_cell BK626.out 1).trans rfl, (blk_cell BK626.out 2).trans rfl, (blk_cell BK616.out 0).trans rfl, (blk_cell BK616.out 1).trans rfl, (blk_cell BK616.out 2).trans rfl, (blk_cell BK616.out 3).trans rfl, (blk_cell BK616.out 4).trans rfl⟩ (fun hHeld => ?_)
      clear hK K
      refine norm_ (a' := ?_) ?_ ?_
      rotate_left
      ·
       show Act.put _ (some 49) _ = _
       simp only [Act.put, zs, zs0, zs1, i64_w, i32_w]
       rfl
      refine one_ (i := 6) (N := some 53) (zl 19 8319) rfl rfl (one_of HT_.out (by kernel_rfl)) (by decide) (fun K hK => ?_)
      refine goes_ Try.func14 (by kernel_rfl) rfl #[.agg #[.int .i64 t620, .int .i64 t621, .slice Ao35 t622.length co35], .agg #[.int .i64 t641, .int .i64 t642, .int .i64 t643, .slice Ao50 t644.length co50, .slice Ao51 t647.length co51], .int .i64 (Int.tmod (wrap64 (a2)) 301)] (by rfl) rfl rfl (zm) ?_
      with_reducible refine (leap_Leaps.calls kj3 t620 t621 _ _ t622 t641 t642 t643 _ _ t644 _ _ t647 (Int.tmod (wrap64 (a2)) 301) t650 t651 t652 t653 t656 t659 t660 t661 t662 _ ?side1 ?side2 ?side3 ?side4 ?side5 ?side6 A26.out).mono ?_
      (case side1 => exact zC ((Kd.S_reads' HO624.out).2.2))
      (case side2 => exact (Kd.S_reads' HO624.out).2.1)
      (case side3 => exact zC ((Kd.V_reads' HO646.out).2.2))
      (case side4 => exact (Kd.V_reads' HO646.out).2.1)
      (case side5 => exact zC ((Kd.V_reads' HO649.out).2.2))
      (case side6 => exact (Kd.V_reads' HO649.out).2.1)
      rintro e w52 ⟨v654, v657, rfl, ho0, ho1, hb⟩
      refine ⟨_, rfl, ?_⟩
      have HO655 := Aside0.mk (Kd.V_lower (Kd.V_mono (ok' := fun k_ => some k_ ≠ (.slice Ao35 t622.length co35 : Value).ownBlock ∧ k_ ≠ gb615 ∧ k_ ≠ gb616 ∧ k_ ≠ gb626 ∧ k_ ≠ gb640 ∧ k_ ≠ gb663) ho0 (fun k_ hk_ => ⟨(Kd.fresh' (Kd.S_lt (zS HO624)) k_ hk_), (Kd.freshB (g := gb615) (o := .cells #[.int .i64 a0_0, .int .i64 a0_1, .slice A0_2 l0_2.length c0_2] 24 (0, 0)) (zk BK615) k_ hk_), (Kd.freshB (g := gb616) (o := .cells #[.int .i64 a1_0, .int .i64 a1_1, .int .i64 a1_2, .slice A1_3 l1_3.length c1_3, .slice A1_4 l1_4.length c1_4] 27 (0, 0)) (zk BK616) k_ hk_), (Kd.freshB (g := gb626) (o := .cells #[.int .i64 t620, .int .i64 t621, .slice Ao35 t622.length co35] 24 (0, 0)) (zk BK626) k_ hk_), (Kd.freshB (g := gb640) (o := .cells #[.int .i64 t627, .int .i64 t628, .int .i64 t629, .slice Ao44 t630.length co44, .slice Ao45 t633.length co45] 27 (0, 0)) (zk BK640) k_ hk_), (Kd.freshB (g := gb663) (o := .cells #[.int .i64 0, .int .i64 0, .int .i64 0, .slice none 0 0, .slice none 0 0] 27 (0, 0)) (zk BK663) k_ hk_)⟩)) (below_size (zB HB)))
      have HO658 := Aside0.mk (Kd.V_lower (Kd.V_mono (ok' := fun k_ => some k_ ≠ (.slice Ao35 t622.length co35 : Value).ownBlock ∧ k_ ≠ gb615 ∧ k_ ≠ gb616 ∧ k_ ≠ gb626 ∧ k_ ≠ gb640 ∧ k_ ≠ gb663) ho1 (fun k_ hk_ => ⟨(Kd.fresh' (Kd.S_lt (zS HO624)) k_ hk_), (Kd.freshB (g := gb615) (o := .cells #[.int .i64 a0_0, .int .i64 a0_1, .slice A0_2 l0_2.length c0_2] 24 (0, 0)) (zk BK615) k_ hk_), (Kd.freshB (g := gb616) (o := .cells #[.int .i64 a1_0, .int .i64 a1_1, .int .i64 a1_2, .slice A1_3 l1_3.length c1_3, .slice A1_4 l1_4.length c1_4] 27 (0, 0)) (zk BK616) k_ hk_), (Kd.freshB (g := gb626) (o := .cells #[.int .i64 t620, .int .i64 t621, .slice Ao35 t622.length co35] 24 (0, 0)) (zk BK626) k_ hk_), (Kd.freshB (g := gb640) (o := .cells #[.int .i64 t627, .int .i64 t628, .int .i64 t629, .slice Ao44 t630.length co44, .slice Ao45 t633.length co45] 27 (0, 0)) (zk BK640) k_ hk_), (Kd.freshB (g := gb663) (o := .cells #[.int .i64 0, .int .i64 0, .int .i64 0, .slice none 0 0, .slice none 0 0] 27 (0, 0)) (zk BK663) k_ hk_)⟩)) (below_size (zB HB)))
      replace HO624 := Aside0.mk (zSb HO624 hb)
      replace HO632 := Aside0.mk (zVb HO632 hb)
      replace HO635 := Aside0.mk (zVb HO635 hb)
      replace HO646 := Aside0.mk (zVb HO646 hb)
      replace HO649 := Aside0.mk (zVb HO649 hb)
      replace BK615 := Aside0.mk (zb BK615 hb)
      replace BK616 := Aside0.mk (zb BK616 hb)
      replace BK626 := Aside0.mk (zb BK626 hb)
      replace BK640 := Aside0.mk (zb BK640 hb)
      replace BK663 := Aside0.mk (zb BK663 hb)
      replace HB := Aside0.mk (below_step (zB HB) hb)
      (try clear hb)
      (try clear hb2)
      (try clear hk)
      (try clear hi)
      (try clear ho0)
      (try clear ho1)
      refine hK.out _ _ ⟨(blk_cell BK626.out 0).trans rfl, (blk_cell BK626.out 1).trans rfl, (blk_cell BK626.out 2).trans rfl, (blk_cell BK616.out 0).trans rfl, (blk_cell BK616.out 1).trans rfl, (blk_cell BK616.out 2).trans rfl, (blk_cell BK616.out 3).trans rfl, (blk_cell BK616.out 4).trans rfl⟩ (fun hHeld => ?_)
      clear hK K
      refine norm_ (a' := ?_) ?_ ?_
      rotate_left
      ·
       show Act.put _ (some 53) _ = _
       simp only [Act.put, zs, zs0, zs1, i64_w, i32_w]
       rfl
      refine zP 7 (some 46) (zl 19 8447) HT_ ?_
      refine zP 8 (some 54) (zl 19 8703) HT_ ?_
      refine zP 9 (some 55) (zl 19 9215) HT_ ?_
      refine zP 10 (some 56) (zl 19 10239) HT_ ?_
      refine zP 11 (some 57) (zl 19 12287) HT_ ?_
      refine zP 12 (some 58) (zl 19 16383) HT_ ?_
      exact norm_ (by simp only [putAll, Act.put, zs, zs0, zs1]) (hCont (.slice Ao50 t644.length co50, .slice Ao51 t647.length co51, v654, v657, gb663) _ ⟨hHeld, (zS HO624), (by (with_reducible repeat (first | apply Kd.V_alloc | apply Kd.V_drewN | apply Kd.V_drew)); exact Kd.V_mono HO632.out (fun _ hk => ⟨hk.1.1, ⟨hk.1.2.1, ⟨hk.1.2.2.1, ⟨hk.1.2.2.2.1, ⟨hk.1.2.2.2.2, hk.2⟩⟩⟩⟩⟩)), (by (with_reducible repeat (first | apply Kd.V_alloc | apply Kd.V_drewN | apply Kd.V_drew)); exact Kd.V_mono HO635.out (fun _ hk => ⟨hk.1.1, ⟨hk.1.2.1, ⟨hk.1.2.2.1, ⟨hk.1.2.2.2.1, ⟨hk.1.2.2.2.2, hk.2⟩⟩⟩⟩⟩)), (zV HO646), (zV HO649), (zV HO655), (zV HO658), (zk BK615), (zk BK616), (zk BK626), (zk BK640), (zk BK663), GW663.out, GE663.out, NB615_663.out, NB663_615.out, NB616_663.out, NB663_616.out, NB626_663.out, NB663_626.out, NB640_663.out, NB663_640.out, (zB HB)⟩)
    rintro ⟨v645, v648, v654, v657, gb663⟩ w53 ⟨hS_, h0_, h1_, h2_, h3_, h4_, h5_, h6_, h7_, h8_, h9_, h10_, h11_, h12_, h13_, h14_, h15_, h16_, h17_, h18_, h19_, h20_, h21_, h22_⟩
    have n0_ : Aside0 (Kd.S (Kd.slice 37 k37) 38 w53 w.heap.size (fun _ => True) (.slice Ao35 t622.length co35) t622) := ⟨h0_⟩
    have n1_ : Aside0 (Kd.V k62 62 w53 w.heap.size (fun k_ => some k_ ≠ (.slice Ao35 t622.length co35 : Value).ownBlock ∧ k_ ≠ gb615 ∧ k_ ≠ gb616 ∧ k_ ≠ gb626 ∧ k_ ≠ gb640 ∧ k_ ≠ gb663) (.slice Ao44 t630.length co44) t630) := ⟨h1_⟩
    have n2_ : Aside0 (Kd.V k62 62 w53 w.heap.size (fun k_ => some k_ ≠ (.slice Ao35 t622.length co35 : Value).ownBlock ∧ k_ ≠ gb615 ∧ k_ ≠ gb616 ∧ k_ ≠ gb626 ∧ k_ ≠ gb640 ∧ k_ ≠ gb663) (.slice Ao45 t633.length co45) t633) := ⟨h2_⟩
    have n3_ : Aside0 (Kd.V k62 62 w53 w.heap.size (fun k_ => some k_ ≠ (.slice Ao35 t622.length co35 : Value).ownBlock ∧ k_ ≠ gb615 ∧ k_ ≠ gb616 ∧ k_ ≠ gb626 ∧ k_ ≠ gb640 ∧ k_ ≠ gb663) v645 t644) := ⟨h3_⟩
    have n4_ : Aside0 (Kd.V k62 62 w53 w.heap.size (fun k_ => some k_ ≠ (.slice Ao35 t622.length co35 : Value).ownBlock ∧ k_ ≠ gb615 ∧ k_ ≠ gb616 ∧ k_ ≠ gb626 ∧ k_ ≠ gb640 ∧ k_ ≠ gb663) v648 t647) := ⟨h4_⟩
    have n5_ : Aside0 (Kd.V k62 62 w53 w.heap.size (fun k_ => some k_ ≠ (.slice Ao35 t622.length co35 : Value).ownBlock ∧ k_ ≠ gb615 ∧ k_ ≠ gb616 ∧ k_ ≠ gb626 ∧ k_ ≠ gb640 ∧ k_ ≠ gb663) v654 t653) := ⟨h5_⟩
    have n6_ : Aside0 (Kd.V k62 62 w53 w.heap.size (fun k_ => some k_ ≠ (.slice Ao35 t622.length co35 : Value).ownBlock ∧ k_ ≠ gb615 ∧ k_ ≠ gb616 ∧ k_ ≠ gb626 ∧ k_ ≠ gb640 ∧ k_ ≠ gb663) v657 t656) := ⟨h6_⟩
    have n7_ : Aside0 (w53.heap[gb615]? = some (.cells #[.int .i64 a0_0, .int .i64 a0_1, .slice A0_2 l0_2.length c0_2] 24 (0, 0))) := ⟨h7_⟩
    have n8_ : Aside0 (w53.heap[gb616]? = some (.cells #[.int .i64 a1_0, .int .i64 a1_1, .int .i64 a1_2, .slice A1_3 l1_3.length c1_3, .slice A1_4 l1_4.length c1_4] 27 (0, 0))) := ⟨h8_⟩
    have n9_ : Aside0 (w53.heap[gb626]? = some (.cells #[.int .i64 t620, .int .i64 t621, .slice Ao35 t622.length co35] 24 (0, 0))) := ⟨h9_⟩
    have n10_ : Aside0 (w53.heap[gb640]? = some (.cells #[.int .i64 t627, .int .i64 t628, .int .i64 t629, .slice Ao44 t630.length co44, .slice Ao45 t633.length co45] 27 (0, 0))) := ⟨h10_⟩
    have n11_ : Aside0 (w53.heap[gb663]? = some (.cells #[.int .i64 0, .int .i64 0, .int .i64 0, .slice none 0 0, .slice none 0 0] 27 (0, 0))) := ⟨h11_⟩
    have n12_ : Aside0 (w.heap.size ≤ gb663) := ⟨h12_⟩
    have n13_ : Aside0 (w.heap.size ≤ gb663) := ⟨h13_⟩
    have n14_ : Aside0 (gb615 ≠ gb663) := ⟨h14_⟩
    have n15_ : Aside0 (gb663 ≠ gb615) := ⟨h15_⟩
    have n16_ : Aside0 (gb616 ≠ gb663) := ⟨h16_⟩
    have n17_ : Aside0 (gb663 ≠ gb616) := ⟨h17_⟩
    have n18_ : Aside0 (gb626 ≠ gb663) := ⟨h18_⟩
    have n19_ : Aside0 (gb663 ≠ gb626) := ⟨h19_⟩
    have n20_ : Aside0 (gb640 ≠ gb663) := ⟨h20_⟩
    have n21_ : Aside0 (gb663 ≠ gb640) := ⟨h21_⟩
    have n22_ : Aside0 (Below w.heap.size w w53) := ⟨h22_⟩
    clear HO624
    clear HO632
    clear HO635
    clear BK615
    clear BK616
    clear BK626
    clear BK640
    clear HB
    clear h0_ h1_ h2_ h3_ h4_ h5_ h6_ h7_ h8_ h9_ h10_ h11_ h12_ h13_ h14_ h15_ h16_ h17_ h18_ h19_ h20_ h21_ h22_
    have HO624 := n0_
    have HO632 := n1_
    have HO635 := n2_
    have HO646 := n3_
    have HO649 := n4_
    have HO655 := n5_
    have HO658 := n6_
    have BK615 := n7_
    have BK616 := n8_
    have BK626 := n9_
    have BK640 := n10_
    have BK663 := n11_
    have GW663 := n12_
    have GE663 := n13_
    have NB615_663 := n14_
    have NB663_615 := n15_
    have NB616_663 := n16_
    have NB663_616 := n17_
    have NB626_663 := n18_
    have NB663_626 := n19_
    have NB640_663 := n20_
    have NB663_640 := n21_
    have HB := n22_
    clear n0_ n1_ n2_ n3_ n4_ n5_ n6_ n7_ n8_ n9_ n10_ n11_ n12_ n13_ n14_ n15_ n16_ n17_ n18_ n19_ n20_ n21_ n22_
    have hHeld : w53.cell? ⟨gb626, 0, none⟩ = some (.int .i64 t620) ∧ w53.cell? ⟨gb626, 1, none⟩ = some (.int .i64 t621) ∧ w53.cell? ⟨gb626, 2, none⟩ = some (.slice Ao35 t622.length co35) ∧ w53.cell? ⟨gb616, 0, none⟩ = some (.int .i64 a1_0) ∧ w53.cell? ⟨gb616, 1, none⟩ = some (.int .i64 a1_1) ∧ w53.cell? ⟨gb616, 2, none⟩ = some (.int .i64 a1_2) ∧ w53.cell? ⟨gb616, 3, none⟩ = some (.slice A1_3 l1_3.length c1_3) ∧ w53.cell? ⟨gb616, 4, none⟩ = some (.slice A1_4 l1_4.length c1_4) := hS_
    obtain ⟨Ao57, co57, eo57⟩ := Kd.V_slice HO655.out
    (first | subst eo57 | (injection eo57 with f1_ f2_ f3_; have f4_ := f1_.symm; have f5_ := f3_.symm; clear f1_ f2_ f3_; subst f4_; subst f5_))
    obtain ⟨Ao59, co59, eo59⟩ := Kd.V_slice HO658.out
    (first | subst eo59 | (injection eo59 with f1_ f2_ f3_; have f4_ := f1_.symm; have f5_ := f3_.symm; clear f1_ f2_ f3_; subst f4_; subst f5_))
    refine norm_ (a' := ?_) ?_ ?_
    rotate_left
    ·
     simp only [putAll, Act.put, zs, zs0, zs1]
     rfl
    refine one_ (i := 14) (N := none) (zl 19 32767) rfl rfl (one_of HT_.out (by kernel_rfl)) (by decide) (fun K hK => ?_)
    have hs54 : w53.cell? ⟨gb663, 0, none⟩ = some (.int .i64 0) := (blk_cell BK663.out 0).trans rfl
    have hfs54 := blk_frozen BK663.out 0
    have hns54_0 := NB615_663.out
    have hns54_1 := NB616_663.out
    have hns54_2 := NB626_663.out
    have hns54_3 := NB640_663.out
    have hms54_0 := NB663_615.out
    have hms54_1 := NB663_616.out
    have hms54_2 := NB663_626.out
    have hms54_3 := NB663_640.out
    have hs55 : w53.cell? ⟨gb663, 1, none⟩ = some (.int .i64 0) := (blk_cell BK663.out 1).trans rfl
    have hfs55 := blk_frozen BK663.out 1
    have hns55_0 := NB615_663.out
    have hns55_1 := NB616_663.out
    have hns55_2 := NB626_663.out
    have hns55_3 := NB640_663.out
    have hms55_0 := NB663_615.out
    have hms55_1 := NB663_616.out
    have hms55_2 := NB663_626.out
    have hms55_3 := NB663_640.out
    have hs56 : w53.cell? ⟨gb663, 2, none⟩ = some (.int .i64 0) := (blk_cell BK663.out 2).trans rfl
    have hfs56 := blk_frozen BK663.out 2
    have hns56_0 := NB615_663.out
    have hns56_1 := NB616_663.out
    have hns56_2 := NB626_663.out
    have hns56_3 := NB640_663.out
    have hms56_0 := NB663_615.out
    have hms56_1 := NB663_616.out
    have hms56_2 := NB663_626.out
    have hms56_3 := NB663_640.out
    have hs58 : w53.cell? ⟨gb663, 3, none⟩ = some (.slice none 0 0) := (blk_cell BK663.out 3).trans rfl
    have hfs58 := blk_frozen BK663.out 3
    have hns58_0 := NB615_663.out
    have hns58_1 := NB616_663.out
    have hns58_2 := NB626_663.out
    have hns58_3 := NB640_663.out
    have hms58_0 := NB663_615.out
    have hms58_1 := NB663_616.out
    have hms58_2 := NB663_626.out
    have hms58_3 := NB663_640.out
    have hs60 : w53.cell? ⟨gb663, 4, none⟩ = some (.slice none 0 0) := (blk_cell BK663.out 4).trans rfl
    have hfs60 := blk_frozen BK663.out 4
    have hns60_0 := NB615_663.out
    have hns60_1 := NB616_663.out
    have hns60_2 := NB626_663.out
    have hns60_3 := NB640_663.out
    have hms60_0 := NB663_615.out
    have hms60_1 := NB663_616.out
    have hms60_2 := NB663_626.out
    have hms60_3 := NB663_640.out
    refine skip_ (w1 := ?_) (by rfl) rfl ?_ ?_
    rotate_left
    ·
     go_simp
     rfl
    refine hK.out _ _ ⟨((cell_far (p := ⟨gb663, _, none⟩) NB626_663.out _).trans (((cell_far (p := ⟨gb663, _, none⟩) NB626_663.out _).trans (((cell_far (p := ⟨gb663, _, none⟩) NB626_663.out _).trans (((cell_far (p := ⟨gb663, _, none⟩) NB626_663.out _).trans (((cell_far (p := ⟨gb663, _, none⟩) NB626_663.out _).trans (hHeld.1)))))))))), ((cell_far (p := ⟨gb663, _, none⟩) NB626_663.out _).trans (((cell_far (p := ⟨gb663, _, none⟩) NB626_663.out _).trans (((cell_far (p := ⟨gb663, _, none⟩) NB626_663.out _).trans (((cell_far (p := ⟨gb663, _, none⟩) NB626_663.out _).trans (((cell_far (p := ⟨gb663, _, none⟩) NB626_663.out _).trans (hHeld.2.1)))))))))), ((cell_far (p := ⟨gb663, _, none⟩) NB626_663.out _).trans (((cell_far (p := ⟨gb663, _, none⟩) NB626_663.out _).trans (((cell_far (p := ⟨gb663, _, none⟩) NB626_663.out _).trans (((cell_far (p := ⟨gb663, _, none⟩) NB626_663.out _).trans (((cell_far (p := ⟨gb663, _, none⟩) NB626_663.out _).trans (hHeld.2.2.1)))))))))), ((cell_far (p := ⟨gb663, _, none⟩) NB616_663.out _).trans (((cell_far (p := ⟨gb663, _, none⟩) NB616_663.out _).trans (((cell_far (p := ⟨gb663, _, none⟩) NB616_663.out _).trans (((cell_far (p := ⟨gb663, _, none⟩) NB616_663.out _).trans (((cell_far (p := ⟨gb663, _, none⟩) NB616_663.out _).trans (hHeld.2.2.2.1)))))))))), ((cell_far (p := ⟨gb663, _, none⟩) NB616_663.out _).trans (((cell_far (p := ⟨gb663, _, none⟩) NB616_663.out _).trans (((cell_far (p := ⟨gb663, _, none⟩) NB616_663.out _).trans (((cell_far (p := ⟨gb663, _, none⟩) NB616_663.out _).trans (((cell_far (p := ⟨gb663, _, none⟩) NB616_663.out _).trans (hHeld.2.2.2.2.1)))))))))), ((cell_far (p := ⟨gb663, _, none⟩) NB616_663.out _).trans (((cell_far (p := ⟨gb663, _, none⟩) NB616_663.out _).trans (((cell_far (p := ⟨gb663, _, none⟩) NB616_663.out _).trans (((cell_far (p := ⟨gb663, _, none⟩) NB616_663.out _).trans (((cell_far (p := ⟨gb663, _, none⟩) NB616_663.out _).trans (hHeld.2.2.2.2.2.1)))))))))), ((cell_far (p := ⟨gb663, _, none⟩) NB616_663.out _).trans (((cell_far (p := ⟨gb663, _, none⟩) NB616_663.out _).trans (((cell_far (p := ⟨gb663, _, none⟩) NB616_663.out _).trans (((cell_far (p := ⟨gb663, _, none⟩) NB616_663.out _).trans (((cell_far (p := ⟨gb663, _, none⟩) NB616_663.out _).trans (hHeld.2.2.2.2.2.2.1)))))))))), ((cell_far (p := ⟨gb663, _, none⟩) NB616_663.out _).trans (((cell_far (p := ⟨gb663, _, none⟩) NB616_663.out _).trans (((cell_far (p := ⟨gb663, _, none⟩) NB616_663.out _).trans (((cell_far (p := ⟨gb663, _, none⟩) NB616_663.out _).trans (((cell_far (p := ⟨gb663, _, none⟩) NB616_663.out _).trans (hHeld.2.2.2.2.2.2.2))))))))))⟩ (fun hHeld => ?_)
    clear hK K
    refine zP 15 (some 15) (zl 19 65535) HT_ ?_
    refine zP 16 (some 16) (zl 19 131071) HT_ ?_
    refine zP 17 (some 17) (zl 19 262143) HT_ ?_
    refine zP 18 (some 18) (zl 19 524287) HT_ ?_
    refine done_ (done_of HT_.out (by kernel_rfl)) ?_
    have n0_ : Aside0 (Kd.S (Kd.slice 37 k37) 38 (((((w53.setCell ⟨gb663, 0, none⟩ (.int .i64 t650)).setCell ⟨gb663, 1, none⟩ (.int .i64 t651)).setCell ⟨gb663, 2, none⟩ (.int .i64 t652)).setCell ⟨gb663, 3, none⟩ (.slice Ao57 t653.length co57)).setCell ⟨gb663, 4, none⟩ (.slice Ao59 t656.length co59)) w.heap.size (fun _ => True) (.slice Ao35 t622.length co35) t622) := ⟨by (with_reducible repeat (first | apply Kd.S_alloc | apply Kd.S_drewN | apply Kd.S_drew)); exact Kd.S_mono (zSf5 (g := gb663) (Kd.S_types HO624.out BK663.out (by decide))) (fun _ hk => trivial)⟩
    have n1_ : Aside0 (Kd.V k62 62 (((((w53.setCell ⟨gb663, 0, none⟩ (.int .i64 t650)).setCell ⟨gb663, 1, none⟩ (.int .i64 t651)).setCell ⟨gb663, 2, none⟩ (.int .i64 t652)).setCell ⟨gb663, 3, none⟩ (.slice Ao57 t653.length co57)).setCell ⟨gb663, 4, none⟩ (.slice Ao59 t656.length co59)) w.heap.size (fun k_ => some k_ ≠ (.slice Ao35 t622.length co35 : Value).ownBlock ∧ k_ ≠ gb615 ∧ k_ ≠ gb616 ∧ k_ ≠ gb626 ∧ k_ ≠ gb640 ∧ k_ ≠ gb663) (.slice Ao44 t630.length co44) t630) := ⟨by (with_reducible repeat (first | apply Kd.V_alloc | apply Kd.V_drewN | apply Kd.V_drew)); exact Kd.V_mono (zVf5 (g := gb663) (Kd.V_mono HO632.out (fun k_ hk => (⟨hk, hk.2.2.2.2.2⟩ : _ ∧ k_ ≠ gb663)))) (fun _ hk => ⟨hk.1.1, ⟨hk.1.2.1, ⟨hk.1.2.2.1, ⟨hk.1.2.2.2.1, ⟨hk.1.2.2.2.2.1, hk.1.2.2.2.2.2⟩⟩⟩⟩⟩)⟩
    have n2_ : Aside0 (Kd.V k62 62 (((((w53.setCell ⟨gb663, 0, none⟩ (.int .i64 t650)).setCell ⟨gb663, 1, none⟩ (.int .i64 t651)).setCell ⟨gb663, 2, none⟩ (.int .i64 t652)).setCell ⟨gb663, 3, none⟩ (.slice Ao57 t653.length co57)).setCell ⟨gb663, 4, none⟩ (.slice Ao59 t656.length co59)) w.heap.size (fun k_ => some k_ ≠ (.slice Ao35 t622.length co35 : Value).ownBlock ∧ k_ ≠ gb615 ∧ k_ ≠ gb616 ∧ k_ ≠ gb626 ∧ k_ ≠ gb640 ∧ k_ ≠ gb663) (.slice Ao45 t633.length co45) t633) := ⟨by (with_reducible repeat (first | apply Kd.V_alloc | apply Kd.V_drewN | apply Kd.V_drew)); exact Kd.V_mono (zVf5 (g := gb663) (Kd.V_mono HO635.out (fun k_ hk => (⟨hk, hk.2.2.2.2.2⟩ : _ ∧ k_ ≠ gb663)))) (fun _ hk => ⟨hk.1.1, ⟨hk.1.2.1, ⟨hk.1.2.2.1, ⟨hk.1.2.2.2.1, ⟨hk.1.2.2.2.2.1, hk.1.2.2.2.2.2⟩⟩⟩⟩⟩)⟩
    have n3_ : Aside0 (Kd.V k62 62 (((((w53.setCell ⟨gb663, 0, none⟩ (.int .i64 t650)).setCell ⟨gb663, 1, none⟩ (.int .i64 t651)).setCell ⟨gb663, 2, none⟩ (.int .i64 t652)).setCell ⟨gb663, 3, none⟩ (.slice Ao57 t653.length co57)).setCell ⟨gb663, 4, none⟩ (.slice Ao59 t656.length co59)) w.heap.size (fun k_ => some k_ ≠ (.slice Ao35 t622.length co35 : Value).ownBlock ∧ k_ ≠ gb615 ∧ k_ ≠ gb616 ∧ k_ ≠ gb626 ∧ k_ ≠ gb640 ∧ k_ ≠ gb663) v645 t644) := ⟨by (with_reducible repeat (first | apply Kd.V_alloc | apply Kd.V_drewN | apply Kd.V_drew)); exact Kd.V_mono (zVf5 (g := gb663) (Kd.V_mono HO646.out (fun k_ hk => (⟨hk, hk.2.2.2.2.2⟩ : _ ∧ k_ ≠ gb663)))) (fun _ hk => ⟨hk.1.1, ⟨hk.1.2.1, ⟨hk.1.2.2.1, ⟨hk.1.2.2.2.1, ⟨hk.1.2.2.2.2.1, hk.1.2.2.2.2.2⟩⟩⟩⟩⟩)⟩
    have n4_ : Aside0 (Kd.V k62 62 (((((w53.setCell ⟨gb663, 0, none⟩ (.int .i64 t650)).setCell ⟨gb663, 1, none⟩ (.int .i64 t651)).setCell ⟨gb663, 2, none⟩ (.int .i64 t652)).setCell ⟨gb663, 3, none⟩ (.slice Ao57 t653.length co57)).setCell ⟨gb663, 4, none⟩ (.slice Ao59 t656.length co59)) w.heap.size (fun k_ => some k_ ≠ (.slice Ao35 t622.length co35 : Value).ownBlock ∧ k_ ≠ gb615 ∧ k_ ≠ gb616 ∧ k_ ≠ gb626 ∧ k_ ≠ gb640 ∧ k_ ≠ gb663) v648 t647) := ⟨by (with_reducible repeat (first | apply Kd.V_alloc | apply Kd.V_drewN | apply Kd.V_drew)); exact Kd.V_mono (zVf5 (g := gb663) (Kd.V_mono HO649.out (fun k_ hk => (⟨hk, hk.2.2.2.2.2⟩ : _ ∧ k_ ≠ gb663)))) (fun _ hk => ⟨hk.1.1, ⟨hk.1.2.1, ⟨hk.1.2.2.1, ⟨hk.1.2.2.2.1, ⟨hk.1.2.2.2.2.1, hk.1.2.2.2.2.2⟩⟩⟩⟩⟩)⟩
    have n5_ : Aside0 (Kd.V k62 62 (((((w53.setCell ⟨gb663, 0, none⟩ (.int .i64 t650)).setCell ⟨gb663, 1, none⟩ (.int .i64 t651)).setCell ⟨gb663, 2, none⟩ (.int .i64 t652)).setCell ⟨gb663, 3, none⟩ (.slice Ao57 t653.length co57)).setCell ⟨gb663, 4, none⟩ (.slice Ao59 t656.length co59)) w.heap.size (fun k_ => some k_ ≠ (.slice Ao35 t622.length co35 : Value).ownBlock ∧ k_ ≠ gb615 ∧ k_ ≠ gb616 ∧ k_ ≠ gb626 ∧ k_ ≠ gb640 ∧ k_ ≠ gb663) (.slice Ao57 t653.length co57) t653) := ⟨by (with_reducible repeat (first | apply Kd.V_alloc | apply Kd.V_drewN | apply Kd.V_drew)); exact Kd.V_mono (zVf5 (g := gb663) (Kd.V_mono HO655.out (fun k_ hk => (⟨hk, hk.2.2.2.2.2⟩ : _ ∧ k_ ≠ gb663)))) (fun _ hk => ⟨hk.1.1, ⟨hk.1.2.1, ⟨hk.1.2.2.1, ⟨hk.1.2.2.2.1, ⟨hk.1.2.2.2.2.1, hk.1.2.2.2.2.2⟩⟩⟩⟩⟩)⟩
    have n6_ : Aside0 (Kd.V k62 62 (((((w53.setCell ⟨gb663, 0, none⟩ (.int .i64 t650)).setCell ⟨gb663, 1, none⟩ (.int .i64 t651)).setCell ⟨gb663, 2, none⟩ (.int .i64 t652)).setCell ⟨gb663, 3, none⟩ (.slice Ao57 t653.length co57)).setCell ⟨gb663, 4, none⟩ (.slice Ao59 t656.length co59)) w.heap.size (fun k_ => some k_ ≠ (.slice Ao35 t622.length co35 : Value).ownBlock ∧ k_ ≠ gb615 ∧ k_ ≠ gb616 ∧ k_ ≠ gb626 ∧ k_ ≠ gb640 ∧ k_ ≠ gb663) (.slice Ao59 t656.length co59) t656) := ⟨by (with_reducible repeat (first | apply Kd.V_alloc | apply Kd.V_drewN | apply Kd.V_drew)); exact Kd.V_mono (zVf5 (g := gb663) (Kd.V_mono HO658.out (fun k_ hk => (⟨hk, hk.2.2.2.2.2⟩ : _ ∧ k_ ≠ gb663)))) (fun _ hk => ⟨hk.1.1, ⟨hk.1.2.1, ⟨hk.1.2.2.1, ⟨hk.1.2.2.2.1, ⟨hk.1.2.2.2.2.1, hk.1.2.2.2.2.2⟩⟩⟩⟩⟩)⟩
    have n7_ : Aside0 ((((((w53.setCell ⟨gb663, 0, none⟩ (.int .i64 t650)).setCell ⟨gb663, 1, none⟩ (.int .i64 t651)).setCell ⟨gb663, 2, none⟩ (.int .i64 t652)).setCell ⟨gb663, 3, none⟩ (.slice Ao57 t653.length co57)).setCell ⟨gb663, 4, none⟩ (.slice Ao59 t656.length co59)).heap[gb615]? = some (.cells #[.int .i64 a0_0, .int .i64 a0_1, .slice A0_2 l0_2.length c0_2] 24 (0, 0))) := ⟨zK BK615⟩
    have n8_ : Aside0 ((((((w53.setCell ⟨gb663, 0, none⟩ (.int .i64 t650)).setCell ⟨gb663, 1, none⟩ (.int .i64 t651)).setCell ⟨gb663, 2, none⟩ (.int .i64 t652)).setCell ⟨gb663, 3, none⟩ (.slice Ao57 t653.length co57)).setCell ⟨gb663, 4, none⟩ (.slice Ao59 t656.length co59)).heap[gb616]? = some (.cells #[.int .i64 a1_0, .int .i64 a1_1, .int .i64 a1_2, .slice A1_3 l1_3.length c1_3, .slice A1_4 l1_4.length c1_4] 27 (0, 0))) := ⟨zK BK616⟩
    have n9_ : Aside0 ((((((w53.setCell ⟨gb663, 0, none⟩ (.int .i64 t650)).setCell ⟨gb663, 1, none⟩ (.int .i64 t651)).setCell ⟨gb663, 2, none⟩ (.int .i64 t652)).setCell ⟨gb663, 3, none⟩ (.slice Ao57 t653.length co57)).setCell ⟨gb663, 4, none⟩ (.slice Ao59 t656.length co59)).heap[gb626]? = some (.cells #[.int .i64 t620, .int .i64 t621, .slice Ao35 t622.length co35] 24 (0, 0))) := ⟨zK BK626⟩
    have n10_ : Aside0 ((((((w53.setCell ⟨gb663, 0, none⟩ (.int .i64 t650)).setCell ⟨gb663, 1, none⟩ (.int .i64 t651)).setCell ⟨gb663, 2, none⟩ (.int .i64 t652)).setCell ⟨gb663, 3, none⟩ (.slice Ao57 t653.length co57)).setCell ⟨gb663, 4, none⟩ (.slice Ao59 t656.length co59)).heap[gb640]? = some (.cells #[.int .i64 t627, .int .i64 t628, .int .i64 t629, .slice Ao44 t630.length co44, .slice Ao45 t633.length co45] 27 (0, 0))) := ⟨zK BK640⟩
    have n11_ : Aside0 ((((((w53.setCell ⟨gb663, 0, none⟩ (.int .i64 t650)).setCell ⟨gb663, 1, none⟩ (.int .i64 t651)).setCell ⟨gb663, 2, none⟩ (.int .i64 t652)).setCell ⟨gb663, 3, none⟩ (.slice Ao57 t653.length co57)).setCell ⟨gb663, 4, none⟩ (.slice Ao59 t656.length co59)).heap[gb663]? = some (.cells #[.int .i64 t650, .int .i64 t651, .int .i64 t652, .slice Ao57 t653.length co57, .slice Ao59 t656.length co59] 27 (0, 0))) := ⟨by (with_reducible repeat (first | refine blk_drewN ?_ _ | refine blk_drew ?_ | refine blk_alloc ?_ _)); refine blk_put (cs := #[.int .i64 t650, .int .i64 t651, .int .i64 t652, .slice Ao57 t653.length co57, .slice none 0 0]) ?_ 4 _ rfl; (with_reducible repeat (first | refine blk_drewN ?_ _ | refine blk_drew ?_ | refine blk_alloc ?_ _)); refine blk_put (cs := #[.int .i64 t650, .int .i64 t651, .int .i64 t652, .slice none 0 0, .slice none 0 0]) ?_ 3 _ rfl; (with_reducible repeat (first | refine blk_drewN ?_ _ | refine blk_drew ?_ | refine blk_alloc ?_ _)); refine blk_put (cs := #[.int .i64 t650, .int .i64 t651, .int .i64 0, .slice none 0 0, .slice none 0 0]) ?_ 2 _ rfl; (with_reducible repeat (first | refine blk_drewN ?_ _ | refine blk_drew ?_ | refine blk_alloc ?_ _)); refine blk_put (cs := #[.int .i64 t650, .int .i64 0, .int .i64 0, .slice none 0 0, .slice none 0 0]) ?_ 1 _ rfl; (with_reducible repeat (first | refine blk_drewN ?_ _ | refine blk_drew ?_ | refine blk_alloc ?_ _)); refine blk_put (cs := #[.int .i64 0, .int .i64 0, .int .i64 0, .slice none 0 0, .slice none 0 0]) ?_ 0 _ rfl; (with_reducible repeat (first | refine blk_drewN ?_ _ | refine blk_drew ?_ | refine blk_alloc ?_ _)); exact BK663.out⟩
    have n12_ : Aside0 (Below w.heap.size w (((((w53.setCell ⟨gb663, 0, none⟩ (.int .i64 t650)).setCell ⟨gb663, 1, none⟩ (.int .i64 t651)).setCell ⟨gb663, 2, none⟩ (.int .i64 t652)).setCell ⟨gb663, 3, none⟩ (.slice Ao57 t653.length co57)).setCell ⟨gb663, 4, none⟩ (.slice Ao59 t656.length co59))) := ⟨zB HB⟩
    (try clear HO624)
    (try clear HO632)
    (try clear HO635)
    (try clear HO646)
    (try clear HO649)
    (try clear HO655)
    (try clear HO658)
    (try clear BK615)
    (try clear BK616)
    (try clear BK626)
    (try clear BK640)
    (try clear BK663)
    (try clear HB)
    generalize (((((w53.setCell ⟨gb663, 0, none⟩ (.int .i64 t650)).setCell ⟨gb663, 1, none⟩ (.int .i64 t651)).setCell ⟨gb663, 2, none⟩ (.int .i64 t652)).setCell ⟨gb663, 3, none⟩ (.slice Ao57 t653.length co57)).setCell ⟨gb663, 4, none⟩ (.slice Ao59 t656.length co59)) = w61 at n0_ n1_ n2_ n3_ n4_ n5_ n6_ n7_ n8_ n9_ n10_ n11_ n12_ ⊢
    have HO624 := n0_
    have HO632 := n1_
    have HO635 := n2_
    have HO646 := n3_
    have HO649 := n4_
    have HO655 := n5_
    have HO658 := n6_
    have BK615 := n7_
    have BK616 := n8_
    have BK626 := n9_
    have BK640 := n10_
    have BK663 := n11_
    have HB := n12_
    clear n0_ n1_ n2_ n3_ n4_ n5_ n6_ n7_ n8_ n9_ n10_ n11_ n12_
    go_upto_region 6 with (fail)
    have H := HC27.out
    clear HC27
    by_cases c62 : t625 = 0
    ·
     rw [if_pos c62] at H
     have c62b0 : (t625 == 0) = true := beq_iff_eq.mpr c62
     have c62b1 : (t625 != 0) = false := bne_eq_false_iff_eq.mpr c62
     clear c62
     (first | rw [c62b0] | (simp only [i64_w, i32_w]; rw [c62b0]) | skip)
     (try rw [c62b1])
     by_cases c63 : t639 = t662
     ·
      rw [if_pos c63] at H
      have c63b0 : (t639 == t662) = true := beq_iff_eq.mpr c63
      have c63b1 : (t639 != t662) = false := bne_eq_false_iff_eq.mpr c63
      clear c63
      by_cases c64 : t636 = t659
      ·
       rw [if_pos c64] at H
       have c64b0 : (t636 == t659) = true := beq_iff_eq.mpr c64
       have c64b1 : (t636 != t659) = false := bne_eq_false_iff_eq.mpr c64
       clear c64
       by_cases c65 : t637 = t660
       ·
        rw [if_pos c65] at H
        have c65b0 : (t637 == t660) = true := beq_iff_eq.mpr c65
        have c65b1 : (t637 != t660) = false := bne_eq_false_iff_eq.mpr c65
        clear c65
        by_cases c66 : (t638 == t661) = true
        ·
         rw [if_pos c66] at H
         have c66b0 : (t638 == t661) = true := c66
         (try (have c66b1 : decide (t638 = t661) = true := by simpa using c66))
         (try (have c66b2 : (t638 == t661) = true := by simpa using c66))
         clear c66
         by_cases c67 : t639 = 0
         ·
          rw [if_pos c67] at H
          have c67b0 : (t639 == 0) = true := beq_iff_eq.mpr c67
          have c67b1 : (t639 != 0) = false := bne_eq_false_iff_eq.mpr c67
          clear c67
          replace H := Option.bind_eq_some_iff.mp H
          obtain ⟨⟨t664, t665, t666, t667, t670⟩, A680, H⟩ := H
          replace H : ((standstillref04_Same.f kj3 t650 t651 t652 t653 t656 t664 t665 t666 t667 t670).bind fun t673 => (if t673 = true then ((standstilllaw04_awake.f kj3).bind fun t674 => (some t674)) else (some false))) = some r := H
          have A68 := Aside0.mk A680
          clear A680
          replace H := Option.bind_eq_some_iff.mp H
          obtain ⟨t673, A690, H⟩ := H
          replace H : (if t673 = true then ((standstilllaw04_awake.f kj3).bind fun t674 => (some t674)) else (some false)) = some r := H
          have A69 := Aside0.mk A690
          clear A690
          by_cases c70 : t673 = true
          ·
           subst c70
           have H1 : ((standstilllaw04_awake.f kj3).bind fun t674 => (some t674)) = some r := by rw [if_pos rfl] at H; exact H
           clear H
           have H := H1
           clear H1
           replace H := Option.bind_eq_some_iff.mp H
           obtain ⟨t674, A710, H⟩ := H
           replace H : (some t674) = some r := H
           have A71 := Aside0.mk A710
           clear A710
           obtain rfl := Option.some.inj H
           try go_wp2
           replace HO624 := Aside0.mk (Kd.S_drew HO624.out)
           replace HO632 := Aside0.mk (Kd.V_drew HO632.out)
           replace HO635 := Aside0.mk (Kd.V_drew HO635.out)
           replace HO646 := Aside0.mk (Kd.V_drew HO646.out)
           replace HO649 := Aside0.mk (Kd.V_drew HO649.out)
           replace HO655 := Aside0.mk (Kd.V_drew HO655.out)
           replace HO658 := Aside0.mk (Kd.V_drew HO658.out)
           replace BK615 := Aside0.mk (blk_drew BK615.out)
           replace BK616 := Aside0.mk (blk_drew BK616.out)
           replace BK626 := Aside0.mk (blk_drew BK626.out)
           replace BK640 := Aside0.mk (blk_drew BK640.out)
           replace BK663 := Aside0.mk (blk_drew BK663.out)
           replace HB := Aside0.mk (below_drew1 HB.out)
           refine start_ (n := 36) (S := fun w' => w'.cell? ⟨gb663, 0, none⟩ = some (.int .i64 t650) ∧ w'.cell? ⟨gb663, 1, none⟩ = some (.int .i64 t651) ∧ w'.cell? ⟨gb663, 2, none⟩ = some (.int .i64 t652) ∧ w'.cell? ⟨gb663, 3, none⟩ = some (.slice Ao57 t653.length co57) ∧ w'.cell? ⟨gb663, 4, none⟩ = some (.slice Ao59 t656.length co59) ∧ w'.cell? ⟨gb640, 0, none⟩ = some (.int .i64 t627) ∧ w'.cell? ⟨gb640, 1, none⟩ = some (.int .i64 t628) ∧ w'.cell? ⟨gb640, 2, none⟩ = some (.int .i64 t629) ∧ w'.cell? ⟨gb640, 3, none⟩ = some (.slice Ao44 t630.length co44) ∧ w'.cell? ⟨gb640, 4, none⟩ = some (.slice Ao45 t633.length co45)) (ds := []) (zl 36 0) (by kernel_rfl) rfl rfl ⟨(blk_cell BK663.out 0).trans rfl, (blk_cell BK663.out 1).trans rfl, (blk_cell BK663.out 2).trans rfl, (blk_cell BK663.out 3).trans rfl, (blk_cell BK663.out 4).trans rfl, (blk_cell BK640.out 0).trans rfl, (blk_cell BK640.out 1).trans rfl, (blk_cell BK640.out 2).trans rfl, (blk_cell BK640.out 3).trans rfl, (blk_cell BK640.out 4).trans rfl⟩ (fun hHeld => ?_); refine with_tabW standstilllaw04_LeapMirror.tab6 standstilllaw04_LeapMirror.bits6 (fun HT_ HW_ => ?_)
           generalize w61.drew = w72 at HO624 HO632 HO635 HO646 HO649 HO655 HO658 BK615 BK616 BK626 BK640 BK663 HB hHeld ⊢
           refine zP 0 (some 59) (zl 36 1) HT_ ?_
           refine zP 1 (some 60) (zl 36 3) HT_ ?_
           refine zP 2 (some 61) (zl 36 7) HT_ ?_
           refine zP 3 (some 62) (zl 36 15) HT_ ?_
           refine zP 4 (some 63) (zl 36 31) HT_ ?_
           refine zP 5 (some 64) (zl 36 63) HT_ ?_
           refine zP 6 (some 65) (zl 36 127) HT_ ?_
           refine zP 7 (some 66) (zl 36 255) HT_ ?_
           refine zP 8 (some 67) (zl 36 511) HT_ ?_
           refine zP 9 (some 68) (zl 36 1023) HT_ ?_
           refine zP 10 (some 69) (zl 36 2047) HT_ ?_
           refine zP 11 (some 70) (zl 36 4095) HT_ ?_
           refine zP 12 (some 71) (zl 36 8191) HT_ ?_
           refine zP 13 (some 72) (zl 36 16383) HT_ ?_
           refine zP 14 (some 73) (zl 36 32767) HT_ ?_
           refine zP 15 (some 74) (zl 36 65535) HT_ ?_
           refine zP 16 (some 75) (zl 36 131071) HT_ ?_
           refine zP 17 (some 76) (zl 36 262143) HT_ ?_
           refine zP 18 (some 77) (zl 36 524287) HT_ ?_
           refine zP 19 (some 78) (zl 36 1048575) HT_ ?_
           refine zP 20 (some 79) (zl 36 2097151) HT_ ?_
           refine zP 21 (some 80) (zl 36 4194303) HT_ ?_
           refine zP 22 (some 81) (zl 36 8388607) HT_ ?_
           refine zP 23 (some 82) (zl 36 16777215) HT_ ?_
           refine zP 24 (some 83) (zl 36 33554431) HT_ ?_
           refine zP 25 (some 84) (zl 36 67108863) HT_ ?_
           refine zT 26 (some 85) (zl 36 134217727) HT_ HW_ hHeld ?_
           refine zT 27 (some 86) (zl 36 268435455) HT_ HW_ hHeld ?_
           refine one_ (i := 28) (N := some 87) (zl 36 536870911) rfl rfl (one_of HT_.out (by kernel_rfl)) (by decide) (fun K hK => ?_)
           refine goes_ Try.func20 (by kernel_rfl) rfl #[.agg #[.int .i64 t627, .int .i64 t628, .int .i64 t629, .slice Ao44 t630.length co44, .slice Ao45 t633.length co45]] (by rfl) rfl rfl (zm) ?_
           with_reducible refine (standstilllaw04_mirrored.calls t627 t628 t629 (fun k_ => (some k_ ≠ (.slice Ao35 t622.length co35 : Value).ownBlock ∧ (k_ ≠ gb615 ∧ (k_ ≠ gb616 ∧ (k_ ≠ gb626 ∧ (k_ ≠ gb640 ∧ k_ ≠ gb663)))))) _ _ t630 (fun k_ => (some k_ ≠ (.slice Ao35 t622.length co35 : Value).ownBlock ∧ (k_ ≠ gb615 ∧ (k_ ≠ gb616 ∧ (k_ ≠ gb626 ∧ (k_ ≠ gb640 ∧ k_ ≠ gb663)))))) _ _ t633 t664 t665 t666 t667 t670 _ ?side1 ?side2 A68.out).mono ?_
           (case side1 => exact HO632.out)
           (case side2 => exact HO635.out)
           rintro e w73 ⟨v668, v671, rfl, ho0, ho1, hb⟩
           refine ⟨_, rfl, ?_⟩
           have HO669 := Aside0.mk (Kd.V_lower (Kd.V_mono (ok' := fun k_ => some k_ ≠ (.slice Ao35 t622.length co35 : Value).ownBlock ∧ k_ ≠ gb615 ∧ k_ ≠ gb616 ∧ k_ ≠ gb626 ∧ k_ ≠ gb640 ∧ k_ ≠ gb663) ho0 (fun k_ hk_ => ⟨Or.elim hk_ (fun hs_ => Or.elim hs_ (fun hs_ => hs_.1) (fun hs_ => hs_.1)) (fun hn_ => (Kd.fresh' (Kd.S_lt (zS HO624)) k_ hn_)), Or.elim hk_ (fun hs_ => Or.elim hs_ (fun hs_ => hs_.2.1) (fun hs_ => hs_.2.1)) (fun hn_ => zf BK615 hn_), Or.elim hk_ (fun hs_ => Or.elim hs_ (fun hs_ => hs_.2.2.1) (fun hs_ => hs_.2.2.1)) (fun hn_ => zf BK616 hn_), Or.elim hk_ (fun hs_ => Or.elim hs_ (fun hs_ => hs_.2.2.2.1) (fun hs_ => hs_.2.2.2.1)) (fun hn_ => zf BK626 hn_), Or.elim hk_ (fun hs_ => Or.elim hs_ (fun hs_ => hs_.2.2.2.2.1) (fun hs_ => hs_.2.2.2.2.1)) (fun hn_ => zf BK640 hn_), Or.elim hk_ (fun hs_ => Or.elim hs_ (fun hs_ => hs_.2.2.2.2.2) (fun hs_ => hs_.2.2.2.2.2)) (fun hn_ => zf BK663 hn_)⟩)) (below_size (zB HB)))
           have HO672 := Aside0.mk (Kd.V_lower (Kd.V_mono (ok' := fun k_ => some k_ ≠ (.slice Ao35 t622.length co35 : Value).ownBlock ∧ k_ ≠ gb615 ∧ k_ ≠ gb616 ∧ k_ ≠ gb626 ∧ k_ ≠ gb640 ∧ k_ ≠ gb663) ho1 (fun k_ hk_ => ⟨Or.elim hk_ (fun hs_ => Or.elim hs_ (fun hs_ => hs_.1) (fun hs_ => hs_.1)) (fun hn_ => (Kd.fresh' (Kd.S_lt (zS HO624)) k_ hn_)), Or.elim hk_ (fun hs_ => Or.elim hs_ (fun hs_ => hs_.2.1) (fun hs_ => hs_.2.1)) (fun hn_ => zf BK615 hn_), Or.elim hk_ (fun hs_ => Or.elim hs_ (fun hs_ => hs_.2.2.1) (fun hs_ => hs_.2.2.1)) (fun hn_ => zf BK616 hn_), Or.elim hk_ (fun hs_ => Or.elim hs_ (fun hs_ => hs_.2.2.2.1) (fun hs_ => hs_.2.2.2.1)) (fun hn_ => zf BK626 hn_), Or.elim hk_ (fun hs_ => Or.elim hs_ (fun hs_ => hs_.2.2.2.2.1) (fun hs_ => hs_.2.2.2.2.1)) (fun hn_ => zf BK640 hn_), Or.elim hk_ (fun hs_ => Or.elim hs_ (fun hs_ => hs_.2.2.2.2.2) (fun hs_ => hs_.2.2.2.2.2)) (fun hn_ => zf BK663 hn_)⟩)) (below_size (zB HB)))
           replace HO624 := Aside0.mk (zSb HO624 hb)
           replace HO632 := Aside0.mk (zVb HO632 hb)
           replace HO635 := Aside0.mk (zVb HO635 hb)
           replace HO646 := Aside0.mk (zVb HO646 hb)
           replace HO649 := Aside0.mk (zVb HO649 hb)
           replace HO655 := Aside0.mk (zVb HO655 hb)
           replace HO658 := Aside0.mk (zVb HO658 hb)
           replace BK615 := Aside0.mk (zb BK615 hb)
           replace BK616 := Aside0.mk (zb BK616 hb)
           replace BK626 := Aside0.mk (zb BK626 hb)
           replace BK640 := Aside0.mk (zb BK640 hb)
           replace BK663 := Aside0.mk (zb BK663 hb)
           replace HB := Aside0.mk (below_step (zB HB) hb)
           (try clear hb)
           (try clear hb2)
           (try clear hk)
           (try clear hi)
           (try clear ho0)
           (try clear ho1)
           obtain ⟨Ao74, co74, eo74⟩ := Kd.V_slice HO669.out
           (first | subst eo74 | (injection eo74 with f1_ f2_ f3_; have f4_ := f1_.symm; have f5_ := f3_.symm; clear f1_ f2_ f3_; subst f4_; subst f5_))
           obtain ⟨Ao75, co75, eo75⟩ := Kd.V_slice HO672.out
           (first | subst eo75 | (injection eo75 with f1_ f2_ f3_; have f4_ := f1_.symm; have f5_ := f3_.symm; clear f1_ f2_ f3_; subst f4_; subst f5_))
           refine hK.out _ _ ⟨(blk_cell BK663.out 0).trans rfl, (blk_cell BK663.out 1).trans rfl, (blk_cell BK663.out 2).trans rfl, (blk_cell BK663.out 3).trans rfl, (blk_cell BK663.out 4).trans rfl, (blk_cell BK640.out 0).trans rfl, (blk_cell BK640.out 1).trans rfl, (blk_cell BK640.out 2).trans rfl, (blk_cell BK640.out 3).trans rfl, (blk_cell BK640.out 4).trans rfl⟩ (fun hHeld => ?_)
           clear hK K
           refine norm_ (a' := ?_) ?_ ?_
           rotate_left
           ·
            show Act.put _ (some 87) _ = _
            simp only [Act.put, zs, zs0, zs1, i64_w, i32_w]
            rfl
           refine one_ (i := 29) (N := some 88) (zl 36 1073741823) rfl rfl (one_of HT_.out (by kernel_rfl)) (by decide) (fun K hK => ?_)
           refine goes_ Try.func13 (by kernel_rfl) rfl #[.agg #[.int .i64 t650, .int .i64 t651, .int .i64 t652, .slice Ao57 t653.length co57, .slice Ao59 t656.length co59], .agg #[.int .i64 t664, .int .i64 t665, .int .i64 t666, .slice Ao74 t667.length co74, .slice Ao75 t670.length co75]] (by rfl) rfl rfl (zm) ?_
           with_reducible refine (standstillref04_Same.calls kj3 t650 t651 t652 _ _ t653 _ _ t656 t664 t665 t666 _ _ t667 _ _ t670 true _ ?side1 ?side2 ?side3 ?side4 ?side5 ?side6 ?side7 ?side8 A69.out).mono ?_
           (case side1 => exact zC ((Kd.V_reads' HO655.out).2.2))
           (case side2 => exact (Kd.V_reads' HO655.out).2.1)
           (case side3 => exact zC ((Kd.V_reads' HO658.out).2.2))
           (case side4 => exact (Kd.V_reads' HO658.out).2.1)
           (case side5 => exact zC ((Kd.V_reads' HO669.out).2.2))
           (case side6 => exact (Kd.V_reads' HO669.out).2.1)
           (case side7 => exact zC ((Kd.V_reads' HO672.out).2.2))
           (case side8 => exact (Kd.V_reads' HO672.out).2.1)
           rintro e w76 ⟨rfl, hb⟩
           refine ⟨_, rfl, ?_⟩
           replace HO624 := Aside0.mk (zSb HO624 hb)
           replace HO632 := Aside0.mk (zVb HO632 hb)
           replace HO635 := Aside0.mk (zVb HO635 hb)
           replace HO646 := Aside0.mk (zVb HO646 hb)
           replace HO649 := Aside0.mk (zVb HO649 hb)
           replace HO655 := Aside0.mk (zVb HO655 hb)
           replace HO658 := Aside0.mk (zVb HO658 hb)
           replace HO669 := Aside0.mk (zVb HO669 hb)
           replace HO672 := Aside0.mk (zVb HO672 hb)
           replace BK615 := Aside0.mk (zb BK615 hb)
           replace BK616 := Aside0.mk (zb BK616 hb)
           replace BK626 := Aside0.mk (zb BK626 hb)
           replace BK640 := Aside0.mk (zb BK640 hb)
           replace BK663 := Aside0.mk (zb BK663 hb)
           replace HB := Aside0.mk (below_step (zB HB) hb)
           (try clear hb)
           (try clear hb2)
           (try clear hk)
           (try clear hi)
           refine hK.out _ _ ⟨(blk_cell BK663.out 0).trans rfl, (blk_cell BK663.out 1).trans rfl, (blk_cell BK663.out 2).trans rfl, (blk_cell BK663.out 3).trans rfl, (blk_cell BK663.out 4).trans rfl, (blk_cell BK640.out 0).trans rfl, (blk_cell BK640.out 1).trans rfl, (blk_cell BK640.out 2).trans rfl, (blk_cell BK640.out 3).trans rfl, (blk_cell BK640.out 4).trans rfl⟩ (fun hHeld => ?_)
           clear hK K
           refine norm_ (a' := ?_) ?_ ?_
           rotate_left
           ·
            show Act.put _ (some 88) _ = _
            simp only [Act.put, zs, zs0, zs1, i64_w, i32_w]
            rfl
           refine zP 30 (some 89) (zl 36 2147483647) HT_ ?_
           refine zP 31 (some 90) (zl 36 4294967295) HT_ ?_
           refine zP 32 (some 91) (zl 36 8589934591) HT_ ?_
           refine one_ (i := 33) (N := some 92) (zl 36 17179869183) rfl rfl (one_of HT_.out (by kernel_rfl)) (by decide) (fun K hK => ?_)
           refine goes_ Try.func9 (by kernel_rfl) rfl #[] (by rfl) rfl rfl (zm) ?_
           with_reducible refine (standstilllaw04_awake.calls kj3  t674 _ A71.out).mono ?_
           rintro e w77 ⟨rfl, hb⟩
           refine ⟨_, rfl, ?_⟩
           replace HO624 := Aside0.mk (zSb HO624 hb)
           replace HO632 := Aside0.mk (zVb HO632 hb)
           replace HO635 := Aside0.mk (zVb HO635 hb)
           replace HO646 := Aside0.mk (zVb HO646 hb)
           replace HO649 := Aside0.mk (zVb HO649 hb)
           replace HO655 := Aside0.mk (zVb HO655 hb)
           replace HO658 := Aside0.mk (zVb HO658 hb)
           replace HO669 := Aside0.mk (zVb HO669 hb)
           replace HO672 := Aside0.mk (zVb HO672 hb)
           replace BK615 := Aside0.mk (zb BK615 hb)
           replace BK616 := Aside0.mk (zb BK616 hb)
           replace BK626 := Aside0.mk (zb BK626 hb)
           replace BK640 := Aside0.mk (zb BK640 hb)
           replace BK663 := Aside0.mk (zb BK663 hb)
           replace HB := Aside0.mk (below_step (zB HB) hb)
           (try clear hb)
           (try clear hb2)
           (try clear hk)
           (try clear hi)
           refine hK.out _ _ ⟨(blk_cell BK663.out 0).trans rfl, (blk_cell BK663.out 1).trans rfl, (blk_cell BK663.out 2).trans rfl, (blk_cell BK663.out 3).trans rfl, (blk_cell BK663.out 4).trans rfl, (blk_cell BK640.out 0).trans rfl, (blk_cell BK640.out 1).trans rfl, (blk_cell BK640.out 2).trans rfl, (blk_cell BK640.out 3).trans rfl, (blk_cell BK640.out 4).trans rfl⟩ (fun hHeld => ?_)
           clear hK K
           refine norm_ (a' := ?_) ?_ ?_
           rotate_left
           ·
            show Act.put _ (some 92) _ = _
            simp only [Act.put, zs, zs0, zs1, i64_w, i32_w]
            rfl
           refine zP 34 (some 93) (zl 36 34359738367) HT_ ?_
           refine zP 35 (some 6) (zl 36 68719476735) HT_ ?_
           refine done_ (done_of HT_.out (by kernel_rfl)) ?_
           try go_wp2
           go_ret
           exact ⟨by first | rfl | (simp [errW_none, errW_some] <;> rfl) | (simp [*, errW_none, errW_some] <;> rfl), zB HB⟩
          ·
           replace c70 := Bool.eq_false_iff.mpr c70
           subst c70
           have H1 : (some false) = some r := by rw [if_neg (show ¬ (false = true) by decide)] at H; exact H
           clear H
           have H := H1
           clear H1
           obtain rfl := Option.some.inj H
           try go_wp2
           replace HO624 := Aside0.mk (Kd.S_drew HO624.out)
           replace HO632 := Aside0.mk (Kd.V_drew HO632.out)
           replace HO635 := Aside0.mk (Kd.V_drew HO635.out)
           replace HO646 := Aside0.mk (Kd.V_drew HO646.out)
           replace HO649 := Aside0.mk (Kd.V_drew HO649.out)
           replace HO655 := Aside0.mk (Kd.V_drew HO655.out)
           replace HO658 := Aside0.mk (Kd.V_drew HO658.out)
           replace BK615 := Aside0.mk (blk_drew BK615.out)
           replace BK616 := Aside0.mk (blk_drew BK616.out)
           replace BK626 := Aside0.mk (blk_drew BK626.out)
           replace BK640 := Aside0.mk (blk_drew BK640.out)
           replace BK663 := Aside0.mk (blk_drew BK663.out)
           replace HB := Aside0.mk (below_drew1 HB.out)
           refine start_ (n := 36) (S := fun w' => w'.cell? ⟨gb663, 0, none⟩ = some (.int .i64 t650) ∧ w'.cell? ⟨gb663, 1, none⟩ = some (.int .i64 t651) ∧ w'.cell? ⟨gb663, 2, none⟩ = some (.int .i64 t652) ∧ w'.cell? ⟨gb663, 3, none⟩ = some (.slice Ao57 t653.length co57) ∧ w'.cell? ⟨gb663, 4, none⟩ = some (.slice Ao59 t656.length co59) ∧ w'.cell? ⟨gb640, 0, none⟩ = some (.int .i64 t627) ∧ w'.cell? ⟨gb640, 1, none⟩ = some (.int .i64 t628) ∧ w'.cell? ⟨gb640, 2, none⟩ = some (.int .i64 t629) ∧ w'.cell? ⟨gb640, 3, none⟩ = some (.slice Ao44 t630.length co44) ∧ w'.cell? ⟨gb640, 4, none⟩ = some (.slice Ao45 t633.length co45)) (ds := []) (zl 36 0) (by kernel_rfl) rfl rfl ⟨(blk_cell BK663.out 0).trans rfl, (blk_cell BK663.out 1).trans rfl, (blk_cell BK663.out 2).trans rfl, (blk_cell BK663.out 3).trans rfl, (blk_cell BK663.out 4).trans rfl, (blk_cell BK640.out 0).trans rfl, (blk_cell BK640.out 1).trans rfl, (blk_cell BK640.out 2).trans rfl, (blk_cell BK640.out 3).trans rfl, (blk_cell BK640.out 4).trans rfl⟩ (fun hHeld => ?_); refine with_tabW standstilllaw04_LeapMirror.tab6 standstilllaw04_LeapMirror.bits6 (fun HT_ HW_ => ?_)
           generalize w61.drew = w78 at HO624 HO632 HO635 HO646 HO649 HO655 HO658 BK615 BK616 BK626 BK640 BK663 HB hHeld ⊢
           refine zP 0 (some 59) (zl 36 1) HT_ ?_
           refine zP 1 (some 60) (zl 36 3) HT_ ?_
           refine zP 2 (some 61) (zl 36 7) HT_ ?_
           refine zP 3 (some 62) (zl 36 15) HT_ ?_
           refine zP 4 (some 63) (zl 36 31) HT_ ?_
           refine zP 5 (some 64) (zl 36 63) HT_ ?_
           refine zP 6 (some 65) (zl 36 127) HT_ ?_
           refine zP 7 (some 66) (zl 36 255) HT_ ?_
           refine zP 8 (some 67) (zl 36 511) HT_ ?_
           refine zP 9 (some 68) (zl 36 1023) HT_ ?_
           refine zP 10 (some 69) (zl 36 2047) HT_ ?_
           refine zP 11 (some 70) (zl 36 4095) HT_ ?_
           refine zP 12 (some 71) (zl 36 8191) HT_ ?_
           refine zP 13 (some 72) (zl 36 16383) HT_ ?_
           refine zP 14 (some 73) (zl 36 32767) HT_ ?_
           refine zP 15 (some 74) (zl 36 65535) HT_ ?_
           refine zP 16 (some 75) (zl 36 131071) HT_ ?_
           refine zP 17 (some 76) (zl 36 262143) HT_ ?_
           refine zP 18 (some 77) (zl 36 524287) HT_ ?_
           refine zP 19 (some 78) (zl 36 1048575) HT_ ?_
           refine zP 20 (some 79) (zl 36 2097151) HT_ ?_
           refine zP 21 (some 80) (zl 36 4194303) HT_ ?_
           refine zP 22 (some 81) (zl 36 8388607) HT_ ?_
           refine zP 23 (some 82) (zl 36 16777215) HT_ ?_
           refine zP 24 (some 83) (zl 36 33554431) HT_ ?_
           refine zP 25 (some 84) (zl 36 67108863) HT_ ?_
           refine zT 26 (some 85) (zl 36 134217727) HT_ HW_ hHeld ?_
           refine zT 27 (some 86) (zl 36 268435455) HT_ HW_ hHeld ?_
           refine one_ (i := 28) (N := some 87) (zl 36 536870911) rfl rfl (one_of HT_.out (by kernel_rfl)) (by decide) (fun K hK => ?_)
           refine goes_ Try.func20 (by kernel_rfl) rfl #[.agg #[.int .i64 t627, .int .i64 t628, .int .i64 t629, .slice Ao44 t630.length co44, .slice Ao45 t633.length co45]] (by rfl) rfl rfl (zm) ?_
           with_reducible refine (standstilllaw04_mirrored.calls t627 t628 t629 (fun k_ => (some k_ ≠ (.slice Ao35 t622.length co35 : Value).ownBlock ∧ (k_ ≠ gb615 ∧ (k_ ≠ gb616 ∧ (k_ ≠ gb626 ∧ (k_ ≠ gb640 ∧ k_ ≠ gb663)))))) _ _ t630 (fun k_ => (some k_ ≠ (.slice Ao35 t622.length co35 : Value).ownBlock ∧ (k_ ≠ gb615 ∧ (k_ ≠ gb616 ∧ (k_ ≠ gb626 ∧ (k_ ≠ gb640 ∧ k_ ≠ gb663)))))) _ _ t633 t664 t665 t666 t667 t670 _ ?side1 ?side2 A68.out).mono ?_
           (case side1 => exact HO632.out)
           (case side2 => exact HO635.out)
           rintro e w79 ⟨v668, v671, rfl, ho0, ho1, hb⟩
           refine ⟨_, rfl, ?_⟩
           have HO669 := Aside0.mk (Kd.V_lower (Kd.V_mono (ok' := fun k_ => some k_ ≠ (.slice Ao35 t622.length co35 : Value).ownBlock ∧ k_ ≠ gb615 ∧ k_ ≠ gb616 ∧ k_ ≠ gb626 ∧ k_ ≠ gb640 ∧ k_ ≠ gb663) ho0 (fun k_ hk_ => ⟨Or.elim hk_ (fun hs_ => Or.elim hs_ (fun hs_ => hs_.1) (fun hs_ => hs_.1)) (fun hn_ => (Kd.fresh' (Kd.S_lt (zS HO624)) k_ hn_)), Or.elim hk_ (fun hs_ => Or.elim hs_ (fun hs_ => hs_.2.1) (fun hs_ => hs_.2.1)) (fun hn_ => zf BK615 hn_), Or.elim hk_ (fun hs_ => Or.elim hs_ (fun hs_ => hs_.2.2.1) (fun hs_ => hs_.2.2.1)) (fun hn_ => zf BK616 hn_), Or.elim hk_ (fun hs_ => Or.elim hs_ (fun hs_ => hs_.2.2.2.1) (fun hs_ => hs_.2.2.2.1)) (fun hn_ => zf BK626 hn_), Or.elim hk_ (fun hs_ => Or.elim hs_ (fun hs_ => hs_.2.2.2.2.1) (fun hs_ => hs_.2.2.2.2.1)) (fun hn_ => zf BK640 hn_), Or.elim hk_ (fun hs_ => Or.elim hs_ (fun hs_ => hs_.2.2.2.2.2) (fun hs_ => hs_.2.2.2.2.2)) (fun hn_ => zf BK663 hn_)⟩)) (below_size (zB HB)))
           have HO672 := Aside0.mk (Kd.V_lower (Kd.V_mono (ok' := fun k_ => some k_ ≠ (.slice Ao35 t622.length co35 : Value).ownBlock ∧ k_ ≠ gb615 ∧ k_ ≠ gb616 ∧ k_ ≠ gb626 ∧ k_ ≠ gb640 ∧ k_ ≠ gb663) ho1 (fun k_ hk_ => ⟨Or.elim hk_ (fun hs_ => Or.elim hs_ (fun hs_ => hs_.1) (fun hs_ => hs_.1)) (fun hn_ => (Kd.fresh' (Kd.S_lt (zS HO624)) k_ hn_)), Or.elim hk_ (fun hs_ => Or.elim hs_ (fun hs_ => hs_.2.1) (fun hs_ => hs_.2.1)) (fun hn_ => zf BK615 hn_), Or.elim hk_ (fun hs_ => Or.elim hs_ (fun hs_ => hs_.2.2.1) (fun hs_ => hs_.2.2.1)) (fun hn_ => zf BK616 hn_), Or.elim hk_ (fun hs_ => Or.elim hs_ (fun hs_ => hs_.2.2.2.1) (fun hs_ => hs_.2.2.2.1)) (fun hn_ => zf BK626 hn_), Or.elim hk_ (fun hs_ => Or.elim hs_ (fun hs_ => hs_.2.2.2.2.1) (fun hs_ => hs_.2.2.2.2.1)) (fun hn_ => zf BK640 hn_), Or.elim hk_ (fun hs_ => Or.elim hs_ (fun hs_ => hs_.2.2.2.2.2) (fun hs_ => hs_.2.2.2.2.2)) (fun hn_ => zf BK663 hn_)⟩)) (below_size (zB HB)))
           replace HO624 := Aside0.mk (zSb HO624 hb)
           replace HO632 := Aside0.mk (zVb HO632 hb)
           replace HO635 := Aside0.mk (zVb HO635 hb)
           replace HO646 := Aside0.mk (zVb HO646 hb)
           replace HO649 := Aside0.mk (zVb HO649 hb)
           replace HO655 := Aside0.mk (zVb HO655 hb)
           replace HO658 := Aside0.mk (zVb HO658 hb)
           replace BK615 := Aside0.mk (zb BK615 hb)
           replace BK616 := Aside0.mk (zb BK616 hb)
           replace BK626 := Aside0.mk (zb BK626 hb)
           replace BK640 := Aside0.mk (zb BK640 hb)
           replace BK663 := Aside0.mk (zb BK663 hb)
           replace HB := Aside0.mk (below_step (zB HB) hb)
           (try clear hb)
           (try clear hb2)
           (try clear hk)
           (try clear hi)
           (try clear ho0)
           (try clear ho1)
           obtain ⟨Ao80, co80, eo80⟩ := Kd.V_slice HO669.out
           (first | subst eo80 | (injection eo80 with f1_ f2_ f3_; have f4_ := f1_.symm; have f5_ := f3_.symm; clear f1_ f2_ f3_; subst f4_; subst f5_))
           obtain ⟨Ao81, co81, eo81⟩ := Kd.V_slice HO672.out
           (first | subst eo81 | (injection eo81 with f1_ f2_ f3_; have f4_ := f1_.symm; have f5_ := f3_.symm; clear f1_ f2_ f3_; subst f4_; subst f5_))
           refine hK.out _ _ ⟨(blk_cell BK663.out 0).trans rfl, (blk_cell BK663.out 1).trans rfl, (blk_cell BK663.out 2).trans rfl, (blk_cell BK663.out 3).trans rfl, (blk_cell BK663.out 4).trans rfl, (blk_cell BK640.out 0).trans rfl, (blk_cell BK640.out 1).trans rfl, (blk_cell BK640.out 2).trans rfl, (blk_cell BK640.out 3).trans rfl, (blk_cell BK640.out 4).trans rfl⟩ (fun hHeld => ?_)
           clear hK K
           refine norm_ (a' := ?_) ?_ ?_
           rotate_left
           ·
            show Act.put _ (some 87) _ = _
            simp only [Act.put, zs, zs0, zs1, i64_w, i32_w]
            rfl
           refine one_ (i := 29) (N := some 88) (zl 36 1073741823) rfl rfl (one_of HT_.out (by kernel_rfl)) (by decide) (fun K hK => ?_)
           refine goes_ Try.func13 (by kernel_rfl) rfl #[.agg #[.int .i64 t650, .int .i64 t651, .int .i64 t652, .slice Ao57 t653.length co57, .slice Ao59 t656.length co59], .agg #[.int .i64 t664, .int .i64 t665, .int .i64 t666, .slice Ao80 t667.length co80, .slice Ao81 t670.length co81]] (by rfl) rfl rfl (zm) ?_
           with_reducible refine (standstillref04_Same.calls kj3 t650 t651 t652 _ _ t653 _ _ t656 t664 t665 t666 _ _ t667 _ _ t670 false _ ?side1 ?side2 ?side3 ?side4 ?side5 ?side6 ?side7 ?side8 A69.out).mono ?_
           (case side1 => exact zC ((Kd.V_reads' HO655.out).2.2))
           (case side2 => exact (Kd.V_reads' HO655.out).2.1)
           (case side3 => exact zC ((Kd.V_reads' HO658.out).2.2))
           (case side4 => exact (Kd.V_reads' HO658.out).2.1)
           (case side5 => exact zC ((Kd.V_reads' HO669.out).2.2))
           (case side6 => exact (Kd.V_reads' HO669.out).2.1)
           (case side7 => exact zC ((Kd.V_reads' HO672.out).2.2))
           (case side8 => exact (Kd.V_reads' HO672.out).2.1)
           rintro e w82 ⟨rfl, hb⟩
           refine ⟨_, rfl, ?_⟩
           replace HO624 := Aside0.mk (zSb HO624 hb)
           replace HO632 := Aside0.mk (zVb HO632 hb)
           replace HO635 := Aside0.mk (zVb HO635 hb)
           replace HO646 := Aside0.mk (zVb HO646 hb)
           replace HO649 := Aside0.mk (zVb HO649 hb)
           replace HO655 := Aside0.mk (zVb HO655 hb)
           replace HO658 := Aside0.mk (zVb HO658 hb)
           replace HO669 := Aside0.mk (zVb HO669 hb)
           replace HO672 := Aside0.mk (zVb HO672 hb)
           replace BK615 := Aside0.mk (zb BK615 hb)
           replace BK616 := Aside0.mk (zb BK616 hb)
           replace BK626 := Aside0.mk (zb BK626 hb)
           replace BK640 := Aside0.mk (zb BK640 hb)
           replace BK663 := Aside0.mk (zb BK663 hb)
           replace HB := Aside0.mk (below_step (zB HB) hb)
           (try clear hb)
           (try clear hb2)
           (try clear hk)
           (try clear hi)
           refine hK.out _ _ ⟨(blk_cell BK663.out 0).trans rfl, (blk_cell BK663.out 1).trans rfl, (blk_cell BK663.out 2).trans rfl, (blk_cell BK663.out 3).trans rfl, (blk_cell BK663.out 4).trans rfl, (blk_cell BK640.out 0).trans rfl, (blk_cell BK640.out 1).trans rfl, (blk_cell BK640.out 2).trans rfl, (blk_cell BK640.out 3).trans rfl, (blk_cell BK640.out 4).trans rfl⟩ (fun hHeld => ?_)
           clear hK K
           refine norm_ (a' := ?_) ?_ ?_
           rotate_left
           ·
            show Act.put _ (some 88) _ = _
            simp only [Act.put, zs, zs0, zs1, i64_w, i32_w]
            rfl
           refine zP 30 (some 89) (zl 36 2147483647) HT_ ?_
           refine zP 31 (some 90) (zl 36 4294967295) HT_ ?_
           refine zP 32 (some 91) (zl 36 8589934591) HT_ ?_
           refine pure_ (i := 33) (N := some 92) (v := undef) (a' := ?_) (zl 36 17179869183) rfl rfl (any_of HT_.out (by kernel_rfl)) (fun _ _ _ h => h) (Or.inr ⟨by rfl, rfl⟩) ?_ ?_
           rotate_left
           ·
            simp only [Act.put, zs, zs0, zs1, i64_w, i32_w]
            rfl
           refine zP 34 (some 93) (zl 36 34359738367) HT_ ?_
           refine zP 35 (some 6) (zl 36 68719476735) HT_ ?_
           refine done_ (done_of HT_.out (by kernel_rfl)) ?_
           try go_wp2
           go_ret
           exact ⟨by first | rfl | (simp [errW_none, errW_some] <;> rfl) | (simp [*, errW_none, errW_some] <;> rfl), zB HB⟩
         ·
          rw [if_neg c67] at H
          have c67b0 : (t639 == 0) = false := beq_eq_false_iff_ne.mpr c67
          have c67b1 : (t639 != 0) = true := bne_iff_ne.mpr c67
          replace H := Option.bind_eq_some_iff.mp H
          obtain ⟨t675, A830, H⟩ := H
          replace H : (some t675) = some r := H
          have A83 := Aside0.mk A830
          clear A830
          obtain rfl := Option.some.inj H
          try go_wp2
          replace HO624 := Aside0.mk (Kd.S_drew HO624.out)
          replace HO632 := Aside0.mk (Kd.V_drew HO632.out)
          replace HO635 := Aside0.mk (Kd.V_drew HO635.out)
          replace HO646 := Aside0.mk (Kd.V_drew HO646.out)
          replace HO649 := Aside0.mk (Kd.V_drew HO649.out)
          replace HO655 := Aside0.mk (Kd.V_drew HO655.out)
          replace HO658 := Aside0.mk (Kd.V_drew HO658.out)
          replace BK615 := Aside0.mk (blk_drew BK615.out)
          replace BK616 := Aside0.mk (blk_drew BK616.out)
          replace BK626 := Aside0.mk (blk_drew BK626.out)
          replace BK640 := Aside0.mk (blk_drew BK640.out)
          replace BK663 := Aside0.mk (blk_drew BK663.out)
          replace HB := Aside0.mk (below_drew1 HB.out)
          refine start_ (n := 36) (S := fun w' => True) (ds := []) (zl 36 0) (by kernel_rfl) rfl rfl trivial (fun hHeld => ?_); refine with_tabW standstilllaw04_LeapMirror.tab6 standstilllaw04_LeapMirror.bits6 (fun HT_ HW_ => ?_)
          generalize w61.drew = w84 at HO624 HO632 HO635 HO646 HO649 HO655 HO658 BK615 BK616 BK626 BK640 BK663 HB hHeld ⊢
          refine zP 0 (some 59) (zl 36 1) HT_ ?_
          refine zP 1 (some 60) (zl 36 3) HT_ ?_
          refine zP 2 (some 61) (zl 36 7) HT_ ?_
          refine zP 3 (some 62) (zl 36 15) HT_ ?_
          refine zP 4 (some 63) (zl 36 31) HT_ ?_
          refine zP 5 (some 64) (zl 36 63) HT_ ?_
          refine zP 6 (some 65) (zl 36 127) HT_ ?_
          refine zP 7 (some 66) (zl 36 255) HT_ ?_
          refine zP 8 (some 67) (zl 36 511) HT_ ?_
          refine zP 9 (some 68) (zl 36 1023) HT_ ?_
          refine zP 10 (some 69) (zl 36 2047) HT_ ?_
          refine zP 11 (some 70) (zl 36 4095) HT_ ?_
          refine zP 12 (some 71) (zl 36 8191) HT_ ?_
          refine zP 13 (some 72) (zl 36 16383) HT_ ?_
          refine zP 14 (some 73) (zl 36 32767) HT_ ?_
          refine zP 15 (some 74) (zl 36 65535) HT_ ?_
          refine zP 16 (some 75) (zl 36 131071) HT_ ?_
          refine zP 17 (some 76) (zl 36 262143) HT_ ?_
          refine zP 18 (some 77) (zl 36 524287) HT_ ?_
          refine zP 19 (some 78) (zl 36 1048575) HT_ ?_
          refine zP 20 (some 79) (zl 36 2097151) HT_ ?_
          refine zP 21 (some 80) (zl 36 4194303) HT_ ?_
          refine zP 22 (some 81) (zl 36 8388607) HT_ ?_
          refine zP 23 (some 82) (zl 36 16777215) HT_ ?_
          refine zP 24 (some 83) (zl 36 33554431) HT_ ?_
          refine zP 25 (some 84) (zl 36 67108863) HT_ ?_
          refine pure_ (i := 26) (N := some 85) (v := undef) (a' := ?_) (zl 36 134217727) rfl rfl (any_of HT_.out (by kernel_rfl)) (fun _ _ _ h => h) (Or.inr ⟨by rfl, rfl⟩) ?_ ?_
          rotate_left
          ·
           simp only [Act.put, zs, zs0, zs1, i64_w, i32_w]
           rfl
          refine pure_ (i := 27) (N := some 86) (v := undef) (a' := ?_) (zl 36 268435455) rfl rfl (any_of HT_.out (by kernel_rfl)) (fun _ _ _ h => h) (Or.inr ⟨by rfl, rfl⟩) ?_ ?_
          rotate_left
          ·
           simp only [Act.put, zs, zs0, zs1, i64_w, i32_w]
           rfl
          refine pure_ (i := 28) (N := some 87) (v := undef) (a' := ?_) (zl 36 536870911) rfl rfl (any_of HT_.out (by kernel_rfl)) (fun _ _ _ h => h) (Or.inr ⟨by rfl, rfl⟩) ?_ ?_
          rotate_left
          ·
           simp only [Act.put, zs, zs0, zs1, i64_w, i32_w]
           rfl
          refine pure_ (i := 29) (N := some 88) (v := undef) (a' := ?_) (zl 36 1073741823) rfl rfl (any_of HT_.out (by kernel_rfl)) (fun _ _ _ h => h) (Or.inr ⟨by rfl, rfl⟩) ?_ ?_
          rotate_left
          ·
           simp only [Act.put, zs, zs0, zs1, i64_w, i32_w]
           rfl
          refine zP 30 (some 89) (zl 36 2147483647) HT_ ?_
          refine zP 31 (some 90) (zl 36 4294967295) HT_ ?_
          refine zP 32 (some 91) (zl 36 8589934591) HT_ ?_
          refine one_ (i := 33) (N := some 92) (zl 36 17179869183) rfl rfl (one_of HT_.out (by kernel_rfl)) (by decide) (fun K hK => ?_)
          refine goes_ Try.func9 (by kernel_rfl) rfl #[] (by rfl) rfl rfl (zm) ?_
          with_reducible refine (standstilllaw04_awake.calls kj3  t675 _ A83.out).mono ?_
          rintro e w85 ⟨rfl, hb⟩
          refine ⟨_, rfl, ?_⟩
          replace HO624 := Aside0.mk (zSb HO624 hb)
          replace HO632 := Aside0.mk (zVb HO632 hb)
          replace HO635 := Aside0.mk (zVb HO635 hb)
          replace HO646 := Aside0.mk (zVb HO646 hb)
          replace HO649 := Aside0.mk (zVb HO649 hb)
          replace HO655 := Aside0.mk (zVb HO655 hb)
          replace HO658 := Aside0.mk (zVb HO658 hb)
          replace BK615 := Aside0.mk (zb BK615 hb)
          replace BK616 := Aside0.mk (zb BK616 hb)
          replace BK626 := Aside0.mk (zb BK626 hb)
          replace BK640 := Aside0.mk (zb BK640 hb)
          replace BK663 := Aside0.mk (zb BK663 hb)
          replace HB := Aside0.mk (below_step (zB HB) hb)
          (try clear hb)
          (try clear hb2)
          (try clear hk)
          (try clear hi)
          refine hK.out _ _ trivial (fun hHeld => ?_)
          clear hK K
          refine norm_ (a' := ?_) ?_ ?_
          rotate_left
          ·
           show Act.put _ (some 92) _ = _
           simp only [Act.put, zs, zs0, zs1, i64_w, i32_w]
           rfl
          refine zP 34 (some 93) (zl 36 34359738367) HT_ ?_
          refine zP 35 (some 6) (zl 36 68719476735) HT_ ?_
          refine done_ (done_of HT_.out (by kernel_rfl)) ?_
          try go_wp2
          go_ret
          exact ⟨by first | rfl | (simp [errW_none, errW_some] <;> rfl) | (simp [*, errW_none, errW_some] <;> rfl), zB HB⟩
        ·
         rw [if_neg c66] at H
         have c66b0 : (t638 == t661) = false := by simpa using c66
         (try (have c66b1 : decide (t638 = t661) = false := by simpa using c66))
         (try (have c66b2 : (t638 == t661) = false := by simpa using c66))
         (try (have c66b3 : ¬ (t638 = t661) := by simpa using c66))
         clear c66
         obtain rfl := Option.some.inj H
         try go_wp2
         replace HO624 := Aside0.mk (Kd.S_drew HO624.out)
         replace HO632 := Aside0.mk (Kd.V_drew HO632.out)
         replace HO635 := Aside0.mk (Kd.V_drew HO635.out)
         replace HO646 := Aside0.mk (Kd.V_drew HO646.out)
         replace HO649 := Aside0.mk (Kd.V_drew HO649.out)
         replace HO655 := Aside0.mk (Kd.V_drew HO655.out)
         replace HO658 := Aside0.mk (Kd.V_drew HO658.out)
         replace BK615 := Aside0.mk (blk_drew BK615.out)
         replace BK616 := Aside0.mk (blk_drew BK616.out)
         replace BK626 := Aside0.mk (blk_drew BK626.out)
         replace BK640 := Aside0.mk (blk_drew BK640.out)
         replace BK663 := Aside0.mk (blk_drew BK663.out)
         replace HB := Aside0.mk (below_drew1 HB.out)
         refine start_ (n := 36) (S := fun w' => True) (ds := []) (zl 36 0) (by kernel_rfl) rfl rfl trivial (fun hHeld => ?_); refine with_tabW standstilllaw04_LeapMirror.tab6 standstilllaw04_LeapMirror.bits6 (fun HT_ HW_ => ?_)
         generalize w61.drew = w86 at HO624 HO632 HO635 HO646 HO649 HO655 HO658 BK615 BK616 BK626 BK640 BK663 HB hHeld ⊢
         refine zP 0 (some 59) (zl 36 1) HT_ ?_
         refine zP 1 (some 60) (zl 36 3) HT_ ?_
         refine zP 2 (some 61) (zl 36 7) HT_ ?_
         refine zP 3 (some 62) (zl 36 15) HT_ ?_
         refine zP 4 (some 63) (zl 36 31) HT_ ?_
         refine zP 5 (some 64) (zl 36 63) HT_ ?_
         refine zP 6 (some 65) (zl 36 127) HT_ ?_
         refine zP 7 (some 66) (zl 36 255) HT_ ?_
         refine zP 8 (some 67) (zl 36 511) HT_ ?_
         refine zP 9 (some 68) (zl 36 1023) HT_ ?_
         refine zP 10 (some 69) (zl 36 2047) HT_ ?_
         refine zP 11 (some 70) (zl 36 4095) HT_ ?_
         refine zP 12 (some 71) (zl 36 8191) HT_ ?_
         refine zP 13 (some 72) (zl 36 16383) HT_ ?_
         refine zP 14 (some 73) (zl 36 32767) HT_ ?_
         refine zP 15 (some 74) (zl 36 65535) HT_ ?_
         refine zP 16 (some 75) (zl 36 131071) HT_ ?_
         refine zP 17 (some 76) (zl 36 262143) HT_ ?_
         refine zP 18 (some 77) (zl 36 524287) HT_ ?_
         refine zP 19 (some 78) (zl 36 1048575) HT_ ?_
         refine zP 20 (some 79) (zl 36 2097151) HT_ ?_
         refine zP 21 (some 80) (zl 36 4194303) HT_ ?_
         refine zP 22 (some 81) (zl 36 8388607) HT_ ?_
         refine pure_ (i := 23) (N := some 82) (v := undef) (a' := ?_) (zl 36 16777215) rfl rfl (any_of HT_.out (by kernel_rfl)) (fun _ _ _ h => h) (Or.inr ⟨by rfl, rfl⟩) ?_ ?_
         rotate_left
         ·
          simp only [Act.put, zs, zs0, zs1, i64_w, i32_w]
          rfl
         refine pure_ (i := 24) (N := some 83) (v := undef) (a' := ?_) (zl 36 33554431) rfl rfl (any_of HT_.out (by kernel_rfl)) (fun _ _ _ h => h) (Or.inr ⟨by rfl, rfl⟩) ?_ ?_
         rotate_left
         ·
          simp only [Act.put, zs, zs0, zs1, i64_w, i32_w]
          rfl
         refine pure_ (i := 25) (N := some 84) (v := undef) (a' := ?_) (zl 36 67108863) rfl rfl (any_of HT_.out (by kernel_rfl)) (fun _ _ _ h => h) (Or.inr ⟨by rfl, rfl⟩) ?_ ?_
         rotate_left
         ·
          simp only [Act.put, zs, zs0, zs1, i64_w, i32_w]
          rfl
         refine pure_ (i := 26) (N := some 85) (v := undef) (a' := ?_) (zl 36 134217727) rfl rfl (any_of HT_.out (by kernel_rfl)) (fun _ _ _ h => h) (Or.inr ⟨by rfl, rfl⟩) ?_ ?_
         rotate_left
         ·
          simp only [Act.put, zs, zs0, zs1, i64_w, i32_w]
          rfl
         refine pure_ (i := 27) (N := some 86) (v := undef) (a' := ?_) (zl 36 268435455) rfl rfl (any_of HT_.out (by kernel_rfl)) (fun _ _ _ h => h) (Or.inr ⟨by rfl, rfl⟩) ?_ ?_
         rotate_left
         ·
          simp only [Act.put, zs, zs0, zs1, i64_w, i32_w]
          rfl
         refine pure_ (i := 28) (N := some 87) (v := undef) (a' := ?_) (zl 36 536870911) rfl rfl (any_of HT_.out (by kernel_rfl)) (fun _ _ _ h => h) (Or.inr ⟨by rfl, rfl⟩) ?_ ?_
         rotate_left
         ·
          simp only [Act.put, zs, zs0, zs1, i64_w, i32_w]
          rfl
         refine pure_ (i := 29) (N := some 88) (v := undef) (a' := ?_) (zl 36 1073741823) rfl rfl (any_of HT_.out (by kernel_rfl)) (fun _ _ _ h => h) (Or.inr ⟨by rfl, rfl⟩) ?_ ?_
         rotate_left
         ·
          simp only [Act.put, zs, zs0, zs1, i64_w, i32_w]
          rfl
         refine pure_ (i := 30) (N := some 89) (v := undef) (a' := ?_) (zl 36 2147483647) rfl rfl (any_of HT_.out (by kernel_rfl)) (fun _ _ _ h => h) (Or.inr ⟨by rfl, rfl⟩) ?_ ?_
         rotate_left
         ·
          simp only [Act.put, zs, zs0, zs1, i64_w, i32_w]
          rfl
         refine zP 31 (some 90) (zl 36 4294967295) HT_ ?_
         refine zP 32 (some 91) (zl 36 8589934591) HT_ ?_
         refine pure_ (i := 33) (N := some 92) (v := undef) (a' := ?_) (zl 36 17179869183) rfl rfl (any_of HT_.out (by kernel_rfl)) (fun _ _ _ h => h) (Or.inr ⟨by rfl, rfl⟩) ?_ ?_
         rotate_left
         ·
          simp only [Act.put, zs, zs0, zs1, i64_w, i32_w]
          rfl
         refine zP 34 (some 93) (zl 36 34359738367) HT_ ?_
         refine zP 35 (some 6) (zl 36 68719476735) HT_ ?_
         refine done_ (done_of HT_.out (by kernel_rfl)) ?_
         try go_wp2
         go_ret
         exact ⟨by first | rfl | (simp [errW_none, errW_some] <;> rfl) | (simp [*, errW_none, errW_some] <;> rfl), zB HB⟩
       ·
        rw [if_neg c65] at H
        have c65b0 : (t637 == t660) = false := beq_eq_false_iff_ne.mpr c65
        have c65b1 : (t637 != t660) = true := bne_iff_ne.mpr c65
        obtain rfl := Option.some.inj H
        try go_wp2
        replace HO624 := Aside0.mk (Kd.S_drew HO624.out)
        replace HO632 := Aside0.mk (Kd.V_drew HO632.out)
        replace HO635 := Aside0.mk (Kd.V_drew HO635.out)
        replace HO646 := Aside0.mk (Kd.V_drew HO646.out)
        replace HO649 := Aside0.mk (Kd.V_drew HO649.out)
        replace HO655 := Aside0.mk (Kd.V_drew HO655.out)
        replace HO658 := Aside0.mk (Kd.V_drew HO658.out)
        replace BK615 := Aside0.mk (blk_drew BK615.out)
        replace BK616 := Aside0.mk (blk_drew BK616.out)
        replace BK626 := Aside0.mk (blk_drew BK626.out)
        replace BK640 := Aside0.mk (blk_drew BK640.out)
        replace BK663 := Aside0.mk (blk_drew BK663.out)
        replace HB := Aside0.mk (below_drew1 HB.out)
        refine start_ (n := 36) (S := fun w' => True) (ds := []) (zl 36 0) (by kernel_rfl) rfl rfl trivial (fun hHeld => ?_); refine with_tabW standstilllaw04_LeapMirror.tab6 standstilllaw04_LeapMirror.bits6 (fun HT_ HW_ => ?_)
        generalize w61.drew = w87 at HO624 HO632 HO635 HO646 HO649 HO655 HO658 BK615 BK616 BK626 BK640 BK663 HB hHeld ⊢
        refine zP 0 (some 59) (zl 36 1) HT_ ?_
        refine zP 1 (some 60) (zl 36 3) HT_ ?_
        refine zP 2 (some 61) (zl 36 7) HT_ ?_
        refine zP 3 (some 62) (zl 36 15) HT_ ?_
        refine zP 4 (some 63) (zl 36 31) HT_ ?_
        refine zP 5 (some 64) (zl 36 63) HT_ ?_
        refine zP 6 (some 65) (zl 36 127) HT_ ?_
        refine zP 7 (some 66) (zl 36 255) HT_ ?_
        refine zP 8 (some 67) (zl 36 511) HT_ ?_
        refine zP 9 (some 68) (zl 36 1023) HT_ ?_
        refine zP 10 (some 69) (zl 36 2047) HT_ ?_
        refine zP 11 (some 70) (zl 36 4095) HT_ ?_
        refine zP 12 (some 71) (zl 36 8191) HT_ ?_
        refine zP 13 (some 72) (zl 36 16383) HT_ ?_
        refine zP 14 (some 73) (zl 36 32767) HT_ ?_
        refine zP 15 (some 74) (zl 36 65535) HT_ ?_
        refine zP 16 (some 75) (zl 36 131071) HT_ ?_
        refine zP 17 (some 76) (zl 36 262143) HT_ ?_
        refine pure_ (i := 18) (N := some 77) (v := undef) (a' := ?_) (zl 36 524287) rfl rfl (any_of HT_.out (by kernel_rfl)) (fun _ _ _ h => h) (Or.inr ⟨by rfl, rfl⟩) ?_ ?_
        rotate_left
        ·
         simp only [Act.put, zs, zs0, zs1, i64_w, i32_w]
         rfl
        refine pure_ (i := 19) (N := some 78) (v := undef) (a' := ?_) (zl 36 1048575) rfl rfl (any_of HT_.out (by kernel_rfl)) (fun _ _ _ h => h) (Or.inr ⟨by rfl, rfl⟩) ?_ ?_
        rotate_left
        ·
         simp only [Act.put, zs, zs0, zs1, i64_w, i32_w]
         rfl
        refine pure_ (i := 20) (N := some 79) (v := undef) (a' := ?_) (zl 36 2097151) rfl rfl (any_of HT_.out (by kernel_rfl)) (fun _ _ _ h => h) (Or.inr ⟨by rfl, rfl⟩) ?_ ?_
        rotate_left
        ·
         simp only [Act.put, zs, zs0, zs1, i64_w, i32_w]
         rfl
        refine zP 21 (some 80) (zl 36 4194303) HT_ ?_
        refine zP 22 (some 81) (zl 36 8388607) HT_ ?_
        refine pure_ (i := 23) (N := some 82) (v := undef) (a' := ?_) (zl 36 16777215) rfl rfl (any_of HT_.out (by kernel_rfl)) (fun _ _ _ h => h) (Or.inr ⟨by rfl, rfl⟩) ?_ ?_
        rotate_left
        ·
         simp only [Act.put, zs, zs0, zs1, i64_w, i32_w]
         rfl
        refine pure_ (i := 24) (N := some 83) (v := undef) (a' := ?_) (zl 36 33554431) rfl rfl (any_of HT_.out (by kernel_rfl)) (fun _ _ _ h => h) (Or.inr ⟨by rfl, rfl⟩) ?_ ?_
        rotate_left
        ·
         simp only [Act.put, zs, zs0, zs1, i64_w, i32_w]
         rfl
        refine pure_ (i := 25) (N := some 84) (v := undef) (a' := ?_) (zl 36 67108863) rfl rfl (any_of HT_.out (by kernel_rfl)) (fun _ _ _ h => h) (Or.inr ⟨by rfl, rfl⟩) ?_ ?_
        rotate_left
        ·
         simp only [Act.put, zs, zs0, zs1, i64_w, i32_w]
         rfl
        refine pure_ (i := 26) (N := some 85) (v := undef) (a' := ?_) (zl 36 134217727) rfl rfl (any_of HT_.out (by kernel_rfl)) (fun _ _ _ h => h) (Or.inr ⟨by rfl, rfl⟩) ?_ ?_
        rotate_left
        ·
         simp only [Act.put, zs, zs0, zs1, i64_w, i32_w]
         rfl
        refine pure_ (i := 27) (N := some 86) (v := undef) (a' := ?_) (zl 36 268435455) rfl rfl (any_of HT_.out (by kernel_rfl)) (fun _ _ _ h => h) (Or.inr ⟨by rfl, rfl⟩) ?_ ?_
        rotate_left
        ·
         simp only [Act.put, zs, zs0, zs1, i64_w, i32_w]
         rfl
        refine pure_ (i := 28) (N := some 87) (v := undef) (a' := ?_) (zl 36 536870911) rfl rfl (any_of HT_.out (by kernel_rfl)) (fun _ _ _ h => h) (Or.inr ⟨by rfl, rfl⟩) ?_ ?_
        rotate_left
        ·
         simp only [Act.put, zs, zs0, zs1, i64_w, i32_w]
         rfl
        refine pure_ (i := 29) (N := some 88) (v := undef) (a' := ?_) (zl 36 1073741823) rfl rfl (any_of HT_.out (by kernel_rfl)) (fun _ _ _ h => h) (Or.inr ⟨by rfl, rfl⟩) ?_ ?_
        rotate_left
        ·
         simp only [Act.put, zs, zs0, zs1, i64_w, i32_w]
         rfl
        refine pure_ (i := 30) (N := some 89) (v := undef) (a' := ?_) (zl 36 2147483647) rfl rfl (any_of HT_.out (by kernel_rfl)) (fun _ _ _ h => h) (Or.inr ⟨by rfl, rfl⟩) ?_ ?_
        rotate_left
        ·
         simp only [Act.put, zs, zs0, zs1, i64_w, i32_w]
         rfl
        refine zP 31 (some 90) (zl 36 4294967295) HT_ ?_
        refine zP 32 (some 91) (zl 36 8589934591) HT_ ?_
        refine pure_ (i := 33) (N := some 92) (v := undef) (a' := ?_) (zl 36 17179869183) rfl rfl (any_of HT_.out (by kernel_rfl)) (fun _ _ _ h => h) (Or.inr ⟨by rfl, rfl⟩) ?_ ?_
        rotate_left
        ·
         simp only [Act.put, zs, zs0, zs1, i64_w, i32_w]
         rfl
        refine zP 34 (some 93) (zl 36 34359738367) HT_ ?_
        refine zP 35 (some 6) (zl 36 68719476735) HT_ ?_
        refine done_ (done_of HT_.out (by kernel_rfl)) ?_
        try go_wp2
        go_ret
        exact ⟨by first | rfl | (simp [errW_none, errW_some] <;> rfl) | (simp [*, errW_none, errW_some] <;> rfl), zB HB⟩
      ·
       rw [if_neg c64] at H
       have c64b0 : (t636 == t659) = false := beq_eq_false_iff_ne.mpr c64
       have c64b1 : (t636 != t659) = true := bne_iff_ne.mpr c64
       obtain rfl := Option.some.inj H
       try go_wp2
       replace HO624 := Aside0.mk (Kd.S_drew HO624.out)
       replace HO632 := Aside0.mk (Kd.V_drew HO632.out)
       replace HO635 := Aside0.mk (Kd.V_drew HO635.out)
       replace HO646 := Aside0.mk (Kd.V_drew HO646.out)
       replace HO649 := Aside0.mk (Kd.V_drew HO649.out)
       replace HO655 := Aside0.mk (Kd.V_drew HO655.out)
       replace HO658 := Aside0.mk (Kd.V_drew HO658.out)
       replace BK615 := Aside0.mk (blk_drew BK615.out)
       replace BK616 := Aside0.mk (blk_drew BK616.out)
       replace BK626 := Aside0.mk (blk_drew BK626.out)
       replace BK640 := Aside0.mk (blk_drew BK640.out)
       replace BK663 := Aside0.mk (blk_drew BK663.out)
       replace HB := Aside0.mk (below_drew1 HB.out)
       refine start_ (n := 36) (S := fun w' => True) (ds := []) (zl 36 0) (by kernel_rfl) rfl rfl trivial (fun hHeld => ?_); refine with_tabW standstilllaw04_LeapMirror.tab6 standstilllaw04_LeapMirror.bits6 (fun HT_ HW_ => ?_)
       generalize w61.drew = w88 at HO624 HO632 HO635 HO646 HO649 HO655 HO658 BK615 BK616 BK626 BK640 BK663 HB hHeld ⊢
       refine zP 0 (some 59) (zl 36 1) HT_ ?_
       refine zP 1 (some 60) (zl 36 3) HT_ ?_
       refine zP 2 (some 61) (zl 36 7) HT_ ?_
       refine zP 3 (some 62) (zl 36 15) HT_ ?_
       refine zP 4 (some 63) (zl 36 31) HT_ ?_
       refine zP 5 (some 64) (zl 36 63) HT_ ?_
       refine zP 6 (some 65) (zl 36 127) HT_ ?_
       refine zP 7 (some 66) (zl 36 255) HT_ ?_
       refine zP 8 (some 67) (zl 36 511) HT_ ?_
       refine zP 9 (some 68) (zl 36 1023) HT_ ?_
       refine zP 10 (some 69) (zl 36 2047) HT_ ?_
       refine zP 11 (some 70) (zl 36 4095) HT_ ?_
       refine zP 12 (some 71) (zl 36 8191) HT_ ?_
       refine pure_ (i := 13) (N := some 72) (v := undef) (a' := ?_) (zl 36 16383) rfl rfl (any_of HT_.out (by kernel_rfl)) (fun _ _ _ h => h) (Or.inr ⟨by rfl, rfl⟩) ?_ ?_
       rotate_left
       ·
        simp only [Act.put, zs, zs0, zs1, i64_w, i32_w]
        rfl
       refine pure_ (i := 14) (N := some 73) (v := undef) (a' := ?_) (zl 36 32767) rfl rfl (any_of HT_.out (by kernel_rfl)) (fun _ _ _ h => h) (Or.inr ⟨by rfl, rfl⟩) ?_ ?_
       rotate_left
       ·
        simp only [Act.put, zs, zs0, zs1, i64_w, i32_w]
        rfl
       refine pure_ (i := 15) (N := some 74) (v := undef) (a' := ?_) (zl 36 65535) rfl rfl (any_of HT_.out (by kernel_rfl)) (fun _ _ _ h => h) (Or.inr ⟨by rfl, rfl⟩) ?_ ?_
       rotate_left
       ·
        simp only [Act.put, zs, zs0, zs1, i64_w, i32_w]
        rfl
       refine zP 16 (some 75) (zl 36 131071) HT_ ?_
       refine zP 17 (some 76) (zl 36 262143) HT_ ?_
       refine pure_ (i := 18) (N := some 77) (v := undef) (a' := ?_) (zl 36 524287) rfl rfl (any_of HT_.out (by kernel_rfl)) (fun _ _ _ h => h) (Or.inr ⟨by rfl, rfl⟩) ?_ ?_
       rotate_left
       ·
        simp only [Act.put, zs, zs0, zs1, i64_w, i32_w]
        rfl
       refine pure_ (i := 19) (N := some 78) (v := undef) (a' := ?_) (zl 36 1048575) rfl rfl (any_of HT_.out (by kernel_rfl)) (fun _ _ _ h => h) (Or.inr ⟨by rfl, rfl⟩) ?_ ?_
       rotate_left
       ·
        simp only [Act.put, zs, zs0, zs1, i64_w, i32_w]
        rfl
       refine pure_ (i := 20) (N := some 79) (v := undef) (a' := ?_) (zl 36 2097151) rfl rfl (any_of HT_.out (by kernel_rfl)) (fun _ _ _ h => h) (Or.inr ⟨by rfl, rfl⟩) ?_ ?_
       rotate_left
       ·
        simp only [Act.put, zs, zs0, zs1, i64_w, i32_w]
        rfl
       refine zP 21 (some 80) (zl 36 4194303) HT_ ?_
       refine zP 22 (some 81) (zl 36 8388607) HT_ ?_
       refine pure_ (i := 23) (N := some 82) (v := undef) (a' := ?_) (zl 36 16777215) rfl rfl (any_of HT_.out (by kernel_rfl)) (fun _ _ _ h => h) (Or.inr ⟨by rfl, rfl⟩) ?_ ?_
       rotate_left
       ·
        simp only [Act.put, zs, zs0, zs1, i64_w, i32_w]
        rfl
       refine pure_ (i := 24) (N := some 83) (v := undef) (a' := ?_) (zl 36 33554431) rfl rfl (any_of HT_.out (by kernel_rfl)) (fun _ _ _ h => h) (Or.inr ⟨by rfl, rfl⟩) ?_ ?_
       rotate_left
       ·
        simp only [Act.put, zs, zs0, zs1, i64_w, i32_w]
        rfl
       refine pure_ (i := 25) (N := some 84) (v := undef) (a' := ?_) (zl 36 67108863) rfl rfl (any_of HT_.out (by kernel_rfl)) (fun _ _ _ h => h) (Or.inr ⟨by rfl, rfl⟩) ?_ ?_
       rotate_left
       ·
        simp only [Act.put, zs, zs0, zs1, i64_w, i32_w]
        rfl
       refine pure_ (i := 26) (N := some 85) (v := undef) (a' := ?_) (zl 36 134217727) rfl rfl (any_of HT_.out (by kernel_rfl)) (fun _ _ _ h => h) (Or.inr ⟨by rfl, rfl⟩) ?_ ?_
       rotate_left
       ·
        simp only [Act.put, zs, zs0, zs1, i64_w, i32_w]
        rfl
       refine pure_ (i := 27) (N := some 86) (v := undef) (a' := ?_) (zl 36 268435455) rfl rfl (any_of HT_.out (by kernel_rfl)) (fun _ _ _ h => h) (Or.inr ⟨by rfl, rfl⟩) ?_ ?_
       rotate_left
       ·
        simp only [Act.put, zs, zs0, zs1, i64_w, i32_w]
        rfl
       refine pure_ (i := 28) (N := some 87) (v := undef) (a' := ?_) (zl 36 536870911) rfl rfl (any_of HT_.out (by kernel_rfl)) (fun _ _ _ h => h) (Or.inr ⟨by rfl, rfl⟩) ?_ ?_
       rotate_left
       ·
        simp only [Act.put, zs, zs0, zs1, i64_w, i32_w]
        rfl
       refine pure_ (i := 29) (N := some 88) (v := undef) (a' := ?_) (zl 36 1073741823) rfl rfl (any_of HT_.out (by kernel_rfl)) (fun _ _ _ h => h) (Or.inr ⟨by rfl, rfl⟩) ?_ ?_
       rotate_left
       ·
        simp only [Act.put, zs, zs0, zs1, i64_w, i32_w]
        rfl
       refine pure_ (i := 30) (N := some 89) (v := undef) (a' := ?_) (zl 36 2147483647) rfl rfl (any_of HT_.out (by kernel_rfl)) (fun _ _ _ h => h) (Or.inr ⟨by rfl, rfl⟩) ?_ ?_
       rotate_left
       ·
        simp only [Act.put, zs, zs0, zs1, i64_w, i32_w]
        rfl
       refine zP 31 (some 90) (zl 36 4294967295) HT_ ?_
       refine zP 32 (some 91) (zl 36 8589934591) HT_ ?_
       refine pure_ (i := 33) (N := some 92) (v := undef) (a' := ?_) (zl 36 17179869183) rfl rfl (any_of HT_.out (by kernel_rfl)) (fun _ _ _ h => h) (Or.inr ⟨by rfl, rfl⟩) ?_ ?_
       rotate_left
       ·
        simp only [Act.put, zs, zs0, zs1, i64_w, i32_w]
        rfl
       refine zP 34 (some 93) (zl 36 34359738367) HT_ ?_
       refine zP 35 (some 6) (zl 36 68719476735) HT_ ?_
       refine done_ (done_of HT_.out (by kernel_rfl)) ?_
       try go_wp2
       go_ret
       exact ⟨by first | rfl | (simp [errW_none, errW_some] <;> rfl) | (simp [*, errW_none, errW_some] <;> rfl), zB HB⟩
     ·
      rw [if_neg c63] at H
      have c63b0 : (t639 == t662) = false := beq_eq_false_iff_ne.mpr c63
      have c63b1 : (t639 != t662) = true := bne_iff_ne.mpr c63
      obtain rfl := Option.some.inj H
      try go_wp2
      replace HO624 := Aside0.mk (Kd.S_drew HO624.out)
      replace HO632 := Aside0.mk (Kd.V_drew HO632.out)
      replace HO635 := Aside0.mk (Kd.V_drew HO635.out)
      replace HO646 := Aside0.mk (Kd.V_drew HO646.out)
      replace HO649 := Aside0.mk (Kd.V_drew HO649.out)
      replace HO655 := Aside0.mk (Kd.V_drew HO655.out)
      replace HO658 := Aside0.mk (Kd.V_drew HO658.out)
      replace BK615 := Aside0.mk (blk_drew BK615.out)
      replace BK616 := Aside0.mk (blk_drew BK616.out)
      replace BK626 := Aside0.mk (blk_drew BK626.out)
      replace BK640 := Aside0.mk (blk_drew BK640.out)
      replace BK663 := Aside0.mk (blk_drew BK663.out)
      replace HB := Aside0.mk (below_drew1 HB.out)
      refine start_ (n := 36) (S := fun w' => True) (ds := []) (zl 36 0) (by kernel_rfl) rfl rfl trivial (fun hHeld => ?_); refine with_tabW standstilllaw04_LeapMirror.tab6 standstilllaw04_LeapMirror.bits6 (fun HT_ HW_ => ?_)
      generalize w61.drew = w89 at HO624 HO632 HO635 HO646 HO649 HO655 HO658 BK615 BK616 BK626 BK640 BK663 HB hHeld ⊢
      refine zP 0 (some 59) (zl 36 1) HT_ ?_
      refine zP 1 (some 60) (zl 36 3) HT_ ?_
      refine zP 2 (some 61) (zl 36 7) HT_ ?_
      refine zP 3 (some 62) (zl 36 15) HT_ ?_
      refine zP 4 (some 63) (zl 36 31) HT_ ?_
      refine zP 5 (some 64) (zl 36 63) HT_ ?_
      refine zP 6 (some 65) (zl 36 127) HT_ ?_
      refine zP 7 (some 66) (zl 36 255) HT_ ?_
      refine pure_ (i := 8) (N := some 67) (v := undef) (a' := ?_) (zl 36 511) rfl rfl (any_of HT_.out (by kernel_rfl)) (fun _ _ _ h => h) (Or.inr ⟨by rfl, rfl⟩) ?_ ?_
      rotate_left
      ·
       simp only [Act.put, zs, zs0, zs1, i64_w, i32_w]
       rfl
      refine pure_ (i := 9) (N := some 68) (v := undef) (a' := ?_) (zl 36 1023) rfl rfl (any_of HT_.out (by kernel_rfl)) (fun _ _ _ h => h) (Or.inr ⟨by rfl, rfl⟩) ?_ ?_
      rotate_left
      ·
       simp only [Act.put, zs, zs0, zs1, i64_w, i32_w]
       rfl
      refine pure_ (i := 10) (N := some 69) (v := undef) (a' := ?_) (zl 36 2047) rfl rfl (any_of HT_.out (by kernel_rfl)) (fun _ _ _ h => h) (Or.inr ⟨by rfl, rfl⟩) ?_ ?_
      rotate_left
      ·
       simp only [Act.put, zs, zs0, zs1, i64_w, i32_w]
       rfl
      refine zP 11 (some 70) (zl 36 4095) HT_ ?_
      refine zP 12 (some 71) (zl 36 8191) HT_ ?_
      refine pure_ (i := 13) (N := some 72) (v := undef) (a' := ?_) (zl 36 16383) rfl rfl (any_of HT_.out (by kernel_rfl)) (fun _ _ _ h => h) (Or.inr ⟨by rfl, rfl⟩) ?_ ?_
      rotate_left
      ·
       simp only [Act.put, zs, zs0, zs1, i64_w, i32_w]
       rfl
      refine pure_ (i := 14) (N := some 73) (v := undef) (a' := ?_) (zl 36 32767) rfl rfl (any_of HT_.out (by kernel_rfl)) (fun _ _ _ h => h) (Or.inr ⟨by rfl, rfl⟩) ?_ ?_
      rotate_left
      ·
       simp only [Act.put, zs, zs0, zs1, i64_w, i32_w]
       rfl
      refine pure_ (i := 15) (N := some 74) (v := undef) (a' := ?_) (zl 36 65535) rfl rfl (any_of HT_.out (by kernel_rfl)) (fun _ _ _ h => h) (Or.inr ⟨by rfl, rfl⟩) ?_ ?_
      rotate_left
      ·
       simp only [Act.put, zs, zs0, zs1, i64_w, i32_w]
       rfl
      refine zP 16 (some 75) (zl 36 131071) HT_ ?_
      refine zP 17 (some 76) (zl 36 262143) HT_ ?_
      refine pure_ (i := 18) (N := some 77) (v := undef) (a' := ?_) (zl 36 524287) rfl rfl (any_of HT_.out (by kernel_rfl)) (fun _ _ _ h => h) (Or.inr ⟨by rfl, rfl⟩) ?_ ?_
      rotate_left
      ·
       simp only [Act.put, zs, zs0, zs1, i64_w, i32_w]
       rfl
      refine pure_ (i := 19) (N := some 78) (v := undef) (a' := ?_) (zl 36 1048575) rfl rfl (any_of HT_.out (by kernel_rfl)) (fun _ _ _ h => h) (Or.inr ⟨by rfl, rfl⟩) ?_ ?_
      rotate_left
      ·
       simp only [Act.put, zs, zs0, zs1, i64_w, i32_w]
       rfl
      refine pure_ (i := 20) (N := some 79) (v := undef) (a' := ?_) (zl 36 2097151) rfl rfl (any_of HT_.out (by kernel_rfl)) (fun _ _ _ h => h) (Or.inr ⟨by rfl, rfl⟩) ?_ ?_
      rotate_left
      ·
       simp only [Act.put, zs, zs0, zs1, i64_w, i32_w]
       rfl
      refine zP 21 (some 80) (zl 36 4194303) HT_ ?_
      refine zP 22 (some 81) (zl 36 8388607) HT_ ?_
      refine pure_ (i := 23) (N := some 82) (v := undef) (a' := ?_) (zl 36 16777215) rfl rfl (any_of HT_.out (by kernel_rfl)) (fun _ _ _ h => h) (Or.inr ⟨by rfl, rfl⟩) ?_ ?_
      rotate_left
      ·
       simp only [Act.put, zs, zs0, zs1, i64_w, i32_w]
       rfl
      refine pure_ (i := 24) (N := some 83) (v := undef) (a' := ?_) (zl 36 33554431) rfl rfl (any_of HT_.out (by kernel_rfl)) (fun _ _ _ h => h) (Or.inr ⟨by rfl, rfl⟩) ?_ ?_
      rotate_left
      ·
       simp only [Act.put, zs, zs0, zs1, i64_w, i32_w]
       rfl
      refine pure_ (i := 25) (N := some 84) (v := undef) (a' := ?_) (zl 36 67108863) rfl rfl (any_of HT_.out (by kernel_rfl)) (fun _ _ _ h => h) (Or.inr ⟨by rfl, rfl⟩) ?_ ?_
      rotate_left
      ·
       simp only [Act.put, zs, zs0, zs1, i64_w, i32_w]
       rfl
      refine pure_ (i := 26) (N := some 85) (v := undef) (a' := ?_) (zl 36 134217727) rfl rfl (any_of HT_.out (by kernel_rfl)) (fun _ _ _ h => h) (Or.inr ⟨by rfl, rfl⟩) ?_ ?_
      rotate_left
      ·
       simp only [Act.put, zs, zs0, zs1, i64_w, i32_w]
       rfl
      refine pure_ (i := 27) (N := some 86) (v := undef) (a' := ?_) (zl 36 268435455) rfl rfl (any_of HT_.out (by kernel_rfl)) (fun _ _ _ h => h) (Or.inr ⟨by rfl, rfl⟩) ?_ ?_
      rotate_left
      ·
       simp only [Act.put, zs, zs0, zs1, i64_w, i32_w]
       rfl
      refine pure_ (i := 28) (N := some 87) (v := undef) (a' := ?_) (zl 36 536870911) rfl rfl (any_of HT_.out (by kernel_rfl)) (fun _ _ _ h => h) (Or.inr ⟨by rfl, rfl⟩) ?_ ?_
      rotate_left
      ·
       simp only [Act.put, zs, zs0, zs1, i64_w, i32_w]
       rfl
      refine pure_ (i := 29) (N := some 88) (v := undef) (a' := ?_) (zl 36 1073741823) rfl rfl (any_of HT_.out (by kernel_rfl)) (fun _ _ _ h => h) (Or.inr ⟨by rfl, rfl⟩) ?_ ?_
      rotate_left
      ·
       simp only [Act.put, zs, zs0, zs1, i64_w, i32_w]
       rfl
      refine pure_ (i := 30) (N := some 89) (v := undef) (a' := ?_) (zl 36 2147483647) rfl rfl (any_of HT_.out (by kernel_rfl)) (fun _ _ _ h => h) (Or.inr ⟨by rfl, rfl⟩) ?_ ?_
      rotate_left
      ·
       simp only [Act.put, zs, zs0, zs1, i64_w, i32_w]
       rfl
      refine zP 31 (some 90) (zl 36 4294967295) HT_ ?_
      refine zP 32 (some 91) (zl 36 8589934591) HT_ ?_
      refine pure_ (i := 33) (N := some 92) (v := undef) (a' := ?_) (zl 36 17179869183) rfl rfl (any_of HT_.out (by kernel_rfl)) (fun _ _ _ h => h) (Or.inr ⟨by rfl, rfl⟩) ?_ ?_
      rotate_left
      ·
       simp only [Act.put, zs, zs0, zs1, i64_w, i32_w]
       rfl
      refine zP 34 (some 93) (zl 36 34359738367) HT_ ?_
      refine zP 35 (some 6) (zl 36 68719476735) HT_ ?_
      refine done_ (done_of HT_.out (by kernel_rfl)) ?_
      try go_wp2
      go_ret
      exact ⟨by first | rfl | (simp [errW_none, errW_some] <;> rfl) | (simp [*, errW_none, errW_some] <;> rfl), zB HB⟩
    ·
     rw [if_neg c62] at H
     have c62b0 : (t625 == 0) = false := beq_eq_false_iff_ne.mpr c62
     have c62b1 : (t625 != 0) = true := bne_iff_ne.mpr c62
     (first | rw [c62b0] | (simp only [i64_w, i32_w]; rw [c62b0]) | skip)
     (try rw [c62b1])
     obtain rfl := Option.some.inj H
     try go_wp2
     replace HO624 := Aside0.mk (Kd.S_drew HO624.out)
     replace HO632 := Aside0.mk (Kd.V_drew HO632.out)
     replace HO635 := Aside0.mk (Kd.V_drew HO635.out)
     replace HO646 := Aside0.mk (Kd.V_drew HO646.out)
     replace HO649 := Aside0.mk (Kd.V_drew HO649.out)
     replace HO655 := Aside0.mk (Kd.V_drew HO655.out)
     replace HO658 := Aside0.mk (Kd.V_drew HO658.out)
     replace BK615 := Aside0.mk (blk_drew BK615.out)
     replace BK616 := Aside0.mk (blk_drew BK616.out)
     replace BK626 := Aside0.mk (blk_drew BK626.out)
     replace BK640 := Aside0.mk (blk_drew BK640.out)
     replace BK663 := Aside0.mk (blk_drew BK663.out)
     replace HB := Aside0.mk (below_drew1 HB.out)
     refine start_ (n := 36) (S := fun w' => True) (ds := []) (zl 36 0) (by kernel_rfl) rfl rfl trivial (fun hHeld => ?_); refine with_tabW standstilllaw04_LeapMirror.tab6 standstilllaw04_LeapMirror.bits6 (fun HT_ HW_ => ?_)
     generalize w61.drew = w90 at HO624 HO632 HO635 HO646 HO649 HO655 HO658 BK615 BK616 BK626 BK640 BK663 HB hHeld ⊢
     refine zP 0 (some 59) (zl 36 1) HT_ ?_
     refine zP 1 (some 60) (zl 36 3) HT_ ?_
     refine zP 2 (some 61) (zl 36 7) HT_ ?_
     refine pure_ (i := 3) (N := some 62) (v := undef) (a' := ?_) (zl 36 15) rfl rfl (any_of HT_.out (by kernel_rfl)) (fun _ _ _ h => h) (Or.inr ⟨by rfl, rfl⟩) ?_ ?_
     rotate_left
     ·
      simp only [Act.put, zs, zs0, zs1, i64_w, i32_w]
      rfl
     refine pure_ (i := 4) (N := some 63) (v := undef) (a' := ?_) (zl 36 31) rfl rfl (any_of HT_.out (by kernel_rfl)) (fun _ _ _ h => h) (Or.inr ⟨by rfl, rfl⟩) ?_ ?_
     rotate_left
     ·
      simp only [Act.put, zs, zs0, zs1, i64_w, i32_w]
      rfl
     refine pure_ (i := 5) (N := some 64) (v := undef) (a' := ?_) (zl 36 63) rfl rfl (any_of HT_.out (by kernel_rfl)) (fun _ _ _ h => h) (Or.inr ⟨by rfl, rfl⟩) ?_ ?_
     rotate_left
     ·
      simp only [Act.put, zs, zs0, zs1, i64_w, i32_w]
      rfl
     refine zP 6 (some 65) (zl 36 127) HT_ ?_
     refine zP 7 (some 66) (zl 36 255) HT_ ?_
     refine pure_ (i := 8) (N := some 67) (v := undef) (a' := ?_) (zl 36 511) rfl rfl (any_of HT_.out (by kernel_rfl)) (fun _ _ _ h => h) (Or.inr ⟨by rfl, rfl⟩) ?_ ?_
     rotate_left
     ·
      simp only [Act.put, zs, zs0, zs1, i64_w, i32_w]
      rfl
     refine pure_ (i := 9) (N := some 68) (v := undef) (a' := ?_) (zl 36 1023) rfl rfl (any_of HT_.out (by kernel_rfl)) (fun _ _ _ h => h) (Or.inr ⟨by rfl, rfl⟩) ?_ ?_
     rotate_left
     ·
      simp only [Act.put, zs, zs0, zs1, i64_w, i32_w]
      rfl
     refine pure_ (i := 10) (N := some 69) (v := undef) (a' := ?_) (zl 36 2047) rfl rfl (any_of HT_.out (by kernel_rfl)) (fun _ _ _ h => h) (Or.inr ⟨by rfl, rfl⟩) ?_ ?_
     rotate_left
     ·
      simp only [Act.put, zs, zs0, zs1, i64_w, i32_w]
      rfl
     refine zP 11 (some 70) (zl 36 4095) HT_ ?_
     refine zP 12 (some 71) (zl 36 8191) HT_ ?_
     refine pure_ (i := 13) (N := some 72) (v := undef) (a' := ?_) (zl 36 16383) rfl rfl (any_of HT_.out (by kernel_rfl)) (fun _ _ _ h => h) (Or.inr ⟨by rfl, rfl⟩) ?_ ?_
     rotate_left
     ·
      simp only [Act.put, zs, zs0, zs1, i64_w, i32_w]
      rfl
     refine pure_ (i := 14) (N := some 73) (v := undef) (a' := ?_) (zl 36 32767) rfl rfl (any_of HT_.out (by kernel_rfl)) (fun _ _ _ h => h) (Or.inr ⟨by rfl, rfl⟩) ?_ ?_
     rotate_left
     ·
      simp only [Act.put, zs, zs0, zs1, i64_w, i32_w]
      rfl
     refine pure_ (i := 15) (N := some 74) (v := undef) (a' := ?_) (zl 36 65535) rfl rfl (any_of HT_.out (by kernel_rfl)) (fun _ _ _ h => h) (Or.inr ⟨by rfl, rfl⟩) ?_ ?_
     rotate_left
     ·
      simp only [Act.put, zs, zs0, zs1, i64_w, i32_w]
      rfl
     refine zP 16 (some 75) (zl 36 131071) HT_ ?_
     refine zP 17 (some 76) (zl 36 262143) HT_ ?_
     refine pure_ (i := 18) (N := some 77) (v := undef) (a' := ?_) (zl 36 524287) rfl rfl (any_of HT_.out (by kernel_rfl)) (fun _ _ _ h => h) (Or.inr ⟨by rfl, rfl⟩) ?_ ?_
     rotate_left
     ·
      simp only [Act.put, zs, zs0, zs1, i64_w, i32_w]
      rfl
     refine pure_ (i := 19) (N := some 78) (v := undef) (a' := ?_) (zl 36 1048575) rfl rfl (any_of HT_.out (by kernel_rfl)) (fun _ _ _ h => h) (Or.inr ⟨by rfl, rfl⟩) ?_ ?_
     rotate_left
     ·
      simp only [Act.put, zs, zs0, zs1, i64_w, i32_w]
      rfl
     refine pure_ (i := 20) (N := some 79) (v := undef) (a' := ?_) (zl 36 2097151) rfl rfl (any_of HT_.out (by kernel_rfl)) (fun _ _ _ h => h) (Or.inr ⟨by rfl, rfl⟩) ?_ ?_
     rotate_left
     ·
      simp only [Act.put, zs, zs0, zs1, i64_w, i32_w]
      rfl
     refine zP 21 (some 80) (zl 36 4194303) HT_ ?_
     refine zP 22 (some 81) (zl 36 8388607) HT_ ?_
     refine pure_ (i := 23) (N := some 82) (v := undef) (a' := ?_) (zl 36 16777215) rfl rfl (any_of HT_.out (by kernel_rfl)) (fun _ _ _ h => h) (Or.inr ⟨by rfl, rfl⟩) ?_ ?_
     rotate_left
     ·
      simp only [Act.put, zs, zs0, zs1, i64_w, i32_w]
      rfl
     refine pure_ (i := 24) (N := some 83) (v := undef) (a' := ?_) (zl 36 33554431) rfl rfl (any_of HT_.out (by kernel_rfl)) (fun _ _ _ h => h) (Or.inr ⟨by rfl, rfl⟩) ?_ ?_
     rotate_left
     ·
      simp only [Act.put, zs, zs0, zs1, i64_w, i32_w]
      rfl
     refine pure_ (i := 25) (N := some 84) (v := undef) (a' := ?_) (zl 36 67108863) rfl rfl (any_of HT_.out (by kernel_rfl)) (fun _ _ _ h => h) (Or.inr ⟨by rfl, rfl⟩) ?_ ?_
     rotate_left
     ·
      simp only [Act.put, zs, zs0, zs1, i64_w, i32_w]
      rfl
     refine pure_ (i := 26) (N := some 85) (v := undef) (a' := ?_) (zl 36 134217727) rfl rfl (any_of HT_.out (by kernel_rfl)) (fun _ _ _ h => h) (Or.inr ⟨by rfl, rfl⟩) ?_ ?_
     rotate_left
     ·
      simp only [Act.put, zs, zs0, zs1, i64_w, i32_w]
      rfl
     refine pure_ (i := 27) (N := some 86) (v := undef) (a' := ?_) (zl 36 268435455) rfl rfl (any_of HT_.out (by kernel_rfl)) (fun _ _ _ h => h) (Or.inr ⟨by rfl, rfl⟩) ?_ ?_
     rotate_left
     ·
      simp only [Act.put, zs, zs0, zs1, i64_w, i32_w]
      rfl
     refine pure_ (i := 28) (N := some 87) (v := undef) (a' := ?_) (zl 36 536870911) rfl rfl (any_of HT_.out (by kernel_rfl)) (fun _ _ _ h => h) (Or.inr ⟨by rfl, rfl⟩) ?_ ?_
     rotate_left
     ·
      simp only [Act.put, zs, zs0, zs1, i64_w, i32_w]
      rfl
     refine pure_ (i := 29) (N := some 88) (v := undef) (a' := ?_) (zl 36 1073741823) rfl rfl (any_of HT_.out (by kernel_rfl)) (fun _ _ _ h => h) (Or.inr ⟨by rfl, rfl⟩) ?_ ?_
     rotate_left
     ·
      simp only [Act.put, zs, zs0, zs1, i64_w, i32_w]
      rfl
     refine pure_ (i := 30) (N := some 89) (v := undef) (a' := ?_) (zl 36 2147483647) rfl rfl (any_of HT_.out (by kernel_rfl)) (fun _ _ _ h => h) (Or.inr ⟨by rfl, rfl⟩) ?_ ?_
     rotate_left
     ·
      simp only [Act.put, zs, zs0, zs1, i64_w, i32_w]
      rfl
     refine zP 31 (some 90) (zl 36 4294967295) HT_ ?_
     refine zP 32 (some 91) (zl 36 8589934591) HT_ ?_
     refine pure_ (i := 33) (N := some 92) (v := undef) (a' := ?_) (zl 36 17179869183) rfl rfl (any_of HT_.out (by kernel_rfl)) (fun _ _ _ h => h) (Or.inr ⟨by rfl, rfl⟩) ?_ ?_
     rotate_left
     ·
      simp only [Act.put, zs, zs0, zs1, i64_w, i32_w]
      rfl
     refine zP 34 (some 93) (zl 36 34359738367) HT_ ?_
     refine zP 35 (some 6) (zl 36 68719476735) HT_ ?_
     refine done_ (done_of HT_.out (by kernel_rfl)) ?_
     try go_wp2
     go_ret
     exact ⟨by first | rfl | (simp [errW_none, errW_some] <;> rfl) | (simp [*, errW_none, errW_some] <;> rfl), zB HB⟩

end Go.Proofs.Ytpemcbjdlpajlaa.G1
