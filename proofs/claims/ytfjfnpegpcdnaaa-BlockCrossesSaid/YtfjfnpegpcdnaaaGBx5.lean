/- The functions of one seat as Lean functions, each with its contract: the call of the Go function returns what the Lean function answers. Written by a program of this session out of the translation; contracts made by hand are laid between. -/
import Derived.Test.YtfjfnpegpcdnaaaGBx0
import Derived.Test.YtfjfnpegpcdnaaaGBx4
namespace Go.Proofs.Ytfjfnpegpcdnaaa.GB
open Go.RowKit Go.Proofs.YtfjfnpegpcdnaaaW.PrintWords Go.Proofs.YtfjfnpegpcdnaaaW.PrintLast Go.Proofs.YtfjfnpegpcdnaaaW.PrintMore
attribute [local go_sem] max2_int min2_int max_two min_two max_three min_three max_four min_four   -- for this text's walks alone
set_option linter.unusedVariables false
set_option linter.unusedSimpArgs false

/-! ### standstillref05_Same: function 11 -/
def standstillref05_Same.f (k : Nat) (a0_0 : Int) (a0_1 : Int) (a0_2 : Int) (a0_3 : Int) (l0_4 : List Int) (a1_0 : Int) (a1_1 : Int) (a1_2 : Int) (a1_3 : Int) (l1_4 : List Int) : Option (Bool) := if a0_0 = a1_0 then (if a0_1 = a1_1 then (if a0_2 = a1_2 then (if a0_3 = a1_3 then ((standstillref01_SameInts.f k l0_4 l1_4).bind fun t128 => (some t128)) else (some false)) else (some false)) else (some false)) else (some false)
theorem standstillref05_Same.mono : ∀ a0 a1 a2 a3 a4 a5 a6 a7 a8 a9 k, LeO (standstillref05_Same.f k a0 a1 a2 a3 a4 a5 a6 a7 a8 a9) (standstillref05_Same.f (k + 1) a0 a1 a2 a3 a4 a5 a6 a7 a8 a9) := by
 intro a0 a1 a2 a3 a4 a5 a6 a7 a8 a9 k
 unfold standstillref05_Same.f
 repeat' first
   | (with_reducible exact standstillref01_SameInts.mono _ _ _)
   | (with_reducible exact LeO.refl _)
   | (with_reducible exact LeO.none _)
   | (with_reducible refine LeO.ite ?_ ?_)
   | (with_reducible refine LeO.bind ?_ (fun _ => ?_))
   | exact standstillref01_SameInts.mono _ _ _
   | exact LeO.none _
   | refine LeO.ite ?_ ?_
   | refine LeO.bind ?_ (fun _ => ?_)
set_option maxHeartbeats 8000000 in
set_option maxRecDepth 100000 in
theorem standstillref05_Same.calls (k : Nat) (a0_0 : Int) (a0_1 : Int) (a0_2 : Int) (a0_3 : Int) (A0_4 : Option Addr) (c0_4 : Nat) (l0_4 : List Int) (a1_0 : Int) (a1_1 : Int) (a1_2 : Int) (a1_3 : Int) (A1_4 : Option Addr) (c1_4 : Nat) (l1_4 : List Int) (r : Bool) (w : World) (hr0_4 : Kd.C (Kd.int .i64) w A0_4 l0_4.length l0_4) (hc0_4 : l0_4.length ≤ c0_4) (hr1_4 : Kd.C (Kd.int .i64) w A1_4 l1_4.length l1_4) (hc1_4 : l1_4.length ≤ c1_4) (h : standstillref05_Same.f k a0_0 a0_1 a0_2 a0_3 l0_4 a1_0 a1_1 a1_2 a1_3 l1_4 = some r) :
  Calls Try.prog 11 #[.agg #[.int .i64 a0_0, .int .i64 a0_1, .int .i64 a0_2, .int .i64 a0_3, .slice A0_4 l0_4.length c0_4], .agg #[.int .i64 a1_0, .int .i64 a1_1, .int .i64 a1_2, .int .i64 a1_3, .slice A1_4 l1_4.length c1_4]] w fun e w' => e = .returned (.bool r) ∧ Below w.heap.size w w' := by
 have hu29 := Try.underlying29
 have HR0_4 := Aside0.mk hr0_4
 have HC0_4 := Aside0.mk hc0_4
 clear hr0_4 hc0_4
 have HR1_4 := Aside0.mk hr1_4
 have HC1_4 := Aside0.mk hc1_4
 clear hr1_4 hc1_4
 have HB := Aside0.mk (Below.refl w.heap.size w)
 have H : (if a0_0 = a1_0 then (if a0_1 = a1_1 then (if a0_2 = a1_2 then (if a0_3 = a1_3 then ((standstillref01_SameInts.f k l0_4 l1_4).bind fun t128 => (some t128)) else (some false)) else (some false)) else (some false)) else (some false)) = some r := h
 clear h
 have HC3 := Aside0.mk H
 clear H
 go_enter Try.func11, Try.ntmps11
 go_upto_region 1 with (first | ((with_reducible refine gate_dst (N := 2) rfl ?_); refine box_event ?hg (N := 2) ?hd (cs := #[.int .i64 a0_0, .int .i64 a0_1, .int .i64 a0_2, .int .i64 a0_3, .slice A0_4 l0_4.length c0_4]) (t := 29) ?hr ?_; (case hd => rfl); (case hg => rfl); (case hr => first | (go_simp; done) | (go_simp; rfl)); intro gb126 hg w4 hbox hb; have n0_ := Aside0.mk (below_step (zB HB) hb); have n1_ := Aside0.mk (hbox); have n2_ := Aside0.mk ((by rw [hg]; exact (below_size (zB HB)) : w.heap.size ≤ gb126)); have n3_ := Aside0.mk ((by rw [hg]; exact (below_size (zB HB)) : w.heap.size ≤ gb126)); clear HB; have HB := n0_; have BK126 := n1_; have GW126 := n2_; have GE126 := n3_; clear n0_ n1_ n2_ n3_; clear hb hbox hg) | ((with_reducible refine gate_dst (N := 3) rfl ?_); refine box_event ?hg (N := 3) ?hd (cs := #[.int .i64 a1_0, .int .i64 a1_1, .int .i64 a1_2, .int .i64 a1_3, .slice A1_4 l1_4.length c1_4]) (t := 29) ?hr ?_; (case hd => rfl); (case hg => rfl); (case hr => first | (go_simp; done) | (go_simp; rfl)); intro gb127 hg w5 hbox hb; have n0_ := Aside0.mk (zb BK126 hb); have n1_ := Aside0.mk (below_step (zB HB) hb); have n2_ := Aside0.mk (hbox); have n3_ := Aside0.mk ((by rw [hg]; exact (below_size (zB HB)) : w.heap.size ≤ gb127)); have n4_ := Aside0.mk ((by rw [hg]; exact (below_size (zB HB)) : w.heap.size ≤ gb127)); have n5_ := Aside0.mk ((by rw [hg]; exact Nat.ne_of_lt (zL BK126) : gb126 ≠ gb127)); have n6_ := Aside0.mk ((by rw [hg]; exact Nat.ne_of_gt (zL BK126) : gb127 ≠ gb126)); clear BK126; clear HB; have BK126 := n0_; have HB := n1_; have BK127 := n2_; have GW127 := n3_; have GE127 := n4_; have NB126_127 := n5_; have NB127_126 := n6_; clear n0_ n1_ n2_ n3_ n4_ n5_ n6_; clear hb hbox hg))
 (try simp only [Act.put, zs, zs0, zs1])
 have H := HC3.out
 clear HC3
 by_cases c6 : a0_0 = a1_0
 ·
  rw [if_pos c6] at H
  have c6b0 : (a0_0 == a1_0) = true := beq_iff_eq.mpr c6
  have c6b1 : (a0_0 != a1_0) = false := bne_eq_false_iff_eq.mpr c6
  clear c6
  (first | rw [c6b0] | (simp only [i64_w, i32_w]; rw [c6b0]) | skip)
  (try rw [c6b1])
  by_cases c7 : a0_1 = a1_1
  ·
   rw [if_pos c7] at H
   have c7b0 : (a0_1 == a1_1) = true := beq_iff_eq.mpr c7
   have c7b1 : (a0_1 != a1_1) = false := bne_eq_false_iff_eq.mpr c7
   clear c7
   by_cases c8 : a0_2 = a1_2
   ·
    rw [if_pos c8] at H
    have c8b0 : (a0_2 == a1_2) = true := beq_iff_eq.mpr c8
    have c8b1 : (a0_2 != a1_2) = false := bne_eq_false_iff_eq.mpr c8
    clear c8
    by_cases c9 : a0_3 = a1_3
    ·
     rw [if_pos c9] at H
     have c9b0 : (a0_3 == a1_3) = true := beq_iff_eq.mpr c9
     have c9b1 : (a0_3 != a1_3) = false := bne_eq_false_iff_eq.mpr c9
     clear c9
     replace H := Option.bind_eq_some_iff.mp H
     obtain ⟨t128, A100, H⟩ := H
     replace H : (some t128) = some r := H
     have A10 := Aside0.mk A100
     clear A100
     obtain rfl := Option.some.inj H
     have hnb11 := NB126_127.out
     have hnc11 := NB127_126.out
     have hcz12_0 : w5.cell? ⟨gb126, 0, none⟩ = some (.int .i64 a0_0) := (blk_cell BK126.out 0).trans rfl
     have hcz12_1 : w5.cell? ⟨gb126, 1, none⟩ = some (.int .i64 a0_1) := (blk_cell BK126.out 1).trans rfl
     have hcz12_2 : w5.cell? ⟨gb126, 2, none⟩ = some (.int .i64 a0_2) := (blk_cell BK126.out 2).trans rfl
     have hcz12_3 : w5.cell? ⟨gb126, 3, none⟩ = some (.int .i64 a0_3) := (blk_cell BK126.out 3).trans rfl
     have hcz12_4 : w5.cell? ⟨gb126, 4, none⟩ = some (.slice A0_4 l0_4.length c0_4) := (blk_cell BK126.out 4).trans rfl
     have hfz12_0 := blk_frozen BK126.out 0
     have hfz12_1 := blk_frozen BK126.out 1
     have hfz12_2 := blk_frozen BK126.out 2
     have hfz12_3 := blk_frozen BK126.out 3
     have hfz12_4 := blk_frozen BK126.out 4
     have hcz13_0 : w5.cell? ⟨gb127, 0, none⟩ = some (.int .i64 a1_0) := (blk_cell BK127.out 0).trans rfl
     have hcz13_1 : w5.cell? ⟨gb127, 1, none⟩ = some (.int .i64 a1_1) := (blk_cell BK127.out 1).trans rfl
     have hcz13_2 : w5.cell? ⟨gb127, 2, none⟩ = some (.int .i64 a1_2) := (blk_cell BK127.out 2).trans rfl
     have hcz13_3 : w5.cell? ⟨gb127, 3, none⟩ = some (.int .i64 a1_3) := (blk_cell BK127.out 3).trans rfl
     have hcz13_4 : w5.cell? ⟨gb127, 4, none⟩ = some (.slice A1_4 l1_4.length c1_4) := (blk_cell BK127.out 4).trans rfl
     have hfz13_0 := blk_frozen BK127.out 0
     have hfz13_1 := blk_frozen BK127.out 1
     have hfz13_2 := blk_frozen BK127.out 2
     have hfz13_3 := blk_frozen BK127.out 3
     have hfz13_4 := blk_frozen BK127.out 4
     go_wp2_with (first | (go_at_call 14; (with_reducible refine (standstillref01_SameInts.calls k _ _ l0_4 _ _ l1_4 t128 _ ?side1 ?side2 ?side3 ?side4 A10.out).mono ?_); (case side1 => exact zC ((Kd.C_below HR0_4.out HB.out))); (case side2 => exact HC0_4.out); (case side3 => exact zC ((Kd.C_below HR1_4.out HB.out))); (case side4 => exact HC1_4.out); rintro e w' ⟨rfl, ⟨nd, rfl⟩⟩))
     go_ret
     exact ⟨by first | rfl | (simp [errW_none, errW_some] <;> rfl) | (simp [*, errW_none, errW_some] <;> rfl), zB HB⟩
    ·
     rw [if_neg c9] at H
     have c9b0 : (a0_3 == a1_3) = false := beq_eq_false_iff_ne.mpr c9
     have c9b1 : (a0_3 != a1_3) = true := bne_iff_ne.mpr c9
     obtain rfl := Option.some.inj H
     have hnb14 := NB126_127.out
     have hnc14 := NB127_126.out
     have hcz15_0 : w5.cell? ⟨gb126, 0, none⟩ = some (.int .i64 a0_0) := (blk_cell BK126.out 0).trans rfl
     have hcz15_1 : w5.cell? ⟨gb126, 1, none⟩ = some (.int .i64 a0_1) := (blk_cell BK126.out 1).trans rfl
     have hcz15_2 : w5.cell? ⟨gb126, 2, none⟩ = some (.int .i64 a0_2) := (blk_cell BK126.out 2).trans rfl
     have hcz15_3 : w5.cell? ⟨gb126, 3, none⟩ = some (.int .i64 a0_3) := (blk_cell BK126.out 3).trans rfl
     have hcz15_4 : w5.cell? ⟨gb126, 4, none⟩ = some (.slice A0_4 l0_4.length c0_4) := (blk_cell BK126.out 4).trans rfl
     have hfz15_0 := blk_frozen BK126.out 0
     have hfz15_1 := blk_frozen BK126.out 1
     have hfz15_2 := blk_frozen BK126.out 2
     have hfz15_3 := blk_frozen BK126.out 3
     have hfz15_4 := blk_frozen BK126.out 4
     have hcz16_0 : w5.cell? ⟨gb127, 0, none⟩ = some (.int .i64 a1_0) := (blk_cell BK127.out 0).trans rfl
     have hcz16_1 : w5.cell? ⟨gb127, 1, none⟩ = some (.int .i64 a1_1) := (blk_cell BK127.out 1).trans rfl
     have hcz16_2 : w5.cell? ⟨gb127, 2, none⟩ = some (.int .i64 a1_2) := (blk_cell BK127.out 2).trans rfl
     have hcz16_3 : w5.cell? ⟨gb127, 3, none⟩ = some (.int .i64 a1_3) := (blk_cell BK127.out 3).trans rfl
     have hcz16_4 : w5.cell? ⟨gb127, 4, none⟩ = some (.slice A1_4 l1_4.length c1_4) := (blk_cell BK127.out 4).trans rfl
     have hfz16_0 := blk_frozen BK127.out 0
     have hfz16_1 := blk_frozen BK127.out 1
     have hfz16_2 := blk_frozen BK127.out 2
     have hfz16_3 := blk_frozen BK127.out 3
     have hfz16_4 := blk_frozen BK127.out 4
     go_wp2
     go_ret
     exact ⟨by first | rfl | (simp [errW_none, errW_some] <;> rfl) | (simp [*, errW_none, errW_some] <;> rfl), zB HB⟩
   ·
    rw [if_neg c8] at H
    have c8b0 : (a0_2 == a1_2) = false := beq_eq_false_iff_ne.mpr c8
    have c8b1 : (a0_2 != a1_2) = true := bne_iff_ne.mpr c8
    obtain rfl := Option.some.inj H
    have hnb17 := NB126_127.out
    have hnc17 := NB127_126.out
    have hcz18_0 : w5.cell? ⟨gb126, 0, none⟩ = some (.int .i64 a0_0) := (blk_cell BK126.out 0).trans rfl
    have hcz18_1 : w5.cell? ⟨gb126, 1, none⟩ = some (.int .i64 a0_1) := (blk_cell BK126.out 1).trans rfl
    have hcz18_2 : w5.cell? ⟨gb126, 2, none⟩ = some (.int .i64 a0_2) := (blk_cell BK126.out 2).trans rfl
    have hcz18_3 : w5.cell? ⟨gb126, 3, none⟩ = some (.int .i64 a0_3) := (blk_cell BK126.out 3).trans rfl
    have hcz18_4 : w5.cell? ⟨gb126, 4, none⟩ = some (.slice A0_4 l0_4.length c0_4) := (blk_cell BK126.out 4).trans rfl
    have hfz18_0 := blk_frozen BK126.out 0
    have hfz18_1 := blk_frozen BK126.out 1
    have hfz18_2 := blk_frozen BK126.out 2
    have hfz18_3 := blk_frozen BK126.out 3
    have hfz18_4 := blk_frozen BK126.out 4
    have hcz19_0 : w5.cell? ⟨gb127, 0, none⟩ = some (.int .i64 a1_0) := (blk_cell BK127.out 0).trans rfl
    have hcz19_1 : w5.cell? ⟨gb127, 1, none⟩ = some (.int .i64 a1_1) := (blk_cell BK127.out 1).trans rfl
    have hcz19_2 : w5.cell? ⟨gb127, 2, none⟩ = some (.int .i64 a1_2) := (blk_cell BK127.out 2).trans rfl
    have hcz19_3 : w5.cell? ⟨gb127, 3, none⟩ = some (.int .i64 a1_3) := (blk_cell BK127.out 3).trans rfl
    have hcz19_4 : w5.cell? ⟨gb127, 4, none⟩ = some (.slice A1_4 l1_4.length c1_4) := (blk_cell BK127.out 4).trans rfl
    have hfz19_0 := blk_frozen BK127.out 0
    have hfz19_1 := blk_frozen BK127.out 1
    have hfz19_2 := blk_frozen BK127.out 2
    have hfz19_3 := blk_frozen BK127.out 3
    have hfz19_4 := blk_frozen BK127.out 4
    go_wp2
    go_ret
    exact ⟨by first | rfl | (simp [errW_none, errW_some] <;> rfl) | (simp [*, errW_none, errW_some] <;> rfl), zB HB⟩
  ·
   rw [if_neg c7] at H
   have c7b0 : (a0_1 == a1_1) = false := beq_eq_false_iff_ne.mpr c7
   have c7b1 : (a0_1 != a1_1) = true := bne_iff_ne.mpr c7
   obtain rfl := Option.some.inj H
   have hnb20 := NB126_127.out
   have hnc20 := NB127_126.out
   have hcz21_0 : w5.cell? ⟨gb126, 0, none⟩ = some (.int .i64 a0_0) := (blk_cell BK126.out 0).trans rfl
   have hcz21_1 : w5.cell? ⟨gb126, 1, none⟩ = some (.int .i64 a0_1) := (blk_cell BK126.out 1).trans rfl
   have hcz21_2 : w5.cell? ⟨gb126, 2, none⟩ = some (.int .i64 a0_2) := (blk_cell BK126.out 2).trans rfl
   have hcz21_3 : w5.cell? ⟨gb126, 3, none⟩ = some (.int .i64 a0_3) := (blk_cell BK126.out 3).trans rfl
   have hcz21_4 : w5.cell? ⟨gb126, 4, none⟩ = some (.slice A0_4 l0_4.length c0_4) := (blk_cell BK126.out 4).trans rfl
   have hfz21_0 := blk_frozen BK126.out 0
   have hfz21_1 := blk_frozen BK126.out 1
   have hfz21_2 := blk_frozen BK126.out 2
   have hfz21_3 := blk_frozen BK126.out 3
   have hfz21_4 := blk_frozen BK126.out 4
   have hcz22_0 : w5.cell? ⟨gb127, 0, none⟩ = some (.int .i64 a1_0) := (blk_cell BK127.out 0).trans rfl
   have hcz22_1 : w5.cell? ⟨gb127, 1, none⟩ = some (.int .i64 a1_1) := (blk_cell BK127.out 1).trans rfl
   have hcz22_2 : w5.cell? ⟨gb127, 2, none⟩ = some (.int .i64 a1_2) := (blk_cell BK127.out 2).trans rfl
   have hcz22_3 : w5.cell? ⟨gb127, 3, none⟩ = some (.int .i64 a1_3) := (blk_cell BK127.out 3).trans rfl
   have hcz22_4 : w5.cell? ⟨gb127, 4, none⟩ = some (.slice A1_4 l1_4.length c1_4) := (blk_cell BK127.out 4).trans rfl
   have hfz22_0 := blk_frozen BK127.out 0
   have hfz22_1 := blk_frozen BK127.out 1
   have hfz22_2 := blk_frozen BK127.out 2
   have hfz22_3 := blk_frozen BK127.out 3
   have hfz22_4 := blk_frozen BK127.out 4
   go_wp2
   go_ret
   exact ⟨by first | rfl | (simp [errW_none, errW_some] <;> rfl) | (simp [*, errW_none, errW_some] <;> rfl), zB HB⟩
 ·
  rw [if_neg c6] at H
  have c6b0 : (a0_0 == a1_0) = false := beq_eq_false_iff_ne.mpr c6
  have c6b1 : (a0_0 != a1_0) = true := bne_iff_ne.mpr c6
  (first | rw [c6b0] | (simp only [i64_w, i32_w]; rw [c6b0]) | skip)
  (try rw [c6b1])
  obtain rfl := Option.some.inj H
  have hnb23 := NB126_127.out
  have hnc23 := NB127_126.out
  have hcz24_0 : w5.cell? ⟨gb126, 0, none⟩ = some (.int .i64 a0_0) := (blk_cell BK126.out 0).trans rfl
  have hcz24_1 : w5.cell? ⟨gb126, 1, none⟩ = some (.int .i64 a0_1) := (blk_cell BK126.out 1).trans rfl
  have hcz24_2 : w5.cell? ⟨gb126, 2, none⟩ = some (.int .i64 a0_2) := (blk_cell BK126.out 2).trans rfl
  have hcz24_3 : w5.cell? ⟨gb126, 3, none⟩ = some (.int .i64 a0_3) := (blk_cell BK126.out 3).trans rfl
  have hcz24_4 : w5.cell? ⟨gb126, 4, none⟩ = some (.slice A0_4 l0_4.length c0_4) := (blk_cell BK126.out 4).trans rfl
  have hfz24_0 := blk_frozen BK126.out 0
  have hfz24_1 := blk_frozen BK126.out 1
  have hfz24_2 := blk_frozen BK126.out 2
  have hfz24_3 := blk_frozen BK126.out 3
  have hfz24_4 := blk_frozen BK126.out 4
  have hcz25_0 : w5.cell? ⟨gb127, 0, none⟩ = some (.int .i64 a1_0) := (blk_cell BK127.out 0).trans rfl
  have hcz25_1 : w5.cell? ⟨gb127, 1, none⟩ = some (.int .i64 a1_1) := (blk_cell BK127.out 1).trans rfl
  have hcz25_2 : w5.cell? ⟨gb127, 2, none⟩ = some (.int .i64 a1_2) := (blk_cell BK127.out 2).trans rfl
  have hcz25_3 : w5.cell? ⟨gb127, 3, none⟩ = some (.int .i64 a1_3) := (blk_cell BK127.out 3).trans rfl
  have hcz25_4 : w5.cell? ⟨gb127, 4, none⟩ = some (.slice A1_4 l1_4.length c1_4) := (blk_cell BK127.out 4).trans rfl
  have hfz25_0 := blk_frozen BK127.out 0
  have hfz25_1 := blk_frozen BK127.out 1
  have hfz25_2 := blk_frozen BK127.out 2
  have hfz25_3 := blk_frozen BK127.out 3
  have hfz25_4 := blk_frozen BK127.out 4
  go_wp2
  go_ret
  exact ⟨by first | rfl | (simp [errW_none, errW_some] <;> rfl) | (simp [*, errW_none, errW_some] <;> rfl), zB HB⟩

end Go.Proofs.Ytfjfnpegpcdnaaa.GB
