/- The functions of one seat as Lean functions, each with its contract: the call of the Go function returns what the Lean function answers. Written by a program of this session out of the translation; contracts made by hand are laid between. -/
import Derived.Test.YtpemcbjdlpajlaaG1x0
namespace Go.Proofs.Ytpemcbjdlpajlaa.G1
open Go.RowKit Go.Proofs.YtpemcbjdlpajlaaW.PrintWords Go.Proofs.YtpemcbjdlpajlaaW.PrintLast Go.Proofs.YtpemcbjdlpajlaaW.PrintMore
attribute [local go_sem] max2_int min2_int max_two min_two max_three min_three max_four min_four   -- for this text's walks alone
set_option linter.unusedVariables false
set_option linter.unusedSimpArgs false

/-! ### standstilllaw04_modest: function 8 -/
def standstilllaw04_modest.l0 : Nat → List (S62) → Int → Int → Int → Int → List (S62) → List (S62) → Option (Bool)
 | 0, _, _, _, _, _, _, _ => none
 | k + 1, x3, x4, x125000, x125001, x125002, x125003, x125004 => if x4 < (x3.length : Int) then (if 0 ≤ x4 then (if ((rd_T62 x3 x4).f1) > 36028797018963968 then (some false) else (standstilllaw04_modest.l0 k x3 (wrap64 (x4 + 1)) x125000 x125001 x125002 x125003 x125004)) else (none)) else (if x125001 ≥ (-36028797018963968) then (some (decide (x125001 ≤ 36028797018963968))) else (some false))
def standstilllaw04_modest.f (k : Nat) (a0_0 : Int) (a0_1 : Int) (a0_2 : Int) (l0_3 : List (S62)) (l0_4 : List (S62)) : Option (Bool) := (some (([] : List (S62)) : List (S62))).bind fun y125 => (if y125.length + l0_3.length < 8796093022208 then ((some (y125 ++ l0_3 : List (S62))).bind fun y128 => (if y128.length + l0_4.length < 8796093022208 then (standstilllaw04_modest.l0 k (y128 ++ l0_4) 0 a0_0 a0_1 a0_2 l0_3 l0_4) else (none))) else (none))
theorem standstilllaw04_modest.mono_l : ∀ k, (∀ y0 y1 y2 y3 y4 y5 y6, LeO (standstilllaw04_modest.l0 k y0 y1 y2 y3 y4 y5 y6) (standstilllaw04_modest.l0 (k + 1) y0 y1 y2 y3 y4 y5 y6))
 | 0 => fun _ _ _ _ _ _ _ r h => by simp [standstilllaw04_modest.l0] at h
 | k + 1 => by
  have ih0 := standstilllaw04_modest.mono_l k
  ·
   intro y0 y1 y2 y3 y4 y5 y6
   unfold standstilllaw04_modest.l0
   repeat' first
   | (with_reducible exact ih0 _ _ _ _ _ _ _)
   | (with_reducible exact LeO.refl _)
   | (with_reducible exact LeO.none _)
   | (with_reducible refine LeO.ite ?_ ?_)
   | (with_reducible refine LeO.bind ?_ (fun _ => ?_))
   | exact ih0 _ _ _ _ _ _ _
   | exact LeO.none _
   | refine LeO.ite ?_ ?_
   | refine LeO.bind ?_ (fun _ => ?_)
theorem standstilllaw04_modest.mono : ∀ a0 a1 a2 a3 a4 k, LeO (standstilllaw04_modest.f k a0 a1 a2 a3 a4) (standstilllaw04_modest.f (k + 1) a0 a1 a2 a3 a4) := by
 intro a0 a1 a2 a3 a4 k
 have ih0 := standstilllaw04_modest.mono_l k
 unfold standstilllaw04_modest.f
 repeat' first
   | (with_reducible exact ih0 _ _ _ _ _ _ _)
   | (with_reducible exact LeO.refl _)
   | (with_reducible exact LeO.none _)
   | (with_reducible refine LeO.ite ?_ ?_)
   | (with_reducible refine LeO.bind ?_ (fun _ => ?_))
   | exact ih0 _ _ _ _ _ _ _
   | exact LeO.none _
   | refine LeO.ite ?_ ?_
   | refine LeO.bind ?_ (fun _ => ?_)
def standstilllaw04_modest.T1 : Bool × List (List Nat × List Nat) := (true, [([], []), ([], []), ([1], [1]), ([0, 2], [0, 2]), ([], []), ([4], [4]), ([3, 5, 3], [3, 5]), ([6, 6, 0, 1, 2, 3, 4, 5, 6], [6])])
def standstilllaw04_modest.B1 : List Nat := [0, 0, 2, 7, 0, 16, 63, 127]
theorem standstilllaw04_modest.tab1 : rtab .any (opsOf Try.f8 1) = standstilllaw04_modest.T1 := by kernel_rfl
theorem standstilllaw04_modest.bits1 : waitsOk standstilllaw04_modest.T1.2 standstilllaw04_modest.B1 = true := by kernel_rfl
set_option maxHeartbeats 8000000 in
set_option maxRecDepth 100000 in
theorem standstilllaw04_modest.calls (k : Nat) (a0_0 : Int) (a0_1 : Int) (a0_2 : Int) (A0_3 : Option Addr) (c0_3 : Nat) (l0_3 : List (S62)) (A0_4 : Option Addr) (c0_4 : Nat) (l0_4 : List (S62)) (r : Bool) (w : World) (hr0_3 : Kd.C k62 w A0_3 l0_3.length l0_3) (hc0_3 : l0_3.length ≤ c0_3) (hr0_4 : Kd.C k62 w A0_4 l0_4.length l0_4) (hc0_4 : l0_4.length ≤ c0_4) (h : standstilllaw04_modest.f k a0_0 a0_1 a0_2 l0_3 l0_4 = some r) :
  Calls Try.prog 8 #[.agg #[.int .i64 a0_0, .int .i64 a0_1, .int .i64 a0_2, .slice A0_3 l0_3.length c0_3, .slice A0_4 l0_4.length c0_4]] w fun e w' => e = .returned (.bool r) ∧ Below w.heap.size w w' := by
 have hu27 := Try.underlying27
 have HR0_3 := Aside0.mk hr0_3
 have HC0_3 := Aside0.mk hc0_3
 clear hr0_3 hc0_3
 have HR0_4 := Aside0.mk hr0_4
 have HC0_4 := Aside0.mk hc0_4
 clear hr0_4 hc0_4
 have HB := Aside0.mk (Below.refl w.heap.size w)
 have H : ((some (([] : List (S62)) : List (S62))).bind fun y125 => (if y125.length + l0_3.length < 8796093022208 then ((some (y125 ++ l0_3 : List (S62))).bind fun y128 => (if y128.length + l0_4.length < 8796093022208 then (standstilllaw04_modest.l0 k (y128 ++ l0_4) 0 a0_0 a0_1 a0_2 l0_3 l0_4) else (none))) else (none))) = some r := h
 clear h
 obtain ⟨y125, hy125⟩ : ∃ y_ : List (S62), y_ = (([] : List (S62))) := ⟨_, rfl⟩
 replace H : (if y125.length + l0_3.length < 8796093022208 then ((some (y125 ++ l0_3 : List (S62))).bind fun y128 => (if y128.length + l0_4.length < 8796093022208 then (standstilllaw04_modest.l0 k (y128 ++ l0_4) 0 a0_0 a0_1 a0_2 l0_3 l0_4) else (none))) else (none)) = some r := by first | (rw [hy125]; with_reducible exact H) | (have H2_ := (Option.bind_some _ _).symm.trans H; rw [hy125]; with_reducible exact H2_) | (have H2_ := (Option.bind_some _ _).symm.trans H; with_reducible exact H2_) | with_reducible exact H | (rw [hy125]; exact H) | exact H
 have Ny125 := Aside0.mk hy125
 clear hy125
 by_cases c2 : y125.length + l0_3.length < 8796093022208
 ·
  rw [if_pos c2] at H
  have LMc2 := Aside0.mk c2
  clear c2
  obtain ⟨y128, hy128⟩ : ∃ y_ : List (S62), y_ = (y125 ++ l0_3) := ⟨_, rfl⟩
  replace H : (if y128.length + l0_4.length < 8796093022208 then (standstilllaw04_modest.l0 k (y128 ++ l0_4) 0 a0_0 a0_1 a0_2 l0_3 l0_4) else (none)) = some r := by first | (rw [hy128]; with_reducible exact H) | (have H2_ := (Option.bind_some _ _).symm.trans H; rw [hy128]; with_reducible exact H2_) | (have H2_ := (Option.bind_some _ _).symm.trans H; with_reducible exact H2_) | with_reducible exact H | (rw [hy128]; exact H) | exact H
  have Ny128 := Aside0.mk hy128
  clear hy128
  by_cases c3 : y128.length + l0_4.length < 8796093022208
  ·
   rw [if_pos c3] at H
   have LMc3 := Aside0.mk c3
   clear c3
   obtain ⟨y131, hy131⟩ : ∃ y_ : List (S62), y_ = (y128 ++ l0_4) := ⟨_, rfl⟩
   replace H : (standstilllaw04_modest.l0 k y131 0 a0_0 a0_1 a0_2 l0_3 l0_4) = some r := by first | (rw [hy131]; with_reducible exact H) | (have H2_ := (Option.bind_some _ _).symm.trans H; rw [hy131]; with_reducible exact H2_) | (have H2_ := (Option.bind_some _ _).symm.trans H; with_reducible exact H2_) | with_reducible exact H | (rw [hy131]; exact H) | exact H
   have Ny131 := Aside0.mk hy131
   clear hy131
   have H' := Aside0.mk H
   clear H
   go_enter Try.func8, Try.ntmps8
   try go_wp2_with (first | ((with_reducible refine gate_dst (N := 1) rfl ?_); refine box_event ?hg (N := 1) ?hd (cs := #[.int .i64 a0_0, .int .i64 a0_1, .int .i64 a0_2, .slice A0_3 l0_3.length c0_3, .slice A0_4 l0_4.length c0_4]) (t := 27) ?hr ?_; (case hd => rfl); (case hg => rfl); (case hr => first | (go_simp; done) | (go_simp; rfl)); intro gb124 hg w4 hbox hb; have BK124 := Aside0.mk (hbox); have GW124 := Aside0.mk ((by rw [hg]; exact (below_size (zB HB)) : w.heap.size ≤ gb124)); have GE124 := Aside0.mk ((by rw [hg]; exact (below_size (zB HB)) : w.heap.size ≤ gb124)); replace HB := Aside0.mk (below_step (zB HB) hb); clear hb hbox hg))
   replace BK124 := Aside0.mk (blk_drew BK124.out)
   replace HB := Aside0.mk (below_drew1 HB.out)
   refine start_ (n := 8) (S := fun w' => w'.cell? ⟨gb124, 0, none⟩ = some (.int .i64 a0_0) ∧ w'.cell? ⟨gb124, 1, none⟩ = some (.int .i64 a0_1) ∧ w'.cell? ⟨gb124, 2, none⟩ = some (.int .i64 a0_2) ∧ w'.cell? ⟨gb124, 3, none⟩ = some (.slice A0_3 l0_3.length c0_3) ∧ w'.cell? ⟨gb124, 4, none⟩ = some (.slice A0_4 l0_4.length c0_4)) (ds := []) (zl 8 0) (by kernel_rfl) rfl rfl ⟨(blk_cell BK124.out 0).trans rfl, (blk_cell BK124.out 1).trans rfl, (blk_cell BK124.out 2).trans rfl, (blk_cell BK124.out 3).trans rfl, (blk_cell BK124.out 4).trans rfl⟩ (fun hHeld => ?_); refine with_tabW standstilllaw04_modest.tab1 standstilllaw04_modest.bits1 (fun HT_ HW_ => ?_)
   generalize w4.drew = w5 at BK124 HB hHeld ⊢
   refine zP 1 (some 6) (zl 8 2) HT_ ?_
   refine zP 4 (some 9) (zl 8 18) HT_ ?_
   refine zT 2 (some 7) (zl 8 22) HT_ HW_ hHeld ?_
   refine zT 5 (some 10) (zl 8 54) HT_ HW_ hHeld ?_
   refine one_ (i := 0) (N := some 5) (zl 8 55) rfl rfl (one_of HT_.out (by kernel_rfl)) (by decide) (fun K hK => ?_)
   refine Kd.R_lit_step k62 _ 62 ?hg (N := 5) ?hd (xs := ([] : List (S62))) (inner := []) (ok := fun _ => True) (okp := fun _ => True) ?hr ?hp (fun _ hk => hk) trivial (Below.refl _ _) (Nat.le_refl _) (by simp) ?_; (case hd => rfl); (case hg => rfl); (case hr => first | (go_simp; done) | (go_simp; rfl)); (case hp => exact (Reps.none _ _))
   intro v126 w6 ho7 hb hg_ hnew_
   clear hg_ hnew_
   (first | rw [← Ny125.out] at ho7 | (simp only [Int.reduceToNat] at ho7; rw [← Ny125.out] at ho7))
   have HO127 := Aside0.mk (Kd.R_lower ho7 (below_size (zB HB)))
   replace BK124 := Aside0.mk (zb BK124 hb)
   replace HB := Aside0.mk (below_step (zB HB) hb)
   clear hb ho7
   refine hK.out _ _ ⟨(blk_cell BK124.out 0).trans rfl, (blk_cell BK124.out 1).trans rfl, (blk_cell BK124.out 2).trans rfl, (blk_cell BK124.out 3).trans rfl, (blk_cell BK124.out 4).trans rfl⟩ (fun hHeld => ?_)
   clear hK K
   refine norm_ (a' := ?_) ?_ ?_
   rotate_left
   ·
    show Act.put _ (some 5) _ = _
    simp only [Act.put, zs, zs0, zs1, i64_w, i32_w]
    rfl
   refine one_ (i := 3) (N := some 8) (zl 8 63) rfl rfl (one_of HT_.out (by kernel_rfl)) (by decide) (fun K hK => ?_)
   refine Kd.R_append_rows_step k62 (w0 := w) w.heap.size (by rfl) (.tmp 5) (.tmp 7) 25 62 (.agg #[(.int .i64 0), (.int .i64 0)]) 16 rfl Try.underlying25 info62 rfl (by decide) (by omega) v126 y125 l0_3 _ _ _ (fun _ => True) (fun _ => False) rfl rfl ?aO ?aR (fun _ _ h => h) (fun _ h => h.elim) ?aF ?aB ?aS ?aL ?_
   (case aR => exact zC ((Kd.C_below HR0_3.out HB.out)))
   (case aB => exact (zB HB))
   (case aF => exact (fun _ _ => trivial))
   (case aO => exact (zR HO127))
   (case aS => exact (below_size (zB HB)))
   (case aL => have := LMc2.out; omega)
   intro v129 w8 ho hb hg hat
   rw [← Ny128.out] at ho
   have n0_ := Aside0.mk (blk_grown (g := gb124) (o := .cells #[.int .i64 a0_0, .int .i64 a0_1, .int .i64 a0_2, .slice A0_3 l0_3.length c0_3, .slice A0_4 l0_4.length c0_4] 27 (0, 0)) (zk BK124) hg (Kd.R_ne HO127.out BK124.out (by decide)))
   have n1_ := Aside0.mk (hb)
   have n2_ := Aside0.mk (ho)
   clear BK124
   clear HB
   clear HO127
   have BK124 := n0_
   have HB := n1_
   have HO130 := n2_
   clear n0_ n1_ n2_
   clear ho hb hg hat
   refine hK.out _ _ ⟨(blk_cell BK124.out 0).trans rfl, (blk_cell BK124.out 1).trans rfl, (blk_cell BK124.out 2).trans rfl, (blk_cell BK124.out 3).trans rfl, (blk_cell BK124.out 4).trans rfl⟩ (fun hHeld => ?_)
   clear hK K
   refine norm_ (a' := ?_) ?_ ?_
   rotate_left
   ·
    show Act.put _ (some 8) _ = _
    simp only [Act.put, zs, zs0, zs1, i64_w, i32_w]
    rfl
   refine one_ (i := 6) (N := some 11) (zl 8 127) rfl rfl (one_of HT_.out (by kernel_rfl)) (by decide) (fun K hK => ?_)
   refine Kd.R_append_rows_step k62 (w0 := w) w.heap.size (by rfl) (.tmp 8) (.tmp 10) 25 62 (.agg #[(.int .i64 0), (.int .i64 0)]) 16 rfl Try.underlying25 info62 rfl (by decide) (by omega) v129 y128 l0_4 _ _ _ (fun _ => True) (fun _ => False) rfl rfl ?aO ?aR (fun _ _ h => h) (fun _ h => h.elim) ?aF ?aB ?aS ?aL ?_
   (case aR => exact zC ((Kd.C_below HR0_4.out HB.out)))
   (case aB => exact (zB HB))
   (case aF => exact (fun _ _ => trivial))
   (case aO => exact (zR HO130))
   (case aS => exact (below_size (zB HB)))
   (case aL => have := LMc3.out; omega)
   intro v132 w9 ho hb hg hat
   rw [← Ny131.out] at ho
   have n0_ := Aside0.mk (blk_grown (g := gb124) (o := .cells #[.int .i64 a0_0, .int .i64 a0_1, .int .i64 a0_2, .slice A0_3 l0_3.length c0_3, .slice A0_4 l0_4.length c0_4] 27 (0, 0)) (zk BK124) hg (Kd.R_ne HO130.out BK124.out (by decide)))
   have n1_ := Aside0.mk (hb)
   have n2_ := Aside0.mk (ho)
   clear BK124
   clear HB
   clear HO130
   have BK124 := n0_
   have HB := n1_
   have HO133 := n2_
   clear n0_ n1_ n2_
   clear ho hb hg hat
   refine hK.out _ _ ⟨(blk_cell BK124.out 0).trans rfl, (blk_cell BK124.out 1).trans rfl, (blk_cell BK124.out 2).trans rfl, (blk_cell BK124.out 3).trans rfl, (blk_cell BK124.out 4).trans rfl⟩ (fun hHeld => ?_)
   clear hK K
   refine norm_ (a' := ?_) ?_ ?_
   rotate_left
   ·
    show Act.put _ (some 11) _ = _
    simp only [Act.put, zs, zs0, zs1, i64_w, i32_w]
    rfl
   refine zP 7 (some 3) (zl 8 255) HT_ ?_
   refine done_ (done_of HT_.out (by kernel_rfl)) ?_
   try go_wp2
   go_loopg [4] k (fun kq v4 w' => ∃ (x4_1 : Int), v4 = .int .i64 x4_1 ∧ Aside0 (standstilllaw04_modest.l0 kq y131 x4_1 a0_0 a0_1 a0_2 l0_3 l0_4 = some r) ∧ Aside0 (kq ≤ k) ∧ Aside0 (Kd.R k62 62 w' w.heap.size (fun _ => True) v132 y131) ∧ Aside0 (w'.heap[gb124]? = some (.cells #[.int .i64 a0_0, .int .i64 a0_1, .int .i64 a0_2, (.slice A0_3 l0_3.length c0_3), (.slice A0_4 l0_4.length c0_4)] 27 (0, 0))) ∧ Aside0 (Below w.heap.size w w'))
   case atStart => exact ⟨(0), (by first | rfl | (simp; done) | (simp [*]; done)), H', ⟨Nat.le_refl _⟩, ⟨zR HO133⟩, ⟨zk BK124⟩, ⟨zB HB⟩⟩
   case round =>
    clear H'
    try clear c2
    try clear p2
    try clear c3
    try clear c8
    obtain ⟨x4_1, rfl, HA, HK1, HO_3, BK124, HB⟩ := hrel
    cases gk with
    | zero => exact absurd HA.out (by simp [standstilllaw04_modest.l0])
    | succ k1 =>
     have H := HA.out
     clear HA
     simp only [standstilllaw04_modest.l0] at H
     by_cases c10 : x4_1 < (y131.length : Int)
     ·
      rw [if_pos c10] at H
      have c10b0 : decide (x4_1 < (y131.length : Int)) = true := decide_eq_true c10
      clear c10
      by_cases c11 : 0 ≤ x4_1
      ·
       rw [if_pos c11] at H
       have c11b0 : decide (0 ≤ x4_1) = true := decide_eq_true c11
       clear c11
       by_cases c12 : ((rd_T62 y131 x4_1).f1) > 36028797018963968
       ·
        rw [if_pos c12] at H
        have c12b0 : decide (36028797018963968 < ((rd_T62 y131 x4_1).f1)) = true := decide_eq_true c12
        clear c12
        obtain rfl := Option.some.inj H
        obtain ⟨Ao13, co13, eo13⟩ := Kd.R_slice HO_3.out
        subst eo13
        have p134 : 0 ≤ (x4_1 : Int) := of_decide_eq_true (by first | (with_reducible assumption) | assumption)
        have q134 : x4_1 < (y131.length : Int) := of_decide_eq_true (by first | (with_reducible assumption) | assumption)
        obtain ⟨ad134, e134, hx134_0, hx134_1⟩ := at_T62 (Kd.R_reads' HO_3.out).2.2 x4_1 p134 q134
        cases e134
        replace p134 := eq_true p134
        replace q134 := eq_true q134
        go_wp2
        go_ret
        exact ⟨by first | rfl | (simp [errW_none, errW_some] <;> rfl) | (simp [*, errW_none, errW_some] <;> rfl), zB HB⟩
       ·
        rw [if_neg c12] at H
        have c12b0 : decide (36028797018963968 < ((rd_T62 y131 x4_1).f1)) = false := decide_eq_false c12
        clear c12
        have H' := Aside0.mk H
        clear H
        obtain ⟨Ao14, co14, eo14⟩ := Kd.R_slice HO_3.out
        subst eo14
        have p134 : 0 ≤ (x4_1 : Int) := of_decide_eq_true (by first | (with_reducible assumption) | assumption)
        have q134 : x4_1 < (y131.length : Int) := of_decide_eq_true (by first | (with_reducible assumption) | assumption)
        obtain ⟨ad134, e134, hx134_0, hx134_1⟩ := at_T62 (Kd.R_reads' HO_3.out).2.2 x4_1 p134 q134
        cases e134
        replace p134 := eq_true p134
        replace q134 := eq_true q134
        go_wp2
        go_roundg k1
        case measure => have := HK1.out; omega
        case rel => exact ⟨(wrap64 (x4_1 + 1)), (by first | rfl | (simp; done) | (simp [*]; done)), H', ⟨by have := HK1.out; omega⟩, ⟨zR HO_3⟩, ⟨zk BK124⟩, ⟨zB HB⟩⟩
      ·
       rw [if_neg c11] at H
       exact absurd H (by simp)
     ·
      rw [if_neg c10] at H
      have c10b0 : decide (x4_1 < (y131.length : Int)) = false := decide_eq_false c10
      clear c10
      by_cases c15 : a0_1 ≥ (-36028797018963968)
      ·
       rw [if_pos c15] at H
       have c15b0 : decide ((-36028797018963968) ≤ a0_1) = true := decide_eq_true c15
       clear c15
       obtain rfl := Option.some.inj H
       obtain ⟨Ao16, co16, eo16⟩ := Kd.R_slice HO_3.out
       subst eo16
       have hz17 := zc5 BK124
       go_wp2
       go_ret
       exact ⟨by first | rfl | (simp [errW_none, errW_some] <;> rfl) | (simp [*, errW_none, errW_some] <;> rfl), zB HB⟩
      ·
       rw [if_neg c15] at H
       have c15b0 : decide ((-36028797018963968) ≤ a0_1) = false := decide_eq_false c15
       clear c15
       obtain rfl := Option.some.inj H
       obtain ⟨Ao18, co18, eo18⟩ := Kd.R_slice HO_3.out
       subst eo18
       have hz19 := zc5 BK124
       go_wp2
       go_ret
       exact ⟨by first | rfl | (simp [errW_none, errW_some] <;> rfl) | (simp [*, errW_none, errW_some] <;> rfl), zB HB⟩
  ·
   rw [if_neg c3] at H
   exact absurd H (by simp)
 ·
  rw [if_neg c2] at H
  exact absurd H (by simp)

/-! ### leap_side: function 37 -/
mutual
def leap_side.j0 : Nat → Int → List (S62) → Bool → Option (Bool)
 | 0, _, _, _ => none
 | k + 1, x0, x1, x24 => if x24 = true then (some false) else (leap_side.l0 k x0 x1 x1 (x1.length : Int) 0)
def leap_side.l0 : Nat → Int → List (S62) → List (S62) → Int → Int → Option (Bool)
 | 0, _, _, _, _, _ => none
 | k + 1, x0, x1, x25, x26, x27 => if x27 < x26 then (if 0 ≤ x27 then (if x27 < (x25.length : Int) then (if ((rd_T62 x25 x27).f0) < 0 then (some false) else (if ((rd_T62 x25 x27).f0) ≥ x0 then (some false) else (if ((rd_T62 x25 x27).f1) < 1 then (some false) else (if ((rd_T62 x25 x27).f1) > 1152921504606846976 then (some false) else (if x27 > 0 then (if 0 ≤ (wrap64 (x27 - 1)) then (if (wrap64 (x27 - 1)) < (x1.length : Int) then (if ((rd_T62 x1 (wrap64 (x27 - 1))).f0) = ((rd_T62 x25 x27).f0) then (some false) else (leap_side.l0 k x0 x1 x25 x26 (wrap64 (x27 + 1)))) else (none)) else (none)) else (leap_side.l0 k x0 x1 x25 x26 (wrap64 (x27 + 1)))))))) else (none)) else (none)) else (some true)
end
def leap_side.f (k : Nat) (a0 : Int) (l1 : List (S62)) : Option (Bool) := if (l1.length : Int) > 2000 then (leap_side.j0 k a0 l1 true) else (if (l1.length : Int) > 0 then (if 0 ≤ (wrap64 ((l1.length : Int) - 1)) then (if (wrap64 ((l1.length : Int) - 1)) < (l1.length : Int) then (leap_side.j0 k a0 l1 (((rd_T62 l1 (wrap64 ((l1.length : Int) - 1))).f0) == 0)) else (none)) else (none)) else (leap_side.j0 k a0 l1 false))
theorem leap_side.mono_l : ∀ k, (∀ y0 y1 y2, LeO (leap_side.j0 k y0 y1 y2) (leap_side.j0 (k + 1) y0 y1 y2)) ∧ (∀ y0 y1 y2 y3 y4, LeO (leap_side.l0 k y0 y1 y2 y3 y4) (leap_side.l0 (k + 1) y0 y1 y2 y3 y4))
 | 0 => ⟨fun _ _ _ r h => by simp [leap_side.j0] at h, fun _ _ _ _ _ r h => by simp [leap_side.l0] at h⟩
 | k + 1 => by
  obtain ⟨ih0, ih1⟩ := leap_side.mono_l k
  refine ⟨?_, ?_⟩
  ·
   intro y0 y1 y2
   unfold leap_side.j0
   repeat' first
   | (with_reducible exact ih0 _ _ _)
   | (with_reducible exact ih1 _ _ _ _ _)
   | (with_reducible exact LeO.refl _)
   | (with_reducible exact LeO.none _)
   | (with_reducible refine LeO.ite ?_ ?_)
   | (with_reducible refine LeO.bind ?_ (fun _ => ?_))
   | exact ih0 _ _ _
   | exact ih1 _ _ _ _ _
   | exact LeO.none _
   | refine LeO.ite ?_ ?_
   | refine LeO.bind ?_ (fun _ => ?_)
  ·
   intro y0 y1 y2 y3 y4
   unfold leap_side.l0
   repeat' first
   | (with_reducible exact ih0 _ _ _)
   | (with_reducible exact ih1 _ _ _ _ _)
   | (with_reducible exact LeO.refl _)
   | (with_reducible exact LeO.none _)
   | (with_reducible refine LeO.ite ?_ ?_)
   | (with_reducible refine LeO.bind ?_ (fun _ => ?_))
   | exact ih0 _ _ _
   | exact ih1 _ _ _ _ _
   | exact LeO.none _
   | refine LeO.ite ?_ ?_
   | refine LeO.bind ?_ (fun _ => ?_)
theorem leap_side.mono : ∀ a0 a1 k, LeO (leap_side.f k a0 a1) (leap_side.f (k + 1) a0 a1) := by
 intro a0 a1 k
 obtain ⟨ih0, ih1⟩ := leap_side.mono_l k
 unfold leap_side.f
 repeat' first
   | (with_reducible exact ih0 _ _ _)
   | (with_reducible exact ih1 _ _ _ _ _)
   | (with_reducible exact LeO.refl _)
   | (with_reducible exact LeO.none _)
   | (with_reducible refine LeO.ite ?_ ?_)
   | (with_reducible refine LeO.bind ?_ (fun _ => ?_))
   | exact ih0 _ _ _
   | exact ih1 _ _ _ _ _
   | exact LeO.none _
   | refine LeO.ite ?_ ?_
   | refine LeO.bind ?_ (fun _ => ?_)
set_option maxHeartbeats 8000000 in
set_option maxRecDepth 100000 in
theorem leap_side.calls (k : Nat) (a0 : Int) (A1 : Option Addr) (c1 : Nat) (l1 : List (S62)) (r : Bool) (w : World) (hr1 : Kd.C k62 w A1 l1.length l1) (hc1 : l1.length ≤ c1) (h : leap_side.f k a0 l1 = some r) :
  Calls Try.prog 37 #[.int .i64 a0, .slice A1 l1.length c1] w fun e w' => e = .returned (.bool r) ∧ Below w.heap.size w w' := by
 have hu62 := Try.underlying62
 have HR1 := Aside0.mk hr1
 have HC1 := Aside0.mk hc1
 clear hr1 hc1
 have HB := Aside0.mk (Below.refl w.heap.size w)
 have H : (if (l1.length : Int) > 2000 then (leap_side.j0 k a0 l1 true) else (if (l1.length : Int) > 0 then (if 0 ≤ (wrap64 ((l1.length : Int) - 1)) then (if (wrap64 ((l1.length : Int) - 1)) < (l1.length : Int) then (leap_side.j0 k a0 l1 (((rd_T62 l1 (wrap64 ((l1.length : Int) - 1))).f0) == 0)) else (none)) else (none)) else (leap_side.j0 k a0 l1 false))) = some r := h
 clear h
 have HC3 := Aside0.mk H
 clear H
 go_enter Try.func37, Try.ntmps37
 go_upto_region 1 with (fail)
 repeat (go_quiet (fail); go_upto_region 1 with (fail))
 go_cut [24] (fun v24 wc => ∃ (kq : Nat) (x24_2 : Bool), v24 = .bool x24_2 ∧ Aside0 (leap_side.j0 kq a0 l1 x24_2 = some r) ∧ Aside0 (kq ≤ k) ∧ Aside0 (Below w.heap.size w wc))
 case first =>
  have H := HC3.out
  clear HC3
  by_cases c4 : (l1.length : Int) > 2000
  ·
   rw [if_pos c4] at H
   have c4b0 : decide (2000 < (l1.length : Int)) = true := decide_eq_true c4
   have c4b1 : decide (2000 < l1.length) = true := decide_eq_true (by omega)
   clear c4
   (first | rw [c4b0] | (simp only [i64_w, i32_w]; rw [c4b0]) | skip)
   (try rw [c4b1])
   have H' := Aside0.mk H
   clear H
   go_wp2
   repeat (go_quiet (fail); try go_wp2)
   go_meet
   case rel => exact ⟨_, (true), (by first | rfl | (simp; done) | (simp [*]; done)), H', ⟨by first | omega | exact Nat.le_refl _⟩, ⟨zB HB⟩⟩
  ·
   rw [if_neg c4] at H
   have c4b0 : decide (2000 < (l1.length : Int)) = false := decide_eq_false c4
   have c4b1 : decide (2000 < l1.length) = false := decide_eq_false (by omega)
   clear c4
   (first | rw [c4b0] | (simp only [i64_w, i32_w]; rw [c4b0]) | skip)
   (try rw [c4b1])
   by_cases c5 : (l1.length : Int) > 0
   ·
    rw [if_pos c5] at H
    have c5b0 : decide (0 < (l1.length : Int)) = true := decide_eq_true c5
    have c5b1 : decide (0 < l1.length) = true := decide_eq_true (by omega)
    clear c5
    obtain ⟨ji6, hji6⟩ : ∃ j_ : Int, (wrap64 ((l1.length : Int) - 1)) = j_ := ⟨_, rfl⟩
    replace H : (if 0 ≤ (ji6) then (if (ji6) < (l1.length : Int) then (leap_side.j0 k a0 l1 (((rd_T62 l1 (ji6)).f0) == 0)) else (none)) else (none)) = some r := by first | (rw [hji6] at H; exact H) | (simp only [hji6] at H ⊢; exact H)
    have hji6w : (IntKind.i64.wrap ((l1.length : Int) - 1)) = ji6 := (i64_w _).trans hji6
    by_cases c7 : 0 ≤ (ji6)
    ·
     rw [if_pos c7] at H
     have c7b0 : decide (0 ≤ (ji6)) = true := decide_eq_true c7
     clear c7
     by_cases c8 : (ji6) < (l1.length : Int)
     ·
      rw [if_pos c8] at H
      have c8b0 : decide ((ji6) < (l1.length : Int)) = true := decide_eq_true c8
      clear c8
      have H' := Aside0.mk H
      clear H
      have p135 : 0 ≤ ((ji6) : Int) := of_decide_eq_true (by first | (with_reducible assumption) | assumption)
      have q135 : (ji6) < (l1.length : Int) := of_decide_eq_true (by first | (with_reducible assumption) | assumption)
      obtain ⟨ad135, e135, hx135_0, hx135_1⟩ := at_T62 HR1.out (ji6) p135 q135
      cases e135
      replace hx135_0 := (HB.out.cell (World.block_lt_of_cell? w _ hx135_0)).trans hx135_0
      replace hx135_1 := (HB.out.cell (World.block_lt_of_cell? w _ hx135_1)).trans hx135_1
      replace p135 := eq_true p135
      replace q135 := eq_true q135
      go_wp2
      repeat (go_quiet (fail); try go_wp2)
      go_meet
      case rel => exact ⟨_, ((((rd_T62 l1 (ji6)).f0) == 0)), (by first | rfl | (simp; done) | (simp only [← hji6] <;> (first | rfl | simp)) | (simp [*]; done)), H', ⟨by first | omega | exact Nat.le_refl _⟩, ⟨zB HB⟩⟩
     ·
      rw [if_neg c8] at H
      exact absurd H (by simp)
    ·
     rw [if_neg c7] at H
     exact absurd H (by simp)
   ·
    rw [if_neg c5] at H
    have c5b0 : decide (0 < (l1.length : Int)) = false := decide_eq_false c5
    have c5b1 : decide (0 < l1.length) = false := decide_eq_false (by omega)
    clear c5
    have H' := Aside0.mk H
    clear H
    go_wp2
    repeat (go_quiet (fail); try go_wp2)
    go_meet
    case rel => exact ⟨_, (false), (by first | rfl | (simp; done) | (simp [*]; done)), H', ⟨by first | omega | exact Nat.le_refl _⟩, ⟨zB HB⟩⟩
 case rest =>
  clear HC3
  try clear c1
  try clear p1
  try clear q1
  try clear hx1
  try clear p2
  try clear c3
  try clear c4
  try clear c4b0
  try clear c4b1
  try clear c5
  try clear c5b0
  try clear c5b1
  try clear p6
  try clear c7
  try clear c7b0
  try clear c8
  try clear c8b0
  try clear hx135_0
  try clear hx135_1
  try clear p135
  try clear q135
  obtain ⟨kq, x24_2, rfl, HA, HJ2, HB⟩ := hcut
  cases kq with
  | zero => exact absurd HA.out (by simp [leap_side.j0])
  | succ kj2 =>
   have H := HA.out
   clear HA
   simp only [leap_side.j0] at H
   by_cases c9 : x24_2 = true
   ·
    subst c9
    have H1 : (some false) = some r := by rw [if_pos rfl] at H; exact H
    clear H
    have H := H1
    clear H1
    obtain rfl := Option.some.inj H
    go_wp2
    repeat (go_quiet (fail); try go_wp2)
    go_ret
    exact ⟨by first | rfl | (simp [errW_none, errW_some] <;> rfl) | (simp [*, errW_none, errW_some] <;> rfl), zB HB⟩
   ·
    replace c9 := Bool.eq_false_iff.mpr c9
    subst c9
    have H1 : (leap_side.l0 kj2 a0 l1 l1 (l1.length : Int) 0) = some r := by rw [if_neg (show ¬ (false = true) by decide)] at H; exact H
    clear H
    have H := H1
    clear H1
    have H' := Aside0.mk H
    clear H
    go_wp2
    repeat (go_quiet (fail); try go_wp2)
    go_loopg [27] kj2 (fun kq v27 w' => ∃ (x27_2 : Int), v27 = .int .i64 x27_2 ∧ Aside0 (leap_side.l0 kq a0 l1 l1 (l1.length : Int) x27_2 = some r) ∧ Aside0 (kq ≤ kj2) ∧ Aside0 (Below w.heap.size w w'))
    case atStart => exact ⟨(0), (by first | rfl | (simp; done) | (simp [*]; done)), H', ⟨Nat.le_refl _⟩, ⟨zB HB⟩⟩
    case round =>
     clear H'
     try clear c1
     try clear p1
     try clear q1
     try clear hx1
     try clear p2
     try clear c3
     try clear c4
     try clear c4b0
     try clear c4b1
     try clear c5
     try clear c5b0
     try clear c5b1
     try clear p6
     try clear c7
     try clear c7b0
     try clear c8
     try clear c8b0
     try clear c9
     try clear hx135_0
     try clear hx135_1
     try clear p1
     try clear p135
     try clear p2
     try clear p6
     try clear q1
     try clear q135
     obtain ⟨x27_2, rfl, HA, HK2, HB⟩ := hrel
     cases gk with
     | zero => exact absurd HA.out (by simp [leap_side.l0])
     | succ k2 =>
      have H := HA.out
      clear HA
      simp only [leap_side.l0] at H
      by_cases c10 : x27_2 < (l1.length : Int)
      ·
       rw [if_pos c10] at H
       have c10b0 : decide (x27_2 < (l1.length : Int)) = true := decide_eq_true c10
       clear c10
       by_cases c11 : 0 ≤ x27_2
       ·
        rw [if_pos c11] at H
        have c11b0 : decide (0 ≤ x27_2) = true := decide_eq_true c11
        clear c11
        by_cases c12 : x27_2 < (l1.length : Int)
        ·
         rw [if_pos c12] at H
         have c12b0 : decide (x27_2 < (l1.length : Int)) = true := decide_eq_true c12
         clear c12
         have HC13 := Aside0.mk H
         clear H
         have p136 : 0 ≤ (x27_2 : Int) := of_decide_eq_true (by first | (with_reducible assumption) | assumption)
         have q136 : x27_2 < (l1.length : Int) := of_decide_eq_true (by first | (with_reducible assumption) | assumption)
         obtain ⟨ad136, e136, hx136_0, hx136_1⟩ := at_T62 HR1.out x27_2 p136 q136
         cases e136
         replace hx136_0 := (HB.out.cell (World.block_lt_of_cell? w _ hx136_0)).trans hx136_0
         replace hx136_1 := (HB.out.cell (World.block_lt_of_cell? w _ hx136_1)).trans hx136_1
         replace p136 := eq_true p136
         replace q136 := eq_true q136
         go_upto_region 6 with (first | ((with_reducible refine gate_dst (N := 6) rfl ?_); (try (refine gate_guard (by rfl) ?_; dsimp only)); refine box_event ?hg (N := 6) ?hd (cs := #[.int .i64 0, .int .i64 0]) (t := 62) ?hr ?_; (case hd => rfl); (case hg => rfl); (case hr => first | (go_simp; done) | (go_simp; rfl)); intro gb137 hg w14 hbox hb; have BK137 := Aside0.mk (hbox); have GW137 := Aside0.mk ((by rw [hg]; exact (below_size (zB HB)) : w.heap.size ≤ gb137)); have GE137 := Aside0.mk ((by rw [hg]; exact (below_size (zB HB)) : w.heap.size ≤ gb137)); replace HB := Aside0.mk (below_step (zB HB) hb); clear hb hbox hg; have hz15 := zc2 BK137) | ((with_reducible refine gate_store (t := 62) (p := 6) rfl ?_); (try (rw [drewN_self w14]; generalize hq_ : World.drewN w14 _ = w14; have n0_ := Aside0.mk (blk_at hq_ BK137.out); have n1_ := Aside0.mk (below_at hq_ HB.out); clear hq_ BK137 HB; have BK137 := n0_; have HB := n1_; clear n0_ n1_)); refine store_event (t := 62) (p := 6) (v := ?vo_w16) (w1 := ((w14.setCell ⟨gb137, 0, none⟩ (.int .i64 ((rd_T62 l1 x27_2).f0))).setCell ⟨gb137, 1, none⟩ (.int .i64 ((rd_T62 l1 x27_2).f1)))) ?hg ?ho ?hn ?hr ?_; (case ho => rfl); (case hg => rfl); (case hn => rfl); (case hr => first | (go_simp; done) | (go_simp; rfl)); intro w16 hw; have n0_ : Aside0 (w16.heap[gb137]? = some (.cells #[.int .i64 ((rd_T62 l1 x27_2).f0), .int .i64 ((rd_T62 l1 x27_2).f1)] 62 (0, 0))) := ⟨(by rw [hw]; exact (by (with_reducible repeat (first | refine blk_drewN ?_ _ | refine blk_drew ?_ | refine blk_alloc ?_ _)); refine blk_put (cs := #[.int .i64 ((rd_T62 l1 x27_2).f0), .int .i64 0]) ?_ 1 _ rfl; (with_reducible repeat (first | refine blk_drewN ?_ _ | refine blk_drew ?_ | refine blk_alloc ?_ _)); refine blk_put (cs := #[.int .i64 0, .int .i64 0]) ?_ 0 _ rfl; (with_reducible repeat (first | refine blk_drewN ?_ _ | refine blk_drew ?_ | refine blk_alloc ?_ _)); exact BK137.out))⟩; have n1_ : Aside0 (Below w.heap.size w w16) := ⟨(by rw [hw]; exact (zB HB))⟩; clear hw; clear BK137; clear HB; have BK137 := n0_; have HB := n1_; clear n0_ n1_))
         repeat (go_quiet (first | ((with_reducible refine gate_dst (N := 6) rfl ?_); (try (refine gate_guard (by rfl) ?_; dsimp only)); refine box_event ?hg (N := 6) ?hd (cs := #[.int .i64 0, .int .i64 0]) (t := 62) ?hr ?_; (case hd => rfl); (case hg => rfl); (case hr => first | (go_simp; done) | (go_simp; rfl)); intro gb137 hg w14 hbox hb; have BK137 := Aside0.mk (hbox); have GW137 := Aside0.mk ((by rw [hg]; exact (below_size (zB HB)) : w.heap.size ≤ gb137)); have GE137 := Aside0.mk ((by rw [hg]; exact (below_size (zB HB)) : w.heap.size ≤ gb137)); replace HB := Aside0.mk (below_step (zB HB) hb); clear hb hbox hg; have hz15 := zc2 BK137) | ((with_reducible refine gate_store (t := 62) (p := 6) rfl ?_); (try (rw [drewN_self w14]; generalize hq_ : World.drewN w14 _ = w14; have n0_ := Aside0.mk (blk_at hq_ BK137.out); have n1_ := Aside0.mk (below_at hq_ HB.out); clear hq_ BK137 HB; have BK137 := n0_; have HB := n1_; clear n0_ n1_)); refine store_event (t := 62) (p := 6) (v := ?vo_w16) (w1 := ((w14.setCell ⟨gb137, 0, none⟩ (.int .i64 ((rd_T62 l1 x27_2).f0))).setCell ⟨gb137, 1, none⟩ (.int .i64 ((rd_T62 l1 x27_2).f1)))) ?hg ?ho ?hn ?hr ?_; (case ho => rfl); (case hg => rfl); (case hn => rfl); (case hr => first | (go_simp; done) | (go_simp; rfl)); intro w16 hw; have n0_ : Aside0 (w16.heap[gb137]? = some (.cells #[.int .i64 ((rd_T62 l1 x27_2).f0), .int .i64 ((rd_T62 l1 x27_2).f1)] 62 (0, 0))) := ⟨(by rw [hw]; exact (by (with_reducible repeat (first | refine blk_drewN ?_ _ | refine blk_drew ?_ | refine blk_alloc ?_ _)); refine blk_put (cs := #[.int .i64 ((rd_T62 l1 x27_2).f0), .int .i64 0]) ?_ 1 _ rfl; (with_reducible repeat (first | refine blk_drewN ?_ _ | refine blk_drew ?_ | refine blk_alloc ?_ _)); refine blk_put (cs := #[.int .i64 0, .int .i64 0]) ?_ 0 _ rfl; (with_reducible repeat (first | refine blk_drewN ?_ _ | refine blk_drew ?_ | refine blk_alloc ?_ _)); exact BK137.out))⟩; have n1_ : Aside0 (Below w.heap.size w w16) := ⟨(by rw [hw]; exact (zB HB))⟩; clear hw; clear BK137; clear HB; have BK137 := n0_; have HB := n1_; clear n0_ n1_)); go_upto_region 6 with (first | ((with_reducible refine gate_dst (N := 6) rfl ?_); (try (refine gate_guard (by rfl) ?_; dsimp only)); refine box_event ?hg (N := 6) ?hd (cs := #[.int .i64 0, .int .i64 0]) (t := 62) ?hr ?_; (case hd => rfl); (case hg => rfl); (case hr => first | (go_simp; done) | (go_simp; rfl)); intro gb137 hg w14 hbox hb; have BK137 := Aside0.mk (hbox); have GW137 := Aside0.mk ((by rw [hg]; exact (below_size (zB HB)) : w.heap.size ≤ gb137)); have GE137 := Aside0.mk ((by rw [hg]; exact (below_size (zB HB)) : w.heap.size ≤ gb137)); replace HB := Aside0.mk (below_step (zB HB) hb); clear hb hbox hg; have hz15 := zc2 BK137) | ((with_reducible refine gate_store (t := 62) (p := 6) rfl ?_); (try (rw [drewN_self w14]; generalize hq_ : World.drewN w14 _ = w14; have n0_ := Aside0.mk (blk_at hq_ BK137.out); have n1_ := Aside0.mk (below_at hq_ HB.out); clear hq_ BK137 HB; have BK137 := n0_; have HB := n1_; clear n0_ n1_)); refine store_event (t := 62) (p := 6) (v := ?vo_w16) (w1 := ((w14.setCell ⟨gb137, 0, none⟩ (.int .i64 ((rd_T62 l1 x27_2).f0))).setCell ⟨gb137, 1, none⟩ (.int .i64 ((rd_T62 l1 x27_2).f1)))) ?hg ?ho ?hn ?hr ?_; (case ho => rfl); (case hg => rfl); (case hn => rfl); (case hr => first | (go_simp; done) | (go_simp; rfl)); intro w16 hw; have n0_ : Aside0 (w16.heap[gb137]? = some (.cells #[.int .i64 ((rd_T62 l1 x27_2).f0), .int .i64 ((rd_T62 l1 x27_2).f1)] 62 (0, 0))) := ⟨(by rw [hw]; exact (by (with_reducible repeat (first | refine blk_drewN ?_ _ | refine blk_drew ?_ | refine blk_alloc ?_ _)); refine blk_put (cs := #[.int .i64 ((rd_T62 l1 x27_2).f0), .int .i64 0]) ?_ 1 _ rfl; (with_reducible repeat (first | refine blk_drewN ?_ _ | refine blk_drew ?_ | refine blk_alloc ?_ _)); refine blk_put (cs := #[.int .i64 0, .int .i64 0]) ?_ 0 _ rfl; (with_reducible repeat (first | refine blk_drewN ?_ _ | refine blk_drew ?_ | refine blk_alloc ?_ _)); exact BK137.out))⟩; have n1_ : Aside0 (Below w.heap.size w w16) := ⟨(by rw [hw]; exact (zB HB))⟩; clear hw; clear BK137; clear HB; have BK137 := n0_; have HB := n1_; clear n0_ n1_)))
         (try simp only [Act.put, zs, zs0, zs1])
         have H := HC13.out
         clear HC13
         by_cases c17 : ((rd_T62 l1 x27_2).f0) < 0
         ·
          rw [if_pos c17] at H
          have c17b0 : decide (((rd_T62 l1 x27_2).f0) < 0) = true := decide_eq_true c17
          clear c17
          (first | rw [c17b0] | (simp only [i64_w, i32_w]; rw [c17b0]) | skip)
          (try rw [c17b1])
          obtain rfl := Option.some.inj H
          have hz18 := zc2 BK137
          go_wp2
          repeat (go_quiet (fail); try go_wp2)
          go_ret
          exact ⟨by first | rfl | (simp [errW_none, errW_some] <;> rfl) | (simp [*, errW_none, errW_some] <;> rfl), zB HB⟩
         ·
          rw [if_neg c17] at H
          have c17b0 : decide (((rd_T62 l1 x27_2).f0) < 0) = false := decide_eq_false c17
          clear c17
          (first | rw [c17b0] | (simp only [i64_w, i32_w]; rw [c17b0]) | skip)
          (try rw [c17b1])
          by_cases c19 : ((rd_T62 l1 x27_2).f0) ≥ a0
          ·
           rw [if_pos c19] at H
           have c19b0 : decide (a0 ≤ ((rd_T62 l1 x27_2).f0)) = true := decide_eq_true c19
           clear c19
           obtain rfl := Option.some.inj H
           have hz20 := zc2 BK137
           go_wp2
           repeat (go_quiet (fail); try go_wp2)
           go_ret
           exact ⟨by first | rfl | (simp [errW_none, errW_some] <;> rfl) | (simp [*, errW_none, errW_some] <;> rfl), zB HB⟩
          ·
           rw [if_neg c19] at H
           have c19b0 : decide (a0 ≤ ((rd_T62 l1 x27_2).f0)) = false := decide_eq_false c19
           clear c19
           by_cases c21 : ((rd_T62 l1 x27_2).f1) < 1
           ·
            rw [if_pos c21] at H
            have c21b0 : decide (((rd_T62 l1 x27_2).f1) < 1) = true := decide_eq_true c21
            clear c21
            obtain rfl := Option.some.inj H
            have hz22 := zc2 BK137
            go_wp2
            repeat (go_quiet (fail); try go_wp2)
            go_ret
            exact ⟨by first | rfl | (simp [errW_none, errW_some] <;> rfl) | (simp [*, errW_none, errW_some] <;> rfl), zB HB⟩
           ·
            rw [if_neg c21] at H
            have c21b0 : decide (((rd_T62 l1 x27_2).f1) < 1) = false := decide_eq_false c21
            clear c21
            by_cases c23 : ((rd_T62 l1 x27_2).f1) > 1152921504606846976
            ·
             rw [if_pos c23] at H
             have c23b0 : decide (1152921504606846976 < ((rd_T62 l1 x27_2).f1)) = true := decide_eq_true c23
             clear c23
             obtain rfl := Option.some.inj H
             have hz24 := zc2 BK137
             go_wp2
             repeat (go_quiet (fail); try go_wp2)
             go_ret
             exact ⟨by first | rfl | (simp [errW_none, errW_some] <;> rfl) | (simp [*, errW_none, errW_some] <;> rfl), zB HB⟩
            ·
             rw [if_neg c23] at H
             have c23b0 : decide (1152921504606846976 < ((rd_T62 l1 x27_2).f1)) = false := decide_eq_false c23
             clear c23
             by_cases c25 : x27_2 > 0
             ·
              rw [if_pos c25] at H
              have c25b0 : decide (0 < x27_2) = true := decide_eq_true c25
              clear c25
              obtain ⟨ji26, hji26⟩ : ∃ j_ : Int, (wrap64 (x27_2 - 1)) = j_ := ⟨_, rfl⟩
              replace H : (if 0 ≤ (ji26) then (if (ji26) < (l1.length : Int) then (if ((rd_T62 l1 (ji26)).f0) = ((rd_T62 l1 x27_2).f0) then (some false) else (leap_side.l0 k2 a0 l1 l1 (l1.length : Int) (wrap64 (x27_2 + 1)))) else (none)) else (none)) = some r := by first | (rw [hji26] at H; exact H) | (simp only [hji26] at H ⊢; exact H)
              have hji26w : (IntKind.i64.wrap (x27_2 - 1)) = ji26 := (i64_w _).trans hji26
              by_cases c27 : 0 ≤ (ji26)
              ·
               rw [if_pos c27] at H
               have c27b0 : decide (0 ≤ (ji26)) = true := decide_eq_true c27
               clear c27
               by_cases c28 : (ji26) < (l1.length : Int)
               ·
                rw [if_pos c28] at H
                have c28b0 : decide ((ji26) < (l1.length : Int)) = true := decide_eq_true c28
                clear c28
                by_cases c29 : ((rd_T62 l1 (ji26)).f0) = ((rd_T62 l1 x27_2).f0)
                ·
                 rw [if_pos c29] at H
                 have c29b0 : (((rd_T62 l1 (ji26)).f0) == ((rd_T62 l1 x27_2).f0)) = true := beq_iff_eq.mpr c29
                 have c29b1 : (((rd_T62 l1 (ji26)).f0) != ((rd_T62 l1 x27_2).f0)) = false := bne_eq_false_iff_eq.mpr c29
                 clear c29
                 obtain rfl := Option.some.inj H
                 have hz30 := zc2 BK137
                 have p138 : 0 ≤ ((ji26) : Int) := of_decide_eq_true (by first | (with_reducible assumption) | assumption)
                 have q138 : (ji26) < (l1.length : Int) := of_decide_eq_true (by first | (with_reducible assumption) | assumption)
                 obtain ⟨ad138, e138, hx138_0, hx138_1⟩ := at_T62 HR1.out (ji26) p138 q138
                 obtain rfl : ad136 = ad138 := (by injection e138)
                 replace hx138_0 := (HB.out.cell (World.block_lt_of_cell? w _ hx138_0)).trans hx138_0
                 replace hx138_1 := (HB.out.cell (World.block_lt_of_cell? w _ hx138_1)).trans hx138_1
                 replace p138 := eq_true p138
                 replace q138 := eq_true q138
                 go_wp2
                 repeat (go_quiet (fail); try go_wp2)
                 go_ret
                 exact ⟨by first | rfl | (simp [errW_none, errW_some] <;> rfl) | (simp only [← hji26]; first | rfl | (simp [errW_none, errW_some] <;> rfl)) | (simp [*, errW_none, errW_some] <;> rfl), zB HB⟩
                ·
                 rw [if_neg c29] at H
                 have c29b0 : (((rd_T62 l1 (ji26)).f0) == ((rd_T62 l1 x27_2).f0)) = false := beq_eq_false_iff_ne.mpr c29
                 have c29b1 : (((rd_T62 l1 (ji26)).f0) != ((rd_T62 l1 x27_2).f0)) = true := bne_iff_ne.mpr c29
                 have H' := Aside0.mk H
                 clear H
                 have hz31 := zc2 BK137
                 have p138 : 0 ≤ ((ji26) : Int) := of_decide_eq_true (by first | (with_reducible assumption) | assumption)
                 have q138 : (ji26) < (l1.length : Int) := of_decide_eq_true (by first | (with_reducible assumption) | assumption)
                 obtain ⟨ad138, e138, hx138_0, hx138_1⟩ := at_T62 HR1.out (ji26) p138 q138
                 obtain rfl : ad136 = ad138 := (by injection e138)
                 replace hx138_0 := (HB.out.cell (World.block_lt_of_cell? w _ hx138_0)).trans hx138_0
                 replace hx138_1 := (HB.out.cell (World.block_lt_of_cell? w _ hx138_1)).trans hx138_1
                 replace p138 := eq_true p138
                 replace q138 := eq_true q138
                 go_wp2
                 repeat (go_quiet (fail); try go_wp2)
                 go_roundg k2
                 case measure => have := HJ2.out; have := HK2.out; omega
                 case rel => exact ⟨(wrap64 (x27_2 + 1)), (by first | rfl | (simp; done) | (simp [*]; done)), H', ⟨by have := HJ2.out; have := HK2.out; omega⟩, ⟨zB HB⟩⟩
               ·
                rw [if_neg c28] at H
                exact absurd H (by simp)
              ·
               rw [if_neg c27] at H
               exact absurd H (by simp)
             ·
              rw [if_neg c25] at H
              have c25b0 : decide (0 < x27_2) = false := decide_eq_false c25
              clear c25
              have H' := Aside0.mk H
              clear H
              have hz32 := zc2 BK137
              go_wp2
              repeat (go_quiet (fail); try go_wp2)
              go_roundg k2
              case measure => have := HJ2.out; have := HK2.out; omega
              case rel => exact ⟨(wrap64 (x27_2 + 1)), (by first | rfl | (simp; done) | (simp [*]; done)), H', ⟨by have := HJ2.out; have := HK2.out; omega⟩, ⟨zB HB⟩⟩
        ·
         rw [if_neg c12] at H
         exact absurd H (by simp)
       ·
        rw [if_neg c11] at H
        exact absurd H (by simp)
      ·
       rw [if_neg c10] at H
       have c10b0 : decide (x27_2 < (l1.length : Int)) = false := decide_eq_false c10
       clear c10
       obtain rfl := Option.some.inj H
       go_wp2
       repeat (go_quiet (fail); try go_wp2)
       go_ret
       exact ⟨by first | rfl | (simp [errW_none, errW_some] <;> rfl) | (simp [*, errW_none, errW_some] <;> rfl), zB HB⟩

end Go.Proofs.Ytpemcbjdlpajlaa.G1
