/- The functions of one seat as Lean functions, each with its contract: the call of the Go function returns what the Lean function answers. Written by a program of this session out of the translation; contracts made by hand are laid between. -/
import Derived.Test.YtfjfnpegpcdnaaaGBx0
namespace Go.Proofs.Ytfjfnpegpcdnaaa.GB
open Go.RowKit Go.Proofs.YtfjfnpegpcdnaaaW.PrintWords Go.Proofs.YtfjfnpegpcdnaaaW.PrintLast Go.Proofs.YtfjfnpegpcdnaaaW.PrintMore
attribute [local go_sem] max2_int min2_int max_two min_two max_three min_three max_four min_four   -- for this text's walks alone
set_option linter.unusedVariables false
set_option linter.unusedSimpArgs false

/-! ### standstillref01_Valid: function 10 -/
mutual
def standstillref01_Valid.j0 : Nat → Bool → Int → Int → List (List (S57)) → Option (Bool)
 | 0, _, _, _, _ => none
 | k + 1, x31, x130000, x130001, x130002 => if x31 = true then (some false) else (standstillref01_Valid.l0 k 0 x130000 x130001 x130002)
def standstillref01_Valid.l0 : Nat → Int → Int → Int → List (List (S57)) → Option (Bool)
 | 0, _, _, _, _ => none
 | k + 1, x3, x130000, x130001, x130002 => if x3 < x130000 then (if 0 ≤ x3 then (if x3 < (x130002.length : Int) then (if ((rd_L2 x130002 x3).length : Int) = x130001 then (standstillref01_Valid.l1 k x3 0 x130000 x130001 x130002) else (some false)) else (none)) else (none)) else (some true)
def standstillref01_Valid.l1 : Nat → Int → Int → Int → Int → List (List (S57)) → Option (Bool)
 | 0, _, _, _, _, _ => none
 | k + 1, x3, x4, x130000, x130001, x130002 => if x4 < x130001 then (if 0 ≤ x3 then (if x3 < (x130002.length : Int) then (if 0 ≤ x4 then (if x4 < ((rd_L2 x130002 x3).length : Int) then (if ((rd_T57 (rd_L2 x130002 x3) x4).f0) < 0 then (some false) else (if ((rd_T57 (rd_L2 x130002 x3) x4).f0) ≥ x130001 then (some false) else (if ((rd_T57 (rd_L2 x130002 x3) x4).f1) = (-1) then (if ((rd_T57 (rd_L2 x130002 x3) x4).f2) < (-1) then (some false) else (if ((rd_T57 (rd_L2 x130002 x3) x4).f2) ≥ x130000 then (some false) else (standstillref01_Valid.l1 k x3 (wrap64 (x4 + 1)) x130000 x130001 x130002))) else (if ((rd_T57 (rd_L2 x130002 x3) x4).f1) = 1 then (if ((rd_T57 (rd_L2 x130002 x3) x4).f2) < (-1) then (some false) else (if ((rd_T57 (rd_L2 x130002 x3) x4).f2) ≥ x130000 then (some false) else (standstillref01_Valid.l1 k x3 (wrap64 (x4 + 1)) x130000 x130001 x130002))) else (some false))))) else (none)) else (none)) else (none)) else (none)) else (standstillref01_Valid.l0 k (wrap64 (x3 + 1)) x130000 x130001 x130002)
end
def standstillref01_Valid.f (k : Nat) (a0_0 : Int) (a0_1 : Int) (l0_2 : List (List (S57))) : Option (Bool) := if a0_0 < 1 then (standstillref01_Valid.j0 k true a0_0 a0_1 l0_2) else (if a0_0 > 6 then (standstillref01_Valid.j0 k true a0_0 a0_1 l0_2) else (if a0_1 < 2 then (standstillref01_Valid.j0 k true a0_0 a0_1 l0_2) else (if a0_1 > 4 then (standstillref01_Valid.j0 k true a0_0 a0_1 l0_2) else (standstillref01_Valid.j0 k ((l0_2.length : Int) != a0_0) a0_0 a0_1 l0_2))))
theorem standstillref01_Valid.mono_l : ∀ k, (∀ y0 y1 y2 y3, LeO (standstillref01_Valid.j0 k y0 y1 y2 y3) (standstillref01_Valid.j0 (k + 1) y0 y1 y2 y3)) ∧ (∀ y0 y1 y2 y3, LeO (standstillref01_Valid.l0 k y0 y1 y2 y3) (standstillref01_Valid.l0 (k + 1) y0 y1 y2 y3)) ∧ (∀ y0 y1 y2 y3 y4, LeO (standstillref01_Valid.l1 k y0 y1 y2 y3 y4) (standstillref01_Valid.l1 (k + 1) y0 y1 y2 y3 y4))
 | 0 => ⟨fun _ _ _ _ r h => by simp [standstillref01_Valid.j0] at h, fun _ _ _ _ r h => by simp [standstillref01_Valid.l0] at h, fun _ _ _ _ _ r h => by simp [standstillref01_Valid.l1] at h⟩
 | k + 1 => by
  obtain ⟨ih0, ih1, ih2⟩ := standstillref01_Valid.mono_l k
  refine ⟨?_, ?_, ?_⟩
  ·
   intro y0 y1 y2 y3
   unfold standstillref01_Valid.j0
   repeat' first
   | (with_reducible exact ih0 _ _ _ _)
   | (with_reducible exact ih1 _ _ _ _)
   | (with_reducible exact ih2 _ _ _ _ _)
   | (with_reducible exact LeO.refl _)
   | (with_reducible exact LeO.none _)
   | (with_reducible refine LeO.ite ?_ ?_)
   | (with_reducible refine LeO.bind ?_ (fun _ => ?_))
   | exact ih0 _ _ _ _
   | exact ih1 _ _ _ _
   | exact ih2 _ _ _ _ _
   | exact LeO.none _
   | refine LeO.ite ?_ ?_
   | refine LeO.bind ?_ (fun _ => ?_)
  ·
   intro y0 y1 y2 y3
   unfold standstillref01_Valid.l0
   repeat' first
   | (with_reducible exact ih0 _ _ _ _)
   | (with_reducible exact ih1 _ _ _ _)
   | (with_reducible exact ih2 _ _ _ _ _)
   | (with_reducible exact LeO.refl _)
   | (with_reducible exact LeO.none _)
   | (with_reducible refine LeO.ite ?_ ?_)
   | (with_reducible refine LeO.bind ?_ (fun _ => ?_))
   | exact ih0 _ _ _ _
   | exact ih1 _ _ _ _
   | exact ih2 _ _ _ _ _
   | exact LeO.none _
   | refine LeO.ite ?_ ?_
   | refine LeO.bind ?_ (fun _ => ?_)
  ·
   intro y0 y1 y2 y3 y4
   unfold standstillref01_Valid.l1
   repeat' first
   | (with_reducible exact ih0 _ _ _ _)
   | (with_reducible exact ih1 _ _ _ _)
   | (with_reducible exact ih2 _ _ _ _ _)
   | (with_reducible exact LeO.refl _)
   | (with_reducible exact LeO.none _)
   | (with_reducible refine LeO.ite ?_ ?_)
   | (with_reducible refine LeO.bind ?_ (fun _ => ?_))
   | exact ih0 _ _ _ _
   | exact ih1 _ _ _ _
   | exact ih2 _ _ _ _ _
   | exact LeO.none _
   | refine LeO.ite ?_ ?_
   | refine LeO.bind ?_ (fun _ => ?_)
theorem standstillref01_Valid.mono : ∀ a0 a1 a2 k, LeO (standstillref01_Valid.f k a0 a1 a2) (standstillref01_Valid.f (k + 1) a0 a1 a2) := by
 intro a0 a1 a2 k
 obtain ⟨ih0, ih1, ih2⟩ := standstillref01_Valid.mono_l k
 unfold standstillref01_Valid.f
 repeat' first
   | (with_reducible exact ih0 _ _ _ _)
   | (with_reducible exact ih1 _ _ _ _)
   | (with_reducible exact ih2 _ _ _ _ _)
   | (with_reducible exact LeO.refl _)
   | (with_reducible exact LeO.none _)
   | (with_reducible refine LeO.ite ?_ ?_)
   | (with_reducible refine LeO.bind ?_ (fun _ => ?_))
   | exact ih0 _ _ _ _
   | exact ih1 _ _ _ _
   | exact ih2 _ _ _ _ _
   | exact LeO.none _
   | refine LeO.ite ?_ ?_
   | refine LeO.bind ?_ (fun _ => ?_)
set_option maxHeartbeats 8000000 in
set_option maxRecDepth 100000 in
theorem standstillref01_Valid.calls (k : Nat) (a0_0 : Int) (a0_1 : Int) (A0_2 : Option Addr) (c0_2 : Nat) (l0_2 : List (List (S57))) (r : Bool) (w : World) (hr0_2 : Kd.C (Kd.slice 57 k57) w A0_2 l0_2.length l0_2) (hc0_2 : l0_2.length ≤ c0_2) (h : standstillref01_Valid.f k a0_0 a0_1 l0_2 = some r) :
  Calls Try.prog 10 #[.agg #[.int .i64 a0_0, .int .i64 a0_1, .slice A0_2 l0_2.length c0_2]] w fun e w' => e = .returned (.bool r) ∧ Below w.heap.size w w' := by
 have hu24 := Try.underlying24
 have hu57 := Try.underlying57
 have HR0_2 := Aside0.mk hr0_2
 have HC0_2 := Aside0.mk hc0_2
 clear hr0_2 hc0_2
 have HB := Aside0.mk (Below.refl w.heap.size w)
 have H : (if a0_0 < 1 then (standstillref01_Valid.j0 k true a0_0 a0_1 l0_2) else (if a0_0 > 6 then (standstillref01_Valid.j0 k true a0_0 a0_1 l0_2) else (if a0_1 < 2 then (standstillref01_Valid.j0 k true a0_0 a0_1 l0_2) else (if a0_1 > 4 then (standstillref01_Valid.j0 k true a0_0 a0_1 l0_2) else (standstillref01_Valid.j0 k ((l0_2.length : Int) != a0_0) a0_0 a0_1 l0_2))))) = some r := h
 clear h
 have HC2 := Aside0.mk H
 clear H
 go_enter Try.func10, Try.ntmps10
 go_upto_region 1 with (first | ((with_reducible refine gate_dst (N := 1) rfl ?_); (try (refine gate_guard (by rfl) ?_; dsimp only)); refine box_event ?hg (N := 1) ?hd (cs := #[.int .i64 a0_0, .int .i64 a0_1, .slice A0_2 l0_2.length c0_2]) (t := 24) ?hr ?_; (case hd => rfl); (case hg => rfl); (case hr => first | (go_simp; done) | (go_simp; rfl)); intro gb129 hg w3 hbox hb; have BK129 := Aside0.mk (hbox); have GW129 := Aside0.mk ((by rw [hg]; exact (below_size (zB HB)) : w.heap.size ≤ gb129)); have GE129 := Aside0.mk ((by rw [hg]; exact (below_size (zB HB)) : w.heap.size ≤ gb129)); replace HB := Aside0.mk (below_step (zB HB) hb); clear hb hbox hg))
 repeat (go_quiet (first | ((with_reducible refine gate_dst (N := 1) rfl ?_); (try (refine gate_guard (by rfl) ?_; dsimp only)); refine box_event ?hg (N := 1) ?hd (cs := #[.int .i64 a0_0, .int .i64 a0_1, .slice A0_2 l0_2.length c0_2]) (t := 24) ?hr ?_; (case hd => rfl); (case hg => rfl); (case hr => first | (go_simp; done) | (go_simp; rfl)); intro gb129 hg w3 hbox hb; have BK129 := Aside0.mk (hbox); have GW129 := Aside0.mk ((by rw [hg]; exact (below_size (zB HB)) : w.heap.size ≤ gb129)); have GE129 := Aside0.mk ((by rw [hg]; exact (below_size (zB HB)) : w.heap.size ≤ gb129)); replace HB := Aside0.mk (below_step (zB HB) hb); clear hb hbox hg)); go_upto_region 1 with (first | ((with_reducible refine gate_dst (N := 1) rfl ?_); (try (refine gate_guard (by rfl) ?_; dsimp only)); refine box_event ?hg (N := 1) ?hd (cs := #[.int .i64 a0_0, .int .i64 a0_1, .slice A0_2 l0_2.length c0_2]) (t := 24) ?hr ?_; (case hd => rfl); (case hg => rfl); (case hr => first | (go_simp; done) | (go_simp; rfl)); intro gb129 hg w3 hbox hb; have BK129 := Aside0.mk (hbox); have GW129 := Aside0.mk ((by rw [hg]; exact (below_size (zB HB)) : w.heap.size ≤ gb129)); have GE129 := Aside0.mk ((by rw [hg]; exact (below_size (zB HB)) : w.heap.size ≤ gb129)); replace HB := Aside0.mk (below_step (zB HB) hb); clear hb hbox hg)))
 (try simp only [Act.put, zs, zs0, zs1])
 go_cut [31] (fun v31 wc => ∃ (kq : Nat) (x31_1 : Bool), v31 = .bool x31_1 ∧ Aside0 (standstillref01_Valid.j0 kq x31_1 a0_0 a0_1 l0_2 = some r) ∧ Aside0 (kq ≤ k) ∧ Aside0 (wc.heap[gb129]? = some (.cells #[.int .i64 a0_0, .int .i64 a0_1, (.slice A0_2 l0_2.length c0_2)] 24 (0, 0))) ∧ Aside0 (Below w.heap.size w wc))
 case first =>
  have H := HC2.out
  clear HC2
  by_cases c4 : a0_0 < 1
  ·
   rw [if_pos c4] at H
   have c4b0 : decide (a0_0 < 1) = true := decide_eq_true c4
   clear c4
   (first | rw [c4b0] | (simp only [i64_w, i32_w]; rw [c4b0]) | skip)
   (try rw [c4b1])
   have H' := Aside0.mk H
   clear H
   have hz5 := zc3 BK129
   go_wp2
   repeat (go_quiet (fail); try go_wp2)
   go_meet
   case rel => exact ⟨_, (true), (by first | rfl | (simp; done) | (simp [*]; done)), H', ⟨by first | omega | exact Nat.le_refl _⟩, ⟨zk BK129⟩, ⟨zB HB⟩⟩
  ·
   rw [if_neg c4] at H
   have c4b0 : decide (a0_0 < 1) = false := decide_eq_false c4
   clear c4
   (first | rw [c4b0] | (simp only [i64_w, i32_w]; rw [c4b0]) | skip)
   (try rw [c4b1])
   by_cases c6 : a0_0 > 6
   ·
    rw [if_pos c6] at H
    have c6b0 : decide (6 < a0_0) = true := decide_eq_true c6
    clear c6
    have H' := Aside0.mk H
    clear H
    have hz7 := zc3 BK129
    go_wp2
    repeat (go_quiet (fail); try go_wp2)
    go_meet
    case rel => exact ⟨_, (true), (by first | rfl | (simp; done) | (simp [*]; done)), H', ⟨by first | omega | exact Nat.le_refl _⟩, ⟨zk BK129⟩, ⟨zB HB⟩⟩
   ·
    rw [if_neg c6] at H
    have c6b0 : decide (6 < a0_0) = false := decide_eq_false c6
    clear c6
    by_cases c8 : a0_1 < 2
    ·
     rw [if_pos c8] at H
     have c8b0 : decide (a0_1 < 2) = true := decide_eq_true c8
     clear c8
     have H' := Aside0.mk H
     clear H
     have hz9 := zc3 BK129
     go_wp2
     repeat (go_quiet (fail); try go_wp2)
     go_meet
     case rel => exact ⟨_, (true), (by first | rfl | (simp; done) | (simp [*]; done)), H', ⟨by first | omega | exact Nat.le_refl _⟩, ⟨zk BK129⟩, ⟨zB HB⟩⟩
    ·
     rw [if_neg c8] at H
     have c8b0 : decide (a0_1 < 2) = false := decide_eq_false c8
     clear c8
     by_cases c10 : a0_1 > 4
     ·
      rw [if_pos c10] at H
      have c10b0 : decide (4 < a0_1) = true := decide_eq_true c10
      clear c10
      have H' := Aside0.mk H
      clear H
      have hz11 := zc3 BK129
      go_wp2
      repeat (go_quiet (fail); try go_wp2)
      go_meet
      case rel => exact ⟨_, (true), (by first | rfl | (simp; done) | (simp [*]; done)), H', ⟨by first | omega | exact Nat.le_refl _⟩, ⟨zk BK129⟩, ⟨zB HB⟩⟩
     ·
      rw [if_neg c10] at H
      have c10b0 : decide (4 < a0_1) = false := decide_eq_false c10
      clear c10
      have H' := Aside0.mk H
      clear H
      have hz12 := zc3 BK129
      go_wp2
      repeat (go_quiet (fail); try go_wp2)
      go_meet
      case rel => exact ⟨_, (((l0_2.length : Int) != a0_0)), (by first | rfl | (simp; done) | (simp [*]; done)), H', ⟨by first | omega | exact Nat.le_refl _⟩, ⟨zk BK129⟩, ⟨zB HB⟩⟩
 case rest =>
  clear HC2
  try clear c1
  try clear p2
  try clear c4
  try clear c4b0
  try clear c4b1
  try clear c6
  try clear c6b0
  try clear c8
  try clear c8b0
  try clear c10
  try clear c10b0
  try clear hz11
  try clear hz12
  try clear hz5
  try clear hz7
  try clear hz9
  obtain ⟨kq, x31_1, rfl, HA, HJ1, BK129, HB⟩ := hcut
  cases kq with
  | zero => exact absurd HA.out (by simp [standstillref01_Valid.j0])
  | succ kj1 =>
   have H := HA.out
   clear HA
   simp only [standstillref01_Valid.j0] at H
   by_cases c13 : x31_1 = true
   ·
    subst c13
    have H1 : (some false) = some r := by rw [if_pos rfl] at H; exact H
    clear H
    have H := H1
    clear H1
    obtain rfl := Option.some.inj H
    go_wp2
    repeat (go_quiet (fail); try go_wp2)
    go_ret
    exact ⟨by first | rfl | (simp [errW_none, errW_some] <;> rfl) | (simp [*, errW_none, errW_some] <;> rfl), zB HB⟩
   ·
    replace c13 := Bool.eq_false_iff.mpr c13
    subst c13
    have H1 : (standstillref01_Valid.l0 kj1 0 a0_0 a0_1 l0_2) = some r := by rw [if_neg (show ¬ (false = true) by decide)] at H; exact H
    clear H
    have H := H1
    clear H1
    have H' := Aside0.mk H
    clear H
    go_wp2
    repeat (go_quiet (fail); try go_wp2)
    go_loopg [3] kj1 (fun kq v3 w' => ∃ (x3_2 : Int), v3 = .int .i64 x3_2 ∧ Aside0 (standstillref01_Valid.l0 kq x3_2 a0_0 a0_1 l0_2 = some r) ∧ Aside0 (kq ≤ kj1) ∧ Aside0 (w'.heap[gb129]? = some (.cells #[.int .i64 a0_0, .int .i64 a0_1, (.slice A0_2 l0_2.length c0_2)] 24 (0, 0))) ∧ Aside0 (Below w.heap.size w w'))
    case atStart => exact ⟨(0), (by first | rfl | (simp; done) | (simp [*]; done)), H', ⟨Nat.le_refl _⟩, ⟨zk BK129⟩, ⟨zB HB⟩⟩
    case round =>
     clear H'
     try clear c1
     try clear p2
     try clear c4
     try clear c4b0
     try clear c4b1
     try clear c6
     try clear c6b0
     try clear c8
     try clear c8b0
     try clear c10
     try clear c10b0
     try clear c13
     try clear hz11
     try clear hz12
     try clear hz5
     try clear hz7
     try clear hz9
     try clear p2
     obtain ⟨x3_2, rfl, HA, HK2, BK129, HB⟩ := hrel
     cases gk with
     | zero => exact absurd HA.out (by simp [standstillref01_Valid.l0])
     | succ k2 =>
      have H := HA.out
      clear HA
      simp only [standstillref01_Valid.l0] at H
      by_cases c14 : x3_2 < a0_0
      ·
       rw [if_pos c14] at H
       have c14b0 : decide (x3_2 < a0_0) = true := decide_eq_true c14
       clear c14
       by_cases c15 : 0 ≤ x3_2
       ·
        rw [if_pos c15] at H
        have c15b0 : decide (0 ≤ x3_2) = true := decide_eq_true c15
        clear c15
        by_cases c16 : x3_2 < (l0_2.length : Int)
        ·
         rw [if_pos c16] at H
         have c16b0 : decide (x3_2 < (l0_2.length : Int)) = true := decide_eq_true c16
         clear c16
         by_cases c17 : ((rd_L2 l0_2 x3_2).length : Int) = a0_1
         ·
          rw [if_pos c17] at H
          have c17b0 : (((rd_L2 l0_2 x3_2).length : Int) == a0_1) = true := beq_iff_eq.mpr c17
          have c17b1 : (((rd_L2 l0_2 x3_2).length : Int) != a0_1) = false := bne_eq_false_iff_eq.mpr c17
          clear c17
          have H' := Aside0.mk H
          clear H
          have hz18 := zc3 BK129
          have p130 : 0 ≤ (x3_2 : Int) := of_decide_eq_true (by first | (with_reducible assumption) | assumption)
          have q130 : x3_2 < (l0_2.length : Int) := of_decide_eq_true (by first | (with_reducible assumption) | assumption)
          obtain ⟨ad130, A130_0, c130_0, e130, hx130_0, hl130_0, hi130_0⟩ := at_L2 HR0_2.out x3_2 p130 q130
          cases e130
          replace hx130_0 := (HB.out.cell (World.block_lt_of_cell? w _ hx130_0)).trans hx130_0
          have HR130_0 := Aside0.mk hi130_0
          have HC130_0 := Aside0.mk hl130_0
          clear hi130_0 hl130_0
          replace p130 := eq_true p130
          replace q130 := eq_true q130
          go_wp2
          repeat (go_quiet (fail); try go_wp2)
          go_loopg [4] k2 (fun kq v4 w' => ∃ (x4_3 : Int), v4 = .int .i64 x4_3 ∧ Aside0 (standstillref01_Valid.l1 kq x3_2 x4_3 a0_0 a0_1 l0_2 = some r) ∧ Aside0 (kq ≤ k2) ∧ Aside0 (w'.heap[gb129]? = some (.cells #[.int .i64 a0_0, .int .i64 a0_1, (.slice (some ad130) l0_2.length c0_2)] 24 (0, 0))) ∧ Aside0 (Below w.heap.size w w'))
          case atStart => exact ⟨(0), (by first | rfl | (simp; done) | (simp [*]; done)), H', ⟨Nat.le_refl _⟩, ⟨zk BK129⟩, ⟨zB HB⟩⟩
          case round =>
           clear H'
           try clear c1
           try clear p1
           try clear q1
           try clear hx1
           try clear p2
           try clear c4
           try clear c4b0
           try clear c4b1
           try clear c6
           try clear c6b0
           try clear c8
           try clear c8b0
           try clear c10
           try clear c10b0
           try clear c13
           try clear p13
           try clear q13
           try clear hx13
           try clear c14
           try clear c14b0
           try clear c15
           try clear c15b0
           try clear c16
           try clear c16b0
           try clear c17
           try clear c17b0
           try clear c17b1
           try clear hz11
           try clear hz12
           try clear hz18
           try clear hz5
           try clear hz7
           try clear hz9
           try clear hx130_0
           try clear p130
           try clear p2
           try clear q130
           obtain ⟨x4_3, rfl, HA, HK3, BK129, HB⟩ := hrel
           cases gk with
           | zero => exact absurd HA.out (by simp [standstillref01_Valid.l1])
           | succ k3 =>
            have H := HA.out
            clear HA
            simp only [standstillref01_Valid.l1] at H
            by_cases c19 : x4_3 < a0_1
            ·
             rw [if_pos c19] at H
             have c19b0 : decide (x4_3 < a0_1) = true := decide_eq_true c19
             clear c19
             by_cases c20 : 0 ≤ x3_2
             ·
              rw [if_pos c20] at H
              have c20b0 : decide (0 ≤ x3_2) = true := decide_eq_true c20
              clear c20
              by_cases c21 : x3_2 < (l0_2.length : Int)
              ·
               rw [if_pos c21] at H
               have c21b0 : decide (x3_2 < (l0_2.length : Int)) = true := decide_eq_true c21
               clear c21
               by_cases c22 : 0 ≤ x4_3
               ·
                rw [if_pos c22] at H
                have c22b0 : decide (0 ≤ x4_3) = true := decide_eq_true c22
                clear c22
                by_cases c23 : x4_3 < ((rd_L2 l0_2 x3_2).length : Int)
                ·
                 rw [if_pos c23] at H
                 have c23b0 : decide (x4_3 < ((rd_L2 l0_2 x3_2).length : Int)) = true := decide_eq_true c23
                 clear c23
                 have HC24 := Aside0.mk H
                 clear H
                 have hz25 := zc3 BK129
                 have p131 : 0 ≤ (x3_2 : Int) := of_decide_eq_true (by first | (with_reducible assumption) | assumption)
                 have q131 : x3_2 < (l0_2.length : Int) := of_decide_eq_true (by first | (with_reducible assumption) | assumption)
                 obtain ⟨ad131, A131_0, c131_0, e131, hx131_0, hl131_0, hi131_0⟩ := at_L2 HR0_2.out x3_2 p131 q131
                 obtain rfl : ad130 = ad131 := (by injection e131)
                 replace hx131_0 := (HB.out.cell (World.block_lt_of_cell? w _ hx131_0)).trans hx131_0
                 have HR131_0 := Aside0.mk hi131_0
                 have HC131_0 := Aside0.mk hl131_0
                 clear hi131_0 hl131_0
                 replace p131 := eq_true p131
                 replace q131 := eq_true q131
                 have p132 : 0 ≤ (x4_3 : Int) := of_decide_eq_true (by first | (with_reducible assumption) | assumption)
                 have q132 : x4_3 < ((rd_L2 l0_2 x3_2).length : Int) := of_decide_eq_true (by first | (with_reducible assumption) | assumption)
                 obtain ⟨ad132, e132, hx132_0, hx132_1, hx132_2⟩ := at_T57 HR131_0.out x4_3 p132 q132
                 cases e132
                 replace hx132_0 := (HB.out.cell (World.block_lt_of_cell? w _ hx132_0)).trans hx132_0
                 replace hx132_1 := (HB.out.cell (World.block_lt_of_cell? w _ hx132_1)).trans hx132_1
                 replace hx132_2 := (HB.out.cell (World.block_lt_of_cell? w _ hx132_2)).trans hx132_2
                 replace p132 := eq_true p132
                 replace q132 := eq_true q132
                 go_upto_region 12 with (first | ((with_reducible refine gate_dst (N := 5) rfl ?_); (try (refine gate_guard (by rfl) ?_; dsimp only)); refine box_event ?hg (N := 5) ?hd (cs := #[.int .i64 0, .int .i64 0, .int .i64 0]) (t := 57) ?hr ?_; (case hd => rfl); (case hg => rfl); (case hr => first | (go_simp; done) | (go_simp; rfl)); intro gb133 hg w26 hbox hb; have BK133 := Aside0.mk (hbox); have GW133 := Aside0.mk ((by rw [hg]; exact (below_size (zB HB)) : w.heap.size ≤ gb133)); have GE133 := Aside0.mk ((by rw [hg]; exact (below_size (zB HB)) : w.heap.size ≤ gb133)); have NB129_133 := Aside0.mk ((by rw [hg]; exact Nat.ne_of_lt (zL BK129) : gb129 ≠ gb133)); have NB133_129 := Aside0.mk ((by rw [hg]; exact Nat.ne_of_gt (zL BK129) : gb133 ≠ gb129)); replace BK129 := Aside0.mk (zb BK129 hb); replace HB := Aside0.mk (below_step (zB HB) hb); clear hb hbox hg; have hnb27 := NB133_129.out; have hnc27 := NB129_133.out; have hz28 := zc3 BK133) | ((with_reducible refine gate_store (t := 57) (p := 5) rfl ?_); (try (rw [drewN_self w26]; generalize hq_ : World.drewN w26 _ = w26; have n0_ := Aside0.mk (blk_at hq_ BK129.out); have n1_ := Aside0.mk (blk_at hq_ BK133.out); have n2_ := Aside0.mk (below_at hq_ HB.out); clear hq_ BK129 BK133 HB; have BK129 := n0_; have BK133 := n1_; have HB := n2_; clear n0_ n1_ n2_)); refine store_event (t := 57) (p := 5) (v := ?vo_w29) (w1 := (((w26.setCell ⟨gb133, 0, none⟩ (.int .i64 ((rd_T57 (rd_L2 l0_2 x3_2) x4_3).f0))).setCell ⟨gb133, 1, none⟩ (.int .i64 ((rd_T57 (rd_L2 l0_2 x3_2) x4_3).f1))).setCell ⟨gb133, 2, none⟩ (.int .i64 ((rd_T57 (rd_L2 l0_2 x3_2) x4_3).f2)))) ?hg ?ho ?hn ?hr ?_; (case ho => rfl); (case hg => rfl); (case hn => rfl); (case hr => first | (go_simp; done) | (go_simp; rfl)); intro w29 hw; have n0_ : Aside0 (w29.heap[gb129]? = some (.cells #[.int .i64 a0_0, .int .i64 a0_1, .slice (some ad130) l0_2.length c0_2] 24 (0, 0))) := ⟨(by rw [hw]; exact (zK BK129))⟩; have n1_ : Aside0 (w29.heap[gb133]? = some (.cells #[.int .i64 ((rd_T57 (rd_L2 l0_2 x3_2) x4_3).f0), .int .i64 ((rd_T57 (rd_L2 l0_2 x3_2) x4_3).f1), .int .i64 ((rd_T57 (rd_L2 l0_2 x3_2) x4_3).f2)] 57 (0, 0))) := ⟨(by rw [hw]; exact (by (with_reducible repeat (first | refine blk_drewN ?_ _ | refine blk_drew ?_ | refine blk_alloc ?_ _)); refine blk_put (cs := #[.int .i64 ((rd_T57 (rd_L2 l0_2 x3_2) x4_3).f0), .int .i64 ((rd_T57 (rd_L2 l0_2 x3_2) x4_3).f1), .int .i64 0]) ?_ 2 _ rfl; (with_reducible repeat (first | refine blk_drewN ?_ _ | refine blk_drew ?_ | refine blk_alloc ?_ _)); refine blk_put (cs := #[.int .i64 ((rd_T57 (rd_L2 l0_2 x3_2) x4_3).f0), .int .i64 0, .int .i64 0]) ?_ 1 _ rfl; (with_reducible repeat (first | refine blk_drewN ?_ _ | refine blk_drew ?_ | refine blk_alloc ?_ _)); refine blk_put (cs := #[.int .i64 0, .int .i64 0, .int .i64 0]) ?_ 0 _ rfl; (with_reducible repeat (first | refine blk_drewN ?_ _ | refine blk_drew ?_ | refine blk_alloc ?_ _)); exact BK133.out))⟩; have n2_ : Aside0 (Below w.heap.size w w29) := ⟨(by rw [hw]; exact (zB HB))⟩; clear hw; clear BK129; clear BK133; clear HB; have BK129 := n0_; have BK133 := n1_; have HB := n2_; clear n0_ n1_ n2_))
                 repeat (go_quiet (first | ((with_reducible refine gate_dst (N := 5) rfl ?_); (try (refine gate_guard (by rfl) ?_; dsimp only)); refine box_event ?hg (N := 5) ?hd (cs := #[.int .i64 0, .int .i64 0, .int .i64 0]) (t := 57) ?hr ?_; (case hd => rfl); (case hg => rfl); (case hr => first | (go_simp; done) | (go_simp; rfl)); intro gb133 hg w26 hbox hb; have BK133 := Aside0.mk (hbox); have GW133 := Aside0.mk ((by rw [hg]; exact (below_size (zB HB)) : w.heap.size ≤ gb133)); have GE133 := Aside0.mk ((by rw [hg]; exact (below_size (zB HB)) : w.heap.size ≤ gb133)); have NB129_133 := Aside0.mk ((by rw [hg]; exact Nat.ne_of_lt (zL BK129) : gb129 ≠ gb133)); have NB133_129 := Aside0.mk ((by rw [hg]; exact Nat.ne_of_gt (zL BK129) : gb133 ≠ gb129)); replace BK129 := Aside0.mk (zb BK129 hb); replace HB := Aside0.mk (below_step (zB HB) hb); clear hb hbox hg; have hnb27 := NB133_129.out; have hnc27 := NB129_133.out; have hz28 := zc3 BK133) | ((with_reducible refine gate_store (t := 57) (p := 5) rfl ?_); (try (rw [drewN_self w26]; generalize hq_ : World.drewN w26 _ = w26; have n0_ := Aside0.mk (blk_at hq_ BK129.out); have n1_ := Aside0.mk (blk_at hq_ BK133.out); have n2_ := Aside0.mk (below_at hq_ HB.out); clear hq_ BK129 BK133 HB; have BK129 := n0_; have BK133 := n1_; have HB := n2_; clear n0_ n1_ n2_)); refine store_event (t := 57) (p := 5) (v := ?vo_w29) (w1 := (((w26.setCell ⟨gb133, 0, none⟩ (.int .i64 ((rd_T57 (rd_L2 l0_2 x3_2) x4_3).f0))).setCell ⟨gb133, 1, none⟩ (.int .i64 ((rd_T57 (rd_L2 l0_2 x3_2) x4_3).f1))).setCell ⟨gb133, 2, none⟩ (.int .i64 ((rd_T57 (rd_L2 l0_2 x3_2) x4_3).f2)))) ?hg ?ho ?hn ?hr ?_; (case ho => rfl); (case hg => rfl); (case hn => rfl); (case hr => first | (go_simp; done) | (go_simp; rfl)); intro w29 hw; have n0_ : Aside0 (w29.heap[gb129]? = some (.cells #[.int .i64 a0_0, .int .i64 a0_1, .slice (some ad130) l0_2.length c0_2] 24 (0, 0))) := ⟨(by rw [hw]; exact (zK BK129))⟩; have n1_ : Aside0 (w29.heap[gb133]? = some (.cells #[.int .i64 ((rd_T57 (rd_L2 l0_2 x3_2) x4_3).f0), .int .i64 ((rd_T57 (rd_L2 l0_2 x3_2) x4_3).f1), .int .i64 ((rd_T57 (rd_L2 l0_2 x3_2) x4_3).f2)] 57 (0, 0))) := ⟨(by rw [hw]; exact (by (with_reducible repeat (first | refine blk_drewN ?_ _ | refine blk_drew ?_ | refine blk_alloc ?_ _)); refine blk_put (cs := #[.int .i64 ((rd_T57 (rd_L2 l0_2 x3_2) x4_3).f0), .int .i64 ((rd_T57 (rd_L2 l0_2 x3_2) x4_3).f1), .int .i64 0]) ?_ 2 _ rfl; (with_reducible repeat (first | refine blk_drewN ?_ _ | refine blk_drew ?_ | refine blk_alloc ?_ _)); refine blk_put (cs := #[.int .i64 ((rd_T57 (rd_L2 l0_2 x3_2) x4_3).f0), .int .i64 0, .int .i64 0]) ?_ 1 _ rfl; (with_reducible repeat (first | refine blk_drewN ?_ _ | refine blk_drew ?_ | refine blk_alloc ?_ _)); refine blk_put (cs := #[.int .i64 0, .int .i64 0, .int .i64 0]) ?_ 0 _ rfl; (with_reducible repeat (first | refine blk_drewN ?_ _ | refine blk_drew ?_ | refine blk_alloc ?_ _)); exact BK133.out))⟩; have n2_ : Aside0 (Below w.heap.size w w29) := ⟨(by rw [hw]; exact (zB HB))⟩; clear hw; clear BK129; clear BK133; clear HB; have BK129 := n0_; have BK133 := n1_; have HB := n2_; clear n0_ n1_ n2_)); go_upto_region 12 with (first | ((with_reducible refine gate_dst (N := 5) rfl ?_); (try (refine gate_guard (by rfl) ?_; dsimp only)); refine box_event ?hg (N := 5) ?hd (cs := #[.int .i64 0, .int .i64 0, .int .i64 0]) (t := 57) ?hr ?_; (case hd => rfl); (case hg => rfl); (case hr => first | (go_simp; done) | (go_simp; rfl)); intro gb133 hg w26 hbox hb; have BK133 := Aside0.mk (hbox); have GW133 := Aside0.mk ((by rw [hg]; exact (below_size (zB HB)) : w.heap.size ≤ gb133)); have GE133 := Aside0.mk ((by rw [hg]; exact (below_size (zB HB)) : w.heap.size ≤ gb133)); have NB129_133 := Aside0.mk ((by rw [hg]; exact Nat.ne_of_lt (zL BK129) : gb129 ≠ gb133)); have NB133_129 := Aside0.mk ((by rw [hg]; exact Nat.ne_of_gt (zL BK129) : gb133 ≠ gb129)); replace BK129 := Aside0.mk (zb BK129 hb); replace HB := Aside0.mk (below_step (zB HB) hb); clear hb hbox hg; have hnb27 := NB133_129.out; have hnc27 := NB129_133.out; have hz28 := zc3 BK133) | ((with_reducible refine gate_store (t := 57) (p := 5) rfl ?_); (try (rw [drewN_self w26]; generalize hq_ : World.drewN w26 _ = w26; have n0_ := Aside0.mk (blk_at hq_ BK129.out); have n1_ := Aside0.mk (blk_at hq_ BK133.out); have n2_ := Aside0.mk (below_at hq_ HB.out); clear hq_ BK129 BK133 HB; have BK129 := n0_; have BK133 := n1_; have HB := n2_; clear n0_ n1_ n2_)); refine store_event (t := 57) (p := 5) (v := ?vo_w29) (w1 := (((w26.setCell ⟨gb133, 0, none⟩ (.int .i64 ((rd_T57 (rd_L2 l0_2 x3_2) x4_3).f0))).setCell ⟨gb133, 1, none⟩ (.int .i64 ((rd_T57 (rd_L2 l0_2 x3_2) x4_3).f1))).setCell ⟨gb133, 2, none⟩ (.int .i64 ((rd_T57 (rd_L2 l0_2 x3_2) x4_3).f2)))) ?hg ?ho ?hn ?hr ?_; (case ho => rfl); (case hg => rfl); (case hn => rfl); (case hr => first | (go_simp; done) | (go_simp; rfl)); intro w29 hw; have n0_ : Aside0 (w29.heap[gb129]? = some (.cells #[.int .i64 a0_0, .int .i64 a0_1, .slice (some ad130) l0_2.length c0_2] 24 (0, 0))) := ⟨(by rw [hw]; exact (zK BK129))⟩; have n1_ : Aside0 (w29.heap[gb133]? = some (.cells #[.int .i64 ((rd_T57 (rd_L2 l0_2 x3_2) x4_3).f0), .int .i64 ((rd_T57 (rd_L2 l0_2 x3_2) x4_3).f1), .int .i64 ((rd_T57 (rd_L2 l0_2 x3_2) x4_3).f2)] 57 (0, 0))) := ⟨(by rw [hw]; exact (by (with_reducible repeat (first | refine blk_drewN ?_ _ | refine blk_drew ?_ | refine blk_alloc ?_ _)); refine blk_put (cs := #[.int .i64 ((rd_T57 (rd_L2 l0_2 x3_2) x4_3).f0), .int .i64 ((rd_T57 (rd_L2 l0_2 x3_2) x4_3).f1), .int .i64 0]) ?_ 2 _ rfl; (with_reducible repeat (first | refine blk_drewN ?_ _ | refine blk_drew ?_ | refine blk_alloc ?_ _)); refine blk_put (cs := #[.int .i64 ((rd_T57 (rd_L2 l0_2 x3_2) x4_3).f0), .int .i64 0, .int .i64 0]) ?_ 1 _ rfl; (with_reducible repeat (first | refine blk_drewN ?_ _ | refine blk_drew ?_ | refine blk_alloc ?_ _)); refine blk_put (cs := #[.int .i64 0, .int .i64 0, .int .i64 0]) ?_ 0 _ rfl; (with_reducible repeat (first | refine blk_drewN ?_ _ | refine blk_drew ?_ | refine blk_alloc ?_ _)); exact BK133.out))⟩; have n2_ : Aside0 (Below w.heap.size w w29) := ⟨(by rw [hw]; exact (zB HB))⟩; clear hw; clear BK129; clear BK133; clear HB; have BK129 := n0_; have BK133 := n1_; have HB := n2_; clear n0_ n1_ n2_)))
                 (try simp only [Act.put, zs, zs0, zs1])
                 have H := HC24.out
                 clear HC24
                 by_cases c30 : ((rd_T57 (rd_L2 l0_2 x3_2) x4_3).f0) < 0
                 ·
                  rw [if_pos c30] at H
                  have c30b0 : decide (((rd_T57 (rd_L2 l0_2 x3_2) x4_3).f0) < 0) = true := decide_eq_true c30
                  clear c30
                  (first | rw [c30b0] | (simp only [i64_w, i32_w]; rw [c30b0]) | skip)
                  (try rw [c30b1])
                  obtain rfl := Option.some.inj H
                  have hnb31 := NB133_129.out
                  have hnc31 := NB129_133.out
                  have hz32 := zc3 BK133
                  go_wp2
                  repeat (go_quiet (fail); try go_wp2)
                  go_ret
                  exact ⟨by first | rfl | (simp [errW_none, errW_some] <;> rfl) | (simp [*, errW_none, errW_some] <;> rfl), zB HB⟩
                 ·
                  rw [if_neg c30] at H
                  have c30b0 : decide (((rd_T57 (rd_L2 l0_2 x3_2) x4_3).f0) < 0) = false := decide_eq_false c30
                  clear c30
                  (first | rw [c30b0] | (simp only [i64_w, i32_w]; rw [c30b0]) | skip)
                  (try rw [c30b1])
                  by_cases c33 : ((rd_T57 (rd_L2 l0_2 x3_2) x4_3).f0) ≥ a0_1
                  ·
                   rw [if_pos c33] at H
                   have c33b0 : decide (a0_1 ≤ ((rd_T57 (rd_L2 l0_2 x3_2) x4_3).f0)) = true := decide_eq_true c33
                   clear c33
                   obtain rfl := Option.some.inj H
                   have hnb34 := NB133_129.out
                   have hnc34 := NB129_133.out
                   have hz35 := zc3 BK133
                   have hz36 := zc3 BK129
                   go_wp2
                   repeat (go_quiet (fail); try go_wp2)
                   go_ret
                   exact ⟨by first | rfl | (simp [errW_none, errW_some] <;> rfl) | (simp [*, errW_none, errW_some] <;> rfl), zB HB⟩
                  ·
                   rw [if_neg c33] at H
                   have c33b0 : decide (a0_1 ≤ ((rd_T57 (rd_L2 l0_2 x3_2) x4_3).f0)) = false := decide_eq_false c33
                   clear c33
                   by_cases c37 : ((rd_T57 (rd_L2 l0_2 x3_2) x4_3).f1) = (-1)
                   ·
                    rw [if_pos c37] at H
                    have c37b0 : (((rd_T57 (rd_L2 l0_2 x3_2) x4_3).f1) == (-1)) = true := beq_iff_eq.mpr c37
                    have c37b1 : (((rd_T57 (rd_L2 l0_2 x3_2) x4_3).f1) != (-1)) = false := bne_eq_false_iff_eq.mpr c37
                    clear c37
                    by_cases c38 : ((rd_T57 (rd_L2 l0_2 x3_2) x4_3).f2) < (-1)
                    ·
                     rw [if_pos c38] at H
                     have c38b0 : decide (((rd_T57 (rd_L2 l0_2 x3_2) x4_3).f2) < (-1)) = true := decide_eq_true c38
                     clear c38
                     obtain rfl := Option.some.inj H
                     have hnb39 := NB133_129.out
                     have hnc39 := NB129_133.out
                     have hz40 := zc3 BK133
                     have hz41 := zc3 BK129
                     go_wp2
                     repeat (go_quiet (fail); try go_wp2)
                     go_ret
                     exact ⟨by first | rfl | (simp [errW_none, errW_some] <;> rfl) | (simp [*, errW_none, errW_some] <;> rfl), zB HB⟩
                    ·
                     rw [if_neg c38] at H
                     have c38b0 : decide (((rd_T57 (rd_L2 l0_2 x3_2) x4_3).f2) < (-1)) = false := decide_eq_false c38
                     clear c38
                     by_cases c42 : ((rd_T57 (rd_L2 l0_2 x3_2) x4_3).f2) ≥ a0_0
                     ·
                      rw [if_pos c42] at H
                      have c42b0 : decide (a0_0 ≤ ((rd_T57 (rd_L2 l0_2 x3_2) x4_3).f2)) = true := decide_eq_true c42
                      clear c42
                      obtain rfl := Option.some.inj H
                      have hnb43 := NB133_129.out
                      have hnc43 := NB129_133.out
                      have hz44 := zc3 BK133
                      have hz45 := zc3 BK129
                      go_wp2
                      repeat (go_quiet (fail); try go_wp2)
                      go_ret
                      exact ⟨by first | rfl | (simp [errW_none, errW_some] <;> rfl) | (simp [*, errW_none, errW_some] <;> rfl), zB HB⟩
                     ·
                      rw [if_neg c42] at H
                      have c42b0 : decide (a0_0 ≤ ((rd_T57 (rd_L2 l0_2 x3_2) x4_3).f2)) = false := decide_eq_false c42
                      clear c42
                      have H' := Aside0.mk H
                      clear H
                      have hnb46 := NB133_129.out
                      have hnc46 := NB129_133.out
                      have hz47 := zc3 BK133
                      have hz48 := zc3 BK129
                      go_wp2
                      repeat (go_quiet (fail); try go_wp2)
                      go_roundg k3
                      case measure => have := HJ1.out; have := HK2.out; have := HK3.out; omega
                      case rel => exact ⟨(wrap64 (x4_3 + 1)), (by first | rfl | (simp; done) | (simp [*]; done)), H', ⟨by have := HJ1.out; have := HK2.out; have := HK3.out; omega⟩, ⟨zk BK129⟩, ⟨zB HB⟩⟩
                   ·
                    rw [if_neg c37] at H
                    have c37b0 : (((rd_T57 (rd_L2 l0_2 x3_2) x4_3).f1) == (-1)) = false := beq_eq_false_iff_ne.mpr c37
                    have c37b1 : (((rd_T57 (rd_L2 l0_2 x3_2) x4_3).f1) != (-1)) = true := bne_iff_ne.mpr c37
                    by_cases c49 : ((rd_T57 (rd_L2 l0_2 x3_2) x4_3).f1) = 1
                    ·
                     rw [if_pos c49] at H
                     have c49b0 : (((rd_T57 (rd_L2 l0_2 x3_2) x4_3).f1) == 1) = true := beq_iff_eq.mpr c49
                     have c49b1 : (((rd_T57 (rd_L2 l0_2 x3_2) x4_3).f1) != 1) = false := bne_eq_false_iff_eq.mpr c49
                     clear c49
                     by_cases c50 : ((rd_T57 (rd_L2 l0_2 x3_2) x4_3).f2) < (-1)
                     ·
                      rw [if_pos c50] at H
                      have c50b0 : decide (((rd_T57 (rd_L2 l0_2 x3_2) x4_3).f2) < (-1)) = true := decide_eq_true c50
                      clear c50
                      obtain rfl := Option.some.inj H
                      have hnb51 := NB133_129.out
                      have hnc51 := NB129_133.out
                      have hz52 := zc3 BK133
                      have hz53 := zc3 BK129
                      go_wp2
                      repeat (go_quiet (fail); try go_wp2)
                      go_ret
                      exact ⟨by first | rfl | (simp [errW_none, errW_some] <;> rfl) | (simp [*, errW_none, errW_some] <;> rfl), zB HB⟩
                     ·
                      rw [if_neg c50] at H
                      have c50b0 : decide (((rd_T57 (rd_L2 l0_2 x3_2) x4_3).f2) < (-1)) = false := decide_eq_false c50
                      clear c50
                      by_cases c54 : ((rd_T57 (rd_L2 l0_2 x3_2) x4_3).f2) ≥ a0_0
                      ·
                       rw [if_pos c54] at H
                       have c54b0 : decide (a0_0 ≤ ((rd_T57 (rd_L2 l0_2 x3_2) x4_3).f2)) = true := decide_eq_true c54
                       clear c54
                       obtain rfl := Option.some.inj H
                       have hnb55 := NB133_129.out
                       have hnc55 := NB129_133.out
                       have hz56 := zc3 BK133
                       have hz57 := zc3 BK129
                       go_wp2
                       repeat (go_quiet (fail); try go_wp2)
                       go_ret
                       exact ⟨by first | rfl | (simp [errW_none, errW_some] <;> rfl) | (simp [*, errW_none, errW_some] <;> rfl), zB HB⟩
                      ·
                       rw [if_neg c54] at H
                       have c54b0 : decide (a0_0 ≤ ((rd_T57 (rd_L2 l0_2 x3_2) x4_3).f2)) = false := decide_eq_false c54
                       clear c54
                       have H' := Aside0.mk H
                       clear H
                       have hnb58 := NB133_129.out
                       have hnc58 := NB129_133.out
                       have hz59 := zc3 BK133
                       have hz60 := zc3 BK129
                       go_wp2
                       repeat (go_quiet (fail); try go_wp2)
                       go_roundg k3
                       case measure => have := HJ1.out; have := HK2.out; have := HK3.out; omega
                       case rel => exact ⟨(wrap64 (x4_3 + 1)), (by first | rfl | (simp; done) | (simp [*]; done)), H', ⟨by have := HJ1.out; have := HK2.out; have := HK3.out; omega⟩, ⟨zk BK129⟩, ⟨zB HB⟩⟩
                    ·
                     rw [if_neg c49] at H
                     have c49b0 : (((rd_T57 (rd_L2 l0_2 x3_2) x4_3).f1) == 1) = false := beq_eq_false_iff_ne.mpr c49
                     have c49b1 : (((rd_T57 (rd_L2 l0_2 x3_2) x4_3).f1) != 1) = true := bne_iff_ne.mpr c49
                     obtain rfl := Option.some.inj H
                     have hnb61 := NB133_129.out
                     have hnc61 := NB129_133.out
                     have hz62 := zc3 BK133
                     have hz63 := zc3 BK129
                     go_wp2
                     repeat (go_quiet (fail); try go_wp2)
                     go_ret
                     exact ⟨by first | rfl | (simp [errW_none, errW_some] <;> rfl) | (simp [*, errW_none, errW_some] <;> rfl), zB HB⟩
                ·
                 rw [if_neg c23] at H
                 exact absurd H (by simp)
               ·
                rw [if_neg c22] at H
                exact absurd H (by simp)
              ·
               rw [if_neg c21] at H
               exact absurd H (by simp)
             ·
              rw [if_neg c20] at H
              exact absurd H (by simp)
            ·
             rw [if_neg c19] at H
             have c19b0 : decide (x4_3 < a0_1) = false := decide_eq_false c19
             clear c19
             have H' := Aside0.mk H
             clear H
             have hz64 := zc3 BK129
             go_wp2
             repeat (go_quiet (fail); try go_wp2)
             go_roundg k3
             case measure => have := HJ1.out; have := HK2.out; have := HK3.out; omega
             case rel => exact ⟨(wrap64 (x3_2 + 1)), (by first | rfl | (simp; done) | (simp [*]; done)), H', ⟨by have := HJ1.out; have := HK2.out; have := HK3.out; omega⟩, ⟨zk BK129⟩, ⟨zB HB⟩⟩
         ·
          rw [if_neg c17] at H
          have c17b0 : (((rd_L2 l0_2 x3_2).length : Int) == a0_1) = false := beq_eq_false_iff_ne.mpr c17
          have c17b1 : (((rd_L2 l0_2 x3_2).length : Int) != a0_1) = true := bne_iff_ne.mpr c17
          obtain rfl := Option.some.inj H
          have hz65 := zc3 BK129
          have p130 : 0 ≤ (x3_2 : Int) := of_decide_eq_true (by first | (with_reducible assumption) | assumption)
          have q130 : x3_2 < (l0_2.length : Int) := of_decide_eq_true (by first | (with_reducible assumption) | assumption)
          obtain ⟨ad130, A130_0, c130_0, e130, hx130_0, hl130_0, hi130_0⟩ := at_L2 HR0_2.out x3_2 p130 q130
          cases e130
          replace hx130_0 := (HB.out.cell (World.block_lt_of_cell? w _ hx130_0)).trans hx130_0
          have HR130_0 := Aside0.mk hi130_0
          have HC130_0 := Aside0.mk hl130_0
          clear hi130_0 hl130_0
          replace p130 := eq_true p130
          replace q130 := eq_true q130
          go_wp2
          repeat (go_quiet (fail); try go_wp2)
          go_ret
          exact ⟨by first | rfl | (simp [errW_none, errW_some] <;> rfl) | (simp [*, errW_none, errW_some] <;> rfl), zB HB⟩
        ·
         rw [if_neg c16] at H
         exact absurd H (by simp)
       ·
        rw [if_neg c15] at H
        exact absurd H (by simp)
      ·
       rw [if_neg c14] at H
       have c14b0 : decide (x3_2 < a0_0) = false := decide_eq_false c14
       clear c14
       obtain rfl := Option.some.inj H
       have hz66 := zc3 BK129
       go_wp2
       repeat (go_quiet (fail); try go_wp2)
       go_ret
       exact ⟨by first | rfl | (simp [errW_none, errW_some] <;> rfl) | (simp [*, errW_none, errW_some] <;> rfl), zB HB⟩

end Go.Proofs.Ytfjfnpegpcdnaaa.GB
