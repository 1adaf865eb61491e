/- The functions of one seat as Lean functions, each with its contract: the call of the Go function returns what the Lean function answers. Written by a program of this session out of the translation; contracts made by hand are laid between. -/
import Derived.Test.YtfjfnpegpcdnaaaGBx0
namespace Go.Proofs.Ytfjfnpegpcdnaaa.GB
open Go.RowKit Go.Proofs.YtfjfnpegpcdnaaaW.PrintWords Go.Proofs.YtfjfnpegpcdnaaaW.PrintLast Go.Proofs.YtfjfnpegpcdnaaaW.PrintMore
attribute [local go_sem] max2_int min2_int max_two min_two max_three min_three max_four min_four   -- for this text's walks alone
set_option linter.unusedVariables false
set_option linter.unusedSimpArgs false

/-! ### standstilllaw05_wide: function 7 -/
def standstilllaw05_wide.l0 : Nat → Int → Int → Int → Int → List (List (S57)) → Option (Bool)
 | 0, _, _, _, _, _ => none
 | k + 1, x3, x4, x102000, x102001, x102002 => if x4 < (x102002.length : Int) then (if x3 ≤ 1000 then (if 0 ≤ x4 then (standstilllaw05_wide.l0 k (wrap64 (x3 + ((rd_L2 x102002 x4).length : Int))) (wrap64 (x4 + 1)) x102000 x102001 x102002) else (none)) else (some (decide (x3 > 1000)))) else (some (decide (x3 > 1000)))
def standstilllaw05_wide.f (k : Nat) (a0_0 : Int) (a0_1 : Int) (l0_2 : List (List (S57))) : Option (Bool) := standstilllaw05_wide.l0 k (l0_2.length : Int) 0 a0_0 a0_1 l0_2
theorem standstilllaw05_wide.mono_l : ∀ k, (∀ y0 y1 y2 y3 y4, LeO (standstilllaw05_wide.l0 k y0 y1 y2 y3 y4) (standstilllaw05_wide.l0 (k + 1) y0 y1 y2 y3 y4))
 | 0 => fun _ _ _ _ _ r h => by simp [standstilllaw05_wide.l0] at h
 | k + 1 => by
  have ih0 := standstilllaw05_wide.mono_l k
  ·
   intro y0 y1 y2 y3 y4
   unfold standstilllaw05_wide.l0
   repeat' first
   | (with_reducible exact ih0 _ _ _ _ _)
   | (with_reducible exact LeO.refl _)
   | (with_reducible exact LeO.none _)
   | (with_reducible refine LeO.ite ?_ ?_)
   | (with_reducible refine LeO.bind ?_ (fun _ => ?_))
   | exact ih0 _ _ _ _ _
   | exact LeO.none _
   | refine LeO.ite ?_ ?_
   | refine LeO.bind ?_ (fun _ => ?_)
theorem standstilllaw05_wide.mono : ∀ a0 a1 a2 k, LeO (standstilllaw05_wide.f k a0 a1 a2) (standstilllaw05_wide.f (k + 1) a0 a1 a2) := by
 intro a0 a1 a2 k
 have ih0 := standstilllaw05_wide.mono_l k
 unfold standstilllaw05_wide.f
 repeat' first
   | (with_reducible exact ih0 _ _ _ _ _)
   | (with_reducible exact LeO.refl _)
   | (with_reducible exact LeO.none _)
   | (with_reducible refine LeO.ite ?_ ?_)
   | (with_reducible refine LeO.bind ?_ (fun _ => ?_))
   | exact ih0 _ _ _ _ _
   | exact LeO.none _
   | refine LeO.ite ?_ ?_
   | refine LeO.bind ?_ (fun _ => ?_)
set_option maxHeartbeats 8000000 in
set_option maxRecDepth 100000 in
theorem standstilllaw05_wide.calls (k : Nat) (a0_0 : Int) (a0_1 : Int) (A0_2 : Option Addr) (c0_2 : Nat) (l0_2 : List (List (S57))) (r : Bool) (w : World) (hr0_2 : Kd.C (Kd.slice 57 k57) w A0_2 l0_2.length l0_2) (hc0_2 : l0_2.length ≤ c0_2) (h : standstilllaw05_wide.f k a0_0 a0_1 l0_2 = some r) :
  Calls Try.prog 7 #[.agg #[.int .i64 a0_0, .int .i64 a0_1, .slice A0_2 l0_2.length c0_2]] w fun e w' => e = .returned (.bool r) ∧ Below w.heap.size w w' := by
 have hu24 := Try.underlying24
 have HR0_2 := Aside0.mk hr0_2
 have HC0_2 := Aside0.mk hc0_2
 clear hr0_2 hc0_2
 have HB := Aside0.mk (Below.refl w.heap.size w)
 have H : (standstilllaw05_wide.l0 k (l0_2.length : Int) 0 a0_0 a0_1 l0_2) = some r := h
 clear h
 have H' := Aside0.mk H
 clear H
 go_enter Try.func7, Try.ntmps7
 go_wp2_with (first | ((with_reducible refine gate_dst (N := 1) rfl ?_); refine box_event ?hg (N := 1) ?hd (cs := #[.int .i64 a0_0, .int .i64 a0_1, .slice A0_2 l0_2.length c0_2]) (t := 24) ?hr ?_; (case hd => rfl); (case hg => rfl); (case hr => first | (go_simp; done) | (go_simp; rfl)); intro gb101 hg w2 hbox hb; have BK101 := Aside0.mk (hbox); have GW101 := Aside0.mk ((by rw [hg]; exact (below_size (zB HB)) : w.heap.size ≤ gb101)); have GE101 := Aside0.mk ((by rw [hg]; exact (below_size (zB HB)) : w.heap.size ≤ gb101)); replace HB := Aside0.mk (below_step (zB HB) hb); clear hb hbox hg; have hz3 := zc3 BK101))
 go_loopg [3, 4] k (fun kq v3 v4 w' => ∃ (x3_1 : Int) (x4_1 : Int), v3 = .int .i64 x3_1 ∧ v4 = .int .i64 x4_1 ∧ Aside0 (standstilllaw05_wide.l0 kq x3_1 x4_1 a0_0 a0_1 l0_2 = some r) ∧ Aside0 (kq ≤ k) ∧ Aside0 (w'.heap[gb101]? = some (.cells #[.int .i64 a0_0, .int .i64 a0_1, (.slice A0_2 l0_2.length c0_2)] 24 (0, 0))) ∧ Aside0 (Below w.heap.size w w'))
 case atStart => exact ⟨((l0_2.length : Int)), (0), (by first | rfl | (simp; done) | (simp [*]; done)), (by first | rfl | (simp; done) | (simp [*]; done)), H', ⟨Nat.le_refl _⟩, ⟨zk BK101⟩, ⟨zB HB⟩⟩
 case round =>
  clear H'
  try clear p2
  try clear hz3
  obtain ⟨x3_1, x4_1, rfl, rfl, HA, HK1, BK101, HB⟩ := hrel
  cases gk with
  | zero => exact absurd HA.out (by simp [standstilllaw05_wide.l0])
  | succ k1 =>
   have H := HA.out
   clear HA
   simp only [standstilllaw05_wide.l0] at H
   by_cases c4 : x4_1 < (l0_2.length : Int)
   ·
    rw [if_pos c4] at H
    have c4b0 : decide (x4_1 < (l0_2.length : Int)) = true := decide_eq_true c4
    clear c4
    by_cases c5 : x3_1 ≤ 1000
    ·
     rw [if_pos c5] at H
     have c5b0 : decide (x3_1 ≤ 1000) = true := decide_eq_true c5
     clear c5
     by_cases c6 : 0 ≤ x4_1
     ·
      rw [if_pos c6] at H
      have c6b0 : decide (0 ≤ x4_1) = true := decide_eq_true c6
      clear c6
      have H' := Aside0.mk H
      clear H
      have hz7 := zc3 BK101
      have p102 : 0 ≤ (x4_1 : Int) := of_decide_eq_true (by first | (with_reducible assumption) | assumption)
      have q102 : x4_1 < (l0_2.length : Int) := of_decide_eq_true (by first | (with_reducible assumption) | assumption)
      obtain ⟨ad102, A102_0, c102_0, e102, hx102_0, hl102_0, hi102_0⟩ := at_L2 HR0_2.out x4_1 p102 q102
      cases e102
      replace hx102_0 := (HB.out.cell (World.block_lt_of_cell? w _ hx102_0)).trans hx102_0
      have HR102_0 := Aside0.mk hi102_0
      have HC102_0 := Aside0.mk hl102_0
      clear hi102_0 hl102_0
      replace p102 := eq_true p102
      replace q102 := eq_true q102
      go_wp2
      go_roundg k1
      case measure => have := HK1.out; omega
      case rel => exact ⟨(wrap64 (x3_1 + ((rd_L2 l0_2 x4_1).length : Int))), (wrap64 (x4_1 + 1)), (by first | rfl | (simp; done) | (simp [*]; done)), (by first | rfl | (simp; done) | (simp [*]; done)), H', ⟨by have := HK1.out; omega⟩, ⟨zk BK101⟩, ⟨zB HB⟩⟩
     ·
      rw [if_neg c6] at H
      exact absurd H (by simp)
    ·
     rw [if_neg c5] at H
     have c5b0 : decide (x3_1 ≤ 1000) = false := decide_eq_false c5
     clear c5
     obtain rfl := Option.some.inj H
     have hz8 := zc3 BK101
     go_wp2
     go_ret
     exact ⟨by first | rfl | (simp [errW_none, errW_some] <;> rfl) | (simp [*, errW_none, errW_some] <;> rfl), zB HB⟩
   ·
    rw [if_neg c4] at H
    have c4b0 : decide (x4_1 < (l0_2.length : Int)) = false := decide_eq_false c4
    clear c4
    obtain rfl := Option.some.inj H
    have hz9 := zc3 BK101
    go_wp2
    go_ret
    exact ⟨by first | rfl | (simp [errW_none, errW_some] <;> rfl) | (simp [*, errW_none, errW_some] <;> rfl), zB HB⟩

/-! ### tape_Valid: function 23 -/
mutual
def tape_Valid.j0 : Nat → Bool → Int → Int → List (List (S57)) → Option (Bool)
 | 0, _, _, _, _ => none
 | k + 1, x32, x104000, x104001, x104002 => if x32 = true then (some false) else (tape_Valid.l0 k x104002 (x104002.length : Int) 0 x104000 x104001 x104002)
def tape_Valid.l0 : Nat → List (List (S57)) → Int → Int → Int → Int → List (List (S57)) → Option (Bool)
 | 0, _, _, _, _, _, _ => none
 | k + 1, x34, x35, x36, x104000, x104001, x104002 => if x36 < x35 then (if 0 ≤ x36 then (if x36 < (x34.length : Int) then (if ((rd_L2 x34 x36).length : Int) = x104001 then (tape_Valid.l1 k x34 x35 x36 (rd_L2 x34 x36) ((rd_L2 x34 x36).length : Int) 0 x104000 x104001 x104002) else (some false)) else (none)) else (none)) else (some true)
def tape_Valid.l1 : Nat → List (List (S57)) → Int → Int → List (S57) → Int → Int → Int → Int → List (List (S57)) → Option (Bool)
 | 0, _, _, _, _, _, _, _, _, _ => none
 | k + 1, x34, x35, x36, x45, x46, x47, x104000, x104001, x104002 => if x47 < x46 then (if 0 ≤ x47 then (if x47 < (x45.length : Int) then (if ((rd_T57 x45 x47).f0) < 0 then (some false) else (if ((rd_T57 x45 x47).f0) ≥ x104001 then (some false) else (if ((rd_T57 x45 x47).f1) = (-1) then (if ((rd_T57 x45 x47).f2) < (-1) then (some false) else (if ((rd_T57 x45 x47).f2) ≥ x104000 then (some false) else (tape_Valid.l1 k x34 x35 x36 x45 x46 (wrap64 (x47 + 1)) x104000 x104001 x104002))) else (if ((rd_T57 x45 x47).f1) = 1 then (if ((rd_T57 x45 x47).f2) < (-1) then (some false) else (if ((rd_T57 x45 x47).f2) ≥ x104000 then (some false) else (tape_Valid.l1 k x34 x35 x36 x45 x46 (wrap64 (x47 + 1)) x104000 x104001 x104002))) else (some false))))) else (none)) else (none)) else (tape_Valid.l0 k x34 x35 (wrap64 (x36 + 1)) x104000 x104001 x104002)
end
def tape_Valid.f (k : Nat) (a0_0 : Int) (a0_1 : Int) (l0_2 : List (List (S57))) : Option (Bool) := if a0_0 < 1 then (tape_Valid.j0 k true a0_0 a0_1 l0_2) else (if a0_0 > 6 then (tape_Valid.j0 k true a0_0 a0_1 l0_2) else (if a0_1 < 2 then (tape_Valid.j0 k true a0_0 a0_1 l0_2) else (if a0_1 > 4 then (tape_Valid.j0 k true a0_0 a0_1 l0_2) else (tape_Valid.j0 k ((l0_2.length : Int) != a0_0) a0_0 a0_1 l0_2))))
theorem tape_Valid.mono_l : ∀ k, (∀ y0 y1 y2 y3, LeO (tape_Valid.j0 k y0 y1 y2 y3) (tape_Valid.j0 (k + 1) y0 y1 y2 y3)) ∧ (∀ y0 y1 y2 y3 y4 y5, LeO (tape_Valid.l0 k y0 y1 y2 y3 y4 y5) (tape_Valid.l0 (k + 1) y0 y1 y2 y3 y4 y5)) ∧ (∀ y0 y1 y2 y3 y4 y5 y6 y7 y8, LeO (tape_Valid.l1 k y0 y1 y2 y3 y4 y5 y6 y7 y8) (tape_Valid.l1 (k + 1) y0 y1 y2 y3 y4 y5 y6 y7 y8))
 | 0 => ⟨fun _ _ _ _ r h => by simp [tape_Valid.j0] at h, fun _ _ _ _ _ _ r h => by simp [tape_Valid.l0] at h, fun _ _ _ _ _ _ _ _ _ r h => by simp [tape_Valid.l1] at h⟩
 | k + 1 => by
  obtain ⟨ih0, ih1, ih2⟩ := tape_Valid.mono_l k
  refine ⟨?_, ?_, ?_⟩
  ·
   intro y0 y1 y2 y3
   unfold tape_Valid.j0
   repeat' first
   | (with_reducible exact ih0 _ _ _ _)
   | (with_reducible exact ih1 _ _ _ _ _ _)
   | (with_reducible exact ih2 _ _ _ _ _ _ _ _ _)
   | (with_reducible exact LeO.refl _)
   | (with_reducible exact LeO.none _)
   | (with_reducible refine LeO.ite ?_ ?_)
   | (with_reducible refine LeO.bind ?_ (fun _ => ?_))
   | exact ih0 _ _ _ _
   | exact ih1 _ _ _ _ _ _
   | exact ih2 _ _ _ _ _ _ _ _ _
   | exact LeO.none _
   | refine LeO.ite ?_ ?_
   | refine LeO.bind ?_ (fun _ => ?_)
  ·
   intro y0 y1 y2 y3 y4 y5
   unfold tape_Valid.l0
   repeat' first
   | (with_reducible exact ih0 _ _ _ _)
   | (with_reducible exact ih1 _ _ _ _ _ _)
   | (with_reducible exact ih2 _ _ _ _ _ _ _ _ _)
   | (with_reducible exact LeO.refl _)
   | (with_reducible exact LeO.none _)
   | (with_reducible refine LeO.ite ?_ ?_)
   | (with_reducible refine LeO.bind ?_ (fun _ => ?_))
   | exact ih0 _ _ _ _
   | exact ih1 _ _ _ _ _ _
   | exact ih2 _ _ _ _ _ _ _ _ _
   | exact LeO.none _
   | refine LeO.ite ?_ ?_
   | refine LeO.bind ?_ (fun _ => ?_)
  ·
   intro y0 y1 y2 y3 y4 y5 y6 y7 y8
   unfold tape_Valid.l1
   repeat' first
   | (with_reducible exact ih0 _ _ _ _)
   | (with_reducible exact ih1 _ _ _ _ _ _)
   | (with_reducible exact ih2 _ _ _ _ _ _ _ _ _)
   | (with_reducible exact LeO.refl _)
   | (with_reducible exact LeO.none _)
   | (with_reducible refine LeO.ite ?_ ?_)
   | (with_reducible refine LeO.bind ?_ (fun _ => ?_))
   | exact ih0 _ _ _ _
   | exact ih1 _ _ _ _ _ _
   | exact ih2 _ _ _ _ _ _ _ _ _
   | exact LeO.none _
   | refine LeO.ite ?_ ?_
   | refine LeO.bind ?_ (fun _ => ?_)
theorem tape_Valid.mono : ∀ a0 a1 a2 k, LeO (tape_Valid.f k a0 a1 a2) (tape_Valid.f (k + 1) a0 a1 a2) := by
 intro a0 a1 a2 k
 obtain ⟨ih0, ih1, ih2⟩ := tape_Valid.mono_l k
 unfold tape_Valid.f
 repeat' first
   | (with_reducible exact ih0 _ _ _ _)
   | (with_reducible exact ih1 _ _ _ _ _ _)
   | (with_reducible exact ih2 _ _ _ _ _ _ _ _ _)
   | (with_reducible exact LeO.refl _)
   | (with_reducible exact LeO.none _)
   | (with_reducible refine LeO.ite ?_ ?_)
   | (with_reducible refine LeO.bind ?_ (fun _ => ?_))
   | exact ih0 _ _ _ _
   | exact ih1 _ _ _ _ _ _
   | exact ih2 _ _ _ _ _ _ _ _ _
   | exact LeO.none _
   | refine LeO.ite ?_ ?_
   | refine LeO.bind ?_ (fun _ => ?_)
set_option maxHeartbeats 8000000 in
set_option maxRecDepth 100000 in
theorem tape_Valid.calls (k : Nat) (a0_0 : Int) (a0_1 : Int) (A0_2 : Option Addr) (c0_2 : Nat) (l0_2 : List (List (S57))) (r : Bool) (w : World) (hr0_2 : Kd.C (Kd.slice 57 k57) w A0_2 l0_2.length l0_2) (hc0_2 : l0_2.length ≤ c0_2) (h : tape_Valid.f k a0_0 a0_1 l0_2 = some r) :
  Calls Try.prog 23 #[.agg #[.int .i64 a0_0, .int .i64 a0_1, .slice A0_2 l0_2.length c0_2]] w fun e w' => e = .returned (.bool r) ∧ Below w.heap.size w w' := by
 have hu24 := Try.underlying24
 have hu57 := Try.underlying57
 have HR0_2 := Aside0.mk hr0_2
 have HC0_2 := Aside0.mk hc0_2
 clear hr0_2 hc0_2
 have HB := Aside0.mk (Below.refl w.heap.size w)
 have H : (if a0_0 < 1 then (tape_Valid.j0 k true a0_0 a0_1 l0_2) else (if a0_0 > 6 then (tape_Valid.j0 k true a0_0 a0_1 l0_2) else (if a0_1 < 2 then (tape_Valid.j0 k true a0_0 a0_1 l0_2) else (if a0_1 > 4 then (tape_Valid.j0 k true a0_0 a0_1 l0_2) else (tape_Valid.j0 k ((l0_2.length : Int) != a0_0) a0_0 a0_1 l0_2))))) = some r := h
 clear h
 have HC2 := Aside0.mk H
 clear H
 go_enter Try.func23, Try.ntmps23
 go_upto_region 1 with (first | ((with_reducible refine gate_dst (N := 1) rfl ?_); (try (refine gate_guard (by rfl) ?_; dsimp only)); refine box_event ?hg (N := 1) ?hd (cs := #[.int .i64 a0_0, .int .i64 a0_1, .slice A0_2 l0_2.length c0_2]) (t := 24) ?hr ?_; (case hd => rfl); (case hg => rfl); (case hr => first | (go_simp; done) | (go_simp; rfl)); intro gb103 hg w3 hbox hb; have BK103 := Aside0.mk (hbox); have GW103 := Aside0.mk ((by rw [hg]; exact (below_size (zB HB)) : w.heap.size ≤ gb103)); have GE103 := Aside0.mk ((by rw [hg]; exact (below_size (zB HB)) : w.heap.size ≤ gb103)); replace HB := Aside0.mk (below_step (zB HB) hb); clear hb hbox hg))
 (try simp only [Act.put, zs, zs0, zs1])
 go_cut [32] (fun v32 wc => ∃ (kq : Nat) (x32_1 : Bool), v32 = .bool x32_1 ∧ Aside0 (tape_Valid.j0 kq x32_1 a0_0 a0_1 l0_2 = some r) ∧ Aside0 (kq ≤ k) ∧ Aside0 (wc.heap[gb103]? = some (.cells #[.int .i64 a0_0, .int .i64 a0_1, (.slice A0_2 l0_2.length c0_2)] 24 (0, 0))) ∧ Aside0 (Below w.heap.size w wc))
 case first =>
  have H := HC2.out
  clear HC2
  by_cases c4 : a0_0 < 1
  ·
   rw [if_pos c4] at H
   have c4b0 : decide (a0_0 < 1) = true := decide_eq_true c4
   clear c4
   (first | rw [c4b0] | (simp only [i64_w, i32_w]; rw [c4b0]) | skip)
   (try rw [c4b1])
   have H' := Aside0.mk H
   clear H
   have hz5 := zc3 BK103
   go_wp2
   go_meet
   case rel => exact ⟨_, (true), (by first | rfl | (simp; done) | (simp [*]; done)), H', ⟨by first | omega | exact Nat.le_refl _⟩, ⟨zk BK103⟩, ⟨zB HB⟩⟩
  ·
   rw [if_neg c4] at H
   have c4b0 : decide (a0_0 < 1) = false := decide_eq_false c4
   clear c4
   (first | rw [c4b0] | (simp only [i64_w, i32_w]; rw [c4b0]) | skip)
   (try rw [c4b1])
   by_cases c6 : a0_0 > 6
   ·
    rw [if_pos c6] at H
    have c6b0 : decide (6 < a0_0) = true := decide_eq_true c6
    clear c6
    have H' := Aside0.mk H
    clear H
    have hz7 := zc3 BK103
    go_wp2
    go_meet
    case rel => exact ⟨_, (true), (by first | rfl | (simp; done) | (simp [*]; done)), H', ⟨by first | omega | exact Nat.le_refl _⟩, ⟨zk BK103⟩, ⟨zB HB⟩⟩
   ·
    rw [if_neg c6] at H
    have c6b0 : decide (6 < a0_0) = false := decide_eq_false c6
    clear c6
    by_cases c8 : a0_1 < 2
    ·
     rw [if_pos c8] at H
     have c8b0 : decide (a0_1 < 2) = true := decide_eq_true c8
     clear c8
     have H' := Aside0.mk H
     clear H
     have hz9 := zc3 BK103
     go_wp2
     go_meet
     case rel => exact ⟨_, (true), (by first | rfl | (simp; done) | (simp [*]; done)), H', ⟨by first | omega | exact Nat.le_refl _⟩, ⟨zk BK103⟩, ⟨zB HB⟩⟩
    ·
     rw [if_neg c8] at H
     have c8b0 : decide (a0_1 < 2) = false := decide_eq_false c8
     clear c8
     by_cases c10 : a0_1 > 4
     ·
      rw [if_pos c10] at H
      have c10b0 : decide (4 < a0_1) = true := decide_eq_true c10
      clear c10
      have H' := Aside0.mk H
      clear H
      have hz11 := zc3 BK103
      go_wp2
      go_meet
      case rel => exact ⟨_, (true), (by first | rfl | (simp; done) | (simp [*]; done)), H', ⟨by first | omega | exact Nat.le_refl _⟩, ⟨zk BK103⟩, ⟨zB HB⟩⟩
     ·
      rw [if_neg c10] at H
      have c10b0 : decide (4 < a0_1) = false := decide_eq_false c10
      clear c10
      have H' := Aside0.mk H
      clear H
      have hz12 := zc3 BK103
      go_wp2
      go_meet
      case rel => exact ⟨_, (((l0_2.length : Int) != a0_0)), (by first | rfl | (simp; done) | (simp [*]; done)), H', ⟨by first | omega | exact Nat.le_refl _⟩, ⟨zk BK103⟩, ⟨zB HB⟩⟩
 case rest =>
  clear HC2
  try clear c1
  try clear c2
  try clear p2
  try clear c4
  try clear c4b0
  try clear c4b1
  try clear c6
  try clear c6b0
  try clear c8
  try clear c8b0
  try clear c10
  try clear c10b0
  try clear hz11
  try clear hz12
  try clear hz5
  try clear hz7
  try clear hz9
  obtain ⟨kq, x32_1, rfl, HA, HJ1, BK103, HB⟩ := hcut
  cases kq with
  | zero => exact absurd HA.out (by simp [tape_Valid.j0])
  | succ kj1 =>
   have H := HA.out
   clear HA
   simp only [tape_Valid.j0] at H
   by_cases c13 : x32_1 = true
   ·
    subst c13
    have H1 : (some false) = some r := by rw [if_pos rfl] at H; exact H
    clear H
    have H := H1
    clear H1
    obtain rfl := Option.some.inj H
    go_wp2
    go_ret
    exact ⟨by first | rfl | (simp [errW_none, errW_some] <;> rfl) | (simp [*, errW_none, errW_some] <;> rfl), zB HB⟩
   ·
    replace c13 := Bool.eq_false_iff.mpr c13
    subst c13
    have H1 : (tape_Valid.l0 kj1 l0_2 (l0_2.length : Int) 0 a0_0 a0_1 l0_2) = some r := by rw [if_neg (show ¬ (false = true) by decide)] at H; exact H
    clear H
    have H := H1
    clear H1
    have H' := Aside0.mk H
    clear H
    have hz14 := zc3 BK103
    go_wp2
    go_loopg [36] kj1 (fun kq v36 w' => ∃ (x36_2 : Int), v36 = .int .i64 x36_2 ∧ Aside0 (tape_Valid.l0 kq l0_2 (l0_2.length : Int) x36_2 a0_0 a0_1 l0_2 = some r) ∧ Aside0 (kq ≤ kj1) ∧ Aside0 (w'.heap[gb103]? = some (.cells #[.int .i64 a0_0, .int .i64 a0_1, (.slice A0_2 l0_2.length c0_2)] 24 (0, 0))) ∧ Aside0 (Below w.heap.size w w'))
    case atStart => exact ⟨(0), (by first | rfl | (simp; done) | (simp [*]; done)), H', ⟨Nat.le_refl _⟩, ⟨zk BK103⟩, ⟨zB HB⟩⟩
    case round =>
     clear H'
     try clear c1
     try clear c2
     try clear p2
     try clear c4
     try clear c4b0
     try clear c4b1
     try clear c6
     try clear c6b0
     try clear c8
     try clear c8b0
     try clear c10
     try clear c10b0
     try clear c13
     try clear hz11
     try clear hz12
     try clear hz14
     try clear hz5
     try clear hz7
     try clear hz9
     try clear p2
     obtain ⟨x36_2, rfl, HA, HK2, BK103, HB⟩ := hrel
     cases gk with
     | zero => exact absurd HA.out (by simp [tape_Valid.l0])
     | succ k2 =>
      have H := HA.out
      clear HA
      simp only [tape_Valid.l0] at H
      by_cases c15 : x36_2 < (l0_2.length : Int)
      ·
       rw [if_pos c15] at H
       have c15b0 : decide (x36_2 < (l0_2.length : Int)) = true := decide_eq_true c15
       clear c15
       by_cases c16 : 0 ≤ x36_2
       ·
        rw [if_pos c16] at H
        have c16b0 : decide (0 ≤ x36_2) = true := decide_eq_true c16
        clear c16
        by_cases c17 : x36_2 < (l0_2.length : Int)
        ·
         rw [if_pos c17] at H
         have c17b0 : decide (x36_2 < (l0_2.length : Int)) = true := decide_eq_true c17
         clear c17
         by_cases c18 : ((rd_L2 l0_2 x36_2).length : Int) = a0_1
         ·
          rw [if_pos c18] at H
          have c18b0 : (((rd_L2 l0_2 x36_2).length : Int) == a0_1) = true := beq_iff_eq.mpr c18
          have c18b1 : (((rd_L2 l0_2 x36_2).length : Int) != a0_1) = false := bne_eq_false_iff_eq.mpr c18
          clear c18
          have H' := Aside0.mk H
          clear H
          have p104 : 0 ≤ (x36_2 : Int) := of_decide_eq_true (by first | (with_reducible assumption) | assumption)
          have q104 : x36_2 < (l0_2.length : Int) := of_decide_eq_true (by first | (with_reducible assumption) | assumption)
          obtain ⟨ad104, A104_0, c104_0, e104, hx104_0, hl104_0, hi104_0⟩ := at_L2 HR0_2.out x36_2 p104 q104
          cases e104
          replace hx104_0 := (HB.out.cell (World.block_lt_of_cell? w _ hx104_0)).trans hx104_0
          have HR104_0 := Aside0.mk hi104_0
          have HC104_0 := Aside0.mk hl104_0
          clear hi104_0 hl104_0
          replace p104 := eq_true p104
          replace q104 := eq_true q104
          have hz19 := zc3 BK103
          go_wp2
          go_loopg [47] k2 (fun kq v47 w' => ∃ (x47_3 : Int), v47 = .int .i64 x47_3 ∧ Aside0 (tape_Valid.l1 kq l0_2 (l0_2.length : Int) x36_2 (rd_L2 l0_2 x36_2) ((rd_L2 l0_2 x36_2).length : Int) x47_3 a0_0 a0_1 l0_2 = some r) ∧ Aside0 (kq ≤ k2) ∧ Aside0 (w'.heap[gb103]? = some (.cells #[.int .i64 a0_0, .int .i64 a0_1, (.slice (some ad104) l0_2.length c0_2)] 24 (0, 0))) ∧ Aside0 (Below w.heap.size w w'))
          case atStart => exact ⟨(0), (by first | rfl | (simp; done) | (simp [*]; done)), H', ⟨Nat.le_refl _⟩, ⟨zk BK103⟩, ⟨zB HB⟩⟩
          case round =>
           clear H'
           try clear c1
           try clear p1
           try clear q1
           try clear hx1
           try clear c2
           try clear p2
           try clear c4
           try clear c4b0
           try clear c4b1
           try clear c6
           try clear c6b0
           try clear c8
           try clear c8b0
           try clear c10
           try clear c10b0
           try clear p10
           try clear q10
           try clear hx10
           try clear c13
           try clear c15
           try clear c15b0
           try clear c16
           try clear c16b0
           try clear c17
           try clear c17b0
           try clear c18
           try clear c18b0
           try clear c18b1
           try clear hz11
           try clear hz12
           try clear hz14
           try clear hz19
           try clear hz5
           try clear hz7
           try clear hz9
           try clear hx104_0
           try clear p104
           try clear p2
           try clear q104
           obtain ⟨x47_3, rfl, HA, HK3, BK103, HB⟩ := hrel
           cases gk with
           | zero => exact absurd HA.out (by simp [tape_Valid.l1])
           | succ k3 =>
            have H := HA.out
            clear HA
            simp only [tape_Valid.l1] at H
            by_cases c20 : x47_3 < ((rd_L2 l0_2 x36_2).length : Int)
            ·
             rw [if_pos c20] at H
             have c20b0 : decide (x47_3 < ((rd_L2 l0_2 x36_2).length : Int)) = true := decide_eq_true c20
             clear c20
             by_cases c21 : 0 ≤ x47_3
             ·
              rw [if_pos c21] at H
              have c21b0 : decide (0 ≤ x47_3) = true := decide_eq_true c21
              clear c21
              by_cases c22 : x47_3 < ((rd_L2 l0_2 x36_2).length : Int)
              ·
               rw [if_pos c22] at H
               have c22b0 : decide (x47_3 < ((rd_L2 l0_2 x36_2).length : Int)) = true := decide_eq_true c22
               clear c22
               have HC23 := Aside0.mk H
               clear H
               have p105 : 0 ≤ (x47_3 : Int) := of_decide_eq_true (by first | (with_reducible assumption) | assumption)
               have q105 : x47_3 < ((rd_L2 l0_2 x36_2).length : Int) := of_decide_eq_true (by first | (with_reducible assumption) | assumption)
               obtain ⟨ad105, e105, hx105_0, hx105_1, hx105_2⟩ := at_T57 HR104_0.out x47_3 p105 q105
               cases e105
               replace hx105_0 := (HB.out.cell (World.block_lt_of_cell? w _ hx105_0)).trans hx105_0
               replace hx105_1 := (HB.out.cell (World.block_lt_of_cell? w _ hx105_1)).trans hx105_1
               replace hx105_2 := (HB.out.cell (World.block_lt_of_cell? w _ hx105_2)).trans hx105_2
               replace p105 := eq_true p105
               replace q105 := eq_true q105
               go_upto_region 11 with (first | ((with_reducible refine gate_dst (N := 6) rfl ?_); (try (refine gate_guard (by rfl) ?_; dsimp only)); refine box_event ?hg (N := 6) ?hd (cs := #[.int .i64 0, .int .i64 0, .int .i64 0]) (t := 57) ?hr ?_; (case hd => rfl); (case hg => rfl); (case hr => first | (go_simp; done) | (go_simp; rfl)); intro gb106 hg w24 hbox hb; have BK106 := Aside0.mk (hbox); have GW106 := Aside0.mk ((by rw [hg]; exact (below_size (zB HB)) : w.heap.size ≤ gb106)); have GE106 := Aside0.mk ((by rw [hg]; exact (below_size (zB HB)) : w.heap.size ≤ gb106)); have NB103_106 := Aside0.mk ((by rw [hg]; exact Nat.ne_of_lt (zL BK103) : gb103 ≠ gb106)); have NB106_103 := Aside0.mk ((by rw [hg]; exact Nat.ne_of_gt (zL BK103) : gb106 ≠ gb103)); replace BK103 := Aside0.mk (zb BK103 hb); replace HB := Aside0.mk (below_step (zB HB) hb); clear hb hbox hg; have hnb25 := NB106_103.out; have hnc25 := NB103_106.out; have hz26 := zc3 BK106) | ((with_reducible refine gate_store (t := 57) (p := 6) rfl ?_); refine store_event (t := 57) (p := 6) (v := ?vo_w27) (w1 := (((w24.setCell ⟨gb106, 0, none⟩ (.int .i64 ((rd_T57 (rd_L2 l0_2 x36_2) x47_3).f0))).setCell ⟨gb106, 1, none⟩ (.int .i64 ((rd_T57 (rd_L2 l0_2 x36_2) x47_3).f1))).setCell ⟨gb106, 2, none⟩ (.int .i64 ((rd_T57 (rd_L2 l0_2 x36_2) x47_3).f2)))) ?hg ?ho ?hn ?hr ?_; (case ho => rfl); (case hg => rfl); (case hn => rfl); (case hr => first | (go_simp; done) | (go_simp; rfl)); intro w27 hw; have n0_ : Aside0 (w27.heap[gb103]? = some (.cells #[.int .i64 a0_0, .int .i64 a0_1, .slice (some ad104) l0_2.length c0_2] 24 (0, 0))) := ⟨(by rw [hw]; exact (zK BK103))⟩; have n1_ : Aside0 (w27.heap[gb106]? = some (.cells #[.int .i64 ((rd_T57 (rd_L2 l0_2 x36_2) x47_3).f0), .int .i64 ((rd_T57 (rd_L2 l0_2 x36_2) x47_3).f1), .int .i64 ((rd_T57 (rd_L2 l0_2 x36_2) x47_3).f2)] 57 (0, 0))) := ⟨(by rw [hw]; exact (by (with_reducible repeat (first | refine blk_drewN ?_ _ | refine blk_drew ?_ | refine blk_alloc ?_ _)); refine blk_put (cs := #[.int .i64 ((rd_T57 (rd_L2 l0_2 x36_2) x47_3).f0), .int .i64 ((rd_T57 (rd_L2 l0_2 x36_2) x47_3).f1), .int .i64 0]) ?_ 2 _ rfl; (with_reducible repeat (first | refine blk_drewN ?_ _ | refine blk_drew ?_ | refine blk_alloc ?_ _)); refine blk_put (cs := #[.int .i64 ((rd_T57 (rd_L2 l0_2 x36_2) x47_3).f0), .int .i64 0, .int .i64 0]) ?_ 1 _ rfl; (with_reducible repeat (first | refine blk_drewN ?_ _ | refine blk_drew ?_ | refine blk_alloc ?_ _)); refine blk_put (cs := #[.int .i64 0, .int .i64 0, .int .i64 0]) ?_ 0 _ rfl; (with_reducible repeat (first | refine blk_drewN ?_ _ | refine blk_drew ?_ | refine blk_alloc ?_ _)); exact BK106.out))⟩; have n2_ : Aside0 (Below w.heap.size w w27) := ⟨(by rw [hw]; exact (zB HB))⟩; clear hw; clear BK103; clear BK106; clear HB; have BK103 := n0_; have BK106 := n1_; have HB := n2_; clear n0_ n1_ n2_))
               (try simp only [Act.put, zs, zs0, zs1])
               have H := HC23.out
               clear HC23
               by_cases c28 : ((rd_T57 (rd_L2 l0_2 x36_2) x47_3).f0) < 0
               ·
                rw [if_pos c28] at H
                have c28b0 : decide (((rd_T57 (rd_L2 l0_2 x36_2) x47_3).f0) < 0) = true := decide_eq_true c28
                clear c28
                (first | rw [c28b0] | (simp only [i64_w, i32_w]; rw [c28b0]) | skip)
                (try rw [c28b1])
                obtain rfl := Option.some.inj H
                have hnb29 := NB106_103.out
                have hnc29 := NB103_106.out
                have hz30 := zc3 BK106
                go_wp2
                go_ret
                exact ⟨by first | rfl | (simp [errW_none, errW_some] <;> rfl) | (simp [*, errW_none, errW_some] <;> rfl), zB HB⟩
               ·
                rw [if_neg c28] at H
                have c28b0 : decide (((rd_T57 (rd_L2 l0_2 x36_2) x47_3).f0) < 0) = false := decide_eq_false c28
                clear c28
                (first | rw [c28b0] | (simp only [i64_w, i32_w]; rw [c28b0]) | skip)
                (try rw [c28b1])
                by_cases c31 : ((rd_T57 (rd_L2 l0_2 x36_2) x47_3).f0) ≥ a0_1
                ·
                 rw [if_pos c31] at H
                 have c31b0 : decide (a0_1 ≤ ((rd_T57 (rd_L2 l0_2 x36_2) x47_3).f0)) = true := decide_eq_true c31
                 clear c31
                 obtain rfl := Option.some.inj H
                 have hnb32 := NB106_103.out
                 have hnc32 := NB103_106.out
                 have hz33 := zc3 BK106
                 have hz34 := zc3 BK103
                 go_wp2
                 go_ret
                 exact ⟨by first | rfl | (simp [errW_none, errW_some] <;> rfl) | (simp [*, errW_none, errW_some] <;> rfl), zB HB⟩
                ·
                 rw [if_neg c31] at H
                 have c31b0 : decide (a0_1 ≤ ((rd_T57 (rd_L2 l0_2 x36_2) x47_3).f0)) = false := decide_eq_false c31
                 clear c31
                 by_cases c35 : ((rd_T57 (rd_L2 l0_2 x36_2) x47_3).f1) = (-1)
                 ·
                  rw [if_pos c35] at H
                  have c35b0 : (((rd_T57 (rd_L2 l0_2 x36_2) x47_3).f1) == (-1)) = true := beq_iff_eq.mpr c35
                  have c35b1 : (((rd_T57 (rd_L2 l0_2 x36_2) x47_3).f1) != (-1)) = false := bne_eq_false_iff_eq.mpr c35
                  clear c35
                  by_cases c36 : ((rd_T57 (rd_L2 l0_2 x36_2) x47_3).f2) < (-1)
                  ·
                   rw [if_pos c36] at H
                   have c36b0 : decide (((rd_T57 (rd_L2 l0_2 x36_2) x47_3).f2) < (-1)) = true := decide_eq_true c36
                   clear c36
                   obtain rfl := Option.some.inj H
                   have hnb37 := NB106_103.out
                   have hnc37 := NB103_106.out
                   have hz38 := zc3 BK106
                   have hz39 := zc3 BK103
                   go_wp2
                   go_ret
                   exact ⟨by first | rfl | (simp [errW_none, errW_some] <;> rfl) | (simp [*, errW_none, errW_some] <;> rfl), zB HB⟩
                  ·
                   rw [if_neg c36] at H
                   have c36b0 : decide (((rd_T57 (rd_L2 l0_2 x36_2) x47_3).f2) < (-1)) = false := decide_eq_false c36
                   clear c36
                   by_cases c40 : ((rd_T57 (rd_L2 l0_2 x36_2) x47_3).f2) ≥ a0_0
                   ·
                    rw [if_pos c40] at H
                    have c40b0 : decide (a0_0 ≤ ((rd_T57 (rd_L2 l0_2 x36_2) x47_3).f2)) = true := decide_eq_true c40
                    clear c40
                    obtain rfl := Option.some.inj H
                    have hnb41 := NB106_103.out
                    have hnc41 := NB103_106.out
                    have hz42 := zc3 BK106
                    have hz43 := zc3 BK103
                    go_wp2
                    go_ret
                    exact ⟨by first | rfl | (simp [errW_none, errW_some] <;> rfl) | (simp [*, errW_none, errW_some] <;> rfl), zB HB⟩
                   ·
                    rw [if_neg c40] at H
                    have c40b0 : decide (a0_0 ≤ ((rd_T57 (rd_L2 l0_2 x36_2) x47_3).f2)) = false := decide_eq_false c40
                    clear c40
                    have H' := Aside0.mk H
                    clear H
                    have hnb44 := NB106_103.out
                    have hnc44 := NB103_106.out
                    have hz45 := zc3 BK106
                    have hz46 := zc3 BK103
                    go_wp2
                    go_roundg k3
                    case measure => have := HJ1.out; have := HK2.out; have := HK3.out; omega
                    case rel => exact ⟨(wrap64 (x47_3 + 1)), (by first | rfl | (simp; done) | (simp [*]; done)), H', ⟨by have := HJ1.out; have := HK2.out; have := HK3.out; omega⟩, ⟨zk BK103⟩, ⟨zB HB⟩⟩
                 ·
                  rw [if_neg c35] at H
                  have c35b0 : (((rd_T57 (rd_L2 l0_2 x36_2) x47_3).f1) == (-1)) = false := beq_eq_false_iff_ne.mpr c35
                  have c35b1 : (((rd_T57 (rd_L2 l0_2 x36_2) x47_3).f1) != (-1)) = true := bne_iff_ne.mpr c35
                  by_cases c47 : ((rd_T57 (rd_L2 l0_2 x36_2) x47_3).f1) = 1
                  ·
                   rw [if_pos c47] at H
                   have c47b0 : (((rd_T57 (rd_L2 l0_2 x36_2) x47_3).f1) == 1) = true := beq_iff_eq.mpr c47
                   have c47b1 : (((rd_T57 (rd_L2 l0_2 x36_2) x47_3).f1) != 1) = false := bne_eq_false_iff_eq.mpr c47
                   clear c47
                   by_cases c48 : ((rd_T57 (rd_L2 l0_2 x36_2) x47_3).f2) < (-1)
                   ·
                    rw [if_pos c48] at H
                    have c48b0 : decide (((rd_T57 (rd_L2 l0_2 x36_2) x47_3).f2) < (-1)) = true := decide_eq_true c48
                    clear c48
                    obtain rfl := Option.some.inj H
                    have hnb49 := NB106_103.out
                    have hnc49 := NB103_106.out
                    have hz50 := zc3 BK106
                    have hz51 := zc3 BK103
                    go_wp2
                    go_ret
                    exact ⟨by first | rfl | (simp [errW_none, errW_some] <;> rfl) | (simp [*, errW_none, errW_some] <;> rfl), zB HB⟩
                   ·
                    rw [if_neg c48] at H
                    have c48b0 : decide (((rd_T57 (rd_L2 l0_2 x36_2) x47_3).f2) < (-1)) = false := decide_eq_false c48
                    clear c48
                    by_cases c52 : ((rd_T57 (rd_L2 l0_2 x36_2) x47_3).f2) ≥ a0_0
                    ·
                     rw [if_pos c52] at H
                     have c52b0 : decide (a0_0 ≤ ((rd_T57 (rd_L2 l0_2 x36_2) x47_3).f2)) = true := decide_eq_true c52
                     clear c52
                     obtain rfl := Option.some.inj H
                     have hnb53 := NB106_103.out
                     have hnc53 := NB103_106.out
                     have hz54 := zc3 BK106
                     have hz55 := zc3 BK103
                     go_wp2
                     go_ret
                     exact ⟨by first | rfl | (simp [errW_none, errW_some] <;> rfl) | (simp [*, errW_none, errW_some] <;> rfl), zB HB⟩
                    ·
                     rw [if_neg c52] at H
                     have c52b0 : decide (a0_0 ≤ ((rd_T57 (rd_L2 l0_2 x36_2) x47_3).f2)) = false := decide_eq_false c52
                     clear c52
                     have H' := Aside0.mk H
                     clear H
                     have hnb56 := NB106_103.out
                     have hnc56 := NB103_106.out
                     have hz57 := zc3 BK106
                     have hz58 := zc3 BK103
                     go_wp2
                     go_roundg k3
                     case measure => have := HJ1.out; have := HK2.out; have := HK3.out; omega
                     case rel => exact ⟨(wrap64 (x47_3 + 1)), (by first | rfl | (simp; done) | (simp [*]; done)), H', ⟨by have := HJ1.out; have := HK2.out; have := HK3.out; omega⟩, ⟨zk BK103⟩, ⟨zB HB⟩⟩
                  ·
                   rw [if_neg c47] at H
                   have c47b0 : (((rd_T57 (rd_L2 l0_2 x36_2) x47_3).f1) == 1) = false := beq_eq_false_iff_ne.mpr c47
                   have c47b1 : (((rd_T57 (rd_L2 l0_2 x36_2) x47_3).f1) != 1) = true := bne_iff_ne.mpr c47
                   obtain rfl := Option.some.inj H
                   have hnb59 := NB106_103.out
                   have hnc59 := NB103_106.out
                   have hz60 := zc3 BK106
                   have hz61 := zc3 BK103
                   go_wp2
                   go_ret
                   exact ⟨by first | rfl | (simp [errW_none, errW_some] <;> rfl) | (simp [*, errW_none, errW_some] <;> rfl), zB HB⟩
              ·
               rw [if_neg c22] at H
               exact absurd H (by simp)
             ·
              rw [if_neg c21] at H
              exact absurd H (by simp)
            ·
             rw [if_neg c20] at H
             have c20b0 : decide (x47_3 < ((rd_L2 l0_2 x36_2).length : Int)) = false := decide_eq_false c20
             clear c20
             have H' := Aside0.mk H
             clear H
             go_wp2
             go_roundg k3
             case measure => have := HJ1.out; have := HK2.out; have := HK3.out; omega
             case rel => exact ⟨(wrap64 (x36_2 + 1)), (by first | rfl | (simp; done) | (simp [*]; done)), H', ⟨by have := HJ1.out; have := HK2.out; have := HK3.out; omega⟩, ⟨zk BK103⟩, ⟨zB HB⟩⟩
         ·
          rw [if_neg c18] at H
          have c18b0 : (((rd_L2 l0_2 x36_2).length : Int) == a0_1) = false := beq_eq_false_iff_ne.mpr c18
          have c18b1 : (((rd_L2 l0_2 x36_2).length : Int) != a0_1) = true := bne_iff_ne.mpr c18
          obtain rfl := Option.some.inj H
          have p104 : 0 ≤ (x36_2 : Int) := of_decide_eq_true (by first | (with_reducible assumption) | assumption)
          have q104 : x36_2 < (l0_2.length : Int) := of_decide_eq_true (by first | (with_reducible assumption) | assumption)
          obtain ⟨ad104, A104_0, c104_0, e104, hx104_0, hl104_0, hi104_0⟩ := at_L2 HR0_2.out x36_2 p104 q104
          cases e104
          replace hx104_0 := (HB.out.cell (World.block_lt_of_cell? w _ hx104_0)).trans hx104_0
          have HR104_0 := Aside0.mk hi104_0
          have HC104_0 := Aside0.mk hl104_0
          clear hi104_0 hl104_0
          replace p104 := eq_true p104
          replace q104 := eq_true q104
          have hz62 := zc3 BK103
          go_wp2
          go_ret
          exact ⟨by first | rfl | (simp [errW_none, errW_some] <;> rfl) | (simp [*, errW_none, errW_some] <;> rfl), zB HB⟩
        ·
         rw [if_neg c17] at H
         exact absurd H (by simp)
       ·
        rw [if_neg c16] at H
        exact absurd H (by simp)
      ·
       rw [if_neg c15] at H
       have c15b0 : decide (x36_2 < (l0_2.length : Int)) = false := decide_eq_false c15
       clear c15
       obtain rfl := Option.some.inj H
       go_wp2
       go_ret
       exact ⟨by first | rfl | (simp [errW_none, errW_some] <;> rfl) | (simp [*, errW_none, errW_some] <;> rfl), zB HB⟩

/-! ### slices_Clone_int_int: function 33 -/
def slices_Clone_int_int.f (l0 : List Int) : Option (List Int) := (some (([] : List Int) : List Int)).bind fun y107 => (if y107.length + l0.length < 17592186044416 then (some (y107 ++ l0)) else (none))
set_option maxHeartbeats 8000000 in
set_option maxRecDepth 100000 in
theorem slices_Clone_int_int.calls (A0 : Option Addr) (c0 : Nat) (l0 : List Int) (r : List Int) (w : World) (hr0 : Kd.C (Kd.int .i64) w A0 l0.length l0) (hc0 : l0.length ≤ c0) (h : slices_Clone_int_int.f l0 = some r) :
  Calls Try.prog 33 #[.slice A0 l0.length c0] w fun e w' => ∃ v0_ : Value, e = .returned (v0_) ∧ Kd.R (Kd.int .i64) 3 w' w.heap.size (fun _ => True) v0_ r ∧ Below w.heap.size w w' := by
 cases A0 with
 | none =>
  have he : l0 = [] := by
   cases l0 with
   | nil => rfl
   | cons a t => obtain ⟨ad, e, _⟩ := hr0.2.2 (by simp); cases e
  subst he
  obtain rfl : r = [] := by simpa [slices_Clone_int_int.f] using h.symm
  have hq : ∀ W n c, (binOp .eql 25 (.slice none n c) (.slice none 0 0)).run Try.prog W = .ok (.bool true) W := fun W n c => Lib.run_eql_slice_nil W 25 3 none n c 0 0 Try.underlying25
  clear h hr0 hc0
  go_enter Try.func33, Try.ntmps33
  go_wp2
  go_ret
  exact ⟨_, rfl, Kd.R_nil _ _ _ _ _, Below.refl _ _⟩
 | some ad0_ =>
  have HR0 := Aside0.mk hr0
  have HC0 := Aside0.mk hc0
  clear hr0 hc0
  have HB := Aside0.mk (Below.refl w.heap.size w)
  have H : ((some (([] : List Int) : List Int)).bind fun y107 => (if y107.length + l0.length < 17592186044416 then (some (y107 ++ l0)) else (none))) = some r := h
  clear h
  obtain ⟨y107, hy107⟩ : ∃ y_ : List Int, y_ = (([] : List Int)) := ⟨_, rfl⟩
  replace H : (if y107.length + l0.length < 17592186044416 then (some (y107 ++ l0)) else (none)) = some r := by first | (rw [hy107]; with_reducible exact H) | (have H2_ := (Option.bind_some _ _).symm.trans H; rw [hy107]; with_reducible exact H2_) | (have H2_ := (Option.bind_some _ _).symm.trans H; with_reducible exact H2_) | with_reducible exact H | (rw [hy107]; exact H) | exact H
  have Ny107 := Aside0.mk hy107
  clear hy107
  by_cases c2 : y107.length + l0.length < 17592186044416
  ·
   rw [if_pos c2] at H
   have LMc2 := Aside0.mk c2
   clear c2
   obtain ⟨y110, hy110⟩ : ∃ y_ : List Int, y_ = (y107 ++ l0) := ⟨_, rfl⟩
   replace H : (some y110) = some r := by first | (rw [hy110]; with_reducible exact H) | (have H2_ := (Option.bind_some _ _).symm.trans H; rw [hy110]; with_reducible exact H2_) | (have H2_ := (Option.bind_some _ _).symm.trans H; with_reducible exact H2_) | with_reducible exact H | (rw [hy110]; exact H) | exact H
   have Ny110 := Aside0.mk hy110
   clear hy110
   obtain rfl := Option.some.inj H
   have hq : ∀ W n c, (binOp .eql 25 (.slice (some ad0_) n c) (.slice none 0 0)).run Try.prog W = .ok (.bool false) W := fun W n c => Lib.run_eql_slice_nil W 25 3 (some ad0_) n c 0 0 Try.underlying25
   go_enter Try.func33, Try.ntmps33
   go_wp2_with (first | ((with_reducible refine gate_dst (N := 5) rfl ?_); refine Kd.R_lit (Kd.int .i64) _ 3 ?hg (N := 5) ?hd (xs := ([] : List Int)) (inner := []) (ok := fun _ => True) (okp := fun _ => True) ?hr ?hp (fun _ hk => hk) trivial (Below.refl _ _) (Nat.le_refl _) (by simp) ?_; (case hd => rfl); (case hg => rfl); (case hr => first | (go_simp; done) | (go_simp; rfl)); (case hp => exact (Reps.none _ _)); intro v108 w3 ho4 hb hg_ hnew_; clear hg_ hnew_; (first | rw [← Ny107.out] at ho4 | (simp only [Int.reduceToNat] at ho4; rw [← Ny107.out] at ho4)); have HO109 := Aside0.mk (Kd.R_lower ho4 (below_size (zB HB))); replace HB := Aside0.mk (below_step (zB HB) hb); clear hb ho4) | ((with_reducible refine gate_builtin (b := .append) (xs := #[.tmp 5, .tmp 6]) rfl ?_); at_builtin; refine Kd.R_append_rows (Kd.int .i64) (w0 := w) w.heap.size rfl (.tmp 5) (.tmp 6) 25 3 (.int .i64 0) 8 rfl Try.underlying25 info3 rfl (by decide) (by omega) v108 y107 l0 _ _ _ (fun _ => True) (fun _ => False) rfl rfl ?aO ?aR (fun _ _ h => h) (fun _ h => h.elim) ?aF ?aB ?aS ?aL ?_; (case aR => exact zC ((Kd.C_below HR0.out HB.out))); (case aB => exact (zB HB)); (case aF => exact (fun _ _ => trivial)); (case aO => exact (zR HO109)); (case aS => exact (below_size (zB HB))); (case aL => have := LMc2.out; omega); intro v111 w5 ho hb hg hat; rw [← Ny110.out] at ho; have n0_ := Aside0.mk (hb); have n1_ := Aside0.mk (ho); clear HB; clear HO109; have HB := n0_; have HO112 := n1_; clear n0_ n1_; clear ho hb hg hat))
   go_ret
   exact ⟨_, by first | rfl | (simp [errW_none, errW_some] <;> rfl) | (simp [*, errW_none, errW_some] <;> rfl), zR HO112, zB HB⟩
  ·
   rw [if_neg c2] at H
   exact absurd H (by simp)

end Go.Proofs.Ytfjfnpegpcdnaaa.GB
