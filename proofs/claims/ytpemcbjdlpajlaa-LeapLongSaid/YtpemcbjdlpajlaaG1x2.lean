/- The functions of one seat as Lean functions, each with its contract: the call of the Go function returns what the Lean function answers. Written by a program of this session out of the translation; contracts made by hand are laid between. -/
import Derived.Test.YtpemcbjdlpajlaaG1x0
namespace Go.Proofs.Ytpemcbjdlpajlaa.G1
open Go.RowKit Go.Proofs.YtpemcbjdlpajlaaW.PrintWords Go.Proofs.YtpemcbjdlpajlaaW.PrintLast Go.Proofs.YtpemcbjdlpajlaaW.PrintMore
attribute [local go_sem] max2_int min2_int max_two min_two max_three min_three max_four min_four   -- for this text's walks alone
set_option linter.unusedVariables false
set_option linter.unusedSimpArgs false

/-! ### standstilllaw04_wide: function 6 -/
def standstilllaw04_wide.l0 : Nat → Int → Int → Int → Int → List (List (S37)) → Option (Bool)
 | 0, _, _, _, _, _ => none
 | k + 1, x7, x8, x102000, x102001, x102002 => if x8 < (x102002.length : Int) then (if x7 ≤ 5000 then (if 0 ≤ x8 then (standstilllaw04_wide.l0 k (wrap64 (x7 + ((rd_L2 x102002 x8).length : Int))) (wrap64 (x8 + 1)) x102000 x102001 x102002) else (none)) else (some (decide (x7 > 5000)))) else (some (decide (x7 > 5000)))
def standstilllaw04_wide.f (k : Nat) (a0_0 : Int) (a0_1 : Int) (l0_2 : List (List (S37))) (a1_0 : Int) (a1_1 : Int) (a1_2 : Int) (l1_3 : List Int) (a2_0 : Int) (a2_1 : Int) (a2_2 : Int) (l2_3 : List (S62)) (l2_4 : List (S62)) : Option (Bool) := standstilllaw04_wide.l0 k (wrap64 ((wrap64 ((wrap64 ((l0_2.length : Int) + (l1_3.length : Int))) + (l2_3.length : Int))) + (l2_4.length : Int))) 0 a0_0 a0_1 l0_2
theorem standstilllaw04_wide.mono_l : ∀ k, (∀ y0 y1 y2 y3 y4, LeO (standstilllaw04_wide.l0 k y0 y1 y2 y3 y4) (standstilllaw04_wide.l0 (k + 1) y0 y1 y2 y3 y4))
 | 0 => fun _ _ _ _ _ r h => by simp [standstilllaw04_wide.l0] at h
 | k + 1 => by
  have ih0 := standstilllaw04_wide.mono_l k
  ·
   intro y0 y1 y2 y3 y4
   unfold standstilllaw04_wide.l0
   repeat' first
   | (with_reducible exact ih0 _ _ _ _ _)
   | (with_reducible exact LeO.refl _)
   | (with_reducible exact LeO.none _)
   | (with_reducible refine LeO.ite ?_ ?_)
   | (with_reducible refine LeO.bind ?_ (fun _ => ?_))
   | exact ih0 _ _ _ _ _
   | exact LeO.none _
   | refine LeO.ite ?_ ?_
   | refine LeO.bind ?_ (fun _ => ?_)
theorem standstilllaw04_wide.mono : ∀ a0 a1 a2 a3 a4 a5 a6 a7 a8 a9 a10 a11 k, LeO (standstilllaw04_wide.f k a0 a1 a2 a3 a4 a5 a6 a7 a8 a9 a10 a11) (standstilllaw04_wide.f (k + 1) a0 a1 a2 a3 a4 a5 a6 a7 a8 a9 a10 a11) := by
 intro a0 a1 a2 a3 a4 a5 a6 a7 a8 a9 a10 a11 k
 have ih0 := standstilllaw04_wide.mono_l k
 unfold standstilllaw04_wide.f
 repeat' first
   | (with_reducible exact ih0 _ _ _ _ _)
   | (with_reducible exact LeO.refl _)
   | (with_reducible exact LeO.none _)
   | (with_reducible refine LeO.ite ?_ ?_)
   | (with_reducible refine LeO.bind ?_ (fun _ => ?_))
   | exact ih0 _ _ _ _ _
   | exact LeO.none _
   | refine LeO.ite ?_ ?_
   | refine LeO.bind ?_ (fun _ => ?_)
set_option maxHeartbeats 8000000 in
set_option maxRecDepth 100000 in
theorem standstilllaw04_wide.calls (k : Nat) (a0_0 : Int) (a0_1 : Int) (A0_2 : Option Addr) (c0_2 : Nat) (l0_2 : List (List (S37))) (a1_0 : Int) (a1_1 : Int) (a1_2 : Int) (A1_3 : Option Addr) (c1_3 : Nat) (l1_3 : List Int) (a2_0 : Int) (a2_1 : Int) (a2_2 : Int) (A2_3 : Option Addr) (c2_3 : Nat) (l2_3 : List (S62)) (A2_4 : Option Addr) (c2_4 : Nat) (l2_4 : List (S62)) (r : Bool) (w : World) (hr0_2 : Kd.C (Kd.slice 37 k37) w A0_2 l0_2.length l0_2) (hc0_2 : l0_2.length ≤ c0_2) (hr1_3 : Kd.C (Kd.int .i64) w A1_3 l1_3.length l1_3) (hc1_3 : l1_3.length ≤ c1_3) (hr2_3 : Kd.C k62 w A2_3 l2_3.length l2_3) (hc2_3 : l2_3.length ≤ c2_3) (hr2_4 : Kd.C k62 w A2_4 l2_4.length l2_4) (hc2_4 : l2_4.length ≤ c2_4) (h : standstilllaw04_wide.f k a0_0 a0_1 l0_2 a1_0 a1_1 a1_2 l1_3 a2_0 a2_1 a2_2 l2_3 l2_4 = some r) :
  Calls Try.prog 6 #[.agg #[.int .i64 a0_0, .int .i64 a0_1, .slice A0_2 l0_2.length c0_2], .agg #[.int .i64 a1_0, .int .i64 a1_1, .int .i64 a1_2, .slice A1_3 l1_3.length c1_3], .agg #[.int .i64 a2_0, .int .i64 a2_1, .int .i64 a2_2, .slice A2_3 l2_3.length c2_3, .slice A2_4 l2_4.length c2_4]] w fun e w' => e = .returned (.bool r) ∧ Below w.heap.size w w' := by
 have hu24 := Try.underlying24
 have hu32 := Try.underlying32
 have hu27 := Try.underlying27
 have HR0_2 := Aside0.mk hr0_2
 have HC0_2 := Aside0.mk hc0_2
 clear hr0_2 hc0_2
 have HR1_3 := Aside0.mk hr1_3
 have HC1_3 := Aside0.mk hc1_3
 clear hr1_3 hc1_3
 have HR2_3 := Aside0.mk hr2_3
 have HC2_3 := Aside0.mk hc2_3
 clear hr2_3 hc2_3
 have HR2_4 := Aside0.mk hr2_4
 have HC2_4 := Aside0.mk hc2_4
 clear hr2_4 hc2_4
 have HB := Aside0.mk (Below.refl w.heap.size w)
 have H : (standstilllaw04_wide.l0 k (wrap64 ((wrap64 ((wrap64 ((l0_2.length : Int) + (l1_3.length : Int))) + (l2_3.length : Int))) + (l2_4.length : Int))) 0 a0_0 a0_1 l0_2) = some r := h
 clear h
 have H' := Aside0.mk H
 clear H
 go_enter Try.func6, Try.ntmps6
 go_wp2_with (first | ((with_reducible refine gate_dst (N := 3) rfl ?_); refine box_event ?hg (N := 3) ?hd (cs := #[.int .i64 a0_0, .int .i64 a0_1, .slice A0_2 l0_2.length c0_2]) (t := 24) ?hr ?_; (case hd => rfl); (case hg => rfl); (case hr => first | (go_simp; done) | (go_simp; rfl)); intro gb101 hg w4 hbox hb; have BK101 := Aside0.mk (hbox); have GW101 := Aside0.mk ((by rw [hg]; exact (below_size (zB HB)) : w.heap.size ≤ gb101)); have GE101 := Aside0.mk ((by rw [hg]; exact (below_size (zB HB)) : w.heap.size ≤ gb101)); replace HB := Aside0.mk (below_step (zB HB) hb); clear hb hbox hg) | ((with_reducible refine gate_dst (N := 4) rfl ?_); refine box_event ?hg (N := 4) ?hd (cs := #[.int .i64 a1_0, .int .i64 a1_1, .int .i64 a1_2, .slice A1_3 l1_3.length c1_3]) (t := 32) ?hr ?_; (case hd => rfl); (case hg => rfl); (case hr => first | (go_simp; done) | (go_simp; rfl)); intro gb102 hg w5 hbox hb; have BK102 := Aside0.mk (hbox); have GW102 := Aside0.mk ((by rw [hg]; exact (below_size (zB HB)) : w.heap.size ≤ gb102)); have GE102 := Aside0.mk ((by rw [hg]; exact (below_size (zB HB)) : w.heap.size ≤ gb102)); have NB101_102 := Aside0.mk ((by rw [hg]; exact Nat.ne_of_lt (zL BK101) : gb101 ≠ gb102)); have NB102_101 := Aside0.mk ((by rw [hg]; exact Nat.ne_of_gt (zL BK101) : gb102 ≠ gb101)); replace BK101 := Aside0.mk (zb BK101 hb); replace HB := Aside0.mk (below_step (zB HB) hb); clear hb hbox hg) | ((with_reducible refine gate_dst (N := 5) rfl ?_); refine box_event ?hg (N := 5) ?hd (cs := #[.int .i64 a2_0, .int .i64 a2_1, .int .i64 a2_2, .slice A2_3 l2_3.length c2_3, .slice A2_4 l2_4.length c2_4]) (t := 27) ?hr ?_; (case hd => rfl); (case hg => rfl); (case hr => first | (go_simp; done) | (go_simp; rfl)); intro gb103 hg w6 hbox hb; have BK103 := Aside0.mk (hbox); have GW103 := Aside0.mk ((by rw [hg]; exact (below_size (zB HB)) : w.heap.size ≤ gb103)); have GE103 := Aside0.mk ((by rw [hg]; exact (below_size (zB HB)) : w.heap.size ≤ gb103)); have NB101_103 := Aside0.mk ((by rw [hg]; exact Nat.ne_of_lt (zL BK101) : gb101 ≠ gb103)); have NB103_101 := Aside0.mk ((by rw [hg]; exact Nat.ne_of_gt (zL BK101) : gb103 ≠ gb101)); have NB102_103 := Aside0.mk ((by rw [hg]; exact Nat.ne_of_lt (zL BK102) : gb102 ≠ gb103)); have NB103_102 := Aside0.mk ((by rw [hg]; exact Nat.ne_of_gt (zL BK102) : gb103 ≠ gb102)); replace BK101 := Aside0.mk (zb BK101 hb); replace BK102 := Aside0.mk (zb BK102 hb); replace HB := Aside0.mk (below_step (zB HB) hb); clear hb hbox hg; have hnb7 := NB101_102.out; have hnc7 := NB102_101.out; have hnb8 := NB101_103.out; have hnc8 := NB103_101.out; have hz9 := zc3 BK101; have hnb10 := NB102_103.out; have hnc10 := NB103_102.out; have hz11 := zc4 BK102; have hz12 := zc5 BK103))
 go_loopg [7, 8] k (fun kq v7 v8 w' => ∃ (x7_1 : Int) (x8_1 : Int), v7 = .int .i64 x7_1 ∧ v8 = .int .i64 x8_1 ∧ Aside0 (standstilllaw04_wide.l0 kq x7_1 x8_1 a0_0 a0_1 l0_2 = some r) ∧ Aside0 (kq ≤ k) ∧ Aside0 (w'.heap[gb101]? = some (.cells #[.int .i64 a0_0, .int .i64 a0_1, (.slice A0_2 l0_2.length c0_2)] 24 (0, 0))) ∧ Aside0 (w'.heap[gb102]? = some (.cells #[.int .i64 a1_0, .int .i64 a1_1, .int .i64 a1_2, (.slice A1_3 l1_3.length c1_3)] 32 (0, 0))) ∧ Aside0 (w'.heap[gb103]? = some (.cells #[.int .i64 a2_0, .int .i64 a2_1, .int .i64 a2_2, (.slice A2_3 l2_3.length c2_3), (.slice A2_4 l2_4.length c2_4)] 27 (0, 0))) ∧ Aside0 (Below w.heap.size w w'))
 case atStart => exact ⟨(wrap64 ((wrap64 ((wrap64 ((l0_2.length : Int) + (l1_3.length : Int))) + (l2_3.length : Int))) + (l2_4.length : Int))), (0), (by first | rfl | (simp; done) | (simp [*]; done)), (by first | rfl | (simp; done) | (simp [*]; done)), H', ⟨Nat.le_refl _⟩, ⟨zk BK101⟩, ⟨zk BK102⟩, ⟨zk BK103⟩, ⟨zB HB⟩⟩
 case round =>
  clear H'
  try clear c1
  try clear c2
  try clear p2
  try clear c6
  try clear p6
  try clear c7
  try clear c8
  try clear c10
  try clear hz11
  try clear hz12
  try clear hz9
  obtain ⟨x7_1, x8_1, rfl, rfl, HA, HK1, BK101, BK102, BK103, HB⟩ := hrel
  cases gk with
  | zero => exact absurd HA.out (by simp [standstilllaw04_wide.l0])
  | succ k1 =>
   have H := HA.out
   clear HA
   simp only [standstilllaw04_wide.l0] at H
   by_cases c13 : x8_1 < (l0_2.length : Int)
   ·
    rw [if_pos c13] at H
    have c13b0 : decide (x8_1 < (l0_2.length : Int)) = true := decide_eq_true c13
    clear c13
    by_cases c14 : x7_1 ≤ 5000
    ·
     rw [if_pos c14] at H
     have c14b0 : decide (x7_1 ≤ 5000) = true := decide_eq_true c14
     clear c14
     by_cases c15 : 0 ≤ x8_1
     ·
      rw [if_pos c15] at H
      have c15b0 : decide (0 ≤ x8_1) = true := decide_eq_true c15
      clear c15
      have H' := Aside0.mk H
      clear H
      have hnb16 := NB101_102.out
      have hnc16 := NB102_101.out
      have hnb17 := NB101_103.out
      have hnc17 := NB103_101.out
      have hz18 := zc3 BK101
      have p104 : 0 ≤ (x8_1 : Int) := of_decide_eq_true (by first | (with_reducible assumption) | assumption)
      have q104 : x8_1 < (l0_2.length : Int) := of_decide_eq_true (by first | (with_reducible assumption) | assumption)
      obtain ⟨ad104, A104_0, c104_0, e104, hx104_0, hl104_0, hi104_0⟩ := at_L2 HR0_2.out x8_1 p104 q104
      cases e104
      replace hx104_0 := (HB.out.cell (World.block_lt_of_cell? w _ hx104_0)).trans hx104_0
      have HR104_0 := Aside0.mk hi104_0
      have HC104_0 := Aside0.mk hl104_0
      clear hi104_0 hl104_0
      replace p104 := eq_true p104
      replace q104 := eq_true q104
      go_wp2
      go_roundg k1
      case measure => have := HK1.out; omega
      case rel => exact ⟨(wrap64 (x7_1 + ((rd_L2 l0_2 x8_1).length : Int))), (wrap64 (x8_1 + 1)), (by first | rfl | (simp; done) | (simp [*]; done)), (by first | rfl | (simp; done) | (simp [*]; done)), H', ⟨by have := HK1.out; omega⟩, ⟨zk BK101⟩, ⟨zk BK102⟩, ⟨zk BK103⟩, ⟨zB HB⟩⟩
     ·
      rw [if_neg c15] at H
      exact absurd H (by simp)
    ·
     rw [if_neg c14] at H
     have c14b0 : decide (x7_1 ≤ 5000) = false := decide_eq_false c14
     clear c14
     obtain rfl := Option.some.inj H
     have hnb19 := NB101_102.out
     have hnc19 := NB102_101.out
     have hnb20 := NB101_103.out
     have hnc20 := NB103_101.out
     have hz21 := zc3 BK101
     go_wp2
     go_ret
     exact ⟨by first | rfl | (simp [errW_none, errW_some] <;> rfl) | (simp [*, errW_none, errW_some] <;> rfl), zB HB⟩
   ·
    rw [if_neg c13] at H
    have c13b0 : decide (x8_1 < (l0_2.length : Int)) = false := decide_eq_false c13
    clear c13
    obtain rfl := Option.some.inj H
    have hnb22 := NB101_102.out
    have hnc22 := NB102_101.out
    have hnb23 := NB101_103.out
    have hnc23 := NB103_101.out
    have hz24 := zc3 BK101
    go_wp2
    go_ret
    exact ⟨by first | rfl | (simp [errW_none, errW_some] <;> rfl) | (simp [*, errW_none, errW_some] <;> rfl), zB HB⟩

/-! ### standstillref01_Valid: function 18 -/
mutual
def standstillref01_Valid.j0 : Nat → Bool → Int → Int → List (List (S37)) → Option (Bool)
 | 0, _, _, _, _ => none
 | k + 1, x31, x106000, x106001, x106002 => if x31 = true then (some false) else (standstillref01_Valid.l0 k 0 x106000 x106001 x106002)
def standstillref01_Valid.l0 : Nat → Int → Int → Int → List (List (S37)) → Option (Bool)
 | 0, _, _, _, _ => none
 | k + 1, x3, x106000, x106001, x106002 => if x3 < x106000 then (if 0 ≤ x3 then (if x3 < (x106002.length : Int) then (if ((rd_L2 x106002 x3).length : Int) = x106001 then (standstillref01_Valid.l1 k x3 0 x106000 x106001 x106002) else (some false)) else (none)) else (none)) else (some true)
def standstillref01_Valid.l1 : Nat → Int → Int → Int → Int → List (List (S37)) → Option (Bool)
 | 0, _, _, _, _, _ => none
 | k + 1, x3, x4, x106000, x106001, x106002 => if x4 < x106001 then (if 0 ≤ x3 then (if x3 < (x106002.length : Int) then (if 0 ≤ x4 then (if x4 < ((rd_L2 x106002 x3).length : Int) then (if ((rd_T37 (rd_L2 x106002 x3) x4).f0) < 0 then (some false) else (if ((rd_T37 (rd_L2 x106002 x3) x4).f0) ≥ x106001 then (some false) else (if ((rd_T37 (rd_L2 x106002 x3) x4).f1) = (-1) then (if ((rd_T37 (rd_L2 x106002 x3) x4).f2) < (-1) then (some false) else (if ((rd_T37 (rd_L2 x106002 x3) x4).f2) ≥ x106000 then (some false) else (standstillref01_Valid.l1 k x3 (wrap64 (x4 + 1)) x106000 x106001 x106002))) else (if ((rd_T37 (rd_L2 x106002 x3) x4).f1) = 1 then (if ((rd_T37 (rd_L2 x106002 x3) x4).f2) < (-1) then (some false) else (if ((rd_T37 (rd_L2 x106002 x3) x4).f2) ≥ x106000 then (some false) else (standstillref01_Valid.l1 k x3 (wrap64 (x4 + 1)) x106000 x106001 x106002))) else (some false))))) else (none)) else (none)) else (none)) else (none)) else (standstillref01_Valid.l0 k (wrap64 (x3 + 1)) x106000 x106001 x106002)
end
def standstillref01_Valid.f (k : Nat) (a0_0 : Int) (a0_1 : Int) (l0_2 : List (List (S37))) : Option (Bool) := if a0_0 < 1 then (standstillref01_Valid.j0 k true a0_0 a0_1 l0_2) else (if a0_0 > 6 then (standstillref01_Valid.j0 k true a0_0 a0_1 l0_2) else (if a0_1 < 2 then (standstillref01_Valid.j0 k true a0_0 a0_1 l0_2) else (if a0_1 > 4 then (standstillref01_Valid.j0 k true a0_0 a0_1 l0_2) else (standstillref01_Valid.j0 k ((l0_2.length : Int) != a0_0) a0_0 a0_1 l0_2))))
theorem standstillref01_Valid.mono_l : ∀ k, (∀ y0 y1 y2 y3, LeO (standstillref01_Valid.j0 k y0 y1 y2 y3) (standstillref01_Valid.j0 (k + 1) y0 y1 y2 y3)) ∧ (∀ y0 y1 y2 y3, LeO (standstillref01_Valid.l0 k y0 y1 y2 y3) (standstillref01_Valid.l0 (k + 1) y0 y1 y2 y3)) ∧ (∀ y0 y1 y2 y3 y4, LeO (standstillref01_Valid.l1 k y0 y1 y2 y3 y4) (standstillref01_Valid.l1 (k + 1) y0 y1 y2 y3 y4))
 | 0 => ⟨fun _ _ _ _ r h => by simp [standstillref01_Valid.j0] at h, fun _ _ _ _ r h => by simp [standstillref01_Valid.l0] at h, fun _ _ _ _ _ r h => by simp [standstillref01_Valid.l1] at h⟩
 | k + 1 => by
  obtain ⟨ih0, ih1, ih2⟩ := standstillref01_Valid.mono_l k
  refine ⟨?_, ?_, ?_⟩
  ·
   intro y0 y1 y2 y3
   unfold standstillref01_Valid.j0
   repeat' first
   | (with_reducible exact ih0 _ _ _ _)
   | (with_reducible exact ih1 _ _ _ _)
   | (with_reducible exact ih2 _ _ _ _ _)
   | (with_reducible exact LeO.refl _)
   | (with_reducible exact LeO.none _)
   | (with_reducible refine LeO.ite ?_ ?_)
   | (with_reducible refine LeO.bind ?_ (fun _ => ?_))
   | exact ih0 _ _ _ _
   | exact ih1 _ _ _ _
   | exact ih2 _ _ _ _ _
   | exact LeO.none _
   | refine LeO.ite ?_ ?_
   | refine LeO.bind ?_ (fun _ => ?_)
  ·
   intro y0 y1 y2 y3
   unfold standstillref01_Valid.l0
   repeat' first
   | (with_reducible exact ih0 _ _ _ _)
   | (with_reducible exact ih1 _ _ _ _)
   | (with_reducible exact ih2 _ _ _ _ _)
   | (with_reducible exact LeO.refl _)
   | (with_reducible exact LeO.none _)
   | (with_reducible refine LeO.ite ?_ ?_)
   | (with_reducible refine LeO.bind ?_ (fun _ => ?_))
   | exact ih0 _ _ _ _
   | exact ih1 _ _ _ _
   | exact ih2 _ _ _ _ _
   | exact LeO.none _
   | refine LeO.ite ?_ ?_
   | refine LeO.bind ?_ (fun _ => ?_)
  ·
   intro y0 y1 y2 y3 y4
   unfold standstillref01_Valid.l1
   repeat' first
   | (with_reducible exact ih0 _ _ _ _)
   | (with_reducible exact ih1 _ _ _ _)
   | (with_reducible exact ih2 _ _ _ _ _)
   | (with_reducible exact LeO.refl _)
   | (with_reducible exact LeO.none _)
   | (with_reducible refine LeO.ite ?_ ?_)
   | (with_reducible refine LeO.bind ?_ (fun _ => ?_))
   | exact ih0 _ _ _ _
   | exact ih1 _ _ _ _
   | exact ih2 _ _ _ _ _
   | exact LeO.none _
   | refine LeO.ite ?_ ?_
   | refine LeO.bind ?_ (fun _ => ?_)
theorem standstillref01_Valid.mono : ∀ a0 a1 a2 k, LeO (standstillref01_Valid.f k a0 a1 a2) (standstillref01_Valid.f (k + 1) a0 a1 a2) := by
 intro a0 a1 a2 k
 obtain ⟨ih0, ih1, ih2⟩ := standstillref01_Valid.mono_l k
 unfold standstillref01_Valid.f
 repeat' first
   | (with_reducible exact ih0 _ _ _ _)
   | (with_reducible exact ih1 _ _ _ _)
   | (with_reducible exact ih2 _ _ _ _ _)
   | (with_reducible exact LeO.refl _)
   | (with_reducible exact LeO.none _)
   | (with_reducible refine LeO.ite ?_ ?_)
   | (with_reducible refine LeO.bind ?_ (fun _ => ?_))
   | exact ih0 _ _ _ _
   | exact ih1 _ _ _ _
   | exact ih2 _ _ _ _ _
   | exact LeO.none _
   | refine LeO.ite ?_ ?_
   | refine LeO.bind ?_ (fun _ => ?_)
set_option maxHeartbeats 8000000 in
set_option maxRecDepth 100000 in
theorem standstillref01_Valid.calls (k : Nat) (a0_0 : Int) (a0_1 : Int) (A0_2 : Option Addr) (c0_2 : Nat) (l0_2 : List (List (S37))) (r : Bool) (w : World) (hr0_2 : Kd.C (Kd.slice 37 k37) w A0_2 l0_2.length l0_2) (hc0_2 : l0_2.length ≤ c0_2) (h : standstillref01_Valid.f k a0_0 a0_1 l0_2 = some r) :
  Calls Try.prog 18 #[.agg #[.int .i64 a0_0, .int .i64 a0_1, .slice A0_2 l0_2.length c0_2]] w fun e w' => e = .returned (.bool r) ∧ Below w.heap.size w w' := by
 have hu24 := Try.underlying24
 have hu37 := Try.underlying37
 have HR0_2 := Aside0.mk hr0_2
 have HC0_2 := Aside0.mk hc0_2
 clear hr0_2 hc0_2
 have HB := Aside0.mk (Below.refl w.heap.size w)
 have H : (if a0_0 < 1 then (standstillref01_Valid.j0 k true a0_0 a0_1 l0_2) else (if a0_0 > 6 then (standstillref01_Valid.j0 k true a0_0 a0_1 l0_2) else (if a0_1 < 2 then (standstillref01_Valid.j0 k true a0_0 a0_1 l0_2) else (if a0_1 > 4 then (standstillref01_Valid.j0 k true a0_0 a0_1 l0_2) else (standstillref01_Valid.j0 k ((l0_2.length : Int) != a0_0) a0_0 a0_1 l0_2))))) = some r := h
 clear h
 have HC2 := Aside0.mk H
 clear H
 go_enter Try.func18, Try.ntmps18
 go_upto_region 1 with (first | ((with_reducible refine gate_dst (N := 1) rfl ?_); (try (refine gate_guard (by rfl) ?_; dsimp only)); refine box_event ?hg (N := 1) ?hd (cs := #[.int .i64 a0_0, .int .i64 a0_1, .slice A0_2 l0_2.length c0_2]) (t := 24) ?hr ?_; (case hd => rfl); (case hg => rfl); (case hr => first | (go_simp; done) | (go_simp; rfl)); intro gb105 hg w3 hbox hb; have BK105 := Aside0.mk (hbox); have GW105 := Aside0.mk ((by rw [hg]; exact (below_size (zB HB)) : w.heap.size ≤ gb105)); have GE105 := Aside0.mk ((by rw [hg]; exact (below_size (zB HB)) : w.heap.size ≤ gb105)); replace HB := Aside0.mk (below_step (zB HB) hb); clear hb hbox hg))
 repeat (go_quiet (first | ((with_reducible refine gate_dst (N := 1) rfl ?_); (try (refine gate_guard (by rfl) ?_; dsimp only)); refine box_event ?hg (N := 1) ?hd (cs := #[.int .i64 a0_0, .int .i64 a0_1, .slice A0_2 l0_2.length c0_2]) (t := 24) ?hr ?_; (case hd => rfl); (case hg => rfl); (case hr => first | (go_simp; done) | (go_simp; rfl)); intro gb105 hg w3 hbox hb; have BK105 := Aside0.mk (hbox); have GW105 := Aside0.mk ((by rw [hg]; exact (below_size (zB HB)) : w.heap.size ≤ gb105)); have GE105 := Aside0.mk ((by rw [hg]; exact (below_size (zB HB)) : w.heap.size ≤ gb105)); replace HB := Aside0.mk (below_step (zB HB) hb); clear hb hbox hg)); go_upto_region 1 with (first | ((with_reducible refine gate_dst (N := 1) rfl ?_); (try (refine gate_guard (by rfl) ?_; dsimp only)); refine box_event ?hg (N := 1) ?hd (cs := #[.int .i64 a0_0, .int .i64 a0_1, .slice A0_2 l0_2.length c0_2]) (t := 24) ?hr ?_; (case hd => rfl); (case hg => rfl); (case hr => first | (go_simp; done) | (go_simp; rfl)); intro gb105 hg w3 hbox hb; have BK105 := Aside0.mk (hbox); have GW105 := Aside0.mk ((by rw [hg]; exact (below_size (zB HB)) : w.heap.size ≤ gb105)); have GE105 := Aside0.mk ((by rw [hg]; exact (below_size (zB HB)) : w.heap.size ≤ gb105)); replace HB := Aside0.mk (below_step (zB HB) hb); clear hb hbox hg)))
 (try simp only [Act.put, zs, zs0, zs1])
 go_cut [31] (fun v31 wc => ∃ (kq : Nat) (x31_1 : Bool), v31 = .bool x31_1 ∧ Aside0 (standstillref01_Valid.j0 kq x31_1 a0_0 a0_1 l0_2 = some r) ∧ Aside0 (kq ≤ k) ∧ Aside0 (wc.heap[gb105]? = some (.cells #[.int .i64 a0_0, .int .i64 a0_1, (.slice A0_2 l0_2.length c0_2)] 24 (0, 0))) ∧ Aside0 (Below w.heap.size w wc))
 case first =>
  have H := HC2.out
  clear HC2
  by_cases c4 : a0_0 < 1
  ·
   rw [if_pos c4] at H
   have c4b0 : decide (a0_0 < 1) = true := decide_eq_true c4
   clear c4
   (first | rw [c4b0] | (simp only [i64_w, i32_w]; rw [c4b0]) | skip)
   (try rw [c4b1])
   have H' := Aside0.mk H
   clear H
   have hz5 := zc3 BK105
   go_wp2
   repeat (go_quiet (fail); try go_wp2)
   go_meet
   case rel => exact ⟨_, (true), (by first | rfl | (simp; done) | (simp [*]; done)), H', ⟨by first | omega | exact Nat.le_refl _⟩, ⟨zk BK105⟩, ⟨zB HB⟩⟩
  ·
   rw [if_neg c4] at H
   have c4b0 : decide (a0_0 < 1) = false := decide_eq_false c4
   clear c4
   (first | rw [c4b0] | (simp only [i64_w, i32_w]; rw [c4b0]) | skip)
   (try rw [c4b1])
   by_cases c6 : a0_0 > 6
   ·
    rw [if_pos c6] at H
    have c6b0 : decide (6 < a0_0) = true := decide_eq_true c6
    clear c6
    have H' := Aside0.mk H
    clear H
    have hz7 := zc3 BK105
    go_wp2
    repeat (go_quiet (fail); try go_wp2)
    go_meet
    case rel => exact ⟨_, (true), (by first | rfl | (simp; done) | (simp [*]; done)), H', ⟨by first | omega | exact Nat.le_refl _⟩, ⟨zk BK105⟩, ⟨zB HB⟩⟩
   ·
    rw [if_neg c6] at H
    have c6b0 : decide (6 < a0_0) = false := decide_eq_false c6
    clear c6
    by_cases c8 : a0_1 < 2
    ·
     rw [if_pos c8] at H
     have c8b0 : decide (a0_1 < 2) = true := decide_eq_true c8
     clear c8
     have H' := Aside0.mk H
     clear H
     have hz9 := zc3 BK105
     go_wp2
     repeat (go_quiet (fail); try go_wp2)
     go_meet
     case rel => exact ⟨_, (true), (by first | rfl | (simp; done) | (simp [*]; done)), H', ⟨by first | omega | exact Nat.le_refl _⟩, ⟨zk BK105⟩, ⟨zB HB⟩⟩
    ·
     rw [if_neg c8] at H
     have c8b0 : decide (a0_1 < 2) = false := decide_eq_false c8
     clear c8
     by_cases c10 : a0_1 > 4
     ·
      rw [if_pos c10] at H
      have c10b0 : decide (4 < a0_1) = true := decide_eq_true c10
      clear c10
      have H' := Aside0.mk H
      clear H
      have hz11 := zc3 BK105
      go_wp2
      repeat (go_quiet (fail); try go_wp2)
      go_meet
      case rel => exact ⟨_, (true), (by first | rfl | (simp; done) | (simp [*]; done)), H', ⟨by first | omega | exact Nat.le_refl _⟩, ⟨zk BK105⟩, ⟨zB HB⟩⟩
     ·
      rw [if_neg c10] at H
      have c10b0 : decide (4 < a0_1) = false := decide_eq_false c10
      clear c10
      have H' := Aside0.mk H
      clear H
      have hz12 := zc3 BK105
      go_wp2
      repeat (go_quiet (fail); try go_wp2)
      go_meet
      case rel => exact ⟨_, (((l0_2.length : Int) != a0_0)), (by first | rfl | (simp; done) | (simp [*]; done)), H', ⟨by first | omega | exact Nat.le_refl _⟩, ⟨zk BK105⟩, ⟨zB HB⟩⟩
 case rest =>
  clear HC2
  try clear c1
  try clear p2
  try clear c4
  try clear c4b0
  try clear c4b1
  try clear c6
  try clear c6b0
  try clear c8
  try clear c8b0
  try clear c10
  try clear c10b0
  try clear hz11
  try clear hz12
  try clear hz5
  try clear hz7
  try clear hz9
  obtain ⟨kq, x31_1, rfl, HA, HJ1, BK105, HB⟩ := hcut
  cases kq with
  | zero => exact absurd HA.out (by simp [standstillref01_Valid.j0])
  | succ kj1 =>
   have H := HA.out
   clear HA
   simp only [standstillref01_Valid.j0] at H
   by_cases c13 : x31_1 = true
   ·
    subst c13
    have H1 : (some false) = some r := by rw [if_pos rfl] at H; exact H
    clear H
    have H := H1
    clear H1
    obtain rfl := Option.some.inj H
    go_wp2
    repeat (go_quiet (fail); try go_wp2)
    go_ret
    exact ⟨by first | rfl | (simp [errW_none, errW_some] <;> rfl) | (simp [*, errW_none, errW_some] <;> rfl), zB HB⟩
   ·
    replace c13 := Bool.eq_false_iff.mpr c13
    subst c13
    have H1 : (standstillref01_Valid.l0 kj1 0 a0_0 a0_1 l0_2) = some r := by rw [if_neg (show ¬ (false = true) by decide)] at H; exact H
    clear H
    have H := H1
    clear H1
    have H' := Aside0.mk H
    clear H
    go_wp2
    repeat (go_quiet (fail); try go_wp2)
    go_loopg [3] kj1 (fun kq v3 w' => ∃ (x3_2 : Int), v3 = .int .i64 x3_2 ∧ Aside0 (standstillref01_Valid.l0 kq x3_2 a0_0 a0_1 l0_2 = some r) ∧ Aside0 (kq ≤ kj1) ∧ Aside0 (w'.heap[gb105]? = some (.cells #[.int .i64 a0_0, .int .i64 a0_1, (.slice A0_2 l0_2.length c0_2)] 24 (0, 0))) ∧ Aside0 (Below w.heap.size w w'))
    case atStart => exact ⟨(0), (by first | rfl | (simp; done) | (simp [*]; done)), H', ⟨Nat.le_refl _⟩, ⟨zk BK105⟩, ⟨zB HB⟩⟩
    case round =>
     clear H'
     try clear c1
     try clear p2
     try clear c4
     try clear c4b0
     try clear c4b1
     try clear c6
     try clear c6b0
     try clear c8
     try clear c8b0
     try clear c10
     try clear c10b0
     try clear c13
     try clear hz11
     try clear hz12
     try clear hz5
     try clear hz7
     try clear hz9
     try clear p2
     obtain ⟨x3_2, rfl, HA, HK2, BK105, HB⟩ := hrel
     cases gk with
     | zero => exact absurd HA.out (by simp [standstillref01_Valid.l0])
     | succ k2 =>
      have H := HA.out
      clear HA
      simp only [standstillref01_Valid.l0] at H
      by_cases c14 : x3_2 < a0_0
      ·
       rw [if_pos c14] at H
       have c14b0 : decide (x3_2 < a0_0) = true := decide_eq_true c14
       clear c14
       by_cases c15 : 0 ≤ x3_2
       ·
        rw [if_pos c15] at H
        have c15b0 : decide (0 ≤ x3_2) = true := decide_eq_true c15
        clear c15
        by_cases c16 : x3_2 < (l0_2.length : Int)
        ·
         rw [if_pos c16] at H
         have c16b0 : decide (x3_2 < (l0_2.length : Int)) = true := decide_eq_true c16
         clear c16
         by_cases c17 : ((rd_L2 l0_2 x3_2).length : Int) = a0_1
         ·
          rw [if_pos c17] at H
          have c17b0 : (((rd_L2 l0_2 x3_2).length : Int) == a0_1) = true := beq_iff_eq.mpr c17
          have c17b1 : (((rd_L2 l0_2 x3_2).length : Int) != a0_1) = false := bne_eq_false_iff_eq.mpr c17
          clear c17
          have H' := Aside0.mk H
          clear H
          have hz18 := zc3 BK105
          have p106 : 0 ≤ (x3_2 : Int) := of_decide_eq_true (by first | (with_reducible assumption) | assumption)
          have q106 : x3_2 < (l0_2.length : Int) := of_decide_eq_true (by first | (with_reducible assumption) | assumption)
          obtain ⟨ad106, A106_0, c106_0, e106, hx106_0, hl106_0, hi106_0⟩ := at_L2 HR0_2.out x3_2 p106 q106
          cases e106
          replace hx106_0 := (HB.out.cell (World.block_lt_of_cell? w _ hx106_0)).trans hx106_0
          have HR106_0 := Aside0.mk hi106_0
          have HC106_0 := Aside0.mk hl106_0
          clear hi106_0 hl106_0
          replace p106 := eq_true p106
          replace q106 := eq_true q106
          go_wp2
          repeat (go_quiet (fail); try go_wp2)
          go_loopg [4] k2 (fun kq v4 w' => ∃ (x4_3 : Int), v4 = .int .i64 x4_3 ∧ Aside0 (standstillref01_Valid.l1 kq x3_2 x4_3 a0_0 a0_1 l0_2 = some r) ∧ Aside0 (kq ≤ k2) ∧ Aside0 (w'.heap[gb105]? = some (.cells #[.int .i64 a0_0, .int .i64 a0_1, (.slice (some ad106) l0_2.length c0_2)] 24 (0, 0))) ∧ Aside0 (Below w.heap.size w w'))
          case atStart => exact ⟨(0), (by first | rfl | (simp; done) | (simp [*]; done)), H', ⟨Nat.le_refl _⟩, ⟨zk BK105⟩, ⟨zB HB⟩⟩
          case round =>
           clear H'
           try clear c1
           try clear p1
           try clear q1
           try clear hx1
           try clear p2
           try clear c4
           try clear c4b0
           try clear c4b1
           try clear c6
           try clear c6b0
           try clear c8
           try clear c8b0
           try clear c10
           try clear c10b0
           try clear p10
           try clear q10
           try clear hx10
           try clear c13
           try clear c14
           try clear c14b0
           try clear c15
           try clear c15b0
           try clear c16
           try clear c16b0
           try clear c17
           try clear c17b0
           try clear c17b1
           try clear c18
           try clear hz11
           try clear hz12
           try clear hz18
           try clear hz5
           try clear hz7
           try clear hz9
           try clear hx106_0
           try clear p106
           try clear p2
           try clear q106
           obtain ⟨x4_3, rfl, HA, HK3, BK105, HB⟩ := hrel
           cases gk with
           | zero => exact absurd HA.out (by simp [standstillref01_Valid.l1])
           | succ k3 =>
            have H := HA.out
            clear HA
            simp only [standstillref01_Valid.l1] at H
            by_cases c19 : x4_3 < a0_1
            ·
             rw [if_pos c19] at H
             have c19b0 : decide (x4_3 < a0_1) = true := decide_eq_true c19
             clear c19
             by_cases c20 : 0 ≤ x3_2
             ·
              rw [if_pos c20] at H
              have c20b0 : decide (0 ≤ x3_2) = true := decide_eq_true c20
              clear c20
              by_cases c21 : x3_2 < (l0_2.length : Int)
              ·
               rw [if_pos c21] at H
               have c21b0 : decide (x3_2 < (l0_2.length : Int)) = true := decide_eq_true c21
               clear c21
               by_cases c22 : 0 ≤ x4_3
               ·
                rw [if_pos c22] at H
                have c22b0 : decide (0 ≤ x4_3) = true := decide_eq_true c22
                clear c22
                by_cases c23 : x4_3 < ((rd_L2 l0_2 x3_2).length : Int)
                ·
                 rw [if_pos c23] at H
                 have c23b0 : decide (x4_3 < ((rd_L2 l0_2 x3_2).length : Int)) = true := decide_eq_true c23
                 clear c23
                 have HC24 := Aside0.mk H
                 clear H
                 have hz25 := zc3 BK105
                 have p107 : 0 ≤ (x3_2 : Int) := of_decide_eq_true (by first | (with_reducible assumption) | assumption)
                 have q107 : x3_2 < (l0_2.length : Int) := of_decide_eq_true (by first | (with_reducible assumption) | assumption)
                 obtain ⟨ad107, A107_0, c107_0, e107, hx107_0, hl107_0, hi107_0⟩ := at_L2 HR0_2.out x3_2 p107 q107
                 obtain rfl : ad106 = ad107 := (by injection e107)
                 replace hx107_0 := (HB.out.cell (World.block_lt_of_cell? w _ hx107_0)).trans hx107_0
                 have HR107_0 := Aside0.mk hi107_0
                 have HC107_0 := Aside0.mk hl107_0
                 clear hi107_0 hl107_0
                 replace p107 := eq_true p107
                 replace q107 := eq_true q107
                 have p108 : 0 ≤ (x4_3 : Int) := of_decide_eq_true (by first | (with_reducible assumption) | assumption)
                 have q108 : x4_3 < ((rd_L2 l0_2 x3_2).length : Int) := of_decide_eq_true (by first | (with_reducible assumption) | assumption)
                 obtain ⟨ad108, e108, hx108_0, hx108_1, hx108_2⟩ := at_T37 HR107_0.out x4_3 p108 q108
                 cases e108
                 replace hx108_0 := (HB.out.cell (World.block_lt_of_cell? w _ hx108_0)).trans hx108_0
                 replace hx108_1 := (HB.out.cell (World.block_lt_of_cell? w _ hx108_1)).trans hx108_1
                 replace hx108_2 := (HB.out.cell (World.block_lt_of_cell? w _ hx108_2)).trans hx108_2
                 replace p108 := eq_true p108
                 replace q108 := eq_true q108
                 go_upto_region 12 with (first | ((with_reducible refine gate_dst (N := 5) rfl ?_); (try (refine gate_guard (by rfl) ?_; dsimp only)); refine box_event ?hg (N := 5) ?hd (cs := #[.int .i64 0, .int .i64 0, .int .i64 0]) (t := 37) ?hr ?_; (case hd => rfl); (case hg => rfl); (case hr => first | (go_simp; done) | (go_simp; rfl)); intro gb109 hg w26 hbox hb; have BK109 := Aside0.mk (hbox); have GW109 := Aside0.mk ((by rw [hg]; exact (below_size (zB HB)) : w.heap.size ≤ gb109)); have GE109 := Aside0.mk ((by rw [hg]; exact (below_size (zB HB)) : w.heap.size ≤ gb109)); have NB105_109 := Aside0.mk ((by rw [hg]; exact Nat.ne_of_lt (zL BK105) : gb105 ≠ gb109)); have NB109_105 := Aside0.mk ((by rw [hg]; exact Nat.ne_of_gt (zL BK105) : gb109 ≠ gb105)); replace BK105 := Aside0.mk (zb BK105 hb); replace HB := Aside0.mk (below_step (zB HB) hb); clear hb hbox hg; have hnb27 := NB109_105.out; have hnc27 := NB105_109.out; have hz28 := zc3 BK109) | ((with_reducible refine gate_store (t := 37) (p := 5) rfl ?_); (try (rw [drewN_self w26]; generalize hq_ : World.drewN w26 _ = w26; have n0_ := Aside0.mk (blk_at hq_ BK105.out); have n1_ := Aside0.mk (blk_at hq_ BK109.out); have n2_ := Aside0.mk (below_at hq_ HB.out); clear hq_ BK105 BK109 HB; have BK105 := n0_; have BK109 := n1_; have HB := n2_; clear n0_ n1_ n2_)); refine store_event (t := 37) (p := 5) (v := ?vo_w29) (w1 := (((w26.setCell ⟨gb109, 0, none⟩ (.int .i64 ((rd_T37 (rd_L2 l0_2 x3_2) x4_3).f0))).setCell ⟨gb109, 1, none⟩ (.int .i64 ((rd_T37 (rd_L2 l0_2 x3_2) x4_3).f1))).setCell ⟨gb109, 2, none⟩ (.int .i64 ((rd_T37 (rd_L2 l0_2 x3_2) x4_3).f2)))) ?hg ?ho ?hn ?hr ?_; (case ho => rfl); (case hg => rfl); (case hn => rfl); (case hr => first | (go_simp; done) | (go_simp; rfl)); intro w29 hw; have n0_ : Aside0 (w29.heap[gb105]? = some (.cells #[.int .i64 a0_0, .int .i64 a0_1, .slice (some ad106) l0_2.length c0_2] 24 (0, 0))) := ⟨(by rw [hw]; exact (zK BK105))⟩; have n1_ : Aside0 (w29.heap[gb109]? = some (.cells #[.int .i64 ((rd_T37 (rd_L2 l0_2 x3_2) x4_3).f0), .int .i64 ((rd_T37 (rd_L2 l0_2 x3_2) x4_3).f1), .int .i64 ((rd_T37 (rd_L2 l0_2 x3_2) x4_3).f2)] 37 (0, 0))) := ⟨(by rw [hw]; exact (by (with_reducible repeat (first | refine blk_drewN ?_ _ | refine blk_drew ?_ | refine blk_alloc ?_ _)); refine blk_put (cs := #[.int .i64 ((rd_T37 (rd_L2 l0_2 x3_2) x4_3).f0), .int .i64 ((rd_T37 (rd_L2 l0_2 x3_2) x4_3).f1), .int .i64 0]) ?_ 2 _ rfl; (with_reducible repeat (first | refine blk_drewN ?_ _ | refine blk_drew ?_ | refine blk_alloc ?_ _)); refine blk_put (cs := #[.int .i64 ((rd_T37 (rd_L2 l0_2 x3_2) x4_3).f0), .int .i64 0, .int .i64 0]) ?_ 1 _ rfl; (with_reducible repeat (first | refine blk_drewN ?_ _ | refine blk_drew ?_ | refine blk_alloc ?_ _)); refine blk_put (cs := #[.int .i64 0, .int .i64 0, .int .i64 0]) ?_ 0 _ rfl; (with_reducible repeat (first | refine blk_drewN ?_ _ | refine blk_drew ?_ | refine blk_alloc ?_ _)); exact BK109.out))⟩; have n2_ : Aside0 (Below w.heap.size w w29) := ⟨(by rw [hw]; exact (zB HB))⟩; clear hw; clear BK105; clear BK109; clear HB; have BK105 := n0_; have BK109 := n1_; have HB := n2_; clear n0_ n1_ n2_))
                 repeat (go_quiet (first | ((with_reducible refine gate_dst (N := 5) rfl ?_); (try (refine gate_guard (by rfl) ?_; dsimp only)); refine box_event ?hg (N := 5) ?hd (cs := #[.int .i64 0, .int .i64 0, .int .i64 0]) (t := 37) ?hr ?_; (case hd => rfl); (case hg => rfl); (case hr => first | (go_simp; done) | (go_simp; rfl)); intro gb109 hg w26 hbox hb; have BK109 := Aside0.mk (hbox); have GW109 := Aside0.mk ((by rw [hg]; exact (below_size (zB HB)) : w.heap.size ≤ gb109)); have GE109 := Aside0.mk ((by rw [hg]; exact (below_size (zB HB)) : w.heap.size ≤ gb109)); have NB105_109 := Aside0.mk ((by rw [hg]; exact Nat.ne_of_lt (zL BK105) : gb105 ≠ gb109)); have NB109_105 := Aside0.mk ((by rw [hg]; exact Nat.ne_of_gt (zL BK105) : gb109 ≠ gb105)); replace BK105 := Aside0.mk (zb BK105 hb); replace HB := Aside0.mk (below_step (zB HB) hb); clear hb hbox hg; have hnb27 := NB109_105.out; have hnc27 := NB105_109.out; have hz28 := zc3 BK109) | ((with_reducible refine gate_store (t := 37) (p := 5) rfl ?_); (try (rw [drewN_self w26]; generalize hq_ : World.drewN w26 _ = w26; have n0_ := Aside0.mk (blk_at hq_ BK105.out); have n1_ := Aside0.mk (blk_at hq_ BK109.out); have n2_ := Aside0.mk (below_at hq_ HB.out); clear hq_ BK105 BK109 HB; have BK105 := n0_; have BK109 := n1_; have HB := n2_; clear n0_ n1_ n2_)); refine store_event (t := 37) (p := 5) (v := ?vo_w29) (w1 := (((w26.setCell ⟨gb109, 0, none⟩ (.int .i64 ((rd_T37 (rd_L2 l0_2 x3_2) x4_3).f0))).setCell ⟨gb109, 1, none⟩ (.int .i64 ((rd_T37 (rd_L2 l0_2 x3_2) x4_3).f1))).setCell ⟨gb109, 2, none⟩ (.int .i64 ((rd_T37 (rd_L2 l0_2 x3_2) x4_3).f2)))) ?hg ?ho ?hn ?hr ?_; (case ho => rfl); (case hg => rfl); (case hn => rfl); (case hr => first | (go_simp; done) | (go_simp; rfl)); intro w29 hw; have n0_ : Aside0 (w29.heap[gb105]? = some (.cells #[.int .i64 a0_0, .int .i64 a0_1, .slice (some ad106) l0_2.length c0_2] 24 (0, 0))) := ⟨(by rw [hw]; exact (zK BK105))⟩; have n1_ : Aside0 (w29.heap[gb109]? = some (.cells #[.int .i64 ((rd_T37 (rd_L2 l0_2 x3_2) x4_3).f0), .int .i64 ((rd_T37 (rd_L2 l0_2 x3_2) x4_3).f1), .int .i64 ((rd_T37 (rd_L2 l0_2 x3_2) x4_3).f2)] 37 (0, 0))) := ⟨(by rw [hw]; exact (by (with_reducible repeat (first | refine blk_drewN ?_ _ | refine blk_drew ?_ | refine blk_alloc ?_ _)); refine blk_put (cs := #[.int .i64 ((rd_T37 (rd_L2 l0_2 x3_2) x4_3).f0), .int .i64 ((rd_T37 (rd_L2 l0_2 x3_2) x4_3).f1), .int .i64 0]) ?_ 2 _ rfl; (with_reducible repeat (first | refine blk_drewN ?_ _ | refine blk_drew ?_ | refine blk_alloc ?_ _)); refine blk_put (cs := #[.int .i64 ((rd_T37 (rd_L2 l0_2 x3_2) x4_3).f0), .int .i64 0, .int .i64 0]) ?_ 1 _ rfl; (with_reducible repeat (first | refine blk_drewN ?_ _ | refine blk_drew ?_ | refine blk_alloc ?_ _)); refine blk_put (cs := #[.int .i64 0, .int .i64 0, .int .i64 0]) ?_ 0 _ rfl; (with_reducible repeat (first | refine blk_drewN ?_ _ | refine blk_drew ?_ | refine blk_alloc ?_ _)); exact BK109.out))⟩; have n2_ : Aside0 (Below w.heap.size w w29) := ⟨(by rw [hw]; exact (zB HB))⟩; clear hw; clear BK105; clear BK109; clear HB; have BK105 := n0_; have BK109 := n1_; have HB := n2_; clear n0_ n1_ n2_)); go_upto_region 12 with (first | ((with_reducible refine gate_dst (N := 5) rfl ?_); (try (refine gate_guard (by rfl) ?_; dsimp only)); refine box_event ?hg (N := 5) ?hd (cs := #[.int .i64 0, .int .i64 0, .int .i64 0]) (t := 37) ?hr ?_; (case hd => rfl); (case hg => rfl); (case hr => first | (go_simp; done) | (go_simp; rfl)); intro gb109 hg w26 hbox hb; have BK109 := Aside0.mk (hbox); have GW109 := Aside0.mk ((by rw [hg]; exact (below_size (zB HB)) : w.heap.size ≤ gb109)); have GE109 := Aside0.mk ((by rw [hg]; exact (below_size (zB HB)) : w.heap.size ≤ gb109)); have NB105_109 := Aside0.mk ((by rw [hg]; exact Nat.ne_of_lt (zL BK105) : gb105 ≠ gb109)); have NB109_105 := Aside0.mk ((by rw [hg]; exact Nat.ne_of_gt (zL BK105) : gb109 ≠ gb105)); replace BK105 := Aside0.mk (zb BK105 hb); replace HB := Aside0.mk (below_step (zB HB) hb); clear hb hbox hg; have hnb27 := NB109_105.out; have hnc27 := NB105_109.out; have hz28 := zc3 BK109) | ((with_reducible refine gate_store (t := 37) (p := 5) rfl ?_); (try (rw [drewN_self w26]; generalize hq_ : World.drewN w26 _ = w26; have n0_ := Aside0.mk (blk_at hq_ BK105.out); have n1_ := Aside0.mk (blk_at hq_ BK109.out); have n2_ := Aside0.mk (below_at hq_ HB.out); clear hq_ BK105 BK109 HB; have BK105 := n0_; have BK109 := n1_; have HB := n2_; clear n0_ n1_ n2_)); refine store_event (t := 37) (p := 5) (v := ?vo_w29) (w1 := (((w26.setCell ⟨gb109, 0, none⟩ (.int .i64 ((rd_T37 (rd_L2 l0_2 x3_2) x4_3).f0))).setCell ⟨gb109, 1, none⟩ (.int .i64 ((rd_T37 (rd_L2 l0_2 x3_2) x4_3).f1))).setCell ⟨gb109, 2, none⟩ (.int .i64 ((rd_T37 (rd_L2 l0_2 x3_2) x4_3).f2)))) ?hg ?ho ?hn ?hr ?_; (case ho => rfl); (case hg => rfl); (case hn => rfl); (case hr => first | (go_simp; done) | (go_simp; rfl)); intro w29 hw; have n0_ : Aside0 (w29.heap[gb105]? = some (.cells #[.int .i64 a0_0, .int .i64 a0_1, .slice (some ad106) l0_2.length c0_2] 24 (0, 0))) := ⟨(by rw [hw]; exact (zK BK105))⟩; have n1_ : Aside0 (w29.heap[gb109]? = some (.cells #[.int .i64 ((rd_T37 (rd_L2 l0_2 x3_2) x4_3).f0), .int .i64 ((rd_T37 (rd_L2 l0_2 x3_2) x4_3).f1), .int .i64 ((rd_T37 (rd_L2 l0_2 x3_2) x4_3).f2)] 37 (0, 0))) := ⟨(by rw [hw]; exact (by (with_reducible repeat (first | refine blk_drewN ?_ _ | refine blk_drew ?_ | refine blk_alloc ?_ _)); refine blk_put (cs := #[.int .i64 ((rd_T37 (rd_L2 l0_2 x3_2) x4_3).f0), .int .i64 ((rd_T37 (rd_L2 l0_2 x3_2) x4_3).f1), .int .i64 0]) ?_ 2 _ rfl; (with_reducible repeat (first | refine blk_drewN ?_ _ | refine blk_drew ?_ | refine blk_alloc ?_ _)); refine blk_put (cs := #[.int .i64 ((rd_T37 (rd_L2 l0_2 x3_2) x4_3).f0), .int .i64 0, .int .i64 0]) ?_ 1 _ rfl; (with_reducible repeat (first | refine blk_drewN ?_ _ | refine blk_drew ?_ | refine blk_alloc ?_ _)); refine blk_put (cs := #[.int .i64 0, .int .i64 0, .int .i64 0]) ?_ 0 _ rfl; (with_reducible repeat (first | refine blk_drewN ?_ _ | refine blk_drew ?_ | refine blk_alloc ?_ _)); exact BK109.out))⟩; have n2_ : Aside0 (Below w.heap.size w w29) := ⟨(by rw [hw]; exact (zB HB))⟩; clear hw; clear BK105; clear BK109; clear HB; have BK105 := n0_; have BK109 := n1_; have HB := n2_; clear n0_ n1_ n2_)))
                 (try simp only [Act.put, zs, zs0, zs1])
                 have H := HC24.out
                 clear HC24
                 by_cases c30 : ((rd_T37 (rd_L2 l0_2 x3_2) x4_3).f0) < 0
                 ·
                  rw [if_pos c30] at H
                  have c30b0 : decide (((rd_T37 (rd_L2 l0_2 x3_2) x4_3).f0) < 0) = true := decide_eq_true c30
                  clear c30
                  (first | rw [c30b0] | (simp only [i64_w, i32_w]; rw [c30b0]) | skip)
                  (try rw [c30b1])
                  obtain rfl := Option.some.inj H
                  have hnb31 := NB109_105.out
                  have hnc31 := NB105_109.out
                  have hz32 := zc3 BK109
                  go_wp2
                  repeat (go_quiet (fail); try go_wp2)
                  go_ret
                  exact ⟨by first | rfl | (simp [errW_none, errW_some] <;> rfl) | (simp [*, errW_none, errW_some] <;> rfl), zB HB⟩
                 ·
                  rw [if_neg c30] at H
                  have c30b0 : decide (((rd_T37 (rd_L2 l0_2 x3_2) x4_3).f0) < 0) = false := decide_eq_false c30
                  clear c30
                  (first | rw [c30b0] | (simp only [i64_w, i32_w]; rw [c30b0]) | skip)
                  (try rw [c30b1])
                  by_cases c33 : ((rd_T37 (rd_L2 l0_2 x3_2) x4_3).f0) ≥ a0_1
                  ·
                   rw [if_pos c33] at H
                   have c33b0 : decide (a0_1 ≤ ((rd_T37 (rd_L2 l0_2 x3_2) x4_3).f0)) = true := decide_eq_true c33
                   clear c33
                   obtain rfl := Option.some.inj H
                   have hnb34 := NB109_105.out
                   have hnc34 := NB105_109.out
                   have hz35 := zc3 BK109
                   have hz36 := zc3 BK105
                   go_wp2
                   repeat (go_quiet (fail); try go_wp2)
                   go_ret
                   exact ⟨by first | rfl | (simp [errW_none, errW_some] <;> rfl) | (simp [*, errW_none, errW_some] <;> rfl), zB HB⟩
                  ·
                   rw [if_neg c33] at H
                   have c33b0 : decide (a0_1 ≤ ((rd_T37 (rd_L2 l0_2 x3_2) x4_3).f0)) = false := decide_eq_false c33
                   clear c33
                   by_cases c37 : ((rd_T37 (rd_L2 l0_2 x3_2) x4_3).f1) = (-1)
                   ·
                    rw [if_pos c37] at H
                    have c37b0 : (((rd_T37 (rd_L2 l0_2 x3_2) x4_3).f1) == (-1)) = true := beq_iff_eq.mpr c37
                    have c37b1 : (((rd_T37 (rd_L2 l0_2 x3_2) x4_3).f1) != (-1)) = false := bne_eq_false_iff_eq.mpr c37
                    clear c37
                    by_cases c38 : ((rd_T37 (rd_L2 l0_2 x3_2) x4_3).f2) < (-1)
                    ·
                     rw [if_pos c38] at H
                     have c38b0 : decide (((rd_T37 (rd_L2 l0_2 x3_2) x4_3).f2) < (-1)) = true := decide_eq_true c38
                     clear c38
                     obtain rfl := Option.some.inj H
                     have hnb39 := NB109_105.out
                     have hnc39 := NB105_109.out
                     have hz40 := zc3 BK109
                     have hz41 := zc3 BK105
                     go_wp2
                     repeat (go_quiet (fail); try go_wp2)
                     go_ret
                     exact ⟨by first | rfl | (simp [errW_none, errW_some] <;> rfl) | (simp [*, errW_none, errW_some] <;> rfl), zB HB⟩
                    ·
                     rw [if_neg c38] at H
                     have c38b0 : decide (((rd_T37 (rd_L2 l0_2 x3_2) x4_3).f2) < (-1)) = false := decide_eq_false c38
                     clear c38
                     by_cases c42 : ((rd_T37 (rd_L2 l0_2 x3_2) x4_3).f2) ≥ a0_0
                     ·
                      rw [if_pos c42] at H
                      have c42b0 : decide (a0_0 ≤ ((rd_T37 (rd_L2 l0_2 x3_2) x4_3).f2)) = true := decide_eq_true c42
                      clear c42
                      obtain rfl := Option.some.inj H
                      have hnb43 := NB109_105.out
                      have hnc43 := NB105_109.out
                      have hz44 := zc3 BK109
                      have hz45 := zc3 BK105
                      go_wp2
                      repeat (go_quiet (fail); try go_wp2)
                      go_ret
                      exact ⟨by first | rfl | (simp [errW_none, errW_some] <;> rfl) | (simp [*, errW_none, errW_some] <;> rfl), zB HB⟩
                     ·
                      rw [if_neg c42] at H
                      have c42b0 : decide (a0_0 ≤ ((rd_T37 (rd_L2 l0_2 x3_2) x4_3).f2)) = false := decide_eq_false c42
                      clear c42
                      have H' := Aside0.mk H
                      clear H
                      have hnb46 := NB109_105.out
                      have hnc46 := NB105_109.out
                      have hz47 := zc3 BK109
                      have hz48 := zc3 BK105
                      go_wp2
                      repeat (go_quiet (fail); try go_wp2)
                      go_roundg k3
                      case measure => have := HJ1.out; have := HK2.out; have := HK3.out; omega
                      case rel => exact ⟨(wrap64 (x4_3 + 1)), (by first | rfl | (simp; done) | (simp [*]; done)), H', ⟨by have := HJ1.out; have := HK2.out; have := HK3.out; omega⟩, ⟨zk BK105⟩, ⟨zB HB⟩⟩
                   ·
                    rw [if_neg c37] at H
                    have c37b0 : (((rd_T37 (rd_L2 l0_2 x3_2) x4_3).f1) == (-1)) = false := beq_eq_false_iff_ne.mpr c37
                    have c37b1 : (((rd_T37 (rd_L2 l0_2 x3_2) x4_3).f1) != (-1)) = true := bne_iff_ne.mpr c37
                    by_cases c49 : ((rd_T37 (rd_L2 l0_2 x3_2) x4_3).f1) = 1
                    ·
                     rw [if_pos c49] at H
                     have c49b0 : (((rd_T37 (rd_L2 l0_2 x3_2) x4_3).f1) == 1) = true := beq_iff_eq.mpr c49
                     have c49b1 : (((rd_T37 (rd_L2 l0_2 x3_2) x4_3).f1) != 1) = false := bne_eq_false_iff_eq.mpr c49
                     clear c49
                     by_cases c50 : ((rd_T37 (rd_L2 l0_2 x3_2) x4_3).f2) < (-1)
                     ·
                      rw [if_pos c50] at H
                      have c50b0 : decide (((rd_T37 (rd_L2 l0_2 x3_2) x4_3).f2) < (-1)) = true := decide_eq_true c50
                      clear c50
                      obtain rfl := Option.some.inj H
                      have hnb51 := NB109_105.out
                      have hnc51 := NB105_109.out
                      have hz52 := zc3 BK109
                      have hz53 := zc3 BK105
                      go_wp2
                      repeat (go_quiet (fail); try go_wp2)
                      go_ret
                      exact ⟨by first | rfl | (simp [errW_none, errW_some] <;> rfl) | (simp [*, errW_none, errW_some] <;> rfl), zB HB⟩
                     ·
                      rw [if_neg c50] at H
                      have c50b0 : decide (((rd_T37 (rd_L2 l0_2 x3_2) x4_3).f2) < (-1)) = false := decide_eq_false c50
                      clear c50
                      by_cases c54 : ((rd_T37 (rd_L2 l0_2 x3_2) x4_3).f2) ≥ a0_0
                      ·
                       rw [if_pos c54] at H
                       have c54b0 : decide (a0_0 ≤ ((rd_T37 (rd_L2 l0_2 x3_2) x4_3).f2)) = true := decide_eq_true c54
                       clear c54
                       obtain rfl := Option.some.inj H
                       have hnb55 := NB109_105.out
                       have hnc55 := NB105_109.out
                       have hz56 := zc3 BK109
                       have hz57 := zc3 BK105
                       go_wp2
                       repeat (go_quiet (fail); try go_wp2)
                       go_ret
                       exact ⟨by first | rfl | (simp [errW_none, errW_some] <;> rfl) | (simp [*, errW_none, errW_some] <;> rfl), zB HB⟩
                      ·
                       rw [if_neg c54] at H
                       have c54b0 : decide (a0_0 ≤ ((rd_T37 (rd_L2 l0_2 x3_2) x4_3).f2)) = false := decide_eq_false c54
                       clear c54
                       have H' := Aside0.mk H
                       clear H
                       have hnb58 := NB109_105.out
                       have hnc58 := NB105_109.out
                       have hz59 := zc3 BK109
                       have hz60 := zc3 BK105
                       go_wp2
                       repeat (go_quiet (fail); try go_wp2)
                       go_roundg k3
                       case measure => have := HJ1.out; have := HK2.out; have := HK3.out; omega
                       case rel => exact ⟨(wrap64 (x4_3 + 1)), (by first | rfl | (simp; done) | (simp [*]; done)), H', ⟨by have := HJ1.out; have := HK2.out; have := HK3.out; omega⟩, ⟨zk BK105⟩, ⟨zB HB⟩⟩
                    ·
                     rw [if_neg c49] at H
                     have c49b0 : (((rd_T37 (rd_L2 l0_2 x3_2) x4_3).f1) == 1) = false := beq_eq_false_iff_ne.mpr c49
                     have c49b1 : (((rd_T37 (rd_L2 l0_2 x3_2) x4_3).f1) != 1) = true := bne_iff_ne.mpr c49
                     obtain rfl := Option.some.inj H
                     have hnb61 := NB109_105.out
                     have hnc61 := NB105_109.out
                     have hz62 := zc3 BK109
                     have hz63 := zc3 BK105
                     go_wp2
                     repeat (go_quiet (fail); try go_wp2)
                     go_ret
                     exact ⟨by first | rfl | (simp [errW_none, errW_some] <;> rfl) | (simp [*, errW_none, errW_some] <;> rfl), zB HB⟩
                ·
                 rw [if_neg c23] at H
                 exact absurd H (by simp)
               ·
                rw [if_neg c22] at H
                exact absurd H (by simp)
              ·
               rw [if_neg c21] at H
               exact absurd H (by simp)
             ·
              rw [if_neg c20] at H
              exact absurd H (by simp)
            ·
             rw [if_neg c19] at H
             have c19b0 : decide (x4_3 < a0_1) = false := decide_eq_false c19
             clear c19
             have H' := Aside0.mk H
             clear H
             have hz64 := zc3 BK105
             go_wp2
             repeat (go_quiet (fail); try go_wp2)
             go_roundg k3
             case measure => have := HJ1.out; have := HK2.out; have := HK3.out; omega
             case rel => exact ⟨(wrap64 (x3_2 + 1)), (by first | rfl | (simp; done) | (simp [*]; done)), H', ⟨by have := HJ1.out; have := HK2.out; have := HK3.out; omega⟩, ⟨zk BK105⟩, ⟨zB HB⟩⟩
         ·
          rw [if_neg c17] at H
          have c17b0 : (((rd_L2 l0_2 x3_2).length : Int) == a0_1) = false := beq_eq_false_iff_ne.mpr c17
          have c17b1 : (((rd_L2 l0_2 x3_2).length : Int) != a0_1) = true := bne_iff_ne.mpr c17
          obtain rfl := Option.some.inj H
          have hz65 := zc3 BK105
          have p106 : 0 ≤ (x3_2 : Int) := of_decide_eq_true (by first | (with_reducible assumption) | assumption)
          have q106 : x3_2 < (l0_2.length : Int) := of_decide_eq_true (by first | (with_reducible assumption) | assumption)
          obtain ⟨ad106, A106_0, c106_0, e106, hx106_0, hl106_0, hi106_0⟩ := at_L2 HR0_2.out x3_2 p106 q106
          cases e106
          replace hx106_0 := (HB.out.cell (World.block_lt_of_cell? w _ hx106_0)).trans hx106_0
          have HR106_0 := Aside0.mk hi106_0
          have HC106_0 := Aside0.mk hl106_0
          clear hi106_0 hl106_0
          replace p106 := eq_true p106
          replace q106 := eq_true q106
          go_wp2
          repeat (go_quiet (fail); try go_wp2)
          go_ret
          exact ⟨by first | rfl | (simp [errW_none, errW_some] <;> rfl) | (simp [*, errW_none, errW_some] <;> rfl), zB HB⟩
        ·
         rw [if_neg c16] at H
         exact absurd H (by simp)
       ·
        rw [if_neg c15] at H
        exact absurd H (by simp)
      ·
       rw [if_neg c14] at H
       have c14b0 : decide (x3_2 < a0_0) = false := decide_eq_false c14
       clear c14
       obtain rfl := Option.some.inj H
       have hz66 := zc3 BK105
       go_wp2
       repeat (go_quiet (fail); try go_wp2)
       go_ret
       exact ⟨by first | rfl | (simp [errW_none, errW_some] <;> rfl) | (simp [*, errW_none, errW_some] <;> rfl), zB HB⟩

end Go.Proofs.Ytpemcbjdlpajlaa.G1
