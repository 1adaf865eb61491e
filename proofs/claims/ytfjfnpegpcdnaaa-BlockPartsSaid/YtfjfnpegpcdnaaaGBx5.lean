/- The functions of one seat as Lean functions, each with its contract: the call of the Go function returns what the Lean function answers. Written by a program of this session out of the translation; contracts made by hand are laid between. -/
import Derived.Test.YtfjfnpegpcdnaaaGBx0
namespace Go.Proofs.Ytfjfnpegpcdnaaa.GB
open Go.RowKit Go.Proofs.YtfjfnpegpcdnaaaW.PrintWords Go.Proofs.YtfjfnpegpcdnaaaW.PrintLast Go.Proofs.YtfjfnpegpcdnaaaW.PrintMore
attribute [local go_sem] max2_int min2_int max_two min_two max_three min_three max_four min_four   -- for this text's walks alone
set_option linter.unusedVariables false
set_option linter.unusedSimpArgs false

/-! ### standstillref01_Text: function 34 -/
mutual
def standstillref01_Text.l0 : Nat → ByteArray → Int → Int → Int → List (List (S57)) → Option (ByteArray)
 | 0, _, _, _, _, _ => none
 | k + 1, x3, x4, x135000, x135001, x135002 => if x4 < x135000 then (if x4 > 0 then (if x3.size + 1 ≤ 9223372036854775807 then (standstillref01_Text.j1 k (x3 ++ (⟨#[95]⟩ : ByteArray)) x4 x135000 x135001 x135002) else (none)) else (standstillref01_Text.j1 k x3 x4 x135000 x135001 x135002)) else (some x3)
def standstillref01_Text.j1 : Nat → ByteArray → Int → Int → Int → List (List (S57)) → Option (ByteArray)
 | 0, _, _, _, _, _ => none
 | k + 1, x3, x4, x135000, x135001, x135002 => standstillref01_Text.l1 k x3 x4 0 x135000 x135001 x135002
def standstillref01_Text.l1 : Nat → ByteArray → Int → Int → Int → Int → List (List (S57)) → Option (ByteArray)
 | 0, _, _, _, _, _, _ => none
 | k + 1, x3, x4, x5, x135000, x135001, x135002 => if x5 < x135001 then (if 0 ≤ x4 then (if x4 < (x135002.length : Int) then (if 0 ≤ x5 then (if x5 < ((rd_L2 x135002 x4).length : Int) then (if ((rd_T57 (rd_L2 x135002 x4) x5).f1) < 0 then (if ((rd_T57 (rd_L2 x135002 x4) x5).f2) ≥ 0 then ((some (([(wrap64 (48 + ((rd_T57 (rd_L2 x135002 x4) x5).f0))) % 256, 76, (wrap64 (65 + ((rd_T57 (rd_L2 x135002 x4) x5).f2))) % 256] : List Int) : List Int)).bind fun y138 => (if x3.size + (strOfNums y138).size ≤ 9223372036854775807 then (standstillref01_Text.l1 k (x3 ++ (strOfNums y138)) x4 (wrap64 (x5 + 1)) x135000 x135001 x135002) else (none))) else ((some (([(wrap64 (48 + ((rd_T57 (rd_L2 x135002 x4) x5).f0))) % 256, 76, 90] : List Int) : List Int)).bind fun y141 => (if x3.size + (strOfNums y141).size ≤ 9223372036854775807 then (standstillref01_Text.l1 k (x3 ++ (strOfNums y141)) x4 (wrap64 (x5 + 1)) x135000 x135001 x135002) else (none)))) else (if ((rd_T57 (rd_L2 x135002 x4) x5).f2) ≥ 0 then ((some (([(wrap64 (48 + ((rd_T57 (rd_L2 x135002 x4) x5).f0))) % 256, 82, (wrap64 (65 + ((rd_T57 (rd_L2 x135002 x4) x5).f2))) % 256] : List Int) : List Int)).bind fun y144 => (if x3.size + (strOfNums y144).size ≤ 9223372036854775807 then (standstillref01_Text.l1 k (x3 ++ (strOfNums y144)) x4 (wrap64 (x5 + 1)) x135000 x135001 x135002) else (none))) else ((some (([(wrap64 (48 + ((rd_T57 (rd_L2 x135002 x4) x5).f0))) % 256, 82, 90] : List Int) : List Int)).bind fun y147 => (if x3.size + (strOfNums y147).size ≤ 9223372036854775807 then (standstillref01_Text.l1 k (x3 ++ (strOfNums y147)) x4 (wrap64 (x5 + 1)) x135000 x135001 x135002) else (none))))) else (none)) else (none)) else (none)) else (none)) else (standstillref01_Text.l0 k x3 (wrap64 (x4 + 1)) x135000 x135001 x135002)
end
def standstillref01_Text.f (k : Nat) (a0_0 : Int) (a0_1 : Int) (l0_2 : List (List (S57))) : Option (ByteArray) := standstillref01_Text.l0 k (⟨#[]⟩ : ByteArray) 0 a0_0 a0_1 l0_2
theorem standstillref01_Text.mono_l : ∀ k, (∀ y0 y1 y2 y3 y4, LeO (standstillref01_Text.l0 k y0 y1 y2 y3 y4) (standstillref01_Text.l0 (k + 1) y0 y1 y2 y3 y4)) ∧ (∀ y0 y1 y2 y3 y4, LeO (standstillref01_Text.j1 k y0 y1 y2 y3 y4) (standstillref01_Text.j1 (k + 1) y0 y1 y2 y3 y4)) ∧ (∀ y0 y1 y2 y3 y4 y5, LeO (standstillref01_Text.l1 k y0 y1 y2 y3 y4 y5) (standstillref01_Text.l1 (k + 1) y0 y1 y2 y3 y4 y5))
 | 0 => ⟨fun _ _ _ _ _ r h => by simp [standstillref01_Text.l0] at h, fun _ _ _ _ _ r h => by simp [standstillref01_Text.j1] at h, fun _ _ _ _ _ _ r h => by simp [standstillref01_Text.l1] at h⟩
 | k + 1 => by
  obtain ⟨ih0, ih1, ih2⟩ := standstillref01_Text.mono_l k
  refine ⟨?_, ?_, ?_⟩
  ·
   intro y0 y1 y2 y3 y4
   unfold standstillref01_Text.l0
   repeat' first
   | (with_reducible exact ih0 _ _ _ _ _)
   | (with_reducible exact ih1 _ _ _ _ _)
   | (with_reducible exact ih2 _ _ _ _ _ _)
   | (with_reducible exact LeO.refl _)
   | (with_reducible exact LeO.none _)
   | (with_reducible refine LeO.ite ?_ ?_)
   | (with_reducible refine LeO.bind ?_ (fun _ => ?_))
   | exact ih0 _ _ _ _ _
   | exact ih1 _ _ _ _ _
   | exact ih2 _ _ _ _ _ _
   | exact LeO.none _
   | refine LeO.ite ?_ ?_
   | refine LeO.bind ?_ (fun _ => ?_)
  ·
   intro y0 y1 y2 y3 y4
   unfold standstillref01_Text.j1
   repeat' first
   | (with_reducible exact ih0 _ _ _ _ _)
   | (with_reducible exact ih1 _ _ _ _ _)
   | (with_reducible exact ih2 _ _ _ _ _ _)
   | (with_reducible exact LeO.refl _)
   | (with_reducible exact LeO.none _)
   | (with_reducible refine LeO.ite ?_ ?_)
   | (with_reducible refine LeO.bind ?_ (fun _ => ?_))
   | exact ih0 _ _ _ _ _
   | exact ih1 _ _ _ _ _
   | exact ih2 _ _ _ _ _ _
   | exact LeO.none _
   | refine LeO.ite ?_ ?_
   | refine LeO.bind ?_ (fun _ => ?_)
  ·
   intro y0 y1 y2 y3 y4 y5
   unfold standstillref01_Text.l1
   repeat' first
   | (with_reducible exact ih0 _ _ _ _ _)
   | (with_reducible exact ih1 _ _ _ _ _)
   | (with_reducible exact ih2 _ _ _ _ _ _)
   | (with_reducible exact LeO.refl _)
   | (with_reducible exact LeO.none _)
   | (with_reducible refine LeO.ite ?_ ?_)
   | (with_reducible refine LeO.bind ?_ (fun _ => ?_))
   | exact ih0 _ _ _ _ _
   | exact ih1 _ _ _ _ _
   | exact ih2 _ _ _ _ _ _
   | exact LeO.none _
   | refine LeO.ite ?_ ?_
   | refine LeO.bind ?_ (fun _ => ?_)
theorem standstillref01_Text.mono : ∀ a0 a1 a2 k, LeO (standstillref01_Text.f k a0 a1 a2) (standstillref01_Text.f (k + 1) a0 a1 a2) := by
 intro a0 a1 a2 k
 obtain ⟨ih0, ih1, ih2⟩ := standstillref01_Text.mono_l k
 unfold standstillref01_Text.f
 repeat' first
   | (with_reducible exact ih0 _ _ _ _ _)
   | (with_reducible exact ih1 _ _ _ _ _)
   | (with_reducible exact ih2 _ _ _ _ _ _)
   | (with_reducible exact LeO.refl _)
   | (with_reducible exact LeO.none _)
   | (with_reducible refine LeO.ite ?_ ?_)
   | (with_reducible refine LeO.bind ?_ (fun _ => ?_))
   | exact ih0 _ _ _ _ _
   | exact ih1 _ _ _ _ _
   | exact ih2 _ _ _ _ _ _
   | exact LeO.none _
   | refine LeO.ite ?_ ?_
   | refine LeO.bind ?_ (fun _ => ?_)
set_option maxHeartbeats 8000000 in
set_option maxRecDepth 100000 in
theorem standstillref01_Text.calls (k : Nat) (a0_0 : Int) (a0_1 : Int) (A0_2 : Option Addr) (c0_2 : Nat) (l0_2 : List (List (S57))) (r : ByteArray) (w : World) (hr0_2 : Kd.C (Kd.slice 57 k57) w A0_2 l0_2.length l0_2) (hc0_2 : l0_2.length ≤ c0_2) (h : standstillref01_Text.f k a0_0 a0_1 l0_2 = some r) :
  Calls Try.prog 34 #[.agg #[.int .i64 a0_0, .int .i64 a0_1, .slice A0_2 l0_2.length c0_2]] w fun e w' => e = .returned (.string r) ∧ Below w.heap.size w w' := by
 have hu24 := Try.underlying24
 have hu57 := Try.underlying57
 have HR0_2 := Aside0.mk hr0_2
 have HC0_2 := Aside0.mk hc0_2
 clear hr0_2 hc0_2
 have HB := Aside0.mk (Below.refl w.heap.size w)
 have H : (standstillref01_Text.l0 k (⟨#[]⟩ : ByteArray) 0 a0_0 a0_1 l0_2) = some r := h
 clear h
 have H' := Aside0.mk H
 clear H
 go_enter Try.func34, Try.ntmps34
 go_wp2_with (first | ((with_reducible refine gate_dst (N := 1) rfl ?_); refine box_event ?hg (N := 1) ?hd (cs := #[.int .i64 a0_0, .int .i64 a0_1, .slice A0_2 l0_2.length c0_2]) (t := 24) ?hr ?_; (case hd => rfl); (case hg => rfl); (case hr => first | (go_simp; done) | (go_simp; rfl)); intro gb134 hg w2 hbox hb; have BK134 := Aside0.mk (hbox); have GW134 := Aside0.mk ((by rw [hg]; exact (below_size (zB HB)) : w.heap.size ≤ gb134)); have GE134 := Aside0.mk ((by rw [hg]; exact (below_size (zB HB)) : w.heap.size ≤ gb134)); replace HB := Aside0.mk (below_step (zB HB) hb); clear hb hbox hg))
 go_loopg [3, 4] k (fun kq v3 v4 w' => ∃ (x3_1 : ByteArray) (x4_1 : Int), v3 = .string x3_1 ∧ v4 = .int .i64 x4_1 ∧ Aside0 (standstillref01_Text.l0 kq x3_1 x4_1 a0_0 a0_1 l0_2 = some r) ∧ Aside0 (kq ≤ k) ∧ Aside0 (w'.heap[gb134]? = some (.cells #[.int .i64 a0_0, .int .i64 a0_1, (.slice A0_2 l0_2.length c0_2)] 24 (0, 0))) ∧ Aside0 (Below w.heap.size w w'))
 case atStart => exact ⟨((⟨#[]⟩ : ByteArray)), (0), (by first | rfl | (simp; done) | (simp [*]; done)), (by first | rfl | (simp; done) | (simp [*]; done)), H', ⟨Nat.le_refl _⟩, ⟨zk BK134⟩, ⟨zB HB⟩⟩
 case round =>
  clear H'
  try clear p2
  obtain ⟨x3_1, x4_1, rfl, rfl, HA, HK1, BK134, HB⟩ := hrel
  cases gk with
  | zero => exact absurd HA.out (by simp [standstillref01_Text.l0])
  | succ k1 =>
   have H := HA.out
   clear HA
   simp only [standstillref01_Text.l0] at H
   by_cases c3 : x4_1 < a0_0
   ·
    rw [if_pos c3] at H
    have c3b0 : decide (x4_1 < a0_0) = true := decide_eq_true c3
    clear c3
    have HC4 := Aside0.mk H
    clear H
    have hz5 := zc3 BK134
    go_upto_if 16 with (fail)
    go_cut [3] (fun v3 wc => ∃ (kq : Nat) (x3_3 : ByteArray), v3 = .string x3_3 ∧ Aside0 (standstillref01_Text.j1 kq x3_3 x4_1 a0_0 a0_1 l0_2 = some r) ∧ Aside0 (kq ≤ k1) ∧ Aside0 (wc.heap[gb134]? = some (.cells #[.int .i64 a0_0, .int .i64 a0_1, (.slice A0_2 l0_2.length c0_2)] 24 (0, 0))) ∧ Aside0 (Below w.heap.size w wc))
    case first =>
     have H := HC4.out
     clear HC4
     by_cases c6 : x4_1 > 0
     ·
      rw [if_pos c6] at H
      have c6b0 : decide (0 < x4_1) = true := decide_eq_true c6
      clear c6
      (first | rw [c6b0] | (simp only [i64_w, i32_w]; rw [c6b0]) | skip)
      (try rw [c6b1])
      by_cases c7 : x3_1.size + 1 ≤ 9223372036854775807
      ·
       rw [if_pos c7] at H
       have c7b0 := eq_true c7
       have c7b1 : decide (x3_1.size + 1 ≤ 9223372036854775807) = true := decide_eq_true c7
       try have c7b2 : (9223372036854775807 < x3_1.size + 1) = False := eq_false (Nat.not_lt.2 c7)
       have H' := Aside0.mk H
       clear H
       go_wp2
       go_meet
       case rel => exact ⟨_, (x3_1 ++ (⟨#[95]⟩ : ByteArray)), (by first | rfl | (simp; done) | (simp [*]; done)), H', ⟨by have := HK1.out; first | omega | exact Nat.le_refl _⟩, ⟨zk BK134⟩, ⟨zB HB⟩⟩
      ·
       rw [if_neg c7] at H
       exact absurd H (by simp)
     ·
      rw [if_neg c6] at H
      have c6b0 : decide (0 < x4_1) = false := decide_eq_false c6
      clear c6
      (first | rw [c6b0] | (simp only [i64_w, i32_w]; rw [c6b0]) | skip)
      (try rw [c6b1])
      have H' := Aside0.mk H
      clear H
      go_wp2
      go_meet
      case rel => exact ⟨_, (x3_1), (by first | rfl | (simp; done) | (simp [*]; done)), H', ⟨by have := HK1.out; first | omega | exact Nat.le_refl _⟩, ⟨zk BK134⟩, ⟨zB HB⟩⟩
    case rest =>
     clear HC4
     try clear p2
     try clear c3
     try clear c3b0
     try clear c6
     try clear c6b0
     try clear c6b1
     try clear c7
     try clear c7b0
     try clear c7b1
     try clear c7b2
     try clear hz5
     try clear p2
     obtain ⟨kq, x3_3, rfl, HA, HJ3, BK134, HB⟩ := hcut
     cases kq with
     | zero => exact absurd HA.out (by simp [standstillref01_Text.j1])
     | succ kj3 =>
      have H := HA.out
      clear HA
      simp only [standstillref01_Text.j1] at H
      have H' := Aside0.mk H
      clear H
      go_wp2
      go_loopg [3, 5] kj3 (fun kq v3 v5 w' => ∃ (x3_3 : ByteArray) (x5_3 : Int), v3 = .string x3_3 ∧ v5 = .int .i64 x5_3 ∧ Aside0 (standstillref01_Text.l1 kq x3_3 x4_1 x5_3 a0_0 a0_1 l0_2 = some r) ∧ Aside0 (kq ≤ kj3) ∧ Aside0 (w'.heap[gb134]? = some (.cells #[.int .i64 a0_0, .int .i64 a0_1, (.slice A0_2 l0_2.length c0_2)] 24 (0, 0))) ∧ Aside0 (Below w.heap.size w w'))
      case atStart => exact ⟨(x3_3), (0), (by first | rfl | (simp; done) | (simp [*]; done)), (by first | rfl | (simp; done) | (simp [*]; done)), H', ⟨Nat.le_refl _⟩, ⟨zk BK134⟩, ⟨zB HB⟩⟩
      case round =>
       clear H'
       try clear p2
       try clear c3
       try clear c3b0
       try clear c6
       try clear c6b0
       try clear c6b1
       try clear c7
       try clear c7b0
       try clear c7b1
       try clear c7b2
       try clear hz5
       try clear p2
       obtain ⟨x3_3, x5_3, rfl, rfl, HA, HK3, BK134, HB⟩ := hrel
       cases gk with
       | zero => exact absurd HA.out (by simp [standstillref01_Text.l1])
       | succ k3 =>
        have H := HA.out
        clear HA
        simp only [standstillref01_Text.l1] at H
        by_cases c8 : x5_3 < a0_1
        ·
         rw [if_pos c8] at H
         have c8b0 : decide (x5_3 < a0_1) = true := decide_eq_true c8
         clear c8
         by_cases c9 : 0 ≤ x4_1
         ·
          rw [if_pos c9] at H
          have c9b0 : decide (0 ≤ x4_1) = true := decide_eq_true c9
          clear c9
          by_cases c10 : x4_1 < (l0_2.length : Int)
          ·
           rw [if_pos c10] at H
           have c10b0 : decide (x4_1 < (l0_2.length : Int)) = true := decide_eq_true c10
           clear c10
           by_cases c11 : 0 ≤ x5_3
           ·
            rw [if_pos c11] at H
            have c11b0 : decide (0 ≤ x5_3) = true := decide_eq_true c11
            clear c11
            by_cases c12 : x5_3 < ((rd_L2 l0_2 x4_1).length : Int)
            ·
             rw [if_pos c12] at H
             have c12b0 : decide (x5_3 < ((rd_L2 l0_2 x4_1).length : Int)) = true := decide_eq_true c12
             clear c12
             have HC13 := Aside0.mk H
             clear H
             have hz14 := zc3 BK134
             have p135 : 0 ≤ (x4_1 : Int) := of_decide_eq_true (by first | (with_reducible assumption) | assumption)
             have q135 : x4_1 < (l0_2.length : Int) := of_decide_eq_true (by first | (with_reducible assumption) | assumption)
             obtain ⟨ad135, A135_0, c135_0, e135, hx135_0, hl135_0, hi135_0⟩ := at_L2 HR0_2.out x4_1 p135 q135
             cases e135
             replace hx135_0 := (HB.out.cell (World.block_lt_of_cell? w _ hx135_0)).trans hx135_0
             have HR135_0 := Aside0.mk hi135_0
             have HC135_0 := Aside0.mk hl135_0
             clear hi135_0 hl135_0
             replace p135 := eq_true p135
             replace q135 := eq_true q135
             have p136 : 0 ≤ (x5_3 : Int) := of_decide_eq_true (by first | (with_reducible assumption) | assumption)
             have q136 : x5_3 < ((rd_L2 l0_2 x4_1).length : Int) := of_decide_eq_true (by first | (with_reducible assumption) | assumption)
             obtain ⟨ad136, e136, hx136_0, hx136_1, hx136_2⟩ := at_T57 HR135_0.out x5_3 p136 q136
             cases e136
             replace hx136_0 := (HB.out.cell (World.block_lt_of_cell? w _ hx136_0)).trans hx136_0
             replace hx136_1 := (HB.out.cell (World.block_lt_of_cell? w _ hx136_1)).trans hx136_1
             replace hx136_2 := (HB.out.cell (World.block_lt_of_cell? w _ hx136_2)).trans hx136_2
             replace p136 := eq_true p136
             replace q136 := eq_true q136
             go_upto_if 35 with (first | ((with_reducible refine gate_dst (N := 6) rfl ?_); refine box_event ?hg (N := 6) ?hd (cs := #[.int .i64 0, .int .i64 0, .int .i64 0]) (t := 57) ?hr ?_; (case hd => rfl); (case hg => rfl); (case hr => first | (go_simp; done) | (go_simp; rfl)); intro gb137 hg w15 hbox hb; have BK137 := Aside0.mk (hbox); have GW137 := Aside0.mk ((by rw [hg]; exact (below_size (zB HB)) : w.heap.size ≤ gb137)); have GE137 := Aside0.mk ((by rw [hg]; exact (below_size (zB HB)) : w.heap.size ≤ gb137)); have NB134_137 := Aside0.mk ((by rw [hg]; exact Nat.ne_of_lt (zL BK134) : gb134 ≠ gb137)); have NB137_134 := Aside0.mk ((by rw [hg]; exact Nat.ne_of_gt (zL BK134) : gb137 ≠ gb134)); replace BK134 := Aside0.mk (zb BK134 hb); replace HB := Aside0.mk (below_step (zB HB) hb); clear hb hbox hg; have hnb16 := NB137_134.out; have hnc16 := NB134_137.out; have hz17 := zc3 BK137) | ((with_reducible refine gate_store (t := 57) (p := 6) rfl ?_); refine store_event (t := 57) (p := 6) (v := ?vo_w18) (w1 := (((w15.setCell ⟨gb137, 0, none⟩ (.int .i64 ((rd_T57 (rd_L2 l0_2 x4_1) x5_3).f0))).setCell ⟨gb137, 1, none⟩ (.int .i64 ((rd_T57 (rd_L2 l0_2 x4_1) x5_3).f1))).setCell ⟨gb137, 2, none⟩ (.int .i64 ((rd_T57 (rd_L2 l0_2 x4_1) x5_3).f2)))) ?hg ?ho ?hn ?hr ?_; (case ho => rfl); (case hg => rfl); (case hn => rfl); (case hr => first | (go_simp; done) | (go_simp; rfl)); intro w18 hw; have n0_ : Aside0 (w18.heap[gb134]? = some (.cells #[.int .i64 a0_0, .int .i64 a0_1, .slice (some ad135) l0_2.length c0_2] 24 (0, 0))) := ⟨(by rw [hw]; exact (zK BK134))⟩; have n1_ : Aside0 (w18.heap[gb137]? = some (.cells #[.int .i64 ((rd_T57 (rd_L2 l0_2 x4_1) x5_3).f0), .int .i64 ((rd_T57 (rd_L2 l0_2 x4_1) x5_3).f1), .int .i64 ((rd_T57 (rd_L2 l0_2 x4_1) x5_3).f2)] 57 (0, 0))) := ⟨(by rw [hw]; exact (by (with_reducible repeat (first | refine blk_drewN ?_ _ | refine blk_drew ?_ | refine blk_alloc ?_ _)); refine blk_put (cs := #[.int .i64 ((rd_T57 (rd_L2 l0_2 x4_1) x5_3).f0), .int .i64 ((rd_T57 (rd_L2 l0_2 x4_1) x5_3).f1), .int .i64 0]) ?_ 2 _ rfl; (with_reducible repeat (first | refine blk_drewN ?_ _ | refine blk_drew ?_ | refine blk_alloc ?_ _)); refine blk_put (cs := #[.int .i64 ((rd_T57 (rd_L2 l0_2 x4_1) x5_3).f0), .int .i64 0, .int .i64 0]) ?_ 1 _ rfl; (with_reducible repeat (first | refine blk_drewN ?_ _ | refine blk_drew ?_ | refine blk_alloc ?_ _)); refine blk_put (cs := #[.int .i64 0, .int .i64 0, .int .i64 0]) ?_ 0 _ rfl; (with_reducible repeat (first | refine blk_drewN ?_ _ | refine blk_drew ?_ | refine blk_alloc ?_ _)); exact BK137.out))⟩; have n2_ : Aside0 (Below w.heap.size w w18) := ⟨(by rw [hw]; exact (zB HB))⟩; clear hw; clear BK134; clear BK137; clear HB; have BK134 := n0_; have BK137 := n1_; have HB := n2_; clear n0_ n1_ n2_; have hz19 := zc3 BK137))
             (try simp only [Act.put, zs, zs0, zs1])
             have H := HC13.out
             clear HC13
             by_cases c20 : ((rd_T57 (rd_L2 l0_2 x4_1) x5_3).f1) < 0
             ·
              rw [if_pos c20] at H
              have c20b0 : decide (((rd_T57 (rd_L2 l0_2 x4_1) x5_3).f1) < 0) = true := decide_eq_true c20
              clear c20
              (first | rw [c20b0] | (simp only [i64_w, i32_w]; rw [c20b0]) | skip)
              (try rw [c20b1])
              by_cases c21 : ((rd_T57 (rd_L2 l0_2 x4_1) x5_3).f2) ≥ 0
              ·
               rw [if_pos c21] at H
               have c21b0 : decide (0 ≤ ((rd_T57 (rd_L2 l0_2 x4_1) x5_3).f2)) = true := decide_eq_true c21
               clear c21
               obtain ⟨y138, hy138⟩ : ∃ y_ : List Int, y_ = (([(wrap64 (48 + ((rd_T57 (rd_L2 l0_2 x4_1) x5_3).f0))) % 256, 76, (wrap64 (65 + ((rd_T57 (rd_L2 l0_2 x4_1) x5_3).f2))) % 256] : List Int)) := ⟨_, rfl⟩
               replace H : (if x3_3.size + (strOfNums y138).size ≤ 9223372036854775807 then (standstillref01_Text.l1 k3 (x3_3 ++ (strOfNums y138)) x4_1 (wrap64 (x5_3 + 1)) a0_0 a0_1 l0_2) else (none)) = some r := by first | (rw [hy138]; with_reducible exact H) | (have H2_ := (Option.bind_some _ _).symm.trans H; rw [hy138]; with_reducible exact H2_) | (have H2_ := (Option.bind_some _ _).symm.trans H; with_reducible exact H2_) | with_reducible exact H | (rw [hy138]; exact H) | exact H
               have Ny138 := Aside0.mk hy138
               clear hy138
               by_cases c22 : x3_3.size + (strOfNums y138).size ≤ 9223372036854775807
               ·
                rw [if_pos c22] at H
                have c22b0 := eq_true c22
                have c22b1 : decide (x3_3.size + (strOfNums y138).size ≤ 9223372036854775807) = true := decide_eq_true c22
                try have c22b2 : (9223372036854775807 < x3_3.size + (strOfNums y138).size) = False := eq_false (Nat.not_lt.2 c22)
                have H' := Aside0.mk H
                clear H
                have hnb23 := NB137_134.out
                have hnc23 := NB134_137.out
                have hz24 := zc3 BK137
                go_wp2_with (first | ((with_reducible refine gate_dst (N := 50) rfl ?_); refine Kd.R_lit (Kd.int .u8) _ 5 ?hg (N := 50) ?hd (xs := ([(wrap64 (48 + ((rd_T57 (rd_L2 l0_2 x4_1) x5_3).f0))) % 256, 76, (wrap64 (65 + ((rd_T57 (rd_L2 l0_2 x4_1) x5_3).f2))) % 256] : List Int)) (inner := [.int .u8 ((wrap64 (48 + ((rd_T57 (rd_L2 l0_2 x4_1) x5_3).f0))) % 256), .int .u8 76, .int .u8 ((wrap64 (65 + ((rd_T57 (rd_L2 l0_2 x4_1) x5_3).f2))) % 256)]) (ok := fun _ => True) (okp := fun _ => True) ?hr ?hp (fun _ hk => hk) trivial (Below.refl _ _) (Nat.le_refl _) (by simp) ?_; (case hd => rfl); (case hg => rfl); (case hr => first | (go_simp; done) | (go_simp; rfl)); (case hp => exact (Reps.one (show Kd.M (Kd.int .u8) _ _ _ ((wrap64 (48 + ((rd_T57 (rd_L2 l0_2 x4_1) x5_3).f0))) % 256) [.int .u8 ((wrap64 (48 + ((rd_T57 (rd_L2 l0_2 x4_1) x5_3).f0))) % 256)] from rfl) (Reps.one (show Kd.M (Kd.int .u8) _ _ _ 76 [.int .u8 76] from rfl) (Reps.one (show Kd.M (Kd.int .u8) _ _ _ ((wrap64 (65 + ((rd_T57 (rd_L2 l0_2 x4_1) x5_3).f2))) % 256) [.int .u8 ((wrap64 (65 + ((rd_T57 (rd_L2 l0_2 x4_1) x5_3).f2))) % 256)] from rfl) (Reps.none _ _))))); intro v139 w25 ho26 hb hg_ hnew_; clear hg_ hnew_; (first | rw [← Ny138.out] at ho26 | (simp only [Int.reduceToNat] at ho26; rw [← Ny138.out] at ho26)); have HO140 := Aside0.mk (Kd.R_lower ho26 (below_size (zB HB))); replace BK134 := Aside0.mk (zb BK134 hb); replace BK137 := Aside0.mk (zb BK137 hb); replace HB := Aside0.mk (below_step (zB HB) hb); clear hb ho26; have hcv27 := own_string (P := Try.prog) Try.underlying76 Try.underlying5 Try.underlying9 (Kd.own_of_R HO140.out)))
                go_roundg k3
                case measure => have := HK1.out; have := HJ3.out; have := HK3.out; omega
                case rel => exact ⟨(x3_3 ++ (strOfNums y138)), (wrap64 (x5_3 + 1)), (by first | rfl | (simp; done) | (simp [*]; done)), (by first | rfl | (simp; done) | (simp [*]; done)), H', ⟨by have := HK1.out; have := HJ3.out; have := HK3.out; omega⟩, ⟨zk BK134⟩, ⟨zB HB⟩⟩
               ·
                rw [if_neg c22] at H
                exact absurd H (by simp)
              ·
               rw [if_neg c21] at H
               have c21b0 : decide (0 ≤ ((rd_T57 (rd_L2 l0_2 x4_1) x5_3).f2)) = false := decide_eq_false c21
               clear c21
               obtain ⟨y141, hy141⟩ : ∃ y_ : List Int, y_ = (([(wrap64 (48 + ((rd_T57 (rd_L2 l0_2 x4_1) x5_3).f0))) % 256, 76, 90] : List Int)) := ⟨_, rfl⟩
               replace H : (if x3_3.size + (strOfNums y141).size ≤ 9223372036854775807 then (standstillref01_Text.l1 k3 (x3_3 ++ (strOfNums y141)) x4_1 (wrap64 (x5_3 + 1)) a0_0 a0_1 l0_2) else (none)) = some r := by first | (rw [hy141]; with_reducible exact H) | (have H2_ := (Option.bind_some _ _).symm.trans H; rw [hy141]; with_reducible exact H2_) | (have H2_ := (Option.bind_some _ _).symm.trans H; with_reducible exact H2_) | with_reducible exact H | (rw [hy141]; exact H) | exact H
               have Ny141 := Aside0.mk hy141
               clear hy141
               by_cases c28 : x3_3.size + (strOfNums y141).size ≤ 9223372036854775807
               ·
                rw [if_pos c28] at H
                have c28b0 := eq_true c28
                have c28b1 : decide (x3_3.size + (strOfNums y141).size ≤ 9223372036854775807) = true := decide_eq_true c28
                try have c28b2 : (9223372036854775807 < x3_3.size + (strOfNums y141).size) = False := eq_false (Nat.not_lt.2 c28)
                have H' := Aside0.mk H
                clear H
                have hnb29 := NB137_134.out
                have hnc29 := NB134_137.out
                have hz30 := zc3 BK137
                go_wp2_with (first | ((with_reducible refine gate_dst (N := 50) rfl ?_); refine Kd.R_lit (Kd.int .u8) _ 5 ?hg (N := 50) ?hd (xs := ([(wrap64 (48 + ((rd_T57 (rd_L2 l0_2 x4_1) x5_3).f0))) % 256, 76, 90] : List Int)) (inner := [.int .u8 ((wrap64 (48 + ((rd_T57 (rd_L2 l0_2 x4_1) x5_3).f0))) % 256), .int .u8 76, .int .u8 90]) (ok := fun _ => True) (okp := fun _ => True) ?hr ?hp (fun _ hk => hk) trivial (Below.refl _ _) (Nat.le_refl _) (by simp) ?_; (case hd => rfl); (case hg => rfl); (case hr => first | (go_simp; done) | (go_simp; rfl)); (case hp => exact (Reps.one (show Kd.M (Kd.int .u8) _ _ _ ((wrap64 (48 + ((rd_T57 (rd_L2 l0_2 x4_1) x5_3).f0))) % 256) [.int .u8 ((wrap64 (48 + ((rd_T57 (rd_L2 l0_2 x4_1) x5_3).f0))) % 256)] from rfl) (Reps.one (show Kd.M (Kd.int .u8) _ _ _ 76 [.int .u8 76] from rfl) (Reps.one (show Kd.M (Kd.int .u8) _ _ _ 90 [.int .u8 90] from rfl) (Reps.none _ _))))); intro v142 w31 ho32 hb hg_ hnew_; clear hg_ hnew_; (first | rw [← Ny141.out] at ho32 | (simp only [Int.reduceToNat] at ho32; rw [← Ny141.out] at ho32)); have HO143 := Aside0.mk (Kd.R_lower ho32 (below_size (zB HB))); replace BK134 := Aside0.mk (zb BK134 hb); replace BK137 := Aside0.mk (zb BK137 hb); replace HB := Aside0.mk (below_step (zB HB) hb); clear hb ho32; have hcv33 := own_string (P := Try.prog) Try.underlying76 Try.underlying5 Try.underlying9 (Kd.own_of_R HO143.out)))
                go_roundg k3
                case measure => have := HK1.out; have := HJ3.out; have := HK3.out; omega
                case rel => exact ⟨(x3_3 ++ (strOfNums y141)), (wrap64 (x5_3 + 1)), (by first | rfl | (simp; done) | (simp [*]; done)), (by first | rfl | (simp; done) | (simp [*]; done)), H', ⟨by have := HK1.out; have := HJ3.out; have := HK3.out; omega⟩, ⟨zk BK134⟩, ⟨zB HB⟩⟩
               ·
                rw [if_neg c28] at H
                exact absurd H (by simp)
             ·
              rw [if_neg c20] at H
              have c20b0 : decide (((rd_T57 (rd_L2 l0_2 x4_1) x5_3).f1) < 0) = false := decide_eq_false c20
              clear c20
              (first | rw [c20b0] | (simp only [i64_w, i32_w]; rw [c20b0]) | skip)
              (try rw [c20b1])
              by_cases c34 : ((rd_T57 (rd_L2 l0_2 x4_1) x5_3).f2) ≥ 0
              ·
               rw [if_pos c34] at H
               have c34b0 : decide (0 ≤ ((rd_T57 (rd_L2 l0_2 x4_1) x5_3).f2)) = true := decide_eq_true c34
               clear c34
               obtain ⟨y144, hy144⟩ : ∃ y_ : List Int, y_ = (([(wrap64 (48 + ((rd_T57 (rd_L2 l0_2 x4_1) x5_3).f0))) % 256, 82, (wrap64 (65 + ((rd_T57 (rd_L2 l0_2 x4_1) x5_3).f2))) % 256] : List Int)) := ⟨_, rfl⟩
               replace H : (if x3_3.size + (strOfNums y144).size ≤ 9223372036854775807 then (standstillref01_Text.l1 k3 (x3_3 ++ (strOfNums y144)) x4_1 (wrap64 (x5_3 + 1)) a0_0 a0_1 l0_2) else (none)) = some r := by first | (rw [hy144]; with_reducible exact H) | (have H2_ := (Option.bind_some _ _).symm.trans H; rw [hy144]; with_reducible exact H2_) | (have H2_ := (Option.bind_some _ _).symm.trans H; with_reducible exact H2_) | with_reducible exact H | (rw [hy144]; exact H) | exact H
               have Ny144 := Aside0.mk hy144
               clear hy144
               by_cases c35 : x3_3.size + (strOfNums y144).size ≤ 9223372036854775807
               ·
                rw [if_pos c35] at H
                have c35b0 := eq_true c35
                have c35b1 : decide (x3_3.size + (strOfNums y144).size ≤ 9223372036854775807) = true := decide_eq_true c35
                try have c35b2 : (9223372036854775807 < x3_3.size + (strOfNums y144).size) = False := eq_false (Nat.not_lt.2 c35)
                have H' := Aside0.mk H
                clear H
                have hnb36 := NB137_134.out
                have hnc36 := NB134_137.out
                have hz37 := zc3 BK137
                go_wp2_with (first | ((with_reducible refine gate_dst (N := 50) rfl ?_); refine Kd.R_lit (Kd.int .u8) _ 5 ?hg (N := 50) ?hd (xs := ([(wrap64 (48 + ((rd_T57 (rd_L2 l0_2 x4_1) x5_3).f0))) % 256, 82, (wrap64 (65 + ((rd_T57 (rd_L2 l0_2 x4_1) x5_3).f2))) % 256] : List Int)) (inner := [.int .u8 ((wrap64 (48 + ((rd_T57 (rd_L2 l0_2 x4_1) x5_3).f0))) % 256), .int .u8 82, .int .u8 ((wrap64 (65 + ((rd_T57 (rd_L2 l0_2 x4_1) x5_3).f2))) % 256)]) (ok := fun _ => True) (okp := fun _ => True) ?hr ?hp (fun _ hk => hk) trivial (Below.refl _ _) (Nat.le_refl _) (by simp) ?_; (case hd => rfl); (case hg => rfl); (case hr => first | (go_simp; done) | (go_simp; rfl)); (case hp => exact (Reps.one (show Kd.M (Kd.int .u8) _ _ _ ((wrap64 (48 + ((rd_T57 (rd_L2 l0_2 x4_1) x5_3).f0))) % 256) [.int .u8 ((wrap64 (48 + ((rd_T57 (rd_L2 l0_2 x4_1) x5_3).f0))) % 256)] from rfl) (Reps.one (show Kd.M (Kd.int .u8) _ _ _ 82 [.int .u8 82] from rfl) (Reps.one (show Kd.M (Kd.int .u8) _ _ _ ((wrap64 (65 + ((rd_T57 (rd_L2 l0_2 x4_1) x5_3).f2))) % 256) [.int .u8 ((wrap64 (65 + ((rd_T57 (rd_L2 l0_2 x4_1) x5_3).f2))) % 256)] from rfl) (Reps.none _ _))))); intro v145 w38 ho39 hb hg_ hnew_; clear hg_ hnew_; (first | rw [← Ny144.out] at ho39 | (simp only [Int.reduceToNat] at ho39; rw [← Ny144.out] at ho39)); have HO146 := Aside0.mk (Kd.R_lower ho39 (below_size (zB HB))); replace BK134 := Aside0.mk (zb BK134 hb); replace BK137 := Aside0.mk (zb BK137 hb); replace HB := Aside0.mk (below_step (zB HB) hb); clear hb ho39; have hcv40 := own_string (P := Try.prog) Try.underlying76 Try.underlying5 Try.underlying9 (Kd.own_of_R HO146.out)))
                go_roundg k3
                case measure => have := HK1.out; have := HJ3.out; have := HK3.out; omega
                case rel => exact ⟨(x3_3 ++ (strOfNums y144)), (wrap64 (x5_3 + 1)), (by first | rfl | (simp; done) | (simp [*]; done)), (by first | rfl | (simp; done) | (simp [*]; done)), H', ⟨by have := HK1.out; have := HJ3.out; have := HK3.out; omega⟩, ⟨zk BK134⟩, ⟨zB HB⟩⟩
               ·
                rw [if_neg c35] at H
                exact absurd H (by simp)
              ·
               rw [if_neg c34] at H
               have c34b0 : decide (0 ≤ ((rd_T57 (rd_L2 l0_2 x4_1) x5_3).f2)) = false := decide_eq_false c34
               clear c34
               obtain ⟨y147, hy147⟩ : ∃ y_ : List Int, y_ = (([(wrap64 (48 + ((rd_T57 (rd_L2 l0_2 x4_1) x5_3).f0))) % 256, 82, 90] : List Int)) := ⟨_, rfl⟩
               replace H : (if x3_3.size + (strOfNums y147).size ≤ 9223372036854775807 then (standstillref01_Text.l1 k3 (x3_3 ++ (strOfNums y147)) x4_1 (wrap64 (x5_3 + 1)) a0_0 a0_1 l0_2) else (none)) = some r := by first | (rw [hy147]; with_reducible exact H) | (have H2_ := (Option.bind_some _ _).symm.trans H; rw [hy147]; with_reducible exact H2_) | (have H2_ := (Option.bind_some _ _).symm.trans H; with_reducible exact H2_) | with_reducible exact H | (rw [hy147]; exact H) | exact H
               have Ny147 := Aside0.mk hy147
               clear hy147
               by_cases c41 : x3_3.size + (strOfNums y147).size ≤ 9223372036854775807
               ·
                rw [if_pos c41] at H
                have c41b0 := eq_true c41
                have c41b1 : decide (x3_3.size + (strOfNums y147).size ≤ 9223372036854775807) = true := decide_eq_true c41
                try have c41b2 : (9223372036854775807 < x3_3.size + (strOfNums y147).size) = False := eq_false (Nat.not_lt.2 c41)
                have H' := Aside0.mk H
                clear H
                have hnb42 := NB137_134.out
                have hnc42 := NB134_137.out
                have hz43 := zc3 BK137
                go_wp2_with (first | ((with_reducible refine gate_dst (N := 50) rfl ?_); refine Kd.R_lit (Kd.int .u8) _ 5 ?hg (N := 50) ?hd (xs := ([(wrap64 (48 + ((rd_T57 (rd_L2 l0_2 x4_1) x5_3).f0))) % 256, 82, 90] : List Int)) (inner := [.int .u8 ((wrap64 (48 + ((rd_T57 (rd_L2 l0_2 x4_1) x5_3).f0))) % 256), .int .u8 82, .int .u8 90]) (ok := fun _ => True) (okp := fun _ => True) ?hr ?hp (fun _ hk => hk) trivial (Below.refl _ _) (Nat.le_refl _) (by simp) ?_; (case hd => rfl); (case hg => rfl); (case hr => first | (go_simp; done) | (go_simp; rfl)); (case hp => exact (Reps.one (show Kd.M (Kd.int .u8) _ _ _ ((wrap64 (48 + ((rd_T57 (rd_L2 l0_2 x4_1) x5_3).f0))) % 256) [.int .u8 ((wrap64 (48 + ((rd_T57 (rd_L2 l0_2 x4_1) x5_3).f0))) % 256)] from rfl) (Reps.one (show Kd.M (Kd.int .u8) _ _ _ 82 [.int .u8 82] from rfl) (Reps.one (show Kd.M (Kd.int .u8) _ _ _ 90 [.int .u8 90] from rfl) (Reps.none _ _))))); intro v148 w44 ho45 hb hg_ hnew_; clear hg_ hnew_; (first | rw [← Ny147.out] at ho45 | (simp only [Int.reduceToNat] at ho45; rw [← Ny147.out] at ho45)); have HO149 := Aside0.mk (Kd.R_lower ho45 (below_size (zB HB))); replace BK134 := Aside0.mk (zb BK134 hb); replace BK137 := Aside0.mk (zb BK137 hb); replace HB := Aside0.mk (below_step (zB HB) hb); clear hb ho45; have hcv46 := own_string (P := Try.prog) Try.underlying76 Try.underlying5 Try.underlying9 (Kd.own_of_R HO149.out)))
                go_roundg k3
                case measure => have := HK1.out; have := HJ3.out; have := HK3.out; omega
                case rel => exact ⟨(x3_3 ++ (strOfNums y147)), (wrap64 (x5_3 + 1)), (by first | rfl | (simp; done) | (simp [*]; done)), (by first | rfl | (simp; done) | (simp [*]; done)), H', ⟨by have := HK1.out; have := HJ3.out; have := HK3.out; omega⟩, ⟨zk BK134⟩, ⟨zB HB⟩⟩
               ·
                rw [if_neg c41] at H
                exact absurd H (by simp)
            ·
             rw [if_neg c12] at H
             exact absurd H (by simp)
           ·
            rw [if_neg c11] at H
            exact absurd H (by simp)
          ·
           rw [if_neg c10] at H
           exact absurd H (by simp)
         ·
          rw [if_neg c9] at H
          exact absurd H (by simp)
        ·
         rw [if_neg c8] at H
         have c8b0 : decide (x5_3 < a0_1) = false := decide_eq_false c8
         clear c8
         have H' := Aside0.mk H
         clear H
         have hz47 := zc3 BK134
         go_wp2
         go_roundg k3
         case measure => have := HK1.out; have := HJ3.out; have := HK3.out; omega
         case rel => exact ⟨(x3_3), (wrap64 (x4_1 + 1)), (by first | rfl | (simp; done) | (simp [*]; done)), (by first | rfl | (simp; done) | (simp [*]; done)), H', ⟨by have := HK1.out; have := HJ3.out; have := HK3.out; omega⟩, ⟨zk BK134⟩, ⟨zB HB⟩⟩
   ·
    rw [if_neg c3] at H
    have c3b0 : decide (x4_1 < a0_0) = false := decide_eq_false c3
    clear c3
    obtain rfl := Option.some.inj H
    have hz48 := zc3 BK134
    go_wp2
    go_ret
    exact ⟨by first | rfl | (simp [errW_none, errW_some] <;> rfl) | (simp [*, errW_none, errW_some] <;> rfl), zB HB⟩

end Go.Proofs.Ytfjfnpegpcdnaaa.GB
