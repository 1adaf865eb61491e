/- The functions of one seat as Lean functions, each with its contract: the call of the Go function returns what the Lean function answers. Written by a program of this session out of the translation; contracts made by hand are laid between. -/
import Derived.Test.YtcdmgeceahmngaaGCx0
import Derived.Test.YtcdmgeceahmngaaGCx1
namespace Go.Proofs.Ytcdmgeceahmngaa.GC
open Go.RowKit Go.Proofs.YtcdmgeceahmngaaW.PrintWords Go.Proofs.YtcdmgeceahmngaaW.PrintLast Go.Proofs.YtcdmgeceahmngaaW.PrintMore
attribute [local go_sem] max2_int min2_int max_two min_two max_three min_three max_four min_four   -- for this text's walks alone
set_option linter.unusedVariables false
set_option linter.unusedSimpArgs false

attribute [local go_sem high] eqA35
/-! ### counter_Valid: function 13 -/
mutual
def counter_Valid.j0 : Nat → Int → Bool → Int → List (S35) → Option (Bool)
 | 0, _, _, _, _ => none
 | k + 1, x3, x24, x109000, x109001 => if x24 = true then (some false) else (counter_Valid.l0 k x3 x109001 (x109001.length : Int) 0 x109000 x109001)
def counter_Valid.l0 : Nat → Int → List (S35) → Int → Int → Int → List (S35) → Option (Bool)
 | 0, _, _, _, _, _, _ => none
 | k + 1, x3, x26, x27, x28, x109000, x109001 => if x28 < x27 then (if 0 ≤ x28 then (if x28 < (x26.length : Int) then (if ((rd_T35 x26 x28).f0) = 2 then (counter_Valid.j2 k x3 x26 x27 x28 (!(((rd_T35 x26 x28).f0) == 2) || (!(((rd_T35 x26 x28).f1) == 0) || (!(((rd_T35 x26 x28).f2) == 0) || (!(((rd_T35 x26 x28).f3) == 0))))) x109000 x109001 ((rd_T35 x26 x28).f0) ((rd_T35 x26 x28).f1) ((rd_T35 x26 x28).f2) ((rd_T35 x26 x28).f3)) else (counter_Valid.j2 k x3 x26 x27 x28 false x109000 x109001 ((rd_T35 x26 x28).f0) ((rd_T35 x26 x28).f1) ((rd_T35 x26 x28).f2) ((rd_T35 x26 x28).f3))) else (none)) else (none)) else (some true)
def counter_Valid.j2 : Nat → Int → List (S35) → Int → Int → Bool → Int → List (S35) → Int → Int → Int → Int → Option (Bool)
 | 0, _, _, _, _, _, _, _, _, _, _, _ => none
 | k + 1, x3, x26, x27, x28, x32, x109000, x109001, x111000, x111001, x111002, x111003 => if x32 = true then (some false) else (if x111000 = 2 then (counter_Valid.l0 k x3 x26 x27 (wrap64 (x28 + 1)) x109000 x109001) else (if x111000 = 0 then (if x111001 < 0 then (counter_Valid.j3 k x3 x26 x27 x28 true x109000 x109001 x111000 x111001 x111002 x111003) else (if x111001 ≥ x109000 then (counter_Valid.j3 k x3 x26 x27 x28 true x109000 x109001 x111000 x111001 x111002 x111003) else (if x111002 < 0 then (counter_Valid.j3 k x3 x26 x27 x28 true x109000 x109001 x111000 x111001 x111002 x111003) else (counter_Valid.j3 k x3 x26 x27 x28 (decide (x111002 ≥ x3)) x109000 x109001 x111000 x111001 x111002 x111003)))) else (if x111000 = 1 then (if x111001 < 0 then (counter_Valid.j3 k x3 x26 x27 x28 true x109000 x109001 x111000 x111001 x111002 x111003) else (if x111001 ≥ x109000 then (counter_Valid.j3 k x3 x26 x27 x28 true x109000 x109001 x111000 x111001 x111002 x111003) else (if x111002 < 0 then (counter_Valid.j3 k x3 x26 x27 x28 true x109000 x109001 x111000 x111001 x111002 x111003) else (counter_Valid.j3 k x3 x26 x27 x28 (decide (x111002 ≥ x3)) x109000 x109001 x111000 x111001 x111002 x111003)))) else (counter_Valid.j3 k x3 x26 x27 x28 true x109000 x109001 x111000 x111001 x111002 x111003))))
def counter_Valid.j3 : Nat → Int → List (S35) → Int → Int → Bool → Int → List (S35) → Int → Int → Int → Int → Option (Bool)
 | 0, _, _, _, _, _, _, _, _, _, _, _ => none
 | k + 1, x3, x26, x27, x28, x45, x109000, x109001, x111000, x111001, x111002, x111003 => if x45 = true then (some false) else (if x111000 = 0 then (if x111003 = 0 then (if x111003 < 0 then (some false) else (if x111003 ≥ x3 then (some false) else (counter_Valid.l0 k x3 x26 x27 (wrap64 (x28 + 1)) x109000 x109001))) else (some false)) else (if x111003 < 0 then (some false) else (if x111003 ≥ x3 then (some false) else (counter_Valid.l0 k x3 x26 x27 (wrap64 (x28 + 1)) x109000 x109001))))
end
def counter_Valid.f (k : Nat) (a0_0 : Int) (l0_1 : List (S35)) : Option (Bool) := if a0_0 < 1 then (counter_Valid.j0 k (l0_1.length : Int) true a0_0 l0_1) else (if a0_0 > 16 then (counter_Valid.j0 k (l0_1.length : Int) true a0_0 l0_1) else (if (l0_1.length : Int) < 1 then (counter_Valid.j0 k (l0_1.length : Int) true a0_0 l0_1) else (counter_Valid.j0 k (l0_1.length : Int) (decide ((l0_1.length : Int) > 2000)) a0_0 l0_1)))
theorem counter_Valid.mono_l : ∀ k, (∀ y0 y1 y2 y3, LeO (counter_Valid.j0 k y0 y1 y2 y3) (counter_Valid.j0 (k + 1) y0 y1 y2 y3)) ∧ (∀ y0 y1 y2 y3 y4 y5, LeO (counter_Valid.l0 k y0 y1 y2 y3 y4 y5) (counter_Valid.l0 (k + 1) y0 y1 y2 y3 y4 y5)) ∧ (∀ y0 y1 y2 y3 y4 y5 y6 y7 y8 y9 y10, LeO (counter_Valid.j2 k y0 y1 y2 y3 y4 y5 y6 y7 y8 y9 y10) (counter_Valid.j2 (k + 1) y0 y1 y2 y3 y4 y5 y6 y7 y8 y9 y10)) ∧ (∀ y0 y1 y2 y3 y4 y5 y6 y7 y8 y9 y10, LeO (counter_Valid.j3 k y0 y1 y2 y3 y4 y5 y6 y7 y8 y9 y10) (counter_Valid.j3 (k + 1) y0 y1 y2 y3 y4 y5 y6 y7 y8 y9 y10))
 | 0 => ⟨fun _ _ _ _ r h => by simp [counter_Valid.j0] at h, fun _ _ _ _ _ _ r h => by simp [counter_Valid.l0] at h, fun _ _ _ _ _ _ _ _ _ _ _ r h => by simp [counter_Valid.j2] at h, fun _ _ _ _ _ _ _ _ _ _ _ r h => by simp [counter_Valid.j3] at h⟩
 | k + 1 => by
  obtain ⟨ih0, ih1, ih2, ih3⟩ := counter_Valid.mono_l k
  refine ⟨?_, ?_, ?_, ?_⟩
  ·
   intro y0 y1 y2 y3
   unfold counter_Valid.j0
   repeat' first
   | (with_reducible exact ih0 _ _ _ _)
   | (with_reducible exact ih1 _ _ _ _ _ _)
   | (with_reducible exact ih2 _ _ _ _ _ _ _ _ _ _ _)
   | (with_reducible exact ih3 _ _ _ _ _ _ _ _ _ _ _)
   | (with_reducible exact LeO.refl _)
   | (with_reducible exact LeO.none _)
   | (with_reducible refine LeO.ite ?_ ?_)
   | (with_reducible refine LeO.bind ?_ (fun _ => ?_))
   | exact ih0 _ _ _ _
   | exact ih1 _ _ _ _ _ _
   | exact ih2 _ _ _ _ _ _ _ _ _ _ _
   | exact ih3 _ _ _ _ _ _ _ _ _ _ _
   | exact LeO.none _
   | refine LeO.ite ?_ ?_
   | refine LeO.bind ?_ (fun _ => ?_)
  ·
   intro y0 y1 y2 y3 y4 y5
   unfold counter_Valid.l0
   repeat' first
   | (with_reducible exact ih0 _ _ _ _)
   | (with_reducible exact ih1 _ _ _ _ _ _)
   | (with_reducible exact ih2 _ _ _ _ _ _ _ _ _ _ _)
   | (with_reducible exact ih3 _ _ _ _ _ _ _ _ _ _ _)
   | (with_reducible exact LeO.refl _)
   | (with_reducible exact LeO.none _)
   | (with_reducible refine LeO.ite ?_ ?_)
   | (with_reducible refine LeO.bind ?_ (fun _ => ?_))
   | exact ih0 _ _ _ _
   | exact ih1 _ _ _ _ _ _
   | exact ih2 _ _ _ _ _ _ _ _ _ _ _
   | exact ih3 _ _ _ _ _ _ _ _ _ _ _
   | exact LeO.none _
   | refine LeO.ite ?_ ?_
   | refine LeO.bind ?_ (fun _ => ?_)
  ·
   intro y0 y1 y2 y3 y4 y5 y6 y7 y8 y9 y10
   unfold counter_Valid.j2
   repeat' first
   | (with_reducible exact ih0 _ _ _ _)
   | (with_reducible exact ih1 _ _ _ _ _ _)
   | (with_reducible exact ih2 _ _ _ _ _ _ _ _ _ _ _)
   | (with_reducible exact ih3 _ _ _ _ _ _ _ _ _ _ _)
   | (with_reducible exact LeO.refl _)
   | (with_reducible exact LeO.none _)
   | (with_reducible refine LeO.ite ?_ ?_)
   | (with_reducible refine LeO.bind ?_ (fun _ => ?_))
   | exact ih0 _ _ _ _
   | exact ih1 _ _ _ _ _ _
   | exact ih2 _ _ _ _ _ _ _ _ _ _ _
   | exact ih3 _ _ _ _ _ _ _ _ _ _ _
   | exact LeO.none _
   | refine LeO.ite ?_ ?_
   | refine LeO.bind ?_ (fun _ => ?_)
  ·
   intro y0 y1 y2 y3 y4 y5 y6 y7 y8 y9 y10
   unfold counter_Valid.j3
   repeat' first
   | (with_reducible exact ih0 _ _ _ _)
   | (with_reducible exact ih1 _ _ _ _ _ _)
   | (with_reducible exact ih2 _ _ _ _ _ _ _ _ _ _ _)
   | (with_reducible exact ih3 _ _ _ _ _ _ _ _ _ _ _)
   | (with_reducible exact LeO.refl _)
   | (with_reducible exact LeO.none _)
   | (with_reducible refine LeO.ite ?_ ?_)
   | (with_reducible refine LeO.bind ?_ (fun _ => ?_))
   | exact ih0 _ _ _ _
   | exact ih1 _ _ _ _ _ _
   | exact ih2 _ _ _ _ _ _ _ _ _ _ _
   | exact ih3 _ _ _ _ _ _ _ _ _ _ _
   | exact LeO.none _
   | refine LeO.ite ?_ ?_
   | refine LeO.bind ?_ (fun _ => ?_)
theorem counter_Valid.mono : ∀ a0 a1 k, LeO (counter_Valid.f k a0 a1) (counter_Valid.f (k + 1) a0 a1) := by
 intro a0 a1 k
 obtain ⟨ih0, ih1, ih2, ih3⟩ := counter_Valid.mono_l k
 unfold counter_Valid.f
 repeat' first
   | (with_reducible exact ih0 _ _ _ _)
   | (with_reducible exact ih1 _ _ _ _ _ _)
   | (with_reducible exact ih2 _ _ _ _ _ _ _ _ _ _ _)
   | (with_reducible exact ih3 _ _ _ _ _ _ _ _ _ _ _)
   | (with_reducible exact LeO.refl _)
   | (with_reducible exact LeO.none _)
   | (with_reducible refine LeO.ite ?_ ?_)
   | (with_reducible refine LeO.bind ?_ (fun _ => ?_))
   | exact ih0 _ _ _ _
   | exact ih1 _ _ _ _ _ _
   | exact ih2 _ _ _ _ _ _ _ _ _ _ _
   | exact ih3 _ _ _ _ _ _ _ _ _ _ _
   | exact LeO.none _
   | refine LeO.ite ?_ ?_
   | refine LeO.bind ?_ (fun _ => ?_)
set_option maxHeartbeats 8000000 in
set_option maxRecDepth 100000 in
theorem counter_Valid.calls (k : Nat) (a0_0 : Int) (A0_1 : Option Addr) (c0_1 : Nat) (l0_1 : List (S35)) (r : Bool) (w : World) (hr0_1 : Kd.C k35 w A0_1 l0_1.length l0_1) (hc0_1 : l0_1.length ≤ c0_1) (h : counter_Valid.f k a0_0 l0_1 = some r) :
  Calls Try.prog 13 #[.agg #[.int .i64 a0_0, .slice A0_1 l0_1.length c0_1]] w fun e w' => e = .returned (.bool r) ∧ Below w.heap.size w w' := by
 have hu24 := Try.underlying24
 have hu35 := Try.underlying35
 have HR0_1 := Aside0.mk hr0_1
 have HC0_1 := Aside0.mk hc0_1
 clear hr0_1 hc0_1
 have HB := Aside0.mk (Below.refl w.heap.size w)
 have H : (if a0_0 < 1 then (counter_Valid.j0 k (l0_1.length : Int) true a0_0 l0_1) else (if a0_0 > 16 then (counter_Valid.j0 k (l0_1.length : Int) true a0_0 l0_1) else (if (l0_1.length : Int) < 1 then (counter_Valid.j0 k (l0_1.length : Int) true a0_0 l0_1) else (counter_Valid.j0 k (l0_1.length : Int) (decide ((l0_1.length : Int) > 2000)) a0_0 l0_1)))) = some r := h
 clear h
 have HC2 := Aside0.mk H
 clear H
 go_enter Try.func13, Try.ntmps13
 go_upto_region 2 with (first | ((with_reducible refine gate_dst (N := 1) rfl ?_); refine box_event ?hg (N := 1) ?hd (cs := #[.int .i64 a0_0, .slice A0_1 l0_1.length c0_1]) (t := 24) ?hr ?_; (case hd => rfl); (case hg => rfl); (case hr => first | (go_simp; done) | (go_simp; rfl)); intro gb108 hg w3 hbox hb; have BK108 := Aside0.mk (hbox); have GW108 := Aside0.mk ((by rw [hg]; exact (below_size (zB HB)) : w.heap.size ≤ gb108)); have GE108 := Aside0.mk ((by rw [hg]; exact (below_size (zB HB)) : w.heap.size ≤ gb108)); replace HB := Aside0.mk (below_step (zB HB) hb); clear hb hbox hg; have hz4 := zc2 BK108))
 (try simp only [Act.put, zs, zs0, zs1])
 go_cut [24] (fun v24 wc => ∃ (kq : Nat) (x24_1 : Bool), v24 = .bool x24_1 ∧ Aside0 (counter_Valid.j0 kq (l0_1.length : Int) x24_1 a0_0 l0_1 = some r) ∧ Aside0 (kq ≤ k) ∧ Aside0 (wc.heap[gb108]? = some (.cells #[.int .i64 a0_0, (.slice A0_1 l0_1.length c0_1)] 24 (0, 0))) ∧ Aside0 (Below w.heap.size w wc))
 case first =>
  have H := HC2.out
  clear HC2
  by_cases c5 : a0_0 < 1
  ·
   rw [if_pos c5] at H
   have c5b0 : decide (a0_0 < 1) = true := decide_eq_true c5
   clear c5
   (first | rw [c5b0] | (simp only [i64_w, i32_w]; rw [c5b0]) | skip)
   (try rw [c5b1])
   have H' := Aside0.mk H
   clear H
   have hz6 := zc2 BK108
   go_wp2
   go_meet
   case rel => exact ⟨_, (true), (by first | rfl | (simp; done) | (simp [*]; done)), H', ⟨by first | omega | exact Nat.le_refl _⟩, ⟨zk BK108⟩, ⟨zB HB⟩⟩
  ·
   rw [if_neg c5] at H
   have c5b0 : decide (a0_0 < 1) = false := decide_eq_false c5
   clear c5
   (first | rw [c5b0] | (simp only [i64_w, i32_w]; rw [c5b0]) | skip)
   (try rw [c5b1])
   by_cases c7 : a0_0 > 16
   ·
    rw [if_pos c7] at H
    have c7b0 : decide (16 < a0_0) = true := decide_eq_true c7
    clear c7
    have H' := Aside0.mk H
    clear H
    have hz8 := zc2 BK108
    go_wp2
    go_meet
    case rel => exact ⟨_, (true), (by first | rfl | (simp; done) | (simp [*]; done)), H', ⟨by first | omega | exact Nat.le_refl _⟩, ⟨zk BK108⟩, ⟨zB HB⟩⟩
   ·
    rw [if_neg c7] at H
    have c7b0 : decide (16 < a0_0) = false := decide_eq_false c7
    clear c7
    by_cases c9 : (l0_1.length : Int) < 1
    ·
     rw [if_pos c9] at H
     have c9b0 : decide ((l0_1.length : Int) < 1) = true := decide_eq_true c9
     have c9b1 : decide (l0_1.length < 1) = true := decide_eq_true (by omega)
     clear c9
     have H' := Aside0.mk H
     clear H
     have hz10 := zc2 BK108
     go_wp2
     go_meet
     case rel => exact ⟨_, (true), (by first | rfl | (simp; done) | (simp [*]; done)), H', ⟨by first | omega | exact Nat.le_refl _⟩, ⟨zk BK108⟩, ⟨zB HB⟩⟩
    ·
     rw [if_neg c9] at H
     have c9b0 : decide ((l0_1.length : Int) < 1) = false := decide_eq_false c9
     have c9b1 : decide (l0_1.length < 1) = false := decide_eq_false (by omega)
     clear c9
     have H' := Aside0.mk H
     clear H
     have hz11 := zc2 BK108
     go_wp2
     go_meet
     case rel => exact ⟨_, (decide ((l0_1.length : Int) > 2000)), (by first | rfl | (simp; done) | (simp [*]; done)), H', ⟨by first | omega | exact Nat.le_refl _⟩, ⟨zk BK108⟩, ⟨zB HB⟩⟩
 case rest =>
  clear HC2
  try clear c1
  try clear p2
  try clear c5
  try clear c5b0
  try clear c5b1
  try clear c7
  try clear c7b0
  try clear c9
  try clear c9b0
  try clear c9b1
  try clear hz10
  try clear hz11
  try clear hz4
  try clear hz6
  try clear hz8
  obtain ⟨kq, x24_1, rfl, HA, HJ1, BK108, HB⟩ := hcut
  cases kq with
  | zero => exact absurd HA.out (by simp [counter_Valid.j0])
  | succ kj1 =>
   have H := HA.out
   clear HA
   simp only [counter_Valid.j0] at H
   by_cases c12 : x24_1 = true
   ·
    subst c12
    have H1 : (some false) = some r := by rw [if_pos rfl] at H; exact H
    clear H
    have H := H1
    clear H1
    obtain rfl := Option.some.inj H
    go_wp2
    go_ret
    exact ⟨by first | rfl | (simp [errW_none, errW_some] <;> rfl) | (simp [*, errW_none, errW_some] <;> rfl), zB HB⟩
   ·
    replace c12 := Bool.eq_false_iff.mpr c12
    subst c12
    have H1 : (counter_Valid.l0 kj1 (l0_1.length : Int) l0_1 (l0_1.length : Int) 0 a0_0 l0_1) = some r := by rw [if_neg (show ¬ (false = true) by decide)] at H; exact H
    clear H
    have H := H1
    clear H1
    have H' := Aside0.mk H
    clear H
    have hz13 := zc2 BK108
    go_wp2
    go_loopg [28] kj1 (fun kq v28 w' => ∃ (x28_2 : Int), v28 = .int .i64 x28_2 ∧ Aside0 (counter_Valid.l0 kq (l0_1.length : Int) l0_1 (l0_1.length : Int) x28_2 a0_0 l0_1 = some r) ∧ Aside0 (kq ≤ kj1) ∧ Aside0 (w'.heap[gb108]? = some (.cells #[.int .i64 a0_0, (.slice A0_1 l0_1.length c0_1)] 24 (0, 0))) ∧ Aside0 (Below w.heap.size w w'))
    case atStart => exact ⟨(0), (by first | rfl | (simp; done) | (simp [*]; done)), H', ⟨Nat.le_refl _⟩, ⟨zk BK108⟩, ⟨zB HB⟩⟩
    case round =>
     clear H'
     try clear c1
     try clear p2
     try clear c5
     try clear c5b0
     try clear c5b1
     try clear c7
     try clear c7b0
     try clear c9
     try clear c9b0
     try clear c9b1
     try clear c12
     try clear c13
     try clear hz10
     try clear hz11
     try clear hz13
     try clear hz4
     try clear hz6
     try clear hz8
     try clear p2
     obtain ⟨x28_2, rfl, HA, HK2, BK108, HB⟩ := hrel
     cases gk with
     | zero => exact absurd HA.out (by simp [counter_Valid.l0])
     | succ k2 =>
      have H := HA.out
      clear HA
      simp only [counter_Valid.l0] at H
      by_cases c14 : x28_2 < (l0_1.length : Int)
      ·
       rw [if_pos c14] at H
       have c14b0 : decide (x28_2 < (l0_1.length : Int)) = true := decide_eq_true c14
       clear c14
       by_cases c15 : 0 ≤ x28_2
       ·
        rw [if_pos c15] at H
        have c15b0 : decide (0 ≤ x28_2) = true := decide_eq_true c15
        clear c15
        by_cases c16 : x28_2 < (l0_1.length : Int)
        ·
         rw [if_pos c16] at H
         have c16b0 : decide (x28_2 < (l0_1.length : Int)) = true := decide_eq_true c16
         clear c16
         have HC17 := Aside0.mk H
         clear H
         have p109 : 0 ≤ (x28_2 : Int) := of_decide_eq_true (by first | (with_reducible assumption) | assumption)
         have q109 : x28_2 < (l0_1.length : Int) := of_decide_eq_true (by first | (with_reducible assumption) | assumption)
         obtain ⟨ad109, e109, hx109_0, hx109_1, hx109_2, hx109_3⟩ := at_T35 HR0_1.out x28_2 p109 q109
         cases e109
         replace hx109_0 := (HB.out.cell (World.block_lt_of_cell? w _ hx109_0)).trans hx109_0
         replace hx109_1 := (HB.out.cell (World.block_lt_of_cell? w _ hx109_1)).trans hx109_1
         replace hx109_2 := (HB.out.cell (World.block_lt_of_cell? w _ hx109_2)).trans hx109_2
         replace hx109_3 := (HB.out.cell (World.block_lt_of_cell? w _ hx109_3)).trans hx109_3
         replace p109 := eq_true p109
         replace q109 := eq_true q109
         go_upto_region 7 with (first | ((with_reducible refine gate_dst (N := 5) rfl ?_); refine box_event ?hg (N := 5) ?hd (cs := #[.int .i64 0, .int .i64 0, .int .i64 0, .int .i64 0]) (t := 35) ?hr ?_; (case hd => rfl); (case hg => rfl); (case hr => first | (go_simp; done) | (go_simp; rfl)); intro gb110 hg w18 hbox hb; have BK110 := Aside0.mk (hbox); have GW110 := Aside0.mk ((by rw [hg]; exact (below_size (zB HB)) : w.heap.size ≤ gb110)); have GE110 := Aside0.mk ((by rw [hg]; exact (below_size (zB HB)) : w.heap.size ≤ gb110)); have NB108_110 := Aside0.mk ((by rw [hg]; exact Nat.ne_of_lt (zL BK108) : gb108 ≠ gb110)); have NB110_108 := Aside0.mk ((by rw [hg]; exact Nat.ne_of_gt (zL BK108) : gb110 ≠ gb108)); replace BK108 := Aside0.mk (zb BK108 hb); replace HB := Aside0.mk (below_step (zB HB) hb); clear hb hbox hg; have hnb19 := NB110_108.out; have hnc19 := NB108_110.out; have hz20 := zc4 BK110))
         (try simp only [Act.put, zs, zs0, zs1])
         go_cut [32] (fun v32 wc => ∃ (kq : Nat) (x32_16 : Bool), v32 = .bool x32_16 ∧ Aside0 (counter_Valid.j2 kq (l0_1.length : Int) l0_1 (l0_1.length : Int) x28_2 x32_16 a0_0 l0_1 ((rd_T35 l0_1 x28_2).f0) ((rd_T35 l0_1 x28_2).f1) ((rd_T35 l0_1 x28_2).f2) ((rd_T35 l0_1 x28_2).f3) = some r) ∧ Aside0 (kq ≤ k2) ∧ Aside0 (wc.heap[gb108]? = some (.cells #[.int .i64 a0_0, (.slice (some ad109) l0_1.length c0_1)] 24 (0, 0))) ∧ Aside0 (wc.heap[gb110]? = some (.cells #[.int .i64 ((rd_T35 l0_1 x28_2).f0), .int .i64 ((rd_T35 l0_1 x28_2).f1), .int .i64 ((rd_T35 l0_1 x28_2).f2), .int .i64 ((rd_T35 l0_1 x28_2).f3)] 35 (0, 0))) ∧ Aside0 (Below w.heap.size w wc))
         case first =>
          have H := HC17.out
          clear HC17
          by_cases c21 : ((rd_T35 l0_1 x28_2).f0) = 2
          ·
           rw [if_pos c21] at H
           have c21b0 : (((rd_T35 l0_1 x28_2).f0) == 2) = true := beq_iff_eq.mpr c21
           have c21b1 : (((rd_T35 l0_1 x28_2).f0) != 2) = false := bne_eq_false_iff_eq.mpr c21
           clear c21
           (first | rw [c21b0] | (simp only [i64_w, i32_w]; rw [c21b0]) | skip)
           (try rw [c21b1])
           have H' := Aside0.mk H
           clear H
           have hnb22 := NB110_108.out
           have hnc22 := NB108_110.out
           have hz23 := zc4 BK110
           go_wp2
           go_meet
           case rel => exact ⟨_, ((!(((rd_T35 l0_1 x28_2).f0) == 2) || (!(((rd_T35 l0_1 x28_2).f1) == 0) || (!(((rd_T35 l0_1 x28_2).f2) == 0) || (!(((rd_T35 l0_1 x28_2).f3) == 0)))))), (by first | rfl | (simp; done) | (simp [*]; done)), H', ⟨by have := HJ1.out; have := HK2.out; first | omega | exact Nat.le_refl _⟩, ⟨zK BK108⟩, ⟨by (with_reducible repeat (first | refine blk_drewN ?_ _ | refine blk_drew ?_ | refine blk_alloc ?_ _)); refine blk_put (cs := #[.int .i64 ((rd_T35 l0_1 x28_2).f0), .int .i64 ((rd_T35 l0_1 x28_2).f1), .int .i64 ((rd_T35 l0_1 x28_2).f2), .int .i64 0]) ?_ 3 _ rfl; (with_reducible repeat (first | refine blk_drewN ?_ _ | refine blk_drew ?_ | refine blk_alloc ?_ _)); refine blk_put (cs := #[.int .i64 ((rd_T35 l0_1 x28_2).f0), .int .i64 ((rd_T35 l0_1 x28_2).f1), .int .i64 0, .int .i64 0]) ?_ 2 _ rfl; (with_reducible repeat (first | refine blk_drewN ?_ _ | refine blk_drew ?_ | refine blk_alloc ?_ _)); refine blk_put (cs := #[.int .i64 ((rd_T35 l0_1 x28_2).f0), .int .i64 0, .int .i64 0, .int .i64 0]) ?_ 1 _ rfl; (with_reducible repeat (first | refine blk_drewN ?_ _ | refine blk_drew ?_ | refine blk_alloc ?_ _)); refine blk_put (cs := #[.int .i64 0, .int .i64 0, .int .i64 0, .int .i64 0]) ?_ 0 _ rfl; (with_reducible repeat (first | refine blk_drewN ?_ _ | refine blk_drew ?_ | refine blk_alloc ?_ _)); exact BK110.out⟩, ⟨zB HB⟩⟩
          ·
           rw [if_neg c21] at H
           have c21b0 : (((rd_T35 l0_1 x28_2).f0) == 2) = false := beq_eq_false_iff_ne.mpr c21
           have c21b1 : (((rd_T35 l0_1 x28_2).f0) != 2) = true := bne_iff_ne.mpr c21
           (first | rw [c21b0] | (simp only [i64_w, i32_w]; rw [c21b0]) | skip)
           (try rw [c21b1])
           have H' := Aside0.mk H
           clear H
           have hnb24 := NB110_108.out
           have hnc24 := NB108_110.out
           have hz25 := zc4 BK110
           go_wp2
           go_meet
           case rel => exact ⟨_, (false), (by first | rfl | (simp; done) | (simp [*]; done)), H', ⟨by have := HJ1.out; have := HK2.out; first | omega | exact Nat.le_refl _⟩, ⟨zK BK108⟩, ⟨by (with_reducible repeat (first | refine blk_drewN ?_ _ | refine blk_drew ?_ | refine blk_alloc ?_ _)); refine blk_put (cs := #[.int .i64 ((rd_T35 l0_1 x28_2).f0), .int .i64 ((rd_T35 l0_1 x28_2).f1), .int .i64 ((rd_T35 l0_1 x28_2).f2), .int .i64 0]) ?_ 3 _ rfl; (with_reducible repeat (first | refine blk_drewN ?_ _ | refine blk_drew ?_ | refine blk_alloc ?_ _)); refine blk_put (cs := #[.int .i64 ((rd_T35 l0_1 x28_2).f0), .int .i64 ((rd_T35 l0_1 x28_2).f1), .int .i64 0, .int .i64 0]) ?_ 2 _ rfl; (with_reducible repeat (first | refine blk_drewN ?_ _ | refine blk_drew ?_ | refine blk_alloc ?_ _)); refine blk_put (cs := #[.int .i64 ((rd_T35 l0_1 x28_2).f0), .int .i64 0, .int .i64 0, .int .i64 0]) ?_ 1 _ rfl; (with_reducible repeat (first | refine blk_drewN ?_ _ | refine blk_drew ?_ | refine blk_alloc ?_ _)); refine blk_put (cs := #[.int .i64 0, .int .i64 0, .int .i64 0, .int .i64 0]) ?_ 0 _ rfl; (with_reducible repeat (first | refine blk_drewN ?_ _ | refine blk_drew ?_ | refine blk_alloc ?_ _)); exact BK110.out⟩, ⟨zB HB⟩⟩
         case rest =>
          clear HC17
          try clear c1
          try clear p1
          try clear q1
          try clear hx1
          try clear c2
          try clear p2
          try clear c5
          try clear c5b0
          try clear c5b1
          try clear c7
          try clear c7b0
          try clear c9
          try clear c9b0
          try clear c9b1
          try clear p10
          try clear q10
          try clear hx10
          try clear c12
          try clear c13
          try clear c14
          try clear c14b0
          try clear c15
          try clear c15b0
          try clear c16
          try clear c16b0
          try clear c19
          try clear c21
          try clear c21b0
          try clear c21b1
          try clear c22
          try clear c24
          try clear hz10
          try clear hz11
          try clear hz13
          try clear hz20
          try clear hz23
          try clear hz25
          try clear hz4
          try clear hz6
          try clear hz8
          try clear hx109_0
          try clear hx109_1
          try clear hx109_2
          try clear hx109_3
          try clear p109
          try clear p2
          try clear q109
          obtain ⟨kq, x32_16, rfl, HA, HJ16, BK108, BK110, HB⟩ := hcut
          cases kq with
          | zero => exact absurd HA.out (by simp [counter_Valid.j2])
          | succ kj16 =>
           have H := HA.out
           clear HA
           simp only [counter_Valid.j2] at H
           by_cases c26 : x32_16 = true
           ·
            subst c26
            have H1 : (some false) = some r := by rw [if_pos rfl] at H; exact H
            clear H
            have H := H1
            clear H1
            obtain rfl := Option.some.inj H
            go_wp2
            go_ret
            exact ⟨by first | rfl | (simp [errW_none, errW_some] <;> rfl) | (simp [*, errW_none, errW_some] <;> rfl), zB HB⟩
           ·
            replace c26 := Bool.eq_false_iff.mpr c26
            subst c26
            have H1 : (if ((rd_T35 l0_1 x28_2).f0) = 2 then (counter_Valid.l0 kj16 (l0_1.length : Int) l0_1 (l0_1.length : Int) (wrap64 (x28_2 + 1)) a0_0 l0_1) else (if ((rd_T35 l0_1 x28_2).f0) = 0 then (if ((rd_T35 l0_1 x28_2).f1) < 0 then (counter_Valid.j3 kj16 (l0_1.length : Int) l0_1 (l0_1.length : Int) x28_2 true a0_0 l0_1 ((rd_T35 l0_1 x28_2).f0) ((rd_T35 l0_1 x28_2).f1) ((rd_T35 l0_1 x28_2).f2) ((rd_T35 l0_1 x28_2).f3)) else (if ((rd_T35 l0_1 x28_2).f1) ≥ a0_0 then (counter_Valid.j3 kj16 (l0_1.length : Int) l0_1 (l0_1.length : Int) x28_2 true a0_0 l0_1 ((rd_T35 l0_1 x28_2).f0) ((rd_T35 l0_1 x28_2).f1) ((rd_T35 l0_1 x28_2).f2) ((rd_T35 l0_1 x28_2).f3)) else (if ((rd_T35 l0_1 x28_2).f2) < 0 then (counter_Valid.j3 kj16 (l0_1.length : Int) l0_1 (l0_1.length : Int) x28_2 true a0_0 l0_1 ((rd_T35 l0_1 x28_2).f0) ((rd_T35 l0_1 x28_2).f1) ((rd_T35 l0_1 x28_2).f2) ((rd_T35 l0_1 x28_2).f3)) else (counter_Valid.j3 kj16 (l0_1.length : Int) l0_1 (l0_1.length : Int) x28_2 (decide (((rd_T35 l0_1 x28_2).f2) ≥ (l0_1.length : Int))) a0_0 l0_1 ((rd_T35 l0_1 x28_2).f0) ((rd_T35 l0_1 x28_2).f1) ((rd_T35 l0_1 x28_2).f2) ((rd_T35 l0_1 x28_2).f3))))) else (if ((rd_T35 l0_1 x28_2).f0) = 1 then (if ((rd_T35 l0_1 x28_2).f1) < 0 then (counter_Valid.j3 kj16 (l0_1.length : Int) l0_1 (l0_1.length : Int) x28_2 true a0_0 l0_1 ((rd_T35 l0_1 x28_2).f0) ((rd_T35 l0_1 x28_2).f1) ((rd_T35 l0_1 x28_2).f2) ((rd_T35 l0_1 x28_2).f3)) else (if ((rd_T35 l0_1 x28_2).f1) ≥ a0_0 then (counter_Valid.j3 kj16 (l0_1.length : Int) l0_1 (l0_1.length : Int) x28_2 true a0_0 l0_1 ((rd_T35 l0_1 x28_2).f0) ((rd_T35 l0_1 x28_2).f1) ((rd_T35 l0_1 x28_2).f2) ((rd_T35 l0_1 x28_2).f3)) else (if ((rd_T35 l0_1 x28_2).f2) < 0 then (counter_Valid.j3 kj16 (l0_1.length : Int) l0_1 (l0_1.length : Int) x28_2 true a0_0 l0_1 ((rd_T35 l0_1 x28_2).f0) ((rd_T35 l0_1 x28_2).f1) ((rd_T35 l0_1 x28_2).f2) ((rd_T35 l0_1 x28_2).f3)) else (counter_Valid.j3 kj16 (l0_1.length : Int) l0_1 (l0_1.length : Int) x28_2 (decide (((rd_T35 l0_1 x28_2).f2) ≥ (l0_1.length : Int))) a0_0 l0_1 ((rd_T35 l0_1 x28_2).f0) ((rd_T35 l0_1 x28_2).f1) ((rd_T35 l0_1 x28_2).f2) ((rd_T35 l0_1 x28_2).f3))))) else (counter_Valid.j3 kj16 (l0_1.length : Int) l0_1 (l0_1.length : Int) x28_2 true a0_0 l0_1 ((rd_T35 l0_1 x28_2).f0) ((rd_T35 l0_1 x28_2).f1) ((rd_T35 l0_1 x28_2).f2) ((rd_T35 l0_1 x28_2).f3))))) = some r := by rw [if_neg (show ¬ (false = true) by decide)] at H; exact H
            clear H
            have H := H1
            clear H1
            by_cases c27 : ((rd_T35 l0_1 x28_2).f0) = 2
            ·
             rw [if_pos c27] at H
             have c27b0 : (((rd_T35 l0_1 x28_2).f0) == 2) = true := beq_iff_eq.mpr c27
             have c27b1 : (((rd_T35 l0_1 x28_2).f0) != 2) = false := bne_eq_false_iff_eq.mpr c27
             clear c27
             have H' := Aside0.mk H
             clear H
             have hnb28 := NB110_108.out
             have hnc28 := NB108_110.out
             have hz29 := zc4 BK110
             go_wp2
             go_roundg kj16
             case measure => have := HJ1.out; have := HK2.out; have := HJ16.out; omega
             case rel => exact ⟨(wrap64 (x28_2 + 1)), (by first | rfl | (simp; done) | (simp [*]; done)), H', ⟨by have := HJ1.out; have := HK2.out; have := HJ16.out; omega⟩, ⟨zk BK108⟩, ⟨zB HB⟩⟩
            ·
             rw [if_neg c27] at H
             have c27b0 : (((rd_T35 l0_1 x28_2).f0) == 2) = false := beq_eq_false_iff_ne.mpr c27
             have c27b1 : (((rd_T35 l0_1 x28_2).f0) != 2) = true := bne_iff_ne.mpr c27
             have HC30 := Aside0.mk H
             clear H
             have hnb31 := NB110_108.out
             have hnc31 := NB108_110.out
             have hz32 := zc4 BK110
             go_upto_region 10 with (fail)
             go_cut [45] (fun v45 wc => ∃ (kq : Nat) (x45_29 : Bool), v45 = .bool x45_29 ∧ Aside0 (counter_Valid.j3 kq (l0_1.length : Int) l0_1 (l0_1.length : Int) x28_2 x45_29 a0_0 l0_1 ((rd_T35 l0_1 x28_2).f0) ((rd_T35 l0_1 x28_2).f1) ((rd_T35 l0_1 x28_2).f2) ((rd_T35 l0_1 x28_2).f3) = some r) ∧ Aside0 (kq ≤ kj16) ∧ Aside0 (wc.heap[gb108]? = some (.cells #[.int .i64 a0_0, (.slice (some ad109) l0_1.length c0_1)] 24 (0, 0))) ∧ Aside0 (wc.heap[gb110]? = some (.cells #[.int .i64 ((rd_T35 l0_1 x28_2).f0), .int .i64 ((rd_T35 l0_1 x28_2).f1), .int .i64 ((rd_T35 l0_1 x28_2).f2), .int .i64 ((rd_T35 l0_1 x28_2).f3)] 35 (0, 0))) ∧ Aside0 (Below w.heap.size w wc))
             case first =>
              have H := HC30.out
              clear HC30
              by_cases c33 : ((rd_T35 l0_1 x28_2).f0) = 0
              ·
               rw [if_pos c33] at H
               have c33b0 : (((rd_T35 l0_1 x28_2).f0) == 0) = true := beq_iff_eq.mpr c33
               have c33b1 : (((rd_T35 l0_1 x28_2).f0) != 0) = false := bne_eq_false_iff_eq.mpr c33
               clear c33
               (first | rw [c33b0] | (simp only [i64_w, i32_w]; rw [c33b0]) | skip)
               (try rw [c33b1])
               by_cases c34 : ((rd_T35 l0_1 x28_2).f1) < 0
               ·
                rw [if_pos c34] at H
                have c34b0 : decide (((rd_T35 l0_1 x28_2).f1) < 0) = true := decide_eq_true c34
                clear c34
                have H' := Aside0.mk H
                clear H
                have hnb35 := NB110_108.out
                have hnc35 := NB108_110.out
                have hz36 := zc4 BK110
                go_wp2
                go_meet
                case rel => exact ⟨_, (true), (by first | rfl | (simp; done) | (simp [*]; done)), H', ⟨by have := HJ1.out; have := HK2.out; have := HJ16.out; first | omega | exact Nat.le_refl _⟩, ⟨zk BK108⟩, ⟨zk BK110⟩, ⟨zB HB⟩⟩
               ·
                rw [if_neg c34] at H
                have c34b0 : decide (((rd_T35 l0_1 x28_2).f1) < 0) = false := decide_eq_false c34
                clear c34
                by_cases c37 : ((rd_T35 l0_1 x28_2).f1) ≥ a0_0
                ·
                 rw [if_pos c37] at H
                 have c37b0 : decide (a0_0 ≤ ((rd_T35 l0_1 x28_2).f1)) = true := decide_eq_true c37
                 clear c37
                 have H' := Aside0.mk H
                 clear H
                 have hnb38 := NB110_108.out
                 have hnc38 := NB108_110.out
                 have hz39 := zc4 BK110
                 have hz40 := zc2 BK108
                 go_wp2
                 go_meet
                 case rel => exact ⟨_, (true), (by first | rfl | (simp; done) | (simp [*]; done)), H', ⟨by have := HJ1.out; have := HK2.out; have := HJ16.out; first | omega | exact Nat.le_refl _⟩, ⟨zk BK108⟩, ⟨zk BK110⟩, ⟨zB HB⟩⟩
                ·
                 rw [if_neg c37] at H
                 have c37b0 : decide (a0_0 ≤ ((rd_T35 l0_1 x28_2).f1)) = false := decide_eq_false c37
                 clear c37
                 by_cases c41 : ((rd_T35 l0_1 x28_2).f2) < 0
                 ·
                  rw [if_pos c41] at H
                  have c41b0 : decide (((rd_T35 l0_1 x28_2).f2) < 0) = true := decide_eq_true c41
                  clear c41
                  have H' := Aside0.mk H
                  clear H
                  have hnb42 := NB110_108.out
                  have hnc42 := NB108_110.out
                  have hz43 := zc4 BK110
                  have hz44 := zc2 BK108
                  go_wp2
                  go_meet
                  case rel => exact ⟨_, (true), (by first | rfl | (simp; done) | (simp [*]; done)), H', ⟨by have := HJ1.out; have := HK2.out; have := HJ16.out; first | omega | exact Nat.le_refl _⟩, ⟨zk BK108⟩, ⟨zk BK110⟩, ⟨zB HB⟩⟩
                 ·
                  rw [if_neg c41] at H
                  have c41b0 : decide (((rd_T35 l0_1 x28_2).f2) < 0) = false := decide_eq_false c41
                  clear c41
                  have H' := Aside0.mk H
                  clear H
                  have hnb45 := NB110_108.out
                  have hnc45 := NB108_110.out
                  have hz46 := zc4 BK110
                  have hz47 := zc2 BK108
                  go_wp2
                  go_meet
                  case rel => exact ⟨_, (decide (((rd_T35 l0_1 x28_2).f2) ≥ (l0_1.length : Int))), (by first | rfl | (simp; done) | (simp [*]; done)), H', ⟨by have := HJ1.out; have := HK2.out; have := HJ16.out; first | omega | exact Nat.le_refl _⟩, ⟨zk BK108⟩, ⟨zk BK110⟩, ⟨zB HB⟩⟩
              ·
               rw [if_neg c33] at H
               have c33b0 : (((rd_T35 l0_1 x28_2).f0) == 0) = false := beq_eq_false_iff_ne.mpr c33
               have c33b1 : (((rd_T35 l0_1 x28_2).f0) != 0) = true := bne_iff_ne.mpr c33
               (first | rw [c33b0] | (simp only [i64_w, i32_w]; rw [c33b0]) | skip)
               (try rw [c33b1])
               by_cases c48 : ((rd_T35 l0_1 x28_2).f0) = 1
               ·
                rw [if_pos c48] at H
                have c48b0 : (((rd_T35 l0_1 x28_2).f0) == 1) = true := beq_iff_eq.mpr c48
                have c48b1 : (((rd_T35 l0_1 x28_2).f0) != 1) = false := bne_eq_false_iff_eq.mpr c48
                clear c48
                by_cases c49 : ((rd_T35 l0_1 x28_2).f1) < 0
                ·
                 rw [if_pos c49] at H
                 have c49b0 : decide (((rd_T35 l0_1 x28_2).f1) < 0) = true := decide_eq_true c49
                 clear c49
                 have H' := Aside0.mk H
                 clear H
                 have hnb50 := NB110_108.out
                 have hnc50 := NB108_110.out
                 have hz51 := zc4 BK110
                 go_wp2
                 go_meet
                 case rel => exact ⟨_, (true), (by first | rfl | (simp; done) | (simp [*]; done)), H', ⟨by have := HJ1.out; have := HK2.out; have := HJ16.out; first | omega | exact Nat.le_refl _⟩, ⟨zk BK108⟩, ⟨zk BK110⟩, ⟨zB HB⟩⟩
                ·
                 rw [if_neg c49] at H
                 have c49b0 : decide (((rd_T35 l0_1 x28_2).f1) < 0) = false := decide_eq_false c49
                 clear c49
                 by_cases c52 : ((rd_T35 l0_1 x28_2).f1) ≥ a0_0
                 ·
                  rw [if_pos c52] at H
                  have c52b0 : decide (a0_0 ≤ ((rd_T35 l0_1 x28_2).f1)) = true := decide_eq_true c52
                  clear c52
                  have H' := Aside0.mk H
                  clear H
                  have hnb53 := NB110_108.out
                  have hnc53 := NB108_110.out
                  have hz54 := zc4 BK110
                  have hz55 := zc2 BK108
                  go_wp2
                  go_meet
                  case rel => exact ⟨_, (true), (by first | rfl | (simp; done) | (simp [*]; done)), H', ⟨by have := HJ1.out; have := HK2.out; have := HJ16.out; first | omega | exact Nat.le_refl _⟩, ⟨zk BK108⟩, ⟨zk BK110⟩, ⟨zB HB⟩⟩
                 ·
                  rw [if_neg c52] at H
                  have c52b0 : decide (a0_0 ≤ ((rd_T35 l0_1 x28_2).f1)) = false := decide_eq_false c52
                  clear c52
                  by_cases c56 : ((rd_T35 l0_1 x28_2).f2) < 0
                  ·
                   rw [if_pos c56] at H
                   have c56b0 : decide (((rd_T35 l0_1 x28_2).f2) < 0) = true := decide_eq_true c56
                   clear c56
                   have H' := Aside0.mk H
                   clear H
                   have hnb57 := NB110_108.out
                   have hnc57 := NB108_110.out
                   have hz58 := zc4 BK110
                   have hz59 := zc2 BK108
                   go_wp2
                   go_meet
                   case rel => exact ⟨_, (true), (by first | rfl | (simp; done) | (simp [*]; done)), H', ⟨by have := HJ1.out; have := HK2.out; have := HJ16.out; first | omega | exact Nat.le_refl _⟩, ⟨zk BK108⟩, ⟨zk BK110⟩, ⟨zB HB⟩⟩
                  ·
                   rw [if_neg c56] at H
                   have c56b0 : decide (((rd_T35 l0_1 x28_2).f2) < 0) = false := decide_eq_false c56
                   clear c56
                   have H' := Aside0.mk H
                   clear H
                   have hnb60 := NB110_108.out
                   have hnc60 := NB108_110.out
                   have hz61 := zc4 BK110
                   have hz62 := zc2 BK108
                   go_wp2
                   go_meet
                   case rel => exact ⟨_, (decide (((rd_T35 l0_1 x28_2).f2) ≥ (l0_1.length : Int))), (by first | rfl | (simp; done) | (simp [*]; done)), H', ⟨by have := HJ1.out; have := HK2.out; have := HJ16.out; first | omega | exact Nat.le_refl _⟩, ⟨zk BK108⟩, ⟨zk BK110⟩, ⟨zB HB⟩⟩
               ·
                rw [if_neg c48] at H
                have c48b0 : (((rd_T35 l0_1 x28_2).f0) == 1) = false := beq_eq_false_iff_ne.mpr c48
                have c48b1 : (((rd_T35 l0_1 x28_2).f0) != 1) = true := bne_iff_ne.mpr c48
                have H' := Aside0.mk H
                clear H
                have hnb63 := NB110_108.out
                have hnc63 := NB108_110.out
                have hz64 := zc4 BK110
                go_wp2
                go_meet
                case rel => exact ⟨_, (true), (by first | rfl | (simp; done) | (simp [*]; done)), H', ⟨by have := HJ1.out; have := HK2.out; have := HJ16.out; first | omega | exact Nat.le_refl _⟩, ⟨zk BK108⟩, ⟨zk BK110⟩, ⟨zB HB⟩⟩
             case rest =>
              clear HC30
              try clear c1
              try clear p1
              try clear q1
              try clear hx1
              try clear c2
              try clear p2
              try clear c3
              try clear c4
              try clear c5
              try clear c5b0
              try clear c5b1
              try clear c6
              try clear p6
              try clear c7
              try clear c7b0
              try clear c9
              try clear c9b0
              try clear c9b1
              try clear p10
              try clear q10
              try clear hx10
              try clear c12
              try clear c13
              try clear c14
              try clear c14b0
              try clear c15
              try clear c15b0
              try clear c16
              try clear c16b0
              try clear c19
              try clear c21
              try clear c21b0
              try clear c21b1
              try clear c22
              try clear c24
              try clear c26
              try clear c27
              try clear c27b0
              try clear c27b1
              try clear c28
              try clear c31
              try clear c33
              try clear c33b0
              try clear c33b1
              try clear c34
              try clear c34b0
              try clear c35
              try clear c37
              try clear c37b0
              try clear c38
              try clear c41
              try clear c41b0
              try clear c42
              try clear c45
              try clear c48
              try clear c48b0
              try clear c48b1
              try clear c49
              try clear c49b0
              try clear c50
              try clear c52
              try clear c52b0
              try clear c53
              try clear c56
              try clear c56b0
              try clear c57
              try clear c60
              try clear c63
              try clear p64
              try clear hz10
              try clear hz11
              try clear hz13
              try clear hz20
              try clear hz23
              try clear hz25
              try clear hz29
              try clear hz32
              try clear hz36
              try clear hz39
              try clear hz40
              try clear hz43
              try clear hz44
              try clear hz46
              try clear hz47
              try clear hz4
              try clear hz51
              try clear hz54
              try clear hz55
              try clear hz58
              try clear hz59
              try clear hz61
              try clear hz62
              try clear hz64
              try clear hz6
              try clear hz8
              try clear hx109_0
              try clear hx109_1
              try clear hx109_2
              try clear hx109_3
              try clear p1
              try clear p10
              try clear p109
              try clear p2
              try clear q1
              try clear q10
              try clear q109
              obtain ⟨kq, x45_29, rfl, HA, HJ29, BK108, BK110, HB⟩ := hcut
              cases kq with
              | zero => exact absurd HA.out (by simp [counter_Valid.j3])
              | succ kj29 =>
               have H := HA.out
               clear HA
               simp only [counter_Valid.j3] at H
               by_cases c65 : x45_29 = true
               ·
                subst c65
                have H1 : (some false) = some r := by rw [if_pos rfl] at H; exact H
                clear H
                have H := H1
                clear H1
                obtain rfl := Option.some.inj H
                go_wp2
                go_ret
                exact ⟨by first | rfl | (simp [errW_none, errW_some] <;> rfl) | (simp [*, errW_none, errW_some] <;> rfl), zB HB⟩
               ·
                replace c65 := Bool.eq_false_iff.mpr c65
                subst c65
                have H1 : (if ((rd_T35 l0_1 x28_2).f0) = 0 then (if ((rd_T35 l0_1 x28_2).f3) = 0 then (if ((rd_T35 l0_1 x28_2).f3) < 0 then (some false) else (if ((rd_T35 l0_1 x28_2).f3) ≥ (l0_1.length : Int) then (some false) else (counter_Valid.l0 kj29 (l0_1.length : Int) l0_1 (l0_1.length : Int) (wrap64 (x28_2 + 1)) a0_0 l0_1))) else (some false)) else (if ((rd_T35 l0_1 x28_2).f3) < 0 then (some false) else (if ((rd_T35 l0_1 x28_2).f3) ≥ (l0_1.length : Int) then (some false) else (counter_Valid.l0 kj29 (l0_1.length : Int) l0_1 (l0_1.length : Int) (wrap64 (x28_2 + 1)) a0_0 l0_1)))) = some r := by rw [if_neg (show ¬ (false = true) by decide)] at H; exact H
                clear H
                have H := H1
                clear H1
                by_cases c66 : ((rd_T35 l0_1 x28_2).f0) = 0
                ·
                 rw [if_pos c66] at H
                 have c66b0 : (((rd_T35 l0_1 x28_2).f0) == 0) = true := beq_iff_eq.mpr c66
                 have c66b1 : (((rd_T35 l0_1 x28_2).f0) != 0) = false := bne_eq_false_iff_eq.mpr c66
                 clear c66
                 by_cases c67 : ((rd_T35 l0_1 x28_2).f3) = 0
                 ·
                  rw [if_pos c67] at H
                  have c67b0 : (((rd_T35 l0_1 x28_2).f3) == 0) = true := beq_iff_eq.mpr c67
                  have c67b1 : (((rd_T35 l0_1 x28_2).f3) != 0) = false := bne_eq_false_iff_eq.mpr c67
                  clear c67
                  by_cases c68 : ((rd_T35 l0_1 x28_2).f3) < 0
                  ·
                   rw [if_pos c68] at H
                   have c68b0 : decide (((rd_T35 l0_1 x28_2).f3) < 0) = true := decide_eq_true c68
                   clear c68
                   obtain rfl := Option.some.inj H
                   have hnb69 := NB110_108.out
                   have hnc69 := NB108_110.out
                   have hz70 := zc4 BK110
                   go_wp2
                   go_ret
                   exact ⟨by first | rfl | (simp [errW_none, errW_some] <;> rfl) | (simp [*, errW_none, errW_some] <;> rfl), zB HB⟩
                  ·
                   rw [if_neg c68] at H
                   have c68b0 : decide (((rd_T35 l0_1 x28_2).f3) < 0) = false := decide_eq_false c68
                   clear c68
                   by_cases c71 : ((rd_T35 l0_1 x28_2).f3) ≥ (l0_1.length : Int)
                   ·
                    rw [if_pos c71] at H
                    have c71b0 : decide ((l0_1.length : Int) ≤ ((rd_T35 l0_1 x28_2).f3)) = true := decide_eq_true c71
                    clear c71
                    obtain rfl := Option.some.inj H
                    have hnb72 := NB110_108.out
                    have hnc72 := NB108_110.out
                    have hz73 := zc4 BK110
                    go_wp2
                    go_ret
                    exact ⟨by first | rfl | (simp [errW_none, errW_some] <;> rfl) | (simp [*, errW_none, errW_some] <;> rfl), zB HB⟩
                   ·
                    rw [if_neg c71] at H
                    have c71b0 : decide ((l0_1.length : Int) ≤ ((rd_T35 l0_1 x28_2).f3)) = false := decide_eq_false c71
                    clear c71
                    have H' := Aside0.mk H
                    clear H
                    have hnb74 := NB110_108.out
                    have hnc74 := NB108_110.out
                    have hz75 := zc4 BK110
                    go_wp2
                    go_roundg kj29
                    case measure => have := HJ1.out; have := HK2.out; have := HJ16.out; have := HJ29.out; omega
                    case rel => exact ⟨(wrap64 (x28_2 + 1)), (by first | rfl | (simp; done) | (simp [*]; done)), H', ⟨by have := HJ1.out; have := HK2.out; have := HJ16.out; have := HJ29.out; omega⟩, ⟨zk BK108⟩, ⟨zB HB⟩⟩
                 ·
                  rw [if_neg c67] at H
                  have c67b0 : (((rd_T35 l0_1 x28_2).f3) == 0) = false := beq_eq_false_iff_ne.mpr c67
                  have c67b1 : (((rd_T35 l0_1 x28_2).f3) != 0) = true := bne_iff_ne.mpr c67
                  obtain rfl := Option.some.inj H
                  have hnb76 := NB110_108.out
                  have hnc76 := NB108_110.out
                  have hz77 := zc4 BK110
                  go_wp2
                  go_ret
                  exact ⟨by first | rfl | (simp [errW_none, errW_some] <;> rfl) | (simp [*, errW_none, errW_some] <;> rfl), zB HB⟩
                ·
                 rw [if_neg c66] at H
                 have c66b0 : (((rd_T35 l0_1 x28_2).f0) == 0) = false := beq_eq_false_iff_ne.mpr c66
                 have c66b1 : (((rd_T35 l0_1 x28_2).f0) != 0) = true := bne_iff_ne.mpr c66
                 by_cases c78 : ((rd_T35 l0_1 x28_2).f3) < 0
                 ·
                  rw [if_pos c78] at H
                  have c78b0 : decide (((rd_T35 l0_1 x28_2).f3) < 0) = true := decide_eq_true c78
                  clear c78
                  obtain rfl := Option.some.inj H
                  have hnb79 := NB110_108.out
                  have hnc79 := NB108_110.out
                  have hz80 := zc4 BK110
                  go_wp2
                  go_ret
                  exact ⟨by first | rfl | (simp [errW_none, errW_some] <;> rfl) | (simp [*, errW_none, errW_some] <;> rfl), zB HB⟩
                 ·
                  rw [if_neg c78] at H
                  have c78b0 : decide (((rd_T35 l0_1 x28_2).f3) < 0) = false := decide_eq_false c78
                  clear c78
                  by_cases c81 : ((rd_T35 l0_1 x28_2).f3) ≥ (l0_1.length : Int)
                  ·
                   rw [if_pos c81] at H
                   have c81b0 : decide ((l0_1.length : Int) ≤ ((rd_T35 l0_1 x28_2).f3)) = true := decide_eq_true c81
                   clear c81
                   obtain rfl := Option.some.inj H
                   have hnb82 := NB110_108.out
                   have hnc82 := NB108_110.out
                   have hz83 := zc4 BK110
                   go_wp2
                   go_ret
                   exact ⟨by first | rfl | (simp [errW_none, errW_some] <;> rfl) | (simp [*, errW_none, errW_some] <;> rfl), zB HB⟩
                  ·
                   rw [if_neg c81] at H
                   have c81b0 : decide ((l0_1.length : Int) ≤ ((rd_T35 l0_1 x28_2).f3)) = false := decide_eq_false c81
                   clear c81
                   have H' := Aside0.mk H
                   clear H
                   have hnb84 := NB110_108.out
                   have hnc84 := NB108_110.out
                   have hz85 := zc4 BK110
                   go_wp2
                   go_roundg kj29
                   case measure => have := HJ1.out; have := HK2.out; have := HJ16.out; have := HJ29.out; omega
                   case rel => exact ⟨(wrap64 (x28_2 + 1)), (by first | rfl | (simp; done) | (simp [*]; done)), H', ⟨by have := HJ1.out; have := HK2.out; have := HJ16.out; have := HJ29.out; omega⟩, ⟨zk BK108⟩, ⟨zB HB⟩⟩
        ·
         rw [if_neg c16] at H
         exact absurd H (by simp)
       ·
        rw [if_neg c15] at H
        exact absurd H (by simp)
      ·
       rw [if_neg c14] at H
       have c14b0 : decide (x28_2 < (l0_1.length : Int)) = false := decide_eq_false c14
       clear c14
       obtain rfl := Option.some.inj H
       go_wp2
       go_ret
       exact ⟨by first | rfl | (simp [errW_none, errW_some] <;> rfl) | (simp [*, errW_none, errW_some] <;> rfl), zB HB⟩

end Go.Proofs.Ytcdmgeceahmngaa.GC
