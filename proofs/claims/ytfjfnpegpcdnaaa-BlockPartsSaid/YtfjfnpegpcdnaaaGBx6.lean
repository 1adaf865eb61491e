/- The functions of one seat as Lean functions, each with its contract: the call of the Go function returns what the Lean function answers. Written by a program of this session out of the translation; contracts made by hand are laid between. -/
import Derived.Test.YtfjfnpegpcdnaaaGBx0
import Derived.Test.YtfjfnpegpcdnaaaGBx4
import Derived.Test.YtfjfnpegpcdnaaaGBx5
namespace Go.Proofs.Ytfjfnpegpcdnaaa.GB
open Go.RowKit Go.Proofs.YtfjfnpegpcdnaaaW.PrintWords Go.Proofs.YtfjfnpegpcdnaaaW.PrintLast Go.Proofs.YtfjfnpegpcdnaaaW.PrintMore
attribute [local go_sem] max2_int min2_int max_two min_two max_three min_three max_four min_four   -- for this text's walks alone
set_option linter.unusedVariables false
set_option linter.unusedSimpArgs false

/-! ### standstillref01_Parse: function 32 -/
mutual
def standstillref01_Parse.j3 : Nat → ByteArray → List (S57) → Int → Int → List (List (S57)) → Option (Int × Int × (List (List (S57))) × Bool)
 | 0, _, _, _, _, _ => none
 | k + 1, x0, x5, x152000, x152001, x152002 => if x152002.length < 5864062014805 then ((some (x152002 ++ [x5] : List (List (S57)))).bind fun y168 => ((standstillref01_Valid.f k x152000 (x5.length : Int) y168).bind fun t171 => (if t171 = true then ((standstillref01_Text.f k x152000 (x5.length : Int) y168).bind fun t172 => (if t172.toList = x0.toList then (some (x152000, (x5.length : Int), y168, true)) else (some (0, 0, ([] : List (List (S57))), false)))) else (some (0, 0, ([] : List (List (S57))), false))))) else (none)
def standstillref01_Parse.l0 : Nat → ByteArray → List (S57) → Int → Int → Int → List (List (S57)) → Option (Int × Int × (List (List (S57))) × Bool)
 | 0, _, _, _, _, _, _ => none
 | k + 1, x0, x5, x6, x152000, x152001, x152002 => if (wrap64 (x6 + 2)) < (x0.size : Int) then (standstillref01_Parse.j1 k x0 x5 x6 (decide ((x0.size : Int) ≤ 200)) x152000 x152001 x152002) else (standstillref01_Parse.j1 k x0 x5 x6 false x152000 x152001 x152002)
def standstillref01_Parse.j1 : Nat → ByteArray → List (S57) → Int → Bool → Int → Int → List (List (S57)) → Option (Int × Int × (List (List (S57))) × Bool)
 | 0, _, _, _, _, _, _, _ => none
 | k + 1, x0, x5, x6, x18, x152000, x152001, x152002 => if x18 = true then (if 0 ≤ x6 then (if x6 < (x0.size : Int) then (if (bt x0 x6) = 95 then (if x152002.length < 5864062014805 then (standstillref01_Parse.j2 k x0 ([] : List (S57)) (wrap64 (x6 + 1)) (wrap64 (x152000 + 1)) x152001 (x152002 ++ [x5])) else (none)) else (standstillref01_Parse.j2 k x0 x5 x6 x152000 x152001 x152002)) else (none)) else (none)) else (standstillref01_Parse.j3 k x0 x5 x152000 x152001 x152002)
def standstillref01_Parse.j2 : Nat → ByteArray → List (S57) → Int → Int → Int → List (List (S57)) → Option (Int × Int × (List (List (S57))) × Bool)
 | 0, _, _, _, _, _, _ => none
 | k + 1, x0, x5, x6, x152000, x152001, x152002 => if (wrap64 (x6 + 2)) ≥ (x0.size : Int) then (standstillref01_Parse.j3 k x0 x5 x152000 x152001 x152002) else (if 0 ≤ x6 then (if x6 < (x0.size : Int) then (if 0 ≤ (wrap64 (x6 + 2)) then (if (wrap64 (x6 + 2)) < (x0.size : Int) then (if 0 ≤ (wrap64 (x6 + 1)) then (if (wrap64 (x6 + 1)) < (x0.size : Int) then (if (bt x0 (wrap64 (x6 + 1))) = 76 then (if (bt x0 (wrap64 (x6 + 2))) = 90 then (if x5.length < 5864062014805 then (standstillref01_Parse.l0 k x0 (x5 ++ [(⟨wrap64 ((wrap64 (bt x0 x6)) - 48), (-1), (-1)⟩ : S57)]) (wrap64 (x6 + 3)) x152000 x152001 x152002) else (none)) else (if x5.length < 5864062014805 then (standstillref01_Parse.l0 k x0 (x5 ++ [(⟨wrap64 ((wrap64 (bt x0 x6)) - 48), (-1), wrap64 ((wrap64 (bt x0 (wrap64 (x6 + 2)))) - 65)⟩ : S57)]) (wrap64 (x6 + 3)) x152000 x152001 x152002) else (none))) else (if (bt x0 (wrap64 (x6 + 2))) = 90 then (if x5.length < 5864062014805 then (standstillref01_Parse.l0 k x0 (x5 ++ [(⟨wrap64 ((wrap64 (bt x0 x6)) - 48), 1, (-1)⟩ : S57)]) (wrap64 (x6 + 3)) x152000 x152001 x152002) else (none)) else (if x5.length < 5864062014805 then (standstillref01_Parse.l0 k x0 (x5 ++ [(⟨wrap64 ((wrap64 (bt x0 x6)) - 48), 1, wrap64 ((wrap64 (bt x0 (wrap64 (x6 + 2)))) - 65)⟩ : S57)]) (wrap64 (x6 + 3)) x152000 x152001 x152002) else (none)))) else (none)) else (none)) else (none)) else (none)) else (none)) else (none))
end
def standstillref01_Parse.f (k : Nat) (a0 : ByteArray) : Option (Int × Int × (List (List (S57))) × Bool) := standstillref01_Parse.l0 k a0 ([] : List (S57)) 0 1 0 ([] : List (List (S57)))
theorem standstillref01_Parse.mono_l : ∀ k, (∀ y0 y1 y2 y3 y4, LeO (standstillref01_Parse.j3 k y0 y1 y2 y3 y4) (standstillref01_Parse.j3 (k + 1) y0 y1 y2 y3 y4)) ∧ (∀ y0 y1 y2 y3 y4 y5, LeO (standstillref01_Parse.l0 k y0 y1 y2 y3 y4 y5) (standstillref01_Parse.l0 (k + 1) y0 y1 y2 y3 y4 y5)) ∧ (∀ y0 y1 y2 y3 y4 y5 y6, LeO (standstillref01_Parse.j1 k y0 y1 y2 y3 y4 y5 y6) (standstillref01_Parse.j1 (k + 1) y0 y1 y2 y3 y4 y5 y6)) ∧ (∀ y0 y1 y2 y3 y4 y5, LeO (standstillref01_Parse.j2 k y0 y1 y2 y3 y4 y5) (standstillref01_Parse.j2 (k + 1) y0 y1 y2 y3 y4 y5))
 | 0 => ⟨fun _ _ _ _ _ r h => by simp [standstillref01_Parse.j3] at h, fun _ _ _ _ _ _ r h => by simp [standstillref01_Parse.l0] at h, fun _ _ _ _ _ _ _ r h => by simp [standstillref01_Parse.j1] at h, fun _ _ _ _ _ _ r h => by simp [standstillref01_Parse.j2] at h⟩
 | k + 1 => by
  obtain ⟨ih0, ih1, ih2, ih3⟩ := standstillref01_Parse.mono_l k
  refine ⟨?_, ?_, ?_, ?_⟩
  ·
   intro y0 y1 y2 y3 y4
   unfold standstillref01_Parse.j3
   repeat' first
   | (with_reducible exact ih0 _ _ _ _ _)
   | (with_reducible exact ih1 _ _ _ _ _ _)
   | (with_reducible exact ih2 _ _ _ _ _ _ _)
   | (with_reducible exact ih3 _ _ _ _ _ _)
   | (with_reducible exact standstillref01_Text.mono _ _ _ _)
   | (with_reducible exact standstillref01_Valid.mono _ _ _ _)
   | (with_reducible exact LeO.refl _)
   | (with_reducible exact LeO.none _)
   | (with_reducible refine LeO.ite ?_ ?_)
   | (with_reducible refine LeO.bind ?_ (fun _ => ?_))
   | exact ih0 _ _ _ _ _
   | exact ih1 _ _ _ _ _ _
   | exact ih2 _ _ _ _ _ _ _
   | exact ih3 _ _ _ _ _ _
   | exact standstillref01_Text.mono _ _ _ _
   | exact standstillref01_Valid.mono _ _ _ _
   | exact LeO.none _
   | refine LeO.ite ?_ ?_
   | refine LeO.bind ?_ (fun _ => ?_)
  ·
   intro y0 y1 y2 y3 y4 y5
   unfold standstillref01_Parse.l0
   repeat' first
   | (with_reducible exact ih0 _ _ _ _ _)
   | (with_reducible exact ih1 _ _ _ _ _ _)
   | (with_reducible exact ih2 _ _ _ _ _ _ _)
   | (with_reducible exact ih3 _ _ _ _ _ _)
   | (with_reducible exact standstillref01_Text.mono _ _ _ _)
   | (with_reducible exact standstillref01_Valid.mono _ _ _ _)
   | (with_reducible exact LeO.refl _)
   | (with_reducible exact LeO.none _)
   | (with_reducible refine LeO.ite ?_ ?_)
   | (with_reducible refine LeO.bind ?_ (fun _ => ?_))
   | exact ih0 _ _ _ _ _
   | exact ih1 _ _ _ _ _ _
   | exact ih2 _ _ _ _ _ _ _
   | exact ih3 _ _ _ _ _ _
   | exact standstillref01_Text.mono _ _ _ _
   | exact standstillref01_Valid.mono _ _ _ _
   | exact LeO.none _
   | refine LeO.ite ?_ ?_
   | refine LeO.bind ?_ (fun _ => ?_)
  ·
   intro y0 y1 y2 y3 y4 y5 y6
   unfold standstillref01_Parse.j1
   repeat' first
   | (with_reducible exact ih0 _ _ _ _ _)
   | (with_reducible exact ih1 _ _ _ _ _ _)
   | (with_reducible exact ih2 _ _ _ _ _ _ _)
   | (with_reducible exact ih3 _ _ _ _ _ _)
   | (with_reducible exact standstillref01_Text.mono _ _ _ _)
   | (with_reducible exact standstillref01_Valid.mono _ _ _ _)
   | (with_reducible exact LeO.refl _)
   | (with_reducible exact LeO.none _)
   | (with_reducible refine LeO.ite ?_ ?_)
   | (with_reducible refine LeO.bind ?_ (fun _ => ?_))
   | exact ih0 _ _ _ _ _
   | exact ih1 _ _ _ _ _ _
   | exact ih2 _ _ _ _ _ _ _
   | exact ih3 _ _ _ _ _ _
   | exact standstillref01_Text.mono _ _ _ _
   | exact standstillref01_Valid.mono _ _ _ _
   | exact LeO.none _
   | refine LeO.ite ?_ ?_
   | refine LeO.bind ?_ (fun _ => ?_)
  ·
   intro y0 y1 y2 y3 y4 y5
   unfold standstillref01_Parse.j2
   repeat' first
   | (with_reducible exact ih0 _ _ _ _ _)
   | (with_reducible exact ih1 _ _ _ _ _ _)
   | (with_reducible exact ih2 _ _ _ _ _ _ _)
   | (with_reducible exact ih3 _ _ _ _ _ _)
   | (with_reducible exact standstillref01_Text.mono _ _ _ _)
   | (with_reducible exact standstillref01_Valid.mono _ _ _ _)
   | (with_reducible exact LeO.refl _)
   | (with_reducible exact LeO.none _)
   | (with_reducible refine LeO.ite ?_ ?_)
   | (with_reducible refine LeO.bind ?_ (fun _ => ?_))
   | exact ih0 _ _ _ _ _
   | exact ih1 _ _ _ _ _ _
   | exact ih2 _ _ _ _ _ _ _
   | exact ih3 _ _ _ _ _ _
   | exact standstillref01_Text.mono _ _ _ _
   | exact standstillref01_Valid.mono _ _ _ _
   | exact LeO.none _
   | refine LeO.ite ?_ ?_
   | refine LeO.bind ?_ (fun _ => ?_)
theorem standstillref01_Parse.mono : ∀ a0 k, LeO (standstillref01_Parse.f k a0) (standstillref01_Parse.f (k + 1) a0) := by
 intro a0 k
 obtain ⟨ih0, ih1, ih2, ih3⟩ := standstillref01_Parse.mono_l k
 unfold standstillref01_Parse.f
 repeat' first
   | (with_reducible exact ih0 _ _ _ _ _)
   | (with_reducible exact ih1 _ _ _ _ _ _)
   | (with_reducible exact ih2 _ _ _ _ _ _ _)
   | (with_reducible exact ih3 _ _ _ _ _ _)
   | (with_reducible exact standstillref01_Text.mono _ _ _ _)
   | (with_reducible exact standstillref01_Valid.mono _ _ _ _)
   | (with_reducible exact LeO.refl _)
   | (with_reducible exact LeO.none _)
   | (with_reducible refine LeO.ite ?_ ?_)
   | (with_reducible refine LeO.bind ?_ (fun _ => ?_))
   | exact ih0 _ _ _ _ _
   | exact ih1 _ _ _ _ _ _
   | exact ih2 _ _ _ _ _ _ _
   | exact ih3 _ _ _ _ _ _
   | exact standstillref01_Text.mono _ _ _ _
   | exact standstillref01_Valid.mono _ _ _ _
   | exact LeO.none _
   | refine LeO.ite ?_ ?_
   | refine LeO.bind ?_ (fun _ => ?_)
def standstillref01_Parse.T12 : Bool × List (List Nat × List Nat) := (true, [([], []), ([], []), ([0, 1], [0, 1]), ([2], [2]), ([3], [3]), ([], []), ([], []), ([6], [6]), ([5, 7], [5, 7]), ([8], [8]), ([9], [9]), ([4, 10], [4, 10]), ([], []), ([12, 11, 0, 1, 2, 3, 4, 5, 6, 7, 8, 9, 10, 11, 12], [11, 12])])
def standstillref01_Parse.B12 : List Nat := [0, 0, 3, 7, 15, 0, 0, 64, 224, 480, 992, 2047, 0, 8191]
theorem standstillref01_Parse.tab12 : rtab .any (opsOf Try.f32 12) = standstillref01_Parse.T12 := by kernel_rfl
theorem standstillref01_Parse.bits12 : waitsOk standstillref01_Parse.T12.2 standstillref01_Parse.B12 = true := by kernel_rfl
set_option maxHeartbeats 8000000 in
set_option maxRecDepth 100000 in
theorem standstillref01_Parse.calls (k : Nat) (a0 : ByteArray) (r1 : Int) (r2 : Int) (r3 : List (List (S57))) (r4 : Bool) (w : World) (h : standstillref01_Parse.f k a0 = some (r1, r2, r3, r4)) :
  Calls Try.prog 32 #[.string a0] w fun e w' => ∃ v2_ : Value, e = .returned (.tuple #[.agg #[.int .i64 r1, .int .i64 r2, v2_], .bool r4]) ∧ Kd.S (Kd.slice 57 k57) 54 w' w.heap.size (fun _ => True) v2_ r3 ∧ Below w.heap.size w w' := by
 have hu24 := Try.underlying24
 have hu57 := Try.underlying57
 have HB := Aside0.mk (Below.refl w.heap.size w)
 have H : (standstillref01_Parse.l0 k a0 ([] : List (S57)) 0 1 0 ([] : List (List (S57)))) = some (r1, r2, r3, r4) := h
 clear h
 have HC2 := Aside0.mk H
 clear H
 go_enter Try.func32, Try.ntmps32
 go_upto_block 0 with (first | ((with_reducible refine gate_dst (N := 2) rfl ?_); (try (refine gate_guard (by rfl) ?_; dsimp only)); refine box_event ?hg (N := 2) ?hd (cs := #[.int .i64 0, .int .i64 0, .slice none 0 0]) (t := 24) ?hr ?_; (case hd => rfl); (case hg => rfl); (case hr => first | (go_simp; done) | (go_simp; rfl)); intro gb150 hg w3 hbox hb; have BK150 := Aside0.mk (hbox); have GW150 := Aside0.mk ((by rw [hg]; exact (below_size (zB HB)) : w.heap.size ≤ gb150)); have GE150 := Aside0.mk ((by rw [hg]; exact (below_size (zB HB)) : w.heap.size ≤ gb150)); replace HB := Aside0.mk (below_step (zB HB) hb); clear hb hbox hg) | ((with_reducible refine gate_dst (N := 4) rfl ?_); (try (refine gate_guard (by rfl) ?_; dsimp only)); refine box_event ?hg (N := 4) ?hd (cs := #[.int .i64 0, .int .i64 0, .slice none 0 0]) (t := 24) ?hr ?_; (case hd => rfl); (case hg => rfl); (case hr => first | (go_simp; done) | (go_simp; rfl)); intro gb151 hg w4 hbox hb; have BK151 := Aside0.mk (hbox); have GW151 := Aside0.mk ((by rw [hg]; exact (below_size (zB HB)) : w.heap.size ≤ gb151)); have GE151 := Aside0.mk ((by rw [hg]; exact (below_size (zB HB)) : w.heap.size ≤ gb151)); have NB150_151 := Aside0.mk ((by rw [hg]; exact Nat.ne_of_lt (zL BK150) : gb150 ≠ gb151)); have NB151_150 := Aside0.mk ((by rw [hg]; exact Nat.ne_of_gt (zL BK150) : gb151 ≠ gb150)); replace BK150 := Aside0.mk (zb BK150 hb); replace HB := Aside0.mk (below_step (zB HB) hb); clear hb hbox hg; have hnb5 := NB151_150.out; have hnc5 := NB150_151.out; have hz6 := zc3 BK151))
 (try simp only [Act.put, zs, zs0, zs1])
 go_cut [5] (fun v5 wc => ∃ (kq : Nat) (x5_1 : List (S57)) (x152000_1 : Int) (x152002_1 : List (List (S57))) (u152002 : Value), Aside0 (standstillref01_Parse.j3 kq a0 x5_1 x152000_1 0 x152002_1 = some (r1, r2, r3, r4)) ∧ Aside0 (kq ≤ k) ∧ Aside0 (Kd.R k57 57 wc w.heap.size (fun _ => True) v5 x5_1) ∧ Aside0 (Kd.S (Kd.slice 57 k57) 54 wc w.heap.size (fun k_ => some k_ ≠ (v5 : Value).ownBlock) u152002 x152002_1) ∧ Aside0 (wc.heap[gb150]? = some (.cells #[.int .i64 0, .int .i64 0, (.slice none 0 0)] 24 (0, 0))) ∧ Aside0 (wc.heap[gb151]? = some (.cells #[.int .i64 x152000_1, .int .i64 0, u152002] 24 (0, 0))) ∧ Aside0 (Below w.heap.size w wc))
 case first =>
  have H := HC2.out
  clear HC2
  have H' := Aside0.mk H
  clear H
  go_wp2
  go_loopg [5, 6] k (fun kq v5 v6 w' => ∃ (x5_1 : List (S57)) (x6_1 : Int) (x152000_1 : Int) (x152002_1 : List (List (S57))) (u152002 : Value), v6 = .int .i64 x6_1 ∧ Aside0 (standstillref01_Parse.l0 kq a0 x5_1 x6_1 x152000_1 0 x152002_1 = some (r1, r2, r3, r4)) ∧ Aside0 (kq ≤ k) ∧ Aside0 (Kd.R k57 57 w' w.heap.size (fun _ => True) v5 x5_1) ∧ Aside0 (Kd.S (Kd.slice 57 k57) 54 w' w.heap.size (fun k_ => some k_ ≠ (v5 : Value).ownBlock) u152002 x152002_1) ∧ Aside0 (w'.heap[gb150]? = some (.cells #[.int .i64 0, .int .i64 0, (.slice none 0 0)] 24 (0, 0))) ∧ Aside0 (w'.heap[gb151]? = some (.cells #[.int .i64 x152000_1, .int .i64 0, u152002] 24 (0, 0))) ∧ Aside0 (Below w.heap.size w w'))
  case atStart => exact ⟨(([] : List (S57))), (0), (1), (([] : List (List (S57)))), (.slice none 0 0), (by first | rfl | (simp; done) | (simp [*]; done)), H', ⟨Nat.le_refl _⟩, ⟨by first | exact Kd.R_nil _ _ _ _ _ | exact Kd.N_nil _ _ _ _ _ | exact Kd.V_nil _ _ _ _ _ | exact Kd.Q_nil _ _ _ _ _ | exact Kd.S_nil _ _ _ _ _⟩, ⟨by first | exact Kd.S_nil _ _ _ _ _ | exact Kd.N_nil _ _ _ _ _ | exact Kd.V_nil _ _ _ _ _ | exact Kd.Q_nil _ _ _ _ _ | exact Kd.R_nil _ _ _ _ _⟩, ⟨zK BK150⟩, ⟨by (with_reducible repeat (first | refine blk_drewN ?_ _ | refine blk_drew ?_ | refine blk_alloc ?_ _)); refine blk_put (cs := #[.int .i64 1, .int .i64 0, .slice none 0 0]) ?_ 2 _ rfl; (with_reducible repeat (first | refine blk_drewN ?_ _ | refine blk_drew ?_ | refine blk_alloc ?_ _)); refine blk_put (cs := #[.int .i64 1, .int .i64 0, .slice none 0 0]) ?_ 1 _ rfl; (with_reducible repeat (first | refine blk_drewN ?_ _ | refine blk_drew ?_ | refine blk_alloc ?_ _)); refine blk_put (cs := #[.int .i64 0, .int .i64 0, .slice none 0 0]) ?_ 0 _ rfl; (with_reducible repeat (first | refine blk_drewN ?_ _ | refine blk_drew ?_ | refine blk_alloc ?_ _)); exact BK151.out⟩, ⟨zB HB⟩⟩
  case round =>
   clear H'
   try clear p2
   try clear c3
   try clear c5
   try clear hz6
   obtain ⟨x5_1, x6_1, x152000_1, x152002_1, u152002, rfl, HA, HK1, HO_5, HO_152002, BK150, BK151, HB⟩ := hrel
   cases gk with
   | zero => exact absurd HA.out (by simp [standstillref01_Parse.l0])
   | succ k1 =>
    have H := HA.out
    clear HA
    simp only [standstillref01_Parse.l0] at H
    have HC7 := Aside0.mk H
    clear H
    go_upto_region 4 with (fail)
    go_cut [18] (fun v18 wc => ∃ (kq : Nat) (x18_6 : Bool), v18 = .bool x18_6 ∧ Aside0 (standstillref01_Parse.j1 kq a0 x5_1 x6_1 x18_6 x152000_1 0 x152002_1 = some (r1, r2, r3, r4)) ∧ Aside0 (kq ≤ k1) ∧ Aside0 (Kd.R k57 57 wc w.heap.size (fun _ => True) u5 x5_1) ∧ Aside0 (Kd.S (Kd.slice 57 k57) 54 wc w.heap.size (fun k_ => some k_ ≠ (u5 : Value).ownBlock) u152002 x152002_1) ∧ Aside0 (wc.heap[gb150]? = some (.cells #[.int .i64 0, .int .i64 0, (.slice none 0 0)] 24 (0, 0))) ∧ Aside0 (wc.heap[gb151]? = some (.cells #[.int .i64 x152000_1, .int .i64 0, u152002] 24 (0, 0))) ∧ Aside0 (Below w.heap.size w wc))
    case first =>
     have H := HC7.out
     clear HC7
     by_cases c8 : (wrap64 (x6_1 + 2)) < (a0.size : Int)
     ·
      rw [if_pos c8] at H
      have c8b0 : decide ((wrap64 (x6_1 + 2)) < (a0.size : Int)) = true := decide_eq_true c8
      clear c8
      (first | rw [c8b0] | (simp only [i64_w, i32_w]; rw [c8b0]) | skip)
      (try rw [c8b1])
      have H' := Aside0.mk H
      clear H
      go_wp2
      go_meet
      case rel => exact ⟨_, (decide ((a0.size : Int) ≤ 200)), (by first | rfl | (simp; done) | (simp [*]; done)), H', ⟨by have := HK1.out; first | omega | exact Nat.le_refl _⟩, ⟨zR HO_5⟩, ⟨zS HO_152002⟩, ⟨zk BK150⟩, ⟨zk BK151⟩, ⟨zB HB⟩⟩
     ·
      rw [if_neg c8] at H
      have c8b0 : decide ((wrap64 (x6_1 + 2)) < (a0.size : Int)) = false := decide_eq_false c8
      clear c8
      (first | rw [c8b0] | (simp only [i64_w, i32_w]; rw [c8b0]) | skip)
      (try rw [c8b1])
      have H' := Aside0.mk H
      clear H
      go_wp2
      go_meet
      case rel => exact ⟨_, (false), (by first | rfl | (simp; done) | (simp [*]; done)), H', ⟨by have := HK1.out; first | omega | exact Nat.le_refl _⟩, ⟨zR HO_5⟩, ⟨zS HO_152002⟩, ⟨zk BK150⟩, ⟨zk BK151⟩, ⟨zB HB⟩⟩
    case rest =>
     clear HC7
     try clear p2
     try clear c3
     try clear c5
     try clear p6
     try clear c8
     try clear c8b0
     try clear c8b1
     try clear hz6
     try clear p2
     obtain ⟨kq, x18_6, rfl, HA, HJ6, HO_5, HO_152002, BK150, BK151, HB⟩ := hcut
     cases kq with
     | zero => exact absurd HA.out (by simp [standstillref01_Parse.j1])
     | succ kj6 =>
      have H := HA.out
      clear HA
      simp only [standstillref01_Parse.j1] at H
      by_cases c9 : x18_6 = true
      ·
       subst c9
       have H1 : (if 0 ≤ x6_1 then (if x6_1 < (a0.size : Int) then (if (bt a0 x6_1) = 95 then (if x152002_1.length < 5864062014805 then (standstillref01_Parse.j2 kj6 a0 ([] : List (S57)) (wrap64 (x6_1 + 1)) (wrap64 (x152000_1 + 1)) 0 (x152002_1 ++ [x5_1])) else (none)) else (standstillref01_Parse.j2 kj6 a0 x5_1 x6_1 x152000_1 0 x152002_1)) else (none)) else (none)) = some (r1, r2, r3, r4) := by rw [if_pos rfl] at H; exact H
       clear H
       have H := H1
       clear H1
       by_cases c10 : 0 ≤ x6_1
       ·
        rw [if_pos c10] at H
        have c10b0 : decide (0 ≤ x6_1) = true := decide_eq_true c10
        clear c10
        by_cases c11 : x6_1 < (a0.size : Int)
        ·
         rw [if_pos c11] at H
         have c11b0 : decide (x6_1 < (a0.size : Int)) = true := decide_eq_true c11
         clear c11
         have HC13 := Aside0.mk H
         clear H
         have p12 : 0 ≤ (x6_1 : Int) := of_decide_eq_true (by first | (with_reducible assumption) | assumption)
         have q12 : x6_1 < (a0.size : Int) := of_decide_eq_true (by first | (with_reducible assumption) | assumption)
         have hx12 := bt_at a0 x6_1
         replace p12 := eq_true p12
         replace q12 := eq_true q12
         go_upto_if 24 with (fail)
         go_cut [5, 6] (fun v5 v6 wc => ∃ (kq : Nat) (x5_12 : List (S57)) (x6_12 : Int) (x152000_12 : Int) (x152002_12 : List (List (S57))) (u152002 : Value), v6 = .int .i64 x6_12 ∧ Aside0 (standstillref01_Parse.j2 kq a0 x5_12 x6_12 x152000_12 0 x152002_12 = some (r1, r2, r3, r4)) ∧ Aside0 (kq ≤ kj6) ∧ Aside0 (Kd.R k57 57 wc w.heap.size (fun _ => True) v5 x5_12) ∧ Aside0 (Kd.S (Kd.slice 57 k57) 54 wc w.heap.size (fun k_ => some k_ ≠ (v5 : Value).ownBlock) u152002 x152002_12) ∧ Aside0 (wc.heap[gb150]? = some (.cells #[.int .i64 0, .int .i64 0, (.slice none 0 0)] 24 (0, 0))) ∧ Aside0 (wc.heap[gb151]? = some (.cells #[.int .i64 x152000_12, .int .i64 0, u152002] 24 (0, 0))) ∧ Aside0 (Below w.heap.size w wc))
         case first =>
          have H := HC13.out
          clear HC13
          by_cases c14 : (bt a0 x6_1) = 95
          ·
           rw [if_pos c14] at H
           have c14b0 : ((bt a0 x6_1) == 95) = true := beq_iff_eq.mpr c14
           have c14b1 : ((bt a0 x6_1) != 95) = false := bne_eq_false_iff_eq.mpr c14
           clear c14
           (first | rw [c14b0] | (simp only [i64_w, i32_w]; rw [c14b0]) | skip)
           (try rw [c14b1])
           by_cases c15 : x152002_1.length < 5864062014805
           ·
            rw [if_pos c15] at H
            have LMc15 := Aside0.mk c15
            clear c15
            obtain ⟨y152, hy152⟩ : ∃ y_ : List (List (S57)), y_ = (x152002_1 ++ [x5_1]) := ⟨_, rfl⟩
            replace H : (standstillref01_Parse.j2 kj6 a0 ([] : List (S57)) (wrap64 (x6_1 + 1)) (wrap64 (x152000_1 + 1)) 0 y152) = some (r1, r2, r3, r4) := by first | (rw [hy152]; with_reducible exact H) | (have H2_ := (Option.bind_some _ _).symm.trans H; rw [hy152]; with_reducible exact H2_) | (have H2_ := (Option.bind_some _ _).symm.trans H; with_reducible exact H2_) | with_reducible exact H | (rw [hy152]; exact H) | exact H
            have Ny152 := Aside0.mk hy152
            clear hy152
            have H' := Aside0.mk H
            clear H
            have hnb16 := NB151_150.out
            have hnc16 := NB150_151.out
            have hz17 := zc3 BK151
            obtain ⟨Ao19, co19, eo19⟩ := Kd.R_slice HO_5.out
            subst eo19
            go_wp2_with (first | ((with_reducible refine gate_builtin (b := .append) (xs := #[.tmp 26, .tmp 28]) rfl ?_); (try (refine gate_guard (by rfl) ?_; dsimp only)); at_builtin; refine Kd.S_append (Kd.slice 57 k57) (w0 := w) w.heap.size rfl (.tmp 26) (.tmp 28) 22 54 (.slice none 0 0) 24 rfl Try.underlying22 info54 rfl (by decide) (by omega) u152002 x152002_1 x5_1 [.slice Ao19 x5_1.length co19] (fun _ => True) (fun k_ => some k_ = (.slice Ao19 x5_1.length co19 : Value).ownBlock) rfl rfl ?aP (fun k_ hk_ => ((Kd.R_mono (ok' := fun k_ => ((fun _ => True)) k_ ∧ some k_ ≠ (u152002 : Value).ownBlock) (Kd.R_apart' (HO_5.out) (Kd.S_typed HO_152002.out) (by decide)) (fun k_ hk => ⟨trivial, hk.2⟩))).1 k_ hk_.symm) ?aF ?aO ?aB ?aS ?aL ?_; (case aP => exact Kd.M_row (Kd.R_mono (Kd.R_tight rfl (Kd.R_mono (ok' := fun k_ => ((fun _ => True)) k_ ∧ some k_ ≠ (u152002 : Value).ownBlock) (Kd.R_apart' (HO_5.out) (Kd.S_typed HO_152002.out) (by decide)) (fun k_ hk => ⟨trivial, hk.2⟩))) (fun _ h_ => h_))); (case aB => exact (zB HB)); (case aF => exact (fun _ _ => trivial)); (case aO => exact (by (with_reducible repeat (first | apply Kd.S_alloc | apply Kd.S_drewN | apply Kd.S_drew)); exact Kd.S_mono HO_152002.out (fun k_ hk => ⟨trivial, fun e_ => hk e_⟩))); (case aS => exact (below_size (zB HB))); (case aL => have := LMc15.out; omega); intro v153 w18 ho hb hg hat; rw [← Ny152.out] at ho; have n0_ := Aside0.mk (blk_grown (g := gb150) (o := .cells #[.int .i64 0, .int .i64 0, .slice none 0 0] 24 (0, 0)) (zk BK150) hg (Kd.S_ne HO_152002.out BK150.out (by decide))); have n1_ := Aside0.mk (blk_grown (g := gb151) (o := .cells #[.int .i64 x152000_1, .int .i64 0, u152002] 24 (0, 0)) (zk BK151) hg (Kd.S_ne HO_152002.out BK151.out (by decide))); have n2_ := Aside0.mk (hb); have n3_ := Aside0.mk (ho); clear BK150; clear BK151; clear HB; clear HO_152002; clear HO_5; have BK150 := n0_; have BK151 := n1_; have HB := n2_; have HO154 := n3_; clear n0_ n1_ n2_ n3_; clear ho hb hg hat; obtain ⟨Ao20, co20, eo20⟩ := Kd.S_slice HO154.out; subst eo20; have hz21 := zc3 BK151))
            go_meet
            case rel => exact ⟨_, (([] : List (S57))), (wrap64 (x6_1 + 1)), (wrap64 (x152000_1 + 1)), (y152), (.slice Ao20 y152.length co20), (by first | rfl | (simp; done) | (simp [*]; done)), H', ⟨by have := HK1.out; have := HJ6.out; first | omega | exact Nat.le_refl _⟩, ⟨by first | exact Kd.R_nil _ _ _ _ _ | exact Kd.N_nil _ _ _ _ _ | exact Kd.V_nil _ _ _ _ _ | exact Kd.Q_nil _ _ _ _ _ | exact Kd.S_nil _ _ _ _ _⟩, ⟨by (with_reducible repeat (first | apply Kd.S_alloc | apply Kd.S_drewN | apply Kd.S_drew)); exact Kd.S_mono (zSf2 (g := gb151) (Kd.S_types HO154.out BK151.out (by decide))) (fun _ hk => (by simp [Value.ownBlock]))⟩, ⟨zK BK150⟩, ⟨by (with_reducible repeat (first | refine blk_drewN ?_ _ | refine blk_drew ?_ | refine blk_alloc ?_ _)); refine blk_put (cs := #[.int .i64 x152000_1, .int .i64 0, .slice Ao20 y152.length co20]) ?_ 0 _ rfl; (with_reducible repeat (first | refine blk_drewN ?_ _ | refine blk_drew ?_ | refine blk_alloc ?_ _)); refine blk_put (cs := #[.int .i64 x152000_1, .int .i64 0, u152002]) ?_ 2 _ rfl; (with_reducible repeat (first | refine blk_drewN ?_ _ | refine blk_drew ?_ | refine blk_alloc ?_ _)); exact BK151.out⟩, ⟨zB HB⟩⟩
           ·
            rw [if_neg c15] at H
            exact absurd H (by simp)
          ·
           rw [if_neg c14] at H
           have c14b0 : ((bt a0 x6_1) == 95) = false := beq_eq_false_iff_ne.mpr c14
           have c14b1 : ((bt a0 x6_1) != 95) = true := bne_iff_ne.mpr c14
           (first | rw [c14b0] | (simp only [i64_w, i32_w]; rw [c14b0]) | skip)
           (try rw [c14b1])
           have H' := Aside0.mk H
           clear H
           go_wp2
           go_meet
           case rel => exact ⟨_, (x5_1), (x6_1), (x152000_1), (x152002_1), (u152002), (by first | rfl | (simp; done) | (simp [*]; done)), H', ⟨by have := HK1.out; have := HJ6.out; first | omega | exact Nat.le_refl _⟩, ⟨zR HO_5⟩, ⟨zS HO_152002⟩, ⟨zk BK150⟩, ⟨zk BK151⟩, ⟨zB HB⟩⟩
         case rest =>
          clear HC13
          try clear c1
          try clear p1
          try clear q1
          try clear hx1
          try clear p2
          try clear c3
          try clear c5
          try clear p6
          try clear c8
          try clear c8b0
          try clear c8b1
          try clear c9
          try clear c10
          try clear c10b0
          try clear c11
          try clear c11b0
          try clear p12
          try clear q12
          try clear hx12
          try clear c14
          try clear c14b0
          try clear c14b1
          try clear c15
          try clear c16
          try clear hz17
          try clear hz21
          try clear hz6
          try clear p12
          try clear p2
          try clear p6
          try clear q12
          obtain ⟨kq, x5_12, x6_12, x152000_12, x152002_12, u152002, rfl, HA, HJ12, HO_5, HO_152002, BK150, BK151, HB⟩ := hcut
          cases kq with
          | zero => exact absurd HA.out (by simp [standstillref01_Parse.j2])
          | succ kj12 =>
           have H := HA.out
           clear HA
           simp only [standstillref01_Parse.j2] at H
           by_cases c22 : (wrap64 (x6_12 + 2)) ≥ (a0.size : Int)
           ·
            rw [if_pos c22] at H
            have c22b0 : decide ((a0.size : Int) ≤ (wrap64 (x6_12 + 2))) = true := decide_eq_true c22
            clear c22
            have H' := Aside0.mk H
            clear H
            go_wp2
            go_meet
            case rel => exact ⟨_, (x5_12), (x152000_12), (x152002_12), (u152002), H', ⟨by have := HK1.out; have := HJ6.out; have := HJ12.out; first | omega | exact Nat.le_refl _⟩, ⟨zR HO_5⟩, ⟨zS HO_152002⟩, ⟨zk BK150⟩, ⟨zk BK151⟩, ⟨zB HB⟩⟩
           ·
            rw [if_neg c22] at H
            have c22b0 : decide ((a0.size : Int) ≤ (wrap64 (x6_12 + 2))) = false := decide_eq_false c22
            clear c22
            by_cases c23 : 0 ≤ x6_12
            ·
             rw [if_pos c23] at H
             have c23b0 : decide (0 ≤ x6_12) = true := decide_eq_true c23
             clear c23
             by_cases c24 : x6_12 < (a0.size : Int)
             ·
              rw [if_pos c24] at H
              have c24b0 : decide (x6_12 < (a0.size : Int)) = true := decide_eq_true c24
              clear c24
              obtain ⟨ji26, hji26⟩ : ∃ j_ : Int, (wrap64 (x6_12 + 2)) = j_ := ⟨_, rfl⟩
              replace H : (if 0 ≤ (ji26) then (if (ji26) < (a0.size : Int) then (if 0 ≤ (wrap64 (x6_12 + 1)) then (if (wrap64 (x6_12 + 1)) < (a0.size : Int) then (if (bt a0 (wrap64 (x6_12 + 1))) = 76 then (if (bt a0 (ji26)) = 90 then (if x5_12.length < 5864062014805 then (standstillref01_Parse.l0 kj12 a0 (x5_12 ++ [(⟨wrap64 ((wrap64 (bt a0 x6_12)) - 48), (-1), (-1)⟩ : S57)]) (wrap64 (x6_12 + 3)) x152000_12 0 x152002_12) else (none)) else (if x5_12.length < 5864062014805 then (standstillref01_Parse.l0 kj12 a0 (x5_12 ++ [(⟨wrap64 ((wrap64 (bt a0 x6_12)) - 48), (-1), wrap64 ((wrap64 (bt a0 (ji26))) - 65)⟩ : S57)]) (wrap64 (x6_12 + 3)) x152000_12 0 x152002_12) else (none))) else (if (bt a0 (ji26)) = 90 then (if x5_12.length < 5864062014805 then (standstillref01_Parse.l0 kj12 a0 (x5_12 ++ [(⟨wrap64 ((wrap64 (bt a0 x6_12)) - 48), 1, (-1)⟩ : S57)]) (wrap64 (x6_12 + 3)) x152000_12 0 x152002_12) else (none)) else (if x5_12.length < 5864062014805 then (standstillref01_Parse.l0 kj12 a0 (x5_12 ++ [(⟨wrap64 ((wrap64 (bt a0 x6_12)) - 48), 1, wrap64 ((wrap64 (bt a0 (ji26))) - 65)⟩ : S57)]) (wrap64 (x6_12 + 3)) x152000_12 0 x152002_12) else (none)))) else (none)) else (none)) else (none)) else (none)) = some (r1, r2, r3, r4) := by first | (rw [hji26] at H; exact H) | (simp only [hji26] at H ⊢; exact H)
              (try rw [hji26] at c22b0)
              have hji26w : (IntKind.i64.wrap (x6_12 + 2)) = ji26 := (i64_w _).trans hji26
              by_cases c27 : 0 ≤ (ji26)
              ·
               rw [if_pos c27] at H
               have c27b0 : decide (0 ≤ (ji26)) = true := decide_eq_true c27
               clear c27
               by_cases c28 : (ji26) < (a0.size : Int)
               ·
                rw [if_pos c28] at H
                have c28b0 : decide ((ji26) < (a0.size : Int)) = true := decide_eq_true c28
                clear c28
                obtain ⟨ji30, hji30⟩ : ∃ j_ : Int, (wrap64 (x6_12 + 1)) = j_ := ⟨_, rfl⟩
                replace H : (if 0 ≤ (ji30) then (if (ji30) < (a0.size : Int) then (if (bt a0 (ji30)) = 76 then (if (bt a0 (ji26)) = 90 then (if x5_12.length < 5864062014805 then (standstillref01_Parse.l0 kj12 a0 (x5_12 ++ [(⟨wrap64 ((wrap64 (bt a0 x6_12)) - 48), (-1), (-1)⟩ : S57)]) (wrap64 (x6_12 + 3)) x152000_12 0 x152002_12) else (none)) else (if x5_12.length < 5864062014805 then (standstillref01_Parse.l0 kj12 a0 (x5_12 ++ [(⟨wrap64 ((wrap64 (bt a0 x6_12)) - 48), (-1), wrap64 ((wrap64 (bt a0 (ji26))) - 65)⟩ : S57)]) (wrap64 (x6_12 + 3)) x152000_12 0 x152002_12) else (none))) else (if (bt a0 (ji26)) = 90 then (if x5_12.length < 5864062014805 then (standstillref01_Parse.l0 kj12 a0 (x5_12 ++ [(⟨wrap64 ((wrap64 (bt a0 x6_12)) - 48), 1, (-1)⟩ : S57)]) (wrap64 (x6_12 + 3)) x152000_12 0 x152002_12) else (none)) else (if x5_12.length < 5864062014805 then (standstillref01_Parse.l0 kj12 a0 (x5_12 ++ [(⟨wrap64 ((wrap64 (bt a0 x6_12)) - 48), 1, wrap64 ((wrap64 (bt a0 (ji26))) - 65)⟩ : S57)]) (wrap64 (x6_12 + 3)) x152000_12 0 x152002_12) else (none)))) else (none)) else (none)) = some (r1, r2, r3, r4) := by first | (rw [hji30] at H; exact H) | (simp only [hji30] at H ⊢; exact H)
                have hji30w : (IntKind.i64.wrap (x6_12 + 1)) = ji30 := (i64_w _).trans hji30
                by_cases c31 : 0 ≤ (ji30)
                ·
                 rw [if_pos c31] at H
                 have c31b0 : decide (0 ≤ (ji30)) = true := decide_eq_true c31
                 clear c31
                 by_cases c32 : (ji30) < (a0.size : Int)
                 ·
                  rw [if_pos c32] at H
                  have c32b0 : decide ((ji30) < (a0.size : Int)) = true := decide_eq_true c32
                  clear c32
                  have HC34 := Aside0.mk H
                  clear H
                  try go_wp2
                  replace HO_5 := Aside0.mk (Kd.R_drew HO_5.out)
                  replace HO_152002 := Aside0.mk (Kd.S_drew HO_152002.out)
                  replace BK150 := Aside0.mk (blk_drew BK150.out)
                  replace BK151 := Aside0.mk (blk_drew BK151.out)
                  replace HB := Aside0.mk (below_drew1 HB.out)
                  have p25 : 0 ≤ (x6_12 : Int) := of_decide_eq_true (by first | (with_reducible assumption) | assumption)
                  have q25 : x6_12 < (a0.size : Int) := of_decide_eq_true (by first | (with_reducible assumption) | assumption)
                  have hx25 := bt_at a0 x6_12
                  replace p25 := eq_true p25
                  replace q25 := eq_true q25
                  have p29 : 0 ≤ ((ji26) : Int) := of_decide_eq_true (by first | (with_reducible assumption) | assumption)
                  have q29 : (ji26) < (a0.size : Int) := of_decide_eq_true (by first | (with_reducible assumption) | assumption)
                  have hx29 := bt_at a0 (ji26)
                  replace p29 := eq_true p29
                  replace q29 := eq_true q29
                  refine start_ (n := 14) (S := fun w' => True) (ds := []) (zl 14 0) (by kernel_rfl) rfl rfl trivial (fun hHeld => ?_); refine with_tabW standstillref01_Parse.tab12 standstillref01_Parse.bits12 (fun HT_ HW_ => ?_)
                  generalize wc.drew = w35 at HO_5 HO_152002 BK150 BK151 HB hHeld ⊢
                  refine zP 0 (some 42) (zl 14 1) HT_ ?_
                  refine zP 1 (some 43) (zl 14 3) HT_ ?_
                  refine zP 5 (some 47) (zl 14 35) HT_ ?_
                  refine zP 6 (some 48) (zl 14 99) HT_ ?_
                  refine zP 7 (some 49) (zl 14 227) HT_ ?_
                  refine take_ (i := 2) (N := some 44) (v := ?_) (a' := ?_) (zl 14 231) rfl rfl (take_ofW HT_.out HW_.out (by kernel_rfl)) (fun _ _ _ h => h) (Or.inl ⟨by rfl, ?_⟩) hHeld ?_ ?_
                  rotate_left
                  ·
                   intro w' _
                   go_simp
                   with_reducible rfl
                  rotate_left
                  ·
                   simp only [Act.put, zs, zs0, zs1, i64_w, i32_w]
                   rfl
                  refine zP 3 (some 45) (zl 14 239) HT_ ?_
                  refine zP 4 (some 46) (zl 14 255) HT_ ?_
                  refine take_ (i := 8) (N := some 50) (v := ?_) (a' := ?_) (zl 14 511) rfl rfl (take_ofW HT_.out HW_.out (by kernel_rfl)) (fun _ _ _ h => h) (Or.inl ⟨by rfl, ?_⟩) hHeld ?_ ?_
                  rotate_left
                  ·
                   intro w' _
                   go_simp
                   with_reducible rfl
                  rotate_left
                  ·
                   simp only [Act.put, zs, zs0, zs1, i64_w, i32_w]
                   rfl
                  refine zP 9 (some 51) (zl 14 1023) HT_ ?_
                  refine zP 10 (some 52) (zl 14 2047) HT_ ?_
                  refine zP 11 (some 53) (zl 14 4095) HT_ ?_
                  refine one_ (i := 12) (N := some 7) (zl 14 8191) rfl rfl (one_of HT_.out (by kernel_rfl)) (by decide) (fun K hK => ?_)
                  refine box_step ?hg (N := 7) ?hd (cs := #[.int .i64 0, .int .i64 0, .int .i64 0]) (t := 57) ?hr ?_; (case hd => rfl); (case hg => rfl); (case hr => first | (go_simp; done) | (go_simp; rfl))
                  intro gb155 hg w36 hbox hb
                  have BK155 := Aside0.mk (hbox)
                  have GW155 := Aside0.mk ((by rw [hg]; exact (below_size (zB HB)) : w.heap.size ≤ gb155))
                  have GE155 := Aside0.mk ((by rw [hg]; exact (below_size (zB HB)) : w.heap.size ≤ gb155))
                  have NB150_155 := Aside0.mk ((by rw [hg]; exact Nat.ne_of_lt (zL BK150) : gb150 ≠ gb155))
                  have NB155_150 := Aside0.mk ((by rw [hg]; exact Nat.ne_of_gt (zL BK150) : gb155 ≠ gb150))
                  have NB151_155 := Aside0.mk ((by rw [hg]; exact Nat.ne_of_lt (zL BK151) : gb151 ≠ gb155))
                  have NB155_151 := Aside0.mk ((by rw [hg]; exact Nat.ne_of_gt (zL BK151) : gb155 ≠ gb151))
                  replace HO_5 := Aside0.mk (Kd.R_below (Kd.R_elderB (zR HO_5) gb155 (Nat.le_of_eq hg.symm)) hb)
                  replace HO_152002 := Aside0.mk (Kd.S_below (Kd.S_elderB (zS HO_152002) gb155 (Nat.le_of_eq hg.symm)) hb)
                  replace BK150 := Aside0.mk (zb BK150 hb)
                  replace BK151 := Aside0.mk (zb BK151 hb)
                  replace HB := Aside0.mk (below_step (zB HB) hb)
                  clear hb hbox hg
                  refine hK.out _ _ trivial (fun hHeld => ?_)
                  clear hK K
                  refine norm_ (a' := ?_) ?_ ?_
                  rotate_left
                  ·
                   show Act.put _ (some 7) _ = _
                   simp only [Act.put, zs, zs0, zs1, i64_w, i32_w]
                   rfl
                  refine one_ (i := 13) (N := none) (zl 14 16383) rfl rfl (one_of HT_.out (by kernel_rfl)) (by decide) (fun K hK => ?_)
                  have hs37 : w36.cell? ⟨gb155, 0, none⟩ = some (.int .i64 0) := (blk_cell BK155.out 0).trans rfl
                  have hfs37 := blk_frozen BK155.out 0
                  have hns37_0 := NB150_155.out
                  have hns37_1 := NB151_155.out
                  have hms37_0 := NB155_150.out
                  have hms37_1 := NB155_151.out
                  have hs38 : w36.cell? ⟨gb155, 1, none⟩ = some (.int .i64 0) := (blk_cell BK155.out 1).trans rfl
                  have hfs38 := blk_frozen BK155.out 1
                  have hns38_0 := NB150_155.out
                  have hns38_1 := NB151_155.out
                  have hms38_0 := NB155_150.out
                  have hms38_1 := NB155_151.out
                  have hs39 : w36.cell? ⟨gb155, 2, none⟩ = some (.int .i64 0) := (blk_cell BK155.out 2).trans rfl
                  have hfs39 := blk_frozen BK155.out 2
                  have hns39_0 := NB150_155.out
                  have hns39_1 := NB151_155.out
                  have hms39_0 := NB155_150.out
                  have hms39_1 := NB155_151.out
                  refine skip_ (w1 := ?_) (by rfl) rfl ?_ ?_
                  rotate_left
                  ·
                   go_simp
                   rfl
                  refine hK.out _ _ trivial (fun hHeld => ?_)
                  clear hK K
                  refine done_ (done_of HT_.out (by kernel_rfl)) ?_
                  have n0_ : Aside0 (Kd.R k57 57 (((w36.setCell ⟨gb155, 0, none⟩ (.int .i64 (wrap64 ((wrap64 (bt a0 x6_12)) - 48)))).setCell ⟨gb155, 1, none⟩ (.int .i64 1)).setCell ⟨gb155, 2, none⟩ (.int .i64 (wrap64 ((wrap64 (bt a0 (ji26))) - 65)))) w.heap.size (fun k_ => k_ ≠ gb155) u5 x5_12) := ⟨by (with_reducible repeat (first | apply Kd.R_alloc | apply Kd.R_drewN | apply Kd.R_drew)); exact Kd.R_mono (zRf3 (g := gb155) (Kd.R_mono HO_5.out (fun k_ hk => (⟨hk, hk.2⟩ : _ ∧ k_ ≠ gb155)))) (fun _ hk => hk.1.2)⟩
                  have n1_ : Aside0 (Kd.S (Kd.slice 57 k57) 54 (((w36.setCell ⟨gb155, 0, none⟩ (.int .i64 (wrap64 ((wrap64 (bt a0 x6_12)) - 48)))).setCell ⟨gb155, 1, none⟩ (.int .i64 1)).setCell ⟨gb155, 2, none⟩ (.int .i64 (wrap64 ((wrap64 (bt a0 (ji26))) - 65)))) w.heap.size (fun k_ => some k_ ≠ (u5 : Value).ownBlock ∧ k_ ≠ gb155) u152002 x152002_12) := ⟨by (with_reducible repeat (first | apply Kd.S_alloc | apply Kd.S_drewN | apply Kd.S_drew)); exact Kd.S_mono (zSf3 (g := gb155) (Kd.S_mono HO_152002.out (fun k_ hk => (⟨hk, hk.2⟩ : _ ∧ k_ ≠ gb155)))) (fun _ hk => ⟨hk.1.1, hk.1.2⟩)⟩
                  have n2_ : Aside0 ((((w36.setCell ⟨gb155, 0, none⟩ (.int .i64 (wrap64 ((wrap64 (bt a0 x6_12)) - 48)))).setCell ⟨gb155, 1, none⟩ (.int .i64 1)).setCell ⟨gb155, 2, none⟩ (.int .i64 (wrap64 ((wrap64 (bt a0 (ji26))) - 65)))).heap[gb150]? = some (.cells #[.int .i64 0, .int .i64 0, .slice none 0 0] 24 (0, 0))) := ⟨zK BK150⟩
                  have n3_ : Aside0 ((((w36.setCell ⟨gb155, 0, none⟩ (.int .i64 (wrap64 ((wrap64 (bt a0 x6_12)) - 48)))).setCell ⟨gb155, 1, none⟩ (.int .i64 1)).setCell ⟨gb155, 2, none⟩ (.int .i64 (wrap64 ((wrap64 (bt a0 (ji26))) - 65)))).heap[gb151]? = some (.cells #[.int .i64 x152000_12, .int .i64 0, u152002] 24 (0, 0))) := ⟨zK BK151⟩
                  have n4_ : Aside0 ((((w36.setCell ⟨gb155, 0, none⟩ (.int .i64 (wrap64 ((wrap64 (bt a0 x6_12)) - 48)))).setCell ⟨gb155, 1, none⟩ (.int .i64 1)).setCell ⟨gb155, 2, none⟩ (.int .i64 (wrap64 ((wrap64 (bt a0 (ji26))) - 65)))).heap[gb155]? = some (.cells #[.int .i64 (wrap64 ((wrap64 (bt a0 x6_12)) - 48)), .int .i64 1, .int .i64 (wrap64 ((wrap64 (bt a0 (ji26))) - 65))] 57 (0, 0))) := ⟨by (with_reducible repeat (first | refine blk_drewN ?_ _ | refine blk_drew ?_ | refine blk_alloc ?_ _)); refine blk_put (cs := #[.int .i64 (wrap64 ((wrap64 (bt a0 x6_12)) - 48)), .int .i64 1, .int .i64 0]) ?_ 2 _ rfl; (with_reducible repeat (first | refine blk_drewN ?_ _ | refine blk_drew ?_ | refine blk_alloc ?_ _)); refine blk_put (cs := #[.int .i64 (wrap64 ((wrap64 (bt a0 x6_12)) - 48)), .int .i64 0, .int .i64 0]) ?_ 1 _ rfl; (with_reducible repeat (first | refine blk_drewN ?_ _ | refine blk_drew ?_ | refine blk_alloc ?_ _)); refine blk_put (cs := #[.int .i64 0, .int .i64 0, .int .i64 0]) ?_ 0 _ rfl; (with_reducible repeat (first | refine blk_drewN ?_ _ | refine blk_drew ?_ | refine blk_alloc ?_ _)); exact BK155.out⟩
                  have n5_ : Aside0 (Below w.heap.size w (((w36.setCell ⟨gb155, 0, none⟩ (.int .i64 (wrap64 ((wrap64 (bt a0 x6_12)) - 48)))).setCell ⟨gb155, 1, none⟩ (.int .i64 1)).setCell ⟨gb155, 2, none⟩ (.int .i64 (wrap64 ((wrap64 (bt a0 (ji26))) - 65))))) := ⟨zB HB⟩
                  (try clear HO_5)
                  (try clear HO_152002)
                  (try clear BK150)
                  (try clear BK151)
                  (try clear BK155)
                  (try clear HB)
                  generalize (((w36.setCell ⟨gb155, 0, none⟩ (.int .i64 (wrap64 ((wrap64 (bt a0 x6_12)) - 48)))).setCell ⟨gb155, 1, none⟩ (.int .i64 1)).setCell ⟨gb155, 2, none⟩ (.int .i64 (wrap64 ((wrap64 (bt a0 (ji26))) - 65)))) = w40 at n0_ n1_ n2_ n3_ n4_ n5_ ⊢
                  have HO_5 := n0_
                  have HO_152002 := n1_
                  have BK150 := n2_
                  have BK151 := n3_
                  have BK155 := n4_
                  have HB := n5_
                  clear n0_ n1_ n2_ n3_ n4_ n5_
                  have p33 : 0 ≤ ((ji30) : Int) := of_decide_eq_true (by first | (with_reducible assumption) | assumption)
                  have q33 : (ji30) < (a0.size : Int) := of_decide_eq_true (by first | (with_reducible assumption) | assumption)
                  have hx33 := bt_at a0 (ji30)
                  replace p33 := eq_true p33
                  replace q33 := eq_true q33
                  go_upto_if 58 with (fail)
                  have H := HC34.out
                  clear HC34
                  by_cases c41 : (bt a0 (ji30)) = 76
                  ·
                   rw [if_pos c41] at H
                   have c41b0 : ((bt a0 (ji30)) == 76) = true := beq_iff_eq.mpr c41
                   have c41b1 : ((bt a0 (ji30)) != 76) = false := bne_eq_false_iff_eq.mpr c41
                   clear c41
                   (first | rw [c41b0] | (simp only [i64_w, i32_w]; rw [c41b0]) | skip)
                   (try rw [c41b1])
                   by_cases c43 : (bt a0 (ji26)) = 90
                   ·
                    rw [if_pos c43] at H
                    have c43b0 : ((bt a0 (ji26)) == 90) = true := beq_iff_eq.mpr c43
                    have c43b1 : ((bt a0 (ji26)) != 90) = false := bne_eq_false_iff_eq.mpr c43
                    clear c43
                    by_cases c44 : x5_12.length < 5864062014805
                    ·
                     rw [if_pos c44] at H
                     have LMc44 := Aside0.mk c44
                     clear c44
                     obtain ⟨y156, hy156⟩ : ∃ y_ : List (S57), y_ = (x5_12 ++ [(⟨wrap64 ((wrap64 (bt a0 x6_12)) - 48), (-1), (-1)⟩ : S57)]) := ⟨_, rfl⟩
                     replace H : (standstillref01_Parse.l0 kj12 a0 y156 (wrap64 (x6_12 + 3)) x152000_12 0 x152002_12) = some (r1, r2, r3, r4) := by first | (rw [hy156]; with_reducible exact H) | (have H2_ := (Option.bind_some _ _).symm.trans H; rw [hy156]; with_reducible exact H2_) | (have H2_ := (Option.bind_some _ _).symm.trans H; with_reducible exact H2_) | with_reducible exact H | (rw [hy156]; exact H) | exact H
                     have Ny156 := Aside0.mk hy156
                     clear hy156
                     have H' := Aside0.mk H
                     clear H
                     have hnb45 := NB155_150.out
                     have hnc45 := NB150_155.out
                     have hnb46 := NB155_151.out
                     have hnc46 := NB151_155.out
                     have hz47 := zc3 BK155
                     have p42 : 0 ≤ ((ji26) : Int) := of_decide_eq_true (by first | (with_reducible assumption) | assumption)
                     have q42 : (ji26) < (a0.size : Int) := of_decide_eq_true (by first | (with_reducible assumption) | assumption)
                     have hx42 := bt_at a0 (ji26)
                     replace p42 := eq_true p42
                     replace q42 := eq_true q42
                     go_wp2_with (first | ((with_reducible refine gate_builtin (b := .append) (xs := #[.tmp 66, .tmp 68]) rfl ?_); (try (refine gate_guard (by rfl) ?_; dsimp only)); at_builtin; refine Kd.R_append k57 (w0 := w) w.heap.size rfl (.tmp 66) (.tmp 68) 54 57 (.agg #[(.int .i64 0), (.int .i64 0), (.int .i64 0)]) 24 rfl Try.underlying54 info57 rfl (by decide) (by omega) u5 x5_12 (⟨wrap64 ((wrap64 (bt a0 x6_12)) - 48), (-1), (-1)⟩ : S57) [.int .i64 (wrap64 ((wrap64 (bt a0 x6_12)) - 48)), .int .i64 (-1), .int .i64 (-1)] (fun k_ => k_ ≠ gb155) (fun _ => False) rfl (by first | (go_simp; done) | (go_simp; rfl)) ?aP (fun _ hk => hk.elim) ?aF ?aO ?aB ?aS ?aL ?_; (case aP => exact k57_mkM _ _ _ (⟨wrap64 ((wrap64 (bt a0 x6_12)) - 48), (-1), (-1)⟩ : S57)); (case aB => exact (zB HB)); (case aF => exact (fun k_ hk => Kd.freshB (g := gb155) (o := .cells #[.int .i64 (wrap64 ((wrap64 (bt a0 x6_12)) - 48)), .int .i64 (-1), .int .i64 (-1)] 57 (0, 0)) (by (with_reducible repeat (first | refine blk_drewN ?_ _ | refine blk_drew ?_ | refine blk_alloc ?_ _)); refine blk_put (cs := #[.int .i64 (wrap64 ((wrap64 (bt a0 x6_12)) - 48)), .int .i64 (-1), .int .i64 (wrap64 ((wrap64 (bt a0 (ji26))) - 65))]) ?_ 2 _ rfl; (with_reducible repeat (first | refine blk_drewN ?_ _ | refine blk_drew ?_ | refine blk_alloc ?_ _)); refine blk_put (cs := #[.int .i64 (wrap64 ((wrap64 (bt a0 x6_12)) - 48)), .int .i64 1, .int .i64 (wrap64 ((wrap64 (bt a0 (ji26))) - 65))]) ?_ 1 _ rfl; (with_reducible repeat (first | refine blk_drewN ?_ _ | refine blk_drew ?_ | refine blk_alloc ?_ _)); exact BK155.out) k_ hk)); (case aO => exact (by (with_reducible repeat (first | apply Kd.R_alloc | apply Kd.R_drewN | apply Kd.R_drew)); exact Kd.R_mono (zRf2 (g := gb155) (Kd.R_mono HO_5.out (fun k_ hk => (⟨hk, hk⟩ : _ ∧ k_ ≠ gb155)))) (fun _ hk => hk.1))); (case aS => exact (below_size (zB HB))); (case aL => have := LMc44.out; omega); intro v157 w48 ho hb hg hat; rw [← Ny156.out] at ho; have n0_ := Aside0.mk (Kd.S_after (ok := (fun k_ => k_ ≠ gb155)) (by (with_reducible repeat (first | apply Kd.S_alloc | apply Kd.S_drewN | apply Kd.S_drew)); exact Kd.S_mono (zSf2 (g := gb155) (Kd.S_mono HO_152002.out (fun k_ hk => (⟨hk, hk.2⟩ : _ ∧ k_ ≠ gb155)))) (fun _ hk => ⟨hk.1.2, hk.1.1⟩)) hg hat); have n1_ := Aside0.mk (blk_grown (g := gb150) (o := .cells #[.int .i64 0, .int .i64 0, .slice none 0 0] 24 (0, 0)) (zK BK150) hg (Kd.R_ne HO_5.out BK150.out (by decide))); have n2_ := Aside0.mk (blk_grown (g := gb151) (o := .cells #[.int .i64 x152000_12, .int .i64 0, u152002] 24 (0, 0)) (zK BK151) hg (Kd.R_ne HO_5.out BK151.out (by decide))); have n3_ := Aside0.mk (blk_grown (g := gb155) (o := .cells #[.int .i64 (wrap64 ((wrap64 (bt a0 x6_12)) - 48)), .int .i64 (-1), .int .i64 (-1)] 57 (0, 0)) (by (with_reducible repeat (first | refine blk_drewN ?_ _ | refine blk_drew ?_ | refine blk_alloc ?_ _)); refine blk_put (cs := #[.int .i64 (wrap64 ((wrap64 (bt a0 x6_12)) - 48)), .int .i64 (-1), .int .i64 (wrap64 ((wrap64 (bt a0 (ji26))) - 65))]) ?_ 2 _ rfl; (with_reducible repeat (first | refine blk_drewN ?_ _ | refine blk_drew ?_ | refine blk_alloc ?_ _)); refine blk_put (cs := #[.int .i64 (wrap64 ((wrap64 (bt a0 x6_12)) - 48)), .int .i64 1, .int .i64 (wrap64 ((wrap64 (bt a0 (ji26))) - 65))]) ?_ 1 _ rfl; (with_reducible repeat (first | refine blk_drewN ?_ _ | refine blk_drew ?_ | refine blk_alloc ?_ _)); exact BK155.out) hg (Kd.R_away HO_5.out (fun _ hk => hk))); have n4_ := Aside0.mk (hb); have n5_ := Aside0.mk (ho); clear HO_152002; clear BK150; clear BK151; clear BK155; clear HB; clear HO_5; have HO_152002 := n0_; have BK150 := n1_; have BK151 := n2_; have BK155 := n3_; have HB := n4_; have HO158 := n5_; clear n0_ n1_ n2_ n3_ n4_ n5_; clear ho hb hg hat))
                     go_roundg kj12
                     case measure => have := HK1.out; have := HJ6.out; have := HJ12.out; omega
                     case rel => exact ⟨(y156), (wrap64 (x6_12 + 3)), (x152000_12), (x152002_12), (u152002), (by first | rfl | (simp; done) | (simp [*]; done)), H', ⟨by have := HK1.out; have := HJ6.out; have := HJ12.out; omega⟩, ⟨by (with_reducible repeat (first | apply Kd.R_alloc | apply Kd.R_drewN | apply Kd.R_drew)); exact Kd.R_mono HO158.out (fun _ hk => trivial)⟩, ⟨by (with_reducible repeat (first | apply Kd.S_alloc | apply Kd.S_drewN | apply Kd.S_drew)); exact Kd.S_mono HO_152002.out (fun _ hk => hk.2)⟩, ⟨zk BK150⟩, ⟨zk BK151⟩, ⟨zB HB⟩⟩
                    ·
                     rw [if_neg c44] at H
                     exact absurd H (by simp)
                   ·
                    rw [if_neg c43] at H
                    have c43b0 : ((bt a0 (ji26)) == 90) = false := beq_eq_false_iff_ne.mpr c43
                    have c43b1 : ((bt a0 (ji26)) != 90) = true := bne_iff_ne.mpr c43
                    by_cases c49 : x5_12.length < 5864062014805
                    ·
                     rw [if_pos c49] at H
                     have LMc49 := Aside0.mk c49
                     clear c49
                     obtain ⟨y159, hy159⟩ : ∃ y_ : List (S57), y_ = (x5_12 ++ [(⟨wrap64 ((wrap64 (bt a0 x6_12)) - 48), (-1), wrap64 ((wrap64 (bt a0 (ji26))) - 65)⟩ : S57)]) := ⟨_, rfl⟩
                     replace H : (standstillref01_Parse.l0 kj12 a0 y159 (wrap64 (x6_12 + 3)) x152000_12 0 x152002_12) = some (r1, r2, r3, r4) := by first | (rw [hy159]; with_reducible exact H) | (have H2_ := (Option.bind_some _ _).symm.trans H; rw [hy159]; with_reducible exact H2_) | (have H2_ := (Option.bind_some _ _).symm.trans H; with_reducible exact H2_) | with_reducible exact H | (rw [hy159]; exact H) | exact H
                     have Ny159 := Aside0.mk hy159
                     clear hy159
                     have H' := Aside0.mk H
                     clear H
                     have hnb50 := NB155_150.out
                     have hnc50 := NB150_155.out
                     have hnb51 := NB155_151.out
                     have hnc51 := NB151_155.out
                     have hz52 := zc3 BK155
                     have p42 : 0 ≤ ((ji26) : Int) := of_decide_eq_true (by first | (with_reducible assumption) | assumption)
                     have q42 : (ji26) < (a0.size : Int) := of_decide_eq_true (by first | (with_reducible assumption) | assumption)
                     have hx42 := bt_at a0 (ji26)
                     replace p42 := eq_true p42
                     replace q42 := eq_true q42
                     go_wp2_with (first | ((with_reducible refine gate_builtin (b := .append) (xs := #[.tmp 66, .tmp 68]) rfl ?_); (try (refine gate_guard (by rfl) ?_; dsimp only)); at_builtin; refine Kd.R_append k57 (w0 := w) w.heap.size rfl (.tmp 66) (.tmp 68) 54 57 (.agg #[(.int .i64 0), (.int .i64 0), (.int .i64 0)]) 24 rfl Try.underlying54 info57 rfl (by decide) (by omega) u5 x5_12 (⟨wrap64 ((wrap64 (bt a0 x6_12)) - 48), (-1), wrap64 ((wrap64 (bt a0 (ji26))) - 65)⟩ : S57) [.int .i64 (wrap64 ((wrap64 (bt a0 x6_12)) - 48)), .int .i64 (-1), .int .i64 (wrap64 ((wrap64 (bt a0 (ji26))) - 65))] (fun k_ => k_ ≠ gb155) (fun _ => False) rfl (by first | (go_simp; done) | (go_simp; rfl)) ?aP (fun _ hk => hk.elim) ?aF ?aO ?aB ?aS ?aL ?_; (case aP => exact k57_mkM _ _ _ (⟨wrap64 ((wrap64 (bt a0 x6_12)) - 48), (-1), wrap64 ((wrap64 (bt a0 (ji26))) - 65)⟩ : S57)); (case aB => exact (zB HB)); (case aF => exact (fun k_ hk => Kd.freshB (g := gb155) (o := .cells #[.int .i64 (wrap64 ((wrap64 (bt a0 x6_12)) - 48)), .int .i64 (-1), .int .i64 (wrap64 ((wrap64 (bt a0 (ji26))) - 65))] 57 (0, 0)) (by (with_reducible repeat (first | refine blk_drewN ?_ _ | refine blk_drew ?_ | refine blk_alloc ?_ _)); refine blk_put (cs := #[.int .i64 (wrap64 ((wrap64 (bt a0 x6_12)) - 48)), .int .i64 1, .int .i64 (wrap64 ((wrap64 (bt a0 (ji26))) - 65))]) ?_ 1 _ rfl; (with_reducible repeat (first | refine blk_drewN ?_ _ | refine blk_drew ?_ | refine blk_alloc ?_ _)); exact BK155.out) k_ hk)); (case aO => exact (by (with_reducible repeat (first | apply Kd.R_alloc | apply Kd.R_drewN | apply Kd.R_drew)); exact Kd.R_mono (Kd.R_far (p := ⟨gb155, 1, none⟩) (Kd.R_mono HO_5.out (fun k_ hk => (⟨hk, hk⟩ : _ ∧ k_ ≠ gb155))) (fun _ hk => hk.2) (.int .i64 (-1))) (fun _ hk => hk.1))); (case aS => exact (below_size (zB HB))); (case aL => have := LMc49.out; omega); intro v160 w53 ho hb hg hat; rw [← Ny159.out] at ho; have n0_ := Aside0.mk (Kd.S_after (ok := (fun k_ => k_ ≠ gb155)) (by (with_reducible repeat (first | apply Kd.S_alloc | apply Kd.S_drewN | apply Kd.S_drew)); exact Kd.S_mono (Kd.S_far (p := ⟨gb155, 1, none⟩) (Kd.S_mono HO_152002.out (fun k_ hk => (⟨hk, hk.2⟩ : _ ∧ k_ ≠ gb155))) (fun _ hk => hk.2) (.int .i64 (-1))) (fun _ hk => ⟨hk.1.2, hk.1.1⟩)) hg hat); have n1_ := Aside0.mk (blk_grown (g := gb150) (o := .cells #[.int .i64 0, .int .i64 0, .slice none 0 0] 24 (0, 0)) (zK BK150) hg (Kd.R_ne HO_5.out BK150.out (by decide))); have n2_ := Aside0.mk (blk_grown (g := gb151) (o := .cells #[.int .i64 x152000_12, .int .i64 0, u152002] 24 (0, 0)) (zK BK151) hg (Kd.R_ne HO_5.out BK151.out (by decide))); have n3_ := Aside0.mk (blk_grown (g := gb155) (o := .cells #[.int .i64 (wrap64 ((wrap64 (bt a0 x6_12)) - 48)), .int .i64 (-1), .int .i64 (wrap64 ((wrap64 (bt a0 (ji26))) - 65))] 57 (0, 0)) (by (with_reducible repeat (first | refine blk_drewN ?_ _ | refine blk_drew ?_ | refine blk_alloc ?_ _)); refine blk_put (cs := #[.int .i64 (wrap64 ((wrap64 (bt a0 x6_12)) - 48)), .int .i64 1, .int .i64 (wrap64 ((wrap64 (bt a0 (ji26))) - 65))]) ?_ 1 _ rfl; (with_reducible repeat (first | refine blk_drewN ?_ _ | refine blk_drew ?_ | refine blk_alloc ?_ _)); exact BK155.out) hg (Kd.R_away HO_5.out (fun _ hk => hk))); have n4_ := Aside0.mk (hb); have n5_ := Aside0.mk (ho); clear HO_152002; clear BK150; clear BK151; clear BK155; clear HB; clear HO_5; have HO_152002 := n0_; have BK150 := n1_; have BK151 := n2_; have BK155 := n3_; have HB := n4_; have HO161 := n5_; clear n0_ n1_ n2_ n3_ n4_ n5_; clear ho hb hg hat))
                     go_roundg kj12
                     case measure => have := HK1.out; have := HJ6.out; have := HJ12.out; omega
                     case rel => exact ⟨(y159), (wrap64 (x6_12 + 3)), (x152000_12), (x152002_12), (u152002), (by first | rfl | (simp; done) | (simp [*]; done)), H', ⟨by have := HK1.out; have := HJ6.out; have := HJ12.out; omega⟩, ⟨by (with_reducible repeat (first | apply Kd.R_alloc | apply Kd.R_drewN | apply Kd.R_drew)); exact Kd.R_mono HO161.out (fun _ hk => trivial)⟩, ⟨by (with_reducible repeat (first | apply Kd.S_alloc | apply Kd.S_drewN | apply Kd.S_drew)); exact Kd.S_mono HO_152002.out (fun _ hk => hk.2)⟩, ⟨zk BK150⟩, ⟨zk BK151⟩, ⟨zB HB⟩⟩
                    ·
                     rw [if_neg c49] at H
                     exact absurd H (by simp)
                  ·
                   rw [if_neg c41] at H
                   have c41b0 : ((bt a0 (ji30)) == 76) = false := beq_eq_false_iff_ne.mpr c41
                   have c41b1 : ((bt a0 (ji30)) != 76) = true := bne_iff_ne.mpr c41
                   (first | rw [c41b0] | (simp only [i64_w, i32_w]; rw [c41b0]) | skip)
                   (try rw [c41b1])
                   by_cases c55 : (bt a0 (ji26)) = 90
                   ·
                    rw [if_pos c55] at H
                    have c55b0 : ((bt a0 (ji26)) == 90) = true := beq_iff_eq.mpr c55
                    have c55b1 : ((bt a0 (ji26)) != 90) = false := bne_eq_false_iff_eq.mpr c55
                    clear c55
                    by_cases c56 : x5_12.length < 5864062014805
                    ·
                     rw [if_pos c56] at H
                     have LMc56 := Aside0.mk c56
                     clear c56
                     obtain ⟨y162, hy162⟩ : ∃ y_ : List (S57), y_ = (x5_12 ++ [(⟨wrap64 ((wrap64 (bt a0 x6_12)) - 48), 1, (-1)⟩ : S57)]) := ⟨_, rfl⟩
                     replace H : (standstillref01_Parse.l0 kj12 a0 y162 (wrap64 (x6_12 + 3)) x152000_12 0 x152002_12) = some (r1, r2, r3, r4) := by first | (rw [hy162]; with_reducible exact H) | (have H2_ := (Option.bind_some _ _).symm.trans H; rw [hy162]; with_reducible exact H2_) | (have H2_ := (Option.bind_some _ _).symm.trans H; with_reducible exact H2_) | with_reducible exact H | (rw [hy162]; exact H) | exact H
                     have Ny162 := Aside0.mk hy162
                     clear hy162
                     have H' := Aside0.mk H
                     clear H
                     have p54 : 0 ≤ ((ji26) : Int) := of_decide_eq_true (by first | (with_reducible assumption) | assumption)
                     have q54 : (ji26) < (a0.size : Int) := of_decide_eq_true (by first | (with_reducible assumption) | assumption)
                     have hx54 := bt_at a0 (ji26)
                     replace p54 := eq_true p54
                     replace q54 := eq_true q54
                     have hnb57 := NB155_150.out
                     have hnc57 := NB150_155.out
                     have hnb58 := NB155_151.out
                     have hnc58 := NB151_155.out
                     have hz59 := zc3 BK155
                     go_wp2_with (first | ((with_reducible refine gate_builtin (b := .append) (xs := #[.tmp 66, .tmp 68]) rfl ?_); (try (refine gate_guard (by rfl) ?_; dsimp only)); at_builtin; refine Kd.R_append k57 (w0 := w) w.heap.size rfl (.tmp 66) (.tmp 68) 54 57 (.agg #[(.int .i64 0), (.int .i64 0), (.int .i64 0)]) 24 rfl Try.underlying54 info57 rfl (by decide) (by omega) u5 x5_12 (⟨wrap64 ((wrap64 (bt a0 x6_12)) - 48), 1, (-1)⟩ : S57) [.int .i64 (wrap64 ((wrap64 (bt a0 x6_12)) - 48)), .int .i64 1, .int .i64 (-1)] (fun k_ => k_ ≠ gb155) (fun _ => False) rfl (by first | (go_simp; done) | (go_simp; rfl)) ?aP (fun _ hk => hk.elim) ?aF ?aO ?aB ?aS ?aL ?_; (case aP => exact k57_mkM _ _ _ (⟨wrap64 ((wrap64 (bt a0 x6_12)) - 48), 1, (-1)⟩ : S57)); (case aB => exact (zB HB)); (case aF => exact (fun k_ hk => Kd.freshB (g := gb155) (o := .cells #[.int .i64 (wrap64 ((wrap64 (bt a0 x6_12)) - 48)), .int .i64 1, .int .i64 (-1)] 57 (0, 0)) (by (with_reducible repeat (first | refine blk_drewN ?_ _ | refine blk_drew ?_ | refine blk_alloc ?_ _)); refine blk_put (cs := #[.int .i64 (wrap64 ((wrap64 (bt a0 x6_12)) - 48)), .int .i64 1, .int .i64 (wrap64 ((wrap64 (bt a0 (ji26))) - 65))]) ?_ 2 _ rfl; (with_reducible repeat (first | refine blk_drewN ?_ _ | refine blk_drew ?_ | refine blk_alloc ?_ _)); exact BK155.out) k_ hk)); (case aO => exact (by (with_reducible repeat (first | apply Kd.R_alloc | apply Kd.R_drewN | apply Kd.R_drew)); exact Kd.R_mono (Kd.R_far (p := ⟨gb155, 2, none⟩) (Kd.R_mono HO_5.out (fun k_ hk => (⟨hk, hk⟩ : _ ∧ k_ ≠ gb155))) (fun _ hk => hk.2) (.int .i64 (-1))) (fun _ hk => hk.1))); (case aS => exact (below_size (zB HB))); (case aL => have := LMc56.out; omega); intro v163 w60 ho hb hg hat; rw [← Ny162.out] at ho; have n0_ := Aside0.mk (Kd.S_after (ok := (fun k_ => k_ ≠ gb155)) (by (with_reducible repeat (first | apply Kd.S_alloc | apply Kd.S_drewN | apply Kd.S_drew)); exact Kd.S_mono (Kd.S_far (p := ⟨gb155, 2, none⟩) (Kd.S_mono HO_152002.out (fun k_ hk => (⟨hk, hk.2⟩ : _ ∧ k_ ≠ gb155))) (fun _ hk => hk.2) (.int .i64 (-1))) (fun _ hk => ⟨hk.1.2, hk.1.1⟩)) hg hat); have n1_ := Aside0.mk (blk_grown (g := gb150) (o := .cells #[.int .i64 0, .int .i64 0, .slice none 0 0] 24 (0, 0)) (zK BK150) hg (Kd.R_ne HO_5.out BK150.out (by decide))); have n2_ := Aside0.mk (blk_grown (g := gb151) (o := .cells #[.int .i64 x152000_12, .int .i64 0, u152002] 24 (0, 0)) (zK BK151) hg (Kd.R_ne HO_5.out BK151.out (by decide))); have n3_ := Aside0.mk (blk_grown (g := gb155) (o := .cells #[.int .i64 (wrap64 ((wrap64 (bt a0 x6_12)) - 48)), .int .i64 1, .int .i64 (-1)] 57 (0, 0)) (by (with_reducible repeat (first | refine blk_drewN ?_ _ | refine blk_drew ?_ | refine blk_alloc ?_ _)); refine blk_put (cs := #[.int .i64 (wrap64 ((wrap64 (bt a0 x6_12)) - 48)), .int .i64 1, .int .i64 (wrap64 ((wrap64 (bt a0 (ji26))) - 65))]) ?_ 2 _ rfl; (with_reducible repeat (first | refine blk_drewN ?_ _ | refine blk_drew ?_ | refine blk_alloc ?_ _)); exact BK155.out) hg (Kd.R_away HO_5.out (fun _ hk => hk))); have n4_ := Aside0.mk (hb); have n5_ := Aside0.mk (ho); clear HO_152002; clear BK150; clear BK151; clear BK155; clear HB; clear HO_5; have HO_152002 := n0_; have BK150 := n1_; have BK151 := n2_; have BK155 := n3_; have HB := n4_; have HO164 := n5_; clear n0_ n1_ n2_ n3_ n4_ n5_; clear ho hb hg hat))
                     go_roundg kj12
                     case measure => have := HK1.out; have := HJ6.out; have := HJ12.out; omega
                     case rel => exact ⟨(y162), (wrap64 (x6_12 + 3)), (x152000_12), (x152002_12), (u152002), (by first | rfl | (simp; done) | (simp [*]; done)), H', ⟨by have := HK1.out; have := HJ6.out; have := HJ12.out; omega⟩, ⟨by (with_reducible repeat (first | apply Kd.R_alloc | apply Kd.R_drewN | apply Kd.R_drew)); exact Kd.R_mono HO164.out (fun _ hk => trivial)⟩, ⟨by (with_reducible repeat (first | apply Kd.S_alloc | apply Kd.S_drewN | apply Kd.S_drew)); exact Kd.S_mono HO_152002.out (fun _ hk => hk.2)⟩, ⟨zk BK150⟩, ⟨zk BK151⟩, ⟨zB HB⟩⟩
                    ·
                     rw [if_neg c56] at H
                     exact absurd H (by simp)
                   ·
                    rw [if_neg c55] at H
                    have c55b0 : ((bt a0 (ji26)) == 90) = false := beq_eq_false_iff_ne.mpr c55
                    have c55b1 : ((bt a0 (ji26)) != 90) = true := bne_iff_ne.mpr c55
                    by_cases c61 : x5_12.length < 5864062014805
                    ·
                     rw [if_pos c61] at H
                     have LMc61 := Aside0.mk c61
                     clear c61
                     obtain ⟨y165, hy165⟩ : ∃ y_ : List (S57), y_ = (x5_12 ++ [(⟨wrap64 ((wrap64 (bt a0 x6_12)) - 48), 1, wrap64 ((wrap64 (bt a0 (ji26))) - 65)⟩ : S57)]) := ⟨_, rfl⟩
                     replace H : (standstillref01_Parse.l0 kj12 a0 y165 (wrap64 (x6_12 + 3)) x152000_12 0 x152002_12) = some (r1, r2, r3, r4) := by first | (rw [hy165]; with_reducible exact H) | (have H2_ := (Option.bind_some _ _).symm.trans H; rw [hy165]; with_reducible exact H2_) | (have H2_ := (Option.bind_some _ _).symm.trans H; with_reducible exact H2_) | with_reducible exact H | (rw [hy165]; exact H) | exact H
                     have Ny165 := Aside0.mk hy165
                     clear hy165
                     have H' := Aside0.mk H
                     clear H
                     have p54 : 0 ≤ ((ji26) : Int) := of_decide_eq_true (by first | (with_reducible assumption) | assumption)
                     have q54 : (ji26) < (a0.size : Int) := of_decide_eq_true (by first | (with_reducible assumption) | assumption)
                     have hx54 := bt_at a0 (ji26)
                     replace p54 := eq_true p54
                     replace q54 := eq_true q54
                     have hnb62 := NB155_150.out
                     have hnc62 := NB150_155.out
                     have hnb63 := NB155_151.out
                     have hnc63 := NB151_155.out
                     have hz64 := zc3 BK155
                     go_wp2_with (first | ((with_reducible refine gate_builtin (b := .append) (xs := #[.tmp 66, .tmp 68]) rfl ?_); (try (refine gate_guard (by rfl) ?_; dsimp only)); at_builtin; refine Kd.R_append k57 (w0 := w) w.heap.size rfl (.tmp 66) (.tmp 68) 54 57 (.agg #[(.int .i64 0), (.int .i64 0), (.int .i64 0)]) 24 rfl Try.underlying54 info57 rfl (by decide) (by omega) u5 x5_12 (⟨wrap64 ((wrap64 (bt a0 x6_12)) - 48), 1, wrap64 ((wrap64 (bt a0 (ji26))) - 65)⟩ : S57) [.int .i64 (wrap64 ((wrap64 (bt a0 x6_12)) - 48)), .int .i64 1, .int .i64 (wrap64 ((wrap64 (bt a0 (ji26))) - 65))] (fun k_ => k_ ≠ gb155) (fun _ => False) rfl rfl ?aP (fun _ hk => hk.elim) ?aF ?aO ?aB ?aS ?aL ?_; (case aP => exact k57_mkM _ _ _ (⟨wrap64 ((wrap64 (bt a0 x6_12)) - 48), 1, wrap64 ((wrap64 (bt a0 (ji26))) - 65)⟩ : S57)); (case aB => exact (zB HB)); (case aF => exact (fun k_ hk => Kd.freshB (g := gb155) (o := .cells #[.int .i64 (wrap64 ((wrap64 (bt a0 x6_12)) - 48)), .int .i64 1, .int .i64 (wrap64 ((wrap64 (bt a0 (ji26))) - 65))] 57 (0, 0)) (zk BK155) k_ hk)); (case aO => exact (zR HO_5)); (case aS => exact (below_size (zB HB))); (case aL => have := LMc61.out; omega); intro v166 w65 ho hb hg hat; rw [← Ny165.out] at ho; have n0_ := Aside0.mk (Kd.S_after (ok := (fun k_ => k_ ≠ gb155)) (by (with_reducible repeat (first | apply Kd.S_alloc | apply Kd.S_drewN | apply Kd.S_drew)); exact Kd.S_mono HO_152002.out (fun _ hk => ⟨hk.2, hk.1⟩)) hg hat); have n1_ := Aside0.mk (blk_grown (g := gb150) (o := .cells #[.int .i64 0, .int .i64 0, .slice none 0 0] 24 (0, 0)) (zk BK150) hg (Kd.R_ne HO_5.out BK150.out (by decide))); have n2_ := Aside0.mk (blk_grown (g := gb151) (o := .cells #[.int .i64 x152000_12, .int .i64 0, u152002] 24 (0, 0)) (zk BK151) hg (Kd.R_ne HO_5.out BK151.out (by decide))); have n3_ := Aside0.mk (blk_grown (g := gb155) (o := .cells #[.int .i64 (wrap64 ((wrap64 (bt a0 x6_12)) - 48)), .int .i64 1, .int .i64 (wrap64 ((wrap64 (bt a0 (ji26))) - 65))] 57 (0, 0)) (zk BK155) hg (Kd.R_away HO_5.out (fun _ hk => hk))); have n4_ := Aside0.mk (hb); have n5_ := Aside0.mk (ho); clear HO_152002; clear BK150; clear BK151; clear BK155; clear HB; clear HO_5; have HO_152002 := n0_; have BK150 := n1_; have BK151 := n2_; have BK155 := n3_; have HB := n4_; have HO167 := n5_; clear n0_ n1_ n2_ n3_ n4_ n5_; clear ho hb hg hat))
                     go_roundg kj12
                     case measure => have := HK1.out; have := HJ6.out; have := HJ12.out; omega
                     case rel => exact ⟨(y165), (wrap64 (x6_12 + 3)), (x152000_12), (x152002_12), (u152002), (by first | rfl | (simp; done) | (simp [*]; done)), H', ⟨by have := HK1.out; have := HJ6.out; have := HJ12.out; omega⟩, ⟨by (with_reducible repeat (first | apply Kd.R_alloc | apply Kd.R_drewN | apply Kd.R_drew)); exact Kd.R_mono HO167.out (fun _ hk => trivial)⟩, ⟨by (with_reducible repeat (first | apply Kd.S_alloc | apply Kd.S_drewN | apply Kd.S_drew)); exact Kd.S_mono HO_152002.out (fun _ hk => hk.2)⟩, ⟨zk BK150⟩, ⟨zk BK151⟩, ⟨zB HB⟩⟩
                    ·
                     rw [if_neg c61] at H
                     exact absurd H (by simp)
                 ·
                  rw [if_neg c32] at H
                  exact absurd H (by simp)
                ·
                 rw [if_neg c31] at H
                 exact absurd H (by simp)
               ·
                rw [if_neg c28] at H
                exact absurd H (by simp)
              ·
               rw [if_neg c27] at H
               exact absurd H (by simp)
             ·
              rw [if_neg c24] at H
              exact absurd H (by simp)
            ·
             rw [if_neg c23] at H
             exact absurd H (by simp)
        ·
         rw [if_neg c11] at H
         exact absurd H (by simp)
       ·
        rw [if_neg c10] at H
        exact absurd H (by simp)
      ·
       replace c9 := Bool.eq_false_iff.mpr c9
       subst c9
       have H1 : (standstillref01_Parse.j3 kj6 a0 x5_1 x152000_1 0 x152002_1) = some (r1, r2, r3, r4) := by rw [if_neg (show ¬ (false = true) by decide)] at H; exact H
       clear H
       have H := H1
       clear H1
       have H' := Aside0.mk H
       clear H
       go_wp2
       go_meet
       case rel => exact ⟨_, (x5_1), (x152000_1), (x152002_1), (u152002), H', ⟨by have := HK1.out; have := HJ6.out; first | omega | exact Nat.le_refl _⟩, ⟨zR HO_5⟩, ⟨zS HO_152002⟩, ⟨zk BK150⟩, ⟨zk BK151⟩, ⟨zB HB⟩⟩
 case rest =>
  clear HC2
  try clear c1
  try clear p1
  try clear q1
  try clear hx1
  try clear c2
  try clear p2
  try clear q2
  try clear hx2
  try clear c3
  try clear p3
  try clear q3
  try clear hx3
  try clear c4
  try clear p4
  try clear q4
  try clear hx4
  try clear c5
  try clear p5
  try clear q5
  try clear hx5
  try clear c6
  try clear p6
  try clear c8
  try clear c8b0
  try clear c8b1
  try clear c9
  try clear c10
  try clear c10b0
  try clear c11
  try clear c11b0
  try clear p12
  try clear q12
  try clear hx12
  try clear c14
  try clear c14b0
  try clear c14b1
  try clear c15
  try clear c16
  try clear c22
  try clear c22b0
  try clear c23
  try clear c23b0
  try clear c24
  try clear c24b0
  try clear p25
  try clear q25
  try clear hx25
  try clear c27
  try clear c27b0
  try clear c28
  try clear c28b0
  try clear p29
  try clear q29
  try clear hx29
  try clear c31
  try clear c31b0
  try clear c32
  try clear c32b0
  try clear p33
  try clear q33
  try clear hx33
  try clear c41
  try clear c41b0
  try clear c41b1
  try clear p42
  try clear q42
  try clear hx42
  try clear c43
  try clear c43b0
  try clear c43b1
  try clear c44
  try clear c45
  try clear c46
  try clear c49
  try clear c50
  try clear c51
  try clear p54
  try clear q54
  try clear hx54
  try clear c55
  try clear c55b0
  try clear c55b1
  try clear c56
  try clear c57
  try clear c58
  try clear c61
  try clear c62
  try clear c63
  try clear p64
  try clear hz17
  try clear hz21
  try clear hz47
  try clear hz52
  try clear hz59
  try clear hz64
  try clear hz6
  try clear p1
  try clear p12
  try clear p2
  try clear p25
  try clear p29
  try clear p33
  try clear p42
  try clear p54
  try clear p6
  try clear q1
  try clear q12
  try clear q25
  try clear q29
  try clear q33
  try clear q42
  try clear q54
  obtain ⟨kq, x5_1, x152000_1, x152002_1, u152002, HA, HJ1, HO_5, HO_152002, BK150, BK151, HB⟩ := hcut
  cases kq with
  | zero => exact absurd HA.out (by simp [standstillref01_Parse.j3])
  | succ kj1 =>
   have H := HA.out
   clear HA
   simp only [standstillref01_Parse.j3] at H
   by_cases c66 : x152002_1.length < 5864062014805
   ·
    rw [if_pos c66] at H
    have LMc66 := Aside0.mk c66
    clear c66
    obtain ⟨y168, hy168⟩ : ∃ y_ : List (List (S57)), y_ = (x152002_1 ++ [x5_1]) := ⟨_, rfl⟩
    replace H : ((standstillref01_Valid.f kj1 x152000_1 (x5_1.length : Int) y168).bind fun t171 => (if t171 = true then ((standstillref01_Text.f kj1 x152000_1 (x5_1.length : Int) y168).bind fun t172 => (if t172.toList = a0.toList then (some (x152000_1, (x5_1.length : Int), y168, true)) else (some (0, 0, ([] : List (List (S57))), false)))) else (some (0, 0, ([] : List (List (S57))), false)))) = some (r1, r2, r3, r4) := by first | (rw [hy168]; with_reducible exact H) | (have H2_ := (Option.bind_some _ _).symm.trans H; rw [hy168]; with_reducible exact H2_) | (have H2_ := (Option.bind_some _ _).symm.trans H; with_reducible exact H2_) | with_reducible exact H | (rw [hy168]; exact H) | exact H
    have Ny168 := Aside0.mk hy168
    clear hy168
    have HC67 := Aside0.mk H
    clear H
    have hnb68 := NB151_150.out
    have hnc68 := NB150_151.out
    have hz69 := zc3 BK151
    obtain ⟨Ao71, co71, eo71⟩ := Kd.R_slice HO_5.out
    subst eo71
    go_upto_region 20 with (first | ((with_reducible refine gate_builtin (b := .append) (xs := #[.tmp 71, .tmp 73]) rfl ?_); (try (refine gate_guard (by rfl) ?_; dsimp only)); at_builtin; refine Kd.S_append (Kd.slice 57 k57) (w0 := w) w.heap.size rfl (.tmp 71) (.tmp 73) 22 54 (.slice none 0 0) 24 rfl Try.underlying22 info54 rfl (by decide) (by omega) u152002 x152002_1 x5_1 [.slice Ao71 x5_1.length co71] (fun _ => True) (fun k_ => some k_ = (.slice Ao71 x5_1.length co71 : Value).ownBlock) rfl rfl ?aP (fun k_ hk_ => ((Kd.R_mono (ok' := fun k_ => ((fun _ => True)) k_ ∧ some k_ ≠ (u152002 : Value).ownBlock) (Kd.R_apart' (HO_5.out) (Kd.S_typed HO_152002.out) (by decide)) (fun k_ hk => ⟨trivial, hk.2⟩))).1 k_ hk_.symm) ?aF ?aO ?aB ?aS ?aL ?_; (case aP => exact Kd.M_row (Kd.R_mono (Kd.R_tight rfl (Kd.R_mono (ok' := fun k_ => ((fun _ => True)) k_ ∧ some k_ ≠ (u152002 : Value).ownBlock) (Kd.R_apart' (HO_5.out) (Kd.S_typed HO_152002.out) (by decide)) (fun k_ hk => ⟨trivial, hk.2⟩))) (fun _ h_ => h_))); (case aB => exact (zB HB)); (case aF => exact (fun _ _ => trivial)); (case aO => exact (by (with_reducible repeat (first | apply Kd.S_alloc | apply Kd.S_drewN | apply Kd.S_drew)); exact Kd.S_mono HO_152002.out (fun k_ hk => ⟨trivial, fun e_ => hk e_⟩))); (case aS => exact (below_size (zB HB))); (case aL => have := LMc66.out; omega); intro v169 w70 ho hb hg hat; rw [← Ny168.out] at ho; have n0_ := Aside0.mk (blk_grown (g := gb150) (o := .cells #[.int .i64 0, .int .i64 0, .slice none 0 0] 24 (0, 0)) (zk BK150) hg (Kd.S_ne HO_152002.out BK150.out (by decide))); have n1_ := Aside0.mk (blk_grown (g := gb151) (o := .cells #[.int .i64 x152000_1, .int .i64 0, u152002] 24 (0, 0)) (zk BK151) hg (Kd.S_ne HO_152002.out BK151.out (by decide))); have n2_ := Aside0.mk (hb); have n3_ := Aside0.mk (ho); clear BK150; clear BK151; clear HB; clear HO_152002; clear HO_5; have BK150 := n0_; have BK151 := n1_; have HB := n2_; have HO170 := n3_; clear n0_ n1_ n2_ n3_; clear ho hb hg hat; obtain ⟨Ao72, co72, eo72⟩ := Kd.S_slice HO170.out; subst eo72; have hz73 := zc3 BK151) | ((with_reducible refine gate_store (t := 22) (p := 75) rfl ?_); refine store_event (t := 22) (p := 75) (v := ?vo_w74) (w1 := (w70.setCell ⟨gb151, 2, none⟩ (.slice Ao72 y168.length co72))) ?hg ?ho ?hn ?hr ?_; (case ho => rfl); (case hg => rfl); (case hn => rfl); (case hr => first | (go_simp; done) | (go_simp; rfl)); intro w74 hw; have n0_ : Aside0 (Kd.S (Kd.slice 57 k57) 54 w74 w.heap.size (fun _ => True) (.slice Ao72 y168.length co72) y168) := ⟨(by rw [hw]; exact (by (with_reducible repeat (first | apply Kd.S_alloc | apply Kd.S_drewN | apply Kd.S_drew)); exact Kd.S_mono (Kd.S_far (p := ⟨gb151, 2, none⟩) (Kd.S_types HO170.out BK151.out (by decide)) (fun _ hk => hk.2) (.slice Ao72 y168.length co72)) (fun _ hk => trivial)))⟩; have n1_ : Aside0 (w74.heap[gb150]? = some (.cells #[.int .i64 0, .int .i64 0, .slice none 0 0] 24 (0, 0))) := ⟨(by rw [hw]; exact (zK BK150))⟩; have n2_ : Aside0 (w74.heap[gb151]? = some (.cells #[.int .i64 x152000_1, .int .i64 0, .slice Ao72 y168.length co72] 24 (0, 0))) := ⟨(by rw [hw]; exact (by (with_reducible repeat (first | refine blk_drewN ?_ _ | refine blk_drew ?_ | refine blk_alloc ?_ _)); refine blk_put (cs := #[.int .i64 x152000_1, .int .i64 0, u152002]) ?_ 2 _ rfl; (with_reducible repeat (first | refine blk_drewN ?_ _ | refine blk_drew ?_ | refine blk_alloc ?_ _)); exact BK151.out))⟩; have n3_ : Aside0 (Below w.heap.size w w74) := ⟨(by rw [hw]; exact (zB HB))⟩; clear hw; clear HO170; clear BK150; clear BK151; clear HB; have HO170 := n0_; have BK150 := n1_; have BK151 := n2_; have HB := n3_; clear n0_ n1_ n2_ n3_; have hz75 := zc3 BK151) | ((with_reducible refine gate_store (t := 3) (p := 78) rfl ?_); refine store_event (t := 3) (p := 78) (v := ?vo_w76) (w1 := (w74.setCell ⟨gb151, 1, none⟩ (.int .i64 (x5_1.length : Int)))) ?hg ?ho ?hn ?hr ?_; (case ho => rfl); (case hg => rfl); (case hn => rfl); (case hr => first | (go_simp; done) | (go_simp; rfl)); intro w76 hw; have n0_ : Aside0 (Kd.S (Kd.slice 57 k57) 54 w76 w.heap.size (fun _ => True) (.slice Ao72 y168.length co72) y168) := ⟨(by rw [hw]; exact (by (with_reducible repeat (first | apply Kd.S_alloc | apply Kd.S_drewN | apply Kd.S_drew)); exact Kd.S_mono (Kd.S_far (p := ⟨gb151, 1, none⟩) (Kd.S_types HO170.out BK151.out (by decide)) (fun _ hk => hk.2) (.int .i64 (x5_1.length : Int))) (fun _ hk => trivial)))⟩; have n1_ : Aside0 (w76.heap[gb150]? = some (.cells #[.int .i64 0, .int .i64 0, .slice none 0 0] 24 (0, 0))) := ⟨(by rw [hw]; exact (zK BK150))⟩; have n2_ : Aside0 (w76.heap[gb151]? = some (.cells #[.int .i64 x152000_1, .int .i64 (x5_1.length : Int), .slice Ao72 y168.length co72] 24 (0, 0))) := ⟨(by rw [hw]; exact (by (with_reducible repeat (first | refine blk_drewN ?_ _ | refine blk_drew ?_ | refine blk_alloc ?_ _)); refine blk_put (cs := #[.int .i64 x152000_1, .int .i64 0, .slice Ao72 y168.length co72]) ?_ 1 _ rfl; (with_reducible repeat (first | refine blk_drewN ?_ _ | refine blk_drew ?_ | refine blk_alloc ?_ _)); exact BK151.out))⟩; have n3_ : Aside0 (Below w.heap.size w w76) := ⟨(by rw [hw]; exact (zB HB))⟩; clear hw; clear HO170; clear BK150; clear BK151; clear HB; have HO170 := n0_; have BK150 := n1_; have BK151 := n2_; have HB := n3_; clear n0_ n1_ n2_ n3_))
    (try simp only [Act.put, zs, zs0, zs1])
    have H := HC67.out
    clear HC67
    replace H := Option.bind_eq_some_iff.mp H
    obtain ⟨t171, A770, H⟩ := H
    replace H : (if t171 = true then ((standstillref01_Text.f kj1 x152000_1 (x5_1.length : Int) y168).bind fun t172 => (if t172.toList = a0.toList then (some (x152000_1, (x5_1.length : Int), y168, true)) else (some (0, 0, ([] : List (List (S57))), false)))) else (some (0, 0, ([] : List (List (S57))), false))) = some (r1, r2, r3, r4) := H
    have A77 := Aside0.mk A770
    clear A770
    by_cases c78 : t171 = true
    ·
     subst c78
     have H1 : ((standstillref01_Text.f kj1 x152000_1 (x5_1.length : Int) y168).bind fun t172 => (if t172.toList = a0.toList then (some (x152000_1, (x5_1.length : Int), y168, true)) else (some (0, 0, ([] : List (List (S57))), false)))) = some (r1, r2, r3, r4) := by rw [if_pos rfl] at H; exact H
     clear H
     have H := H1
     clear H1
     replace H := Option.bind_eq_some_iff.mp H
     obtain ⟨t172, A790, H⟩ := H
     replace H : (if t172.toList = a0.toList then (some (x152000_1, (x5_1.length : Int), y168, true)) else (some (0, 0, ([] : List (List (S57))), false))) = some (r1, r2, r3, r4) := H
     have A79 := Aside0.mk A790
     clear A790
     have HC80 := Aside0.mk H
     clear H
     have hnb81 := NB151_150.out
     have hnc81 := NB150_151.out
     have hz82 := zc3 BK151
     go_upto_if 87 with (first | ((with_reducible refine gate_callee (f := 10) rfl ?_); refine goesL_ (some 80) rfl rfl Try.func10 (by kernel_rfl) rfl #[.agg #[.int .i64 x152000_1, .int .i64 (x5_1.length : Int), .slice Ao72 y168.length co72]] rfl (zm) ?_; (with_reducible refine (standstillref01_Valid.calls kj1 x152000_1 (x5_1.length : Int) _ _ y168 true _ ?side1 ?side2 A77.out).mono ?_); (case side1 => exact zC ((Kd.S_reads' HO170.out).2.2)); (case side2 => exact (Kd.S_reads' HO170.out).2.1); rintro e w83 ⟨rfl, hb⟩; refine ⟨_, rfl, ?_⟩; replace HO170 := Aside0.mk (zSb HO170 hb); replace BK150 := Aside0.mk (zb BK150 hb); replace BK151 := Aside0.mk (zb BK151 hb); replace HB := Aside0.mk (below_step (zB HB) hb); (try clear hb); (try clear hb2); (try clear hk); (try clear hi); have hz84 := zc3 BK151) | (go_at_call 34; (with_reducible refine (standstillref01_Text.calls kj1 x152000_1 (x5_1.length : Int) _ _ y168 t172 _ ?side1 ?side2 A79.out).mono ?_); (case side1 => exact zC ((Kd.S_reads' HO170.out).2.2)); (case side2 => exact (Kd.S_reads' HO170.out).2.1); rintro e w85 ⟨rfl, hb⟩; replace HO170 := Aside0.mk (zSb HO170 hb); replace BK150 := Aside0.mk (zb BK150 hb); replace BK151 := Aside0.mk (zb BK151 hb); replace HB := Aside0.mk (below_step (zB HB) hb); (try clear hb); (try clear hb2); (try clear hk); (try clear hi)))
     (try simp only [Act.put, zs, zs0, zs1])
     have H := HC80.out
     clear HC80
     by_cases c86 : t172.toList = a0.toList
     ·
      rw [if_pos c86] at H
      have c86b0 : (t172.toList == a0.toList) = true := beq_iff_eq.mpr c86
      have c86b1 : (t172.toList != a0.toList) = false := bne_eq_false_iff_eq.mpr c86
      clear c86
      (first | rw [c86b0] | (simp only [i64_w, i32_w]; rw [c86b0]) | skip)
      (try rw [c86b1])
      simp only [Option.some.injEq, Prod.mk.injEq] at H
      obtain ⟨rfl, rfl, rfl, rfl⟩ := H
      have hnb87 := NB151_150.out
      have hnc87 := NB150_151.out
      have hz88 := zc3 BK151
      have hz89 := zc3 BK150
      go_wp2
      refine bodyPost_ret (results_ct rfl _ _ gb150 24 #[.int .i64 x152000_1, .int .i64 (x5_1.length : Int), .slice Ao72 y168.length co72] (0, 0) _ rfl (by (with_reducible repeat (first | refine blk_drewN ?_ _ | refine blk_drew ?_ | refine blk_alloc ?_ _)); refine blk_put (cs := #[.int .i64 x152000_1, .int .i64 (x5_1.length : Int), .slice none 0 0]) ?_ 2 _ rfl; (with_reducible repeat (first | refine blk_drewN ?_ _ | refine blk_drew ?_ | refine blk_alloc ?_ _)); refine blk_put (cs := #[.int .i64 x152000_1, .int .i64 0, .slice none 0 0]) ?_ 1 _ rfl; (with_reducible repeat (first | refine blk_drewN ?_ _ | refine blk_drew ?_ | refine blk_alloc ?_ _)); refine blk_put (cs := #[.int .i64 0, .int .i64 0, .slice none 0 0]) ?_ 0 _ rfl; (with_reducible repeat (first | refine blk_drewN ?_ _ | refine blk_drew ?_ | refine blk_alloc ?_ _)); exact BK150.out) Try.underlying24 rfl (by kernel_rfl)) rfl ?_
      exact ⟨_, by first | rfl | (simp [errW_none, errW_some] <;> rfl) | (simp [*, errW_none, errW_some] <;> rfl), by (with_reducible repeat (first | apply Kd.S_alloc | apply Kd.S_drewN | apply Kd.S_drew)); exact Kd.S_mono (zSf3 (g := gb150) (Kd.S_types HO170.out BK150.out (by decide))) (fun _ hk => trivial), zB HB⟩
     ·
      rw [if_neg c86] at H
      have c86b0 : (t172.toList == a0.toList) = false := beq_eq_false_iff_ne.mpr c86
      have c86b1 : (t172.toList != a0.toList) = true := bne_iff_ne.mpr c86
      (first | rw [c86b0] | (simp only [i64_w, i32_w]; rw [c86b0]) | skip)
      (try rw [c86b1])
      simp only [Option.some.injEq, Prod.mk.injEq] at H
      obtain ⟨rfl, rfl, rfl, rfl⟩ := H
      have hnb90 := NB150_151.out
      have hnc90 := NB151_150.out
      have hz91 := zc3 BK150
      go_wp2
      refine bodyPost_ret (results_ct rfl _ _ gb150 24 #[.int .i64 0, .int .i64 0, .slice none 0 0] (0, 0) _ rfl (by (with_reducible repeat (first | refine blk_drewN ?_ _ | refine blk_drew ?_ | refine blk_alloc ?_ _)); refine blk_put (cs := #[.int .i64 0, .int .i64 0, .slice none 0 0]) ?_ 2 _ rfl; (with_reducible repeat (first | refine blk_drewN ?_ _ | refine blk_drew ?_ | refine blk_alloc ?_ _)); refine blk_put (cs := #[.int .i64 0, .int .i64 0, .slice none 0 0]) ?_ 1 _ rfl; (with_reducible repeat (first | refine blk_drewN ?_ _ | refine blk_drew ?_ | refine blk_alloc ?_ _)); refine blk_put (cs := #[.int .i64 0, .int .i64 0, .slice none 0 0]) ?_ 0 _ rfl; (with_reducible repeat (first | refine blk_drewN ?_ _ | refine blk_drew ?_ | refine blk_alloc ?_ _)); exact BK150.out) Try.underlying24 rfl (by kernel_rfl)) rfl ?_
      exact ⟨_, by first | rfl | (simp [errW_none, errW_some] <;> rfl) | (simp [*, errW_none, errW_some] <;> rfl), by first | exact Kd.S_nil _ _ _ _ _ | exact Kd.N_nil _ _ _ _ _ | exact Kd.V_nil _ _ _ _ _ | exact Kd.Q_nil _ _ _ _ _ | exact Kd.R_nil _ _ _ _ _, zB HB⟩
    ·
     replace c78 := Bool.eq_false_iff.mpr c78
     subst c78
     have H1 : (some (0, 0, ([] : List (List (S57))), false)) = some (r1, r2, r3, r4) := by rw [if_neg (show ¬ (false = true) by decide)] at H; exact H
     clear H
     have H := H1
     clear H1
     simp only [Option.some.injEq, Prod.mk.injEq] at H
     obtain ⟨rfl, rfl, rfl, rfl⟩ := H
     have hnb92 := NB151_150.out
     have hnc92 := NB150_151.out
     have hz93 := zc3 BK151
     go_wp2_with (first | ((with_reducible refine gate_callee (f := 10) rfl ?_); refine goesL_ (some 80) rfl rfl Try.func10 (by kernel_rfl) rfl #[.agg #[.int .i64 x152000_1, .int .i64 (x5_1.length : Int), .slice Ao72 y168.length co72]] rfl (zm) ?_; (with_reducible refine (standstillref01_Valid.calls kj1 x152000_1 (x5_1.length : Int) _ _ y168 false _ ?side1 ?side2 A77.out).mono ?_); (case side1 => exact zC ((Kd.S_reads' HO170.out).2.2)); (case side2 => exact (Kd.S_reads' HO170.out).2.1); rintro e w94 ⟨rfl, hb⟩; refine ⟨_, rfl, ?_⟩; replace HO170 := Aside0.mk (zSb HO170 hb); replace BK150 := Aside0.mk (zb BK150 hb); replace BK151 := Aside0.mk (zb BK151 hb); replace HB := Aside0.mk (below_step (zB HB) hb); (try clear hb); (try clear hb2); (try clear hk); (try clear hi); have hz95 := zc3 BK150))
     refine bodyPost_ret (results_ct rfl _ _ gb150 24 #[.int .i64 0, .int .i64 0, .slice none 0 0] (0, 0) _ rfl (by (with_reducible repeat (first | refine blk_drewN ?_ _ | refine blk_drew ?_ | refine blk_alloc ?_ _)); refine blk_put (cs := #[.int .i64 0, .int .i64 0, .slice none 0 0]) ?_ 2 _ rfl; (with_reducible repeat (first | refine blk_drewN ?_ _ | refine blk_drew ?_ | refine blk_alloc ?_ _)); refine blk_put (cs := #[.int .i64 0, .int .i64 0, .slice none 0 0]) ?_ 1 _ rfl; (with_reducible repeat (first | refine blk_drewN ?_ _ | refine blk_drew ?_ | refine blk_alloc ?_ _)); refine blk_put (cs := #[.int .i64 0, .int .i64 0, .slice none 0 0]) ?_ 0 _ rfl; (with_reducible repeat (first | refine blk_drewN ?_ _ | refine blk_drew ?_ | refine blk_alloc ?_ _)); exact BK150.out) Try.underlying24 rfl (by kernel_rfl)) rfl ?_
     exact ⟨_, by first | rfl | (simp [errW_none, errW_some] <;> rfl) | (simp [*, errW_none, errW_some] <;> rfl), by first | exact Kd.S_nil _ _ _ _ _ | exact Kd.N_nil _ _ _ _ _ | exact Kd.V_nil _ _ _ _ _ | exact Kd.Q_nil _ _ _ _ _ | exact Kd.R_nil _ _ _ _ _, zB HB⟩
   ·
    rw [if_neg c66] at H
    exact absurd H (by simp)

end Go.Proofs.Ytfjfnpegpcdnaaa.GB
