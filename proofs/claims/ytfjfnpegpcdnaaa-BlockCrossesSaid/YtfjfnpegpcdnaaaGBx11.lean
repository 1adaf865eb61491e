/- The functions of one seat as Lean functions, each with its contract: the call of the Go function returns what the Lean function answers. Written by a program of this session out of the translation; contracts made by hand are laid between. -/
import Derived.Test.YtfjfnpegpcdnaaaGBx0
import Derived.Test.YtfjfnpegpcdnaaaGBx1
import Derived.Test.YtfjfnpegpcdnaaaGBx4
import Derived.Test.YtfjfnpegpcdnaaaGBx5
import Derived.Test.YtfjfnpegpcdnaaaGBx6
import Derived.Test.YtfjfnpegpcdnaaaGBx9
import Derived.Test.YtfjfnpegpcdnaaaGBx10
namespace Go.Proofs.Ytfjfnpegpcdnaaa.GB
open Go.RowKit Go.Proofs.YtfjfnpegpcdnaaaW.PrintWords Go.Proofs.YtfjfnpegpcdnaaaW.PrintLast Go.Proofs.YtfjfnpegpcdnaaaW.PrintMore
attribute [local go_sem] max2_int min2_int max_two min_two max_three min_three max_four min_four   -- for this text's walks alone
set_option linter.unusedVariables false
set_option linter.unusedSimpArgs false

/-! ### standstilllaw05_BlockCrosses: function 3 -/
mutual
def standstilllaw05_BlockCrosses.j0 : Nat → Int → Int → List Int → Bool → Int → Int → List (List (S57)) → Option (Bool)
 | 0, _, _, _, _, _, _, _ => none
 | k + 1, x1, x2, x3, x17, x243000, x243001, x243002 => if x17 = true then ((standstilllaw05_awake.f k).bind fun t244 => (some t244)) else ((block_Cross.f k x243000 x243001 x243002 x1 x2 x3).bind fun bt245 => ((standstillref01_Valid.f k x243000 x243001 x243002).bind fun t254 => (if t254 = true then (if x1 < 0 then (standstilllaw05_BlockCrosses.j1 k x1 x2 x3 bt245.2.2.2.2.2 true x243000 x243001 x243002 bt245.1 bt245.2.1 bt245.2.2.1 bt245.2.2.2.1 bt245.2.2.2.2.1) else (if x1 ≥ x243000 then (standstilllaw05_BlockCrosses.j1 k x1 x2 x3 bt245.2.2.2.2.2 true x243000 x243001 x243002 bt245.1 bt245.2.1 bt245.2.2.1 bt245.2.2.2.1 bt245.2.2.2.2.1) else ((standstillref05_Word.f k x243000 x243001 x243002 x3).bind fun t255 => (if t255 = true then (if x2 < 0 then (standstilllaw05_BlockCrosses.j1 k x1 x2 x3 bt245.2.2.2.2.2 true x243000 x243001 x243002 bt245.1 bt245.2.1 bt245.2.2.1 bt245.2.2.2.1 bt245.2.2.2.2.1) else (standstilllaw05_BlockCrosses.j1 k x1 x2 x3 bt245.2.2.2.2.2 (decide (x2 ≥ (x3.length : Int))) x243000 x243001 x243002 bt245.1 bt245.2.1 bt245.2.2.1 bt245.2.2.2.1 bt245.2.2.2.2.1)) else (standstilllaw05_BlockCrosses.j1 k x1 x2 x3 bt245.2.2.2.2.2 true x243000 x243001 x243002 bt245.1 bt245.2.1 bt245.2.2.1 bt245.2.2.2.1 bt245.2.2.2.2.1))))) else (if bt245.2.2.2.2.2 = 1 then ((standstillref05_Same.f k bt245.1 bt245.2.1 bt245.2.2.1 bt245.2.2.2.1 bt245.2.2.2.2.1 0 0 0 0 ([] : List Int)).bind fun t267 => (if t267 = true then ((standstilllaw05_awake.f k).bind fun t268 => (some t268)) else (some false))) else (some false)))))
def standstilllaw05_BlockCrosses.j1 : Nat → Int → Int → List Int → Int → Bool → Int → Int → List (List (S57)) → Int → Int → Int → Int → List Int → Option (Bool)
 | 0, _, _, _, _, _, _, _, _, _, _, _, _, _ => none
 | k + 1, x1, x2, x3, x10, x41, x243000, x243001, x243002, x254000, x254001, x254002, x254003, x254004 => if x41 = true then (if x10 = 2 then ((standstillref05_Same.f k x254000 x254001 x254002 x254003 x254004 0 0 0 0 ([] : List Int)).bind fun t256 => (if t256 = true then ((standstilllaw05_awake.f k).bind fun t257 => (some t257)) else (some false))) else (some false)) else (if x10 = 0 then ((standstillref05_Cross.f k x243000 x243001 x243002 x1 x2 x3).bind fun bt258 => ((standstillref05_Same.f k x254000 x254001 x254002 x254003 x254004 bt258.1 bt258.2.1 bt258.2.2.1 bt258.2.2.2.1 bt258.2.2.2.2).bind fun t265 => (if t265 = true then ((standstilllaw05_awake.f k).bind fun t266 => (some t266)) else (some false)))) else (some false))
end
def standstilllaw05_BlockCrosses.f (k : Nat) (a0_0 : Int) (a0_1 : Int) (l0_2 : List (List (S57))) (a1 : Int) (a2 : Int) (l3 : List Int) : Option (Bool) := (standstilllaw05_wide.f k a0_0 a0_1 l0_2).bind fun t243 => (if t243 = true then (standstilllaw05_BlockCrosses.j0 k a1 a2 l3 true a0_0 a0_1 l0_2) else (standstilllaw05_BlockCrosses.j0 k a1 a2 l3 (decide ((l3.length : Int) > 1000)) a0_0 a0_1 l0_2))
theorem standstilllaw05_BlockCrosses.mono_l : ∀ k, (∀ y0 y1 y2 y3 y4 y5 y6, LeO (standstilllaw05_BlockCrosses.j0 k y0 y1 y2 y3 y4 y5 y6) (standstilllaw05_BlockCrosses.j0 (k + 1) y0 y1 y2 y3 y4 y5 y6)) ∧ (∀ y0 y1 y2 y3 y4 y5 y6 y7 y8 y9 y10 y11 y12, LeO (standstilllaw05_BlockCrosses.j1 k y0 y1 y2 y3 y4 y5 y6 y7 y8 y9 y10 y11 y12) (standstilllaw05_BlockCrosses.j1 (k + 1) y0 y1 y2 y3 y4 y5 y6 y7 y8 y9 y10 y11 y12))
 | 0 => ⟨fun _ _ _ _ _ _ _ r h => by simp [standstilllaw05_BlockCrosses.j0] at h, fun _ _ _ _ _ _ _ _ _ _ _ _ _ r h => by simp [standstilllaw05_BlockCrosses.j1] at h⟩
 | k + 1 => by
  obtain ⟨ih0, ih1⟩ := standstilllaw05_BlockCrosses.mono_l k
  refine ⟨?_, ?_⟩
  ·
   intro y0 y1 y2 y3 y4 y5 y6
   unfold standstilllaw05_BlockCrosses.j0
   repeat' first
   | (with_reducible exact ih0 _ _ _ _ _ _ _)
   | (with_reducible exact ih1 _ _ _ _ _ _ _ _ _ _ _ _ _)
   | (with_reducible exact block_Cross.mono _ _ _ _ _ _ _)
   | (with_reducible exact standstilllaw05_awake.mono _)
   | (with_reducible exact standstilllaw05_wide.mono _ _ _ _)
   | (with_reducible exact standstillref01_Valid.mono _ _ _ _)
   | (with_reducible exact standstillref05_Cross.mono _ _ _ _ _ _ _)
   | (with_reducible exact standstillref05_Same.mono _ _ _ _ _ _ _ _ _ _ _)
   | (with_reducible exact standstillref05_Word.mono _ _ _ _ _)
   | (with_reducible exact LeO.refl _)
   | (with_reducible exact LeO.none _)
   | (with_reducible refine LeO.ite ?_ ?_)
   | (with_reducible refine LeO.bind ?_ (fun _ => ?_))
   | exact ih0 _ _ _ _ _ _ _
   | exact ih1 _ _ _ _ _ _ _ _ _ _ _ _ _
   | exact block_Cross.mono _ _ _ _ _ _ _
   | exact standstilllaw05_awake.mono _
   | exact standstilllaw05_wide.mono _ _ _ _
   | exact standstillref01_Valid.mono _ _ _ _
   | exact standstillref05_Cross.mono _ _ _ _ _ _ _
   | exact standstillref05_Same.mono _ _ _ _ _ _ _ _ _ _ _
   | exact standstillref05_Word.mono _ _ _ _ _
   | exact LeO.none _
   | refine LeO.ite ?_ ?_
   | refine LeO.bind ?_ (fun _ => ?_)
  ·
   intro y0 y1 y2 y3 y4 y5 y6 y7 y8 y9 y10 y11 y12
   unfold standstilllaw05_BlockCrosses.j1
   repeat' first
   | (with_reducible exact ih0 _ _ _ _ _ _ _)
   | (with_reducible exact ih1 _ _ _ _ _ _ _ _ _ _ _ _ _)
   | (with_reducible exact block_Cross.mono _ _ _ _ _ _ _)
   | (with_reducible exact standstilllaw05_awake.mono _)
   | (with_reducible exact standstilllaw05_wide.mono _ _ _ _)
   | (with_reducible exact standstillref01_Valid.mono _ _ _ _)
   | (with_reducible exact standstillref05_Cross.mono _ _ _ _ _ _ _)
   | (with_reducible exact standstillref05_Same.mono _ _ _ _ _ _ _ _ _ _ _)
   | (with_reducible exact standstillref05_Word.mono _ _ _ _ _)
   | (with_reducible exact LeO.refl _)
   | (with_reducible exact LeO.none _)
   | (with_reducible refine LeO.ite ?_ ?_)
   | (with_reducible refine LeO.bind ?_ (fun _ => ?_))
   | exact ih0 _ _ _ _ _ _ _
   | exact ih1 _ _ _ _ _ _ _ _ _ _ _ _ _
   | exact block_Cross.mono _ _ _ _ _ _ _
   | exact standstilllaw05_awake.mono _
   | exact standstilllaw05_wide.mono _ _ _ _
   | exact standstillref01_Valid.mono _ _ _ _
   | exact standstillref05_Cross.mono _ _ _ _ _ _ _
   | exact standstillref05_Same.mono _ _ _ _ _ _ _ _ _ _ _
   | exact standstillref05_Word.mono _ _ _ _ _
   | exact LeO.none _
   | refine LeO.ite ?_ ?_
   | refine LeO.bind ?_ (fun _ => ?_)
theorem standstilllaw05_BlockCrosses.mono : ∀ a0 a1 a2 a3 a4 a5 k, LeO (standstilllaw05_BlockCrosses.f k a0 a1 a2 a3 a4 a5) (standstilllaw05_BlockCrosses.f (k + 1) a0 a1 a2 a3 a4 a5) := by
 intro a0 a1 a2 a3 a4 a5 k
 obtain ⟨ih0, ih1⟩ := standstilllaw05_BlockCrosses.mono_l k
 unfold standstilllaw05_BlockCrosses.f
 repeat' first
   | (with_reducible exact ih0 _ _ _ _ _ _ _)
   | (with_reducible exact ih1 _ _ _ _ _ _ _ _ _ _ _ _ _)
   | (with_reducible exact block_Cross.mono _ _ _ _ _ _ _)
   | (with_reducible exact standstilllaw05_awake.mono _)
   | (with_reducible exact standstilllaw05_wide.mono _ _ _ _)
   | (with_reducible exact standstillref01_Valid.mono _ _ _ _)
   | (with_reducible exact standstillref05_Cross.mono _ _ _ _ _ _ _)
   | (with_reducible exact standstillref05_Same.mono _ _ _ _ _ _ _ _ _ _ _)
   | (with_reducible exact standstillref05_Word.mono _ _ _ _ _)
   | (with_reducible exact LeO.refl _)
   | (with_reducible exact LeO.none _)
   | (with_reducible refine LeO.ite ?_ ?_)
   | (with_reducible refine LeO.bind ?_ (fun _ => ?_))
   | exact ih0 _ _ _ _ _ _ _
   | exact ih1 _ _ _ _ _ _ _ _ _ _ _ _ _
   | exact block_Cross.mono _ _ _ _ _ _ _
   | exact standstilllaw05_awake.mono _
   | exact standstilllaw05_wide.mono _ _ _ _
   | exact standstillref01_Valid.mono _ _ _ _
   | exact standstillref05_Cross.mono _ _ _ _ _ _ _
   | exact standstillref05_Same.mono _ _ _ _ _ _ _ _ _ _ _
   | exact standstillref05_Word.mono _ _ _ _ _
   | exact LeO.none _
   | refine LeO.ite ?_ ?_
   | refine LeO.bind ?_ (fun _ => ?_)
def standstilllaw05_BlockCrosses.T8 : Bool × List (List Nat × List Nat) := (true, [([], []), ([0], [0]), ([1], [1]), ([2], [2]), ([2], [2]), ([2], [2]), ([2], [2]), ([2], [2]), ([4, 5, 6, 7, 2, 2], [2, 4, 5, 6, 7]), ([3, 8, 8, 2], [2, 3, 8]), ([2, 9], [2, 9]), ([10, 9], [10]), ([11, 11], [11]), ([11, 12], [11, 12]), ([13, 12, 0, 1, 2, 3, 4, 5, 6, 7, 8, 9, 10, 11, 12, 13], [13])])
def standstilllaw05_BlockCrosses.B8 : List Nat := [0, 1, 3, 7, 7, 7, 7, 7, 247, 511, 1023, 2047, 4095, 8191, 16383]
theorem standstilllaw05_BlockCrosses.tab8 : rtab .any (opsOf Try.f3 8) = standstilllaw05_BlockCrosses.T8 := by kernel_rfl
theorem standstilllaw05_BlockCrosses.bits8 : waitsOk standstilllaw05_BlockCrosses.T8.2 standstilllaw05_BlockCrosses.B8 = true := by kernel_rfl
set_option maxHeartbeats 8000000 in
set_option maxRecDepth 100000 in
theorem standstilllaw05_BlockCrosses.calls (k : Nat) (a0_0 : Int) (a0_1 : Int) (A0_2 : Option Addr) (c0_2 : Nat) (l0_2 : List (List (S57))) (a1 : Int) (a2 : Int) (A3 : Option Addr) (c3 : Nat) (l3 : List Int) (r : Bool) (w : World) (hr0_2 : Kd.C (Kd.slice 57 k57) w A0_2 l0_2.length l0_2) (hc0_2 : l0_2.length ≤ c0_2) (hr3 : Kd.C (Kd.int .i64) w A3 l3.length l3) (hc3 : l3.length ≤ c3) (h : standstilllaw05_BlockCrosses.f k a0_0 a0_1 l0_2 a1 a2 l3 = some r) :
  Calls Try.prog 3 #[.agg #[.int .i64 a0_0, .int .i64 a0_1, .slice A0_2 l0_2.length c0_2], .int .i64 a1, .int .i64 a2, .slice A3 l3.length c3] w fun e w' => e = .returned (.bool r) ∧ Below w.heap.size w w' := by
 have hu24 := Try.underlying24
 have hu29 := Try.underlying29
 have HR0_2 := Aside0.mk hr0_2
 have HC0_2 := Aside0.mk hc0_2
 clear hr0_2 hc0_2
 have HR3 := Aside0.mk hr3
 have HC3 := Aside0.mk hc3
 clear hr3 hc3
 have HB := Aside0.mk (Below.refl w.heap.size w)
 have H : ((standstilllaw05_wide.f k a0_0 a0_1 l0_2).bind fun t243 => (if t243 = true then (standstilllaw05_BlockCrosses.j0 k a1 a2 l3 true a0_0 a0_1 l0_2) else (standstilllaw05_BlockCrosses.j0 k a1 a2 l3 (decide ((l3.length : Int) > 1000)) a0_0 a0_1 l0_2))) = some r := h
 clear h
 have HC5 := Aside0.mk H
 clear H
 go_enter Try.func3, Try.ntmps3
 go_upto_region 1 with (first | ((with_reducible refine gate_dst (N := 4) rfl ?_); (try (refine gate_guard (by rfl) ?_; dsimp only)); refine box_event ?hg (N := 4) ?hd (cs := #[.int .i64 a0_0, .int .i64 a0_1, .slice A0_2 l0_2.length c0_2]) (t := 24) ?hr ?_; (case hd => rfl); (case hg => rfl); (case hr => first | (go_simp; done) | (go_simp; rfl)); intro gb242 hg w6 hbox hb; have n0_ := Aside0.mk (below_step (zB HB) hb); have n1_ := Aside0.mk (hbox); have n2_ := Aside0.mk ((by rw [hg]; exact (below_size (zB HB)) : w.heap.size ≤ gb242)); have n3_ := Aside0.mk ((by rw [hg]; exact (below_size (zB HB)) : w.heap.size ≤ gb242)); clear HB; have HB := n0_; have BK242 := n1_; have GW242 := n2_; have GE242 := n3_; clear n0_ n1_ n2_ n3_; clear hb hbox hg))
 (try simp only [Act.put, zs, zs0, zs1])
 go_cut [17] (fun v17 wc => ∃ (kq : Nat) (x17_4 : Bool), v17 = .bool x17_4 ∧ Aside0 (standstilllaw05_BlockCrosses.j0 kq a1 a2 l3 x17_4 a0_0 a0_1 l0_2 = some r) ∧ Aside0 (kq ≤ k) ∧ Aside0 (wc.heap[gb242]? = some (.cells #[.int .i64 a0_0, .int .i64 a0_1, (.slice A0_2 l0_2.length c0_2)] 24 (0, 0))) ∧ Aside0 (Below w.heap.size w wc))
 case first =>
  have H := HC5.out
  clear HC5
  replace H := Option.bind_eq_some_iff.mp H
  obtain ⟨t243, A70, H⟩ := H
  replace H : (if t243 = true then (standstilllaw05_BlockCrosses.j0 k a1 a2 l3 true a0_0 a0_1 l0_2) else (standstilllaw05_BlockCrosses.j0 k a1 a2 l3 (decide ((l3.length : Int) > 1000)) a0_0 a0_1 l0_2)) = some r := H
  have A7 := Aside0.mk A70
  clear A70
  by_cases c8 : t243 = true
  ·
   subst c8
   have H1 : (standstilllaw05_BlockCrosses.j0 k a1 a2 l3 true a0_0 a0_1 l0_2) = some r := by rw [if_pos rfl] at H; exact H
   clear H
   have H := H1
   clear H1
   have H' := Aside0.mk H
   clear H
   have hcz9_0 : w6.cell? ⟨gb242, 0, none⟩ = some (.int .i64 a0_0) := (blk_cell BK242.out 0).trans rfl
   have hcz9_1 : w6.cell? ⟨gb242, 1, none⟩ = some (.int .i64 a0_1) := (blk_cell BK242.out 1).trans rfl
   have hcz9_2 : w6.cell? ⟨gb242, 2, none⟩ = some (.slice A0_2 l0_2.length c0_2) := (blk_cell BK242.out 2).trans rfl
   have hfz9_0 := blk_frozen BK242.out 0
   have hfz9_1 := blk_frozen BK242.out 1
   have hfz9_2 := blk_frozen BK242.out 2
   go_wp2_with (first | ((with_reducible refine gate_callee (f := 7) rfl ?_); refine goesL_ (some 12) rfl rfl Try.func7 (by kernel_rfl) rfl #[.agg #[.int .i64 a0_0, .int .i64 a0_1, .slice A0_2 l0_2.length c0_2]] rfl (zm) ?_; (with_reducible refine (standstilllaw05_wide.calls k a0_0 a0_1 _ _ l0_2 true _ ?side1 ?side2 A7.out).mono ?_); (case side1 => exact zC ((Kd.C_below HR0_2.out HB.out))); (case side2 => exact HC0_2.out); rintro e w10 ⟨rfl, hb⟩; refine ⟨_, rfl, ?_⟩; have n0_ := Aside0.mk (zb BK242 hb); have n1_ := Aside0.mk (below_step (zB HB) hb); clear BK242; clear HB; have BK242 := n0_; have HB := n1_; clear n0_ n1_; (try clear hb); (try clear hb2); (try clear hk); (try clear hi)))
   go_meet
   case rel => exact ⟨_, (true), (by first | rfl | (simp; done) | (simp [*]; done)), H', ⟨by first | omega | exact Nat.le_refl _⟩, ⟨zk BK242⟩, ⟨zB HB⟩⟩
  ·
   replace c8 := Bool.eq_false_iff.mpr c8
   subst c8
   have H1 : (standstilllaw05_BlockCrosses.j0 k a1 a2 l3 (decide ((l3.length : Int) > 1000)) a0_0 a0_1 l0_2) = some r := by rw [if_neg (show ¬ (false = true) by decide)] at H; exact H
   clear H
   have H := H1
   clear H1
   have H' := Aside0.mk H
   clear H
   have hcz11_0 : w6.cell? ⟨gb242, 0, none⟩ = some (.int .i64 a0_0) := (blk_cell BK242.out 0).trans rfl
   have hcz11_1 : w6.cell? ⟨gb242, 1, none⟩ = some (.int .i64 a0_1) := (blk_cell BK242.out 1).trans rfl
   have hcz11_2 : w6.cell? ⟨gb242, 2, none⟩ = some (.slice A0_2 l0_2.length c0_2) := (blk_cell BK242.out 2).trans rfl
   have hfz11_0 := blk_frozen BK242.out 0
   have hfz11_1 := blk_frozen BK242.out 1
   have hfz11_2 := blk_frozen BK242.out 2
   go_wp2_with (first | ((with_reducible refine gate_callee (f := 7) rfl ?_); refine goesL_ (some 12) rfl rfl Try.func7 (by kernel_rfl) rfl #[.agg #[.int .i64 a0_0, .int .i64 a0_1, .slice A0_2 l0_2.length c0_2]] rfl (zm) ?_; (with_reducible refine (standstilllaw05_wide.calls k a0_0 a0_1 _ _ l0_2 false _ ?side1 ?side2 A7.out).mono ?_); (case side1 => exact zC ((Kd.C_below HR0_2.out HB.out))); (case side2 => exact HC0_2.out); rintro e w12 ⟨rfl, hb⟩; refine ⟨_, rfl, ?_⟩; have n0_ := Aside0.mk (zb BK242 hb); have n1_ := Aside0.mk (below_step (zB HB) hb); clear BK242; clear HB; have BK242 := n0_; have HB := n1_; clear n0_ n1_; (try clear hb); (try clear hb2); (try clear hk); (try clear hi)))
   go_meet
   case rel => exact ⟨_, (decide ((l3.length : Int) > 1000)), (by first | rfl | (simp; done) | (simp [*]; done)), H', ⟨by first | omega | exact Nat.le_refl _⟩, ⟨zk BK242⟩, ⟨zB HB⟩⟩
 case rest =>
  clear HC5
  try clear p2
  try clear c3
  try clear c7
  try clear c8
  try clear hcz11_0
  try clear hcz11_1
  try clear hcz11_2
  try clear hcz9_0
  try clear hcz9_1
  try clear hcz9_2
  try clear hfz11_0
  try clear hfz11_1
  try clear hfz11_2
  try clear hfz9_0
  try clear hfz9_1
  try clear hfz9_2
  obtain ⟨kq, x17_4, rfl, HA, HJ4, BK242, HB⟩ := hcut
  cases kq with
  | zero => exact absurd HA.out (by simp [standstilllaw05_BlockCrosses.j0])
  | succ kj4 =>
   have H := HA.out
   clear HA
   simp only [standstilllaw05_BlockCrosses.j0] at H
   by_cases c13 : x17_4 = true
   ·
    subst c13
    have H1 : ((standstilllaw05_awake.f kj4).bind fun t244 => (some t244)) = some r := by rw [if_pos rfl] at H; exact H
    clear H
    have H := H1
    clear H1
    replace H := Option.bind_eq_some_iff.mp H
    obtain ⟨t244, A140, H⟩ := H
    replace H : (some t244) = some r := H
    have A14 := Aside0.mk A140
    clear A140
    obtain rfl := Option.some.inj H
    go_wp2_with (first | ((with_reducible refine gate_callee (f := 8) rfl ?_); refine goesL_ (some 18) rfl rfl Try.func8 (by kernel_rfl) rfl #[] rfl (zm) ?_; (with_reducible refine (standstilllaw05_awake.calls kj4  t244 _ A14.out).mono ?_); rintro e w15 ⟨rfl, hb⟩; refine ⟨_, rfl, ?_⟩; have n0_ := Aside0.mk (zb BK242 hb); have n1_ := Aside0.mk (below_step (zB HB) hb); clear BK242; clear HB; have BK242 := n0_; have HB := n1_; clear n0_ n1_; (try clear hb); (try clear hb2); (try clear hk); (try clear hi)))
    go_ret
    exact ⟨by first | rfl | (simp [errW_none, errW_some] <;> rfl) | (simp [*, errW_none, errW_some] <;> rfl), zB HB⟩
   ·
    replace c13 := Bool.eq_false_iff.mpr c13
    subst c13
    have H1 : ((block_Cross.f kj4 a0_0 a0_1 l0_2 a1 a2 l3).bind fun bt245 => ((standstillref01_Valid.f kj4 a0_0 a0_1 l0_2).bind fun t254 => (if t254 = true then (if a1 < 0 then (standstilllaw05_BlockCrosses.j1 kj4 a1 a2 l3 bt245.2.2.2.2.2 true a0_0 a0_1 l0_2 bt245.1 bt245.2.1 bt245.2.2.1 bt245.2.2.2.1 bt245.2.2.2.2.1) else (if a1 ≥ a0_0 then (standstilllaw05_BlockCrosses.j1 kj4 a1 a2 l3 bt245.2.2.2.2.2 true a0_0 a0_1 l0_2 bt245.1 bt245.2.1 bt245.2.2.1 bt245.2.2.2.1 bt245.2.2.2.2.1) else ((standstillref05_Word.f kj4 a0_0 a0_1 l0_2 l3).bind fun t255 => (if t255 = true then (if a2 < 0 then (standstilllaw05_BlockCrosses.j1 kj4 a1 a2 l3 bt245.2.2.2.2.2 true a0_0 a0_1 l0_2 bt245.1 bt245.2.1 bt245.2.2.1 bt245.2.2.2.1 bt245.2.2.2.2.1) else (standstilllaw05_BlockCrosses.j1 kj4 a1 a2 l3 bt245.2.2.2.2.2 (decide (a2 ≥ (l3.length : Int))) a0_0 a0_1 l0_2 bt245.1 bt245.2.1 bt245.2.2.1 bt245.2.2.2.1 bt245.2.2.2.2.1)) else (standstilllaw05_BlockCrosses.j1 kj4 a1 a2 l3 bt245.2.2.2.2.2 true a0_0 a0_1 l0_2 bt245.1 bt245.2.1 bt245.2.2.1 bt245.2.2.2.1 bt245.2.2.2.2.1))))) else (if bt245.2.2.2.2.2 = 1 then ((standstillref05_Same.f kj4 bt245.1 bt245.2.1 bt245.2.2.1 bt245.2.2.2.1 bt245.2.2.2.2.1 0 0 0 0 ([] : List Int)).bind fun t267 => (if t267 = true then ((standstilllaw05_awake.f kj4).bind fun t268 => (some t268)) else (some false))) else (some false))))) = some r := by rw [if_neg (show ¬ (false = true) by decide)] at H; exact H
    clear H
    have H := H1
    clear H1
    replace H := Option.bind_eq_some_iff.mp H
    obtain ⟨⟨t245, t246, t247, t248, t249, t252⟩, A160, H⟩ := H
    replace H : ((standstillref01_Valid.f kj4 a0_0 a0_1 l0_2).bind fun t254 => (if t254 = true then (if a1 < 0 then (standstilllaw05_BlockCrosses.j1 kj4 a1 a2 l3 t252 true a0_0 a0_1 l0_2 t245 t246 t247 t248 t249) else (if a1 ≥ a0_0 then (standstilllaw05_BlockCrosses.j1 kj4 a1 a2 l3 t252 true a0_0 a0_1 l0_2 t245 t246 t247 t248 t249) else ((standstillref05_Word.f kj4 a0_0 a0_1 l0_2 l3).bind fun t255 => (if t255 = true then (if a2 < 0 then (standstilllaw05_BlockCrosses.j1 kj4 a1 a2 l3 t252 true a0_0 a0_1 l0_2 t245 t246 t247 t248 t249) else (standstilllaw05_BlockCrosses.j1 kj4 a1 a2 l3 t252 (decide (a2 ≥ (l3.length : Int))) a0_0 a0_1 l0_2 t245 t246 t247 t248 t249)) else (standstilllaw05_BlockCrosses.j1 kj4 a1 a2 l3 t252 true a0_0 a0_1 l0_2 t245 t246 t247 t248 t249))))) else (if t252 = 1 then ((standstillref05_Same.f kj4 t245 t246 t247 t248 t249 0 0 0 0 ([] : List Int)).bind fun t267 => (if t267 = true then ((standstilllaw05_awake.f kj4).bind fun t268 => (some t268)) else (some false))) else (some false)))) = some r := H
    have A16 := Aside0.mk A160
    clear A160
    replace H := Option.bind_eq_some_iff.mp H
    obtain ⟨t254, A170, H⟩ := H
    replace H : (if t254 = true then (if a1 < 0 then (standstilllaw05_BlockCrosses.j1 kj4 a1 a2 l3 t252 true a0_0 a0_1 l0_2 t245 t246 t247 t248 t249) else (if a1 ≥ a0_0 then (standstilllaw05_BlockCrosses.j1 kj4 a1 a2 l3 t252 true a0_0 a0_1 l0_2 t245 t246 t247 t248 t249) else ((standstillref05_Word.f kj4 a0_0 a0_1 l0_2 l3).bind fun t255 => (if t255 = true then (if a2 < 0 then (standstilllaw05_BlockCrosses.j1 kj4 a1 a2 l3 t252 true a0_0 a0_1 l0_2 t245 t246 t247 t248 t249) else (standstilllaw05_BlockCrosses.j1 kj4 a1 a2 l3 t252 (decide (a2 ≥ (l3.length : Int))) a0_0 a0_1 l0_2 t245 t246 t247 t248 t249)) else (standstilllaw05_BlockCrosses.j1 kj4 a1 a2 l3 t252 true a0_0 a0_1 l0_2 t245 t246 t247 t248 t249))))) else (if t252 = 1 then ((standstillref05_Same.f kj4 t245 t246 t247 t248 t249 0 0 0 0 ([] : List Int)).bind fun t267 => (if t267 = true then ((standstilllaw05_awake.f kj4).bind fun t268 => (some t268)) else (some false))) else (some false))) = some r := H
    have A17 := Aside0.mk A170
    clear A170
    have HC18 := Aside0.mk H
    clear H
    have hcz19_0 : wc.cell? ⟨gb242, 0, none⟩ = some (.int .i64 a0_0) := (blk_cell BK242.out 0).trans rfl
    have hcz19_1 : wc.cell? ⟨gb242, 1, none⟩ = some (.int .i64 a0_1) := (blk_cell BK242.out 1).trans rfl
    have hcz19_2 : wc.cell? ⟨gb242, 2, none⟩ = some (.slice A0_2 l0_2.length c0_2) := (blk_cell BK242.out 2).trans rfl
    have hfz19_0 := blk_frozen BK242.out 0
    have hfz19_1 := blk_frozen BK242.out 1
    have hfz19_2 := blk_frozen BK242.out 2
    go_upto_if 27 with (first | ((with_reducible refine gate_callee (f := 9) rfl ?_); refine goesL_ (some 24) rfl rfl Try.func9 (by kernel_rfl) rfl #[.agg #[.int .i64 a0_0, .int .i64 a0_1, .slice A0_2 l0_2.length c0_2], .int .i64 a1, .int .i64 a2, .slice A3 l3.length c3] rfl (zm) ?_; (with_reducible refine (block_Cross.calls kj4 a0_0 a0_1 _ _ l0_2 a1 a2 _ _ l3 t245 t246 t247 t248 t249 t252 _ ?side1 ?side2 ?side3 ?side4 A16.out).mono ?_); (case side1 => exact zC ((Kd.C_below HR0_2.out HB.out))); (case side2 => exact HC0_2.out); (case side3 => exact zC ((Kd.C_below HR3.out HB.out))); (case side4 => exact HC3.out); rintro e w20 ⟨v250, rfl, ho0, hb⟩; refine ⟨_, rfl, ?_⟩; have n0_ := Aside0.mk (Kd.R_lower ho0 (below_size (zB HB))); have n1_ := Aside0.mk (zb BK242 hb); have n2_ := Aside0.mk (below_step (zB HB) hb); clear BK242; clear HB; have HO251 := n0_; have BK242 := n1_; have HB := n2_; clear n0_ n1_ n2_; (try clear hb); (try clear hb2); (try clear hk); (try clear hi); (try clear ho0)) | ((with_reducible refine gate_dst (N := 9) rfl ?_); (try (refine gate_guard (by rfl) ?_; dsimp only)); refine box_event ?hg (N := 9) ?hd (cs := #[.int .i64 0, .int .i64 0, .int .i64 0, .int .i64 0, .slice none 0 0]) (t := 29) ?hr ?_; (case hd => rfl); (case hg => rfl); (case hr => first | (go_simp; done) | (go_simp; rfl)); intro gb253 hg w21 hbox hb; have n0_ := Aside0.mk (zRb HO251 hb); have n1_ := Aside0.mk (zb BK242 hb); have n2_ := Aside0.mk (below_step (zB HB) hb); have n3_ := Aside0.mk (hbox); have n4_ := Aside0.mk ((by rw [hg]; exact (below_size (zB HB)) : w.heap.size ≤ gb253)); have n5_ := Aside0.mk ((by rw [hg]; exact (below_size (zB HB)) : w.heap.size ≤ gb253)); have n6_ := Aside0.mk ((by rw [hg]; exact Nat.ne_of_lt (zL BK242) : gb242 ≠ gb253)); have n7_ := Aside0.mk ((by rw [hg]; exact Nat.ne_of_gt (zL BK242) : gb253 ≠ gb242)); clear HO251; clear BK242; clear HB; have HO251 := n0_; have BK242 := n1_; have HB := n2_; have BK253 := n3_; have GW253 := n4_; have GE253 := n5_; have NB242_253 := n6_; have NB253_242 := n7_; clear n0_ n1_ n2_ n3_ n4_ n5_ n6_ n7_; clear hb hbox hg; have hnb22 := NB253_242.out; have hnc22 := NB242_253.out; have hcz23_0 : w21.cell? ⟨gb253, 0, none⟩ = some (.int .i64 0) := (blk_cell BK253.out 0).trans rfl; have hcz23_1 : w21.cell? ⟨gb253, 1, none⟩ = some (.int .i64 0) := (blk_cell BK253.out 1).trans rfl; have hcz23_2 : w21.cell? ⟨gb253, 2, none⟩ = some (.int .i64 0) := (blk_cell BK253.out 2).trans rfl; have hcz23_3 : w21.cell? ⟨gb253, 3, none⟩ = some (.int .i64 0) := (blk_cell BK253.out 3).trans rfl; have hcz23_4 : w21.cell? ⟨gb253, 4, none⟩ = some (.slice none 0 0) := (blk_cell BK253.out 4).trans rfl; have hfz23_0 := blk_frozen BK253.out 0; have hfz23_1 := blk_frozen BK253.out 1; have hfz23_2 := blk_frozen BK253.out 2; have hfz23_3 := blk_frozen BK253.out 3; have hfz23_4 := blk_frozen BK253.out 4; obtain ⟨Ao24, co24, eo24⟩ := Kd.R_slice HO251.out; subst eo24; have hcz25_0 : w21.cell? ⟨gb242, 0, none⟩ = some (.int .i64 a0_0) := (blk_cell BK242.out 0).trans rfl; have hcz25_1 : w21.cell? ⟨gb242, 1, none⟩ = some (.int .i64 a0_1) := (blk_cell BK242.out 1).trans rfl; have hcz25_2 : w21.cell? ⟨gb242, 2, none⟩ = some (.slice A0_2 l0_2.length c0_2) := (blk_cell BK242.out 2).trans rfl; have hfz25_0 := blk_frozen BK242.out 0; have hfz25_1 := blk_frozen BK242.out 1; have hfz25_2 := blk_frozen BK242.out 2) | ((with_reducible refine gate_callee (f := 10) rfl ?_); refine goesL_ (some 29) rfl rfl Try.func10 (by kernel_rfl) rfl #[.agg #[.int .i64 a0_0, .int .i64 a0_1, .slice A0_2 l0_2.length c0_2]] rfl (zm) ?_; (with_reducible refine (standstillref01_Valid.calls kj4 a0_0 a0_1 _ _ l0_2 t254 _ ?side1 ?side2 A17.out).mono ?_); (case side1 => exact Kd.C_below HR0_2.out (zB HB)); (case side2 => exact HC0_2.out); rintro e w26 ⟨rfl, hb⟩; refine ⟨_, rfl, ?_⟩; have n0_ := Aside0.mk (Kd.R_below (by (with_reducible repeat (first | apply Kd.R_alloc | apply Kd.R_drewN | apply Kd.R_drew)); exact (Kd.R_mono (zRf5 (g := gb253) (Kd.R_types HO251.out BK253.out (by decide))) (fun _ h_ => h_.1))) hb); have n1_ := Aside0.mk (blk_below (g := gb242) (o := .cells #[.int .i64 a0_0, .int .i64 a0_1, .slice A0_2 l0_2.length c0_2] 24 (0, 0)) (zK BK242) hb); have n2_ := Aside0.mk (blk_below (g := gb253) (o := .cells #[.int .i64 t245, .int .i64 t246, .int .i64 t247, .int .i64 t248, .slice Ao24 t249.length co24] 29 (0, 0)) (by (with_reducible repeat (first | refine blk_drewN ?_ _ | refine blk_drew ?_ | refine blk_alloc ?_ _)); refine blk_put (cs := #[.int .i64 t245, .int .i64 t246, .int .i64 t247, .int .i64 t248, .slice none 0 0]) ?_ 4 _ rfl; (with_reducible repeat (first | refine blk_drewN ?_ _ | refine blk_drew ?_ | refine blk_alloc ?_ _)); refine blk_put (cs := #[.int .i64 t245, .int .i64 t246, .int .i64 t247, .int .i64 0, .slice none 0 0]) ?_ 3 _ rfl; (with_reducible repeat (first | refine blk_drewN ?_ _ | refine blk_drew ?_ | refine blk_alloc ?_ _)); refine blk_put (cs := #[.int .i64 t245, .int .i64 t246, .int .i64 0, .int .i64 0, .slice none 0 0]) ?_ 2 _ rfl; (with_reducible repeat (first | refine blk_drewN ?_ _ | refine blk_drew ?_ | refine blk_alloc ?_ _)); refine blk_put (cs := #[.int .i64 t245, .int .i64 0, .int .i64 0, .int .i64 0, .slice none 0 0]) ?_ 1 _ rfl; (with_reducible repeat (first | refine blk_drewN ?_ _ | refine blk_drew ?_ | refine blk_alloc ?_ _)); refine blk_put (cs := #[.int .i64 0, .int .i64 0, .int .i64 0, .int .i64 0, .slice none 0 0]) ?_ 0 _ rfl; (with_reducible repeat (first | refine blk_drewN ?_ _ | refine blk_drew ?_ | refine blk_alloc ?_ _)); exact BK253.out) hb); have n3_ := Aside0.mk (below_step (zB HB) hb); clear HO251; clear BK242; clear BK253; clear HB; have HO251 := n0_; have BK242 := n1_; have BK253 := n2_; have HB := n3_; clear n0_ n1_ n2_ n3_; (try clear hb); (try clear hb2); (try clear hk); (try clear hi)))
    (try simp only [Act.put, zs, zs0, zs1])
    have H := HC18.out
    clear HC18
    by_cases c27 : t254 = true
    ·
     subst c27
     have H1 : (if a1 < 0 then (standstilllaw05_BlockCrosses.j1 kj4 a1 a2 l3 t252 true a0_0 a0_1 l0_2 t245 t246 t247 t248 t249) else (if a1 ≥ a0_0 then (standstilllaw05_BlockCrosses.j1 kj4 a1 a2 l3 t252 true a0_0 a0_1 l0_2 t245 t246 t247 t248 t249) else ((standstillref05_Word.f kj4 a0_0 a0_1 l0_2 l3).bind fun t255 => (if t255 = true then (if a2 < 0 then (standstilllaw05_BlockCrosses.j1 kj4 a1 a2 l3 t252 true a0_0 a0_1 l0_2 t245 t246 t247 t248 t249) else (standstilllaw05_BlockCrosses.j1 kj4 a1 a2 l3 t252 (decide (a2 ≥ (l3.length : Int))) a0_0 a0_1 l0_2 t245 t246 t247 t248 t249)) else (standstilllaw05_BlockCrosses.j1 kj4 a1 a2 l3 t252 true a0_0 a0_1 l0_2 t245 t246 t247 t248 t249))))) = some r := by rw [if_pos rfl] at H; exact H
     clear H
     have H := H1
     clear H1
     have HC28 := Aside0.mk H
     clear H
     go_upto_region 6 with (fail)
     go_cut [41] (fun v41 wc => ∃ (kq : Nat) (x41_27 : Bool), v41 = .bool x41_27 ∧ Aside0 (standstilllaw05_BlockCrosses.j1 kq a1 a2 l3 t252 x41_27 a0_0 a0_1 l0_2 t245 t246 t247 t248 t249 = some r) ∧ Aside0 (kq ≤ kj4) ∧ Aside0 (Kd.R (Kd.int .i64) 3 wc w.heap.size (fun _ => True) (.slice Ao24 t249.length co24) t249) ∧ Aside0 (wc.heap[gb242]? = some (.cells #[.int .i64 a0_0, .int .i64 a0_1, (.slice A0_2 l0_2.length c0_2)] 24 (0, 0))) ∧ Aside0 (wc.heap[gb253]? = some (.cells #[.int .i64 t245, .int .i64 t246, .int .i64 t247, .int .i64 t248, (.slice Ao24 t249.length co24)] 29 (0, 0))) ∧ Aside0 (Below w.heap.size w wc))
     case first =>
      have H := HC28.out
      clear HC28
      by_cases c29 : a1 < 0
      ·
       rw [if_pos c29] at H
       have c29b0 : decide (a1 < 0) = true := decide_eq_true c29
       clear c29
       (first | rw [c29b0] | (simp only [i64_w, i32_w]; rw [c29b0]) | skip)
       (try rw [c29b1])
       have H' := Aside0.mk H
       clear H
       go_wp2
       go_meet
       case rel => exact ⟨_, (true), (by first | rfl | (simp; done) | (simp [*]; done)), H', ⟨by have := HJ4.out; first | omega | exact Nat.le_refl _⟩, ⟨zR HO251⟩, ⟨zk BK242⟩, ⟨zk BK253⟩, ⟨zB HB⟩⟩
      ·
       rw [if_neg c29] at H
       have c29b0 : decide (a1 < 0) = false := decide_eq_false c29
       clear c29
       (first | rw [c29b0] | (simp only [i64_w, i32_w]; rw [c29b0]) | skip)
       (try rw [c29b1])
       by_cases c30 : a1 ≥ a0_0
       ·
        rw [if_pos c30] at H
        have c30b0 : decide (a0_0 ≤ a1) = true := decide_eq_true c30
        clear c30
        have H' := Aside0.mk H
        clear H
        have hnb31 := NB242_253.out
        have hnc31 := NB253_242.out
        have hcz32_0 : w26.cell? ⟨gb242, 0, none⟩ = some (.int .i64 a0_0) := (blk_cell BK242.out 0).trans rfl
        have hcz32_1 : w26.cell? ⟨gb242, 1, none⟩ = some (.int .i64 a0_1) := (blk_cell BK242.out 1).trans rfl
        have hcz32_2 : w26.cell? ⟨gb242, 2, none⟩ = some (.slice A0_2 l0_2.length c0_2) := (blk_cell BK242.out 2).trans rfl
        have hfz32_0 := blk_frozen BK242.out 0
        have hfz32_1 := blk_frozen BK242.out 1
        have hfz32_2 := blk_frozen BK242.out 2
        go_wp2
        go_meet
        case rel => exact ⟨_, (true), (by first | rfl | (simp; done) | (simp [*]; done)), H', ⟨by have := HJ4.out; first | omega | exact Nat.le_refl _⟩, ⟨zR HO251⟩, ⟨zk BK242⟩, ⟨zk BK253⟩, ⟨zB HB⟩⟩
       ·
        rw [if_neg c30] at H
        have c30b0 : decide (a0_0 ≤ a1) = false := decide_eq_false c30
        clear c30
        replace H := Option.bind_eq_some_iff.mp H
        obtain ⟨t255, A330, H⟩ := H
        replace H : (if t255 = true then (if a2 < 0 then (standstilllaw05_BlockCrosses.j1 kj4 a1 a2 l3 t252 true a0_0 a0_1 l0_2 t245 t246 t247 t248 t249) else (standstilllaw05_BlockCrosses.j1 kj4 a1 a2 l3 t252 (decide (a2 ≥ (l3.length : Int))) a0_0 a0_1 l0_2 t245 t246 t247 t248 t249)) else (standstilllaw05_BlockCrosses.j1 kj4 a1 a2 l3 t252 true a0_0 a0_1 l0_2 t245 t246 t247 t248 t249)) = some r := H
        have A33 := Aside0.mk A330
        clear A330
        by_cases c34 : t255 = true
        ·
         subst c34
         have H1 : (if a2 < 0 then (standstilllaw05_BlockCrosses.j1 kj4 a1 a2 l3 t252 true a0_0 a0_1 l0_2 t245 t246 t247 t248 t249) else (standstilllaw05_BlockCrosses.j1 kj4 a1 a2 l3 t252 (decide (a2 ≥ (l3.length : Int))) a0_0 a0_1 l0_2 t245 t246 t247 t248 t249)) = some r := by rw [if_pos rfl] at H; exact H
         clear H
         have H := H1
         clear H1
         by_cases c35 : a2 < 0
         ·
          rw [if_pos c35] at H
          have c35b0 : decide (a2 < 0) = true := decide_eq_true c35
          clear c35
          have H' := Aside0.mk H
          clear H
          have hnb36 := NB242_253.out
          have hnc36 := NB253_242.out
          have hcz37_0 : w26.cell? ⟨gb242, 0, none⟩ = some (.int .i64 a0_0) := (blk_cell BK242.out 0).trans rfl
          have hcz37_1 : w26.cell? ⟨gb242, 1, none⟩ = some (.int .i64 a0_1) := (blk_cell BK242.out 1).trans rfl
          have hcz37_2 : w26.cell? ⟨gb242, 2, none⟩ = some (.slice A0_2 l0_2.length c0_2) := (blk_cell BK242.out 2).trans rfl
          have hfz37_0 := blk_frozen BK242.out 0
          have hfz37_1 := blk_frozen BK242.out 1
          have hfz37_2 := blk_frozen BK242.out 2
          go_wp2_with (first | (go_at_call 12; (with_reducible refine (standstillref05_Word.calls kj4 a0_0 a0_1 _ _ l0_2 _ _ l3 true _ ?side1 ?side2 ?side3 ?side4 A33.out).mono ?_); (case side1 => exact zC ((Kd.C_below HR0_2.out HB.out))); (case side2 => exact HC0_2.out); (case side3 => exact zC ((Kd.C_below HR3.out HB.out))); (case side4 => exact HC3.out); rintro e w38 ⟨rfl, hb⟩; have n0_ := Aside0.mk (zRb HO251 hb); have n1_ := Aside0.mk (zb BK242 hb); have n2_ := Aside0.mk (zb BK253 hb); have n3_ := Aside0.mk (below_step (zB HB) hb); clear HO251; clear BK242; clear BK253; clear HB; have HO251 := n0_; have BK242 := n1_; have BK253 := n2_; have HB := n3_; clear n0_ n1_ n2_ n3_; (try clear hb); (try clear hb2); (try clear hk); (try clear hi)))
          go_meet
          case rel => exact ⟨_, (true), (by first | rfl | (simp; done) | (simp [*]; done)), H', ⟨by have := HJ4.out; first | omega | exact Nat.le_refl _⟩, ⟨zR HO251⟩, ⟨zk BK242⟩, ⟨zk BK253⟩, ⟨zB HB⟩⟩
         ·
          rw [if_neg c35] at H
          have c35b0 : decide (a2 < 0) = false := decide_eq_false c35
          clear c35
          have H' := Aside0.mk H
          clear H
          have hnb39 := NB242_253.out
          have hnc39 := NB253_242.out
          have hcz40_0 : w26.cell? ⟨gb242, 0, none⟩ = some (.int .i64 a0_0) := (blk_cell BK242.out 0).trans rfl
          have hcz40_1 : w26.cell? ⟨gb242, 1, none⟩ = some (.int .i64 a0_1) := (blk_cell BK242.out 1).trans rfl
          have hcz40_2 : w26.cell? ⟨gb242, 2, none⟩ = some (.slice A0_2 l0_2.length c0_2) := (blk_cell BK242.out 2).trans rfl
          have hfz40_0 := blk_frozen BK242.out 0
          have hfz40_1 := blk_frozen BK242.out 1
          have hfz40_2 := blk_frozen BK242.out 2
          go_wp2_with (first | (go_at_call 12; (with_reducible refine (standstillref05_Word.calls kj4 a0_0 a0_1 _ _ l0_2 _ _ l3 true _ ?side1 ?side2 ?side3 ?side4 A33.out).mono ?_); (case side1 => exact zC ((Kd.C_below HR0_2.out HB.out))); (case side2 => exact HC0_2.out); (case side3 => exact zC ((Kd.C_below HR3.out HB.out))); (case side4 => exact HC3.out); rintro e w41 ⟨rfl, hb⟩; have n0_ := Aside0.mk (zRb HO251 hb); have n1_ := Aside0.mk (zb BK242 hb); have n2_ := Aside0.mk (zb BK253 hb); have n3_ := Aside0.mk (below_step (zB HB) hb); clear HO251; clear BK242; clear BK253; clear HB; have HO251 := n0_; have BK242 := n1_; have BK253 := n2_; have HB := n3_; clear n0_ n1_ n2_ n3_; (try clear hb); (try clear hb2); (try clear hk); (try clear hi)))
          go_meet
          case rel => exact ⟨_, (decide (a2 ≥ (l3.length : Int))), (by first | rfl | (simp; done) | (simp [*]; done)), H', ⟨by have := HJ4.out; first | omega | exact Nat.le_refl _⟩, ⟨zR HO251⟩, ⟨zk BK242⟩, ⟨zk BK253⟩, ⟨zB HB⟩⟩
        ·
         replace c34 := Bool.eq_false_iff.mpr c34
         subst c34
         have H1 : (standstilllaw05_BlockCrosses.j1 kj4 a1 a2 l3 t252 true a0_0 a0_1 l0_2 t245 t246 t247 t248 t249) = some r := by rw [if_neg (show ¬ (false = true) by decide)] at H; exact H
         clear H
         have H := H1
         clear H1
         have H' := Aside0.mk H
         clear H
         have hnb42 := NB242_253.out
         have hnc42 := NB253_242.out
         have hcz43_0 : w26.cell? ⟨gb242, 0, none⟩ = some (.int .i64 a0_0) := (blk_cell BK242.out 0).trans rfl
         have hcz43_1 : w26.cell? ⟨gb242, 1, none⟩ = some (.int .i64 a0_1) := (blk_cell BK242.out 1).trans rfl
         have hcz43_2 : w26.cell? ⟨gb242, 2, none⟩ = some (.slice A0_2 l0_2.length c0_2) := (blk_cell BK242.out 2).trans rfl
         have hfz43_0 := blk_frozen BK242.out 0
         have hfz43_1 := blk_frozen BK242.out 1
         have hfz43_2 := blk_frozen BK242.out 2
         go_wp2_with (first | (go_at_call 12; (with_reducible refine (standstillref05_Word.calls kj4 a0_0 a0_1 _ _ l0_2 _ _ l3 false _ ?side1 ?side2 ?side3 ?side4 A33.out).mono ?_); (case side1 => exact zC ((Kd.C_below HR0_2.out HB.out))); (case side2 => exact HC0_2.out); (case side3 => exact zC ((Kd.C_below HR3.out HB.out))); (case side4 => exact HC3.out); rintro e w44 ⟨rfl, hb⟩; have n0_ := Aside0.mk (zRb HO251 hb); have n1_ := Aside0.mk (zb BK242 hb); have n2_ := Aside0.mk (zb BK253 hb); have n3_ := Aside0.mk (below_step (zB HB) hb); clear HO251; clear BK242; clear BK253; clear HB; have HO251 := n0_; have BK242 := n1_; have BK253 := n2_; have HB := n3_; clear n0_ n1_ n2_ n3_; (try clear hb); (try clear hb2); (try clear hk); (try clear hi)))
         go_meet
         case rel => exact ⟨_, (true), (by first | rfl | (simp; done) | (simp [*]; done)), H', ⟨by have := HJ4.out; first | omega | exact Nat.le_refl _⟩, ⟨zR HO251⟩, ⟨zk BK242⟩, ⟨zk BK253⟩, ⟨zB HB⟩⟩
     case rest =>
      clear HC28
      try clear c1
      try clear c2
      try clear p2
      try clear c3
      try clear c4
      try clear c7
      try clear c8
      try clear c9
      try clear c10
      try clear c13
      try clear c22
      try clear c27
      try clear c29
      try clear c29b0
      try clear c29b1
      try clear c30
      try clear c30b0
      try clear c31
      try clear c34
      try clear c35
      try clear c35b0
      try clear c36
      try clear c39
      try clear c42
      try clear hcz11_0
      try clear hcz11_1
      try clear hcz11_2
      try clear hcz19_0
      try clear hcz19_1
      try clear hcz19_2
      try clear hcz23_0
      try clear hcz23_1
      try clear hcz23_2
      try clear hcz23_3
      try clear hcz23_4
      try clear hcz25_0
      try clear hcz25_1
      try clear hcz25_2
      try clear hcz32_0
      try clear hcz32_1
      try clear hcz32_2
      try clear hcz37_0
      try clear hcz37_1
      try clear hcz37_2
      try clear hcz40_0
      try clear hcz40_1
      try clear hcz40_2
      try clear hcz43_0
      try clear hcz43_1
      try clear hcz43_2
      try clear hcz9_0
      try clear hcz9_1
      try clear hcz9_2
      try clear hfz11_0
      try clear hfz11_1
      try clear hfz11_2
      try clear hfz19_0
      try clear hfz19_1
      try clear hfz19_2
      try clear hfz23_0
      try clear hfz23_1
      try clear hfz23_2
      try clear hfz23_3
      try clear hfz23_4
      try clear hfz25_0
      try clear hfz25_1
      try clear hfz25_2
      try clear hfz32_0
      try clear hfz32_1
      try clear hfz32_2
      try clear hfz37_0
      try clear hfz37_1
      try clear hfz37_2
      try clear hfz40_0
      try clear hfz40_1
      try clear hfz40_2
      try clear hfz43_0
      try clear hfz43_1
      try clear hfz43_2
      try clear hfz9_0
      try clear hfz9_1
      try clear hfz9_2
      try clear p2
      obtain ⟨kq, x41_27, rfl, HA, HJ27, HO_254004, BK242, BK253, HB⟩ := hcut
      cases kq with
      | zero => exact absurd HA.out (by simp [standstilllaw05_BlockCrosses.j1])
      | succ kj27 =>
       have H := HA.out
       clear HA
       simp only [standstilllaw05_BlockCrosses.j1] at H
       by_cases c45 : x41_27 = true
       ·
        subst c45
        have H1 : (if t252 = 2 then ((standstillref05_Same.f kj27 t245 t246 t247 t248 t249 0 0 0 0 ([] : List Int)).bind fun t256 => (if t256 = true then ((standstilllaw05_awake.f kj27).bind fun t257 => (some t257)) else (some false))) else (some false)) = some r := by rw [if_pos rfl] at H; exact H
        clear H
        have H := H1
        clear H1
        by_cases c46 : t252 = 2
        ·
         rw [if_pos c46] at H
         have c46b0 : (t252 == 2) = true := beq_iff_eq.mpr c46
         have c46b1 : (t252 != 2) = false := bne_eq_false_iff_eq.mpr c46
         clear c46
         replace H := Option.bind_eq_some_iff.mp H
         obtain ⟨t256, A470, H⟩ := H
         replace H : (if t256 = true then ((standstilllaw05_awake.f kj27).bind fun t257 => (some t257)) else (some false)) = some r := H
         have A47 := Aside0.mk A470
         clear A470
         by_cases c48 : t256 = true
         ·
          subst c48
          have H1 : ((standstilllaw05_awake.f kj27).bind fun t257 => (some t257)) = some r := by rw [if_pos rfl] at H; exact H
          clear H
          have H := H1
          clear H1
          replace H := Option.bind_eq_some_iff.mp H
          obtain ⟨t257, A490, H⟩ := H
          replace H : (some t257) = some r := H
          have A49 := Aside0.mk A490
          clear A490
          obtain rfl := Option.some.inj H
          have hnb50 := NB253_242.out
          have hnc50 := NB242_253.out
          have hcz51_0 : wc.cell? ⟨gb253, 0, none⟩ = some (.int .i64 t245) := (blk_cell BK253.out 0).trans rfl
          have hcz51_1 : wc.cell? ⟨gb253, 1, none⟩ = some (.int .i64 t246) := (blk_cell BK253.out 1).trans rfl
          have hcz51_2 : wc.cell? ⟨gb253, 2, none⟩ = some (.int .i64 t247) := (blk_cell BK253.out 2).trans rfl
          have hcz51_3 : wc.cell? ⟨gb253, 3, none⟩ = some (.int .i64 t248) := (blk_cell BK253.out 3).trans rfl
          have hcz51_4 : wc.cell? ⟨gb253, 4, none⟩ = some (.slice Ao24 t249.length co24) := (blk_cell BK253.out 4).trans rfl
          have hfz51_0 := blk_frozen BK253.out 0
          have hfz51_1 := blk_frozen BK253.out 1
          have hfz51_2 := blk_frozen BK253.out 2
          have hfz51_3 := blk_frozen BK253.out 3
          have hfz51_4 := blk_frozen BK253.out 4
          go_wp2_with (first | (go_at_call 11; (refine (standstillref05_Same.calls kj27 t245 t246 t247 t248 _ _ t249 0 0 0 0 _ _ ([] : List Int) true _ ?side1 ?side2 ?side3 ?side4 A47.out).mono ?_); (case side1 => exact zC ((Kd.R_reads' HO_254004.out).2.2)); (case side2 => exact (Kd.R_reads' HO_254004.out).2.1); (case side3 => exact Kd.C_nil _ _); (case side4 => exact Nat.le_refl _); rintro e w52 ⟨rfl, hb⟩; have n0_ := Aside0.mk (zRb HO_254004 hb); have n1_ := Aside0.mk (zb BK242 hb); have n2_ := Aside0.mk (zb BK253 hb); have n3_ := Aside0.mk (below_step (zB HB) hb); clear HO_254004; clear BK242; clear BK253; clear HB; have HO_254004 := n0_; have BK242 := n1_; have BK253 := n2_; have HB := n3_; clear n0_ n1_ n2_ n3_; (try clear hb); (try clear hb2); (try clear hk); (try clear hi)) | (go_at_call 8; (with_reducible refine (standstilllaw05_awake.calls kj27  t257 _ A49.out).mono ?_); rintro e w53 ⟨rfl, hb⟩; have n0_ := Aside0.mk (zRb HO_254004 hb); have n1_ := Aside0.mk (zb BK242 hb); have n2_ := Aside0.mk (zb BK253 hb); have n3_ := Aside0.mk (below_step (zB HB) hb); clear HO_254004; clear BK242; clear BK253; clear HB; have HO_254004 := n0_; have BK242 := n1_; have BK253 := n2_; have HB := n3_; clear n0_ n1_ n2_ n3_; (try clear hb); (try clear hb2); (try clear hk); (try clear hi)))
          go_ret
          exact ⟨by first | rfl | (simp [errW_none, errW_some] <;> rfl) | (simp [*, errW_none, errW_some] <;> rfl), zB HB⟩
         ·
          replace c48 := Bool.eq_false_iff.mpr c48
          subst c48
          have H1 : (some false) = some r := by rw [if_neg (show ¬ (false = true) by decide)] at H; exact H
          clear H
          have H := H1
          clear H1
          obtain rfl := Option.some.inj H
          have hnb54 := NB253_242.out
          have hnc54 := NB242_253.out
          have hcz55_0 : wc.cell? ⟨gb253, 0, none⟩ = some (.int .i64 t245) := (blk_cell BK253.out 0).trans rfl
          have hcz55_1 : wc.cell? ⟨gb253, 1, none⟩ = some (.int .i64 t246) := (blk_cell BK253.out 1).trans rfl
          have hcz55_2 : wc.cell? ⟨gb253, 2, none⟩ = some (.int .i64 t247) := (blk_cell BK253.out 2).trans rfl
          have hcz55_3 : wc.cell? ⟨gb253, 3, none⟩ = some (.int .i64 t248) := (blk_cell BK253.out 3).trans rfl
          have hcz55_4 : wc.cell? ⟨gb253, 4, none⟩ = some (.slice Ao24 t249.length co24) := (blk_cell BK253.out 4).trans rfl
          have hfz55_0 := blk_frozen BK253.out 0
          have hfz55_1 := blk_frozen BK253.out 1
          have hfz55_2 := blk_frozen BK253.out 2
          have hfz55_3 := blk_frozen BK253.out 3
          have hfz55_4 := blk_frozen BK253.out 4
          go_wp2_with (first | (go_at_call 11; (refine (standstillref05_Same.calls kj27 t245 t246 t247 t248 _ _ t249 0 0 0 0 _ _ ([] : List Int) false _ ?side1 ?side2 ?side3 ?side4 A47.out).mono ?_); (case side1 => exact zC ((Kd.R_reads' HO_254004.out).2.2)); (case side2 => exact (Kd.R_reads' HO_254004.out).2.1); (case side3 => exact Kd.C_nil _ _); (case side4 => exact Nat.le_refl _); rintro e w56 ⟨rfl, hb⟩; have n0_ := Aside0.mk (zRb HO_254004 hb); have n1_ := Aside0.mk (zb BK242 hb); have n2_ := Aside0.mk (zb BK253 hb); have n3_ := Aside0.mk (below_step (zB HB) hb); clear HO_254004; clear BK242; clear BK253; clear HB; have HO_254004 := n0_; have BK242 := n1_; have BK253 := n2_; have HB := n3_; clear n0_ n1_ n2_ n3_; (try clear hb); (try clear hb2); (try clear hk); (try clear hi)))
          go_ret
          exact ⟨by first | rfl | (simp [errW_none, errW_some] <;> rfl) | (simp [*, errW_none, errW_some] <;> rfl), zB HB⟩
        ·
         rw [if_neg c46] at H
         have c46b0 : (t252 == 2) = false := beq_eq_false_iff_ne.mpr c46
         have c46b1 : (t252 != 2) = true := bne_iff_ne.mpr c46
         obtain rfl := Option.some.inj H
         go_wp2
         go_ret
         exact ⟨by first | rfl | (simp [errW_none, errW_some] <;> rfl) | (simp [*, errW_none, errW_some] <;> rfl), zB HB⟩
       ·
        replace c45 := Bool.eq_false_iff.mpr c45
        subst c45
        have H1 : (if t252 = 0 then ((standstillref05_Cross.f kj27 a0_0 a0_1 l0_2 a1 a2 l3).bind fun bt258 => ((standstillref05_Same.f kj27 t245 t246 t247 t248 t249 bt258.1 bt258.2.1 bt258.2.2.1 bt258.2.2.2.1 bt258.2.2.2.2).bind fun t265 => (if t265 = true then ((standstilllaw05_awake.f kj27).bind fun t266 => (some t266)) else (some false)))) else (some false)) = some r := by rw [if_neg (show ¬ (false = true) by decide)] at H; exact H
        clear H
        have H := H1
        clear H1
        by_cases c57 : t252 = 0
        ·
         rw [if_pos c57] at H
         have c57b0 : (t252 == 0) = true := beq_iff_eq.mpr c57
         have c57b1 : (t252 != 0) = false := bne_eq_false_iff_eq.mpr c57
         clear c57
         replace H := Option.bind_eq_some_iff.mp H
         obtain ⟨⟨t258, t259, t260, t261, t262⟩, A580, H⟩ := H
         replace H : ((standstillref05_Same.f kj27 t245 t246 t247 t248 t249 t258 t259 t260 t261 t262).bind fun t265 => (if t265 = true then ((standstilllaw05_awake.f kj27).bind fun t266 => (some t266)) else (some false))) = some r := H
         have A58 := Aside0.mk A580
         clear A580
         replace H := Option.bind_eq_some_iff.mp H
         obtain ⟨t265, A590, H⟩ := H
         replace H : (if t265 = true then ((standstilllaw05_awake.f kj27).bind fun t266 => (some t266)) else (some false)) = some r := H
         have A59 := Aside0.mk A590
         clear A590
         by_cases c60 : t265 = true
         ·
          subst c60
          have H1 : ((standstilllaw05_awake.f kj27).bind fun t266 => (some t266)) = some r := by rw [if_pos rfl] at H; exact H
          clear H
          have H := H1
          clear H1
          replace H := Option.bind_eq_some_iff.mp H
          obtain ⟨t266, A610, H⟩ := H
          replace H : (some t266) = some r := H
          have A61 := Aside0.mk A610
          clear A610
          obtain rfl := Option.some.inj H
          try go_wp2
          have n0_ := Aside0.mk (Kd.R_drew HO_254004.out)
          have n1_ := Aside0.mk (blk_drew BK242.out)
          have n2_ := Aside0.mk (blk_drew BK253.out)
          have n3_ := Aside0.mk (below_drew1 HB.out)
          clear HO_254004
          clear BK242
          clear BK253
          clear HB
          have HO_254004 := n0_
          have BK242 := n1_
          have BK253 := n2_
          have HB := n3_
          clear n0_ n1_ n2_ n3_
          refine start_ (n := 15) (S := fun w' => w'.cell? ⟨gb253, 0, none⟩ = some (.int .i64 t245) ∧ w'.cell? ⟨gb253, 1, none⟩ = some (.int .i64 t246) ∧ w'.cell? ⟨gb253, 2, none⟩ = some (.int .i64 t247) ∧ w'.cell? ⟨gb253, 3, none⟩ = some (.int .i64 t248) ∧ w'.cell? ⟨gb253, 4, none⟩ = some (.slice Ao24 t249.length co24) ∧ w'.cell? ⟨gb242, 0, none⟩ = some (.int .i64 a0_0) ∧ w'.cell? ⟨gb242, 1, none⟩ = some (.int .i64 a0_1) ∧ w'.cell? ⟨gb242, 2, none⟩ = some (.slice A0_2 l0_2.length c0_2)) (ds := []) (zl 15 0) (by kernel_rfl) rfl rfl ⟨(blk_cell BK253.out 0).trans rfl, (blk_cell BK253.out 1).trans rfl, (blk_cell BK253.out 2).trans rfl, (blk_cell BK253.out 3).trans rfl, (blk_cell BK253.out 4).trans rfl, (blk_cell BK242.out 0).trans rfl, (blk_cell BK242.out 1).trans rfl, (blk_cell BK242.out 2).trans rfl⟩ (fun hHeld => ?_); refine with_tabW standstilllaw05_BlockCrosses.tab8 standstilllaw05_BlockCrosses.bits8 (fun HT_ HW_ => ?_)
          generalize wc.drew = w62 at HO_254004 BK242 BK253 HB hHeld ⊢
          refine pure_ (i := 0) (N := some 76) (v := ?_) (a' := ?_) (zl 15 1) rfl rfl (any_of HT_.out (by kernel_rfl)) (fun _ _ _ h => h) (Or.inl ⟨by rfl, ?_⟩) ?_ ?_
          rotate_left
          ·
           intro w'
           go_simp
           with_reducible rfl
          rotate_left
          ·
           simp only [Act.put, zs, zs0, zs1, i64_w, i32_w]
           rfl
          refine pure_ (i := 1) (N := some 77) (v := ?_) (a' := ?_) (zl 15 3) rfl rfl (any_of HT_.out (by kernel_rfl)) (fun _ _ _ h => h) (Or.inl ⟨by rfl, ?_⟩) ?_ ?_
          rotate_left
          ·
           intro w'
           go_simp
           with_reducible rfl
          rotate_left
          ·
           simp only [Act.put, zs, zs0, zs1, i64_w, i32_w]
           rfl
          refine pure_ (i := 2) (N := some 78) (v := ?_) (a' := ?_) (zl 15 7) rfl rfl (any_of HT_.out (by kernel_rfl)) (fun _ _ _ h => h) (Or.inl ⟨by rfl, ?_⟩) ?_ ?_
          rotate_left
          ·
           intro w'
           go_simp
           with_reducible rfl
          rotate_left
          ·
           simp only [Act.put, zs, zs0, zs1, i64_w, i32_w]
           rfl
          refine pure_ (i := 5) (N := some 81) (v := ?_) (a' := ?_) (zl 15 39) rfl rfl (any_of HT_.out (by kernel_rfl)) (fun _ _ _ h => h) (Or.inl ⟨by rfl, ?_⟩) ?_ ?_
          rotate_left
          ·
           intro w'
           go_simp
           with_reducible rfl
          rotate_left
          ·
           simp only [Act.put, zs, zs0, zs1, i64_w, i32_w]
           rfl
          refine pure_ (i := 6) (N := some 82) (v := ?_) (a' := ?_) (zl 15 103) rfl rfl (any_of HT_.out (by kernel_rfl)) (fun _ _ _ h => h) (Or.inl ⟨by rfl, ?_⟩) ?_ ?_
          rotate_left
          ·
           intro w'
           go_simp
           with_reducible rfl
          rotate_left
          ·
           simp only [Act.put, zs, zs0, zs1, i64_w, i32_w]
           rfl
          refine pure_ (i := 7) (N := some 83) (v := ?_) (a' := ?_) (zl 15 231) rfl rfl (any_of HT_.out (by kernel_rfl)) (fun _ _ _ h => h) (Or.inl ⟨by rfl, ?_⟩) ?_ ?_
          rotate_left
          ·
           intro w'
           go_simp
           with_reducible rfl
          rotate_left
          ·
           simp only [Act.put, zs, zs0, zs1, i64_w, i32_w]
           rfl
          refine take_ (i := 3) (N := some 79) (v := ?_) (a' := ?_) (zl 15 239) rfl rfl (take_ofW HT_.out HW_.out (by kernel_rfl)) (fun _ _ _ h => h) (Or.inl ⟨by rfl, ?_⟩) hHeld ?_ ?_
          rotate_left
          ·
           rintro w' ⟨s0, s1, s2, s3, s4, s5, s6, s7⟩
           go_simp
           with_reducible rfl
          rotate_left
          ·
           simp only [Act.put, zs, zs0, zs1, i64_w, i32_w]
           rfl
          refine take_ (i := 4) (N := some 80) (v := ?_) (a' := ?_) (zl 15 255) rfl rfl (take_ofW HT_.out HW_.out (by kernel_rfl)) (fun _ _ _ h => h) (Or.inl ⟨by rfl, ?_⟩) hHeld ?_ ?_
          rotate_left
          ·
           rintro w' ⟨s0, s1, s2, s3, s4, s5, s6, s7⟩
           go_simp
           with_reducible rfl
          rotate_left
          ·
           simp only [Act.put, zs, zs0, zs1, i64_w, i32_w]
           rfl
          refine one_ (i := 8) (N := some 84) (zl 15 511) rfl rfl (one_of HT_.out (by kernel_rfl)) (by decide) (fun K hK => ?_)
          refine goes_ Try.func13 (by kernel_rfl) rfl #[.agg #[.int .i64 a0_0, .int .i64 a0_1, .slice A0_2 l0_2.length c0_2], .int .i64 a1, .int .i64 a2, .slice A3 l3.length c3] (by rfl) rfl rfl (zm) ?_
          with_reducible refine (standstillref05_Cross.calls kj27 a0_0 a0_1 _ _ l0_2 a1 a2 _ _ l3 t258 t259 t260 t261 t262 _ ?side1 ?side2 ?side3 ?side4 A58.out).mono ?_
          (case side1 => exact zC ((Kd.C_below HR0_2.out HB.out)))
          (case side2 => exact HC0_2.out)
          (case side3 => exact zC ((Kd.C_below HR3.out HB.out)))
          (case side4 => exact HC3.out)
          rintro e w63 ⟨v263, rfl, ho0, hb⟩
          refine ⟨_, rfl, ?_⟩
          have n0_ := Aside0.mk (Kd.R_elder' (zR HO_254004) (Kd.R_base ho0) hb)
          have n1_ := Aside0.mk (Kd.R_lower (Kd.R_new' ho0 (Kd.R_lt (zR HO_254004))) (below_size (zB HB)))
          have n2_ := Aside0.mk (zb BK242 hb)
          have n3_ := Aside0.mk (zb BK253 hb)
          have n4_ := Aside0.mk (below_step (zB HB) hb)
          clear HO_254004
          clear BK242
          clear BK253
          clear HB
          have HO_254004 := n0_
          have HO264 := n1_
          have BK242 := n2_
          have BK253 := n3_
          have HB := n4_
          clear n0_ n1_ n2_ n3_ n4_
          (try clear hb)
          (try clear hb2)
          (try clear hk)
          (try clear hi)
          (try clear ho0)
          obtain ⟨Ao64, co64, eo64⟩ := Kd.R_slice HO264.out
          (first | subst eo64 | (injection eo64 with f1_ f2_ f3_; have f4_ := f1_.symm; have f5_ := f3_.symm; clear f1_ f2_ f3_; subst f4_; subst f5_))
          refine hK.out _ _ ⟨(blk_cell BK253.out 0).trans rfl, (blk_cell BK253.out 1).trans rfl, (blk_cell BK253.out 2).trans rfl, (blk_cell BK253.out 3).trans rfl, (blk_cell BK253.out 4).trans rfl, (blk_cell BK242.out 0).trans rfl, (blk_cell BK242.out 1).trans rfl, (blk_cell BK242.out 2).trans rfl⟩ (fun hHeld => ?_)
          clear hK K
          refine norm_ (a' := ?_) ?_ ?_
          rotate_left
          ·
           show Act.put _ (some 84) _ = _
           simp only [Act.put, zs, zs0, zs1, i64_w, i32_w]
           rfl
          refine one_ (i := 9) (N := some 85) (zl 15 1023) rfl rfl (one_of HT_.out (by kernel_rfl)) (by decide) (fun K hK => ?_)
          refine goes_ Try.func11 (by kernel_rfl) rfl #[.agg #[.int .i64 t245, .int .i64 t246, .int .i64 t247, .int .i64 t248, .slice Ao24 t249.length co24], .agg #[.int .i64 t258, .int .i64 t259, .int .i64 t260, .int .i64 t261, .slice Ao64 t262.length co64]] (by rfl) rfl rfl (zm) ?_
          with_reducible refine (standstillref05_Same.calls kj27 t245 t246 t247 t248 _ _ t249 t258 t259 t260 t261 _ _ t262 true _ ?side1 ?side2 ?side3 ?side4 A59.out).mono ?_
          (case side1 => exact zC ((Kd.R_reads' HO_254004.out).2.2))
          (case side2 => exact (Kd.R_reads' HO_254004.out).2.1)
          (case side3 => exact zC ((Kd.R_reads' HO264.out).2.2))
          (case side4 => exact (Kd.R_reads' HO264.out).2.1)
          rintro e w65 ⟨rfl, hb⟩
          refine ⟨_, rfl, ?_⟩
          have n0_ := Aside0.mk (zRb HO_254004 hb)
          have n1_ := Aside0.mk (zRb HO264 hb)
          have n2_ := Aside0.mk (zb BK242 hb)
          have n3_ := Aside0.mk (zb BK253 hb)
          have n4_ := Aside0.mk (below_step (zB HB) hb)
          clear HO_254004
          clear HO264
          clear BK242
          clear BK253
          clear HB
          have HO_254004 := n0_
          have HO264 := n1_
          have BK242 := n2_
          have BK253 := n3_
          have HB := n4_
          clear n0_ n1_ n2_ n3_ n4_
          (try clear hb)
          (try clear hb2)
          (try clear hk)
          (try clear hi)
          refine hK.out _ _ ⟨(blk_cell BK253.out 0).trans rfl, (blk_cell BK253.out 1).trans rfl, (blk_cell BK253.out 2).trans rfl, (blk_cell BK253.out 3).trans rfl, (blk_cell BK253.out 4).trans rfl, (blk_cell BK242.out 0).trans rfl, (blk_cell BK242.out 1).trans rfl, (blk_cell BK242.out 2).trans rfl⟩ (fun hHeld => ?_)
          clear hK K
          refine norm_ (a' := ?_) ?_ ?_
          rotate_left
          ·
           show Act.put _ (some 85) _ = _
           simp only [Act.put, zs, zs0, zs1, i64_w, i32_w]
           rfl
          refine pure_ (i := 10) (N := some 86) (v := ?_) (a' := ?_) (zl 15 2047) rfl rfl (any_of HT_.out (by kernel_rfl)) (fun _ _ _ h => h) (Or.inl ⟨by rfl, ?_⟩) ?_ ?_
          rotate_left
          ·
           intro w'
           go_simp
           with_reducible rfl
          rotate_left
          ·
           simp only [Act.put, zs, zs0, zs1, i64_w, i32_w]
           rfl
          refine pure_ (i := 11) (N := some 87) (v := ?_) (a' := ?_) (zl 15 4095) rfl rfl (any_of HT_.out (by kernel_rfl)) (fun _ _ _ h => h) (Or.inl ⟨by rfl, ?_⟩) ?_ ?_
          rotate_left
          ·
           intro w'
           go_simp
           with_reducible rfl
          rotate_left
          ·
           simp only [Act.put, zs, zs0, zs1, i64_w, i32_w]
           rfl
          refine one_ (i := 12) (N := some 88) (zl 15 8191) rfl rfl (one_of HT_.out (by kernel_rfl)) (by decide) (fun K hK => ?_)
          refine goes_ Try.func8 (by kernel_rfl) rfl #[] (by rfl) rfl rfl (zm) ?_
          with_reducible refine (standstilllaw05_awake.calls kj27  t266 _ A61.out).mono ?_
          rintro e w66 ⟨rfl, hb⟩
          refine ⟨_, rfl, ?_⟩
          have n0_ := Aside0.mk (zRb HO_254004 hb)
          have n1_ := Aside0.mk (zRb HO264 hb)
          have n2_ := Aside0.mk (zb BK242 hb)
          have n3_ := Aside0.mk (zb BK253 hb)
          have n4_ := Aside0.mk (below_step (zB HB) hb)
          clear HO_254004
          clear HO264
          clear BK242
          clear BK253
          clear HB
          have HO_254004 := n0_
          have HO264 := n1_
          have BK242 := n2_
          have BK253 := n3_
          have HB := n4_
          clear n0_ n1_ n2_ n3_ n4_
          (try clear hb)
          (try clear hb2)
          (try clear hk)
          (try clear hi)
          refine hK.out _ _ ⟨(blk_cell BK253.out 0).trans rfl, (blk_cell BK253.out 1).trans rfl, (blk_cell BK253.out 2).trans rfl, (blk_cell BK253.out 3).trans rfl, (blk_cell BK253.out 4).trans rfl, (blk_cell BK242.out 0).trans rfl, (blk_cell BK242.out 1).trans rfl, (blk_cell BK242.out 2).trans rfl⟩ (fun hHeld => ?_)
          clear hK K
          refine norm_ (a' := ?_) ?_ ?_
          rotate_left
          ·
           show Act.put _ (some 88) _ = _
           simp only [Act.put, zs, zs0, zs1, i64_w, i32_w]
           rfl
          refine pure_ (i := 13) (N := some 89) (v := ?_) (a' := ?_) (zl 15 16383) rfl rfl (any_of HT_.out (by kernel_rfl)) (fun _ _ _ h => h) (Or.inl ⟨by rfl, ?_⟩) ?_ ?_
          rotate_left
          ·
           intro w'
           go_simp
           with_reducible rfl
          rotate_left
          ·
           simp only [Act.put, zs, zs0, zs1, i64_w, i32_w]
           rfl
          refine pure_ (i := 14) (N := some 8) (v := ?_) (a' := ?_) (zl 15 32767) rfl rfl (any_of HT_.out (by kernel_rfl)) (fun _ _ _ h => h) (Or.inl ⟨by rfl, ?_⟩) ?_ ?_
          rotate_left
          ·
           intro w'
           go_simp
           with_reducible rfl
          rotate_left
          ·
           simp only [Act.put, zs, zs0, zs1, i64_w, i32_w]
           rfl
          refine done_ (done_of HT_.out (by kernel_rfl)) ?_
          try go_wp2
          go_ret
          exact ⟨by first | rfl | (simp [errW_none, errW_some] <;> rfl) | (simp [*, errW_none, errW_some] <;> rfl), zB HB⟩
         ·
          replace c60 := Bool.eq_false_iff.mpr c60
          subst c60
          have H1 : (some false) = some r := by rw [if_neg (show ¬ (false = true) by decide)] at H; exact H
          clear H
          have H := H1
          clear H1
          obtain rfl := Option.some.inj H
          try go_wp2
          have n0_ := Aside0.mk (Kd.R_drew HO_254004.out)
          have n1_ := Aside0.mk (blk_drew BK242.out)
          have n2_ := Aside0.mk (blk_drew BK253.out)
          have n3_ := Aside0.mk (below_drew1 HB.out)
          clear HO_254004
          clear BK242
          clear BK253
          clear HB
          have HO_254004 := n0_
          have BK242 := n1_
          have BK253 := n2_
          have HB := n3_
          clear n0_ n1_ n2_ n3_
          refine start_ (n := 15) (S := fun w' => w'.cell? ⟨gb253, 0, none⟩ = some (.int .i64 t245) ∧ w'.cell? ⟨gb253, 1, none⟩ = some (.int .i64 t246) ∧ w'.cell? ⟨gb253, 2, none⟩ = some (.int .i64 t247) ∧ w'.cell? ⟨gb253, 3, none⟩ = some (.int .i64 t248) ∧ w'.cell? ⟨gb253, 4, none⟩ = some (.slice Ao24 t249.length co24) ∧ w'.cell? ⟨gb242, 0, none⟩ = some (.int .i64 a0_0) ∧ w'.cell? ⟨gb242, 1, none⟩ = some (.int .i64 a0_1) ∧ w'.cell? ⟨gb242, 2, none⟩ = some (.slice A0_2 l0_2.length c0_2)) (ds := []) (zl 15 0) (by kernel_rfl) rfl rfl ⟨(blk_cell BK253.out 0).trans rfl, (blk_cell BK253.out 1).trans rfl, (blk_cell BK253.out 2).trans rfl, (blk_cell BK253.out 3).trans rfl, (blk_cell BK253.out 4).trans rfl, (blk_cell BK242.out 0).trans rfl, (blk_cell BK242.out 1).trans rfl, (blk_cell BK242.out 2).trans rfl⟩ (fun hHeld => ?_); refine with_tabW standstilllaw05_BlockCrosses.tab8 standstilllaw05_BlockCrosses.bits8 (fun HT_ HW_ => ?_)
          generalize wc.drew = w67 at HO_254004 BK242 BK253 HB hHeld ⊢
          refine pure_ (i := 0) (N := some 76) (v := ?_) (a' := ?_) (zl 15 1) rfl rfl (any_of HT_.out (by kernel_rfl)) (fun _ _ _ h => h) (Or.inl ⟨by rfl, ?_⟩) ?_ ?_
          rotate_left
          ·
           intro w'
           go_simp
           with_reducible rfl
          rotate_left
          ·
           simp only [Act.put, zs, zs0, zs1, i64_w, i32_w]
           rfl
          refine pure_ (i := 1) (N := some 77) (v := ?_) (a' := ?_) (zl 15 3) rfl rfl (any_of HT_.out (by kernel_rfl)) (fun _ _ _ h => h) (Or.inl ⟨by rfl, ?_⟩) ?_ ?_
          rotate_left
          ·
           intro w'
           go_simp
           with_reducible rfl
          rotate_left
          ·
           simp only [Act.put, zs, zs0, zs1, i64_w, i32_w]
           rfl
          refine pure_ (i := 2) (N := some 78) (v := ?_) (a' := ?_) (zl 15 7) rfl rfl (any_of HT_.out (by kernel_rfl)) (fun _ _ _ h => h) (Or.inl ⟨by rfl, ?_⟩) ?_ ?_
          rotate_left
          ·
           intro w'
           go_simp
           with_reducible rfl
          rotate_left
          ·
           simp only [Act.put, zs, zs0, zs1, i64_w, i32_w]
           rfl
          refine pure_ (i := 5) (N := some 81) (v := ?_) (a' := ?_) (zl 15 39) rfl rfl (any_of HT_.out (by kernel_rfl)) (fun _ _ _ h => h) (Or.inl ⟨by rfl, ?_⟩) ?_ ?_
          rotate_left
          ·
           intro w'
           go_simp
           with_reducible rfl
          rotate_left
          ·
           simp only [Act.put, zs, zs0, zs1, i64_w, i32_w]
           rfl
          refine pure_ (i := 6) (N := some 82) (v := ?_) (a' := ?_) (zl 15 103) rfl rfl (any_of HT_.out (by kernel_rfl)) (fun _ _ _ h => h) (Or.inl ⟨by rfl, ?_⟩) ?_ ?_
          rotate_left
          ·
           intro w'
           go_simp
           with_reducible rfl
          rotate_left
          ·
           simp only [Act.put, zs, zs0, zs1, i64_w, i32_w]
           rfl
          refine pure_ (i := 7) (N := some 83) (v := ?_) (a' := ?_) (zl 15 231) rfl rfl (any_of HT_.out (by kernel_rfl)) (fun _ _ _ h => h) (Or.inl ⟨by rfl, ?_⟩) ?_ ?_
          rotate_left
          ·
           intro w'
           go_simp
           with_reducible rfl
          rotate_left
          ·
           simp only [Act.put, zs, zs0, zs1, i64_w, i32_w]
           rfl
          refine take_ (i := 3) (N := some 79) (v := ?_) (a' := ?_) (zl 15 239) rfl rfl (take_ofW HT_.out HW_.out (by kernel_rfl)) (fun _ _ _ h => h) (Or.inl ⟨by rfl, ?_⟩) hHeld ?_ ?_
          rotate_left
          ·
           rintro w' ⟨s0, s1, s2, s3, s4, s5, s6, s7⟩
           go_simp
           with_reducible rfl
          rotate_left
          ·
           simp only [Act.put, zs, zs0, zs1, i64_w, i32_w]
           rfl
          refine take_ (i := 4) (N := some 80) (v := ?_) (a' := ?_) (zl 15 255) rfl rfl (take_ofW HT_.out HW_.out (by kernel_rfl)) (fun _ _ _ h => h) (Or.inl ⟨by rfl, ?_⟩) hHeld ?_ ?_
          rotate_left
          ·
           rintro w' ⟨s0, s1, s2, s3, s4, s5, s6, s7⟩
           go_simp
           with_reducible rfl
          rotate_left
          ·
           simp only [Act.put, zs, zs0, zs1, i64_w, i32_w]
           rfl
          refine one_ (i := 8) (N := some 84) (zl 15 511) rfl rfl (one_of HT_.out (by kernel_rfl)) (by decide) (fun K hK => ?_)
          refine goes_ Try.func13 (by kernel_rfl) rfl #[.agg #[.int .i64 a0_0, .int .i64 a0_1, .slice A0_2 l0_2.length c0_2], .int .i64 a1, .int .i64 a2, .slice A3 l3.length c3] (by rfl) rfl rfl (zm) ?_
          with_reducible refine (standstillref05_Cross.calls kj27 a0_0 a0_1 _ _ l0_2 a1 a2 _ _ l3 t258 t259 t260 t261 t262 _ ?side1 ?side2 ?side3 ?side4 A58.out).mono ?_
          (case side1 => exact zC ((Kd.C_below HR0_2.out HB.out)))
          (case side2 => exact HC0_2.out)
          (case side3 => exact zC ((Kd.C_below HR3.out HB.out)))
          (case side4 => exact HC3.out)
          rintro e w68 ⟨v263, rfl, ho0, hb⟩
          refine ⟨_, rfl, ?_⟩
          have n0_ := Aside0.mk (Kd.R_elder' (zR HO_254004) (Kd.R_base ho0) hb)
          have n1_ := Aside0.mk (Kd.R_lower (Kd.R_new' ho0 (Kd.R_lt (zR HO_254004))) (below_size (zB HB)))
          have n2_ := Aside0.mk (zb BK242 hb)
          have n3_ := Aside0.mk (zb BK253 hb)
          have n4_ := Aside0.mk (below_step (zB HB) hb)
          clear HO_254004
          clear BK242
          clear BK253
          clear HB
          have HO_254004 := n0_
          have HO264 := n1_
          have BK242 := n2_
          have BK253 := n3_
          have HB := n4_
          clear n0_ n1_ n2_ n3_ n4_
          (try clear hb)
          (try clear hb2)
          (try clear hk)
          (try clear hi)
          (try clear ho0)
          obtain ⟨Ao69, co69, eo69⟩ := Kd.R_slice HO264.out
          (first | subst eo69 | (injection eo69 with f1_ f2_ f3_; have f4_ := f1_.symm; have f5_ := f3_.symm; clear f1_ f2_ f3_; subst f4_; subst f5_))
          refine hK.out _ _ ⟨(blk_cell BK253.out 0).trans rfl, (blk_cell BK253.out 1).trans rfl, (blk_cell BK253.out 2).trans rfl, (blk_cell BK253.out 3).trans rfl, (blk_cell BK253.out 4).trans rfl, (blk_cell BK242.out 0).trans rfl, (blk_cell BK242.out 1).trans rfl, (blk_cell BK242.out 2).trans rfl⟩ (fun hHeld => ?_)
          clear hK K
          refine norm_ (a' := ?_) ?_ ?_
          rotate_left
          ·
           show Act.put _ (some 84) _ = _
           simp only [Act.put, zs, zs0, zs1, i64_w, i32_w]
           rfl
          refine one_ (i := 9) (N := some 85) (zl 15 1023) rfl rfl (one_of HT_.out (by kernel_rfl)) (by decide) (fun K hK => ?_)
          refine goes_ Try.func11 (by kernel_rfl) rfl #[.agg #[.int .i64 t245, .int .i64 t246, .int .i64 t247, .int .i64 t248, .slice Ao24 t249.length co24], .agg #[.int .i64 t258, .int .i64 t259, .int .i64 t260, .int .i64 t261, .slice Ao69 t262.length co69]] (by rfl) rfl rfl (zm) ?_
          with_reducible refine (standstillref05_Same.calls kj27 t245 t246 t247 t248 _ _ t249 t258 t259 t260 t261 _ _ t262 false _ ?side1 ?side2 ?side3 ?side4 A59.out).mono ?_
          (case side1 => exact zC ((Kd.R_reads' HO_254004.out).2.2))
          (case side2 => exact (Kd.R_reads' HO_254004.out).2.1)
          (case side3 => exact zC ((Kd.R_reads' HO264.out).2.2))
          (case side4 => exact (Kd.R_reads' HO264.out).2.1)
          rintro e w70 ⟨rfl, hb⟩
          refine ⟨_, rfl, ?_⟩
          have n0_ := Aside0.mk (zRb HO_254004 hb)
          have n1_ := Aside0.mk (zRb HO264 hb)
          have n2_ := Aside0.mk (zb BK242 hb)
          have n3_ := Aside0.mk (zb BK253 hb)
          have n4_ := Aside0.mk (below_step (zB HB) hb)
          clear HO_254004
          clear HO264
          clear BK242
          clear BK253
          clear HB
          have HO_254004 := n0_
          have HO264 := n1_
          have BK242 := n2_
          have BK253 := n3_
          have HB := n4_
          clear n0_ n1_ n2_ n3_ n4_
          (try clear hb)
          (try clear hb2)
          (try clear hk)
          (try clear hi)
          refine hK.out _ _ ⟨(blk_cell BK253.out 0).trans rfl, (blk_cell BK253.out 1).trans rfl, (blk_cell BK253.out 2).trans rfl, (blk_cell BK253.out 3).trans rfl, (blk_cell BK253.out 4).trans rfl, (blk_cell BK242.out 0).trans rfl, (blk_cell BK242.out 1).trans rfl, (blk_cell BK242.out 2).trans rfl⟩ (fun hHeld => ?_)
          clear hK K
          refine norm_ (a' := ?_) ?_ ?_
          rotate_left
          ·
           show Act.put _ (some 85) _ = _
           simp only [Act.put, zs, zs0, zs1, i64_w, i32_w]
           rfl
          refine pure_ (i := 10) (N := some 86) (v := ?_) (a' := ?_) (zl 15 2047) rfl rfl (any_of HT_.out (by kernel_rfl)) (fun _ _ _ h => h) (Or.inl ⟨by rfl, ?_⟩) ?_ ?_
          rotate_left
          ·
           intro w'
           go_simp
           with_reducible rfl
          rotate_left
          ·
           simp only [Act.put, zs, zs0, zs1, i64_w, i32_w]
           rfl
          refine pure_ (i := 11) (N := some 87) (v := ?_) (a' := ?_) (zl 15 4095) rfl rfl (any_of HT_.out (by kernel_rfl)) (fun _ _ _ h => h) (Or.inl ⟨by rfl, ?_⟩) ?_ ?_
          rotate_left
          ·
           intro w'
           go_simp
           with_reducible rfl
          rotate_left
          ·
           simp only [Act.put, zs, zs0, zs1, i64_w, i32_w]
           rfl
          refine pure_ (i := 12) (N := some 88) (v := undef) (a' := ?_) (zl 15 8191) rfl rfl (any_of HT_.out (by kernel_rfl)) (fun _ _ _ h => h) (Or.inr ⟨by rfl, rfl⟩) ?_ ?_
          rotate_left
          ·
           simp only [Act.put, zs, zs0, zs1, i64_w, i32_w]
           rfl
          refine pure_ (i := 13) (N := some 89) (v := ?_) (a' := ?_) (zl 15 16383) rfl rfl (any_of HT_.out (by kernel_rfl)) (fun _ _ _ h => h) (Or.inl ⟨by rfl, ?_⟩) ?_ ?_
          rotate_left
          ·
           intro w'
           go_simp
           with_reducible rfl
          rotate_left
          ·
           simp only [Act.put, zs, zs0, zs1, i64_w, i32_w]
           rfl
          refine pure_ (i := 14) (N := some 8) (v := ?_) (a' := ?_) (zl 15 32767) rfl rfl (any_of HT_.out (by kernel_rfl)) (fun _ _ _ h => h) (Or.inl ⟨by rfl, ?_⟩) ?_ ?_
          rotate_left
          ·
           intro w'
           go_simp
           with_reducible rfl
          rotate_left
          ·
           simp only [Act.put, zs, zs0, zs1, i64_w, i32_w]
           rfl
          refine done_ (done_of HT_.out (by kernel_rfl)) ?_
          try go_wp2
          go_ret
          exact ⟨by first | rfl | (simp [errW_none, errW_some] <;> rfl) | (simp [*, errW_none, errW_some] <;> rfl), zB HB⟩
        ·
         rw [if_neg c57] at H
         have c57b0 : (t252 == 0) = false := beq_eq_false_iff_ne.mpr c57
         have c57b1 : (t252 != 0) = true := bne_iff_ne.mpr c57
         obtain rfl := Option.some.inj H
         try go_wp2
         have n0_ := Aside0.mk (Kd.R_drew HO_254004.out)
         have n1_ := Aside0.mk (blk_drew BK242.out)
         have n2_ := Aside0.mk (blk_drew BK253.out)
         have n3_ := Aside0.mk (below_drew1 HB.out)
         clear HO_254004
         clear BK242
         clear BK253
         clear HB
         have HO_254004 := n0_
         have BK242 := n1_
         have BK253 := n2_
         have HB := n3_
         clear n0_ n1_ n2_ n3_
         refine start_ (n := 15) (S := fun w' => True) (ds := []) (zl 15 0) (by kernel_rfl) rfl rfl trivial (fun hHeld => ?_); refine with_tabW standstilllaw05_BlockCrosses.tab8 standstilllaw05_BlockCrosses.bits8 (fun HT_ HW_ => ?_)
         generalize wc.drew = w71 at HO_254004 BK242 BK253 HB hHeld ⊢
         refine pure_ (i := 0) (N := some 76) (v := ?_) (a' := ?_) (zl 15 1) rfl rfl (any_of HT_.out (by kernel_rfl)) (fun _ _ _ h => h) (Or.inl ⟨by rfl, ?_⟩) ?_ ?_
         rotate_left
         ·
          intro w'
          go_simp
          with_reducible rfl
         rotate_left
         ·
          simp only [Act.put, zs, zs0, zs1, i64_w, i32_w]
          rfl
         refine pure_ (i := 1) (N := some 77) (v := ?_) (a' := ?_) (zl 15 3) rfl rfl (any_of HT_.out (by kernel_rfl)) (fun _ _ _ h => h) (Or.inl ⟨by rfl, ?_⟩) ?_ ?_
         rotate_left
         ·
          intro w'
          go_simp
          with_reducible rfl
         rotate_left
         ·
          simp only [Act.put, zs, zs0, zs1, i64_w, i32_w]
          rfl
         refine pure_ (i := 2) (N := some 78) (v := ?_) (a' := ?_) (zl 15 7) rfl rfl (any_of HT_.out (by kernel_rfl)) (fun _ _ _ h => h) (Or.inl ⟨by rfl, ?_⟩) ?_ ?_
         rotate_left
         ·
          intro w'
          go_simp
          with_reducible rfl
         rotate_left
         ·
          simp only [Act.put, zs, zs0, zs1, i64_w, i32_w]
          rfl
         refine pure_ (i := 3) (N := some 79) (v := undef) (a' := ?_) (zl 15 15) rfl rfl (any_of HT_.out (by kernel_rfl)) (fun _ _ _ h => h) (Or.inr ⟨by rfl, rfl⟩) ?_ ?_
         rotate_left
         ·
          simp only [Act.put, zs, zs0, zs1, i64_w, i32_w]
          rfl
         refine pure_ (i := 4) (N := some 80) (v := undef) (a' := ?_) (zl 15 31) rfl rfl (any_of HT_.out (by kernel_rfl)) (fun _ _ _ h => h) (Or.inr ⟨by rfl, rfl⟩) ?_ ?_
         rotate_left
         ·
          simp only [Act.put, zs, zs0, zs1, i64_w, i32_w]
          rfl
         refine pure_ (i := 5) (N := some 81) (v := undef) (a' := ?_) (zl 15 63) rfl rfl (any_of HT_.out (by kernel_rfl)) (fun _ _ _ h => h) (Or.inr ⟨by rfl, rfl⟩) ?_ ?_
         rotate_left
         ·
          simp only [Act.put, zs, zs0, zs1, i64_w, i32_w]
          rfl
         refine pure_ (i := 6) (N := some 82) (v := undef) (a' := ?_) (zl 15 127) rfl rfl (any_of HT_.out (by kernel_rfl)) (fun _ _ _ h => h) (Or.inr ⟨by rfl, rfl⟩) ?_ ?_
         rotate_left
         ·
          simp only [Act.put, zs, zs0, zs1, i64_w, i32_w]
          rfl
         refine pure_ (i := 7) (N := some 83) (v := undef) (a' := ?_) (zl 15 255) rfl rfl (any_of HT_.out (by kernel_rfl)) (fun _ _ _ h => h) (Or.inr ⟨by rfl, rfl⟩) ?_ ?_
         rotate_left
         ·
          simp only [Act.put, zs, zs0, zs1, i64_w, i32_w]
          rfl
         refine pure_ (i := 8) (N := some 84) (v := undef) (a' := ?_) (zl 15 511) rfl rfl (any_of HT_.out (by kernel_rfl)) (fun _ _ _ h => h) (Or.inr ⟨by rfl, rfl⟩) ?_ ?_
         rotate_left
         ·
          simp only [Act.put, zs, zs0, zs1, i64_w, i32_w]
          rfl
         refine pure_ (i := 9) (N := some 85) (v := undef) (a' := ?_) (zl 15 1023) rfl rfl (any_of HT_.out (by kernel_rfl)) (fun _ _ _ h => h) (Or.inr ⟨by rfl, rfl⟩) ?_ ?_
         rotate_left
         ·
          simp only [Act.put, zs, zs0, zs1, i64_w, i32_w]
          rfl
         refine pure_ (i := 10) (N := some 86) (v := ?_) (a' := ?_) (zl 15 2047) rfl rfl (any_of HT_.out (by kernel_rfl)) (fun _ _ _ h => h) (Or.inl ⟨by rfl, ?_⟩) ?_ ?_
         rotate_left
         ·
          intro w'
          go_simp
          with_reducible rfl
         rotate_left
         ·
          simp only [Act.put, zs, zs0, zs1, i64_w, i32_w]
          rfl
         refine pure_ (i := 11) (N := some 87) (v := ?_) (a' := ?_) (zl 15 4095) rfl rfl (any_of HT_.out (by kernel_rfl)) (fun _ _ _ h => h) (Or.inl ⟨by rfl, ?_⟩) ?_ ?_
         rotate_left
         ·
          intro w'
          go_simp
          with_reducible rfl
         rotate_left
         ·
          simp only [Act.put, zs, zs0, zs1, i64_w, i32_w]
          rfl
         refine pure_ (i := 12) (N := some 88) (v := undef) (a' := ?_) (zl 15 8191) rfl rfl (any_of HT_.out (by kernel_rfl)) (fun _ _ _ h => h) (Or.inr ⟨by rfl, rfl⟩) ?_ ?_
         rotate_left
         ·
          simp only [Act.put, zs, zs0, zs1, i64_w, i32_w]
          rfl
         refine pure_ (i := 13) (N := some 89) (v := ?_) (a' := ?_) (zl 15 16383) rfl rfl (any_of HT_.out (by kernel_rfl)) (fun _ _ _ h => h) (Or.inl ⟨by rfl, ?_⟩) ?_ ?_
         rotate_left
         ·
          intro w'
          go_simp
          with_reducible rfl
         rotate_left
         ·
          simp only [Act.put, zs, zs0, zs1, i64_w, i32_w]
          rfl
         refine pure_ (i := 14) (N := some 8) (v := ?_) (a' := ?_) (zl 15 32767) rfl rfl (any_of HT_.out (by kernel_rfl)) (fun _ _ _ h => h) (Or.inl ⟨by rfl, ?_⟩) ?_ ?_
         rotate_left
         ·
          intro w'
          go_simp
          with_reducible rfl
         rotate_left
         ·
          simp only [Act.put, zs, zs0, zs1, i64_w, i32_w]
          rfl
         refine done_ (done_of HT_.out (by kernel_rfl)) ?_
         try go_wp2
         go_ret
         exact ⟨by first | rfl | (simp [errW_none, errW_some] <;> rfl) | (simp [*, errW_none, errW_some] <;> rfl), zB HB⟩
    ·
     replace c27 := Bool.eq_false_iff.mpr c27
     subst c27
     have H1 : (if t252 = 1 then ((standstillref05_Same.f kj4 t245 t246 t247 t248 t249 0 0 0 0 ([] : List Int)).bind fun t267 => (if t267 = true then ((standstilllaw05_awake.f kj4).bind fun t268 => (some t268)) else (some false))) else (some false)) = some r := by rw [if_neg (show ¬ (false = true) by decide)] at H; exact H
     clear H
     have H := H1
     clear H1
     by_cases c72 : t252 = 1
     ·
      rw [if_pos c72] at H
      have c72b0 : (t252 == 1) = true := beq_iff_eq.mpr c72
      have c72b1 : (t252 != 1) = false := bne_eq_false_iff_eq.mpr c72
      clear c72
      replace H := Option.bind_eq_some_iff.mp H
      obtain ⟨t267, A730, H⟩ := H
      replace H : (if t267 = true then ((standstilllaw05_awake.f kj4).bind fun t268 => (some t268)) else (some false)) = some r := H
      have A73 := Aside0.mk A730
      clear A730
      by_cases c74 : t267 = true
      ·
       subst c74
       have H1 : ((standstilllaw05_awake.f kj4).bind fun t268 => (some t268)) = some r := by rw [if_pos rfl] at H; exact H
       clear H
       have H := H1
       clear H1
       replace H := Option.bind_eq_some_iff.mp H
       obtain ⟨t268, A750, H⟩ := H
       replace H : (some t268) = some r := H
       have A75 := Aside0.mk A750
       clear A750
       obtain rfl := Option.some.inj H
       have hnb76 := NB253_242.out
       have hnc76 := NB242_253.out
       have hcz77_0 : w26.cell? ⟨gb253, 0, none⟩ = some (.int .i64 t245) := (blk_cell BK253.out 0).trans rfl
       have hcz77_1 : w26.cell? ⟨gb253, 1, none⟩ = some (.int .i64 t246) := (blk_cell BK253.out 1).trans rfl
       have hcz77_2 : w26.cell? ⟨gb253, 2, none⟩ = some (.int .i64 t247) := (blk_cell BK253.out 2).trans rfl
       have hcz77_3 : w26.cell? ⟨gb253, 3, none⟩ = some (.int .i64 t248) := (blk_cell BK253.out 3).trans rfl
       have hcz77_4 : w26.cell? ⟨gb253, 4, none⟩ = some (.slice Ao24 t249.length co24) := (blk_cell BK253.out 4).trans rfl
       have hfz77_0 := blk_frozen BK253.out 0
       have hfz77_1 := blk_frozen BK253.out 1
       have hfz77_2 := blk_frozen BK253.out 2
       have hfz77_3 := blk_frozen BK253.out 3
       have hfz77_4 := blk_frozen BK253.out 4
       go_wp2_with (first | (go_at_call 11; (refine (standstillref05_Same.calls kj4 t245 t246 t247 t248 _ _ t249 0 0 0 0 _ _ ([] : List Int) true _ ?side1 ?side2 ?side3 ?side4 A73.out).mono ?_); (case side1 => exact zC ((Kd.R_reads' HO251.out).2.2)); (case side2 => exact (Kd.R_reads' HO251.out).2.1); (case side3 => exact Kd.C_nil _ _); (case side4 => exact Nat.le_refl _); rintro e w78 ⟨rfl, hb⟩; have n0_ := Aside0.mk (zRb HO251 hb); have n1_ := Aside0.mk (zb BK242 hb); have n2_ := Aside0.mk (zb BK253 hb); have n3_ := Aside0.mk (below_step (zB HB) hb); clear HO251; clear BK242; clear BK253; clear HB; have HO251 := n0_; have BK242 := n1_; have BK253 := n2_; have HB := n3_; clear n0_ n1_ n2_ n3_; (try clear hb); (try clear hb2); (try clear hk); (try clear hi)) | (go_at_call 8; (with_reducible refine (standstilllaw05_awake.calls kj4  t268 _ A75.out).mono ?_); rintro e w79 ⟨rfl, hb⟩; have n0_ := Aside0.mk (zRb HO251 hb); have n1_ := Aside0.mk (zb BK242 hb); have n2_ := Aside0.mk (zb BK253 hb); have n3_ := Aside0.mk (below_step (zB HB) hb); clear HO251; clear BK242; clear BK253; clear HB; have HO251 := n0_; have BK242 := n1_; have BK253 := n2_; have HB := n3_; clear n0_ n1_ n2_ n3_; (try clear hb); (try clear hb2); (try clear hk); (try clear hi)))
       go_ret
       exact ⟨by first | rfl | (simp [errW_none, errW_some] <;> rfl) | (simp [*, errW_none, errW_some] <;> rfl), zB HB⟩
      ·
       replace c74 := Bool.eq_false_iff.mpr c74
       subst c74
       have H1 : (some false) = some r := by rw [if_neg (show ¬ (false = true) by decide)] at H; exact H
       clear H
       have H := H1
       clear H1
       obtain rfl := Option.some.inj H
       have hnb80 := NB253_242.out
       have hnc80 := NB242_253.out
       have hcz81_0 : w26.cell? ⟨gb253, 0, none⟩ = some (.int .i64 t245) := (blk_cell BK253.out 0).trans rfl
       have hcz81_1 : w26.cell? ⟨gb253, 1, none⟩ = some (.int .i64 t246) := (blk_cell BK253.out 1).trans rfl
       have hcz81_2 : w26.cell? ⟨gb253, 2, none⟩ = some (.int .i64 t247) := (blk_cell BK253.out 2).trans rfl
       have hcz81_3 : w26.cell? ⟨gb253, 3, none⟩ = some (.int .i64 t248) := (blk_cell BK253.out 3).trans rfl
       have hcz81_4 : w26.cell? ⟨gb253, 4, none⟩ = some (.slice Ao24 t249.length co24) := (blk_cell BK253.out 4).trans rfl
       have hfz81_0 := blk_frozen BK253.out 0
       have hfz81_1 := blk_frozen BK253.out 1
       have hfz81_2 := blk_frozen BK253.out 2
       have hfz81_3 := blk_frozen BK253.out 3
       have hfz81_4 := blk_frozen BK253.out 4
       go_wp2_with (first | (go_at_call 11; (refine (standstillref05_Same.calls kj4 t245 t246 t247 t248 _ _ t249 0 0 0 0 _ _ ([] : List Int) false _ ?side1 ?side2 ?side3 ?side4 A73.out).mono ?_); (case side1 => exact zC ((Kd.R_reads' HO251.out).2.2)); (case side2 => exact (Kd.R_reads' HO251.out).2.1); (case side3 => exact Kd.C_nil _ _); (case side4 => exact Nat.le_refl _); rintro e w82 ⟨rfl, hb⟩; have n0_ := Aside0.mk (zRb HO251 hb); have n1_ := Aside0.mk (zb BK242 hb); have n2_ := Aside0.mk (zb BK253 hb); have n3_ := Aside0.mk (below_step (zB HB) hb); clear HO251; clear BK242; clear BK253; clear HB; have HO251 := n0_; have BK242 := n1_; have BK253 := n2_; have HB := n3_; clear n0_ n1_ n2_ n3_; (try clear hb); (try clear hb2); (try clear hk); (try clear hi)))
       go_ret
       exact ⟨by first | rfl | (simp [errW_none, errW_some] <;> rfl) | (simp [*, errW_none, errW_some] <;> rfl), zB HB⟩
     ·
      rw [if_neg c72] at H
      have c72b0 : (t252 == 1) = false := beq_eq_false_iff_ne.mpr c72
      have c72b1 : (t252 != 1) = true := bne_iff_ne.mpr c72
      obtain rfl := Option.some.inj H
      go_wp2
      go_ret
      exact ⟨by first | rfl | (simp [errW_none, errW_some] <;> rfl) | (simp [*, errW_none, errW_some] <;> rfl), zB HB⟩

end Go.Proofs.Ytfjfnpegpcdnaaa.GB
