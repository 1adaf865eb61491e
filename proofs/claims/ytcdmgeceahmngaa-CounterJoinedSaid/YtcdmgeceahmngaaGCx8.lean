/- The functions of one seat as Lean functions, each with its contract: the call of the Go function returns what the Lean function answers. Written by a program of this session out of the translation; contracts made by hand are laid between. -/
import Derived.Test.YtcdmgeceahmngaaGCx0
import Derived.Test.YtcdmgeceahmngaaGCx3
namespace Go.Proofs.Ytcdmgeceahmngaa.GC
open Go.RowKit Go.Proofs.YtcdmgeceahmngaaW.PrintWords Go.Proofs.YtcdmgeceahmngaaW.PrintLast Go.Proofs.YtcdmgeceahmngaaW.PrintMore
attribute [local go_sem] max2_int min2_int max_two min_two max_three min_three max_four min_four   -- for this text's walks alone
set_option linter.unusedVariables false
set_option linter.unusedSimpArgs false

/-! ### counter_Join: function 10 -/
mutual
def counter_Join.j0 : Nat → Bool → Int → List (S35) → Int → List (S35) → Option (Int × (List (S35)) × Int)
 | 0, _, _, _, _, _ => none
 | k + 1, x20, x168000, x168001, x169000, x169001 => if x20 = true then (some (0, ([] : List (S35)), 1)) else (counter_Join.l0 k (x168001.length : Int) false x168001 (x168001.length : Int) 0 x169000 x169001 (mx x168000 x169000) ([] : List (S35)))
def counter_Join.l0 : Nat → Int → Bool → List (S35) → Int → Int → Int → List (S35) → Int → List (S35) → Option (Int × (List (S35)) × Int)
 | 0, _, _, _, _, _, _, _, _, _ => none
 | k + 1, x6, x7, x32, x33, x34, x169000, x169001, x173000, x173001 => if x34 < x33 then (if 0 ≤ x34 then (if x34 < (x32.length : Int) then (if ((rd_T35 x32 x34).f0) = 2 then (if x173001.length < 4398046511104 then (counter_Join.l0 k x6 true x32 x33 (wrap64 (x34 + 1)) x169000 x169001 x173000 (x173001 ++ [(⟨0, 0, x6, 0⟩ : S35)])) else (none)) else (if x173001.length < 4398046511104 then (counter_Join.l0 k x6 x7 x32 x33 (wrap64 (x34 + 1)) x169000 x169001 x173000 (x173001 ++ [(⟨(rd_T35 x32 x34).f0, (rd_T35 x32 x34).f1, (rd_T35 x32 x34).f2, (rd_T35 x32 x34).f3⟩ : S35)])) else (none))) else (none)) else (none)) else (if x7 = true then (if x173001.length < 4398046511104 then (counter_Join.j2 k (wrap64 (x6 + 1)) x169000 x169001 x173000 (x173001 ++ [(⟨1, 0, wrap64 (x6 + 1), wrap64 (x6 + 1)⟩ : S35)])) else (none)) else (counter_Join.j2 k x6 x169000 x169001 x173000 x173001))
def counter_Join.j2 : Nat → Int → Int → List (S35) → Int → List (S35) → Option (Int × (List (S35)) × Int)
 | 0, _, _, _, _, _ => none
 | k + 1, x6, x169000, x169001, x173000, x173001 => counter_Join.l1 k x6 x169001 (x169001.length : Int) 0 x173000 x173001
def counter_Join.l1 : Nat → Int → List (S35) → Int → Int → Int → List (S35) → Option (Int × (List (S35)) × Int)
 | 0, _, _, _, _, _, _ => none
 | k + 1, x6, x62, x63, x64, x173000, x173001 => if x64 < x63 then (if 0 ≤ x64 then (if x64 < (x62.length : Int) then (if ((rd_T35 x62 x64).f0) = 2 then (if ((rd_T35 x62 x64).f0) = 1 then (if x173001.length < 4398046511104 then (counter_Join.l1 k x6 x62 x63 (wrap64 (x64 + 1)) x173000 (x173001 ++ [(⟨(rd_T35 x62 x64).f0, (rd_T35 x62 x64).f1, (rd_T35 x62 x64).f2, wrap64 (((rd_T35 x62 x64).f3) + x6)⟩ : S35)])) else (none)) else (if x173001.length < 4398046511104 then (counter_Join.l1 k x6 x62 x63 (wrap64 (x64 + 1)) x173000 (x173001 ++ [(⟨(rd_T35 x62 x64).f0, (rd_T35 x62 x64).f1, (rd_T35 x62 x64).f2, (rd_T35 x62 x64).f3⟩ : S35)])) else (none))) else (if ((rd_T35 x62 x64).f0) = 1 then (if x173001.length < 4398046511104 then (counter_Join.l1 k x6 x62 x63 (wrap64 (x64 + 1)) x173000 (x173001 ++ [(⟨(rd_T35 x62 x64).f0, (rd_T35 x62 x64).f1, wrap64 (((rd_T35 x62 x64).f2) + x6), wrap64 (((rd_T35 x62 x64).f3) + x6)⟩ : S35)])) else (none)) else (if x173001.length < 4398046511104 then (counter_Join.l1 k x6 x62 x63 (wrap64 (x64 + 1)) x173000 (x173001 ++ [(⟨(rd_T35 x62 x64).f0, (rd_T35 x62 x64).f1, wrap64 (((rd_T35 x62 x64).f2) + x6), (rd_T35 x62 x64).f3⟩ : S35)])) else (none)))) else (none)) else (none)) else (if (x173001.length : Int) > 2000 then (some (0, ([] : List (S35)), 4)) else (some (x173000, x173001, 0)))
end
def counter_Join.f (k : Nat) (a0_0 : Int) (l0_1 : List (S35)) (a1_0 : Int) (l1_1 : List (S35)) : Option (Int × (List (S35)) × Int) := (counter_Valid.f k a0_0 l0_1).bind fun t170 => (if t170 = true then ((counter_Valid.f k a1_0 l1_1).bind fun t171 => (counter_Join.j0 k (!t171) a0_0 l0_1 a1_0 l1_1)) else (counter_Join.j0 k true a0_0 l0_1 a1_0 l1_1))
theorem counter_Join.mono_l : ∀ k, (∀ y0 y1 y2 y3 y4, LeO (counter_Join.j0 k y0 y1 y2 y3 y4) (counter_Join.j0 (k + 1) y0 y1 y2 y3 y4)) ∧ (∀ y0 y1 y2 y3 y4 y5 y6 y7 y8, LeO (counter_Join.l0 k y0 y1 y2 y3 y4 y5 y6 y7 y8) (counter_Join.l0 (k + 1) y0 y1 y2 y3 y4 y5 y6 y7 y8)) ∧ (∀ y0 y1 y2 y3 y4, LeO (counter_Join.j2 k y0 y1 y2 y3 y4) (counter_Join.j2 (k + 1) y0 y1 y2 y3 y4)) ∧ (∀ y0 y1 y2 y3 y4 y5, LeO (counter_Join.l1 k y0 y1 y2 y3 y4 y5) (counter_Join.l1 (k + 1) y0 y1 y2 y3 y4 y5))
 | 0 => ⟨fun _ _ _ _ _ r h => by simp [counter_Join.j0] at h, fun _ _ _ _ _ _ _ _ _ r h => by simp [counter_Join.l0] at h, fun _ _ _ _ _ r h => by simp [counter_Join.j2] at h, fun _ _ _ _ _ _ r h => by simp [counter_Join.l1] at h⟩
 | k + 1 => by
  obtain ⟨ih0, ih1, ih2, ih3⟩ := counter_Join.mono_l k
  refine ⟨?_, ?_, ?_, ?_⟩
  ·
   intro y0 y1 y2 y3 y4
   unfold counter_Join.j0
   repeat' first
   | (with_reducible exact ih0 _ _ _ _ _)
   | (with_reducible exact ih1 _ _ _ _ _ _ _ _ _)
   | (with_reducible exact ih2 _ _ _ _ _)
   | (with_reducible exact ih3 _ _ _ _ _ _)
   | (with_reducible exact counter_Valid.mono _ _ _)
   | (with_reducible exact LeO.refl _)
   | (with_reducible exact LeO.none _)
   | (with_reducible refine LeO.ite ?_ ?_)
   | (with_reducible refine LeO.bind ?_ (fun _ => ?_))
   | exact ih0 _ _ _ _ _
   | exact ih1 _ _ _ _ _ _ _ _ _
   | exact ih2 _ _ _ _ _
   | exact ih3 _ _ _ _ _ _
   | exact counter_Valid.mono _ _ _
   | exact LeO.none _
   | refine LeO.ite ?_ ?_
   | refine LeO.bind ?_ (fun _ => ?_)
  ·
   intro y0 y1 y2 y3 y4 y5 y6 y7 y8
   unfold counter_Join.l0
   repeat' first
   | (with_reducible exact ih0 _ _ _ _ _)
   | (with_reducible exact ih1 _ _ _ _ _ _ _ _ _)
   | (with_reducible exact ih2 _ _ _ _ _)
   | (with_reducible exact ih3 _ _ _ _ _ _)
   | (with_reducible exact counter_Valid.mono _ _ _)
   | (with_reducible exact LeO.refl _)
   | (with_reducible exact LeO.none _)
   | (with_reducible refine LeO.ite ?_ ?_)
   | (with_reducible refine LeO.bind ?_ (fun _ => ?_))
   | exact ih0 _ _ _ _ _
   | exact ih1 _ _ _ _ _ _ _ _ _
   | exact ih2 _ _ _ _ _
   | exact ih3 _ _ _ _ _ _
   | exact counter_Valid.mono _ _ _
   | exact LeO.none _
   | refine LeO.ite ?_ ?_
   | refine LeO.bind ?_ (fun _ => ?_)
  ·
   intro y0 y1 y2 y3 y4
   unfold counter_Join.j2
   repeat' first
   | (with_reducible exact ih0 _ _ _ _ _)
   | (with_reducible exact ih1 _ _ _ _ _ _ _ _ _)
   | (with_reducible exact ih2 _ _ _ _ _)
   | (with_reducible exact ih3 _ _ _ _ _ _)
   | (with_reducible exact counter_Valid.mono _ _ _)
   | (with_reducible exact LeO.refl _)
   | (with_reducible exact LeO.none _)
   | (with_reducible refine LeO.ite ?_ ?_)
   | (with_reducible refine LeO.bind ?_ (fun _ => ?_))
   | exact ih0 _ _ _ _ _
   | exact ih1 _ _ _ _ _ _ _ _ _
   | exact ih2 _ _ _ _ _
   | exact ih3 _ _ _ _ _ _
   | exact counter_Valid.mono _ _ _
   | exact LeO.none _
   | refine LeO.ite ?_ ?_
   | refine LeO.bind ?_ (fun _ => ?_)
  ·
   intro y0 y1 y2 y3 y4 y5
   unfold counter_Join.l1
   repeat' first
   | (with_reducible exact ih0 _ _ _ _ _)
   | (with_reducible exact ih1 _ _ _ _ _ _ _ _ _)
   | (with_reducible exact ih2 _ _ _ _ _)
   | (with_reducible exact ih3 _ _ _ _ _ _)
   | (with_reducible exact counter_Valid.mono _ _ _)
   | (with_reducible exact LeO.refl _)
   | (with_reducible exact LeO.none _)
   | (with_reducible refine LeO.ite ?_ ?_)
   | (with_reducible refine LeO.bind ?_ (fun _ => ?_))
   | exact ih0 _ _ _ _ _
   | exact ih1 _ _ _ _ _ _ _ _ _
   | exact ih2 _ _ _ _ _
   | exact ih3 _ _ _ _ _ _
   | exact counter_Valid.mono _ _ _
   | exact LeO.none _
   | refine LeO.ite ?_ ?_
   | refine LeO.bind ?_ (fun _ => ?_)
theorem counter_Join.mono : ∀ a0 a1 a2 a3 k, LeO (counter_Join.f k a0 a1 a2 a3) (counter_Join.f (k + 1) a0 a1 a2 a3) := by
 intro a0 a1 a2 a3 k
 obtain ⟨ih0, ih1, ih2, ih3⟩ := counter_Join.mono_l k
 unfold counter_Join.f
 repeat' first
   | (with_reducible exact ih0 _ _ _ _ _)
   | (with_reducible exact ih1 _ _ _ _ _ _ _ _ _)
   | (with_reducible exact ih2 _ _ _ _ _)
   | (with_reducible exact ih3 _ _ _ _ _ _)
   | (with_reducible exact counter_Valid.mono _ _ _)
   | (with_reducible exact LeO.refl _)
   | (with_reducible exact LeO.none _)
   | (with_reducible refine LeO.ite ?_ ?_)
   | (with_reducible refine LeO.bind ?_ (fun _ => ?_))
   | exact ih0 _ _ _ _ _
   | exact ih1 _ _ _ _ _ _ _ _ _
   | exact ih2 _ _ _ _ _
   | exact ih3 _ _ _ _ _ _
   | exact counter_Valid.mono _ _ _
   | exact LeO.none _
   | refine LeO.ite ?_ ?_
   | refine LeO.bind ?_ (fun _ => ?_)
set_option maxHeartbeats 8000000 in
set_option maxRecDepth 100000 in
theorem counter_Join.calls (k : Nat) (a0_0 : Int) (A0_1 : Option Addr) (c0_1 : Nat) (l0_1 : List (S35)) (a1_0 : Int) (A1_1 : Option Addr) (c1_1 : Nat) (l1_1 : List (S35)) (r1 : Int) (r2 : List (S35)) (r3 : Int) (w : World) (hr0_1 : Kd.C k35 w A0_1 l0_1.length l0_1) (hc0_1 : l0_1.length ≤ c0_1) (hr1_1 : Kd.C k35 w A1_1 l1_1.length l1_1) (hc1_1 : l1_1.length ≤ c1_1) (h : counter_Join.f k a0_0 l0_1 a1_0 l1_1 = some (r1, r2, r3)) :
  Calls Try.prog 10 #[.agg #[.int .i64 a0_0, .slice A0_1 l0_1.length c0_1], .agg #[.int .i64 a1_0, .slice A1_1 l1_1.length c1_1]] w fun e w' => ∃ v1_ : Value, e = .returned (.tuple #[.agg #[.int .i64 r1, v1_], .int .i64 r3]) ∧ Kd.R k35 35 w' w.heap.size (fun _ => True) v1_ r2 ∧ Below w.heap.size w w' := by
 have hu24 := Try.underlying24
 have hu35 := Try.underlying35
 have HR0_1 := Aside0.mk hr0_1
 have HC0_1 := Aside0.mk hc0_1
 clear hr0_1 hc0_1
 have HR1_1 := Aside0.mk hr1_1
 have HC1_1 := Aside0.mk hc1_1
 clear hr1_1 hc1_1
 have HB := Aside0.mk (Below.refl w.heap.size w)
 have H : ((counter_Valid.f k a0_0 l0_1).bind fun t170 => (if t170 = true then ((counter_Valid.f k a1_0 l1_1).bind fun t171 => (counter_Join.j0 k (!t171) a0_0 l0_1 a1_0 l1_1)) else (counter_Join.j0 k true a0_0 l0_1 a1_0 l1_1))) = some (r1, r2, r3) := h
 clear h
 have HC3 := Aside0.mk H
 clear H
 go_enter Try.func10, Try.ntmps10
 go_upto_region 1 with (first | ((with_reducible refine gate_dst (N := 2) rfl ?_); refine box_event ?hg (N := 2) ?hd (cs := #[.int .i64 a0_0, .slice A0_1 l0_1.length c0_1]) (t := 24) ?hr ?_; (case hd => rfl); (case hg => rfl); (case hr => first | (go_simp; done) | (go_simp; rfl)); intro gb167 hg w4 hbox hb; have BK167 := Aside0.mk (hbox); have GW167 := Aside0.mk ((by rw [hg]; exact (below_size (zB HB)) : w.heap.size ≤ gb167)); have GE167 := Aside0.mk ((by rw [hg]; exact (below_size (zB HB)) : w.heap.size ≤ gb167)); replace HB := Aside0.mk (below_step (zB HB) hb); clear hb hbox hg) | ((with_reducible refine gate_dst (N := 3) rfl ?_); refine box_event ?hg (N := 3) ?hd (cs := #[.int .i64 a1_0, .slice A1_1 l1_1.length c1_1]) (t := 24) ?hr ?_; (case hd => rfl); (case hg => rfl); (case hr => first | (go_simp; done) | (go_simp; rfl)); intro gb168 hg w5 hbox hb; have BK168 := Aside0.mk (hbox); have GW168 := Aside0.mk ((by rw [hg]; exact (below_size (zB HB)) : w.heap.size ≤ gb168)); have GE168 := Aside0.mk ((by rw [hg]; exact (below_size (zB HB)) : w.heap.size ≤ gb168)); have NB167_168 := Aside0.mk ((by rw [hg]; exact Nat.ne_of_lt (zL BK167) : gb167 ≠ gb168)); have NB168_167 := Aside0.mk ((by rw [hg]; exact Nat.ne_of_gt (zL BK167) : gb168 ≠ gb167)); replace BK167 := Aside0.mk (zb BK167 hb); replace HB := Aside0.mk (below_step (zB HB) hb); clear hb hbox hg) | ((with_reducible refine gate_dst (N := 4) rfl ?_); refine box_event ?hg (N := 4) ?hd (cs := #[.int .i64 0, .slice none 0 0]) (t := 24) ?hr ?_; (case hd => rfl); (case hg => rfl); (case hr => first | (go_simp; done) | (go_simp; rfl)); intro gb169 hg w6 hbox hb; have BK169 := Aside0.mk (hbox); have GW169 := Aside0.mk ((by rw [hg]; exact (below_size (zB HB)) : w.heap.size ≤ gb169)); have GE169 := Aside0.mk ((by rw [hg]; exact (below_size (zB HB)) : w.heap.size ≤ gb169)); have NB167_169 := Aside0.mk ((by rw [hg]; exact Nat.ne_of_lt (zL BK167) : gb167 ≠ gb169)); have NB169_167 := Aside0.mk ((by rw [hg]; exact Nat.ne_of_gt (zL BK167) : gb169 ≠ gb167)); have NB168_169 := Aside0.mk ((by rw [hg]; exact Nat.ne_of_lt (zL BK168) : gb168 ≠ gb169)); have NB169_168 := Aside0.mk ((by rw [hg]; exact Nat.ne_of_gt (zL BK168) : gb169 ≠ gb168)); replace BK167 := Aside0.mk (zb BK167 hb); replace BK168 := Aside0.mk (zb BK168 hb); replace HB := Aside0.mk (below_step (zB HB) hb); clear hb hbox hg))
 (try simp only [Act.put, zs, zs0, zs1])
 go_cut [20] (fun v20 wc => ∃ (kq : Nat) (x20_2 : Bool), v20 = .bool x20_2 ∧ Aside0 (counter_Join.j0 kq x20_2 a0_0 l0_1 a1_0 l1_1 = some (r1, r2, r3)) ∧ Aside0 (kq ≤ k) ∧ Aside0 (wc.heap[gb167]? = some (.cells #[.int .i64 a0_0, (.slice A0_1 l0_1.length c0_1)] 24 (0, 0))) ∧ Aside0 (wc.heap[gb168]? = some (.cells #[.int .i64 a1_0, (.slice A1_1 l1_1.length c1_1)] 24 (0, 0))) ∧ Aside0 (wc.heap[gb169]? = some (.cells #[.int .i64 0, (.slice none 0 0)] 24 (0, 0))) ∧ Aside0 (Below w.heap.size w wc))
 case first =>
  have H := HC3.out
  clear HC3
  replace H := Option.bind_eq_some_iff.mp H
  obtain ⟨t170, A70, H⟩ := H
  replace H : (if t170 = true then ((counter_Valid.f k a1_0 l1_1).bind fun t171 => (counter_Join.j0 k (!t171) a0_0 l0_1 a1_0 l1_1)) else (counter_Join.j0 k true a0_0 l0_1 a1_0 l1_1)) = some (r1, r2, r3) := H
  have A7 := Aside0.mk A70
  clear A70
  by_cases c8 : t170 = true
  ·
   subst c8
   have H1 : ((counter_Valid.f k a1_0 l1_1).bind fun t171 => (counter_Join.j0 k (!t171) a0_0 l0_1 a1_0 l1_1)) = some (r1, r2, r3) := by rw [if_pos rfl] at H; exact H
   clear H
   have H := H1
   clear H1
   replace H := Option.bind_eq_some_iff.mp H
   obtain ⟨t171, A90, H⟩ := H
   replace H : (counter_Join.j0 k (!t171) a0_0 l0_1 a1_0 l1_1) = some (r1, r2, r3) := H
   have A9 := Aside0.mk A90
   clear A90
   have H' := Aside0.mk H
   clear H
   have hnb10 := NB167_168.out
   have hnc10 := NB168_167.out
   have hnb11 := NB167_169.out
   have hnc11 := NB169_167.out
   have hz12 := zc2 BK167
   go_wp2_with (first | ((with_reducible refine gate_callee (f := 13) rfl ?_); refine goesL_ (some 14) rfl rfl Try.func13 (by kernel_rfl) rfl #[.agg #[.int .i64 a0_0, .slice A0_1 l0_1.length c0_1]] rfl (zm) ?_; (with_reducible refine (counter_Valid.calls k a0_0 _ _ l0_1 true _ ?side1 ?side2 A7.out).mono ?_); (case side1 => exact zC ((Kd.C_below HR0_1.out HB.out))); (case side2 => exact HC0_1.out); rintro e w13 ⟨rfl, hb⟩; refine ⟨_, rfl, ?_⟩; replace BK167 := Aside0.mk (zb BK167 hb); replace BK168 := Aside0.mk (zb BK168 hb); replace BK169 := Aside0.mk (zb BK169 hb); replace HB := Aside0.mk (below_step (zB HB) hb); (try clear hb); (try clear hb2); (try clear hk); (try clear hi); have hnb14 := NB168_169.out; have hnc14 := NB169_168.out; have hz15 := zc2 BK168) | (go_at_call 13; (with_reducible refine (counter_Valid.calls k a1_0 _ _ l1_1 t171 _ ?side1 ?side2 A9.out).mono ?_); (case side1 => exact zC ((Kd.C_below HR1_1.out HB.out))); (case side2 => exact HC1_1.out); rintro e w16 ⟨rfl, hb⟩; replace BK167 := Aside0.mk (zb BK167 hb); replace BK168 := Aside0.mk (zb BK168 hb); replace BK169 := Aside0.mk (zb BK169 hb); replace HB := Aside0.mk (below_step (zB HB) hb); (try clear hb); (try clear hb2); (try clear hk); (try clear hi)))
   go_meet
   case rel => exact ⟨_, (!t171), (by first | rfl | (simp; done) | (simp [*]; done)), H', ⟨by first | omega | exact Nat.le_refl _⟩, ⟨zk BK167⟩, ⟨zk BK168⟩, ⟨zk BK169⟩, ⟨zB HB⟩⟩
  ·
   replace c8 := Bool.eq_false_iff.mpr c8
   subst c8
   have H1 : (counter_Join.j0 k true a0_0 l0_1 a1_0 l1_1) = some (r1, r2, r3) := by rw [if_neg (show ¬ (false = true) by decide)] at H; exact H
   clear H
   have H := H1
   clear H1
   have H' := Aside0.mk H
   clear H
   have hnb17 := NB167_168.out
   have hnc17 := NB168_167.out
   have hnb18 := NB167_169.out
   have hnc18 := NB169_167.out
   have hz19 := zc2 BK167
   go_wp2_with (first | ((with_reducible refine gate_callee (f := 13) rfl ?_); refine goesL_ (some 14) rfl rfl Try.func13 (by kernel_rfl) rfl #[.agg #[.int .i64 a0_0, .slice A0_1 l0_1.length c0_1]] rfl (zm) ?_; (with_reducible refine (counter_Valid.calls k a0_0 _ _ l0_1 false _ ?side1 ?side2 A7.out).mono ?_); (case side1 => exact zC ((Kd.C_below HR0_1.out HB.out))); (case side2 => exact HC0_1.out); rintro e w20 ⟨rfl, hb⟩; refine ⟨_, rfl, ?_⟩; replace BK167 := Aside0.mk (zb BK167 hb); replace BK168 := Aside0.mk (zb BK168 hb); replace BK169 := Aside0.mk (zb BK169 hb); replace HB := Aside0.mk (below_step (zB HB) hb); (try clear hb); (try clear hb2); (try clear hk); (try clear hi)))
   go_meet
   case rel => exact ⟨_, (true), (by first | rfl | (simp; done) | (simp [*]; done)), H', ⟨by first | omega | exact Nat.le_refl _⟩, ⟨zk BK167⟩, ⟨zk BK168⟩, ⟨zk BK169⟩, ⟨zB HB⟩⟩
 case rest =>
  clear HC3
  try clear c1
  try clear p2
  try clear c8
  try clear c10
  try clear c11
  try clear c13
  try clear c14
  try clear c17
  try clear c18
  try clear hz12
  try clear hz15
  try clear hz19
  obtain ⟨kq, x20_2, rfl, HA, HJ2, BK167, BK168, BK169, HB⟩ := hcut
  cases kq with
  | zero => exact absurd HA.out (by simp [counter_Join.j0])
  | succ kj2 =>
   have H := HA.out
   clear HA
   simp only [counter_Join.j0] at H
   by_cases c21 : x20_2 = true
   ·
    subst c21
    have H1 : (some (0, ([] : List (S35)), 1)) = some (r1, r2, r3) := by rw [if_pos rfl] at H; exact H
    clear H
    have H := H1
    clear H1
    simp only [Option.some.injEq, Prod.mk.injEq] at H
    obtain ⟨rfl, rfl, rfl⟩ := H
    have hnb22 := NB169_167.out
    have hnc22 := NB167_169.out
    have hnb23 := NB169_168.out
    have hnc23 := NB168_169.out
    have hz24 := zc2 BK169
    go_wp2
    refine bodyPost_ret (results_ct rfl _ _ gb169 24 #[.int .i64 0, .slice none 0 0] (0, 0) _ rfl (by (with_reducible repeat (first | refine blk_drewN ?_ _ | refine blk_drew ?_ | refine blk_alloc ?_ _)); refine blk_put (cs := #[.int .i64 0, .slice none 0 0]) ?_ 1 _ rfl; (with_reducible repeat (first | refine blk_drewN ?_ _ | refine blk_drew ?_ | refine blk_alloc ?_ _)); refine blk_put (cs := #[.int .i64 0, .slice none 0 0]) ?_ 0 _ rfl; (with_reducible repeat (first | refine blk_drewN ?_ _ | refine blk_drew ?_ | refine blk_alloc ?_ _)); exact BK169.out) Try.underlying24 rfl (by kernel_rfl)) rfl ?_
    exact ⟨_, by first | rfl | (simp [errW_none, errW_some] <;> rfl) | (simp [*, errW_none, errW_some] <;> rfl), by first | exact Kd.R_nil _ _ _ _ _ | exact Kd.N_nil _ _ _ _ _ | exact Kd.V_nil _ _ _ _ _ | exact Kd.Q_nil _ _ _ _ _ | exact Kd.S_nil _ _ _ _ _, zB HB⟩
   ·
    replace c21 := Bool.eq_false_iff.mpr c21
    subst c21
    have H1 : (counter_Join.l0 kj2 (l0_1.length : Int) false l0_1 (l0_1.length : Int) 0 a1_0 l1_1 (mx a0_0 a1_0) ([] : List (S35))) = some (r1, r2, r3) := by rw [if_neg (show ¬ (false = true) by decide)] at H; exact H
    clear H
    have H := H1
    clear H1
    obtain ⟨ji25, hji25⟩ : ∃ j_ : Int, (mx a0_0 a1_0) = j_ := ⟨_, rfl⟩
    replace H : (counter_Join.l0 kj2 (l0_1.length : Int) false l0_1 (l0_1.length : Int) 0 a1_0 l1_1 ji25 ([] : List (S35))) = some (r1, r2, r3) := by first | (rw [hji25] at H; exact H) | (simp only [hji25] at H ⊢; exact H)
    have hji25_ : (if a0_0 < a1_0 then a1_0 else a0_0) = ji25 := hji25
    have H' := Aside0.mk H
    clear H
    have hnb26 := NB167_168.out
    have hnc26 := NB168_167.out
    have hnb27 := NB167_169.out
    have hnc27 := NB169_167.out
    have hz28 := zc2 BK167
    have hnb29 := NB168_169.out
    have hnc29 := NB169_168.out
    have hz30 := zc2 BK168
    go_wp2_with (first | ((with_reducible refine gate_dst (N := 8) rfl ?_); refine box_event ?hg (N := 8) ?hd (cs := #[.int .i64 0, .slice none 0 0]) (t := 24) ?hr ?_; (case hd => rfl); (case hg => rfl); (case hr => first | (go_simp; done) | (go_simp; rfl)); intro gb172 hg w31 hbox hb; have BK172 := Aside0.mk (hbox); have GW172 := Aside0.mk ((by rw [hg]; exact (below_size (zB HB)) : w.heap.size ≤ gb172)); have GE172 := Aside0.mk ((by rw [hg]; exact (below_size (zB HB)) : w.heap.size ≤ gb172)); have NB167_172 := Aside0.mk ((by rw [hg]; exact Nat.ne_of_lt (zL BK167) : gb167 ≠ gb172)); have NB172_167 := Aside0.mk ((by rw [hg]; exact Nat.ne_of_gt (zL BK167) : gb172 ≠ gb167)); have NB168_172 := Aside0.mk ((by rw [hg]; exact Nat.ne_of_lt (zL BK168) : gb168 ≠ gb172)); have NB172_168 := Aside0.mk ((by rw [hg]; exact Nat.ne_of_gt (zL BK168) : gb172 ≠ gb168)); have NB169_172 := Aside0.mk ((by rw [hg]; exact Nat.ne_of_lt (zL BK169) : gb169 ≠ gb172)); have NB172_169 := Aside0.mk ((by rw [hg]; exact Nat.ne_of_gt (zL BK169) : gb172 ≠ gb169)); replace BK167 := Aside0.mk (zb BK167 hb); replace BK168 := Aside0.mk (zb BK168 hb); replace BK169 := Aside0.mk (zb BK169 hb); replace HB := Aside0.mk (below_step (zB HB) hb); clear hb hbox hg; have hnb32 := NB172_167.out; have hnc32 := NB167_172.out; have hnb33 := NB172_168.out; have hnc33 := NB168_172.out; have hnb34 := NB172_169.out; have hnc34 := NB169_172.out; have hz35 := zc2 BK172; have hz36 := zc2 BK167))
    go_loopg [7, 34] kj2 (fun kq v7 v34 w' => ∃ (x7_2 : Bool) (x34_2 : Int) (x173001_2 : List (S35)) (u173001 : Value), v7 = .bool x7_2 ∧ v34 = .int .i64 x34_2 ∧ Aside0 (counter_Join.l0 kq (l0_1.length : Int) x7_2 l0_1 (l0_1.length : Int) x34_2 a1_0 l1_1 ji25 x173001_2 = some (r1, r2, r3)) ∧ Aside0 (kq ≤ kj2) ∧ Aside0 (Kd.R k35 35 w' w.heap.size (fun _ => True) u173001 x173001_2) ∧ Aside0 (w'.heap[gb167]? = some (.cells #[.int .i64 a0_0, (.slice A0_1 l0_1.length c0_1)] 24 (0, 0))) ∧ Aside0 (w'.heap[gb168]? = some (.cells #[.int .i64 a1_0, (.slice A1_1 l1_1.length c1_1)] 24 (0, 0))) ∧ Aside0 (w'.heap[gb169]? = some (.cells #[.int .i64 0, (.slice none 0 0)] 24 (0, 0))) ∧ Aside0 (w'.heap[gb172]? = some (.cells #[.int .i64 ji25, u173001] 24 (0, 0))) ∧ Aside0 (Below w.heap.size w w'))
    case atStart => exact ⟨(false), (0), (([] : List (S35))), (.slice none 0 0), (by first | rfl | (simp; done) | (simp [*]; done)), (by first | rfl | (simp; done) | (simp [*]; done)), H', ⟨Nat.le_refl _⟩, ⟨by first | exact Kd.R_nil _ _ _ _ _ | exact Kd.N_nil _ _ _ _ _ | exact Kd.V_nil _ _ _ _ _ | exact Kd.Q_nil _ _ _ _ _ | exact Kd.S_nil _ _ _ _ _⟩, ⟨zK BK167⟩, ⟨zK BK168⟩, ⟨zK BK169⟩, ⟨by (with_reducible repeat (first | refine blk_drewN ?_ _ | refine blk_drew ?_ | refine blk_alloc ?_ _)); refine blk_put (cs := #[.int .i64 ji25, .slice none 0 0]) ?_ 1 _ rfl; (with_reducible repeat (first | refine blk_drewN ?_ _ | refine blk_drew ?_ | refine blk_alloc ?_ _)); refine blk_put (cs := #[.int .i64 0, .slice none 0 0]) ?_ 0 _ rfl; (with_reducible repeat (first | refine blk_drewN ?_ _ | refine blk_drew ?_ | refine blk_alloc ?_ _)); exact BK172.out⟩, ⟨zB HB⟩⟩
    case round =>
     clear H'
     try clear c1
     try clear c2
     try clear p2
     try clear c3
     try clear c8
     try clear c10
     try clear c11
     try clear c13
     try clear c14
     try clear c17
     try clear c18
     try clear c21
     try clear c22
     try clear c23
     try clear c26
     try clear c27
     try clear c29
     try clear c32
     try clear c33
     try clear c34
     try clear hz12
     try clear hz15
     try clear hz19
     try clear hz24
     try clear hz28
     try clear hz30
     try clear hz35
     try clear hz36
     try clear p2
     obtain ⟨x7_2, x34_2, x173001_2, u173001, rfl, rfl, HA, HK2, HO_173001, BK167, BK168, BK169, BK172, HB⟩ := hrel
     cases gk with
     | zero => exact absurd HA.out (by simp [counter_Join.l0])
     | succ k2 =>
      have H := HA.out
      clear HA
      simp only [counter_Join.l0] at H
      by_cases c37 : x34_2 < (l0_1.length : Int)
      ·
       rw [if_pos c37] at H
       have c37b0 : decide (x34_2 < (l0_1.length : Int)) = true := decide_eq_true c37
       clear c37
       by_cases c38 : 0 ≤ x34_2
       ·
        rw [if_pos c38] at H
        have c38b0 : decide (0 ≤ x34_2) = true := decide_eq_true c38
        clear c38
        by_cases c39 : x34_2 < (l0_1.length : Int)
        ·
         rw [if_pos c39] at H
         have c39b0 : decide (x34_2 < (l0_1.length : Int)) = true := decide_eq_true c39
         clear c39
         have HC40 := Aside0.mk H
         clear H
         have p173 : 0 ≤ (x34_2 : Int) := of_decide_eq_true (by first | (with_reducible assumption) | assumption)
         have q173 : x34_2 < (l0_1.length : Int) := of_decide_eq_true (by first | (with_reducible assumption) | assumption)
         obtain ⟨ad173, e173, hx173_0, hx173_1, hx173_2, hx173_3⟩ := at_T35 HR0_1.out x34_2 p173 q173
         cases e173
         replace hx173_0 := (HB.out.cell (World.block_lt_of_cell? w _ hx173_0)).trans hx173_0
         replace hx173_1 := (HB.out.cell (World.block_lt_of_cell? w _ hx173_1)).trans hx173_1
         replace hx173_2 := (HB.out.cell (World.block_lt_of_cell? w _ hx173_2)).trans hx173_2
         replace hx173_3 := (HB.out.cell (World.block_lt_of_cell? w _ hx173_3)).trans hx173_3
         replace p173 := eq_true p173
         replace q173 := eq_true q173
         go_upto_if 40 with (first | ((with_reducible refine gate_dst (N := 10) rfl ?_); refine box_event ?hg (N := 10) ?hd (cs := #[.int .i64 0, .int .i64 0, .int .i64 0, .int .i64 0]) (t := 35) ?hr ?_; (case hd => rfl); (case hg => rfl); (case hr => first | (go_simp; done) | (go_simp; rfl)); intro gb174 hg w41 hbox hb; have BK174 := Aside0.mk (hbox); have GW174 := Aside0.mk ((by rw [hg]; exact (below_size (zB HB)) : w.heap.size ≤ gb174)); have GE174 := Aside0.mk ((by rw [hg]; exact (below_size (zB HB)) : w.heap.size ≤ gb174)); have NB167_174 := Aside0.mk ((by rw [hg]; exact Nat.ne_of_lt (zL BK167) : gb167 ≠ gb174)); have NB174_167 := Aside0.mk ((by rw [hg]; exact Nat.ne_of_gt (zL BK167) : gb174 ≠ gb167)); have NB168_174 := Aside0.mk ((by rw [hg]; exact Nat.ne_of_lt (zL BK168) : gb168 ≠ gb174)); have NB174_168 := Aside0.mk ((by rw [hg]; exact Nat.ne_of_gt (zL BK168) : gb174 ≠ gb168)); have NB169_174 := Aside0.mk ((by rw [hg]; exact Nat.ne_of_lt (zL BK169) : gb169 ≠ gb174)); have NB174_169 := Aside0.mk ((by rw [hg]; exact Nat.ne_of_gt (zL BK169) : gb174 ≠ gb169)); have NB172_174 := Aside0.mk ((by rw [hg]; exact Nat.ne_of_lt (zL BK172) : gb172 ≠ gb174)); have NB174_172 := Aside0.mk ((by rw [hg]; exact Nat.ne_of_gt (zL BK172) : gb174 ≠ gb172)); replace HO_173001 := Aside0.mk (Kd.R_below (Kd.R_elderB (zR HO_173001) gb174 (Nat.le_of_eq hg.symm)) hb); replace BK167 := Aside0.mk (zb BK167 hb); replace BK168 := Aside0.mk (zb BK168 hb); replace BK169 := Aside0.mk (zb BK169 hb); replace BK172 := Aside0.mk (zb BK172 hb); replace HB := Aside0.mk (below_step (zB HB) hb); clear hb hbox hg; have hnb42 := NB174_167.out; have hnc42 := NB167_174.out; have hnb43 := NB174_168.out; have hnc43 := NB168_174.out; have hnb44 := NB174_169.out; have hnc44 := NB169_174.out; have hnb45 := NB174_172.out; have hnc45 := NB172_174.out; have hz46 := zc4 BK174) | ((with_reducible refine gate_store (t := 35) (p := 10) rfl ?_); refine store_event (t := 35) (p := 10) (v := ?vo_w47) (w1 := ((((w41.setCell ⟨gb174, 0, none⟩ (.int .i64 ((rd_T35 l0_1 x34_2).f0))).setCell ⟨gb174, 1, none⟩ (.int .i64 ((rd_T35 l0_1 x34_2).f1))).setCell ⟨gb174, 2, none⟩ (.int .i64 ((rd_T35 l0_1 x34_2).f2))).setCell ⟨gb174, 3, none⟩ (.int .i64 ((rd_T35 l0_1 x34_2).f3)))) ?hg ?ho ?hn ?hr ?_; (case ho => rfl); (case hg => rfl); (case hn => rfl); (case hr => first | (go_simp; done) | (go_simp; rfl)); intro w47 hw; have n0_ : Aside0 (Kd.R k35 35 w47 w.heap.size (fun k_ => k_ ≠ gb174) u173001 x173001_2) := ⟨(by rw [hw]; exact (by (with_reducible repeat (first | apply Kd.R_alloc | apply Kd.R_drewN | apply Kd.R_drew)); exact Kd.R_mono (zRf4 (g := gb174) (Kd.R_mono HO_173001.out (fun k_ hk => (⟨hk, hk.2⟩ : _ ∧ k_ ≠ gb174)))) (fun _ hk => hk.1.2)))⟩; have n1_ : Aside0 (w47.heap[gb167]? = some (.cells #[.int .i64 a0_0, .slice (some ad173) l0_1.length c0_1] 24 (0, 0))) := ⟨(by rw [hw]; exact (zK BK167))⟩; have n2_ : Aside0 (w47.heap[gb168]? = some (.cells #[.int .i64 a1_0, .slice A1_1 l1_1.length c1_1] 24 (0, 0))) := ⟨(by rw [hw]; exact (zK BK168))⟩; have n3_ : Aside0 (w47.heap[gb169]? = some (.cells #[.int .i64 0, .slice none 0 0] 24 (0, 0))) := ⟨(by rw [hw]; exact (zK BK169))⟩; have n4_ : Aside0 (w47.heap[gb172]? = some (.cells #[.int .i64 ji25, u173001] 24 (0, 0))) := ⟨(by rw [hw]; exact (zK BK172))⟩; have n5_ : Aside0 (w47.heap[gb174]? = some (.cells #[.int .i64 ((rd_T35 l0_1 x34_2).f0), .int .i64 ((rd_T35 l0_1 x34_2).f1), .int .i64 ((rd_T35 l0_1 x34_2).f2), .int .i64 ((rd_T35 l0_1 x34_2).f3)] 35 (0, 0))) := ⟨(by rw [hw]; exact (by (with_reducible repeat (first | refine blk_drewN ?_ _ | refine blk_drew ?_ | refine blk_alloc ?_ _)); refine blk_put (cs := #[.int .i64 ((rd_T35 l0_1 x34_2).f0), .int .i64 ((rd_T35 l0_1 x34_2).f1), .int .i64 ((rd_T35 l0_1 x34_2).f2), .int .i64 0]) ?_ 3 _ rfl; (with_reducible repeat (first | refine blk_drewN ?_ _ | refine blk_drew ?_ | refine blk_alloc ?_ _)); refine blk_put (cs := #[.int .i64 ((rd_T35 l0_1 x34_2).f0), .int .i64 ((rd_T35 l0_1 x34_2).f1), .int .i64 0, .int .i64 0]) ?_ 2 _ rfl; (with_reducible repeat (first | refine blk_drewN ?_ _ | refine blk_drew ?_ | refine blk_alloc ?_ _)); refine blk_put (cs := #[.int .i64 ((rd_T35 l0_1 x34_2).f0), .int .i64 0, .int .i64 0, .int .i64 0]) ?_ 1 _ rfl; (with_reducible repeat (first | refine blk_drewN ?_ _ | refine blk_drew ?_ | refine blk_alloc ?_ _)); refine blk_put (cs := #[.int .i64 0, .int .i64 0, .int .i64 0, .int .i64 0]) ?_ 0 _ rfl; (with_reducible repeat (first | refine blk_drewN ?_ _ | refine blk_drew ?_ | refine blk_alloc ?_ _)); exact BK174.out))⟩; have n6_ : Aside0 (Below w.heap.size w w47) := ⟨(by rw [hw]; exact (zB HB))⟩; clear hw; clear HO_173001; clear BK167; clear BK168; clear BK169; clear BK172; clear BK174; clear HB; have HO_173001 := n0_; have BK167 := n1_; have BK168 := n2_; have BK169 := n3_; have BK172 := n4_; have BK174 := n5_; have HB := n6_; clear n0_ n1_ n2_ n3_ n4_ n5_ n6_; have hz48 := zc4 BK174))
         (try simp only [Act.put, zs, zs0, zs1])
         have H := HC40.out
         clear HC40
         by_cases c49 : ((rd_T35 l0_1 x34_2).f0) = 2
         ·
          rw [if_pos c49] at H
          have c49b0 : (((rd_T35 l0_1 x34_2).f0) == 2) = true := beq_iff_eq.mpr c49
          have c49b1 : (((rd_T35 l0_1 x34_2).f0) != 2) = false := bne_eq_false_iff_eq.mpr c49
          clear c49
          (first | rw [c49b0] | (simp only [i64_w, i32_w]; rw [c49b0]) | skip)
          (try rw [c49b1])
          by_cases c50 : x173001_2.length < 4398046511104
          ·
           rw [if_pos c50] at H
           have LMc50 := Aside0.mk c50
           clear c50
           obtain ⟨y175, hy175⟩ : ∃ y_ : List (S35), y_ = (x173001_2 ++ [(⟨0, 0, (l0_1.length : Int), 0⟩ : S35)]) := ⟨_, rfl⟩
           replace H : (counter_Join.l0 k2 (l0_1.length : Int) true l0_1 (l0_1.length : Int) (wrap64 (x34_2 + 1)) a1_0 l1_1 ji25 y175) = some (r1, r2, r3) := by first | (rw [hy175]; with_reducible exact H) | (have H2_ := (Option.bind_some _ _).symm.trans H; rw [hy175]; with_reducible exact H2_) | (have H2_ := (Option.bind_some _ _).symm.trans H; with_reducible exact H2_) | with_reducible exact H | (rw [hy175]; exact H) | exact H
           have Ny175 := Aside0.mk hy175
           clear hy175
           have H' := Aside0.mk H
           clear H
           have hnb51 := NB174_167.out
           have hnc51 := NB167_174.out
           have hnb52 := NB174_168.out
           have hnc52 := NB168_174.out
           have hnb53 := NB174_169.out
           have hnc53 := NB169_174.out
           have hnb54 := NB174_172.out
           have hnc54 := NB172_174.out
           have hz55 := zc4 BK174
           have hnb56 := NB172_167.out
           have hnc56 := NB167_172.out
           have hnb57 := NB172_168.out
           have hnc57 := NB168_172.out
           have hnb58 := NB172_169.out
           have hnc58 := NB169_172.out
           have hz59 := zc2 BK172
           go_wp2_with (first | ((with_reducible refine gate_builtin (b := .append) (xs := #[.tmp 44, .tmp 46]) rfl ?_); at_builtin; refine Kd.R_append k35 (w0 := w) w.heap.size rfl (.tmp 44) (.tmp 46) 22 35 (.agg #[(.int .i64 0), (.int .i64 0), (.int .i64 0), (.int .i64 0)]) 32 rfl Try.underlying22 info35 rfl (by decide) (by omega) u173001 x173001_2 (⟨0, 0, (l0_1.length : Int), 0⟩ : S35) [.int .i64 0, .int .i64 0, .int .i64 (l0_1.length : Int), .int .i64 0] (fun k_ => k_ ≠ gb174) (fun _ => False) rfl (by first | (go_simp; done) | (go_simp; rfl)) ?aP (fun _ hk => hk.elim) ?aF ?aO ?aB ?aS ?aL ?_; (case aP => exact k35_mkM _ _ _ (⟨0, 0, (l0_1.length : Int), 0⟩ : S35)); (case aB => exact (zB HB)); (case aF => exact (fun k_ hk => Kd.freshB (g := gb174) (o := .cells #[.int .i64 0, .int .i64 0, .int .i64 (l0_1.length : Int), .int .i64 0] 35 (0, 0)) (by (with_reducible repeat (first | refine blk_drewN ?_ _ | refine blk_drew ?_ | refine blk_alloc ?_ _)); refine blk_put (cs := #[.int .i64 0, .int .i64 0, .int .i64 (l0_1.length : Int), .int .i64 ((rd_T35 l0_1 x34_2).f3)]) ?_ 3 _ rfl; (with_reducible repeat (first | refine blk_drewN ?_ _ | refine blk_drew ?_ | refine blk_alloc ?_ _)); refine blk_put (cs := #[.int .i64 0, .int .i64 0, .int .i64 ((rd_T35 l0_1 x34_2).f2), .int .i64 ((rd_T35 l0_1 x34_2).f3)]) ?_ 2 _ rfl; (with_reducible repeat (first | refine blk_drewN ?_ _ | refine blk_drew ?_ | refine blk_alloc ?_ _)); refine blk_put (cs := #[.int .i64 0, .int .i64 ((rd_T35 l0_1 x34_2).f1), .int .i64 ((rd_T35 l0_1 x34_2).f2), .int .i64 ((rd_T35 l0_1 x34_2).f3)]) ?_ 1 _ rfl; (with_reducible repeat (first | refine blk_drewN ?_ _ | refine blk_drew ?_ | refine blk_alloc ?_ _)); refine blk_put (cs := #[.int .i64 ((rd_T35 l0_1 x34_2).f0), .int .i64 ((rd_T35 l0_1 x34_2).f1), .int .i64 ((rd_T35 l0_1 x34_2).f2), .int .i64 ((rd_T35 l0_1 x34_2).f3)]) ?_ 0 _ rfl; (with_reducible repeat (first | refine blk_drewN ?_ _ | refine blk_drew ?_ | refine blk_alloc ?_ _)); exact BK174.out) k_ hk)); (case aO => exact (by (with_reducible repeat (first | apply Kd.R_alloc | apply Kd.R_drewN | apply Kd.R_drew)); exact Kd.R_mono (zRf4 (g := gb174) (Kd.R_mono HO_173001.out (fun k_ hk => (⟨hk, hk⟩ : _ ∧ k_ ≠ gb174)))) (fun _ hk => hk.1))); (case aS => exact (below_size (zB HB))); (case aL => have := LMc50.out; omega); intro v176 w60 ho hb hg hat; rw [← Ny175.out] at ho; have n0_ := Aside0.mk (blk_grown (g := gb167) (o := .cells #[.int .i64 a0_0, .slice (some ad173) l0_1.length c0_1] 24 (0, 0)) (zK BK167) hg (Kd.R_ne HO_173001.out BK167.out (by decide))); have n1_ := Aside0.mk (blk_grown (g := gb168) (o := .cells #[.int .i64 a1_0, .slice A1_1 l1_1.length c1_1] 24 (0, 0)) (zK BK168) hg (Kd.R_ne HO_173001.out BK168.out (by decide))); have n2_ := Aside0.mk (blk_grown (g := gb169) (o := .cells #[.int .i64 0, .slice none 0 0] 24 (0, 0)) (zK BK169) hg (Kd.R_ne HO_173001.out BK169.out (by decide))); have n3_ := Aside0.mk (blk_grown (g := gb172) (o := .cells #[.int .i64 ji25, u173001] 24 (0, 0)) (zK BK172) hg (Kd.R_ne HO_173001.out BK172.out (by decide))); have n4_ := Aside0.mk (blk_grown (g := gb174) (o := .cells #[.int .i64 0, .int .i64 0, .int .i64 (l0_1.length : Int), .int .i64 0] 35 (0, 0)) (by (with_reducible repeat (first | refine blk_drewN ?_ _ | refine blk_drew ?_ | refine blk_alloc ?_ _)); refine blk_put (cs := #[.int .i64 0, .int .i64 0, .int .i64 (l0_1.length : Int), .int .i64 ((rd_T35 l0_1 x34_2).f3)]) ?_ 3 _ rfl; (with_reducible repeat (first | refine blk_drewN ?_ _ | refine blk_drew ?_ | refine blk_alloc ?_ _)); refine blk_put (cs := #[.int .i64 0, .int .i64 0, .int .i64 ((rd_T35 l0_1 x34_2).f2), .int .i64 ((rd_T35 l0_1 x34_2).f3)]) ?_ 2 _ rfl; (with_reducible repeat (first | refine blk_drewN ?_ _ | refine blk_drew ?_ | refine blk_alloc ?_ _)); refine blk_put (cs := #[.int .i64 0, .int .i64 ((rd_T35 l0_1 x34_2).f1), .int .i64 ((rd_T35 l0_1 x34_2).f2), .int .i64 ((rd_T35 l0_1 x34_2).f3)]) ?_ 1 _ rfl; (with_reducible repeat (first | refine blk_drewN ?_ _ | refine blk_drew ?_ | refine blk_alloc ?_ _)); refine blk_put (cs := #[.int .i64 ((rd_T35 l0_1 x34_2).f0), .int .i64 ((rd_T35 l0_1 x34_2).f1), .int .i64 ((rd_T35 l0_1 x34_2).f2), .int .i64 ((rd_T35 l0_1 x34_2).f3)]) ?_ 0 _ rfl; (with_reducible repeat (first | refine blk_drewN ?_ _ | refine blk_drew ?_ | refine blk_alloc ?_ _)); exact BK174.out) hg (Kd.R_away HO_173001.out (fun _ hk => hk))); have n5_ := Aside0.mk (hb); have n6_ := Aside0.mk (ho); clear BK167; clear BK168; clear BK169; clear BK172; clear BK174; clear HB; clear HO_173001; have BK167 := n0_; have BK168 := n1_; have BK169 := n2_; have BK172 := n3_; have BK174 := n4_; have HB := n5_; have HO177 := n6_; clear n0_ n1_ n2_ n3_ n4_ n5_ n6_; clear ho hb hg hat; obtain ⟨Ao61, co61, eo61⟩ := Kd.R_slice HO177.out; subst eo61; have hz62 := zc2 BK172))
           go_roundg k2
           case measure => have := HJ2.out; have := HK2.out; omega
           case rel => exact ⟨(true), (wrap64 (x34_2 + 1)), (y175), (.slice Ao61 y175.length co61), (by first | rfl | (simp; done) | (simp [*]; done)), (by first | rfl | (simp; done) | (simp [*]; done)), H', ⟨by have := HJ2.out; have := HK2.out; omega⟩, ⟨by (with_reducible repeat (first | apply Kd.R_alloc | apply Kd.R_drewN | apply Kd.R_drew)); exact Kd.R_mono (Kd.R_far (p := ⟨gb172, 1, none⟩) (Kd.R_types HO177.out BK172.out (by decide)) (fun _ hk => hk.2) (.slice Ao61 y175.length co61)) (fun _ hk => trivial)⟩, ⟨zK BK167⟩, ⟨zK BK168⟩, ⟨zK BK169⟩, ⟨by (with_reducible repeat (first | refine blk_drewN ?_ _ | refine blk_drew ?_ | refine blk_alloc ?_ _)); refine blk_put (cs := #[.int .i64 ji25, u173001]) ?_ 1 _ rfl; (with_reducible repeat (first | refine blk_drewN ?_ _ | refine blk_drew ?_ | refine blk_alloc ?_ _)); exact BK172.out⟩, ⟨zB HB⟩⟩
          ·
           rw [if_neg c50] at H
           exact absurd H (by simp)
         ·
          rw [if_neg c49] at H
          have c49b0 : (((rd_T35 l0_1 x34_2).f0) == 2) = false := beq_eq_false_iff_ne.mpr c49
          have c49b1 : (((rd_T35 l0_1 x34_2).f0) != 2) = true := bne_iff_ne.mpr c49
          (first | rw [c49b0] | (simp only [i64_w, i32_w]; rw [c49b0]) | skip)
          (try rw [c49b1])
          by_cases c63 : x173001_2.length < 4398046511104
          ·
           rw [if_pos c63] at H
           have LMc63 := Aside0.mk c63
           clear c63
           obtain ⟨y178, hy178⟩ : ∃ y_ : List (S35), y_ = (x173001_2 ++ [(⟨(rd_T35 l0_1 x34_2).f0, (rd_T35 l0_1 x34_2).f1, (rd_T35 l0_1 x34_2).f2, (rd_T35 l0_1 x34_2).f3⟩ : S35)]) := ⟨_, rfl⟩
           replace H : (counter_Join.l0 k2 (l0_1.length : Int) x7_2 l0_1 (l0_1.length : Int) (wrap64 (x34_2 + 1)) a1_0 l1_1 ji25 y178) = some (r1, r2, r3) := by first | (rw [hy178]; with_reducible exact H) | (have H2_ := (Option.bind_some _ _).symm.trans H; rw [hy178]; with_reducible exact H2_) | (have H2_ := (Option.bind_some _ _).symm.trans H; with_reducible exact H2_) | with_reducible exact H | (rw [hy178]; exact H) | exact H
           have Ny178 := Aside0.mk hy178
           clear hy178
           have H' := Aside0.mk H
           clear H
           have hnb64 := NB172_167.out
           have hnc64 := NB167_172.out
           have hnb65 := NB172_168.out
           have hnc65 := NB168_172.out
           have hnb66 := NB172_169.out
           have hnc66 := NB169_172.out
           have hnb67 := NB172_174.out
           have hnc67 := NB174_172.out
           have hz68 := zc2 BK172
           have hnb69 := NB174_167.out
           have hnc69 := NB167_174.out
           have hnb70 := NB174_168.out
           have hnc70 := NB168_174.out
           have hnb71 := NB174_169.out
           have hnc71 := NB169_174.out
           have hz72 := zc4 BK174
           go_wp2_with (first | ((with_reducible refine gate_builtin (b := .append) (xs := #[.tmp 44, .tmp 46]) rfl ?_); at_builtin; refine Kd.R_append k35 (w0 := w) w.heap.size rfl (.tmp 44) (.tmp 46) 22 35 (.agg #[(.int .i64 0), (.int .i64 0), (.int .i64 0), (.int .i64 0)]) 32 rfl Try.underlying22 info35 rfl (by decide) (by omega) u173001 x173001_2 (⟨(rd_T35 l0_1 x34_2).f0, (rd_T35 l0_1 x34_2).f1, (rd_T35 l0_1 x34_2).f2, (rd_T35 l0_1 x34_2).f3⟩ : S35) [.int .i64 ((rd_T35 l0_1 x34_2).f0), .int .i64 ((rd_T35 l0_1 x34_2).f1), .int .i64 ((rd_T35 l0_1 x34_2).f2), .int .i64 ((rd_T35 l0_1 x34_2).f3)] (fun k_ => k_ ≠ gb174) (fun _ => False) rfl rfl ?aP (fun _ hk => hk.elim) ?aF ?aO ?aB ?aS ?aL ?_; (case aP => exact k35_mkM _ _ _ (⟨(rd_T35 l0_1 x34_2).f0, (rd_T35 l0_1 x34_2).f1, (rd_T35 l0_1 x34_2).f2, (rd_T35 l0_1 x34_2).f3⟩ : S35)); (case aB => exact (zB HB)); (case aF => exact (fun k_ hk => Kd.freshB (g := gb174) (o := .cells #[.int .i64 ((rd_T35 l0_1 x34_2).f0), .int .i64 ((rd_T35 l0_1 x34_2).f1), .int .i64 ((rd_T35 l0_1 x34_2).f2), .int .i64 ((rd_T35 l0_1 x34_2).f3)] 35 (0, 0)) (zk BK174) k_ hk)); (case aO => exact (zR HO_173001)); (case aS => exact (below_size (zB HB))); (case aL => have := LMc63.out; omega); intro v179 w73 ho hb hg hat; rw [← Ny178.out] at ho; have n0_ := Aside0.mk (blk_grown (g := gb167) (o := .cells #[.int .i64 a0_0, .slice (some ad173) l0_1.length c0_1] 24 (0, 0)) (zk BK167) hg (Kd.R_ne HO_173001.out BK167.out (by decide))); have n1_ := Aside0.mk (blk_grown (g := gb168) (o := .cells #[.int .i64 a1_0, .slice A1_1 l1_1.length c1_1] 24 (0, 0)) (zk BK168) hg (Kd.R_ne HO_173001.out BK168.out (by decide))); have n2_ := Aside0.mk (blk_grown (g := gb169) (o := .cells #[.int .i64 0, .slice none 0 0] 24 (0, 0)) (zk BK169) hg (Kd.R_ne HO_173001.out BK169.out (by decide))); have n3_ := Aside0.mk (blk_grown (g := gb172) (o := .cells #[.int .i64 ji25, u173001] 24 (0, 0)) (zk BK172) hg (Kd.R_ne HO_173001.out BK172.out (by decide))); have n4_ := Aside0.mk (blk_grown (g := gb174) (o := .cells #[.int .i64 ((rd_T35 l0_1 x34_2).f0), .int .i64 ((rd_T35 l0_1 x34_2).f1), .int .i64 ((rd_T35 l0_1 x34_2).f2), .int .i64 ((rd_T35 l0_1 x34_2).f3)] 35 (0, 0)) (zk BK174) hg (Kd.R_away HO_173001.out (fun _ hk => hk))); have n5_ := Aside0.mk (hb); have n6_ := Aside0.mk (ho); clear BK167; clear BK168; clear BK169; clear BK172; clear BK174; clear HB; clear HO_173001; have BK167 := n0_; have BK168 := n1_; have BK169 := n2_; have BK172 := n3_; have BK174 := n4_; have HB := n5_; have HO180 := n6_; clear n0_ n1_ n2_ n3_ n4_ n5_ n6_; clear ho hb hg hat; obtain ⟨Ao74, co74, eo74⟩ := Kd.R_slice HO180.out; subst eo74; have hz75 := zc2 BK172))
           go_roundg k2
           case measure => have := HJ2.out; have := HK2.out; omega
           case rel => exact ⟨(x7_2), (wrap64 (x34_2 + 1)), (y178), (.slice Ao74 y178.length co74), (by first | rfl | (simp; done) | (simp [*]; done)), (by first | rfl | (simp; done) | (simp [*]; done)), H', ⟨by have := HJ2.out; have := HK2.out; omega⟩, ⟨by (with_reducible repeat (first | apply Kd.R_alloc | apply Kd.R_drewN | apply Kd.R_drew)); exact Kd.R_mono (Kd.R_far (p := ⟨gb172, 1, none⟩) (Kd.R_types HO180.out BK172.out (by decide)) (fun _ hk => hk.2) (.slice Ao74 y178.length co74)) (fun _ hk => trivial)⟩, ⟨zK BK167⟩, ⟨zK BK168⟩, ⟨zK BK169⟩, ⟨by (with_reducible repeat (first | refine blk_drewN ?_ _ | refine blk_drew ?_ | refine blk_alloc ?_ _)); refine blk_put (cs := #[.int .i64 ji25, u173001]) ?_ 1 _ rfl; (with_reducible repeat (first | refine blk_drewN ?_ _ | refine blk_drew ?_ | refine blk_alloc ?_ _)); exact BK172.out⟩, ⟨zB HB⟩⟩
          ·
           rw [if_neg c63] at H
           exact absurd H (by simp)
        ·
         rw [if_neg c39] at H
         exact absurd H (by simp)
       ·
        rw [if_neg c38] at H
        exact absurd H (by simp)
      ·
       rw [if_neg c37] at H
       have c37b0 : decide (x34_2 < (l0_1.length : Int)) = false := decide_eq_false c37
       clear c37
       have HC76 := Aside0.mk H
       clear H
       go_upto_if 50 with (fail)
       go_cut [6] (fun v6 wc => ∃ (kq : Nat) (x6_75 : Int) (x173001_75 : List (S35)) (u173001 : Value), v6 = .int .i64 x6_75 ∧ Aside0 (counter_Join.j2 kq x6_75 a1_0 l1_1 ji25 x173001_75 = some (r1, r2, r3)) ∧ Aside0 (kq ≤ k2) ∧ Aside0 (Kd.R k35 35 wc w.heap.size (fun _ => True) u173001 x173001_75) ∧ Aside0 (wc.heap[gb167]? = some (.cells #[.int .i64 a0_0, (.slice A0_1 l0_1.length c0_1)] 24 (0, 0))) ∧ Aside0 (wc.heap[gb168]? = some (.cells #[.int .i64 a1_0, (.slice A1_1 l1_1.length c1_1)] 24 (0, 0))) ∧ Aside0 (wc.heap[gb169]? = some (.cells #[.int .i64 0, (.slice none 0 0)] 24 (0, 0))) ∧ Aside0 (wc.heap[gb172]? = some (.cells #[.int .i64 ji25, u173001] 24 (0, 0))) ∧ Aside0 (Below w.heap.size w wc))
       case first =>
        have H := HC76.out
        clear HC76
        by_cases c77 : x7_2 = true
        ·
         subst c77
         have H1 : (if x173001_2.length < 4398046511104 then (counter_Join.j2 k2 (wrap64 ((l0_1.length : Int) + 1)) a1_0 l1_1 ji25 (x173001_2 ++ [(⟨1, 0, wrap64 ((l0_1.length : Int) + 1), wrap64 ((l0_1.length : Int) + 1)⟩ : S35)])) else (none)) = some (r1, r2, r3) := by rw [if_pos rfl] at H; exact H
         clear H
         have H := H1
         clear H1
         by_cases c78 : x173001_2.length < 4398046511104
         ·
          rw [if_pos c78] at H
          have LMc78 := Aside0.mk c78
          clear c78
          obtain ⟨y181, hy181⟩ : ∃ y_ : List (S35), y_ = (x173001_2 ++ [(⟨1, 0, wrap64 ((l0_1.length : Int) + 1), wrap64 ((l0_1.length : Int) + 1)⟩ : S35)]) := ⟨_, rfl⟩
          replace H : (counter_Join.j2 k2 (wrap64 ((l0_1.length : Int) + 1)) a1_0 l1_1 ji25 y181) = some (r1, r2, r3) := by first | (rw [hy181]; with_reducible exact H) | (have H2_ := (Option.bind_some _ _).symm.trans H; rw [hy181]; with_reducible exact H2_) | (have H2_ := (Option.bind_some _ _).symm.trans H; with_reducible exact H2_) | with_reducible exact H | (rw [hy181]; exact H) | exact H
          have Ny181 := Aside0.mk hy181
          clear hy181
          have H' := Aside0.mk H
          clear H
          have hnb79 := NB172_167.out
          have hnc79 := NB167_172.out
          have hnb80 := NB172_168.out
          have hnc80 := NB168_172.out
          have hnb81 := NB172_169.out
          have hnc81 := NB169_172.out
          have hz82 := zc2 BK172
          go_wp2_with (first | ((with_reducible refine gate_builtin (b := .append) (xs := #[.tmp 54, .tmp 58]) rfl ?_); at_builtin; refine Kd.R_append k35 (w0 := w) w.heap.size rfl (.tmp 54) (.tmp 58) 22 35 (.agg #[(.int .i64 0), (.int .i64 0), (.int .i64 0), (.int .i64 0)]) 32 rfl Try.underlying22 info35 rfl (by decide) (by omega) u173001 x173001_2 (⟨1, 0, wrap64 ((l0_1.length : Int) + 1), wrap64 ((l0_1.length : Int) + 1)⟩ : S35) [.int .i64 1, .int .i64 0, .int .i64 (wrap64 ((l0_1.length : Int) + 1)), .int .i64 (wrap64 ((l0_1.length : Int) + 1))] (fun _ => True) (fun _ => False) rfl rfl ?aP (fun _ hk => hk.elim) ?aF ?aO ?aB ?aS ?aL ?_; (case aP => exact k35_mkM _ _ _ (⟨1, 0, wrap64 ((l0_1.length : Int) + 1), wrap64 ((l0_1.length : Int) + 1)⟩ : S35)); (case aB => exact (zB HB)); (case aF => exact (fun _ _ => trivial)); (case aO => exact (zR HO_173001)); (case aS => exact (below_size (zB HB))); (case aL => have := LMc78.out; omega); intro v182 w83 ho hb hg hat; rw [← Ny181.out] at ho; have n0_ := Aside0.mk (blk_grown (g := gb167) (o := .cells #[.int .i64 a0_0, .slice A0_1 l0_1.length c0_1] 24 (0, 0)) (zk BK167) hg (Kd.R_ne HO_173001.out BK167.out (by decide))); have n1_ := Aside0.mk (blk_grown (g := gb168) (o := .cells #[.int .i64 a1_0, .slice A1_1 l1_1.length c1_1] 24 (0, 0)) (zk BK168) hg (Kd.R_ne HO_173001.out BK168.out (by decide))); have n2_ := Aside0.mk (blk_grown (g := gb169) (o := .cells #[.int .i64 0, .slice none 0 0] 24 (0, 0)) (zk BK169) hg (Kd.R_ne HO_173001.out BK169.out (by decide))); have n3_ := Aside0.mk (blk_grown (g := gb172) (o := .cells #[.int .i64 ji25, u173001] 24 (0, 0)) (zk BK172) hg (Kd.R_ne HO_173001.out BK172.out (by decide))); have n4_ := Aside0.mk (hb); have n5_ := Aside0.mk (ho); clear BK167; clear BK168; clear BK169; clear BK172; clear HB; clear HO_173001; have BK167 := n0_; have BK168 := n1_; have BK169 := n2_; have BK172 := n3_; have HB := n4_; have HO183 := n5_; clear n0_ n1_ n2_ n3_ n4_ n5_; clear ho hb hg hat; obtain ⟨Ao84, co84, eo84⟩ := Kd.R_slice HO183.out; subst eo84; have hz85 := zc2 BK172))
          go_meet
          case rel => exact ⟨_, (wrap64 ((l0_1.length : Int) + 1)), (y181), (.slice Ao84 y181.length co84), (by first | rfl | (simp; done) | (simp [*]; done)), H', ⟨by have := HJ2.out; have := HK2.out; first | omega | exact Nat.le_refl _⟩, ⟨by (with_reducible repeat (first | apply Kd.R_alloc | apply Kd.R_drewN | apply Kd.R_drew)); exact Kd.R_mono (Kd.R_far (p := ⟨gb172, 1, none⟩) (Kd.R_types HO183.out BK172.out (by decide)) (fun _ hk => hk.2) (.slice Ao84 y181.length co84)) (fun _ hk => trivial)⟩, ⟨zK BK167⟩, ⟨zK BK168⟩, ⟨zK BK169⟩, ⟨by (with_reducible repeat (first | refine blk_drewN ?_ _ | refine blk_drew ?_ | refine blk_alloc ?_ _)); refine blk_put (cs := #[.int .i64 ji25, u173001]) ?_ 1 _ rfl; (with_reducible repeat (first | refine blk_drewN ?_ _ | refine blk_drew ?_ | refine blk_alloc ?_ _)); exact BK172.out⟩, ⟨zB HB⟩⟩
         ·
          rw [if_neg c78] at H
          exact absurd H (by simp)
        ·
         replace c77 := Bool.eq_false_iff.mpr c77
         subst c77
         have H1 : (counter_Join.j2 k2 (l0_1.length : Int) a1_0 l1_1 ji25 x173001_2) = some (r1, r2, r3) := by rw [if_neg (show ¬ (false = true) by decide)] at H; exact H
         clear H
         have H := H1
         clear H1
         have H' := Aside0.mk H
         clear H
         go_wp2
         go_meet
         case rel => exact ⟨_, ((l0_1.length : Int)), (x173001_2), (u173001), (by first | rfl | (simp; done) | (simp [*]; done)), H', ⟨by have := HJ2.out; have := HK2.out; first | omega | exact Nat.le_refl _⟩, ⟨zR HO_173001⟩, ⟨zk BK167⟩, ⟨zk BK168⟩, ⟨zk BK169⟩, ⟨zk BK172⟩, ⟨zB HB⟩⟩
       case rest =>
        clear HC76
        try clear c1
        try clear p1
        try clear q1
        try clear hx1
        try clear c2
        try clear p2
        try clear c3
        try clear c4
        try clear c5
        try clear c6
        try clear p6
        try clear c7
        try clear c8
        try clear c10
        try clear c11
        try clear c13
        try clear c14
        try clear c17
        try clear p17
        try clear q17
        try clear hx17
        try clear c18
        try clear c21
        try clear c22
        try clear c23
        try clear c26
        try clear c27
        try clear c29
        try clear c32
        try clear c33
        try clear c34
        try clear c37
        try clear c37b0
        try clear c38
        try clear c38b0
        try clear c39
        try clear c39b0
        try clear c42
        try clear c43
        try clear c44
        try clear c45
        try clear c49
        try clear c49b0
        try clear c49b1
        try clear c50
        try clear c51
        try clear c52
        try clear c53
        try clear c54
        try clear c56
        try clear c57
        try clear c58
        try clear c63
        try clear c64
        try clear p64
        try clear c65
        try clear c66
        try clear c67
        try clear c69
        try clear c70
        try clear c71
        try clear c77
        try clear c78
        try clear c79
        try clear c80
        try clear c81
        try clear hz12
        try clear hz15
        try clear hz19
        try clear hz24
        try clear hz28
        try clear hz30
        try clear hz35
        try clear hz36
        try clear hz46
        try clear hz48
        try clear hz55
        try clear hz59
        try clear hz62
        try clear hz68
        try clear hz72
        try clear hz75
        try clear hz82
        try clear hz85
        try clear hx173_0
        try clear hx173_1
        try clear hx173_2
        try clear hx173_3
        try clear p173
        try clear p2
        try clear q173
        obtain ⟨kq, x6_75, x173001_75, u173001, rfl, HA, HJ75, HO_173001, BK167, BK168, BK169, BK172, HB⟩ := hcut
        cases kq with
        | zero => exact absurd HA.out (by simp [counter_Join.j2])
        | succ kj75 =>
         have H := HA.out
         clear HA
         simp only [counter_Join.j2] at H
         have H' := Aside0.mk H
         clear H
         have hnb86 := NB168_167.out
         have hnc86 := NB167_168.out
         have hnb87 := NB168_169.out
         have hnc87 := NB169_168.out
         have hnb88 := NB168_172.out
         have hnc88 := NB172_168.out
         have hz89 := zc2 BK168
         go_wp2
         go_loopg [64] kj75 (fun kq v64 w' => ∃ (x64_4 : Int) (x173001_4 : List (S35)) (u173001 : Value), v64 = .int .i64 x64_4 ∧ Aside0 (counter_Join.l1 kq x6_75 l1_1 (l1_1.length : Int) x64_4 ji25 x173001_4 = some (r1, r2, r3)) ∧ Aside0 (kq ≤ kj75) ∧ Aside0 (Kd.R k35 35 w' w.heap.size (fun _ => True) u173001 x173001_4) ∧ Aside0 (w'.heap[gb167]? = some (.cells #[.int .i64 a0_0, (.slice A0_1 l0_1.length c0_1)] 24 (0, 0))) ∧ Aside0 (w'.heap[gb168]? = some (.cells #[.int .i64 a1_0, (.slice A1_1 l1_1.length c1_1)] 24 (0, 0))) ∧ Aside0 (w'.heap[gb169]? = some (.cells #[.int .i64 0, (.slice none 0 0)] 24 (0, 0))) ∧ Aside0 (w'.heap[gb172]? = some (.cells #[.int .i64 ji25, u173001] 24 (0, 0))) ∧ Aside0 (Below w.heap.size w w'))
         case atStart => exact ⟨(0), (x173001_75), (u173001), (by first | rfl | (simp; done) | (simp [*]; done)), H', ⟨Nat.le_refl _⟩, ⟨zR HO_173001⟩, ⟨zk BK167⟩, ⟨zk BK168⟩, ⟨zk BK169⟩, ⟨zk BK172⟩, ⟨zB HB⟩⟩
         case round =>
          clear H'
          try clear c1
          try clear p1
          try clear q1
          try clear hx1
          try clear c2
          try clear p2
          try clear c3
          try clear c4
          try clear c5
          try clear c6
          try clear p6
          try clear c7
          try clear c8
          try clear c10
          try clear c11
          try clear c13
          try clear c14
          try clear c17
          try clear p17
          try clear q17
          try clear hx17
          try clear c18
          try clear c21
          try clear c22
          try clear c23
          try clear c26
          try clear c27
          try clear c29
          try clear c32
          try clear c33
          try clear c34
          try clear c37
          try clear c37b0
          try clear c38
          try clear c38b0
          try clear c39
          try clear c39b0
          try clear c42
          try clear c43
          try clear c44
          try clear c45
          try clear c49
          try clear c49b0
          try clear c49b1
          try clear c50
          try clear c51
          try clear c52
          try clear c53
          try clear c54
          try clear c56
          try clear c57
          try clear c58
          try clear c63
          try clear c64
          try clear p64
          try clear c65
          try clear c66
          try clear c67
          try clear c69
          try clear c70
          try clear c71
          try clear c77
          try clear c78
          try clear c79
          try clear c80
          try clear c81
          try clear c86
          try clear c87
          try clear c88
          try clear hz12
          try clear hz15
          try clear hz19
          try clear hz24
          try clear hz28
          try clear hz30
          try clear hz35
          try clear hz36
          try clear hz46
          try clear hz48
          try clear hz55
          try clear hz59
          try clear hz62
          try clear hz68
          try clear hz72
          try clear hz75
          try clear hz82
          try clear hz85
          try clear hz89
          try clear hx173_0
          try clear hx173_1
          try clear hx173_2
          try clear hx173_3
          try clear p1
          try clear p17
          try clear p173
          try clear p2
          try clear p6
          try clear p64
          try clear q1
          try clear q17
          try clear q173
          obtain ⟨x64_4, x173001_4, u173001, rfl, HA, HK4, HO_173001, BK167, BK168, BK169, BK172, HB⟩ := hrel
          cases gk with
          | zero => exact absurd HA.out (by simp [counter_Join.l1])
          | succ k4 =>
           have H := HA.out
           clear HA
           simp only [counter_Join.l1] at H
           by_cases c90 : x64_4 < (l1_1.length : Int)
           ·
            rw [if_pos c90] at H
            have c90b0 : decide (x64_4 < (l1_1.length : Int)) = true := decide_eq_true c90
            clear c90
            by_cases c91 : 0 ≤ x64_4
            ·
             rw [if_pos c91] at H
             have c91b0 : decide (0 ≤ x64_4) = true := decide_eq_true c91
             clear c91
             by_cases c92 : x64_4 < (l1_1.length : Int)
             ·
              rw [if_pos c92] at H
              have c92b0 : decide (x64_4 < (l1_1.length : Int)) = true := decide_eq_true c92
              clear c92
              have HC93 := Aside0.mk H
              clear H
              have p184 : 0 ≤ (x64_4 : Int) := of_decide_eq_true (by first | (with_reducible assumption) | assumption)
              have q184 : x64_4 < (l1_1.length : Int) := of_decide_eq_true (by first | (with_reducible assumption) | assumption)
              obtain ⟨ad184, e184, hx184_0, hx184_1, hx184_2, hx184_3⟩ := at_T35 HR1_1.out x64_4 p184 q184
              cases e184
              replace hx184_0 := (HB.out.cell (World.block_lt_of_cell? w _ hx184_0)).trans hx184_0
              replace hx184_1 := (HB.out.cell (World.block_lt_of_cell? w _ hx184_1)).trans hx184_1
              replace hx184_2 := (HB.out.cell (World.block_lt_of_cell? w _ hx184_2)).trans hx184_2
              replace hx184_3 := (HB.out.cell (World.block_lt_of_cell? w _ hx184_3)).trans hx184_3
              replace p184 := eq_true p184
              replace q184 := eq_true q184
              go_upto_if 70 with (first | ((with_reducible refine gate_dst (N := 12) rfl ?_); refine box_event ?hg (N := 12) ?hd (cs := #[.int .i64 0, .int .i64 0, .int .i64 0, .int .i64 0]) (t := 35) ?hr ?_; (case hd => rfl); (case hg => rfl); (case hr => first | (go_simp; done) | (go_simp; rfl)); intro gb185 hg w94 hbox hb; have BK185 := Aside0.mk (hbox); have GW185 := Aside0.mk ((by rw [hg]; exact (below_size (zB HB)) : w.heap.size ≤ gb185)); have GE185 := Aside0.mk ((by rw [hg]; exact (below_size (zB HB)) : w.heap.size ≤ gb185)); have NB167_185 := Aside0.mk ((by rw [hg]; exact Nat.ne_of_lt (zL BK167) : gb167 ≠ gb185)); have NB185_167 := Aside0.mk ((by rw [hg]; exact Nat.ne_of_gt (zL BK167) : gb185 ≠ gb167)); have NB168_185 := Aside0.mk ((by rw [hg]; exact Nat.ne_of_lt (zL BK168) : gb168 ≠ gb185)); have NB185_168 := Aside0.mk ((by rw [hg]; exact Nat.ne_of_gt (zL BK168) : gb185 ≠ gb168)); have NB169_185 := Aside0.mk ((by rw [hg]; exact Nat.ne_of_lt (zL BK169) : gb169 ≠ gb185)); have NB185_169 := Aside0.mk ((by rw [hg]; exact Nat.ne_of_gt (zL BK169) : gb185 ≠ gb169)); have NB172_185 := Aside0.mk ((by rw [hg]; exact Nat.ne_of_lt (zL BK172) : gb172 ≠ gb185)); have NB185_172 := Aside0.mk ((by rw [hg]; exact Nat.ne_of_gt (zL BK172) : gb185 ≠ gb172)); replace HO_173001 := Aside0.mk (Kd.R_below (Kd.R_elderB (zR HO_173001) gb185 (Nat.le_of_eq hg.symm)) hb); replace BK167 := Aside0.mk (zb BK167 hb); replace BK168 := Aside0.mk (zb BK168 hb); replace BK169 := Aside0.mk (zb BK169 hb); replace BK172 := Aside0.mk (zb BK172 hb); replace HB := Aside0.mk (below_step (zB HB) hb); clear hb hbox hg; have hnb95 := NB185_167.out; have hnc95 := NB167_185.out; have hnb96 := NB185_168.out; have hnc96 := NB168_185.out; have hnb97 := NB185_169.out; have hnc97 := NB169_185.out; have hnb98 := NB185_172.out; have hnc98 := NB172_185.out; have hz99 := zc4 BK185) | ((with_reducible refine gate_store (t := 35) (p := 12) rfl ?_); refine store_event (t := 35) (p := 12) (v := ?vo_w100) (w1 := ((((w94.setCell ⟨gb185, 0, none⟩ (.int .i64 ((rd_T35 l1_1 x64_4).f0))).setCell ⟨gb185, 1, none⟩ (.int .i64 ((rd_T35 l1_1 x64_4).f1))).setCell ⟨gb185, 2, none⟩ (.int .i64 ((rd_T35 l1_1 x64_4).f2))).setCell ⟨gb185, 3, none⟩ (.int .i64 ((rd_T35 l1_1 x64_4).f3)))) ?hg ?ho ?hn ?hr ?_; (case ho => rfl); (case hg => rfl); (case hn => rfl); (case hr => first | (go_simp; done) | (go_simp; rfl)); intro w100 hw; have n0_ : Aside0 (Kd.R k35 35 w100 w.heap.size (fun k_ => k_ ≠ gb185) u173001 x173001_4) := ⟨(by rw [hw]; exact (by (with_reducible repeat (first | apply Kd.R_alloc | apply Kd.R_drewN | apply Kd.R_drew)); exact Kd.R_mono (zRf4 (g := gb185) (Kd.R_mono HO_173001.out (fun k_ hk => (⟨hk, hk.2⟩ : _ ∧ k_ ≠ gb185)))) (fun _ hk => hk.1.2)))⟩; have n1_ : Aside0 (w100.heap[gb167]? = some (.cells #[.int .i64 a0_0, .slice A0_1 l0_1.length c0_1] 24 (0, 0))) := ⟨(by rw [hw]; exact (zK BK167))⟩; have n2_ : Aside0 (w100.heap[gb168]? = some (.cells #[.int .i64 a1_0, .slice (some ad184) l1_1.length c1_1] 24 (0, 0))) := ⟨(by rw [hw]; exact (zK BK168))⟩; have n3_ : Aside0 (w100.heap[gb169]? = some (.cells #[.int .i64 0, .slice none 0 0] 24 (0, 0))) := ⟨(by rw [hw]; exact (zK BK169))⟩; have n4_ : Aside0 (w100.heap[gb172]? = some (.cells #[.int .i64 ji25, u173001] 24 (0, 0))) := ⟨(by rw [hw]; exact (zK BK172))⟩; have n5_ : Aside0 (w100.heap[gb185]? = some (.cells #[.int .i64 ((rd_T35 l1_1 x64_4).f0), .int .i64 ((rd_T35 l1_1 x64_4).f1), .int .i64 ((rd_T35 l1_1 x64_4).f2), .int .i64 ((rd_T35 l1_1 x64_4).f3)] 35 (0, 0))) := ⟨(by rw [hw]; exact (by (with_reducible repeat (first | refine blk_drewN ?_ _ | refine blk_drew ?_ | refine blk_alloc ?_ _)); refine blk_put (cs := #[.int .i64 ((rd_T35 l1_1 x64_4).f0), .int .i64 ((rd_T35 l1_1 x64_4).f1), .int .i64 ((rd_T35 l1_1 x64_4).f2), .int .i64 0]) ?_ 3 _ rfl; (with_reducible repeat (first | refine blk_drewN ?_ _ | refine blk_drew ?_ | refine blk_alloc ?_ _)); refine blk_put (cs := #[.int .i64 ((rd_T35 l1_1 x64_4).f0), .int .i64 ((rd_T35 l1_1 x64_4).f1), .int .i64 0, .int .i64 0]) ?_ 2 _ rfl; (with_reducible repeat (first | refine blk_drewN ?_ _ | refine blk_drew ?_ | refine blk_alloc ?_ _)); refine blk_put (cs := #[.int .i64 ((rd_T35 l1_1 x64_4).f0), .int .i64 0, .int .i64 0, .int .i64 0]) ?_ 1 _ rfl; (with_reducible repeat (first | refine blk_drewN ?_ _ | refine blk_drew ?_ | refine blk_alloc ?_ _)); refine blk_put (cs := #[.int .i64 0, .int .i64 0, .int .i64 0, .int .i64 0]) ?_ 0 _ rfl; (with_reducible repeat (first | refine blk_drewN ?_ _ | refine blk_drew ?_ | refine blk_alloc ?_ _)); exact BK185.out))⟩; have n6_ : Aside0 (Below w.heap.size w w100) := ⟨(by rw [hw]; exact (zB HB))⟩; clear hw; clear HO_173001; clear BK167; clear BK168; clear BK169; clear BK172; clear BK185; clear HB; have HO_173001 := n0_; have BK167 := n1_; have BK168 := n2_; have BK169 := n3_; have BK172 := n4_; have BK185 := n5_; have HB := n6_; clear n0_ n1_ n2_ n3_ n4_ n5_ n6_; have hz101 := zc4 BK185))
              (try simp only [Act.put, zs, zs0, zs1])
              have H := HC93.out
              clear HC93
              by_cases c102 : ((rd_T35 l1_1 x64_4).f0) = 2
              ·
               rw [if_pos c102] at H
               have c102b0 : (((rd_T35 l1_1 x64_4).f0) == 2) = true := beq_iff_eq.mpr c102
               have c102b1 : (((rd_T35 l1_1 x64_4).f0) != 2) = false := bne_eq_false_iff_eq.mpr c102
               clear c102
               (first | rw [c102b0] | (simp only [i64_w, i32_w]; rw [c102b0]) | skip)
               (try rw [c102b1])
               by_cases c103 : ((rd_T35 l1_1 x64_4).f0) = 1
               ·
                rw [if_pos c103] at H
                have c103b0 : (((rd_T35 l1_1 x64_4).f0) == 1) = true := beq_iff_eq.mpr c103
                have c103b1 : (((rd_T35 l1_1 x64_4).f0) != 1) = false := bne_eq_false_iff_eq.mpr c103
                clear c103
                by_cases c104 : x173001_4.length < 4398046511104
                ·
                 rw [if_pos c104] at H
                 have LMc104 := Aside0.mk c104
                 clear c104
                 obtain ⟨y186, hy186⟩ : ∃ y_ : List (S35), y_ = (x173001_4 ++ [(⟨(rd_T35 l1_1 x64_4).f0, (rd_T35 l1_1 x64_4).f1, (rd_T35 l1_1 x64_4).f2, wrap64 (((rd_T35 l1_1 x64_4).f3) + x6_75)⟩ : S35)]) := ⟨_, rfl⟩
                 replace H : (counter_Join.l1 k4 x6_75 l1_1 (l1_1.length : Int) (wrap64 (x64_4 + 1)) ji25 y186) = some (r1, r2, r3) := by first | (rw [hy186]; with_reducible exact H) | (have H2_ := (Option.bind_some _ _).symm.trans H; rw [hy186]; with_reducible exact H2_) | (have H2_ := (Option.bind_some _ _).symm.trans H; with_reducible exact H2_) | with_reducible exact H | (rw [hy186]; exact H) | exact H
                 have Ny186 := Aside0.mk hy186
                 clear hy186
                 have H' := Aside0.mk H
                 clear H
                 have hnb105 := NB185_167.out
                 have hnc105 := NB167_185.out
                 have hnb106 := NB185_168.out
                 have hnc106 := NB168_185.out
                 have hnb107 := NB185_169.out
                 have hnc107 := NB169_185.out
                 have hnb108 := NB185_172.out
                 have hnc108 := NB172_185.out
                 have hz109 := zc4 BK185
                 have hnb110 := NB172_167.out
                 have hnc110 := NB167_172.out
                 have hnb111 := NB172_168.out
                 have hnc111 := NB168_172.out
                 have hnb112 := NB172_169.out
                 have hnc112 := NB169_172.out
                 have hz113 := zc2 BK172
                 go_wp2_with (first | ((with_reducible refine gate_builtin (b := .append) (xs := #[.tmp 85, .tmp 87]) rfl ?_); at_builtin; refine Kd.R_append k35 (w0 := w) w.heap.size rfl (.tmp 85) (.tmp 87) 22 35 (.agg #[(.int .i64 0), (.int .i64 0), (.int .i64 0), (.int .i64 0)]) 32 rfl Try.underlying22 info35 rfl (by decide) (by omega) u173001 x173001_4 (⟨(rd_T35 l1_1 x64_4).f0, (rd_T35 l1_1 x64_4).f1, (rd_T35 l1_1 x64_4).f2, wrap64 (((rd_T35 l1_1 x64_4).f3) + x6_75)⟩ : S35) [.int .i64 ((rd_T35 l1_1 x64_4).f0), .int .i64 ((rd_T35 l1_1 x64_4).f1), .int .i64 ((rd_T35 l1_1 x64_4).f2), .int .i64 (wrap64 (((rd_T35 l1_1 x64_4).f3) + x6_75))] (fun k_ => k_ ≠ gb185) (fun _ => False) rfl (by first | (go_simp; done) | (go_simp; rfl)) ?aP (fun _ hk => hk.elim) ?aF ?aO ?aB ?aS ?aL ?_; (case aP => exact k35_mkM _ _ _ (⟨(rd_T35 l1_1 x64_4).f0, (rd_T35 l1_1 x64_4).f1, (rd_T35 l1_1 x64_4).f2, wrap64 (((rd_T35 l1_1 x64_4).f3) + x6_75)⟩ : S35)); (case aB => exact (zB HB)); (case aF => exact (fun k_ hk => Kd.freshB (g := gb185) (o := .cells #[.int .i64 ((rd_T35 l1_1 x64_4).f0), .int .i64 ((rd_T35 l1_1 x64_4).f1), .int .i64 ((rd_T35 l1_1 x64_4).f2), .int .i64 (wrap64 (((rd_T35 l1_1 x64_4).f3) + x6_75))] 35 (0, 0)) (by (with_reducible repeat (first | refine blk_drewN ?_ _ | refine blk_drew ?_ | refine blk_alloc ?_ _)); refine blk_put (cs := #[.int .i64 ((rd_T35 l1_1 x64_4).f0), .int .i64 ((rd_T35 l1_1 x64_4).f1), .int .i64 ((rd_T35 l1_1 x64_4).f2), .int .i64 ((rd_T35 l1_1 x64_4).f3)]) ?_ 3 _ rfl; (with_reducible repeat (first | refine blk_drewN ?_ _ | refine blk_drew ?_ | refine blk_alloc ?_ _)); exact BK185.out) k_ hk)); (case aO => exact (by (with_reducible repeat (first | apply Kd.R_alloc | apply Kd.R_drewN | apply Kd.R_drew)); exact Kd.R_mono (Kd.R_far (p := ⟨gb185, 3, none⟩) (Kd.R_mono HO_173001.out (fun k_ hk => (⟨hk, hk⟩ : _ ∧ k_ ≠ gb185))) (fun _ hk => hk.2) (.int .i64 (wrap64 (((rd_T35 l1_1 x64_4).f3) + x6_75)))) (fun _ hk => hk.1))); (case aS => exact (below_size (zB HB))); (case aL => have := LMc104.out; omega); intro v187 w114 ho hb hg hat; rw [← Ny186.out] at ho; have n0_ := Aside0.mk (blk_grown (g := gb167) (o := .cells #[.int .i64 a0_0, .slice A0_1 l0_1.length c0_1] 24 (0, 0)) (zK BK167) hg (Kd.R_ne HO_173001.out BK167.out (by decide))); have n1_ := Aside0.mk (blk_grown (g := gb168) (o := .cells #[.int .i64 a1_0, .slice (some ad184) l1_1.length c1_1] 24 (0, 0)) (zK BK168) hg (Kd.R_ne HO_173001.out BK168.out (by decide))); have n2_ := Aside0.mk (blk_grown (g := gb169) (o := .cells #[.int .i64 0, .slice none 0 0] 24 (0, 0)) (zK BK169) hg (Kd.R_ne HO_173001.out BK169.out (by decide))); have n3_ := Aside0.mk (blk_grown (g := gb172) (o := .cells #[.int .i64 ji25, u173001] 24 (0, 0)) (zK BK172) hg (Kd.R_ne HO_173001.out BK172.out (by decide))); have n4_ := Aside0.mk (blk_grown (g := gb185) (o := .cells #[.int .i64 ((rd_T35 l1_1 x64_4).f0), .int .i64 ((rd_T35 l1_1 x64_4).f1), .int .i64 ((rd_T35 l1_1 x64_4).f2), .int .i64 (wrap64 (((rd_T35 l1_1 x64_4).f3) + x6_75))] 35 (0, 0)) (by (with_reducible repeat (first | refine blk_drewN ?_ _ | refine blk_drew ?_ | refine blk_alloc ?_ _)); refine blk_put (cs := #[.int .i64 ((rd_T35 l1_1 x64_4).f0), .int .i64 ((rd_T35 l1_1 x64_4).f1), .int .i64 ((rd_T35 l1_1 x64_4).f2), .int .i64 ((rd_T35 l1_1 x64_4).f3)]) ?_ 3 _ rfl; (with_reducible repeat (first | refine blk_drewN ?_ _ | refine blk_drew ?_ | refine blk_alloc ?_ _)); exact BK185.out) hg (Kd.R_away HO_173001.out (fun _ hk => hk))); have n5_ := Aside0.mk (hb); have n6_ := Aside0.mk (ho); clear BK167; clear BK168; clear BK169; clear BK172; clear BK185; clear HB; clear HO_173001; have BK167 := n0_; have BK168 := n1_; have BK169 := n2_; have BK172 := n3_; have BK185 := n4_; have HB := n5_; have HO188 := n6_; clear n0_ n1_ n2_ n3_ n4_ n5_ n6_; clear ho hb hg hat; obtain ⟨Ao115, co115, eo115⟩ := Kd.R_slice HO188.out; subst eo115; have hz116 := zc2 BK172))
                 go_roundg k4
                 case measure => have := HJ2.out; have := HK2.out; have := HJ75.out; have := HK4.out; omega
                 case rel => exact ⟨(wrap64 (x64_4 + 1)), (y186), (.slice Ao115 y186.length co115), (by first | rfl | (simp; done) | (simp [*]; done)), H', ⟨by have := HJ2.out; have := HK2.out; have := HJ75.out; have := HK4.out; omega⟩, ⟨by (with_reducible repeat (first | apply Kd.R_alloc | apply Kd.R_drewN | apply Kd.R_drew)); exact Kd.R_mono (Kd.R_far (p := ⟨gb172, 1, none⟩) (Kd.R_types HO188.out BK172.out (by decide)) (fun _ hk => hk.2) (.slice Ao115 y186.length co115)) (fun _ hk => trivial)⟩, ⟨zK BK167⟩, ⟨zK BK168⟩, ⟨zK BK169⟩, ⟨by (with_reducible repeat (first | refine blk_drewN ?_ _ | refine blk_drew ?_ | refine blk_alloc ?_ _)); refine blk_put (cs := #[.int .i64 ji25, u173001]) ?_ 1 _ rfl; (with_reducible repeat (first | refine blk_drewN ?_ _ | refine blk_drew ?_ | refine blk_alloc ?_ _)); exact BK172.out⟩, ⟨zB HB⟩⟩
                ·
                 rw [if_neg c104] at H
                 exact absurd H (by simp)
               ·
                rw [if_neg c103] at H
                have c103b0 : (((rd_T35 l1_1 x64_4).f0) == 1) = false := beq_eq_false_iff_ne.mpr c103
                have c103b1 : (((rd_T35 l1_1 x64_4).f0) != 1) = true := bne_iff_ne.mpr c103
                by_cases c117 : x173001_4.length < 4398046511104
                ·
                 rw [if_pos c117] at H
                 have LMc117 := Aside0.mk c117
                 clear c117
                 obtain ⟨y189, hy189⟩ : ∃ y_ : List (S35), y_ = (x173001_4 ++ [(⟨(rd_T35 l1_1 x64_4).f0, (rd_T35 l1_1 x64_4).f1, (rd_T35 l1_1 x64_4).f2, (rd_T35 l1_1 x64_4).f3⟩ : S35)]) := ⟨_, rfl⟩
                 replace H : (counter_Join.l1 k4 x6_75 l1_1 (l1_1.length : Int) (wrap64 (x64_4 + 1)) ji25 y189) = some (r1, r2, r3) := by first | (rw [hy189]; with_reducible exact H) | (have H2_ := (Option.bind_some _ _).symm.trans H; rw [hy189]; with_reducible exact H2_) | (have H2_ := (Option.bind_some _ _).symm.trans H; with_reducible exact H2_) | with_reducible exact H | (rw [hy189]; exact H) | exact H
                 have Ny189 := Aside0.mk hy189
                 clear hy189
                 have H' := Aside0.mk H
                 clear H
                 have hnb118 := NB185_167.out
                 have hnc118 := NB167_185.out
                 have hnb119 := NB185_168.out
                 have hnc119 := NB168_185.out
                 have hnb120 := NB185_169.out
                 have hnc120 := NB169_185.out
                 have hnb121 := NB185_172.out
                 have hnc121 := NB172_185.out
                 have hz122 := zc4 BK185
                 have hnb123 := NB172_167.out
                 have hnc123 := NB167_172.out
                 have hnb124 := NB172_168.out
                 have hnc124 := NB168_172.out
                 have hnb125 := NB172_169.out
                 have hnc125 := NB169_172.out
                 have hz126 := zc2 BK172
                 go_wp2_with (first | ((with_reducible refine gate_builtin (b := .append) (xs := #[.tmp 85, .tmp 87]) rfl ?_); at_builtin; refine Kd.R_append k35 (w0 := w) w.heap.size rfl (.tmp 85) (.tmp 87) 22 35 (.agg #[(.int .i64 0), (.int .i64 0), (.int .i64 0), (.int .i64 0)]) 32 rfl Try.underlying22 info35 rfl (by decide) (by omega) u173001 x173001_4 (⟨(rd_T35 l1_1 x64_4).f0, (rd_T35 l1_1 x64_4).f1, (rd_T35 l1_1 x64_4).f2, (rd_T35 l1_1 x64_4).f3⟩ : S35) [.int .i64 ((rd_T35 l1_1 x64_4).f0), .int .i64 ((rd_T35 l1_1 x64_4).f1), .int .i64 ((rd_T35 l1_1 x64_4).f2), .int .i64 ((rd_T35 l1_1 x64_4).f3)] (fun k_ => k_ ≠ gb185) (fun _ => False) rfl rfl ?aP (fun _ hk => hk.elim) ?aF ?aO ?aB ?aS ?aL ?_; (case aP => exact k35_mkM _ _ _ (⟨(rd_T35 l1_1 x64_4).f0, (rd_T35 l1_1 x64_4).f1, (rd_T35 l1_1 x64_4).f2, (rd_T35 l1_1 x64_4).f3⟩ : S35)); (case aB => exact (zB HB)); (case aF => exact (fun k_ hk => Kd.freshB (g := gb185) (o := .cells #[.int .i64 ((rd_T35 l1_1 x64_4).f0), .int .i64 ((rd_T35 l1_1 x64_4).f1), .int .i64 ((rd_T35 l1_1 x64_4).f2), .int .i64 ((rd_T35 l1_1 x64_4).f3)] 35 (0, 0)) (zk BK185) k_ hk)); (case aO => exact (zR HO_173001)); (case aS => exact (below_size (zB HB))); (case aL => have := LMc117.out; omega); intro v190 w127 ho hb hg hat; rw [← Ny189.out] at ho; have n0_ := Aside0.mk (blk_grown (g := gb167) (o := .cells #[.int .i64 a0_0, .slice A0_1 l0_1.length c0_1] 24 (0, 0)) (zk BK167) hg (Kd.R_ne HO_173001.out BK167.out (by decide))); have n1_ := Aside0.mk (blk_grown (g := gb168) (o := .cells #[.int .i64 a1_0, .slice (some ad184) l1_1.length c1_1] 24 (0, 0)) (zk BK168) hg (Kd.R_ne HO_173001.out BK168.out (by decide))); have n2_ := Aside0.mk (blk_grown (g := gb169) (o := .cells #[.int .i64 0, .slice none 0 0] 24 (0, 0)) (zk BK169) hg (Kd.R_ne HO_173001.out BK169.out (by decide))); have n3_ := Aside0.mk (blk_grown (g := gb172) (o := .cells #[.int .i64 ji25, u173001] 24 (0, 0)) (zk BK172) hg (Kd.R_ne HO_173001.out BK172.out (by decide))); have n4_ := Aside0.mk (blk_grown (g := gb185) (o := .cells #[.int .i64 ((rd_T35 l1_1 x64_4).f0), .int .i64 ((rd_T35 l1_1 x64_4).f1), .int .i64 ((rd_T35 l1_1 x64_4).f2), .int .i64 ((rd_T35 l1_1 x64_4).f3)] 35 (0, 0)) (zk BK185) hg (Kd.R_away HO_173001.out (fun _ hk => hk))); have n5_ := Aside0.mk (hb); have n6_ := Aside0.mk (ho); clear BK167; clear BK168; clear BK169; clear BK172; clear BK185; clear HB; clear HO_173001; have BK167 := n0_; have BK168 := n1_; have BK169 := n2_; have BK172 := n3_; have BK185 := n4_; have HB := n5_; have HO191 := n6_; clear n0_ n1_ n2_ n3_ n4_ n5_ n6_; clear ho hb hg hat; obtain ⟨Ao128, co128, eo128⟩ := Kd.R_slice HO191.out; subst eo128; have hz129 := zc2 BK172))
                 go_roundg k4
                 case measure => have := HJ2.out; have := HK2.out; have := HJ75.out; have := HK4.out; omega
                 case rel => exact ⟨(wrap64 (x64_4 + 1)), (y189), (.slice Ao128 y189.length co128), (by first | rfl | (simp; done) | (simp [*]; done)), H', ⟨by have := HJ2.out; have := HK2.out; have := HJ75.out; have := HK4.out; omega⟩, ⟨by (with_reducible repeat (first | apply Kd.R_alloc | apply Kd.R_drewN | apply Kd.R_drew)); exact Kd.R_mono (Kd.R_far (p := ⟨gb172, 1, none⟩) (Kd.R_types HO191.out BK172.out (by decide)) (fun _ hk => hk.2) (.slice Ao128 y189.length co128)) (fun _ hk => trivial)⟩, ⟨zK BK167⟩, ⟨zK BK168⟩, ⟨zK BK169⟩, ⟨by (with_reducible repeat (first | refine blk_drewN ?_ _ | refine blk_drew ?_ | refine blk_alloc ?_ _)); refine blk_put (cs := #[.int .i64 ji25, u173001]) ?_ 1 _ rfl; (with_reducible repeat (first | refine blk_drewN ?_ _ | refine blk_drew ?_ | refine blk_alloc ?_ _)); exact BK172.out⟩, ⟨zB HB⟩⟩
                ·
                 rw [if_neg c117] at H
                 exact absurd H (by simp)
              ·
               rw [if_neg c102] at H
               have c102b0 : (((rd_T35 l1_1 x64_4).f0) == 2) = false := beq_eq_false_iff_ne.mpr c102
               have c102b1 : (((rd_T35 l1_1 x64_4).f0) != 2) = true := bne_iff_ne.mpr c102
               (first | rw [c102b0] | (simp only [i64_w, i32_w]; rw [c102b0]) | skip)
               (try rw [c102b1])
               by_cases c130 : ((rd_T35 l1_1 x64_4).f0) = 1
               ·
                rw [if_pos c130] at H
                have c130b0 : (((rd_T35 l1_1 x64_4).f0) == 1) = true := beq_iff_eq.mpr c130
                have c130b1 : (((rd_T35 l1_1 x64_4).f0) != 1) = false := bne_eq_false_iff_eq.mpr c130
                clear c130
                by_cases c131 : x173001_4.length < 4398046511104
                ·
                 rw [if_pos c131] at H
                 have LMc131 := Aside0.mk c131
                 clear c131
                 obtain ⟨y192, hy192⟩ : ∃ y_ : List (S35), y_ = (x173001_4 ++ [(⟨(rd_T35 l1_1 x64_4).f0, (rd_T35 l1_1 x64_4).f1, wrap64 (((rd_T35 l1_1 x64_4).f2) + x6_75), wrap64 (((rd_T35 l1_1 x64_4).f3) + x6_75)⟩ : S35)]) := ⟨_, rfl⟩
                 replace H : (counter_Join.l1 k4 x6_75 l1_1 (l1_1.length : Int) (wrap64 (x64_4 + 1)) ji25 y192) = some (r1, r2, r3) := by first | (rw [hy192]; with_reducible exact H) | (have H2_ := (Option.bind_some _ _).symm.trans H; rw [hy192]; with_reducible exact H2_) | (have H2_ := (Option.bind_some _ _).symm.trans H; with_reducible exact H2_) | with_reducible exact H | (rw [hy192]; exact H) | exact H
                 have Ny192 := Aside0.mk hy192
                 clear hy192
                 have H' := Aside0.mk H
                 clear H
                 have hnb132 := NB185_167.out
                 have hnc132 := NB167_185.out
                 have hnb133 := NB185_168.out
                 have hnc133 := NB168_185.out
                 have hnb134 := NB185_169.out
                 have hnc134 := NB169_185.out
                 have hnb135 := NB185_172.out
                 have hnc135 := NB172_185.out
                 have hz136 := zc4 BK185
                 have hnb137 := NB172_167.out
                 have hnc137 := NB167_172.out
                 have hnb138 := NB172_168.out
                 have hnc138 := NB168_172.out
                 have hnb139 := NB172_169.out
                 have hnc139 := NB169_172.out
                 have hz140 := zc2 BK172
                 go_wp2_with (first | ((with_reducible refine gate_builtin (b := .append) (xs := #[.tmp 85, .tmp 87]) rfl ?_); at_builtin; refine Kd.R_append k35 (w0 := w) w.heap.size rfl (.tmp 85) (.tmp 87) 22 35 (.agg #[(.int .i64 0), (.int .i64 0), (.int .i64 0), (.int .i64 0)]) 32 rfl Try.underlying22 info35 rfl (by decide) (by omega) u173001 x173001_4 (⟨(rd_T35 l1_1 x64_4).f0, (rd_T35 l1_1 x64_4).f1, wrap64 (((rd_T35 l1_1 x64_4).f2) + x6_75), wrap64 (((rd_T35 l1_1 x64_4).f3) + x6_75)⟩ : S35) [.int .i64 ((rd_T35 l1_1 x64_4).f0), .int .i64 ((rd_T35 l1_1 x64_4).f1), .int .i64 (wrap64 (((rd_T35 l1_1 x64_4).f2) + x6_75)), .int .i64 (wrap64 (((rd_T35 l1_1 x64_4).f3) + x6_75))] (fun k_ => k_ ≠ gb185) (fun _ => False) rfl (by first | (go_simp; done) | (go_simp; rfl)) ?aP (fun _ hk => hk.elim) ?aF ?aO ?aB ?aS ?aL ?_; (case aP => exact k35_mkM _ _ _ (⟨(rd_T35 l1_1 x64_4).f0, (rd_T35 l1_1 x64_4).f1, wrap64 (((rd_T35 l1_1 x64_4).f2) + x6_75), wrap64 (((rd_T35 l1_1 x64_4).f3) + x6_75)⟩ : S35)); (case aB => exact (zB HB)); (case aF => exact (fun k_ hk => Kd.freshB (g := gb185) (o := .cells #[.int .i64 ((rd_T35 l1_1 x64_4).f0), .int .i64 ((rd_T35 l1_1 x64_4).f1), .int .i64 (wrap64 (((rd_T35 l1_1 x64_4).f2) + x6_75)), .int .i64 (wrap64 (((rd_T35 l1_1 x64_4).f3) + x6_75))] 35 (0, 0)) (by (with_reducible repeat (first | refine blk_drewN ?_ _ | refine blk_drew ?_ | refine blk_alloc ?_ _)); refine blk_put (cs := #[.int .i64 ((rd_T35 l1_1 x64_4).f0), .int .i64 ((rd_T35 l1_1 x64_4).f1), .int .i64 (wrap64 (((rd_T35 l1_1 x64_4).f2) + x6_75)), .int .i64 ((rd_T35 l1_1 x64_4).f3)]) ?_ 3 _ rfl; (with_reducible repeat (first | refine blk_drewN ?_ _ | refine blk_drew ?_ | refine blk_alloc ?_ _)); refine blk_put (cs := #[.int .i64 ((rd_T35 l1_1 x64_4).f0), .int .i64 ((rd_T35 l1_1 x64_4).f1), .int .i64 ((rd_T35 l1_1 x64_4).f2), .int .i64 ((rd_T35 l1_1 x64_4).f3)]) ?_ 2 _ rfl; (with_reducible repeat (first | refine blk_drewN ?_ _ | refine blk_drew ?_ | refine blk_alloc ?_ _)); exact BK185.out) k_ hk)); (case aO => exact (by (with_reducible repeat (first | apply Kd.R_alloc | apply Kd.R_drewN | apply Kd.R_drew)); exact Kd.R_mono (zRf2 (g := gb185) (Kd.R_mono HO_173001.out (fun k_ hk => (⟨hk, hk⟩ : _ ∧ k_ ≠ gb185)))) (fun _ hk => hk.1))); (case aS => exact (below_size (zB HB))); (case aL => have := LMc131.out; omega); intro v193 w141 ho hb hg hat; rw [← Ny192.out] at ho; have n0_ := Aside0.mk (blk_grown (g := gb167) (o := .cells #[.int .i64 a0_0, .slice A0_1 l0_1.length c0_1] 24 (0, 0)) (zK BK167) hg (Kd.R_ne HO_173001.out BK167.out (by decide))); have n1_ := Aside0.mk (blk_grown (g := gb168) (o := .cells #[.int .i64 a1_0, .slice (some ad184) l1_1.length c1_1] 24 (0, 0)) (zK BK168) hg (Kd.R_ne HO_173001.out BK168.out (by decide))); have n2_ := Aside0.mk (blk_grown (g := gb169) (o := .cells #[.int .i64 0, .slice none 0 0] 24 (0, 0)) (zK BK169) hg (Kd.R_ne HO_173001.out BK169.out (by decide))); have n3_ := Aside0.mk (blk_grown (g := gb172) (o := .cells #[.int .i64 ji25, u173001] 24 (0, 0)) (zK BK172) hg (Kd.R_ne HO_173001.out BK172.out (by decide))); have n4_ := Aside0.mk (blk_grown (g := gb185) (o := .cells #[.int .i64 ((rd_T35 l1_1 x64_4).f0), .int .i64 ((rd_T35 l1_1 x64_4).f1), .int .i64 (wrap64 (((rd_T35 l1_1 x64_4).f2) + x6_75)), .int .i64 (wrap64 (((rd_T35 l1_1 x64_4).f3) + x6_75))] 35 (0, 0)) (by (with_reducible repeat (first | refine blk_drewN ?_ _ | refine blk_drew ?_ | refine blk_alloc ?_ _)); refine blk_put (cs := #[.int .i64 ((rd_T35 l1_1 x64_4).f0), .int .i64 ((rd_T35 l1_1 x64_4).f1), .int .i64 (wrap64 (((rd_T35 l1_1 x64_4).f2) + x6_75)), .int .i64 ((rd_T35 l1_1 x64_4).f3)]) ?_ 3 _ rfl; (with_reducible repeat (first | refine blk_drewN ?_ _ | refine blk_drew ?_ | refine blk_alloc ?_ _)); refine blk_put (cs := #[.int .i64 ((rd_T35 l1_1 x64_4).f0), .int .i64 ((rd_T35 l1_1 x64_4).f1), .int .i64 ((rd_T35 l1_1 x64_4).f2), .int .i64 ((rd_T35 l1_1 x64_4).f3)]) ?_ 2 _ rfl; (with_reducible repeat (first | refine blk_drewN ?_ _ | refine blk_drew ?_ | refine blk_alloc ?_ _)); exact BK185.out) hg (Kd.R_away HO_173001.out (fun _ hk => hk))); have n5_ := Aside0.mk (hb); have n6_ := Aside0.mk (ho); clear BK167; clear BK168; clear BK169; clear BK172; clear BK185; clear HB; clear HO_173001; have BK167 := n0_; have BK168 := n1_; have BK169 := n2_; have BK172 := n3_; have BK185 := n4_; have HB := n5_; have HO194 := n6_; clear n0_ n1_ n2_ n3_ n4_ n5_ n6_; clear ho hb hg hat; obtain ⟨Ao142, co142, eo142⟩ := Kd.R_slice HO194.out; subst eo142; have hz143 := zc2 BK172))
                 go_roundg k4
                 case measure => have := HJ2.out; have := HK2.out; have := HJ75.out; have := HK4.out; omega
                 case rel => exact ⟨(wrap64 (x64_4 + 1)), (y192), (.slice Ao142 y192.length co142), (by first | rfl | (simp; done) | (simp [*]; done)), H', ⟨by have := HJ2.out; have := HK2.out; have := HJ75.out; have := HK4.out; omega⟩, ⟨by (with_reducible repeat (first | apply Kd.R_alloc | apply Kd.R_drewN | apply Kd.R_drew)); exact Kd.R_mono (Kd.R_far (p := ⟨gb172, 1, none⟩) (Kd.R_types HO194.out BK172.out (by decide)) (fun _ hk => hk.2) (.slice Ao142 y192.length co142)) (fun _ hk => trivial)⟩, ⟨zK BK167⟩, ⟨zK BK168⟩, ⟨zK BK169⟩, ⟨by (with_reducible repeat (first | refine blk_drewN ?_ _ | refine blk_drew ?_ | refine blk_alloc ?_ _)); refine blk_put (cs := #[.int .i64 ji25, u173001]) ?_ 1 _ rfl; (with_reducible repeat (first | refine blk_drewN ?_ _ | refine blk_drew ?_ | refine blk_alloc ?_ _)); exact BK172.out⟩, ⟨zB HB⟩⟩
                ·
                 rw [if_neg c131] at H
                 exact absurd H (by simp)
               ·
                rw [if_neg c130] at H
                have c130b0 : (((rd_T35 l1_1 x64_4).f0) == 1) = false := beq_eq_false_iff_ne.mpr c130
                have c130b1 : (((rd_T35 l1_1 x64_4).f0) != 1) = true := bne_iff_ne.mpr c130
                by_cases c144 : x173001_4.length < 4398046511104
                ·
                 rw [if_pos c144] at H
                 have LMc144 := Aside0.mk c144
                 clear c144
                 obtain ⟨y195, hy195⟩ : ∃ y_ : List (S35), y_ = (x173001_4 ++ [(⟨(rd_T35 l1_1 x64_4).f0, (rd_T35 l1_1 x64_4).f1, wrap64 (((rd_T35 l1_1 x64_4).f2) + x6_75), (rd_T35 l1_1 x64_4).f3⟩ : S35)]) := ⟨_, rfl⟩
                 replace H : (counter_Join.l1 k4 x6_75 l1_1 (l1_1.length : Int) (wrap64 (x64_4 + 1)) ji25 y195) = some (r1, r2, r3) := by first | (rw [hy195]; with_reducible exact H) | (have H2_ := (Option.bind_some _ _).symm.trans H; rw [hy195]; with_reducible exact H2_) | (have H2_ := (Option.bind_some _ _).symm.trans H; with_reducible exact H2_) | with_reducible exact H | (rw [hy195]; exact H) | exact H
                 have Ny195 := Aside0.mk hy195
                 clear hy195
                 have H' := Aside0.mk H
                 clear H
                 have hnb145 := NB185_167.out
                 have hnc145 := NB167_185.out
                 have hnb146 := NB185_168.out
                 have hnc146 := NB168_185.out
                 have hnb147 := NB185_169.out
                 have hnc147 := NB169_185.out
                 have hnb148 := NB185_172.out
                 have hnc148 := NB172_185.out
                 have hz149 := zc4 BK185
                 have hnb150 := NB172_167.out
                 have hnc150 := NB167_172.out
                 have hnb151 := NB172_168.out
                 have hnc151 := NB168_172.out
                 have hnb152 := NB172_169.out
                 have hnc152 := NB169_172.out
                 have hz153 := zc2 BK172
                 go_wp2_with (first | ((with_reducible refine gate_builtin (b := .append) (xs := #[.tmp 85, .tmp 87]) rfl ?_); at_builtin; refine Kd.R_append k35 (w0 := w) w.heap.size rfl (.tmp 85) (.tmp 87) 22 35 (.agg #[(.int .i64 0), (.int .i64 0), (.int .i64 0), (.int .i64 0)]) 32 rfl Try.underlying22 info35 rfl (by decide) (by omega) u173001 x173001_4 (⟨(rd_T35 l1_1 x64_4).f0, (rd_T35 l1_1 x64_4).f1, wrap64 (((rd_T35 l1_1 x64_4).f2) + x6_75), (rd_T35 l1_1 x64_4).f3⟩ : S35) [.int .i64 ((rd_T35 l1_1 x64_4).f0), .int .i64 ((rd_T35 l1_1 x64_4).f1), .int .i64 (wrap64 (((rd_T35 l1_1 x64_4).f2) + x6_75)), .int .i64 ((rd_T35 l1_1 x64_4).f3)] (fun k_ => k_ ≠ gb185) (fun _ => False) rfl (by first | (go_simp; done) | (go_simp; rfl)) ?aP (fun _ hk => hk.elim) ?aF ?aO ?aB ?aS ?aL ?_; (case aP => exact k35_mkM _ _ _ (⟨(rd_T35 l1_1 x64_4).f0, (rd_T35 l1_1 x64_4).f1, wrap64 (((rd_T35 l1_1 x64_4).f2) + x6_75), (rd_T35 l1_1 x64_4).f3⟩ : S35)); (case aB => exact (zB HB)); (case aF => exact (fun k_ hk => Kd.freshB (g := gb185) (o := .cells #[.int .i64 ((rd_T35 l1_1 x64_4).f0), .int .i64 ((rd_T35 l1_1 x64_4).f1), .int .i64 (wrap64 (((rd_T35 l1_1 x64_4).f2) + x6_75)), .int .i64 ((rd_T35 l1_1 x64_4).f3)] 35 (0, 0)) (by (with_reducible repeat (first | refine blk_drewN ?_ _ | refine blk_drew ?_ | refine blk_alloc ?_ _)); refine blk_put (cs := #[.int .i64 ((rd_T35 l1_1 x64_4).f0), .int .i64 ((rd_T35 l1_1 x64_4).f1), .int .i64 ((rd_T35 l1_1 x64_4).f2), .int .i64 ((rd_T35 l1_1 x64_4).f3)]) ?_ 2 _ rfl; (with_reducible repeat (first | refine blk_drewN ?_ _ | refine blk_drew ?_ | refine blk_alloc ?_ _)); exact BK185.out) k_ hk)); (case aO => exact (by (with_reducible repeat (first | apply Kd.R_alloc | apply Kd.R_drewN | apply Kd.R_drew)); exact Kd.R_mono (Kd.R_far (p := ⟨gb185, 2, none⟩) (Kd.R_mono HO_173001.out (fun k_ hk => (⟨hk, hk⟩ : _ ∧ k_ ≠ gb185))) (fun _ hk => hk.2) (.int .i64 (wrap64 (((rd_T35 l1_1 x64_4).f2) + x6_75)))) (fun _ hk => hk.1))); (case aS => exact (below_size (zB HB))); (case aL => have := LMc144.out; omega); intro v196 w154 ho hb hg hat; rw [← Ny195.out] at ho; have n0_ := Aside0.mk (blk_grown (g := gb167) (o := .cells #[.int .i64 a0_0, .slice A0_1 l0_1.length c0_1] 24 (0, 0)) (zK BK167) hg (Kd.R_ne HO_173001.out BK167.out (by decide))); have n1_ := Aside0.mk (blk_grown (g := gb168) (o := .cells #[.int .i64 a1_0, .slice (some ad184) l1_1.length c1_1] 24 (0, 0)) (zK BK168) hg (Kd.R_ne HO_173001.out BK168.out (by decide))); have n2_ := Aside0.mk (blk_grown (g := gb169) (o := .cells #[.int .i64 0, .slice none 0 0] 24 (0, 0)) (zK BK169) hg (Kd.R_ne HO_173001.out BK169.out (by decide))); have n3_ := Aside0.mk (blk_grown (g := gb172) (o := .cells #[.int .i64 ji25, u173001] 24 (0, 0)) (zK BK172) hg (Kd.R_ne HO_173001.out BK172.out (by decide))); have n4_ := Aside0.mk (blk_grown (g := gb185) (o := .cells #[.int .i64 ((rd_T35 l1_1 x64_4).f0), .int .i64 ((rd_T35 l1_1 x64_4).f1), .int .i64 (wrap64 (((rd_T35 l1_1 x64_4).f2) + x6_75)), .int .i64 ((rd_T35 l1_1 x64_4).f3)] 35 (0, 0)) (by (with_reducible repeat (first | refine blk_drewN ?_ _ | refine blk_drew ?_ | refine blk_alloc ?_ _)); refine blk_put (cs := #[.int .i64 ((rd_T35 l1_1 x64_4).f0), .int .i64 ((rd_T35 l1_1 x64_4).f1), .int .i64 ((rd_T35 l1_1 x64_4).f2), .int .i64 ((rd_T35 l1_1 x64_4).f3)]) ?_ 2 _ rfl; (with_reducible repeat (first | refine blk_drewN ?_ _ | refine blk_drew ?_ | refine blk_alloc ?_ _)); exact BK185.out) hg (Kd.R_away HO_173001.out (fun _ hk => hk))); have n5_ := Aside0.mk (hb); have n6_ := Aside0.mk (ho); clear BK167; clear BK168; clear BK169; clear BK172; clear BK185; clear HB; clear HO_173001; have BK167 := n0_; have BK168 := n1_; have BK169 := n2_; have BK172 := n3_; have BK185 := n4_; have HB := n5_; have HO197 := n6_; clear n0_ n1_ n2_ n3_ n4_ n5_ n6_; clear ho hb hg hat; obtain ⟨Ao155, co155, eo155⟩ := Kd.R_slice HO197.out; subst eo155; have hz156 := zc2 BK172))
                 go_roundg k4
                 case measure => have := HJ2.out; have := HK2.out; have := HJ75.out; have := HK4.out; omega
                 case rel => exact ⟨(wrap64 (x64_4 + 1)), (y195), (.slice Ao155 y195.length co155), (by first | rfl | (simp; done) | (simp [*]; done)), H', ⟨by have := HJ2.out; have := HK2.out; have := HJ75.out; have := HK4.out; omega⟩, ⟨by (with_reducible repeat (first | apply Kd.R_alloc | apply Kd.R_drewN | apply Kd.R_drew)); exact Kd.R_mono (Kd.R_far (p := ⟨gb172, 1, none⟩) (Kd.R_types HO197.out BK172.out (by decide)) (fun _ hk => hk.2) (.slice Ao155 y195.length co155)) (fun _ hk => trivial)⟩, ⟨zK BK167⟩, ⟨zK BK168⟩, ⟨zK BK169⟩, ⟨by (with_reducible repeat (first | refine blk_drewN ?_ _ | refine blk_drew ?_ | refine blk_alloc ?_ _)); refine blk_put (cs := #[.int .i64 ji25, u173001]) ?_ 1 _ rfl; (with_reducible repeat (first | refine blk_drewN ?_ _ | refine blk_drew ?_ | refine blk_alloc ?_ _)); exact BK172.out⟩, ⟨zB HB⟩⟩
                ·
                 rw [if_neg c144] at H
                 exact absurd H (by simp)
             ·
              rw [if_neg c92] at H
              exact absurd H (by simp)
            ·
             rw [if_neg c91] at H
             exact absurd H (by simp)
           ·
            rw [if_neg c90] at H
            have c90b0 : decide (x64_4 < (l1_1.length : Int)) = false := decide_eq_false c90
            clear c90
            by_cases c157 : (x173001_4.length : Int) > 2000
            ·
             rw [if_pos c157] at H
             have c157b0 : decide (2000 < (x173001_4.length : Int)) = true := decide_eq_true c157
             have c157b1 : decide (2000 < x173001_4.length) = true := decide_eq_true (by omega)
             clear c157
             simp only [Option.some.injEq, Prod.mk.injEq] at H
             obtain ⟨rfl, rfl, rfl⟩ := H
             have hnb158 := NB172_167.out
             have hnc158 := NB167_172.out
             have hnb159 := NB172_168.out
             have hnc159 := NB168_172.out
             have hnb160 := NB172_169.out
             have hnc160 := NB169_172.out
             have hz161 := zc2 BK172
             obtain ⟨Ao162, co162, eo162⟩ := Kd.R_slice HO_173001.out
             subst eo162
             have hnb163 := NB169_167.out
             have hnc163 := NB167_169.out
             have hnb164 := NB169_168.out
             have hnc164 := NB168_169.out
             have hz165 := zc2 BK169
             go_wp2
             refine bodyPost_ret (results_ct rfl _ _ gb169 24 #[.int .i64 0, .slice none 0 0] (0, 0) _ rfl (by (with_reducible repeat (first | refine blk_drewN ?_ _ | refine blk_drew ?_ | refine blk_alloc ?_ _)); refine blk_put (cs := #[.int .i64 0, .slice none 0 0]) ?_ 1 _ rfl; (with_reducible repeat (first | refine blk_drewN ?_ _ | refine blk_drew ?_ | refine blk_alloc ?_ _)); refine blk_put (cs := #[.int .i64 0, .slice none 0 0]) ?_ 0 _ rfl; (with_reducible repeat (first | refine blk_drewN ?_ _ | refine blk_drew ?_ | refine blk_alloc ?_ _)); exact BK169.out) Try.underlying24 rfl (by kernel_rfl)) rfl ?_
             exact ⟨_, by first | rfl | (simp [errW_none, errW_some] <;> rfl) | (simp only [← hji25]; first | rfl | (simp [errW_none, errW_some] <;> rfl)) | (simp [*, errW_none, errW_some] <;> rfl), by first | exact Kd.R_nil _ _ _ _ _ | exact Kd.N_nil _ _ _ _ _ | exact Kd.V_nil _ _ _ _ _ | exact Kd.Q_nil _ _ _ _ _ | exact Kd.S_nil _ _ _ _ _, zB HB⟩
            ·
             rw [if_neg c157] at H
             have c157b0 : decide (2000 < (x173001_4.length : Int)) = false := decide_eq_false c157
             have c157b1 : decide (2000 < x173001_4.length) = false := decide_eq_false (by omega)
             clear c157
             simp only [Option.some.injEq, Prod.mk.injEq] at H
             obtain ⟨rfl, rfl, rfl⟩ := H
             have hnb166 := NB172_167.out
             have hnc166 := NB167_172.out
             have hnb167 := NB172_168.out
             have hnc167 := NB168_172.out
             have hnb168 := NB172_169.out
             have hnc168 := NB169_172.out
             have hz169 := zc2 BK172
             obtain ⟨Ao170, co170, eo170⟩ := Kd.R_slice HO_173001.out
             subst eo170
             have hnb171 := NB169_167.out
             have hnc171 := NB167_169.out
             have hnb172 := NB169_168.out
             have hnc172 := NB168_169.out
             have hz173 := zc2 BK169
             go_wp2
             refine bodyPost_ret (results_ct rfl _ _ gb169 24 #[.int .i64 ji25, .slice Ao170 x173001_4.length co170] (0, 0) _ rfl (by (with_reducible repeat (first | refine blk_drewN ?_ _ | refine blk_drew ?_ | refine blk_alloc ?_ _)); refine blk_put (cs := #[.int .i64 ji25, .slice none 0 0]) ?_ 1 _ rfl; (with_reducible repeat (first | refine blk_drewN ?_ _ | refine blk_drew ?_ | refine blk_alloc ?_ _)); refine blk_put (cs := #[.int .i64 0, .slice none 0 0]) ?_ 0 _ rfl; (with_reducible repeat (first | refine blk_drewN ?_ _ | refine blk_drew ?_ | refine blk_alloc ?_ _)); exact BK169.out) Try.underlying24 rfl (by kernel_rfl)) rfl ?_
             exact ⟨_, by first | rfl | (simp [errW_none, errW_some] <;> rfl) | (simp only [← hji25]; first | rfl | (simp [errW_none, errW_some] <;> rfl)) | (simp [*, errW_none, errW_some] <;> rfl), by (with_reducible repeat (first | apply Kd.R_alloc | apply Kd.R_drewN | apply Kd.R_drew)); exact Kd.R_mono (zRf2 (g := gb169) (Kd.R_types HO_173001.out BK169.out (by decide))) (fun _ hk => trivial), zB HB⟩

end Go.Proofs.Ytcdmgeceahmngaa.GC
