/- The functions of one seat as Lean functions, each with its contract: the call of the Go function returns what the Lean function answers. Written by a program of this session out of the translation; contracts made by hand are laid between. -/
import Derived.Test.YtpemcbjdlpajlaaG1x0
import Derived.Test.YtpemcbjdlpajlaaG1x5
namespace Go.Proofs.Ytpemcbjdlpajlaa.G1
open Go.RowKit Go.Proofs.YtpemcbjdlpajlaaW.PrintWords Go.Proofs.YtpemcbjdlpajlaaW.PrintLast Go.Proofs.YtpemcbjdlpajlaaW.PrintMore
attribute [local go_sem] max2_int min2_int max_two min_two max_three min_three max_four min_four   -- for this text's walks alone
set_option linter.unusedVariables false
set_option linter.unusedSimpArgs false

/-! ### api_Rule: function 31 -/
def api_Rule.f (l0 : List (S37)) : Option ((List (S37))) := (some (([] : List (S37)) : List (S37))).bind fun y594 => (if y594.length + l0.length < 5864062014805 then (some (y594 ++ l0)) else (none))
set_option maxHeartbeats 8000000 in
set_option maxRecDepth 100000 in
theorem api_Rule.calls (A0 : Option Addr) (c0 : Nat) (l0 : List (S37)) (r : List (S37)) (w : World) (hr0 : Kd.C k37 w A0 l0.length l0) (hc0 : l0.length ≤ c0) (h : api_Rule.f l0 = some r) :
  Calls Try.prog 31 #[.slice A0 l0.length c0] w fun e w' => ∃ v0_ : Value, e = .returned (v0_) ∧ Kd.R k37 37 w' w.heap.size (fun _ => True) v0_ r ∧ Below w.heap.size w w' := by
 cases A0 with
 | none =>
  have he : l0 = [] := by
   cases l0 with
   | nil => rfl
   | cons a t => obtain ⟨ad, e, _⟩ := hr0.2.2 (by simp); cases e
  subst he
  obtain rfl : r = [] := by simpa [api_Rule.f] using h.symm
  have hq : ∀ W n c, (binOp .eql 38 (.slice none n c) (.slice none 0 0)).run Try.prog W = .ok (.bool true) W := fun W n c => Lib.run_eql_slice_nil W 38 37 none n c 0 0 Try.underlying38
  clear h hr0 hc0
  go_enter Try.func31, Try.ntmps31
  go_wp2
  go_ret
  exact ⟨_, rfl, Kd.R_nil _ _ _ _ _, Below.refl _ _⟩
 | some ad0_ =>
  have HR0 := Aside0.mk hr0
  have HC0 := Aside0.mk hc0
  clear hr0 hc0
  have HB := Aside0.mk (Below.refl w.heap.size w)
  have H : ((some (([] : List (S37)) : List (S37))).bind fun y594 => (if y594.length + l0.length < 5864062014805 then (some (y594 ++ l0)) else (none))) = some r := h
  clear h
  obtain ⟨y594, hy594⟩ : ∃ y_ : List (S37), y_ = (([] : List (S37))) := ⟨_, rfl⟩
  replace H : (if y594.length + l0.length < 5864062014805 then (some (y594 ++ l0)) else (none)) = some r := by first | (rw [hy594]; with_reducible exact H) | (have H2_ := (Option.bind_some _ _).symm.trans H; rw [hy594]; with_reducible exact H2_) | (have H2_ := (Option.bind_some _ _).symm.trans H; with_reducible exact H2_) | with_reducible exact H | (rw [hy594]; exact H) | exact H
  have Ny594 := Aside0.mk hy594
  clear hy594
  by_cases c2 : y594.length + l0.length < 5864062014805
  ·
   rw [if_pos c2] at H
   have LMc2 := Aside0.mk c2
   clear c2
   obtain ⟨y597, hy597⟩ : ∃ y_ : List (S37), y_ = (y594 ++ l0) := ⟨_, rfl⟩
   replace H : (some y597) = some r := by first | (rw [hy597]; with_reducible exact H) | (have H2_ := (Option.bind_some _ _).symm.trans H; rw [hy597]; with_reducible exact H2_) | (have H2_ := (Option.bind_some _ _).symm.trans H; with_reducible exact H2_) | with_reducible exact H | (rw [hy597]; exact H) | exact H
   have Ny597 := Aside0.mk hy597
   clear hy597
   obtain rfl := Option.some.inj H
   have hq : ∀ W n c, (binOp .eql 38 (.slice (some ad0_) n c) (.slice none 0 0)).run Try.prog W = .ok (.bool false) W := fun W n c => Lib.run_eql_slice_nil W 38 37 (some ad0_) n c 0 0 Try.underlying38
   go_enter Try.func31, Try.ntmps31
   go_wp2_with (first | ((with_reducible refine gate_dst (N := 5) rfl ?_); refine Kd.R_lit k37 _ 37 ?hg (N := 5) ?hd (xs := ([] : List (S37))) (inner := []) (ok := fun _ => True) (okp := fun _ => True) ?hr ?hp (fun _ hk => hk) trivial (Below.refl _ _) (Nat.le_refl _) (by simp) ?_; (case hd => rfl); (case hg => rfl); (case hr => first | (go_simp; done) | (go_simp; rfl)); (case hp => exact (Reps.none _ _)); intro v595 w3 ho4 hb hg_ hnew_; clear hg_ hnew_; (first | rw [← Ny594.out] at ho4 | (simp only [Int.reduceToNat] at ho4; rw [← Ny594.out] at ho4)); have HO596 := Aside0.mk (Kd.R_lower ho4 (below_size (zB HB))); replace HB := Aside0.mk (below_step (zB HB) hb); clear hb ho4) | ((with_reducible refine gate_builtin (b := .append) (xs := #[.tmp 5, .tmp 6]) rfl ?_); at_builtin; refine Kd.R_append_rows k37 (w0 := w) w.heap.size rfl (.tmp 5) (.tmp 6) 38 37 (.agg #[(.int .i64 0), (.int .i64 0), (.int .i64 0)]) 24 rfl Try.underlying38 info37 rfl (by decide) (by omega) v595 y594 l0 _ _ _ (fun _ => True) (fun _ => False) rfl rfl ?aO ?aR (fun _ _ h => h) (fun _ h => h.elim) ?aF ?aB ?aS ?aL ?_; (case aR => exact zC ((Kd.C_below HR0.out HB.out))); (case aB => exact (zB HB)); (case aF => exact (fun _ _ => trivial)); (case aO => exact (zR HO596)); (case aS => exact (below_size (zB HB))); (case aL => have := LMc2.out; omega); intro v598 w5 ho hb hg hat; rw [← Ny597.out] at ho; have n0_ := Aside0.mk (hb); have n1_ := Aside0.mk (ho); clear HB; clear HO596; have HB := n0_; have HO599 := n1_; clear n0_ n1_; clear ho hb hg hat))
   go_ret
   exact ⟨_, by first | rfl | (simp [errW_none, errW_some] <;> rfl) | (simp [*, errW_none, errW_some] <;> rfl), zR HO599, zB HB⟩
  ·
   rw [if_neg c2] at H
   exact absurd H (by simp)

/-! ### tape_Mirror: function 19 -/
mutual
def tape_Mirror.l0 : Nat → List (List (S37)) → Int → Int → Int → Int → List (List (S37)) → Option (Int × Int × (List (List (S37))) × Int)
 | 0, _, _, _, _, _, _ => none
 | k + 1, x19, x20, x21, x604000, x604001, x604002 => if x21 < x20 then (if 0 ≤ x21 then (if x21 < (x19.length : Int) then ((api_Rule.f (rd_L2 x19 x21)).bind fun t605 => (tape_Mirror.l1 k t605 x19 x20 x21 (t605.length : Int) 0 x604000 x604001 x604002)) else (none)) else (none)) else (some (x604000, x604001, x604002, 0))
def tape_Mirror.l1 : Nat → List (S37) → List (List (S37)) → Int → Int → Int → Int → Int → Int → List (List (S37)) → Option (Int × Int × (List (List (S37))) × Int)
 | 0, _, _, _, _, _, _, _, _, _ => none
 | k + 1, x7, x19, x20, x21, x28, x29, x604000, x604001, x604002 => if x29 < x28 then (if 0 ≤ x29 then (if x29 < (x7.length : Int) then (tape_Mirror.l1 k (x7.set (x29 : Int).toNat (⟨(rd_T37 x7 x29).f0, wrap64 (-((rd_T37 x7 x29).f1)), (rd_T37 x7 x29).f2⟩ : S37)) x19 x20 x21 x28 (wrap64 (x29 + 1)) x604000 x604001 x604002) else (none)) else (none)) else (if x604002.length < 5864062014805 then (tape_Mirror.l0 k x19 x20 (wrap64 (x21 + 1)) x604000 x604001 (x604002 ++ [x7])) else (none))
end
def tape_Mirror.f (k : Nat) (a0_0 : Int) (a0_1 : Int) (l0_2 : List (List (S37))) : Option (Int × Int × (List (List (S37))) × Int) := (tape_Valid.f k a0_0 a0_1 l0_2).bind fun t602 => (if t602 = true then (tape_Mirror.l0 k l0_2 (l0_2.length : Int) 0 a0_0 a0_1 ([] : List (List (S37)))) else (some (0, 0, ([] : List (List (S37))), 1)))
theorem tape_Mirror.mono_l : ∀ k, (∀ y0 y1 y2 y3 y4 y5, LeO (tape_Mirror.l0 k y0 y1 y2 y3 y4 y5) (tape_Mirror.l0 (k + 1) y0 y1 y2 y3 y4 y5)) ∧ (∀ y0 y1 y2 y3 y4 y5 y6 y7 y8, LeO (tape_Mirror.l1 k y0 y1 y2 y3 y4 y5 y6 y7 y8) (tape_Mirror.l1 (k + 1) y0 y1 y2 y3 y4 y5 y6 y7 y8))
 | 0 => ⟨fun _ _ _ _ _ _ r h => by simp [tape_Mirror.l0] at h, fun _ _ _ _ _ _ _ _ _ r h => by simp [tape_Mirror.l1] at h⟩
 | k + 1 => by
  obtain ⟨ih0, ih1⟩ := tape_Mirror.mono_l k
  refine ⟨?_, ?_⟩
  ·
   intro y0 y1 y2 y3 y4 y5
   unfold tape_Mirror.l0
   repeat' first
   | (with_reducible exact ih0 _ _ _ _ _ _)
   | (with_reducible exact ih1 _ _ _ _ _ _ _ _ _)
   | (with_reducible exact tape_Valid.mono _ _ _ _)
   | (with_reducible exact LeO.refl _)
   | (with_reducible exact LeO.none _)
   | (with_reducible refine LeO.ite ?_ ?_)
   | (with_reducible refine LeO.bind ?_ (fun _ => ?_))
   | exact ih0 _ _ _ _ _ _
   | exact ih1 _ _ _ _ _ _ _ _ _
   | exact tape_Valid.mono _ _ _ _
   | exact LeO.none _
   | refine LeO.ite ?_ ?_
   | refine LeO.bind ?_ (fun _ => ?_)
  ·
   intro y0 y1 y2 y3 y4 y5 y6 y7 y8
   unfold tape_Mirror.l1
   repeat' first
   | (with_reducible exact ih0 _ _ _ _ _ _)
   | (with_reducible exact ih1 _ _ _ _ _ _ _ _ _)
   | (with_reducible exact tape_Valid.mono _ _ _ _)
   | (with_reducible exact LeO.refl _)
   | (with_reducible exact LeO.none _)
   | (with_reducible refine LeO.ite ?_ ?_)
   | (with_reducible refine LeO.bind ?_ (fun _ => ?_))
   | exact ih0 _ _ _ _ _ _
   | exact ih1 _ _ _ _ _ _ _ _ _
   | exact tape_Valid.mono _ _ _ _
   | exact LeO.none _
   | refine LeO.ite ?_ ?_
   | refine LeO.bind ?_ (fun _ => ?_)
theorem tape_Mirror.mono : ∀ a0 a1 a2 k, LeO (tape_Mirror.f k a0 a1 a2) (tape_Mirror.f (k + 1) a0 a1 a2) := by
 intro a0 a1 a2 k
 obtain ⟨ih0, ih1⟩ := tape_Mirror.mono_l k
 unfold tape_Mirror.f
 repeat' first
   | (with_reducible exact ih0 _ _ _ _ _ _)
   | (with_reducible exact ih1 _ _ _ _ _ _ _ _ _)
   | (with_reducible exact tape_Valid.mono _ _ _ _)
   | (with_reducible exact LeO.refl _)
   | (with_reducible exact LeO.none _)
   | (with_reducible refine LeO.ite ?_ ?_)
   | (with_reducible refine LeO.bind ?_ (fun _ => ?_))
   | exact ih0 _ _ _ _ _ _
   | exact ih1 _ _ _ _ _ _ _ _ _
   | exact tape_Valid.mono _ _ _ _
   | exact LeO.none _
   | refine LeO.ite ?_ ?_
   | refine LeO.bind ?_ (fun _ => ?_)
set_option maxHeartbeats 8000000 in
set_option maxRecDepth 100000 in
theorem tape_Mirror.calls (k : Nat) (a0_0 : Int) (a0_1 : Int) (A0_2 : Option Addr) (c0_2 : Nat) (l0_2 : List (List (S37))) (r1 : Int) (r2 : Int) (r3 : List (List (S37))) (r4 : Int) (w : World) (hr0_2 : Kd.C (Kd.slice 37 k37) w A0_2 l0_2.length l0_2) (hc0_2 : l0_2.length ≤ c0_2) (h : tape_Mirror.f k a0_0 a0_1 l0_2 = some (r1, r2, r3, r4)) :
  Calls Try.prog 19 #[.agg #[.int .i64 a0_0, .int .i64 a0_1, .slice A0_2 l0_2.length c0_2]] w fun e w' => ∃ v2_ : Value, e = .returned (.tuple #[.agg #[.int .i64 r1, .int .i64 r2, v2_], .int .i64 r4]) ∧ Kd.S (Kd.slice 37 k37) 38 w' w.heap.size (fun _ => True) v2_ r3 ∧ Below w.heap.size w w' := by
 have hu24 := Try.underlying24
 have HR0_2 := Aside0.mk hr0_2
 have HC0_2 := Aside0.mk hc0_2
 clear hr0_2 hc0_2
 have HB := Aside0.mk (Below.refl w.heap.size w)
 have H : ((tape_Valid.f k a0_0 a0_1 l0_2).bind fun t602 => (if t602 = true then (tape_Mirror.l0 k l0_2 (l0_2.length : Int) 0 a0_0 a0_1 ([] : List (List (S37)))) else (some (0, 0, ([] : List (List (S37))), 1)))) = some (r1, r2, r3, r4) := h
 clear h
 replace H := Option.bind_eq_some_iff.mp H
 obtain ⟨t602, A20, H⟩ := H
 replace H : (if t602 = true then (tape_Mirror.l0 k l0_2 (l0_2.length : Int) 0 a0_0 a0_1 ([] : List (List (S37)))) else (some (0, 0, ([] : List (List (S37))), 1))) = some (r1, r2, r3, r4) := H
 have A2 := Aside0.mk A20
 clear A20
 have HC3 := Aside0.mk H
 clear H
 go_enter Try.func19, Try.ntmps19
 go_upto_if 11 with (first | ((with_reducible refine gate_dst (N := 1) rfl ?_); refine box_event ?hg (N := 1) ?hd (cs := #[.int .i64 a0_0, .int .i64 a0_1, .slice A0_2 l0_2.length c0_2]) (t := 24) ?hr ?_; (case hd => rfl); (case hg => rfl); (case hr => first | (go_simp; done) | (go_simp; rfl)); intro gb600 hg w4 hbox hb; have BK600 := Aside0.mk (hbox); have GW600 := Aside0.mk ((by rw [hg]; exact (below_size (zB HB)) : w.heap.size ≤ gb600)); have GE600 := Aside0.mk ((by rw [hg]; exact (below_size (zB HB)) : w.heap.size ≤ gb600)); replace HB := Aside0.mk (below_step (zB HB) hb); clear hb hbox hg) | ((with_reducible refine gate_dst (N := 2) rfl ?_); refine box_event ?hg (N := 2) ?hd (cs := #[.int .i64 0, .int .i64 0, .slice none 0 0]) (t := 24) ?hr ?_; (case hd => rfl); (case hg => rfl); (case hr => first | (go_simp; done) | (go_simp; rfl)); intro gb601 hg w5 hbox hb; have BK601 := Aside0.mk (hbox); have GW601 := Aside0.mk ((by rw [hg]; exact (below_size (zB HB)) : w.heap.size ≤ gb601)); have GE601 := Aside0.mk ((by rw [hg]; exact (below_size (zB HB)) : w.heap.size ≤ gb601)); have NB600_601 := Aside0.mk ((by rw [hg]; exact Nat.ne_of_lt (zL BK600) : gb600 ≠ gb601)); have NB601_600 := Aside0.mk ((by rw [hg]; exact Nat.ne_of_gt (zL BK600) : gb601 ≠ gb600)); replace BK600 := Aside0.mk (zb BK600 hb); replace HB := Aside0.mk (below_step (zB HB) hb); clear hb hbox hg; have hnb6 := NB600_601.out; have hnc6 := NB601_600.out; have hz7 := zc3 BK600) | ((with_reducible refine gate_callee (f := 30) rfl ?_); refine goesL_ (some 10) rfl rfl Try.func30 (by kernel_rfl) rfl #[.agg #[.int .i64 a0_0, .int .i64 a0_1, .slice A0_2 l0_2.length c0_2]] rfl (zm) ?_; (with_reducible refine (tape_Valid.calls k a0_0 a0_1 _ _ l0_2 t602 _ ?side1 ?side2 A2.out).mono ?_); (case side1 => exact zC ((Kd.C_below HR0_2.out HB.out))); (case side2 => exact HC0_2.out); rintro e w8 ⟨rfl, hb⟩; refine ⟨_, rfl, ?_⟩; replace BK600 := Aside0.mk (zb BK600 hb); replace BK601 := Aside0.mk (zb BK601 hb); replace HB := Aside0.mk (below_step (zB HB) hb); (try clear hb); (try clear hb2); (try clear hk); (try clear hi)))
 (try simp only [Act.put, zs, zs0, zs1])
 have H := HC3.out
 clear HC3
 by_cases c9 : t602 = true
 ·
  subst c9
  have H1 : (tape_Mirror.l0 k l0_2 (l0_2.length : Int) 0 a0_0 a0_1 ([] : List (List (S37)))) = some (r1, r2, r3, r4) := by rw [if_pos rfl] at H; exact H
  clear H
  have H := H1
  clear H1
  have H' := Aside0.mk H
  clear H
  have hnb10 := NB600_601.out
  have hnc10 := NB601_600.out
  have hz11 := zc3 BK600
  go_wp2_with (first | ((with_reducible refine gate_dst (N := 4) rfl ?_); refine box_event ?hg (N := 4) ?hd (cs := #[.int .i64 0, .int .i64 0, .slice none 0 0]) (t := 24) ?hr ?_; (case hd => rfl); (case hg => rfl); (case hr => first | (go_simp; done) | (go_simp; rfl)); intro gb603 hg w12 hbox hb; have BK603 := Aside0.mk (hbox); have GW603 := Aside0.mk ((by rw [hg]; exact (below_size (zB HB)) : w.heap.size ≤ gb603)); have GE603 := Aside0.mk ((by rw [hg]; exact (below_size (zB HB)) : w.heap.size ≤ gb603)); have NB600_603 := Aside0.mk ((by rw [hg]; exact Nat.ne_of_lt (zL BK600) : gb600 ≠ gb603)); have NB603_600 := Aside0.mk ((by rw [hg]; exact Nat.ne_of_gt (zL BK600) : gb603 ≠ gb600)); have NB601_603 := Aside0.mk ((by rw [hg]; exact Nat.ne_of_lt (zL BK601) : gb601 ≠ gb603)); have NB603_601 := Aside0.mk ((by rw [hg]; exact Nat.ne_of_gt (zL BK601) : gb603 ≠ gb601)); replace BK600 := Aside0.mk (zb BK600 hb); replace BK601 := Aside0.mk (zb BK601 hb); replace HB := Aside0.mk (below_step (zB HB) hb); clear hb hbox hg; have hnb13 := NB603_600.out; have hnc13 := NB600_603.out; have hnb14 := NB603_601.out; have hnc14 := NB601_603.out; have hz15 := zc3 BK603; have hz16 := zc3 BK600))
  go_loopg [21] k (fun kq v21 w' => ∃ (x21_1 : Int) (x604002_1 : List (List (S37))) (u604002 : Value), v21 = .int .i64 x21_1 ∧ Aside0 (tape_Mirror.l0 kq l0_2 (l0_2.length : Int) x21_1 a0_0 a0_1 x604002_1 = some (r1, r2, r3, r4)) ∧ Aside0 (kq ≤ k) ∧ Aside0 (Kd.S (Kd.slice 37 k37) 38 w' w.heap.size (fun _ => True) u604002 x604002_1) ∧ Aside0 (w'.heap[gb600]? = some (.cells #[.int .i64 a0_0, .int .i64 a0_1, (.slice A0_2 l0_2.length c0_2)] 24 (0, 0))) ∧ Aside0 (w'.heap[gb601]? = some (.cells #[.int .i64 0, .int .i64 0, (.slice none 0 0)] 24 (0, 0))) ∧ Aside0 (w'.heap[gb603]? = some (.cells #[.int .i64 a0_0, .int .i64 a0_1, u604002] 24 (0, 0))) ∧ Aside0 (Below w.heap.size w w'))
  case atStart => exact ⟨(0), (([] : List (List (S37)))), (.slice none 0 0), (by first | rfl | (simp; done) | (simp [*]; done)), H', ⟨Nat.le_refl _⟩, ⟨by first | exact Kd.S_nil _ _ _ _ _ | exact Kd.N_nil _ _ _ _ _ | exact Kd.V_nil _ _ _ _ _ | exact Kd.Q_nil _ _ _ _ _ | exact Kd.R_nil _ _ _ _ _⟩, ⟨zK BK600⟩, ⟨zK BK601⟩, ⟨by (with_reducible repeat (first | refine blk_drewN ?_ _ | refine blk_drew ?_ | refine blk_alloc ?_ _)); refine blk_put (cs := #[.int .i64 a0_0, .int .i64 a0_1, .slice none 0 0]) ?_ 2 _ rfl; (with_reducible repeat (first | refine blk_drewN ?_ _ | refine blk_drew ?_ | refine blk_alloc ?_ _)); refine blk_put (cs := #[.int .i64 a0_0, .int .i64 0, .slice none 0 0]) ?_ 1 _ rfl; (with_reducible repeat (first | refine blk_drewN ?_ _ | refine blk_drew ?_ | refine blk_alloc ?_ _)); refine blk_put (cs := #[.int .i64 0, .int .i64 0, .slice none 0 0]) ?_ 0 _ rfl; (with_reducible repeat (first | refine blk_drewN ?_ _ | refine blk_drew ?_ | refine blk_alloc ?_ _)); exact BK603.out⟩, ⟨zB HB⟩⟩
  case round =>
   clear H'
   try clear c1
   try clear p2
   try clear c3
   try clear c6
   try clear c9
   try clear c10
   try clear c13
   try clear c14
   try clear hz11
   try clear hz15
   try clear hz16
   try clear hz7
   obtain ⟨x21_1, x604002_1, u604002, rfl, HA, HK1, HO_604002, BK600, BK601, BK603, HB⟩ := hrel
   cases gk with
   | zero => exact absurd HA.out (by simp [tape_Mirror.l0])
   | succ k1 =>
    have H := HA.out
    clear HA
    simp only [tape_Mirror.l0] at H
    by_cases c17 : x21_1 < (l0_2.length : Int)
    ·
     rw [if_pos c17] at H
     have c17b0 : decide (x21_1 < (l0_2.length : Int)) = true := decide_eq_true c17
     clear c17
     (first | rw [c17b0] | (simp only [i64_w, i32_w]; rw [c17b0]) | skip)
     (try rw [c17b1])
     by_cases c18 : 0 ≤ x21_1
     ·
      rw [if_pos c18] at H
      have c18b0 : decide (0 ≤ x21_1) = true := decide_eq_true c18
      clear c18
      by_cases c19 : x21_1 < (l0_2.length : Int)
      ·
       rw [if_pos c19] at H
       have c19b0 : decide (x21_1 < (l0_2.length : Int)) = true := decide_eq_true c19
       clear c19
       replace H := Option.bind_eq_some_iff.mp H
       obtain ⟨t605, A200, H⟩ := H
       replace H : (tape_Mirror.l1 k1 t605 l0_2 (l0_2.length : Int) x21_1 (t605.length : Int) 0 a0_0 a0_1 x604002_1) = some (r1, r2, r3, r4) := H
       have A20 := Aside0.mk A200
       clear A200
       have H' := Aside0.mk H
       clear H
       have p604 : 0 ≤ (x21_1 : Int) := of_decide_eq_true (by first | (with_reducible assumption) | assumption)
       have q604 : x21_1 < (l0_2.length : Int) := of_decide_eq_true (by first | (with_reducible assumption) | assumption)
       obtain ⟨ad604, A604_0, c604_0, e604, hx604_0, hl604_0, hi604_0⟩ := at_L2 HR0_2.out x21_1 p604 q604
       cases e604
       replace hx604_0 := (HB.out.cell (World.block_lt_of_cell? w _ hx604_0)).trans hx604_0
       have HR604_0 := Aside0.mk hi604_0
       have HC604_0 := Aside0.mk hl604_0
       clear hi604_0 hl604_0
       replace p604 := eq_true p604
       replace q604 := eq_true q604
       go_wp2_with (first | ((with_reducible refine gate_callee (f := 31) rfl ?_); refine goesL_ (some 26) rfl rfl Try.func31 (by kernel_rfl) rfl #[.slice A604_0 (rd_L2 l0_2 x21_1).length c604_0] rfl (zm) ?_; (with_reducible refine (api_Rule.calls _ _ (rd_L2 l0_2 x21_1) t605 _ ?side1 ?side2 A20.out).mono ?_); (case side1 => exact zC ((Kd.C_below HR604_0.out HB.out))); (case side2 => exact HC604_0.out); rintro e w21 ⟨v606, rfl, ho0, hb⟩; refine ⟨_, rfl, ?_⟩; have HO607 := Aside0.mk (Kd.R_lower ho0 (below_size (zB HB))); replace HO_604002 := Aside0.mk (Kd.S_elder' (zS HO_604002) (Kd.R_base ho0) hb); replace BK600 := Aside0.mk (zb BK600 hb); replace BK601 := Aside0.mk (zb BK601 hb); replace BK603 := Aside0.mk (zb BK603 hb); replace HB := Aside0.mk (below_step (zB HB) hb); (try clear hb); (try clear hb2); (try clear hk); (try clear hi); (try clear ho0); obtain ⟨Ao22, co22, eo22⟩ := Kd.R_slice HO607.out; subst eo22))
       go_loopg [29] k1 (fun kq v29 w' => ∃ (x7_2 : List (S37)) (x29_2 : Int), v29 = .int .i64 x29_2 ∧ Aside0 (tape_Mirror.l1 kq x7_2 l0_2 (l0_2.length : Int) x21_1 (t605.length : Int) x29_2 a0_0 a0_1 x604002_1 = some (r1, r2, r3, r4)) ∧ Aside0 (kq ≤ k1) ∧ Aside0 (Kd.R k37 37 w' w.heap.size (fun _ => True) (.slice Ao22 t605.length co22) x7_2) ∧ Aside0 (Kd.S (Kd.slice 37 k37) 38 w' w.heap.size (fun k_ => some k_ ≠ ((.slice Ao22 t605.length co22) : Value).ownBlock) u604002 x604002_1) ∧ Aside0 (w'.heap[gb600]? = some (.cells #[.int .i64 a0_0, .int .i64 a0_1, (.slice (some ad604) l0_2.length c0_2)] 24 (0, 0))) ∧ Aside0 (w'.heap[gb601]? = some (.cells #[.int .i64 0, .int .i64 0, (.slice none 0 0)] 24 (0, 0))) ∧ Aside0 (w'.heap[gb603]? = some (.cells #[.int .i64 a0_0, .int .i64 a0_1, u604002] 24 (0, 0))) ∧ Aside0 (Below w.heap.size w w'))
       case atStart => exact ⟨(t605), (0), (by first | rfl | (simp; done) | (simp [*]; done)), H', ⟨Nat.le_refl _⟩, ⟨zR HO607⟩, ⟨by (with_reducible repeat (first | apply Kd.S_alloc | apply Kd.S_drewN | apply Kd.S_drew)); exact Kd.S_mono HO_604002.out (fun _ hk => hk.2)⟩, ⟨zk BK600⟩, ⟨zk BK601⟩, ⟨zk BK603⟩, ⟨zB HB⟩⟩
       case round =>
        clear H'
        try clear c1
        try clear p2
        try clear c3
        try clear c6
        try clear p6
        try clear q6
        try clear hx6
        try clear c9
        try clear c10
        try clear c13
        try clear c14
        try clear c17
        try clear c17b0
        try clear c17b1
        try clear c18
        try clear c18b0
        try clear c19
        try clear c19b0
        try clear hz11
        try clear hz15
        try clear hz16
        try clear hz7
        try clear hx604_0
        try clear p2
        try clear p604
        try clear q604
        obtain ⟨x7_2, x29_2, rfl, HA, HK2, HO_7, HO_604002, BK600, BK601, BK603, HB⟩ := hrel
        have hl7_2 := (Kd.R_reads' HO_7.out).1
        rw [hl7_2] at HO_7
        (try simp only [hl7_2])
        (try simp only [hl7_2] at BK600)
        (try simp only [hl7_2] at BK601)
        (try simp only [hl7_2] at BK603)
        (try simp only [hl7_2] at HO_604002)
        cases gk with
        | zero => exact absurd HA.out (by simp [tape_Mirror.l1])
        | succ k2 =>
         have H := HA.out
         clear HA
         simp only [tape_Mirror.l1] at H
         by_cases c23 : x29_2 < (t605.length : Int)
         ·
          rw [if_pos c23] at H
          have c23b0 : decide (x29_2 < (t605.length : Int)) = true := decide_eq_true c23
          (try simp only [hl7_2] at c23b0)
          clear c23
          by_cases c24 : 0 ≤ x29_2
          ·
           rw [if_pos c24] at H
           have c24b0 : decide (0 ≤ x29_2) = true := decide_eq_true c24
           clear c24
           by_cases c25 : x29_2 < (x7_2.length : Int)
           ·
            rw [if_pos c25] at H
            have c25b0 : decide (x29_2 < (x7_2.length : Int)) = true := decide_eq_true c25
            (try simp only [hl7_2] at c25b0)
            clear c25
            obtain ⟨y609, hy609⟩ : ∃ y_ : List (S37), y_ = (x7_2.set (x29_2 : Int).toNat (⟨(rd_T37 x7_2 x29_2).f0, wrap64 (-((rd_T37 x7_2 x29_2).f1)), (rd_T37 x7_2 x29_2).f2⟩ : S37)) := ⟨_, rfl⟩
            replace H : (tape_Mirror.l1 k2 y609 l0_2 (l0_2.length : Int) x21_1 (t605.length : Int) (wrap64 (x29_2 + 1)) a0_0 a0_1 x604002_1) = some (r1, r2, r3, r4) := by first | (rw [hy609]; with_reducible exact H) | (have H2_ := (Option.bind_some _ _).symm.trans H; rw [hy609]; with_reducible exact H2_) | (have H2_ := (Option.bind_some _ _).symm.trans H; with_reducible exact H2_) | with_reducible exact H | (rw [hy609]; exact H) | exact H
            have Ny609 := Aside0.mk hy609
            clear hy609
            have H' := Aside0.mk H
            clear H
            have p608 : 0 ≤ (x29_2 : Int) := of_decide_eq_true (by first | (with_reducible assumption) | assumption)
            have q608 : x29_2 < (x7_2.length : Int) := of_decide_eq_true (by first | (with_reducible assumption) | assumption)
            obtain ⟨ad608, e608, hx608_0, hx608_1, hx608_2⟩ := at_T37 (Kd.R_reads' HO_7.out).2.2 x29_2 p608 q608
            cases e608
            replace p608 := eq_true p608
            replace q608 := eq_true q608
            have p26 : 0 ≤ (x29_2 : Int) := of_decide_eq_true (by first | (with_reducible assumption) | assumption)
            have q26 : (x29_2 : Int) < ((x7_2.length : Int) : Int) := of_decide_eq_true (by first | (with_reducible assumption) | assumption)
            obtain ⟨go26, co26, eo26, gb26, gl26, cl26, HG26⟩ := Kd.R_form HO_7.out (by omega)
            (first | cases eo26 | (injection eo26 with ea_ en_ ec_; (first | subst ea_ | (injection ea_ with ea_; subst ea_)); subst ec_; clear en_))
            have GB26 := Aside0.mk gb26
            have GG26 := Aside0.mk HG26
            clear gb26 gl26 HG26
            (first | simp only [add_plain] at hx608_0 | skip)
            (first | simp only [add_plain] at hx608_1 | skip)
            (first | simp only [add_plain] at hx608_2 | skip)
            obtain ⟨ce26, hcl26, hM26, hcc26, hfr26⟩ := Kd.R_elem HO_7.out z37 (x29_2 : Int) p26 q26
            obtain rfl := k37_openM hM26
            have hx26_0 : wr.cell? ⟨go26, (x29_2 : Int).toNat * 3, none⟩ = some (.int .i64 ((rd_T37 x7_2 x29_2).f0)) := hcc26 0 _ rfl
            have hx26_1 : wr.cell? ⟨go26, (x29_2 : Int).toNat * 3 + 1, none⟩ = some (.int .i64 ((rd_T37 x7_2 x29_2).f1)) := hcc26 1 _ rfl
            have hx26_2 : wr.cell? ⟨go26, (x29_2 : Int).toNat * 3 + 2, none⟩ = some (.int .i64 ((rd_T37 x7_2 x29_2).f2)) := hcc26 2 _ rfl
            have hf26_0 : wr.frozen? ⟨go26, (x29_2 : Int).toNat * 3, none⟩ = false := hfr26 0
            have hf26_1 : wr.frozen? ⟨go26, (x29_2 : Int).toNat * 3 + 1, none⟩ = false := hfr26 1
            have hf26_2 : wr.frozen? ⟨go26, (x29_2 : Int).toNat * 3 + 2, none⟩ = false := hfr26 2
            clear hcl26 hcc26 hfr26 hM26
            replace p26 := eq_true p26
            replace q26 := eq_true q26
            have HX27 := Aside0.mk (show Kd.R k37 37 wr w.heap.size (fun _ => True) (.slice (some ⟨go26, 0, none⟩) x7_2.length co22) x7_2 from (zR HO_7))
            obtain ⟨ce27, hcl27, hM27, hcc27, hfr27⟩ := Kd.R_elem HX27.out z37 (x29_2 : Int) (of_decide_eq_true (by first | (with_reducible assumption) | assumption)) (by have h_ : (x29_2 : Int) < ((x7_2.length : Int) : Int) := of_decide_eq_true (by first | (with_reducible assumption) | assumption); first | exact h_ | (have e_ := (Kd.R_reads' HO_7.out).1; omega) | simpa using h_)
            obtain rfl := k37_openM hM27
            have HP27 := Kd.R_seg HX27.out (x29_2 : Int) (of_decide_eq_true (by first | (with_reducible assumption) | assumption)) (by have h_ : (x29_2 : Int) < ((x7_2.length : Int) : Int) := of_decide_eq_true (by first | (with_reducible assumption) | assumption); first | exact h_ | (have e_ := (Kd.R_reads' HO_7.out).1; omega) | simpa using h_) (seg := [.int .i64 (wrap64 (-((rd_T37 x7_2 x29_2).f1)))]) (j := 1) hcl27 hcc27 (show 2 ≤ 3 from by decide) (x' := (⟨(rd_T37 x7_2 x29_2).f0, wrap64 (-((rd_T37 x7_2 x29_2).f1)), (rd_T37 x7_2 x29_2).f2⟩ : S37)) (k37_mkM _ _ _ (⟨(rd_T37 x7_2 x29_2).f0, wrap64 (-((rd_T37 x7_2 x29_2).f1)), (rd_T37 x7_2 x29_2).f2⟩ : S37) ) (fun _ hk => hk)
            have hx27_1 := hcc27 1 _ rfl
            (try simp only [show (k37).sz = 3 from rfl, Nat.mul_one, Nat.add_zero] at hx27_1)
            have hf27_1 := hfr27 1
            (try simp only [show (k37).sz = 3 from rfl, Nat.mul_one, Nat.add_zero] at hf27_1)
            clear hcl27 hcc27 hfr27 hM27
            go_wp2_with (first | ((with_reducible refine gate_store (t := 3) (p := 41) rfl ?_); refine store_event (t := 3) (p := 41) (v := ?vo_w28) (w1 := (wr.setCell ⟨go26, (x29_2 : Int).toNat * 3 + 1, none⟩ (.int .i64 (wrap64 (-((rd_T37 x7_2 x29_2).f1)))))) ?hg ?ho ?hn ?hr ?_; (case ho => rfl); (case hg => rfl); (case hn => rfl); (case hr => first | (go_simp; done) | (go_simp; rfl)); intro w28 hw; have hg : wr.grownBy w28 (some go26) := (by rw [hw]; exact HP27.2); have hp_ : Kd.R k37 37 w28 w.heap.size (fun _ => True) (.slice (some ⟨go26, 0, none⟩) x7_2.length co22) y609 := (by rw [hw, Ny609.out]; exact HP27.1); clear HP27; replace HO_604002 := Aside0.mk (Kd.S_after (v := (.slice (some ⟨go26, 0, none⟩) x7_2.length co22)) (v1 := (.slice (some ⟨go26, 0, none⟩) x7_2.length co22)) (ok := (fun _ => True)) (by (with_reducible repeat (first | apply Kd.S_alloc | apply Kd.S_drewN | apply Kd.S_drew)); exact Kd.S_mono HO_604002.out (fun _ hk => ⟨trivial, hk⟩)) hg (.inl rfl)); replace BK600 := Aside0.mk (blk_grown (g := gb600) (o := .cells #[.int .i64 a0_0, .int .i64 a0_1, .slice (some ad604) l0_2.length c0_2] 24 (0, 0)) (zk BK600) hg (Kd.R_ne HO_7.out BK600.out (by decide))); replace BK601 := Aside0.mk (blk_grown (g := gb601) (o := .cells #[.int .i64 0, .int .i64 0, .slice none 0 0] 24 (0, 0)) (zk BK601) hg (Kd.R_ne HO_7.out BK601.out (by decide))); replace BK603 := Aside0.mk (blk_grown (g := gb603) (o := .cells #[.int .i64 a0_0, .int .i64 a0_1, u604002] 24 (0, 0)) (zk BK603) hg (Kd.R_ne HO_7.out BK603.out (by decide))); replace HO_7 := Aside0.mk (hp_); replace HB := Aside0.mk ((by rw [hw]; exact below_set (HB.out) GB26.out : Below w.heap.size w w28)); clear hg hw hp_))
            (try simp only [← hl7_2])
            go_roundg k2
            case measure => have := HK1.out; have := HK2.out; omega
            case rel => exact ⟨(y609), (wrap64 (x29_2 + 1)), (by first | rfl | (simp; done) | (simp [*]; done)), H', ⟨by have := HK1.out; have := HK2.out; omega⟩, ⟨by (try simp only [hl7_2]); (with_reducible repeat (first | apply Kd.R_alloc | apply Kd.R_drewN | apply Kd.R_drew)); exact HO_7.out⟩, ⟨by (try simp only [hl7_2]); (with_reducible repeat (first | apply Kd.S_alloc | apply Kd.S_drewN | apply Kd.S_drew)); exact Kd.S_mono HO_604002.out (fun _ hk => hk.2)⟩, ⟨by (try simp only [hl7_2]); (with_reducible repeat (first | refine blk_drewN ?_ _ | refine blk_drew ?_ | refine blk_alloc ?_ _)); exact BK600.out⟩, ⟨by (try simp only [hl7_2]); (with_reducible repeat (first | refine blk_drewN ?_ _ | refine blk_drew ?_ | refine blk_alloc ?_ _)); exact BK601.out⟩, ⟨by (try simp only [hl7_2]); (with_reducible repeat (first | refine blk_drewN ?_ _ | refine blk_drew ?_ | refine blk_alloc ?_ _)); exact BK603.out⟩, ⟨zB HB⟩⟩
           ·
            rw [if_neg c25] at H
            exact absurd H (by simp)
          ·
           rw [if_neg c24] at H
           exact absurd H (by simp)
         ·
          rw [if_neg c23] at H
          have c23b0 : decide (x29_2 < (t605.length : Int)) = false := decide_eq_false c23
          (try simp only [hl7_2] at c23b0)
          clear c23
          by_cases c29 : x604002_1.length < 5864062014805
          ·
           rw [if_pos c29] at H
           have LMc29 := Aside0.mk c29
           clear c29
           obtain ⟨y610, hy610⟩ : ∃ y_ : List (List (S37)), y_ = (x604002_1 ++ [x7_2]) := ⟨_, rfl⟩
           replace H : (tape_Mirror.l0 k2 l0_2 (l0_2.length : Int) (wrap64 (x21_1 + 1)) a0_0 a0_1 y610) = some (r1, r2, r3, r4) := by first | (rw [hy610]; with_reducible exact H) | (have H2_ := (Option.bind_some _ _).symm.trans H; rw [hy610]; with_reducible exact H2_) | (have H2_ := (Option.bind_some _ _).symm.trans H; with_reducible exact H2_) | with_reducible exact H | (rw [hy610]; exact H) | exact H
           have Ny610 := Aside0.mk hy610
           clear hy610
           have H' := Aside0.mk H
           clear H
           have hnb30 := NB603_600.out
           have hnc30 := NB600_603.out
           have hnb31 := NB603_601.out
           have hnc31 := NB601_603.out
           have hz32 := zc3 BK603
           go_wp2_with (first | ((with_reducible refine gate_builtin (b := .append) (xs := #[.tmp 44, .tmp 46]) rfl ?_); at_builtin; refine Kd.S_append (Kd.slice 37 k37) (w0 := w) w.heap.size rfl (.tmp 44) (.tmp 46) 22 38 (.slice none 0 0) 24 rfl Try.underlying22 info38 rfl (by decide) (by omega) u604002 x604002_1 x7_2 [.slice Ao22 x7_2.length co22] (fun _ => True) (fun k_ => some k_ = (.slice Ao22 x7_2.length co22 : Value).ownBlock) rfl rfl ?aP (fun k_ hk_ => ((Kd.R_mono (ok' := fun k_ => ((fun _ => True)) k_ ∧ some k_ ≠ (u604002 : Value).ownBlock) (Kd.R_apart' (HO_7.out) (Kd.S_typed HO_604002.out) (by decide)) (fun k_ hk => ⟨trivial, hk.2⟩))).1 k_ hk_.symm) ?aF ?aO ?aB ?aS ?aL ?_; (case aP => exact Kd.M_row (Kd.R_mono (Kd.R_tight rfl (Kd.R_mono (ok' := fun k_ => ((fun _ => True)) k_ ∧ some k_ ≠ (u604002 : Value).ownBlock) (Kd.R_apart' (HO_7.out) (Kd.S_typed HO_604002.out) (by decide)) (fun k_ hk => ⟨trivial, hk.2⟩))) (fun _ h_ => h_))); (case aB => exact (zB HB)); (case aF => exact (fun _ _ => trivial)); (case aO => exact (by (with_reducible repeat (first | apply Kd.S_alloc | apply Kd.S_drewN | apply Kd.S_drew)); exact Kd.S_mono HO_604002.out (fun k_ hk => ⟨trivial, fun e_ => hk e_⟩))); (case aS => exact (below_size (zB HB))); (case aL => have := LMc29.out; omega); intro v611 w33 ho hb hg hat; rw [← Ny610.out] at ho; have n0_ := Aside0.mk (blk_grown (g := gb600) (o := .cells #[.int .i64 a0_0, .int .i64 a0_1, .slice (some ad604) l0_2.length c0_2] 24 (0, 0)) (zk BK600) hg (Kd.S_ne HO_604002.out BK600.out (by decide))); have n1_ := Aside0.mk (blk_grown (g := gb601) (o := .cells #[.int .i64 0, .int .i64 0, .slice none 0 0] 24 (0, 0)) (zk BK601) hg (Kd.S_ne HO_604002.out BK601.out (by decide))); have n2_ := Aside0.mk (blk_grown (g := gb603) (o := .cells #[.int .i64 a0_0, .int .i64 a0_1, u604002] 24 (0, 0)) (zk BK603) hg (Kd.S_ne HO_604002.out BK603.out (by decide))); have n3_ := Aside0.mk (hb); have n4_ := Aside0.mk (ho); clear BK600; clear BK601; clear BK603; clear HB; clear HO_604002; clear HO_7; have BK600 := n0_; have BK601 := n1_; have BK603 := n2_; have HB := n3_; have HO612 := n4_; clear n0_ n1_ n2_ n3_ n4_; clear ho hb hg hat; obtain ⟨Ao34, co34, eo34⟩ := Kd.S_slice HO612.out; subst eo34; have hz35 := zc3 BK603))
           (try simp only [← hl7_2])
           go_roundg k2
           case measure => have := HK1.out; have := HK2.out; omega
           case rel => exact ⟨(wrap64 (x21_1 + 1)), (y610), (.slice Ao34 y610.length co34), (by first | rfl | (simp; done) | (simp [*]; done)), H', ⟨by have := HK1.out; have := HK2.out; omega⟩, ⟨by (try simp only [hl7_2]); (with_reducible repeat (first | apply Kd.S_alloc | apply Kd.S_drewN | apply Kd.S_drew)); exact Kd.S_mono (Kd.S_far (p := ⟨gb603, 2, none⟩) (Kd.S_types HO612.out BK603.out (by decide)) (fun _ hk => hk.2) (.slice Ao34 y610.length co34)) (fun _ hk => trivial)⟩, ⟨by (try simp only [hl7_2]); (with_reducible repeat (first | refine blk_drewN ?_ _ | refine blk_drew ?_ | refine blk_alloc ?_ _)); refine blk_far ?_ NB600_603.out _; (with_reducible repeat (first | refine blk_drewN ?_ _ | refine blk_drew ?_ | refine blk_alloc ?_ _)); exact BK600.out⟩, ⟨by (try simp only [hl7_2]); (with_reducible repeat (first | refine blk_drewN ?_ _ | refine blk_drew ?_ | refine blk_alloc ?_ _)); refine blk_far ?_ NB601_603.out _; (with_reducible repeat (first | refine blk_drewN ?_ _ | refine blk_drew ?_ | refine blk_alloc ?_ _)); exact BK601.out⟩, ⟨by (try simp only [hl7_2]); (with_reducible repeat (first | refine blk_drewN ?_ _ | refine blk_drew ?_ | refine blk_alloc ?_ _)); refine blk_put (cs := #[.int .i64 a0_0, .int .i64 a0_1, u604002]) ?_ 2 _ rfl; (with_reducible repeat (first | refine blk_drewN ?_ _ | refine blk_drew ?_ | refine blk_alloc ?_ _)); exact BK603.out⟩, ⟨zB HB⟩⟩
          ·
           rw [if_neg c29] at H
           exact absurd H (by simp)
      ·
       rw [if_neg c19] at H
       exact absurd H (by simp)
     ·
      rw [if_neg c18] at H
      exact absurd H (by simp)
    ·
     rw [if_neg c17] at H
     have c17b0 : decide (x21_1 < (l0_2.length : Int)) = false := decide_eq_false c17
     clear c17
     (first | rw [c17b0] | (simp only [i64_w, i32_w]; rw [c17b0]) | skip)
     (try rw [c17b1])
     simp only [Option.some.injEq, Prod.mk.injEq] at H
     obtain ⟨rfl, rfl, rfl, rfl⟩ := H
     have hnb36 := NB603_600.out
     have hnc36 := NB600_603.out
     have hnb37 := NB603_601.out
     have hnc37 := NB601_603.out
     have hz38 := zc3 BK603
     have hnb39 := NB601_600.out
     have hnc39 := NB600_601.out
     have hz40 := zc3 BK601
     obtain ⟨Ao41, co41, eo41⟩ := Kd.S_slice HO_604002.out
     subst eo41
     go_wp2
     refine bodyPost_ret (results_ct rfl _ _ gb601 24 #[.int .i64 a0_0, .int .i64 a0_1, .slice Ao41 x604002_1.length co41] (0, 0) _ rfl (by (with_reducible repeat (first | refine blk_drewN ?_ _ | refine blk_drew ?_ | refine blk_alloc ?_ _)); refine blk_put (cs := #[.int .i64 a0_0, .int .i64 a0_1, .slice none 0 0]) ?_ 2 _ rfl; (with_reducible repeat (first | refine blk_drewN ?_ _ | refine blk_drew ?_ | refine blk_alloc ?_ _)); refine blk_put (cs := #[.int .i64 a0_0, .int .i64 0, .slice none 0 0]) ?_ 1 _ rfl; (with_reducible repeat (first | refine blk_drewN ?_ _ | refine blk_drew ?_ | refine blk_alloc ?_ _)); refine blk_put (cs := #[.int .i64 0, .int .i64 0, .slice none 0 0]) ?_ 0 _ rfl; (with_reducible repeat (first | refine blk_drewN ?_ _ | refine blk_drew ?_ | refine blk_alloc ?_ _)); exact BK601.out) Try.underlying24 rfl (by kernel_rfl)) rfl ?_
     exact ⟨_, by first | rfl | (simp [errW_none, errW_some] <;> rfl) | (simp [*, errW_none, errW_some] <;> rfl), by (with_reducible repeat (first | apply Kd.S_alloc | apply Kd.S_drewN | apply Kd.S_drew)); exact Kd.S_mono (zSf3 (g := gb601) (Kd.S_types HO_604002.out BK601.out (by decide))) (fun _ hk => trivial), zB HB⟩
 ·
  replace c9 := Bool.eq_false_iff.mpr c9
  subst c9
  have H1 : (some (0, 0, ([] : List (List (S37))), 1)) = some (r1, r2, r3, r4) := by rw [if_neg (show ¬ (false = true) by decide)] at H; exact H
  clear H
  have H := H1
  clear H1
  simp only [Option.some.injEq, Prod.mk.injEq] at H
  obtain ⟨rfl, rfl, rfl, rfl⟩ := H
  have hnb42 := NB601_600.out
  have hnc42 := NB600_601.out
  have hz43 := zc3 BK601
  go_wp2
  refine bodyPost_ret (results_ct rfl _ _ gb601 24 #[.int .i64 0, .int .i64 0, .slice none 0 0] (0, 0) _ rfl (by (with_reducible repeat (first | refine blk_drewN ?_ _ | refine blk_drew ?_ | refine blk_alloc ?_ _)); refine blk_put (cs := #[.int .i64 0, .int .i64 0, .slice none 0 0]) ?_ 2 _ rfl; (with_reducible repeat (first | refine blk_drewN ?_ _ | refine blk_drew ?_ | refine blk_alloc ?_ _)); refine blk_put (cs := #[.int .i64 0, .int .i64 0, .slice none 0 0]) ?_ 1 _ rfl; (with_reducible repeat (first | refine blk_drewN ?_ _ | refine blk_drew ?_ | refine blk_alloc ?_ _)); refine blk_put (cs := #[.int .i64 0, .int .i64 0, .slice none 0 0]) ?_ 0 _ rfl; (with_reducible repeat (first | refine blk_drewN ?_ _ | refine blk_drew ?_ | refine blk_alloc ?_ _)); exact BK601.out) Try.underlying24 rfl (by kernel_rfl)) rfl ?_
  exact ⟨_, by first | rfl | (simp [errW_none, errW_some] <;> rfl) | (simp [*, errW_none, errW_some] <;> rfl), by first | exact Kd.S_nil _ _ _ _ _ | exact Kd.N_nil _ _ _ _ _ | exact Kd.V_nil _ _ _ _ _ | exact Kd.Q_nil _ _ _ _ _ | exact Kd.R_nil _ _ _ _ _, zB HB⟩

/-! ### standstilllaw04_mirrored: function 20 -/
def standstilllaw04_mirrored.f (a0_0 : Int) (a0_1 : Int) (a0_2 : Int) (l0_3 : List (S62)) (l0_4 : List (S62)) : Option (Int × Int × Int × (List (S62)) × (List (S62))) := some (a0_0, wrap64 (-a0_1), a0_2, l0_4, l0_3)
set_option maxHeartbeats 8000000 in
set_option maxRecDepth 100000 in
theorem standstilllaw04_mirrored.calls (a0_0 : Int) (a0_1 : Int) (a0_2 : Int) (P0_3_ : Nat → Prop) (A0_3 : Option Addr) (c0_3 : Nat) (l0_3 : List (S62)) (P0_4_ : Nat → Prop) (A0_4 : Option Addr) (c0_4 : Nat) (l0_4 : List (S62)) (r1 : Int) (r2 : Int) (r3 : Int) (r4 : List (S62)) (r5 : List (S62)) (w : World) (hs0_3 : Kd.V k62 62 w w.heap.size (fun k_ => P0_3_ k_) (.slice A0_3 l0_3.length c0_3) l0_3) (hs0_4 : Kd.V k62 62 w w.heap.size (fun k_ => P0_4_ k_) (.slice A0_4 l0_4.length c0_4) l0_4) (h : standstilllaw04_mirrored.f a0_0 a0_1 a0_2 l0_3 l0_4 = some (r1, r2, r3, r4, r5)) :
  Calls Try.prog 20 #[.agg #[.int .i64 a0_0, .int .i64 a0_1, .int .i64 a0_2, .slice A0_3 l0_3.length c0_3, .slice A0_4 l0_4.length c0_4]] w fun e w' => ∃ v3_ v4_ : Value, e = .returned (.agg #[.int .i64 r1, .int .i64 r2, .int .i64 r3, v3_, v4_]) ∧ Kd.V k62 62 w' w.heap.size (fun k_ => ((P0_3_ k_ ∨ P0_4_ k_) ∨ w.heap.size ≤ k_)) v3_ r4 ∧ Kd.V k62 62 w' w.heap.size (fun k_ => ((P0_3_ k_ ∨ P0_4_ k_) ∨ w.heap.size ≤ k_)) v4_ r5 ∧ Below w.heap.size w w' := by
 have hu27 := Try.underlying27
 have HO0_3 := Aside0.mk (show Kd.V k62 62 w w.heap.size (fun k_ => ((P0_3_ k_ ∨ P0_4_ k_) ∨ w.heap.size ≤ k_)) (.slice A0_3 l0_3.length c0_3) l0_3 from Kd.V_mono hs0_3 (fun k_ hk => .inl (.inl hk)))
 have HO0_4 := Aside0.mk (show Kd.V k62 62 w w.heap.size (fun k_ => ((P0_3_ k_ ∨ P0_4_ k_) ∨ w.heap.size ≤ k_)) (.slice A0_4 l0_4.length c0_4) l0_4 from Kd.V_mono hs0_4 (fun k_ hk => .inl (.inr hk)))
 have HB := Aside0.mk (Below.refl w.heap.size w)
 have H : (some (a0_0, wrap64 (-a0_1), a0_2, l0_4, l0_3)) = some (r1, r2, r3, r4, r5) := h
 clear h
 simp only [Option.some.injEq, Prod.mk.injEq] at H
 obtain ⟨rfl, rfl, rfl, rfl, rfl⟩ := H
 go_enter Try.func20, Try.ntmps20
 go_wp2_with (first | ((with_reducible refine gate_dst (N := 1) rfl ?_); refine box_event ?hg (N := 1) ?hd (cs := #[.int .i64 a0_0, .int .i64 a0_1, .int .i64 a0_2, .slice A0_3 l0_3.length c0_3, .slice A0_4 l0_4.length c0_4]) (t := 27) ?hr ?_; (case hd => rfl); (case hg => rfl); (case hr => first | (go_simp; done) | (go_simp; rfl)); intro gb613 hg w2 hbox hb; have BK613 := Aside0.mk (hbox); have GW613 := Aside0.mk ((by rw [hg]; exact (below_size (zB HB)) : w.heap.size ≤ gb613)); have GE613 := Aside0.mk ((by rw [hg]; exact (below_size (zB HB)) : w.heap.size ≤ gb613)); replace HO0_3 := Aside0.mk (Kd.V_below (Kd.V_elderB (zV HO0_3) gb613 (Nat.le_of_eq hg.symm)) hb); replace HO0_4 := Aside0.mk (Kd.V_below (Kd.V_elderB (zV HO0_4) gb613 (Nat.le_of_eq hg.symm)) hb); replace HB := Aside0.mk (below_step (zB HB) hb); clear hb hbox hg) | ((with_reducible refine gate_dst (N := 2) rfl ?_); refine box_event ?hg (N := 2) ?hd (cs := #[.int .i64 0, .int .i64 0, .int .i64 0, .slice none 0 0, .slice none 0 0]) (t := 27) ?hr ?_; (case hd => rfl); (case hg => rfl); (case hr => first | (go_simp; done) | (go_simp; rfl)); intro gb614 hg w3 hbox hb; have BK614 := Aside0.mk (hbox); have GW614 := Aside0.mk ((by rw [hg]; exact (below_size (zB HB)) : w.heap.size ≤ gb614)); have GE614 := Aside0.mk ((by rw [hg]; exact (below_size (zB HB)) : w.heap.size ≤ gb614)); have NB613_614 := Aside0.mk ((by rw [hg]; exact Nat.ne_of_lt (zL BK613) : gb613 ≠ gb614)); have NB614_613 := Aside0.mk ((by rw [hg]; exact Nat.ne_of_gt (zL BK613) : gb614 ≠ gb613)); replace HO0_3 := Aside0.mk (Kd.V_below (Kd.V_elderB (zV HO0_3) gb614 (Nat.le_of_eq hg.symm)) hb); replace HO0_4 := Aside0.mk (Kd.V_below (Kd.V_elderB (zV HO0_4) gb614 (Nat.le_of_eq hg.symm)) hb); replace BK613 := Aside0.mk (zb BK613 hb); replace HB := Aside0.mk (below_step (zB HB) hb); clear hb hbox hg; have hnb4 := NB613_614.out; have hnc4 := NB614_613.out; have hz5 := zc5 BK613; have hz6 := zc5 BK614))
 refine bodyPost_ret (results_cell_row rfl _ _ gb614 27 #[.int .i64 a0_0, .int .i64 (wrap64 (-a0_1)), .int .i64 a0_2, .slice A0_4 l0_4.length c0_4, .slice A0_3 l0_3.length c0_3] (0, 0) _ rfl (by (with_reducible repeat (first | refine blk_drewN ?_ _ | refine blk_drew ?_ | refine blk_alloc ?_ _)); refine blk_put (cs := #[.int .i64 a0_0, .int .i64 (wrap64 (-a0_1)), .int .i64 a0_2, .slice A0_4 l0_4.length c0_4, .slice none 0 0]) ?_ 4 _ rfl; (with_reducible repeat (first | refine blk_drewN ?_ _ | refine blk_drew ?_ | refine blk_alloc ?_ _)); refine blk_put (cs := #[.int .i64 a0_0, .int .i64 (wrap64 (-a0_1)), .int .i64 a0_2, .slice none 0 0, .slice none 0 0]) ?_ 3 _ rfl; (with_reducible repeat (first | refine blk_drewN ?_ _ | refine blk_drew ?_ | refine blk_alloc ?_ _)); refine blk_put (cs := #[.int .i64 a0_0, .int .i64 (wrap64 (-a0_1)), .int .i64 0, .slice none 0 0, .slice none 0 0]) ?_ 2 _ rfl; (with_reducible repeat (first | refine blk_drewN ?_ _ | refine blk_drew ?_ | refine blk_alloc ?_ _)); refine blk_put (cs := #[.int .i64 a0_0, .int .i64 0, .int .i64 0, .slice none 0 0, .slice none 0 0]) ?_ 1 _ rfl; (with_reducible repeat (first | refine blk_drewN ?_ _ | refine blk_drew ?_ | refine blk_alloc ?_ _)); refine blk_put (cs := #[.int .i64 0, .int .i64 0, .int .i64 0, .slice none 0 0, .slice none 0 0]) ?_ 0 _ rfl; (with_reducible repeat (first | refine blk_drewN ?_ _ | refine blk_drew ?_ | refine blk_alloc ?_ _)); exact BK614.out) Try.underlying27 rfl (by kernel_rfl)) rfl ?_
 exact ⟨_, _, by first | rfl | (simp [errW_none, errW_some] <;> rfl) | (simp [*, errW_none, errW_some] <;> rfl), by (with_reducible repeat (first | apply Kd.V_alloc | apply Kd.V_drewN | apply Kd.V_drew)); exact Kd.V_mono (zVf5 (g := gb614) (Kd.V_mono HO0_4.out (fun k_ hk => (⟨hk, hk.2⟩ : _ ∧ k_ ≠ gb614)))) (fun _ hk => hk.1.1.1), by (with_reducible repeat (first | apply Kd.V_alloc | apply Kd.V_drewN | apply Kd.V_drew)); exact Kd.V_mono (zVf5 (g := gb614) (Kd.V_mono HO0_3.out (fun k_ hk => (⟨hk, hk.2⟩ : _ ∧ k_ ≠ gb614)))) (fun _ hk => hk.1.1.1), zB HB⟩

end Go.Proofs.Ytpemcbjdlpajlaa.G1
