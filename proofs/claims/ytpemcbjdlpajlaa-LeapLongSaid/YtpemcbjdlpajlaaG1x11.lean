/- The functions of one seat as Lean functions, each with its contract: the call of the Go function returns what the Lean function answers. Written by a program of this session out of the translation; contracts made by hand are laid between. -/
import Derived.Test.YtpemcbjdlpajlaaG1x0
import Derived.Test.YtpemcbjdlpajlaaG1x8
import Derived.Test.YtpemcbjdlpajlaaG1x10
namespace Go.Proofs.Ytpemcbjdlpajlaa.G1
open Go.RowKit Go.Proofs.YtpemcbjdlpajlaaW.PrintWords Go.Proofs.YtpemcbjdlpajlaaW.PrintLast Go.Proofs.YtpemcbjdlpajlaaW.PrintMore
attribute [local go_sem] max2_int min2_int max_two min_two max_three min_three max_four min_four   -- for this text's walks alone
set_option linter.unusedVariables false
set_option linter.unusedSimpArgs false

/-! ### standstilllaw01_Read: function 22 -/
def standstilllaw01_Read.f (k : Nat) (a0 : ByteArray) : Option (Int × Int × (List (List (S37)))) := (standstillref01_Parse.f k a0).bind fun bt300 => (some (bt300.1, bt300.2.1, bt300.2.2.1))
theorem standstilllaw01_Read.mono : ∀ a0 k, LeO (standstilllaw01_Read.f k a0) (standstilllaw01_Read.f (k + 1) a0) := by
 intro a0 k
 unfold standstilllaw01_Read.f
 repeat' first
   | (with_reducible exact standstillref01_Parse.mono _ _)
   | (with_reducible exact LeO.refl _)
   | (with_reducible exact LeO.none _)
   | (with_reducible refine LeO.ite ?_ ?_)
   | (with_reducible refine LeO.bind ?_ (fun _ => ?_))
   | exact standstillref01_Parse.mono _ _
   | exact LeO.none _
   | refine LeO.ite ?_ ?_
   | refine LeO.bind ?_ (fun _ => ?_)
set_option maxHeartbeats 8000000 in
set_option maxRecDepth 100000 in
theorem standstilllaw01_Read.calls (k : Nat) (a0 : ByteArray) (r1 : Int) (r2 : Int) (r3 : List (List (S37))) (w : World) (h : standstilllaw01_Read.f k a0 = some (r1, r2, r3)) :
  Calls Try.prog 22 #[.string a0] w fun e w' => ∃ v2_ : Value, e = .returned (.agg #[.int .i64 r1, .int .i64 r2, v2_]) ∧ Kd.S (Kd.slice 37 k37) 38 w' w.heap.size (fun _ => True) v2_ r3 ∧ Below w.heap.size w w' := by
 have hu24 := Try.underlying24
 have HB := Aside0.mk (Below.refl w.heap.size w)
 have H : ((standstillref01_Parse.f k a0).bind fun bt300 => (some (bt300.1, bt300.2.1, bt300.2.2.1))) = some (r1, r2, r3) := h
 clear h
 replace H := Option.bind_eq_some_iff.mp H
 obtain ⟨⟨t300, t301, t302, t305⟩, A20, H⟩ := H
 replace H : (some (t300, t301, t302)) = some (r1, r2, r3) := H
 have A2 := Aside0.mk A20
 clear A20
 simp only [Option.some.injEq, Prod.mk.injEq] at H
 obtain ⟨rfl, rfl, rfl⟩ := H
 go_enter Try.func22, Try.ntmps22
 go_wp2_with (first | ((with_reducible refine gate_dst (N := 2) rfl ?_); refine box_event ?hg (N := 2) ?hd (cs := #[.int .i64 0, .int .i64 0, .slice none 0 0]) (t := 24) ?hr ?_; (case hd => rfl); (case hg => rfl); (case hr => first | (go_simp; done) | (go_simp; rfl)); intro gb299 hg w3 hbox hb; have BK299 := Aside0.mk (hbox); have GW299 := Aside0.mk ((by rw [hg]; exact (below_size (zB HB)) : w.heap.size ≤ gb299)); have GE299 := Aside0.mk ((by rw [hg]; exact (below_size (zB HB)) : w.heap.size ≤ gb299)); replace HB := Aside0.mk (below_step (zB HB) hb); clear hb hbox hg) | ((with_reducible refine gate_callee (f := 33) rfl ?_); refine goesL_ (some 7) rfl rfl Try.func33 (by kernel_rfl) rfl #[.string a0] rfl (zm) ?_; (with_reducible refine (standstillref01_Parse.calls k a0 t300 t301 t302 t305 _ A2.out).mono ?_); rintro e w4 ⟨v303, rfl, ho0, hb⟩; refine ⟨_, rfl, ?_⟩; have HO304 := Aside0.mk (Kd.S_lower ho0 (below_size (zB HB))); replace BK299 := Aside0.mk (zb BK299 hb); replace HB := Aside0.mk (below_step (zB HB) hb); (try clear hb); (try clear hb2); (try clear hk); (try clear hi); (try clear ho0)) | ((with_reducible refine gate_dst (N := 3) rfl ?_); refine box_event ?hg (N := 3) ?hd (cs := #[.int .i64 0, .int .i64 0, .slice none 0 0]) (t := 24) ?hr ?_; (case hd => rfl); (case hg => rfl); (case hr => first | (go_simp; done) | (go_simp; rfl)); intro gb306 hg w5 hbox hb; have BK306 := Aside0.mk (hbox); have GW306 := Aside0.mk ((by rw [hg]; exact (below_size (zB HB)) : w.heap.size ≤ gb306)); have GE306 := Aside0.mk ((by rw [hg]; exact (below_size (zB HB)) : w.heap.size ≤ gb306)); have NB299_306 := Aside0.mk ((by rw [hg]; exact Nat.ne_of_lt (zL BK299) : gb299 ≠ gb306)); have NB306_299 := Aside0.mk ((by rw [hg]; exact Nat.ne_of_gt (zL BK299) : gb306 ≠ gb299)); replace HO304 := Aside0.mk (zSb HO304 hb); replace BK299 := Aside0.mk (zb BK299 hb); replace HB := Aside0.mk (below_step (zB HB) hb); clear hb hbox hg; have hnb6 := NB306_299.out; have hnc6 := NB299_306.out; have hz7 := zc3 BK306; obtain ⟨Ao8, co8, eo8⟩ := Kd.S_slice HO304.out; subst eo8; have hz9 := zc3 BK299))
 refine bodyPost_ret (results_cell_row rfl _ _ gb299 24 #[.int .i64 t300, .int .i64 t301, .slice Ao8 t302.length co8] (0, 0) _ rfl (by (with_reducible repeat (first | refine blk_drewN ?_ _ | refine blk_drew ?_ | refine blk_alloc ?_ _)); refine blk_put (cs := #[.int .i64 t300, .int .i64 t301, .slice none 0 0]) ?_ 2 _ rfl; (with_reducible repeat (first | refine blk_drewN ?_ _ | refine blk_drew ?_ | refine blk_alloc ?_ _)); refine blk_put (cs := #[.int .i64 t300, .int .i64 0, .slice none 0 0]) ?_ 1 _ rfl; (with_reducible repeat (first | refine blk_drewN ?_ _ | refine blk_drew ?_ | refine blk_alloc ?_ _)); refine blk_put (cs := #[.int .i64 0, .int .i64 0, .slice none 0 0]) ?_ 0 _ rfl; (with_reducible repeat (first | refine blk_drewN ?_ _ | refine blk_drew ?_ | refine blk_alloc ?_ _)); refine blk_far ?_ NB299_306.out _; (with_reducible repeat (first | refine blk_drewN ?_ _ | refine blk_drew ?_ | refine blk_alloc ?_ _)); refine blk_far ?_ NB299_306.out _; (with_reducible repeat (first | refine blk_drewN ?_ _ | refine blk_drew ?_ | refine blk_alloc ?_ _)); refine blk_far ?_ NB299_306.out _; (with_reducible repeat (first | refine blk_drewN ?_ _ | refine blk_drew ?_ | refine blk_alloc ?_ _)); exact BK299.out) Try.underlying24 rfl (by kernel_rfl)) rfl ?_
 exact ⟨_, by first | rfl | (simp [errW_none, errW_some] <;> rfl) | (simp [*, errW_none, errW_some] <;> rfl), by (with_reducible repeat (first | apply Kd.S_alloc | apply Kd.S_drewN | apply Kd.S_drew)); exact Kd.S_mono (zSf3 (g := gb299) (Kd.S_far (p := ⟨gb306, 2, none⟩) (Kd.S_far (p := ⟨gb306, 1, none⟩) (Kd.S_far (p := ⟨gb306, 0, none⟩) (Kd.S_types (Kd.S_types HO304.out BK306.out (by decide)) BK299.out (by decide)) (fun _ hk => hk.1.2) (.int .i64 t300)) (fun _ hk => hk.1.2) (.int .i64 t301)) (fun _ hk => hk.1.2) (.slice Ao8 t302.length co8))) (fun _ hk => trivial), zB HB⟩

/-! ### standstilllaw04_awake: function 9 -/
def standstilllaw04_awake.f (k : Nat)  : Option (Bool) := (standstilllaw01_Read.f k (⟨#[49, 82, 65, 49, 82, 90]⟩ : ByteArray)).bind fun bt307 => ((leap_Leap.f k bt307.1 bt307.2.1 bt307.2.2 0 0 0 ([] : List (S62)) ([] : List (S62))).bind fun bt312 => ((standstilllaw01_Read.f k (⟨#[49, 82, 66, 49, 76, 66, 95, 49, 76, 65, 49, 82, 66]⟩ : ByteArray)).bind fun bt325 => ((leap_Leap.f k bt325.1 bt325.2.1 bt325.2.2 1 0 1 ([] : List (S62)) (([(⟨1, 999⟩ : S62)] : List (S62)))).bind fun bt333 => (if bt312.2.2.2.2.2.2.2 = 0 then (if bt312.2.2.2.2.2.1 = 0 then (if bt312.2.2.2.2.2.2.1 = true then (if bt333.2.2.2.2.2.2.2 = 0 then (if bt333.2.2.2.2.2.1 = 1000 then (if bt333.2.2.2.2.2.2.1 = true then (some false) else ((standstillref04_Same.f k bt333.1 bt333.2.1 bt333.2.2.1 bt333.2.2.2.1 bt333.2.2.2.2.1 1 1000 0 (([(⟨1, 1000⟩ : S62)] : List (S62))) ([] : List (S62))).bind fun t349 => (some t349))) else (some false)) else (some false)) else (some false)) else (some false)) else (some false)))))
theorem standstilllaw04_awake.mono : ∀ k, LeO (standstilllaw04_awake.f k ) (standstilllaw04_awake.f (k + 1) ) := by
 intro  k
 unfold standstilllaw04_awake.f
 repeat' first
   | (with_reducible exact leap_Leap.mono _ _ _ _ _ _ _ _ _)
   | (with_reducible exact standstilllaw01_Read.mono _ _)
   | (with_reducible exact standstillref04_Same.mono _ _ _ _ _ _ _ _ _ _ _)
   | (with_reducible exact LeO.refl _)
   | (with_reducible exact LeO.none _)
   | (with_reducible refine LeO.ite ?_ ?_)
   | (with_reducible refine LeO.bind ?_ (fun _ => ?_))
   | exact leap_Leap.mono _ _ _ _ _ _ _ _ _
   | exact standstilllaw01_Read.mono _ _
   | exact standstillref04_Same.mono _ _ _ _ _ _ _ _ _ _ _
   | exact LeO.none _
   | refine LeO.ite ?_ ?_
   | refine LeO.bind ?_ (fun _ => ?_)
set_option maxHeartbeats 8000000 in
set_option maxRecDepth 100000 in
theorem standstilllaw04_awake.calls (k : Nat)  (r : Bool) (w : World) (h : standstilllaw04_awake.f k  = some r) :
  Calls Try.prog 9 #[] w fun e w' => e = .returned (.bool r) ∧ Below w.heap.size w w' := by
 have hu27 := Try.underlying27
 have hu62 := Try.underlying62
 have HB := Aside0.mk (Below.refl w.heap.size w)
 have H : ((standstilllaw01_Read.f k (⟨#[49, 82, 65, 49, 82, 90]⟩ : ByteArray)).bind fun bt307 => ((leap_Leap.f k bt307.1 bt307.2.1 bt307.2.2 0 0 0 ([] : List (S62)) ([] : List (S62))).bind fun bt312 => ((standstilllaw01_Read.f k (⟨#[49, 82, 66, 49, 76, 66, 95, 49, 76, 65, 49, 82, 66]⟩ : ByteArray)).bind fun bt325 => ((leap_Leap.f k bt325.1 bt325.2.1 bt325.2.2 1 0 1 ([] : List (S62)) (([(⟨1, 999⟩ : S62)] : List (S62)))).bind fun bt333 => (if bt312.2.2.2.2.2.2.2 = 0 then (if bt312.2.2.2.2.2.1 = 0 then (if bt312.2.2.2.2.2.2.1 = true then (if bt333.2.2.2.2.2.2.2 = 0 then (if bt333.2.2.2.2.2.1 = 1000 then (if bt333.2.2.2.2.2.2.1 = true then (some false) else ((standstillref04_Same.f k bt333.1 bt333.2.1 bt333.2.2.1 bt333.2.2.2.1 bt333.2.2.2.2.1 1 1000 0 (([(⟨1, 1000⟩ : S62)] : List (S62))) ([] : List (S62))).bind fun t349 => (some t349))) else (some false)) else (some false)) else (some false)) else (some false)) else (some false)))))) = some r := h
 clear h
 replace H := Option.bind_eq_some_iff.mp H
 obtain ⟨⟨t307, t308, t309⟩, A10, H⟩ := H
 replace H : ((leap_Leap.f k t307 t308 t309 0 0 0 ([] : List (S62)) ([] : List (S62))).bind fun bt312 => ((standstilllaw01_Read.f k (⟨#[49, 82, 66, 49, 76, 66, 95, 49, 76, 65, 49, 82, 66]⟩ : ByteArray)).bind fun bt325 => ((leap_Leap.f k bt325.1 bt325.2.1 bt325.2.2 1 0 1 ([] : List (S62)) (([(⟨1, 999⟩ : S62)] : List (S62)))).bind fun bt333 => (if bt312.2.2.2.2.2.2.2 = 0 then (if bt312.2.2.2.2.2.1 = 0 then (if bt312.2.2.2.2.2.2.1 = true then (if bt333.2.2.2.2.2.2.2 = 0 then (if bt333.2.2.2.2.2.1 = 1000 then (if bt333.2.2.2.2.2.2.1 = true then (some false) else ((standstillref04_Same.f k bt333.1 bt333.2.1 bt333.2.2.1 bt333.2.2.2.1 bt333.2.2.2.2.1 1 1000 0 (([(⟨1, 1000⟩ : S62)] : List (S62))) ([] : List (S62))).bind fun t349 => (some t349))) else (some false)) else (some false)) else (some false)) else (some false)) else (some false))))) = some r := H
 have A1 := Aside0.mk A10
 clear A10
 replace H := Option.bind_eq_some_iff.mp H
 obtain ⟨⟨t312, t313, t314, t315, t318, t321, t322, t323⟩, A20, H⟩ := H
 replace H : ((standstilllaw01_Read.f k (⟨#[49, 82, 66, 49, 76, 66, 95, 49, 76, 65, 49, 82, 66]⟩ : ByteArray)).bind fun bt325 => ((leap_Leap.f k bt325.1 bt325.2.1 bt325.2.2 1 0 1 ([] : List (S62)) (([(⟨1, 999⟩ : S62)] : List (S62)))).bind fun bt333 => (if t323 = 0 then (if t321 = 0 then (if t322 = true then (if bt333.2.2.2.2.2.2.2 = 0 then (if bt333.2.2.2.2.2.1 = 1000 then (if bt333.2.2.2.2.2.2.1 = true then (some false) else ((standstillref04_Same.f k bt333.1 bt333.2.1 bt333.2.2.1 bt333.2.2.2.1 bt333.2.2.2.2.1 1 1000 0 (([(⟨1, 1000⟩ : S62)] : List (S62))) ([] : List (S62))).bind fun t349 => (some t349))) else (some false)) else (some false)) else (some false)) else (some false)) else (some false)))) = some r := H
 have A2 := Aside0.mk A20
 clear A20
 replace H := Option.bind_eq_some_iff.mp H
 obtain ⟨⟨t325, t326, t327⟩, A30, H⟩ := H
 replace H : ((leap_Leap.f k t325 t326 t327 1 0 1 ([] : List (S62)) (([(⟨1, 999⟩ : S62)] : List (S62)))).bind fun bt333 => (if t323 = 0 then (if t321 = 0 then (if t322 = true then (if bt333.2.2.2.2.2.2.2 = 0 then (if bt333.2.2.2.2.2.1 = 1000 then (if bt333.2.2.2.2.2.2.1 = true then (some false) else ((standstillref04_Same.f k bt333.1 bt333.2.1 bt333.2.2.1 bt333.2.2.2.1 bt333.2.2.2.2.1 1 1000 0 (([(⟨1, 1000⟩ : S62)] : List (S62))) ([] : List (S62))).bind fun t349 => (some t349))) else (some false)) else (some false)) else (some false)) else (some false)) else (some false))) = some r := H
 have A3 := Aside0.mk A30
 clear A30
 obtain ⟨y330, hy330⟩ : ∃ y_ : List (S62), y_ = (([(⟨1, 999⟩ : S62)] : List (S62))) := ⟨_, rfl⟩
 replace H : ((leap_Leap.f k t325 t326 t327 1 0 1 ([] : List (S62)) y330).bind fun bt333 => (if t323 = 0 then (if t321 = 0 then (if t322 = true then (if bt333.2.2.2.2.2.2.2 = 0 then (if bt333.2.2.2.2.2.1 = 1000 then (if bt333.2.2.2.2.2.2.1 = true then (some false) else ((standstillref04_Same.f k bt333.1 bt333.2.1 bt333.2.2.1 bt333.2.2.2.1 bt333.2.2.2.2.1 1 1000 0 (([(⟨1, 1000⟩ : S62)] : List (S62))) ([] : List (S62))).bind fun t349 => (some t349))) else (some false)) else (some false)) else (some false)) else (some false)) else (some false))) = some r := by first | (rw [hy330]; with_reducible exact H) | (have H2_ := (Option.bind_some _ _).symm.trans H; rw [hy330]; with_reducible exact H2_) | (have H2_ := (Option.bind_some _ _).symm.trans H; with_reducible exact H2_) | with_reducible exact H | (rw [hy330]; exact H) | exact H
 have Ny330 := Aside0.mk hy330
 clear hy330
 replace H := Option.bind_eq_some_iff.mp H
 obtain ⟨⟨t333, t334, t335, t336, t339, t342, t343, t344⟩, A40, H⟩ := H
 replace H : (if t323 = 0 then (if t321 = 0 then (if t322 = true then (if t344 = 0 then (if t342 = 1000 then (if t343 = true then (some false) else ((standstillref04_Same.f k t333 t334 t335 t336 t339 1 1000 0 (([(⟨1, 1000⟩ : S62)] : List (S62))) ([] : List (S62))).bind fun t349 => (some t349))) else (some false)) else (some false)) else (some false)) else (some false)) else (some false)) = some r := H
 have A4 := Aside0.mk A40
 clear A40
 have HC5 := Aside0.mk H
 clear H
 go_enter Try.func9, Try.ntmps9
 go_upto_region 3 with (first | ((with_reducible refine gate_callee (f := 22) rfl ?_); refine goesL_ (some 10) rfl rfl Try.func22 (by kernel_rfl) rfl #[.string (⟨#[49, 82, 65, 49, 82, 90]⟩ : ByteArray)] rfl (zm) ?_; (with_reducible refine (standstilllaw01_Read.calls k (⟨#[49, 82, 65, 49, 82, 90]⟩ : ByteArray) t307 t308 t309 _ A1.out).mono ?_); rintro e w6 ⟨v310, rfl, ho0, hb⟩; refine ⟨_, rfl, ?_⟩; have HO311 := Aside0.mk (Kd.S_lower ho0 (below_size (zB HB))); replace HB := Aside0.mk (below_step (zB HB) hb); (try clear hb); (try clear hb2); (try clear hk); (try clear hi); (try clear ho0); obtain ⟨Ao7, co7, eo7⟩ := Kd.S_slice HO311.out; subst eo7) | ((with_reducible refine gate_callee (f := 11) rfl ?_); refine goesL_ (some 12) rfl rfl Try.func11 (by kernel_rfl) rfl #[.agg #[.int .i64 t307, .int .i64 t308, .slice Ao7 t309.length co7], .agg #[.int .i64 0, .int .i64 0, .int .i64 0, .slice none 0 0, .slice none 0 0]] rfl (zm) ?_; (refine (leap_Leap.calls k t307 t308 _ _ t309 0 0 0 (fun k_ => False) _ _ ([] : List (S62)) (fun k_ => False) _ _ ([] : List (S62)) t312 t313 t314 t315 t318 t321 t322 t323 _ ?side1 ?side2 ?side3 ?side4 A2.out).mono ?_); (case side1 => exact zC ((Kd.S_reads' HO311.out).2.2)); (case side2 => exact (Kd.S_reads' HO311.out).2.1); (case side3 => exact Kd.V_nil _ _ _ _ _); (case side4 => exact Kd.V_nil _ _ _ _ _); rintro e w8 ⟨v316, v319, rfl, ho0, ho1, hb⟩; refine ⟨_, rfl, ?_⟩; have HO317 := Aside0.mk (Kd.V_lower (Kd.V_mono (ok' := fun k_ => some k_ ≠ (.slice Ao7 t309.length co7 : Value).ownBlock) ho0 (fun k_ hk_ => Or.elim hk_ (fun hs_ => Or.elim hs_ (fun hs_ => (hs_).elim) (fun hs_ => (hs_).elim)) (fun hn_ => (Kd.fresh' (Kd.S_lt (zS HO311)) k_ hn_)))) (below_size (zB HB))); have HO320 := Aside0.mk (Kd.V_lower (Kd.V_mono (ok' := fun k_ => some k_ ≠ (.slice Ao7 t309.length co7 : Value).ownBlock) ho1 (fun k_ hk_ => Or.elim hk_ (fun hs_ => Or.elim hs_ (fun hs_ => (hs_).elim) (fun hs_ => (hs_).elim)) (fun hn_ => (Kd.fresh' (Kd.S_lt (zS HO311)) k_ hn_)))) (below_size (zB HB))); replace HO311 := Aside0.mk (zSb HO311 hb); replace HB := Aside0.mk (below_step (zB HB) hb); (try clear hb); (try clear hb2); (try clear hk); (try clear hi); (try clear ho0); (try clear ho1)) | ((with_reducible refine gate_dst (N := 1) rfl ?_); (try (refine gate_guard (by rfl) ?_; dsimp only)); refine box_event ?hg (N := 1) ?hd (cs := #[.int .i64 0, .int .i64 0, .int .i64 0, .slice none 0 0, .slice none 0 0]) (t := 27) ?hr ?_; (case hd => rfl); (case hg => rfl); (case hr => first | (go_simp; done) | (go_simp; rfl)); intro gb324 hg w9 hbox hb; have BK324 := Aside0.mk (hbox); have GW324 := Aside0.mk ((by rw [hg]; exact (below_size (zB HB)) : w.heap.size ≤ gb324)); have GE324 := Aside0.mk ((by rw [hg]; exact (below_size (zB HB)) : w.heap.size ≤ gb324)); replace HO311 := Aside0.mk (zSb HO311 hb); replace HO317 := Aside0.mk (Kd.V_below (Kd.V_elderB (zV HO317) gb324 (Nat.le_of_eq hg.symm)) hb); replace HO320 := Aside0.mk (Kd.V_below (Kd.V_elderB (zV HO320) gb324 (Nat.le_of_eq hg.symm)) hb); replace HB := Aside0.mk (below_step (zB HB) hb); clear hb hbox hg; have hz10 := zc5 BK324; obtain ⟨Ao11, co11, eo11⟩ := Kd.V_slice HO317.out; subst eo11; obtain ⟨Ao12, co12, eo12⟩ := Kd.V_slice HO320.out; subst eo12) | ((with_reducible refine gate_callee (f := 22) rfl ?_); refine goesL_ (some 18) rfl rfl Try.func22 (by kernel_rfl) rfl #[.string (⟨#[49, 82, 66, 49, 76, 66, 95, 49, 76, 65, 49, 82, 66]⟩ : ByteArray)] rfl (zm) ?_; (with_reducible refine (standstilllaw01_Read.calls k (⟨#[49, 82, 66, 49, 76, 66, 95, 49, 76, 65, 49, 82, 66]⟩ : ByteArray) t325 t326 t327 _ A3.out).mono ?_); rintro e w13 ⟨v328, rfl, ho0, hb⟩; refine ⟨_, rfl, ?_⟩; have HO329 := Aside0.mk (Kd.S_lower (Kd.S_new' ho0 (Kd.S_lt (by (with_reducible repeat (first | apply Kd.S_alloc | apply Kd.S_drewN | apply Kd.S_drew)); exact (Kd.S_mono (zSf5 (g := gb324) (Kd.S_types HO311.out BK324.out (by decide))) (fun _ h_ => h_.1))))) (below_size (zB HB))); replace HO311 := Aside0.mk (Kd.S_elder' (by (with_reducible repeat (first | apply Kd.S_alloc | apply Kd.S_drewN | apply Kd.S_drew)); exact (Kd.S_mono (zSf5 (g := gb324) (Kd.S_types HO311.out BK324.out (by decide))) (fun _ h_ => h_.1))) (Kd.S_base ho0) hb); replace HO317 := Aside0.mk (Kd.V_elder' (by (with_reducible repeat (first | apply Kd.V_alloc | apply Kd.V_drewN | apply Kd.V_drew)); exact (Kd.V_mono (zVf5 (g := gb324) (Kd.V_mono HO317.out (fun k_ hk => (⟨hk, hk.2⟩ : _ ∧ k_ ≠ gb324)))) (fun _ h_ => h_.1))) (Kd.S_base ho0) hb); replace HO320 := Aside0.mk (Kd.V_elder' (by (with_reducible repeat (first | apply Kd.V_alloc | apply Kd.V_drewN | apply Kd.V_drew)); exact (Kd.V_mono (zVf5 (g := gb324) (Kd.V_mono HO320.out (fun k_ hk => (⟨hk, hk.2⟩ : _ ∧ k_ ≠ gb324)))) (fun _ h_ => h_.1))) (Kd.S_base ho0) hb); replace BK324 := Aside0.mk (blk_below (g := gb324) (o := .cells #[.int .i64 t312, .int .i64 t313, .int .i64 t314, .slice Ao11 t315.length co11, .slice Ao12 t318.length co12] 27 (0, 0)) (by (with_reducible repeat (first | refine blk_drewN ?_ _ | refine blk_drew ?_ | refine blk_alloc ?_ _)); refine blk_put (cs := #[.int .i64 t312, .int .i64 t313, .int .i64 t314, .slice Ao11 t315.length co11, .slice none 0 0]) ?_ 4 _ rfl; (with_reducible repeat (first | refine blk_drewN ?_ _ | refine blk_drew ?_ | refine blk_alloc ?_ _)); refine blk_put (cs := #[.int .i64 t312, .int .i64 t313, .int .i64 t314, .slice none 0 0, .slice none 0 0]) ?_ 3 _ rfl; (with_reducible repeat (first | refine blk_drewN ?_ _ | refine blk_drew ?_ | refine blk_alloc ?_ _)); refine blk_put (cs := #[.int .i64 t312, .int .i64 t313, .int .i64 0, .slice none 0 0, .slice none 0 0]) ?_ 2 _ rfl; (with_reducible repeat (first | refine blk_drewN ?_ _ | refine blk_drew ?_ | refine blk_alloc ?_ _)); refine blk_put (cs := #[.int .i64 t312, .int .i64 0, .int .i64 0, .slice none 0 0, .slice none 0 0]) ?_ 1 _ rfl; (with_reducible repeat (first | refine blk_drewN ?_ _ | refine blk_drew ?_ | refine blk_alloc ?_ _)); refine blk_put (cs := #[.int .i64 0, .int .i64 0, .int .i64 0, .slice none 0 0, .slice none 0 0]) ?_ 0 _ rfl; (with_reducible repeat (first | refine blk_drewN ?_ _ | refine blk_drew ?_ | refine blk_alloc ?_ _)); exact BK324.out) hb); replace HB := Aside0.mk (below_step (zB HB) hb); (try clear hb); (try clear hb2); (try clear hk); (try clear hi); (try clear ho0)) | ((with_reducible refine gate_dst (N := 20) rfl ?_); (try (refine gate_guard (by rfl) ?_; dsimp only)); refine Kd.R_lit k62 _ 62 ?hg (N := 20) ?hd (xs := ([(⟨1, 999⟩ : S62)] : List (S62))) (inner := [.int .i64 1, .int .i64 999]) (ok := fun _ => True) (okp := fun _ => True) ?hr ?hp (fun _ hk => hk) trivial (Below.refl _ _) (Nat.le_refl _) (by simp) ?_; (case hd => rfl); (case hg => rfl); (case hr => first | (go_simp; done) | (go_simp; rfl)); (case hp => exact (Reps.c2 (show Kd.M k62 _ _ _ (⟨1, 999⟩ : S62) [.int .i64 1, .int .i64 999] from (k62_mkM _ _ _ (⟨1, 999⟩ : S62) )) (Reps.none _ _))); intro v331 w14 ho15 hb hg_ hnew_; clear hg_ hnew_; (first | rw [← Ny330.out] at ho15 | (simp only [Int.reduceToNat] at ho15; rw [← Ny330.out] at ho15)); have HO332 := Aside0.mk (Kd.R_lower ho15 (below_size (zB HB))); replace HO311 := Aside0.mk (zSb HO311 hb); replace HO317 := Aside0.mk (Kd.V_elder' (zV HO317) (Kd.R_base ho15) hb); replace HO320 := Aside0.mk (Kd.V_elder' (zV HO320) (Kd.R_base ho15) hb); replace HO329 := Aside0.mk (zSb HO329 hb); replace BK324 := Aside0.mk (zb BK324 hb); replace HB := Aside0.mk (below_step (zB HB) hb); clear hb ho15; obtain ⟨Ao16, co16, eo16⟩ := Kd.R_slice HO332.out; subst eo16; obtain ⟨Ao17, co17, eo17⟩ := Kd.S_slice HO329.out; subst eo17) | ((with_reducible refine gate_callee (f := 11) rfl ?_); refine goesL_ (some 22) rfl rfl Try.func11 (by kernel_rfl) rfl #[.agg #[.int .i64 t325, .int .i64 t326, .slice Ao17 t327.length co17], .agg #[.int .i64 1, .int .i64 0, .int .i64 1, .slice none 0 0, .slice Ao16 y330.length co16]] rfl (zm) ?_; (refine (leap_Leap.calls k t325 t326 _ _ t327 1 0 1 (fun k_ => False) _ _ ([] : List (S62)) (fun k_ => some k_ = (.slice Ao16 y330.length co16 : Value).ownBlock) _ _ y330 t333 t334 t335 t336 t339 t342 t343 t344 _ ?side1 ?side2 ?side3 ?side4 A4.out).mono ?_); (case side1 => exact zC ((Kd.S_reads' HO329.out).2.2)); (case side2 => exact (Kd.S_reads' HO329.out).2.1); (case side3 => exact Kd.V_nil _ _ _ _ _); (case side4 => exact Kd.R_V (Kd.R_tight rfl (Kd.R_types (Kd.R_apart' (Kd.R_apart' (HO332.out) (Kd.S_typed HO311.out) (by decide)) (Kd.S_typed HO329.out) (by decide)) BK324.out (by decide)))); rintro e w18 ⟨v337, v340, rfl, ho0, ho1, hb⟩; refine ⟨_, rfl, ?_⟩; have HO338 := Aside0.mk (Kd.V_lower (Kd.V_mono (ok' := fun k_ => some k_ ≠ (.slice Ao7 t309.length co7 : Value).ownBlock ∧ some k_ ≠ (.slice Ao17 t327.length co17 : Value).ownBlock ∧ k_ ≠ gb324) ho0 (fun k_ hk_ => ⟨Or.elim hk_ (fun hs_ => Or.elim hs_ (fun hs_ => (hs_).elim) (fun hs_ => ((Kd.R_types (Kd.R_apart' (Kd.R_apart' (HO332.out) (Kd.S_typed HO311.out) (by decide)) (Kd.S_typed HO329.out) (by decide)) BK324.out (by decide)).1 k_ hs_.symm).1.1.2)) (fun hn_ => (Kd.fresh' (Kd.S_lt (zS HO311)) k_ hn_)), Or.elim hk_ (fun hs_ => Or.elim hs_ (fun hs_ => (hs_).elim) (fun hs_ => ((Kd.R_types (Kd.R_apart' (Kd.R_apart' (HO332.out) (Kd.S_typed HO311.out) (by decide)) (Kd.S_typed HO329.out) (by decide)) BK324.out (by decide)).1 k_ hs_.symm).1.2)) (fun hn_ => (Kd.fresh' (Kd.S_lt (zS HO329)) k_ hn_)), Or.elim hk_ (fun hs_ => Or.elim hs_ (fun hs_ => (hs_).elim) (fun hs_ => ((Kd.R_types (Kd.R_apart' (Kd.R_apart' (HO332.out) (Kd.S_typed HO311.out) (by decide)) (Kd.S_typed HO329.out) (by decide)) BK324.out (by decide)).1 k_ hs_.symm).2)) (fun hn_ => zf BK324 hn_)⟩)) (below_size (zB HB))); have HO341 := Aside0.mk (Kd.V_lower (Kd.V_mono (ok' := fun k_ => some k_ ≠ (.slice Ao7 t309.length co7 : Value).ownBlock ∧ some k_ ≠ (.slice Ao17 t327.length co17 : Value).ownBlock ∧ k_ ≠ gb324) ho1 (fun k_ hk_ => ⟨Or.elim hk_ (fun hs_ => Or.elim hs_ (fun hs_ => (hs_).elim) (fun hs_ => ((Kd.R_types (Kd.R_apart' (Kd.R_apart' (HO332.out) (Kd.S_typed HO311.out) (by decide)) (Kd.S_typed HO329.out) (by decide)) BK324.out (by decide)).1 k_ hs_.symm).1.1.2)) (fun hn_ => (Kd.fresh' (Kd.S_lt (zS HO311)) k_ hn_)), Or.elim hk_ (fun hs_ => Or.elim hs_ (fun hs_ => (hs_).elim) (fun hs_ => ((Kd.R_types (Kd.R_apart' (Kd.R_apart' (HO332.out) (Kd.S_typed HO311.out) (by decide)) (Kd.S_typed HO329.out) (by decide)) BK324.out (by decide)).1 k_ hs_.symm).1.2)) (fun hn_ => (Kd.fresh' (Kd.S_lt (zS HO329)) k_ hn_)), Or.elim hk_ (fun hs_ => Or.elim hs_ (fun hs_ => (hs_).elim) (fun hs_ => ((Kd.R_types (Kd.R_apart' (Kd.R_apart' (HO332.out) (Kd.S_typed HO311.out) (by decide)) (Kd.S_typed HO329.out) (by decide)) BK324.out (by decide)).1 k_ hs_.symm).2)) (fun hn_ => zf BK324 hn_)⟩)) (below_size (zB HB))); replace HO311 := Aside0.mk (zSb HO311 hb); replace HO317 := Aside0.mk (zVb HO317 hb); replace HO320 := Aside0.mk (zVb HO320 hb); replace HO329 := Aside0.mk (zSb HO329 hb); replace HO332 := Aside0.mk (zRb HO332 hb); replace BK324 := Aside0.mk (zb BK324 hb); replace HB := Aside0.mk (below_step (zB HB) hb); (try clear hb); (try clear hb2); (try clear hk); (try clear hi); (try clear ho0); (try clear ho1)) | ((with_reducible refine gate_dst (N := 5) rfl ?_); (try (refine gate_guard (by rfl) ?_; dsimp only)); refine box_event ?hg (N := 5) ?hd (cs := #[.int .i64 0, .int .i64 0, .int .i64 0, .slice none 0 0, .slice none 0 0]) (t := 27) ?hr ?_; (case hd => rfl); (case hg => rfl); (case hr => first | (go_simp; done) | (go_simp; rfl)); intro gb345 hg w19 hbox hb; have BK345 := Aside0.mk (hbox); have GW345 := Aside0.mk ((by rw [hg]; exact (below_size (zB HB)) : w.heap.size ≤ gb345)); have GE345 := Aside0.mk ((by rw [hg]; exact (below_size (zB HB)) : w.heap.size ≤ gb345)); have NB324_345 := Aside0.mk ((by rw [hg]; exact Nat.ne_of_lt (zL BK324) : gb324 ≠ gb345)); have NB345_324 := Aside0.mk ((by rw [hg]; exact Nat.ne_of_gt (zL BK324) : gb345 ≠ gb324)); replace HO311 := Aside0.mk (zSb HO311 hb); replace HO317 := Aside0.mk (Kd.V_below (Kd.V_elderB (zV HO317) gb345 (Nat.le_of_eq hg.symm)) hb); replace HO320 := Aside0.mk (Kd.V_below (Kd.V_elderB (zV HO320) gb345 (Nat.le_of_eq hg.symm)) hb); replace HO329 := Aside0.mk (zSb HO329 hb); replace HO332 := Aside0.mk (zRb HO332 hb); replace HO338 := Aside0.mk (Kd.V_below (Kd.V_elderB (zV HO338) gb345 (Nat.le_of_eq hg.symm)) hb); replace HO341 := Aside0.mk (Kd.V_below (Kd.V_elderB (zV HO341) gb345 (Nat.le_of_eq hg.symm)) hb); replace BK324 := Aside0.mk (zb BK324 hb); replace HB := Aside0.mk (below_step (zB HB) hb); clear hb hbox hg; have hnb20 := NB345_324.out; have hnc20 := NB324_345.out; have hz21 := zc5 BK345; obtain ⟨Ao22, co22, eo22⟩ := Kd.V_slice HO338.out; subst eo22; obtain ⟨Ao23, co23, eo23⟩ := Kd.V_slice HO341.out; subst eo23) | ((with_reducible refine gate_store (t := 27) (p := 5) rfl ?_); refine store_event (t := 27) (p := 5) (v := ?vo_w24) (w1 := (((((w19.setCell ⟨gb345, 0, none⟩ (.int .i64 t333)).setCell ⟨gb345, 1, none⟩ (.int .i64 t334)).setCell ⟨gb345, 2, none⟩ (.int .i64 t335)).setCell ⟨gb345, 3, none⟩ (.slice Ao22 t336.length co22)).setCell ⟨gb345, 4, none⟩ (.slice Ao23 t339.length co23))) ?hg ?ho ?hn ?hr ?_; (case ho => rfl); (case hg => rfl); (case hn => rfl); (case hr => first | (go_simp; done) | (go_simp; rfl)); intro w24 hw; have n0_ : Aside0 (Kd.S (Kd.slice 37 k37) 38 w24 w.heap.size (fun k_ => some k_ ≠ (.slice Ao17 t327.length co17 : Value).ownBlock) (.slice Ao7 t309.length co7) t309) := ⟨(by rw [hw]; exact (by (with_reducible repeat (first | apply Kd.S_alloc | apply Kd.S_drewN | apply Kd.S_drew)); exact Kd.S_mono (zSf5 (g := gb345) (Kd.S_types HO311.out BK345.out (by decide))) (fun _ hk => hk.1.2)))⟩; have n1_ : Aside0 (Kd.V k62 62 w24 w.heap.size (fun k_ => some k_ ≠ (.slice Ao7 t309.length co7 : Value).ownBlock ∧ some k_ ≠ (.slice Ao17 t327.length co17 : Value).ownBlock ∧ some k_ ≠ (.slice Ao16 y330.length co16 : Value).ownBlock ∧ k_ ≠ gb324 ∧ k_ ≠ gb345) (.slice Ao11 t315.length co11) t315) := ⟨(by rw [hw]; exact (by (with_reducible repeat (first | apply Kd.V_alloc | apply Kd.V_drewN | apply Kd.V_drew)); exact Kd.V_mono (zVf5 (g := gb345) (Kd.V_mono HO317.out (fun k_ hk => (⟨hk, hk.2⟩ : _ ∧ k_ ≠ gb345)))) (fun _ hk => ⟨hk.1.1.1.1.1, ⟨hk.1.1.1.2, ⟨hk.1.1.2, ⟨hk.1.1.1.1.2, hk.1.2⟩⟩⟩⟩)))⟩; have n2_ : Aside0 (Kd.V k62 62 w24 w.heap.size (fun k_ => some k_ ≠ (.slice Ao7 t309.length co7 : Value).ownBlock ∧ some k_ ≠ (.slice Ao17 t327.length co17 : Value).ownBlock ∧ some k_ ≠ (.slice Ao16 y330.length co16 : Value).ownBlock ∧ k_ ≠ gb324 ∧ k_ ≠ gb345) (.slice Ao12 t318.length co12) t318) := ⟨(by rw [hw]; exact (by (with_reducible repeat (first | apply Kd.V_alloc | apply Kd.V_drewN | apply Kd.V_drew)); exact Kd.V_mono (zVf5 (g := gb345) (Kd.V_mono HO320.out (fun k_ hk => (⟨hk, hk.2⟩ : _ ∧ k_ ≠ gb345)))) (fun _ hk => ⟨hk.1.1.1.1.1, ⟨hk.1.1.1.2, ⟨hk.1.1.2, ⟨hk.1.1.1.1.2, hk.1.2⟩⟩⟩⟩)))⟩; have n3_ : Aside0 (Kd.S (Kd.slice 37 k37) 38 w24 w.heap.size (fun k_ => some k_ ≠ (.slice Ao7 t309.length co7 : Value).ownBlock) (.slice Ao17 t327.length co17) t327) := ⟨(by rw [hw]; exact (by (with_reducible repeat (first | apply Kd.S_alloc | apply Kd.S_drewN | apply Kd.S_drew)); exact Kd.S_mono (zSf5 (g := gb345) (Kd.S_types HO329.out BK345.out (by decide))) (fun _ hk => hk.1.2)))⟩; have n4_ : Aside0 (Kd.R k62 62 w24 w.heap.size (fun _ => True) (.slice Ao16 y330.length co16) y330) := ⟨(by rw [hw]; exact (by (with_reducible repeat (first | apply Kd.R_alloc | apply Kd.R_drewN | apply Kd.R_drew)); exact Kd.R_mono (zRf5 (g := gb345) (Kd.R_types HO332.out BK345.out (by decide))) (fun _ hk => trivial)))⟩; have n5_ : Aside0 (Kd.V k62 62 w24 w.heap.size (fun k_ => some k_ ≠ (.slice Ao7 t309.length co7 : Value).ownBlock ∧ some k_ ≠ (.slice Ao17 t327.length co17 : Value).ownBlock ∧ k_ ≠ gb324 ∧ k_ ≠ gb345) (.slice Ao22 t336.length co22) t336) := ⟨(by rw [hw]; exact (by (with_reducible repeat (first | apply Kd.V_alloc | apply Kd.V_drewN | apply Kd.V_drew)); exact Kd.V_mono (zVf5 (g := gb345) (Kd.V_mono HO338.out (fun k_ hk => (⟨hk, hk.2⟩ : _ ∧ k_ ≠ gb345)))) (fun _ hk => ⟨hk.1.1.1, ⟨hk.1.1.2.1, ⟨hk.1.1.2.2, hk.1.2⟩⟩⟩)))⟩; have n6_ : Aside0 (Kd.V k62 62 w24 w.heap.size (fun k_ => some k_ ≠ (.slice Ao7 t309.length co7 : Value).ownBlock ∧ some k_ ≠ (.slice Ao17 t327.length co17 : Value).ownBlock ∧ k_ ≠ gb324 ∧ k_ ≠ gb345) (.slice Ao23 t339.length co23) t339) := ⟨(by rw [hw]; exact (by (with_reducible repeat (first | apply Kd.V_alloc | apply Kd.V_drewN | apply Kd.V_drew)); exact Kd.V_mono (zVf5 (g := gb345) (Kd.V_mono HO341.out (fun k_ hk => (⟨hk, hk.2⟩ : _ ∧ k_ ≠ gb345)))) (fun _ hk => ⟨hk.1.1.1, ⟨hk.1.1.2.1, ⟨hk.1.1.2.2, hk.1.2⟩⟩⟩)))⟩; have n7_ : Aside0 (w24.heap[gb324]? = some (.cells #[.int .i64 t312, .int .i64 t313, .int .i64 t314, .slice Ao11 t315.length co11, .slice Ao12 t318.length co12] 27 (0, 0))) := ⟨(by rw [hw]; exact (zK BK324))⟩; have n8_ : Aside0 (w24.heap[gb345]? = some (.cells #[.int .i64 t333, .int .i64 t334, .int .i64 t335, .slice Ao22 t336.length co22, .slice Ao23 t339.length co23] 27 (0, 0))) := ⟨(by rw [hw]; exact (by (with_reducible repeat (first | refine blk_drewN ?_ _ | refine blk_drew ?_ | refine blk_alloc ?_ _)); refine blk_put (cs := #[.int .i64 t333, .int .i64 t334, .int .i64 t335, .slice Ao22 t336.length co22, .slice none 0 0]) ?_ 4 _ rfl; (with_reducible repeat (first | refine blk_drewN ?_ _ | refine blk_drew ?_ | refine blk_alloc ?_ _)); refine blk_put (cs := #[.int .i64 t333, .int .i64 t334, .int .i64 t335, .slice none 0 0, .slice none 0 0]) ?_ 3 _ rfl; (with_reducible repeat (first | refine blk_drewN ?_ _ | refine blk_drew ?_ | refine blk_alloc ?_ _)); refine blk_put (cs := #[.int .i64 t333, .int .i64 t334, .int .i64 0, .slice none 0 0, .slice none 0 0]) ?_ 2 _ rfl; (with_reducible repeat (first | refine blk_drewN ?_ _ | refine blk_drew ?_ | refine blk_alloc ?_ _)); refine blk_put (cs := #[.int .i64 t333, .int .i64 0, .int .i64 0, .slice none 0 0, .slice none 0 0]) ?_ 1 _ rfl; (with_reducible repeat (first | refine blk_drewN ?_ _ | refine blk_drew ?_ | refine blk_alloc ?_ _)); refine blk_put (cs := #[.int .i64 0, .int .i64 0, .int .i64 0, .slice none 0 0, .slice none 0 0]) ?_ 0 _ rfl; (with_reducible repeat (first | refine blk_drewN ?_ _ | refine blk_drew ?_ | refine blk_alloc ?_ _)); exact BK345.out))⟩; have n9_ : Aside0 (Below w.heap.size w w24) := ⟨(by rw [hw]; exact (zB HB))⟩; clear hw; clear HO311; clear HO317; clear HO320; clear HO329; clear HO332; clear HO338; clear HO341; clear BK324; clear BK345; clear HB; have HO311 := n0_; have HO317 := n1_; have HO320 := n2_; have HO329 := n3_; have HO332 := n4_; have HO338 := n5_; have HO341 := n6_; have BK324 := n7_; have BK345 := n8_; have HB := n9_; clear n0_ n1_ n2_ n3_ n4_ n5_ n6_ n7_ n8_ n9_))
 (try simp only [Act.put, zs, zs0, zs1])
 have H := HC5.out
 clear HC5
 by_cases c25 : t323 = 0
 ·
  rw [if_pos c25] at H
  have c25b0 : (t323 == 0) = true := beq_iff_eq.mpr c25
  have c25b1 : (t323 != 0) = false := bne_eq_false_iff_eq.mpr c25
  clear c25
  (first | rw [c25b0] | (simp only [i64_w, i32_w]; rw [c25b0]) | skip)
  (try rw [c25b1])
  by_cases c26 : t321 = 0
  ·
   rw [if_pos c26] at H
   have c26b0 : (t321 == 0) = true := beq_iff_eq.mpr c26
   have c26b1 : (t321 != 0) = false := bne_eq_false_iff_eq.mpr c26
   clear c26
   by_cases c27 : t322 = true
   ·
    subst c27
    have H1 : (if t344 = 0 then (if t342 = 1000 then (if t343 = true then (some false) else ((standstillref04_Same.f k t333 t334 t335 t336 t339 1 1000 0 (([(⟨1, 1000⟩ : S62)] : List (S62))) ([] : List (S62))).bind fun t349 => (some t349))) else (some false)) else (some false)) = some r := by rw [if_pos rfl] at H; exact H
    clear H
    have H := H1
    clear H1
    by_cases c28 : t344 = 0
    ·
     rw [if_pos c28] at H
     have c28b0 : (t344 == 0) = true := beq_iff_eq.mpr c28
     have c28b1 : (t344 != 0) = false := bne_eq_false_iff_eq.mpr c28
     clear c28
     by_cases c29 : t342 = 1000
     ·
      rw [if_pos c29] at H
      have c29b0 : (t342 == 1000) = true := beq_iff_eq.mpr c29
      have c29b1 : (t342 != 1000) = false := bne_eq_false_iff_eq.mpr c29
      clear c29
      by_cases c30 : t343 = true
      ·
       subst c30
       have H1 : (some false) = some r := by rw [if_pos rfl] at H; exact H
       clear H
       have H := H1
       clear H1
       obtain rfl := Option.some.inj H
       go_wp2
       go_ret
       exact ⟨by first | rfl | (simp [errW_none, errW_some] <;> rfl) | (simp [*, errW_none, errW_some] <;> rfl), zB HB⟩
      ·
       replace c30 := Bool.eq_false_iff.mpr c30
       subst c30
       have H1 : ((standstillref04_Same.f k t333 t334 t335 t336 t339 1 1000 0 (([(⟨1, 1000⟩ : S62)] : List (S62))) ([] : List (S62))).bind fun t349 => (some t349)) = some r := by rw [if_neg (show ¬ (false = true) by decide)] at H; exact H
       clear H
       have H := H1
       clear H1
       obtain ⟨y346, hy346⟩ : ∃ y_ : List (S62), y_ = (([(⟨1, 1000⟩ : S62)] : List (S62))) := ⟨_, rfl⟩
       replace H : ((standstillref04_Same.f k t333 t334 t335 t336 t339 1 1000 0 y346 ([] : List (S62))).bind fun t349 => (some t349)) = some r := by first | (rw [hy346]; with_reducible exact H) | (have H2_ := (Option.bind_some _ _).symm.trans H; rw [hy346]; with_reducible exact H2_) | (have H2_ := (Option.bind_some _ _).symm.trans H; with_reducible exact H2_) | with_reducible exact H | (rw [hy346]; exact H) | exact H
       have Ny346 := Aside0.mk hy346
       clear hy346
       replace H := Option.bind_eq_some_iff.mp H
       obtain ⟨t349, A310, H⟩ := H
       replace H : (some t349) = some r := H
       have A31 := Aside0.mk A310
       clear A310
       obtain rfl := Option.some.inj H
       have hnb32 := NB345_324.out
       have hnc32 := NB324_345.out
       have hz33 := zc5 BK345
       go_wp2_with (first | ((with_reducible refine gate_dst (N := 51) rfl ?_); (try (refine gate_guard (by rfl) ?_; dsimp only)); refine Kd.R_lit k62 _ 62 ?hg (N := 51) ?hd (xs := ([(⟨1, 1000⟩ : S62)] : List (S62))) (inner := [.int .i64 1, .int .i64 1000]) (ok := fun _ => True) (okp := fun _ => True) ?hr ?hp (fun _ hk => hk) trivial (Below.refl _ _) (Nat.le_refl _) (by simp) ?_; (case hd => rfl); (case hg => rfl); (case hr => first | (go_simp; done) | (go_simp; rfl)); (case hp => exact (Reps.c2 (show Kd.M k62 _ _ _ (⟨1, 1000⟩ : S62) [.int .i64 1, .int .i64 1000] from (k62_mkM _ _ _ (⟨1, 1000⟩ : S62) )) (Reps.none _ _))); intro v347 w34 ho35 hb hg_ hnew_; clear hg_ hnew_; (first | rw [← Ny346.out] at ho35 | (simp only [Int.reduceToNat] at ho35; rw [← Ny346.out] at ho35)); have HO348 := Aside0.mk (Kd.R_lower (Kd.R_new' ho35 (Kd.R_lt (zR HO332))) (below_size (zB HB))); replace HO311 := Aside0.mk (zSb HO311 hb); replace HO317 := Aside0.mk (Kd.V_elder' (zV HO317) (Kd.R_base ho35) hb); replace HO320 := Aside0.mk (Kd.V_elder' (zV HO320) (Kd.R_base ho35) hb); replace HO329 := Aside0.mk (zSb HO329 hb); replace HO332 := Aside0.mk (Kd.R_elder' (zR HO332) (Kd.R_base ho35) hb); replace HO338 := Aside0.mk (Kd.V_elder' (zV HO338) (Kd.R_base ho35) hb); replace HO341 := Aside0.mk (Kd.V_elder' (zV HO341) (Kd.R_base ho35) hb); replace BK324 := Aside0.mk (zb BK324 hb); replace BK345 := Aside0.mk (zb BK345 hb); replace HB := Aside0.mk (below_step (zB HB) hb); clear hb ho35; obtain ⟨Ao36, co36, eo36⟩ := Kd.R_slice HO348.out; subst eo36) | (go_at_call 13; (refine (standstillref04_Same.calls k t333 t334 t335 _ _ t336 _ _ t339 1 1000 0 _ _ y346 _ _ ([] : List (S62)) t349 _ ?side1 ?side2 ?side3 ?side4 ?side5 ?side6 ?side7 ?side8 A31.out).mono ?_); (case side1 => exact zC ((Kd.V_reads' HO338.out).2.2)); (case side2 => exact (Kd.V_reads' HO338.out).2.1); (case side3 => exact zC ((Kd.V_reads' HO341.out).2.2)); (case side4 => exact (Kd.V_reads' HO341.out).2.1); (case side5 => exact zC ((Kd.R_reads' HO348.out).2.2)); (case side6 => exact (Kd.R_reads' HO348.out).2.1); (case side7 => exact Kd.C_nil _ _); (case side8 => exact Nat.le_refl _); rintro e w37 ⟨rfl, hb⟩; replace HO311 := Aside0.mk (zSb HO311 hb); replace HO317 := Aside0.mk (zVb HO317 hb); replace HO320 := Aside0.mk (zVb HO320 hb); replace HO329 := Aside0.mk (zSb HO329 hb); replace HO332 := Aside0.mk (zRb HO332 hb); replace HO338 := Aside0.mk (zVb HO338 hb); replace HO341 := Aside0.mk (zVb HO341 hb); replace HO348 := Aside0.mk (zRb HO348 hb); replace BK324 := Aside0.mk (zb BK324 hb); replace BK345 := Aside0.mk (zb BK345 hb); replace HB := Aside0.mk (below_step (zB HB) hb); (try clear hb); (try clear hb2); (try clear hk); (try clear hi)))
       go_ret
       exact ⟨by first | rfl | (simp [errW_none, errW_some] <;> rfl) | (simp [*, errW_none, errW_some] <;> rfl), zB HB⟩
     ·
      rw [if_neg c29] at H
      have c29b0 : (t342 == 1000) = false := beq_eq_false_iff_ne.mpr c29
      have c29b1 : (t342 != 1000) = true := bne_iff_ne.mpr c29
      obtain rfl := Option.some.inj H
      go_wp2
      go_ret
      exact ⟨by first | rfl | (simp [errW_none, errW_some] <;> rfl) | (simp [*, errW_none, errW_some] <;> rfl), zB HB⟩
    ·
     rw [if_neg c28] at H
     have c28b0 : (t344 == 0) = false := beq_eq_false_iff_ne.mpr c28
     have c28b1 : (t344 != 0) = true := bne_iff_ne.mpr c28
     obtain rfl := Option.some.inj H
     go_wp2
     go_ret
     exact ⟨by first | rfl | (simp [errW_none, errW_some] <;> rfl) | (simp [*, errW_none, errW_some] <;> rfl), zB HB⟩
   ·
    replace c27 := Bool.eq_false_iff.mpr c27
    subst c27
    have H1 : (some false) = some r := by rw [if_neg (show ¬ (false = true) by decide)] at H; exact H
    clear H
    have H := H1
    clear H1
    obtain rfl := Option.some.inj H
    go_wp2
    go_ret
    exact ⟨by first | rfl | (simp [errW_none, errW_some] <;> rfl) | (simp [*, errW_none, errW_some] <;> rfl), zB HB⟩
  ·
   rw [if_neg c26] at H
   have c26b0 : (t321 == 0) = false := beq_eq_false_iff_ne.mpr c26
   have c26b1 : (t321 != 0) = true := bne_iff_ne.mpr c26
   obtain rfl := Option.some.inj H
   go_wp2
   go_ret
   exact ⟨by first | rfl | (simp [errW_none, errW_some] <;> rfl) | (simp [*, errW_none, errW_some] <;> rfl), zB HB⟩
 ·
  rw [if_neg c25] at H
  have c25b0 : (t323 == 0) = false := beq_eq_false_iff_ne.mpr c25
  have c25b1 : (t323 != 0) = true := bne_iff_ne.mpr c25
  (first | rw [c25b0] | (simp only [i64_w, i32_w]; rw [c25b0]) | skip)
  (try rw [c25b1])
  obtain rfl := Option.some.inj H
  go_wp2
  go_ret
  exact ⟨by first | rfl | (simp [errW_none, errW_some] <;> rfl) | (simp [*, errW_none, errW_some] <;> rfl), zB HB⟩

/-! ### standstilllaw04_longer: function 10 -/
def standstilllaw04_longer.f (l0 : List (S62)) (a1 : Int) : Option ((List (S62))) := (some (([] : List (S62)) : List (S62))).bind fun y350 => (if y350.length + l0.length < 8796093022208 then ((some (y350 ++ l0 : List (S62))).bind fun y353 => (if (y353.length : Int) > 0 then (if 0 < (y353.length : Int) then (some (y353.set (0 : Int).toNat (⟨(rd_T62 y353 0).f0, wrap64 (((rd_T62 y353 0).f1) + a1)⟩ : S62))) else (none)) else (some y353))) else (none))
set_option maxHeartbeats 8000000 in
set_option maxRecDepth 100000 in
theorem standstilllaw04_longer.calls (A0 : Option Addr) (c0 : Nat) (l0 : List (S62)) (a1 : Int) (r : List (S62)) (w : World) (hr0 : Kd.C k62 w A0 l0.length l0) (hc0 : l0.length ≤ c0) (h : standstilllaw04_longer.f l0 a1 = some r) :
  Calls Try.prog 10 #[.slice A0 l0.length c0, .int .i64 a1] w fun e w' => ∃ v0_ : Value, e = .returned (v0_) ∧ Kd.R k62 62 w' w.heap.size (fun _ => True) v0_ r ∧ Below w.heap.size w w' := by
 have HR0 := Aside0.mk hr0
 have HC0 := Aside0.mk hc0
 clear hr0 hc0
 have HB := Aside0.mk (Below.refl w.heap.size w)
 have H : ((some (([] : List (S62)) : List (S62))).bind fun y350 => (if y350.length + l0.length < 8796093022208 then ((some (y350 ++ l0 : List (S62))).bind fun y353 => (if (y353.length : Int) > 0 then (if 0 < (y353.length : Int) then (some (y353.set (0 : Int).toNat (⟨(rd_T62 y353 0).f0, wrap64 (((rd_T62 y353 0).f1) + a1)⟩ : S62))) else (none)) else (some y353))) else (none))) = some r := h
 clear h
 obtain ⟨y350, hy350⟩ : ∃ y_ : List (S62), y_ = (([] : List (S62))) := ⟨_, rfl⟩
 replace H : (if y350.length + l0.length < 8796093022208 then ((some (y350 ++ l0 : List (S62))).bind fun y353 => (if (y353.length : Int) > 0 then (if 0 < (y353.length : Int) then (some (y353.set (0 : Int).toNat (⟨(rd_T62 y353 0).f0, wrap64 (((rd_T62 y353 0).f1) + a1)⟩ : S62))) else (none)) else (some y353))) else (none)) = some r := by first | (rw [hy350]; with_reducible exact H) | (have H2_ := (Option.bind_some _ _).symm.trans H; rw [hy350]; with_reducible exact H2_) | (have H2_ := (Option.bind_some _ _).symm.trans H; with_reducible exact H2_) | with_reducible exact H | (rw [hy350]; exact H) | exact H
 have Ny350 := Aside0.mk hy350
 clear hy350
 by_cases c3 : y350.length + l0.length < 8796093022208
 ·
  rw [if_pos c3] at H
  have LMc3 := Aside0.mk c3
  clear c3
  obtain ⟨y353, hy353⟩ : ∃ y_ : List (S62), y_ = (y350 ++ l0) := ⟨_, rfl⟩
  replace H : (if (y353.length : Int) > 0 then (if 0 < (y353.length : Int) then (some (y353.set (0 : Int).toNat (⟨(rd_T62 y353 0).f0, wrap64 (((rd_T62 y353 0).f1) + a1)⟩ : S62))) else (none)) else (some y353)) = some r := by first | (rw [hy353]; with_reducible exact H) | (have H2_ := (Option.bind_some _ _).symm.trans H; rw [hy353]; with_reducible exact H2_) | (have H2_ := (Option.bind_some _ _).symm.trans H; with_reducible exact H2_) | with_reducible exact H | (rw [hy353]; exact H) | exact H
  have Ny353 := Aside0.mk hy353
  clear hy353
  have HC4 := Aside0.mk H
  clear H
  go_enter Try.func10, Try.ntmps10
  go_upto_if 11 with (first | ((with_reducible refine gate_dst (N := 6) rfl ?_); refine Kd.R_lit k62 _ 62 ?hg (N := 6) ?hd (xs := ([] : List (S62))) (inner := []) (ok := fun _ => True) (okp := fun _ => True) ?hr ?hp (fun _ hk => hk) trivial (Below.refl _ _) (Nat.le_refl _) (by simp) ?_; (case hd => rfl); (case hg => rfl); (case hr => first | (go_simp; done) | (go_simp; rfl)); (case hp => exact (Reps.none _ _)); intro v351 w5 ho6 hb hg_ hnew_; clear hg_ hnew_; (first | rw [← Ny350.out] at ho6 | (simp only [Int.reduceToNat] at ho6; rw [← Ny350.out] at ho6)); have HO352 := Aside0.mk (Kd.R_lower ho6 (below_size (zB HB))); replace HB := Aside0.mk (below_step (zB HB) hb); clear hb ho6) | ((with_reducible refine gate_builtin (b := .append) (xs := #[.tmp 6, .tmp 7]) rfl ?_); at_builtin; refine Kd.R_append_rows k62 (w0 := w) w.heap.size rfl (.tmp 6) (.tmp 7) 25 62 (.agg #[(.int .i64 0), (.int .i64 0)]) 16 rfl Try.underlying25 info62 rfl (by decide) (by omega) v351 y350 l0 _ _ _ (fun _ => True) (fun _ => False) rfl rfl ?aO ?aR (fun _ _ h => h) (fun _ h => h.elim) ?aF ?aB ?aS ?aL ?_; (case aR => exact zC ((Kd.C_below HR0.out HB.out))); (case aB => exact (zB HB)); (case aF => exact (fun _ _ => trivial)); (case aO => exact (zR HO352)); (case aS => exact (below_size (zB HB))); (case aL => have := LMc3.out; omega); intro v354 w7 ho hb hg hat; rw [← Ny353.out] at ho; have n0_ := Aside0.mk (hb); have n1_ := Aside0.mk (ho); clear HB; clear HO352; have HB := n0_; have HO355 := n1_; clear n0_ n1_; clear ho hb hg hat; obtain ⟨Ao8, co8, eo8⟩ := Kd.R_slice HO355.out; subst eo8))
  (try simp only [Act.put, zs, zs0, zs1])
  have H := HC4.out
  clear HC4
  by_cases c9 : (y353.length : Int) > 0
  ·
   rw [if_pos c9] at H
   have c9b0 : decide (0 < (y353.length : Int)) = true := decide_eq_true c9
   have c9b1 : decide (0 < y353.length) = true := decide_eq_true (by omega)
   clear c9
   (first | rw [c9b0] | (simp only [i64_w, i32_w]; rw [c9b0]) | skip)
   (try rw [c9b1])
   by_cases c10 : 0 < (y353.length : Int)
   ·
    rw [if_pos c10] at H
    have c10b0 : decide (0 < (y353.length : Int)) = true := decide_eq_true c10
    have c10b1 : decide (0 < y353.length) = true := decide_eq_true (by omega)
    clear c10
    obtain ⟨y357, hy357⟩ : ∃ y_ : List (S62), y_ = (y353.set (0 : Int).toNat (⟨(rd_T62 y353 0).f0, wrap64 (((rd_T62 y353 0).f1) + a1)⟩ : S62)) := ⟨_, rfl⟩
    replace H : (some y357) = some r := by first | (rw [hy357]; with_reducible exact H) | (have H2_ := (Option.bind_some _ _).symm.trans H; rw [hy357]; with_reducible exact H2_) | (have H2_ := (Option.bind_some _ _).symm.trans H; with_reducible exact H2_) | with_reducible exact H | (rw [hy357]; exact H) | exact H
    have Ny357 := Aside0.mk hy357
    clear hy357
    obtain rfl := Option.some.inj H
    have p356 : 0 ≤ (0 : Int) := (by omega)
    have q356 : 0 < (y353.length : Int) := of_decide_eq_true (by first | (with_reducible assumption) | assumption)
    obtain ⟨ad356, e356, hx356_0, hx356_1⟩ := at_T62 (Kd.R_reads' HO355.out).2.2 0 p356 q356
    cases e356
    have qi356 : (0 < y353.length) = True := eq_true (by omega)
    (try rw [show ((0 : Int)).toNat = 0 from rfl] at hx356_0)
    (try rw [show 0 * 2 = 0 from rfl] at hx356_0)
    (try rw [Addr.add_zero'] at hx356_0)
    (try rw [show ((0 : Int)).toNat = 0 from rfl] at hx356_1)
    (try rw [show 0 * 2 = 0 from rfl] at hx356_1)
    (try rw [Addr.add_zero'] at hx356_1)
    replace p356 := eq_true p356
    replace q356 := eq_true q356
    have p11 : 0 ≤ (0 : Int) := (by omega)
    have q11 : (0 : Int) < ((y353.length : Int) : Int) := of_decide_eq_true (by first | (with_reducible assumption) | assumption)
    have qi11 : (0 < y353.length) = True := eq_true (by omega)
    obtain ⟨go11, co11, eo11, gb11, gl11, cl11, HG11⟩ := Kd.R_form HO355.out (by omega)
    (first | cases eo11 | (injection eo11 with ea_ en_ ec_; (first | subst ea_ | (injection ea_ with ea_; subst ea_)); subst ec_; clear en_))
    have GB11 := Aside0.mk gb11
    have GG11 := Aside0.mk HG11
    clear gb11 gl11 HG11
    (first | simp only [add_plain] at hx356_0 | skip)
    (first | simp only [add_plain] at hx356_1 | skip)
    obtain ⟨ce11, hcl11, hM11, hcc11, hfr11⟩ := Kd.R_elem HO355.out z62 (0 : Int) p11 q11
    obtain rfl := k62_openM hM11
    have hx11_0 : w7.cell? ⟨go11, (0 : Int).toNat * 2, none⟩ = some (.int .i64 ((rd_T62 y353 0).f0)) := hcc11 0 _ rfl
    have hx11_1 : w7.cell? ⟨go11, (0 : Int).toNat * 2 + 1, none⟩ = some (.int .i64 ((rd_T62 y353 0).f1)) := hcc11 1 _ rfl
    have hf11_0 : w7.frozen? ⟨go11, (0 : Int).toNat * 2, none⟩ = false := hfr11 0
    have hf11_1 : w7.frozen? ⟨go11, (0 : Int).toNat * 2 + 1, none⟩ = false := hfr11 1
    clear hcl11 hcc11 hfr11 hM11
    (try rw [show ((0 : Int)).toNat = 0 from rfl] at hx11_0)
    (try simp only [Nat.reduceMul, Nat.zero_mul, Nat.zero_add, Nat.reduceAdd] at hx11_0)
    (try rw [show ((0 : Int)).toNat = 0 from rfl] at hf11_0)
    (try simp only [Nat.reduceMul, Nat.zero_mul, Nat.zero_add, Nat.reduceAdd] at hf11_0)
    (try rw [show ((0 : Int)).toNat = 0 from rfl] at hx11_1)
    (try simp only [Nat.reduceMul, Nat.zero_mul, Nat.zero_add, Nat.reduceAdd] at hx11_1)
    (try rw [show ((0 : Int)).toNat = 0 from rfl] at hf11_1)
    (try simp only [Nat.reduceMul, Nat.zero_mul, Nat.zero_add, Nat.reduceAdd] at hf11_1)
    replace p11 := eq_true p11
    replace q11 := eq_true q11
    have HX12 := Aside0.mk (show Kd.R k62 62 w7 w.heap.size (fun _ => True) (.slice (some ⟨go11, 0, none⟩) y353.length co8) y353 from (zR HO355))
    obtain ⟨ce12, hcl12, hM12, hcc12, hfr12⟩ := Kd.R_elem HX12.out z62 (0 : Int) (by omega) (by have h_ : (0 : Int) < ((y353.length : Int) : Int) := of_decide_eq_true (by first | (with_reducible assumption) | assumption); first | exact h_ | (have e_ := (Kd.R_reads' HO355.out).1; omega) | simpa using h_)
    obtain rfl := k62_openM hM12
    have HP12 := Kd.R_seg HX12.out (0 : Int) (by omega) (by have h_ : (0 : Int) < ((y353.length : Int) : Int) := of_decide_eq_true (by first | (with_reducible assumption) | assumption); first | exact h_ | (have e_ := (Kd.R_reads' HO355.out).1; omega) | simpa using h_) (seg := [.int .i64 (wrap64 (((rd_T62 y353 0).f1) + a1))]) (j := 1) hcl12 hcc12 (show 2 ≤ 2 from by decide) (x' := (⟨(rd_T62 y353 0).f0, wrap64 (((rd_T62 y353 0).f1) + a1)⟩ : S62)) (k62_mkM _ _ _ (⟨(rd_T62 y353 0).f0, wrap64 (((rd_T62 y353 0).f1) + a1)⟩ : S62) ) (fun _ hk => hk)
    have hx12_1 := hcc12 1 _ rfl
    (try simp only [show (k62).sz = 2 from rfl, Nat.mul_one, Nat.add_zero] at hx12_1)
    (try rw [show ((0 : Int)).toNat = 0 from rfl] at hx12_1)
    (try simp only [Nat.reduceMul, Nat.zero_mul, Nat.zero_add, Nat.reduceAdd] at hx12_1)
    have hf12_1 := hfr12 1
    (try simp only [show (k62).sz = 2 from rfl, Nat.mul_one, Nat.add_zero] at hf12_1)
    (try rw [show ((0 : Int)).toNat = 0 from rfl] at hf12_1)
    (try simp only [Nat.reduceMul, Nat.zero_mul, Nat.zero_add, Nat.reduceAdd] at hf12_1)
    clear hcl12 hcc12 hfr12 hM12
    go_wp2_with (first | ((with_reducible refine gate_store (t := 3) (p := 19) rfl ?_); refine store_event (t := 3) (p := 19) (v := ?vo_w13) (w1 := (w7.setCell ⟨go11, 1, none⟩ (.int .i64 (wrap64 (((rd_T62 y353 0).f1) + a1))))) ?hg ?ho ?hn ?hr ?_; (case ho => rfl); (case hg => rfl); (case hn => rfl); (case hr => first | (go_simp; done) | (go_simp; rfl)); intro w13 hw; have hg : w7.grownBy w13 (some go11) := (by rw [hw]; exact HP12.2); have hp_ : Kd.R k62 62 w13 w.heap.size (fun _ => True) (.slice (some ⟨go11, 0, none⟩) y353.length co8) y357 := (by rw [hw, Ny357.out]; exact HP12.1); clear HP12; replace HO355 := Aside0.mk (hp_); replace HB := Aside0.mk ((by rw [hw]; exact below_set (HB.out) GB11.out : Below w.heap.size w w13)); clear hg hw hp_))
    go_ret
    exact ⟨_, by first | rfl | (simp [errW_none, errW_some] <;> rfl) | (simp [*, errW_none, errW_some] <;> rfl), zR HO355, zB HB⟩
   ·
    rw [if_neg c10] at H
    exact absurd H (by simp)
  ·
   rw [if_neg c9] at H
   have c9b0 : decide (0 < (y353.length : Int)) = false := decide_eq_false c9
   have c9b1 : decide (0 < y353.length) = false := decide_eq_false (by omega)
   clear c9
   (first | rw [c9b0] | (simp only [i64_w, i32_w]; rw [c9b0]) | skip)
   (try rw [c9b1])
   obtain rfl := Option.some.inj H
   go_wp2
   go_ret
   exact ⟨_, by first | rfl | (simp [errW_none, errW_some] <;> rfl) | (simp [*, errW_none, errW_some] <;> rfl), zR HO355, zB HB⟩
 ·
  rw [if_neg c3] at H
  exact absurd H (by simp)

/-! ### standstillref04_Push: function 12 -/
def standstillref04_Push.j0 : Nat → List (S62) → Int → Int → Bool → Option ((List (S62)))
 | 0, _, _, _, _ => none
 | k + 1, x0, x1, x2, x7 => if x7 = true then (some x0) else (if (x0.length : Int) > 0 then (if 0 < (x0.length : Int) then (if ((rd_T62 x0 0).f0) = x1 then ((some (([(⟨x1, wrap64 (((rd_T62 x0 0).f1) + x2)⟩ : S62)] : List (S62)) : List (S62))).bind fun y360 => (if 1 ≤ (x0.length : Int) then ((some (x0.drop 1 : List (S62))).bind fun y363 => (if y360.length + y363.length < 8796093022208 then (some (y360 ++ y363)) else (none))) else (none))) else ((some (([(⟨x1, x2⟩ : S62)] : List (S62)) : List (S62))).bind fun y371 => (if y371.length + x0.length < 8796093022208 then (some (y371 ++ x0)) else (none)))) else (none)) else ((some (([(⟨x1, x2⟩ : S62)] : List (S62)) : List (S62))).bind fun y377 => (if y377.length + x0.length < 8796093022208 then (some (y377 ++ x0)) else (none))))
def standstillref04_Push.f (k : Nat) (l0 : List (S62)) (a1 : Int) (a2 : Int) : Option ((List (S62))) := if a2 = 0 then (standstillref04_Push.j0 k l0 a1 a2 true) else (if a1 = 0 then (standstillref04_Push.j0 k l0 a1 a2 ((l0.length : Int) == 0)) else (standstillref04_Push.j0 k l0 a1 a2 false))
theorem standstillref04_Push.mono_l : ∀ k, (∀ y0 y1 y2 y3, LeO (standstillref04_Push.j0 k y0 y1 y2 y3) (standstillref04_Push.j0 (k + 1) y0 y1 y2 y3))
 | 0 => fun _ _ _ _ r h => by simp [standstillref04_Push.j0] at h
 | k + 1 => by
  have ih0 := standstillref04_Push.mono_l k
  ·
   intro y0 y1 y2 y3
   unfold standstillref04_Push.j0
   repeat' first
   | (with_reducible exact ih0 _ _ _ _)
   | (with_reducible exact LeO.refl _)
   | (with_reducible exact LeO.none _)
   | (with_reducible refine LeO.ite ?_ ?_)
   | (with_reducible refine LeO.bind ?_ (fun _ => ?_))
   | exact ih0 _ _ _ _
   | exact LeO.none _
   | refine LeO.ite ?_ ?_
   | refine LeO.bind ?_ (fun _ => ?_)
theorem standstillref04_Push.mono : ∀ a0 a1 a2 k, LeO (standstillref04_Push.f k a0 a1 a2) (standstillref04_Push.f (k + 1) a0 a1 a2) := by
 intro a0 a1 a2 k
 have ih0 := standstillref04_Push.mono_l k
 unfold standstillref04_Push.f
 repeat' first
   | (with_reducible exact ih0 _ _ _ _)
   | (with_reducible exact LeO.refl _)
   | (with_reducible exact LeO.none _)
   | (with_reducible refine LeO.ite ?_ ?_)
   | (with_reducible refine LeO.bind ?_ (fun _ => ?_))
   | exact ih0 _ _ _ _
   | exact LeO.none _
   | refine LeO.ite ?_ ?_
   | refine LeO.bind ?_ (fun _ => ?_)
def standstillref04_Push.T4 : Bool × List (List Nat × List Nat) := (true, [([], []), ([], []), ([1], [1]), ([2], [2]), ([3], [3]), ([], []), ([4, 5], [4, 5]), ([0, 6], [0, 6]), ([7], [7]), ([], []), ([9], [9]), ([8, 10], [8, 10]), ([11, 11, 0, 1, 2, 3, 4, 5, 6, 7, 8, 9, 10, 11], [11])])
def standstillref04_Push.B4 : List Nat := [0, 0, 2, 6, 14, 0, 62, 127, 255, 0, 512, 2047, 4095]
theorem standstillref04_Push.tab4 : rtab .any (opsOf Try.f12 4) = standstillref04_Push.T4 := by kernel_rfl
theorem standstillref04_Push.bits4 : waitsOk standstillref04_Push.T4.2 standstillref04_Push.B4 = true := by kernel_rfl
set_option maxHeartbeats 8000000 in
set_option maxRecDepth 100000 in
theorem standstillref04_Push.calls (k : Nat) (P0_ : Nat → Prop) (A0 : Option Addr) (c0 : Nat) (l0 : List (S62)) (a1 : Int) (a2 : Int) (r : List (S62)) (w : World) (hs0 : Kd.V k62 62 w w.heap.size (fun k_ => P0_ k_) (.slice A0 l0.length c0) l0) (h : standstillref04_Push.f k l0 a1 a2 = some r) :
  Calls Try.prog 12 #[.slice A0 l0.length c0, .int .i64 a1, .int .i64 a2] w fun e w' => ∃ v0_ : Value, e = .returned (v0_) ∧ Kd.V k62 62 w' w.heap.size (fun k_ => (P0_ k_ ∨ w.heap.size ≤ k_)) v0_ r ∧ Below w.heap.size w w' := by
 have hu62 := Try.underlying62
 have HO0 := Aside0.mk (show Kd.V k62 62 w w.heap.size (fun k_ => (P0_ k_ ∨ w.heap.size ≤ k_)) (.slice A0 l0.length c0) l0 from Kd.V_mono hs0 (fun k_ hk => .inl hk))
 have HB := Aside0.mk (Below.refl w.heap.size w)
 have H : (if a2 = 0 then (standstillref04_Push.j0 k l0 a1 a2 true) else (if a1 = 0 then (standstillref04_Push.j0 k l0 a1 a2 ((l0.length : Int) == 0)) else (standstillref04_Push.j0 k l0 a1 a2 false))) = some r := h
 clear h
 have HC4 := Aside0.mk H
 clear H
 go_enter Try.func12, Try.ntmps12
 go_upto_region 1 with (fail)
 go_cut [7] (fun v7 wc => ∃ (kq : Nat) (x7_3 : Bool), v7 = .bool x7_3 ∧ Aside0 (standstillref04_Push.j0 kq l0 a1 a2 x7_3 = some r) ∧ Aside0 (kq ≤ k) ∧ Aside0 (Kd.V k62 62 wc w.heap.size (fun k_ => (P0_ k_ ∨ w.heap.size ≤ k_)) (.slice A0 l0.length c0) l0) ∧ Aside0 (Below w.heap.size w wc))
 case first =>
  have H := HC4.out
  clear HC4
  by_cases c5 : a2 = 0
  ·
   rw [if_pos c5] at H
   have c5b0 : (a2 == 0) = true := beq_iff_eq.mpr c5
   have c5b1 : (a2 != 0) = false := bne_eq_false_iff_eq.mpr c5
   clear c5
   (first | rw [c5b0] | (simp only [i64_w, i32_w]; rw [c5b0]) | skip)
   (try rw [c5b1])
   have H' := Aside0.mk H
   clear H
   go_wp2
   go_meet
   case rel => exact ⟨_, (true), (by first | rfl | (simp; done) | (simp [*]; done)), H', ⟨by first | omega | exact Nat.le_refl _⟩, ⟨zV HO0⟩, ⟨zB HB⟩⟩
  ·
   rw [if_neg c5] at H
   have c5b0 : (a2 == 0) = false := beq_eq_false_iff_ne.mpr c5
   have c5b1 : (a2 != 0) = true := bne_iff_ne.mpr c5
   (first | rw [c5b0] | (simp only [i64_w, i32_w]; rw [c5b0]) | skip)
   (try rw [c5b1])
   by_cases c6 : a1 = 0
   ·
    rw [if_pos c6] at H
    have c6b0 : (a1 == 0) = true := beq_iff_eq.mpr c6
    have c6b1 : (a1 != 0) = false := bne_eq_false_iff_eq.mpr c6
    clear c6
    have H' := Aside0.mk H
    clear H
    go_wp2
    go_meet
    case rel => exact ⟨_, (((l0.length : Int) == 0)), (by first | rfl | (simp; done) | (simp [*]; done)), H', ⟨by first | omega | exact Nat.le_refl _⟩, ⟨zV HO0⟩, ⟨zB HB⟩⟩
   ·
    rw [if_neg c6] at H
    have c6b0 : (a1 == 0) = false := beq_eq_false_iff_ne.mpr c6
    have c6b1 : (a1 != 0) = true := bne_iff_ne.mpr c6
    have H' := Aside0.mk H
    clear H
    go_wp2
    go_meet
    case rel => exact ⟨_, (false), (by first | rfl | (simp; done) | (simp [*]; done)), H', ⟨by first | omega | exact Nat.le_refl _⟩, ⟨zV HO0⟩, ⟨zB HB⟩⟩
 case rest =>
  clear HC4
  try clear c1
  try clear p2
  try clear c5
  try clear c5b0
  try clear c5b1
  try clear c6
  try clear c6b0
  try clear c6b1
  obtain ⟨kq, x7_3, rfl, HA, HJ3, HO_0, HB⟩ := hcut
  cases kq with
  | zero => exact absurd HA.out (by simp [standstillref04_Push.j0])
  | succ kj3 =>
   have H := HA.out
   clear HA
   simp only [standstillref04_Push.j0] at H
   by_cases c7 : x7_3 = true
   ·
    subst c7
    have H1 : (some l0) = some r := by rw [if_pos rfl] at H; exact H
    clear H
    have H := H1
    clear H1
    obtain rfl := Option.some.inj H
    go_wp2
    go_ret
    exact ⟨_, by first | rfl | (simp [errW_none, errW_some] <;> rfl) | (simp [*, errW_none, errW_some] <;> rfl), zV HO_0, zB HB⟩
   ·
    replace c7 := Bool.eq_false_iff.mpr c7
    subst c7
    have H1 : (if (l0.length : Int) > 0 then (if 0 < (l0.length : Int) then (if ((rd_T62 l0 0).f0) = a1 then ((some (([(⟨a1, wrap64 (((rd_T62 l0 0).f1) + a2)⟩ : S62)] : List (S62)) : List (S62))).bind fun y360 => (if 1 ≤ (l0.length : Int) then ((some (l0.drop 1 : List (S62))).bind fun y363 => (if y360.length + y363.length < 8796093022208 then (some (y360 ++ y363)) else (none))) else (none))) else ((some (([(⟨a1, a2⟩ : S62)] : List (S62)) : List (S62))).bind fun y371 => (if y371.length + l0.length < 8796093022208 then (some (y371 ++ l0)) else (none)))) else (none)) else ((some (([(⟨a1, a2⟩ : S62)] : List (S62)) : List (S62))).bind fun y377 => (if y377.length + l0.length < 8796093022208 then (some (y377 ++ l0)) else (none)))) = some r := by rw [if_neg (show ¬ (false = true) by decide)] at H; exact H
    clear H
    have H := H1
    clear H1
    by_cases c8 : (l0.length : Int) > 0
    ·
     rw [if_pos c8] at H
     have c8b0 : decide (0 < (l0.length : Int)) = true := decide_eq_true c8
     have c8b1 : decide (0 < l0.length) = true := decide_eq_true (by omega)
     clear c8
     by_cases c9 : 0 < (l0.length : Int)
     ·
      rw [if_pos c9] at H
      have c9b0 : decide (0 < (l0.length : Int)) = true := decide_eq_true c9
      have c9b1 : decide (0 < l0.length) = true := decide_eq_true (by omega)
      clear c9
      by_cases c10 : ((rd_T62 l0 0).f0) = a1
      ·
       rw [if_pos c10] at H
       have c10b0 : (((rd_T62 l0 0).f0) == a1) = true := beq_iff_eq.mpr c10
       have c10b1 : (((rd_T62 l0 0).f0) != a1) = false := bne_eq_false_iff_eq.mpr c10
       clear c10
       obtain ⟨y360, hy360⟩ : ∃ y_ : List (S62), y_ = (([(⟨a1, wrap64 (((rd_T62 l0 0).f1) + a2)⟩ : S62)] : List (S62))) := ⟨_, rfl⟩
       replace H : (if 1 ≤ (l0.length : Int) then ((some (l0.drop 1 : List (S62))).bind fun y363 => (if y360.length + y363.length < 8796093022208 then (some (y360 ++ y363)) else (none))) else (none)) = some r := by first | (rw [hy360]; with_reducible exact H) | (have H2_ := (Option.bind_some _ _).symm.trans H; rw [hy360]; with_reducible exact H2_) | (have H2_ := (Option.bind_some _ _).symm.trans H; with_reducible exact H2_) | with_reducible exact H | (rw [hy360]; exact H) | exact H
       have Ny360 := Aside0.mk hy360
       clear hy360
       by_cases c11 : 1 ≤ (l0.length : Int)
       ·
        rw [if_pos c11] at H
        have c11b0 := eq_true c11
        have c11b1 : decide (1 ≤ (l0.length : Int)) = true := decide_eq_true c11
        clear c11
        obtain ⟨y363, hy363⟩ : ∃ y_ : List (S62), y_ = (l0.drop 1) := ⟨_, rfl⟩
        replace H : (if y360.length + y363.length < 8796093022208 then (some (y360 ++ y363)) else (none)) = some r := by first | (rw [hy363]; with_reducible exact H) | (have H2_ := (Option.bind_some _ _).symm.trans H; rw [hy363]; with_reducible exact H2_) | (have H2_ := (Option.bind_some _ _).symm.trans H; with_reducible exact H2_) | with_reducible exact H | (rw [hy363]; exact H) | exact H
        have Ny363 := Aside0.mk hy363
        clear hy363
        by_cases c12 : y360.length + y363.length < 8796093022208
        ·
         rw [if_pos c12] at H
         have LMc12 := Aside0.mk c12
         clear c12
         obtain ⟨y368, hy368⟩ : ∃ y_ : List (S62), y_ = (y360 ++ y363) := ⟨_, rfl⟩
         replace H : (some y368) = some r := by first | (rw [hy368]; with_reducible exact H) | (have H2_ := (Option.bind_some _ _).symm.trans H; rw [hy368]; with_reducible exact H2_) | (have H2_ := (Option.bind_some _ _).symm.trans H; with_reducible exact H2_) | with_reducible exact H | (rw [hy368]; exact H) | exact H
         have Ny368 := Aside0.mk hy368
         clear hy368
         obtain rfl := Option.some.inj H
         have p358 : 0 ≤ (0 : Int) := (by omega)
         have q358 : 0 < (l0.length : Int) := of_decide_eq_true (by first | (with_reducible assumption) | assumption)
         obtain ⟨ad358, e358, hx358_0, hx358_1⟩ := at_T62 (Kd.V_reads' HO_0.out).2.2 0 p358 q358
         cases e358
         have qi358 : (0 < l0.length) = True := eq_true (by omega)
         (try rw [show ((0 : Int)).toNat = 0 from rfl] at hx358_0)
         (try rw [show 0 * 2 = 0 from rfl] at hx358_0)
         (try rw [Addr.add_zero'] at hx358_0)
         (try rw [show ((0 : Int)).toNat = 0 from rfl] at hx358_1)
         (try rw [show 0 * 2 = 0 from rfl] at hx358_1)
         (try rw [Addr.add_zero'] at hx358_1)
         replace p358 := eq_true p358
         replace q358 := eq_true q358
         try go_wp2
         replace HO_0 := Aside0.mk (Kd.V_drew HO_0.out)
         replace HB := Aside0.mk (below_drew1 HB.out)
         have p359 : 0 ≤ (0 : Int) := (by omega)
         have q359 : 0 < (l0.length : Int) := of_decide_eq_true (by first | (with_reducible assumption) | assumption)
         obtain ⟨ad359, e359, hx359_0, hx359_1⟩ := at_T62 (Kd.V_reads' HO_0.out).2.2 0 p359 q359
         obtain rfl : ad358 = ad359 := (by injection e359)
         have qi359 : (0 < l0.length) = True := eq_true (by omega)
         (try rw [show ((0 : Int)).toNat = 0 from rfl] at hx359_0)
         (try rw [show 0 * 2 = 0 from rfl] at hx359_0)
         (try rw [Addr.add_zero'] at hx359_0)
         (try rw [show ((0 : Int)).toNat = 0 from rfl] at hx359_1)
         (try rw [show 0 * 2 = 0 from rfl] at hx359_1)
         (try rw [Addr.add_zero'] at hx359_1)
         replace p359 := eq_true p359
         replace q359 := eq_true q359
         have q14 : (1 : Int) ≤ ((l0.length : Int) : Int) := of_decide_eq_true (by first | (with_reducible assumption) | assumption)
         obtain ⟨i014, hi014, _, hsz14, _⟩ := info_parts info62
         have hroom14 : l0.length ≤ c0 := (Kd.V_reads' HO_0.out).2.1
         have hC14 : Kd.F k62 _ _ (some ad358) l0.length l0 := (Kd.V_at (base := w.heap.size) HO_0.out).2.2
         have hcut14 := cut_from (P := Try.prog) 25 62 .i64 Try.underlying25 hi014 2 hsz14 (some ad358) l0.length c0 1 (by omega) q14
         have hr14 := Kd.F_cut (m := (1 : Int).toNat) (c := c0) hC14 (by omega) hroom14
         obtain ⟨A14, hA14⟩ : ∃ A1, A1 = (if c0 = (1 : Int).toNat then (some ad358) else ((some ad358) : Option Addr).map (·.add ((1 : Int).toNat * 2))) := ⟨_, rfl⟩
         obtain ⟨c14, hc14⟩ : ∃ c1, c1 = c0 - (1 : Int).toNat := ⟨_, rfl⟩
         have hy14 : y363.length = l0.length - (1 : Int).toNat := (by rw [Ny363.out, List.length_drop] <;> omega)
         rw [show (l0).drop (1 : Int).toNat = y363 from Ny363.out.symm] at hr14
         replace hr14 : Kd.F k62 _ _ A14 y363.length y363 := (by rw [hA14]; exact hr14)
         rw [← hy14, ← hA14, ← hc14] at hcut14
         have HO367 := Aside0.mk (show Kd.V k62 62 _ w.heap.size _ (.slice A14 y363.length c14) y363 from Kd.V_mk (by rw [hy14, hc14]; exact Nat.sub_le_sub_right hroom14 _) hr14)
         have HC367 := Aside0.mk (show y363.length ≤ c14 from by rw [hy14, hc14]; exact Nat.sub_le_sub_right hroom14 _)
         clear hr14 hC14 hroom14 hi014 hsz14 hc14
         have KY14 := Aside0.mk hy14
         have KA14 := Aside0.mk hA14
         clear hy14 hA14
         replace q14 := eq_true q14
         refine start_ (n := 13) (S := fun w' => w'.cell? ad358 = some (.int .i64 ((rd_T62 l0 0).f0)) ∧ w'.cell? ⟨ad358.block, ad358.off + 1, none⟩ = some (.int .i64 ((rd_T62 l0 0).f1))) (ds := [11]) (zl 13 0) (by kernel_rfl) rfl rfl ⟨hx359_0, hx359_1⟩ (fun hHeld => ?_); refine with_tabW standstillref04_Push.tab4 standstillref04_Push.bits4 (fun HT_ HW_ => ?_)
         generalize wc.drew = w13 at HO_0 HB HO367 hx359_0 hx359_1 hHeld ⊢
         refine zP 0 (some 32) (zl 13 1) HT_ ?_
         refine zP 1 (some 33) (zl 13 3) HT_ ?_
         refine zP 2 (some 34) (zl 13 7) HT_ ?_
         refine zP 3 (some 35) (zl 13 15) HT_ ?_
         refine zP 5 (some 37) (zl 13 47) HT_ ?_
         refine zP 9 (some 41) (zl 13 559) HT_ ?_
         refine zP 10 (some 42) (zl 13 1583) HT_ ?_
         refine zT 4 (some 36) (zl 13 1599) HT_ HW_ hHeld ?_
         refine zP 6 (some 38) (zl 13 1663) HT_ ?_
         refine zP 7 (some 39) (zl 13 1791) HT_ ?_
         refine one_ (i := 8) (N := some 40) (zl 13 2047) rfl rfl (one_of HT_.out (by kernel_rfl)) (by decide) (fun K hK => ?_)
         refine Kd.R_lit_step k62 _ 62 ?hg (N := 40) ?hd (xs := ([(⟨a1, wrap64 (((rd_T62 l0 0).f1) + a2)⟩ : S62)] : List (S62))) (inner := [.int .i64 a1, .int .i64 (wrap64 (((rd_T62 l0 0).f1) + a2))]) (ok := fun _ => True) (okp := fun _ => True) ?hr ?hp (fun _ hk => hk) trivial (Below.refl _ _) (Nat.le_refl _) (by simp) ?_; (case hd => rfl); (case hg => rfl); (case hr => first | (go_simp; done) | (go_simp; rfl)); (case hp => exact (Reps.c2 (show Kd.M k62 _ _ _ (⟨a1, wrap64 (((rd_T62 l0 0).f1) + a2)⟩ : S62) [.int .i64 a1, .int .i64 (wrap64 (((rd_T62 l0 0).f1) + a2))] from (k62_mkM _ _ _ (⟨a1, wrap64 (((rd_T62 l0 0).f1) + a2)⟩ : S62) )) (Reps.none _ _)))
         intro v361 w15 ho16 hb hg_ hnew_
         have HS0_ := (hb.cell (World.block_lt_of_cell? _ _ (hHeld.1))).trans (hHeld.1)
         have HS1_ := (hb.cell (World.block_lt_of_cell? _ _ (hHeld.2))).trans (hHeld.2)
         clear hg_ hnew_
         (first | rw [← Ny360.out] at ho16 | (simp only [Int.reduceToNat] at ho16; rw [← Ny360.out] at ho16))
         have HO362 := Aside0.mk (Kd.R_lower (Kd.R_newM (M := fun k_ => (w.heap.size ≤ k_)) ho16 (below_size (zB HB)) (fun k_ h_ => h_)) (below_size (zB HB)))
         replace HO_0 := Aside0.mk (Kd.V_elder' (zV HO_0) (Kd.R_base ho16) hb)
         replace HO367 := Aside0.mk (Kd.V_elder' (zV HO367) (Kd.R_base ho16) hb)
         replace HB := Aside0.mk (below_step (zB HB) hb)
         clear hb ho16
         refine hK.out _ _ ⟨HS0_, HS1_⟩ (fun hHeld => ?_)
         clear hK K
         refine norm_ (a' := ?_) ?_ ?_
         rotate_left
         ·
          show Act.put _ (some 40) _ = _
          simp only [Act.put, zs, zs0, zs1, i64_w, i32_w]
          rfl
         refine last_ (i := 11) (N := some 43) (zl 13 4095) rfl rfl (one_of HT_.out (by kernel_rfl)) (by decide) (fun K hK => ?_)
         refine Kd.R_append_rows_step k62 (w0 := w) w.heap.size (by rfl) (.tmp 40) (.tmp 42) 25 62 (.agg #[(.int .i64 0), (.int .i64 0)]) 16 rfl Try.underlying25 info62 rfl (by decide) (by omega) v361 y360 y363 _ _ _ (fun k_ => (w.heap.size ≤ k_)) (fun _ => False) rfl rfl ?aO ?aR (fun _ _ h => h) (fun _ h => h.elim) ?aF ?aB ?aS ?aL ?_
         (case aR => exact zC ((Kd.V_reads' HO367.out).2.2))
         (case aB => exact (zB HB))
         (case aF => exact (fun k_ hk => (Nat.le_trans (below_size (zB HB)) hk)))
         (case aO => exact (by (with_reducible repeat (first | apply Kd.R_alloc | apply Kd.R_drewN | apply Kd.R_drew)); exact Kd.R_mono HO362.out (fun _ hk => hk.1)))
         (case aS => exact (below_size (zB HB)))
         (case aL => have := LMc12.out; omega)
         intro v369 w17 ho hb hg hat
         rw [← Ny368.out] at ho
         have n0_ := Aside0.mk (Kd.V_afterv (ok := (fun k_ => (P0_ k_ ∨ w.heap.size ≤ k_))) (zV HO_0) hg hat)
         have n1_ := Aside0.mk (Kd.V_afterv (ok := (fun k_ => (P0_ k_ ∨ w.heap.size ≤ k_))) (zV HO367) hg hat)
         have n2_ := Aside0.mk (hb)
         have n3_ := Aside0.mk (ho)
         clear HO_0
         clear HO367
         clear HB
         clear HO362
         have HO_0 := n0_
         have HO367 := n1_
         have HB := n2_
         have HO370 := n3_
         clear n0_ n1_ n2_ n3_
         clear ho hb hg hat
         refine hK.out _ _ ?_
         clear hK K
         refine norm_ (a' := ?_) ?_ ?_
         rotate_left
         ·
          show Act.put _ (some 43) _ = _
          simp only [Act.put, zs, zs0, zs1, i64_w, i32_w]
          rfl
         refine zP 12 (some 6) (zl 13 8191) HT_ ?_
         refine done_ (done_of HT_.out (by kernel_rfl)) ?_
         try go_wp2
         go_ret
         exact ⟨_, by first | rfl | (simp [errW_none, errW_some] <;> rfl) | (simp [*, errW_none, errW_some] <;> rfl), Kd.V_mono (Kd.R_V (zR HO370)) (fun k_ hk => by first | exact ⟨(.inr (hk.1)), hk.2⟩ | exact (.inr (hk))), zB HB⟩
        ·
         rw [if_neg c12] at H
         exact absurd H (by simp)
       ·
        rw [if_neg c11] at H
        exact absurd H (by simp)
      ·
       rw [if_neg c10] at H
       have c10b0 : (((rd_T62 l0 0).f0) == a1) = false := beq_eq_false_iff_ne.mpr c10
       have c10b1 : (((rd_T62 l0 0).f0) != a1) = true := bne_iff_ne.mpr c10
       obtain ⟨y371, hy371⟩ : ∃ y_ : List (S62), y_ = (([(⟨a1, a2⟩ : S62)] : List (S62))) := ⟨_, rfl⟩
       replace H : (if y371.length + l0.length < 8796093022208 then (some (y371 ++ l0)) else (none)) = some r := by first | (rw [hy371]; with_reducible exact H) | (have H2_ := (Option.bind_some _ _).symm.trans H; rw [hy371]; with_reducible exact H2_) | (have H2_ := (Option.bind_some _ _).symm.trans H; with_reducible exact H2_) | with_reducible exact H | (rw [hy371]; exact H) | exact H
       have Ny371 := Aside0.mk hy371
       clear hy371
       by_cases c18 : y371.length + l0.length < 8796093022208
       ·
        rw [if_pos c18] at H
        have LMc18 := Aside0.mk c18
        clear c18
        obtain ⟨y374, hy374⟩ : ∃ y_ : List (S62), y_ = (y371 ++ l0) := ⟨_, rfl⟩
        replace H : (some y374) = some r := by first | (rw [hy374]; with_reducible exact H) | (have H2_ := (Option.bind_some _ _).symm.trans H; rw [hy374]; with_reducible exact H2_) | (have H2_ := (Option.bind_some _ _).symm.trans H; with_reducible exact H2_) | with_reducible exact H | (rw [hy374]; exact H) | exact H
        have Ny374 := Aside0.mk hy374
        clear hy374
        obtain rfl := Option.some.inj H
        have p358 : 0 ≤ (0 : Int) := (by omega)
        have q358 : 0 < (l0.length : Int) := of_decide_eq_true (by first | (with_reducible assumption) | assumption)
        obtain ⟨ad358, e358, hx358_0, hx358_1⟩ := at_T62 (Kd.V_reads' HO_0.out).2.2 0 p358 q358
        cases e358
        have qi358 : (0 < l0.length) = True := eq_true (by omega)
        (try rw [show ((0 : Int)).toNat = 0 from rfl] at hx358_0)
        (try rw [show 0 * 2 = 0 from rfl] at hx358_0)
        (try rw [Addr.add_zero'] at hx358_0)
        (try rw [show ((0 : Int)).toNat = 0 from rfl] at hx358_1)
        (try rw [show 0 * 2 = 0 from rfl] at hx358_1)
        (try rw [Addr.add_zero'] at hx358_1)
        replace p358 := eq_true p358
        replace q358 := eq_true q358
        go_wp2_with (first | ((with_reducible refine gate_dst (N := 47) rfl ?_); (try (refine gate_guard (by rfl) ?_; dsimp only)); refine Kd.R_lit k62 _ 62 ?hg (N := 47) ?hd (xs := ([(⟨a1, a2⟩ : S62)] : List (S62))) (inner := [.int .i64 a1, .int .i64 a2]) (ok := fun _ => True) (okp := fun _ => True) ?hr ?hp (fun _ hk => hk) trivial (Below.refl _ _) (Nat.le_refl _) (by simp) ?_; (case hd => rfl); (case hg => rfl); (case hr => first | (go_simp; done) | (go_simp; rfl)); (case hp => exact (Reps.c2 (show Kd.M k62 _ _ _ (⟨a1, a2⟩ : S62) [.int .i64 a1, .int .i64 a2] from (k62_mkM _ _ _ (⟨a1, a2⟩ : S62) )) (Reps.none _ _))); intro v372 w19 ho20 hb hg_ hnew_; clear hg_ hnew_; (first | rw [← Ny371.out] at ho20 | (simp only [Int.reduceToNat] at ho20; rw [← Ny371.out] at ho20)); have HO373 := Aside0.mk (Kd.R_lower (Kd.R_newM (M := fun k_ => (w.heap.size ≤ k_)) ho20 (below_size (zB HB)) (fun k_ h_ => h_)) (below_size (zB HB))); replace HO_0 := Aside0.mk (Kd.V_elder' (zV HO_0) (Kd.R_base ho20) hb); replace HB := Aside0.mk (below_step (zB HB) hb); clear hb ho20) | ((with_reducible refine gate_builtin (b := .append) (xs := #[.tmp 47, .tmp 48]) rfl ?_); (try (refine gate_guard (by rfl) ?_; dsimp only)); at_builtin; refine Kd.R_append_rows k62 (w0 := w) w.heap.size rfl (.tmp 47) (.tmp 48) 25 62 (.agg #[(.int .i64 0), (.int .i64 0)]) 16 rfl Try.underlying25 info62 rfl (by decide) (by omega) v372 y371 l0 _ _ _ (fun k_ => (w.heap.size ≤ k_)) (fun _ => False) rfl rfl ?aO ?aR (fun _ _ h => h) (fun _ h => h.elim) ?aF ?aB ?aS ?aL ?_; (case aR => exact zC ((Kd.V_reads' HO_0.out).2.2)); (case aB => exact (zB HB)); (case aF => exact (fun k_ hk => (Nat.le_trans (below_size (zB HB)) hk))); (case aO => exact (by (with_reducible repeat (first | apply Kd.R_alloc | apply Kd.R_drewN | apply Kd.R_drew)); exact Kd.R_mono HO373.out (fun _ hk => hk.1))); (case aS => exact (below_size (zB HB))); (case aL => have := LMc18.out; omega); intro v375 w21 ho hb hg hat; rw [← Ny374.out] at ho; have n0_ := Aside0.mk (Kd.V_afterv (ok := (fun k_ => (P0_ k_ ∨ w.heap.size ≤ k_))) (zV HO_0) hg hat); have n1_ := Aside0.mk (hb); have n2_ := Aside0.mk (ho); clear HO_0; clear HB; clear HO373; have HO_0 := n0_; have HB := n1_; have HO376 := n2_; clear n0_ n1_ n2_; clear ho hb hg hat))
        go_ret
        exact ⟨_, by first | rfl | (simp [errW_none, errW_some] <;> rfl) | (simp [*, errW_none, errW_some] <;> rfl), Kd.V_mono (Kd.R_V (zR HO376)) (fun k_ hk => by first | exact ⟨(.inr (hk.1)), hk.2⟩ | exact (.inr (hk))), zB HB⟩
       ·
        rw [if_neg c18] at H
        exact absurd H (by simp)
     ·
      rw [if_neg c9] at H
      exact absurd H (by simp)
    ·
     rw [if_neg c8] at H
     have c8b0 : decide (0 < (l0.length : Int)) = false := decide_eq_false c8
     have c8b1 : decide (0 < l0.length) = false := decide_eq_false (by omega)
     clear c8
     obtain ⟨y377, hy377⟩ : ∃ y_ : List (S62), y_ = (([(⟨a1, a2⟩ : S62)] : List (S62))) := ⟨_, rfl⟩
     replace H : (if y377.length + l0.length < 8796093022208 then (some (y377 ++ l0)) else (none)) = some r := by first | (rw [hy377]; with_reducible exact H) | (have H2_ := (Option.bind_some _ _).symm.trans H; rw [hy377]; with_reducible exact H2_) | (have H2_ := (Option.bind_some _ _).symm.trans H; with_reducible exact H2_) | with_reducible exact H | (rw [hy377]; exact H) | exact H
     have Ny377 := Aside0.mk hy377
     clear hy377
     by_cases c22 : y377.length + l0.length < 8796093022208
     ·
      rw [if_pos c22] at H
      have LMc22 := Aside0.mk c22
      clear c22
      obtain ⟨y380, hy380⟩ : ∃ y_ : List (S62), y_ = (y377 ++ l0) := ⟨_, rfl⟩
      replace H : (some y380) = some r := by first | (rw [hy380]; with_reducible exact H) | (have H2_ := (Option.bind_some _ _).symm.trans H; rw [hy380]; with_reducible exact H2_) | (have H2_ := (Option.bind_some _ _).symm.trans H; with_reducible exact H2_) | with_reducible exact H | (rw [hy380]; exact H) | exact H
      have Ny380 := Aside0.mk hy380
      clear hy380
      obtain rfl := Option.some.inj H
      go_wp2_with (first | ((with_reducible refine gate_dst (N := 47) rfl ?_); (try (refine gate_guard (by rfl) ?_; dsimp only)); refine Kd.R_lit k62 _ 62 ?hg (N := 47) ?hd (xs := ([(⟨a1, a2⟩ : S62)] : List (S62))) (inner := [.int .i64 a1, .int .i64 a2]) (ok := fun _ => True) (okp := fun _ => True) ?hr ?hp (fun _ hk => hk) trivial (Below.refl _ _) (Nat.le_refl _) (by simp) ?_; (case hd => rfl); (case hg => rfl); (case hr => first | (go_simp; done) | (go_simp; rfl)); (case hp => exact (Reps.c2 (show Kd.M k62 _ _ _ (⟨a1, a2⟩ : S62) [.int .i64 a1, .int .i64 a2] from (k62_mkM _ _ _ (⟨a1, a2⟩ : S62) )) (Reps.none _ _))); intro v378 w23 ho24 hb hg_ hnew_; clear hg_ hnew_; (first | rw [← Ny377.out] at ho24 | (simp only [Int.reduceToNat] at ho24; rw [← Ny377.out] at ho24)); have HO379 := Aside0.mk (Kd.R_lower (Kd.R_newM (M := fun k_ => (w.heap.size ≤ k_)) ho24 (below_size (zB HB)) (fun k_ h_ => h_)) (below_size (zB HB))); replace HO_0 := Aside0.mk (Kd.V_elder' (zV HO_0) (Kd.R_base ho24) hb); replace HB := Aside0.mk (below_step (zB HB) hb); clear hb ho24) | ((with_reducible refine gate_builtin (b := .append) (xs := #[.tmp 47, .tmp 48]) rfl ?_); (try (refine gate_guard (by rfl) ?_; dsimp only)); at_builtin; refine Kd.R_append_rows k62 (w0 := w) w.heap.size rfl (.tmp 47) (.tmp 48) 25 62 (.agg #[(.int .i64 0), (.int .i64 0)]) 16 rfl Try.underlying25 info62 rfl (by decide) (by omega) v378 y377 l0 _ _ _ (fun k_ => (w.heap.size ≤ k_)) (fun _ => False) rfl rfl ?aO ?aR (fun _ _ h => h) (fun _ h => h.elim) ?aF ?aB ?aS ?aL ?_; (case aR => exact zC ((Kd.V_reads' HO_0.out).2.2)); (case aB => exact (zB HB)); (case aF => exact (fun k_ hk => (Nat.le_trans (below_size (zB HB)) hk))); (case aO => exact (by (with_reducible repeat (first | apply Kd.R_alloc | apply Kd.R_drewN | apply Kd.R_drew)); exact Kd.R_mono HO379.out (fun _ hk => hk.1))); (case aS => exact (below_size (zB HB))); (case aL => have := LMc22.out; omega); intro v381 w25 ho hb hg hat; rw [← Ny380.out] at ho; have n0_ := Aside0.mk (Kd.V_afterv (ok := (fun k_ => (P0_ k_ ∨ w.heap.size ≤ k_))) (zV HO_0) hg hat); have n1_ := Aside0.mk (hb); have n2_ := Aside0.mk (ho); clear HO_0; clear HB; clear HO379; have HO_0 := n0_; have HB := n1_; have HO382 := n2_; clear n0_ n1_ n2_; clear ho hb hg hat))
      go_ret
      exact ⟨_, by first | rfl | (simp [errW_none, errW_some] <;> rfl) | (simp [*, errW_none, errW_some] <;> rfl), Kd.V_mono (Kd.R_V (zR HO382)) (fun k_ hk => by first | exact ⟨(.inr (hk.1)), hk.2⟩ | exact (.inr (hk))), zB HB⟩
     ·
      rw [if_neg c22] at H
      exact absurd H (by simp)

end Go.Proofs.Ytpemcbjdlpajlaa.G1
