/- The functions of one seat as Lean functions, each with its contract: the call of the Go function returns what the Lean function answers. Written by a program of this session out of the translation; contracts made by hand are laid between. -/
import Derived.Test.YtfjfnpegpcdnaaaGBx0
import Derived.Test.YtfjfnpegpcdnaaaGBx3
import Derived.Test.YtfjfnpegpcdnaaaGBx6
namespace Go.Proofs.Ytfjfnpegpcdnaaa.GB
open Go.RowKit Go.Proofs.YtfjfnpegpcdnaaaW.PrintWords Go.Proofs.YtfjfnpegpcdnaaaW.PrintLast Go.Proofs.YtfjfnpegpcdnaaaW.PrintMore
attribute [local go_sem] max2_int min2_int max_two min_two max_three min_three max_four min_four   -- for this text's walks alone
set_option linter.unusedVariables false
set_option linter.unusedSimpArgs false

/-! ### standstilllaw01_Read: function 22 -/
def standstilllaw01_Read.f (k : Nat) (a0 : ByteArray) : Option (Int × Int × (List (List (S57)))) := (standstillref01_Parse.f k a0).bind fun bt174 => (some (bt174.1, bt174.2.1, bt174.2.2.1))
theorem standstilllaw01_Read.mono : ∀ a0 k, LeO (standstilllaw01_Read.f k a0) (standstilllaw01_Read.f (k + 1) a0) := by
 intro a0 k
 unfold standstilllaw01_Read.f
 repeat' first
   | (with_reducible exact standstillref01_Parse.mono _ _)
   | (with_reducible exact LeO.refl _)
   | (with_reducible exact LeO.none _)
   | (with_reducible refine LeO.ite ?_ ?_)
   | (with_reducible refine LeO.bind ?_ (fun _ => ?_))
   | exact standstillref01_Parse.mono _ _
   | exact LeO.none _
   | refine LeO.ite ?_ ?_
   | refine LeO.bind ?_ (fun _ => ?_)
set_option maxHeartbeats 8000000 in
set_option maxRecDepth 100000 in
theorem standstilllaw01_Read.calls (k : Nat) (a0 : ByteArray) (r1 : Int) (r2 : Int) (r3 : List (List (S57))) (w : World) (h : standstilllaw01_Read.f k a0 = some (r1, r2, r3)) :
  Calls Try.prog 22 #[.string a0] w fun e w' => ∃ v2_ : Value, e = .returned (.agg #[.int .i64 r1, .int .i64 r2, v2_]) ∧ Kd.S (Kd.slice 57 k57) 54 w' w.heap.size (fun _ => True) v2_ r3 ∧ Below w.heap.size w w' := by
 have hu24 := Try.underlying24
 have HB := Aside0.mk (Below.refl w.heap.size w)
 have H : ((standstillref01_Parse.f k a0).bind fun bt174 => (some (bt174.1, bt174.2.1, bt174.2.2.1))) = some (r1, r2, r3) := h
 clear h
 replace H := Option.bind_eq_some_iff.mp H
 obtain ⟨⟨t174, t175, t176, t179⟩, A20, H⟩ := H
 replace H : (some (t174, t175, t176)) = some (r1, r2, r3) := H
 have A2 := Aside0.mk A20
 clear A20
 simp only [Option.some.injEq, Prod.mk.injEq] at H
 obtain ⟨rfl, rfl, rfl⟩ := H
 go_enter Try.func22, Try.ntmps22
 go_wp2_with (first | ((with_reducible refine gate_dst (N := 2) rfl ?_); refine box_event ?hg (N := 2) ?hd (cs := #[.int .i64 0, .int .i64 0, .slice none 0 0]) (t := 24) ?hr ?_; (case hd => rfl); (case hg => rfl); (case hr => first | (go_simp; done) | (go_simp; rfl)); intro gb173 hg w3 hbox hb; have BK173 := Aside0.mk (hbox); have GW173 := Aside0.mk ((by rw [hg]; exact (below_size (zB HB)) : w.heap.size ≤ gb173)); have GE173 := Aside0.mk ((by rw [hg]; exact (below_size (zB HB)) : w.heap.size ≤ gb173)); replace HB := Aside0.mk (below_step (zB HB) hb); clear hb hbox hg) | ((with_reducible refine gate_callee (f := 32) rfl ?_); refine goesL_ (some 7) rfl rfl Try.func32 (by kernel_rfl) rfl #[.string a0] rfl (zm) ?_; (with_reducible refine (standstillref01_Parse.calls k a0 t174 t175 t176 t179 _ A2.out).mono ?_); rintro e w4 ⟨v177, rfl, ho0, hb⟩; refine ⟨_, rfl, ?_⟩; have HO178 := Aside0.mk (Kd.S_lower ho0 (below_size (zB HB))); replace BK173 := Aside0.mk (zb BK173 hb); replace HB := Aside0.mk (below_step (zB HB) hb); (try clear hb); (try clear hb2); (try clear hk); (try clear hi); (try clear ho0)) | ((with_reducible refine gate_dst (N := 3) rfl ?_); refine box_event ?hg (N := 3) ?hd (cs := #[.int .i64 0, .int .i64 0, .slice none 0 0]) (t := 24) ?hr ?_; (case hd => rfl); (case hg => rfl); (case hr => first | (go_simp; done) | (go_simp; rfl)); intro gb180 hg w5 hbox hb; have BK180 := Aside0.mk (hbox); have GW180 := Aside0.mk ((by rw [hg]; exact (below_size (zB HB)) : w.heap.size ≤ gb180)); have GE180 := Aside0.mk ((by rw [hg]; exact (below_size (zB HB)) : w.heap.size ≤ gb180)); have NB173_180 := Aside0.mk ((by rw [hg]; exact Nat.ne_of_lt (zL BK173) : gb173 ≠ gb180)); have NB180_173 := Aside0.mk ((by rw [hg]; exact Nat.ne_of_gt (zL BK173) : gb180 ≠ gb173)); replace HO178 := Aside0.mk (zSb HO178 hb); replace BK173 := Aside0.mk (zb BK173 hb); replace HB := Aside0.mk (below_step (zB HB) hb); clear hb hbox hg; have hnb6 := NB180_173.out; have hnc6 := NB173_180.out; have hz7 := zc3 BK180; obtain ⟨Ao8, co8, eo8⟩ := Kd.S_slice HO178.out; subst eo8; have hz9 := zc3 BK173))
 refine bodyPost_ret (results_cell_row rfl _ _ gb173 24 #[.int .i64 t174, .int .i64 t175, .slice Ao8 t176.length co8] (0, 0) _ rfl (by (with_reducible repeat (first | refine blk_drewN ?_ _ | refine blk_drew ?_ | refine blk_alloc ?_ _)); refine blk_put (cs := #[.int .i64 t174, .int .i64 t175, .slice none 0 0]) ?_ 2 _ rfl; (with_reducible repeat (first | refine blk_drewN ?_ _ | refine blk_drew ?_ | refine blk_alloc ?_ _)); refine blk_put (cs := #[.int .i64 t174, .int .i64 0, .slice none 0 0]) ?_ 1 _ rfl; (with_reducible repeat (first | refine blk_drewN ?_ _ | refine blk_drew ?_ | refine blk_alloc ?_ _)); refine blk_put (cs := #[.int .i64 0, .int .i64 0, .slice none 0 0]) ?_ 0 _ rfl; (with_reducible repeat (first | refine blk_drewN ?_ _ | refine blk_drew ?_ | refine blk_alloc ?_ _)); refine blk_far ?_ NB173_180.out _; (with_reducible repeat (first | refine blk_drewN ?_ _ | refine blk_drew ?_ | refine blk_alloc ?_ _)); refine blk_far ?_ NB173_180.out _; (with_reducible repeat (first | refine blk_drewN ?_ _ | refine blk_drew ?_ | refine blk_alloc ?_ _)); refine blk_far ?_ NB173_180.out _; (with_reducible repeat (first | refine blk_drewN ?_ _ | refine blk_drew ?_ | refine blk_alloc ?_ _)); exact BK173.out) Try.underlying24 rfl (by kernel_rfl)) rfl ?_
 exact ⟨_, by first | rfl | (simp [errW_none, errW_some] <;> rfl) | (simp [*, errW_none, errW_some] <;> rfl), by (with_reducible repeat (first | apply Kd.S_alloc | apply Kd.S_drewN | apply Kd.S_drew)); exact Kd.S_mono (zSf3 (g := gb173) (Kd.S_far (p := ⟨gb180, 2, none⟩) (Kd.S_far (p := ⟨gb180, 1, none⟩) (Kd.S_far (p := ⟨gb180, 0, none⟩) (Kd.S_types (Kd.S_types HO178.out BK180.out (by decide)) BK173.out (by decide)) (fun _ hk => hk.1.2) (.int .i64 t174)) (fun _ hk => hk.1.2) (.int .i64 t175)) (fun _ hk => hk.1.2) (.slice Ao8 t176.length co8))) (fun _ hk => trivial), zB HB⟩

/-! ### standstilllaw05_awake: function 8 -/
def standstilllaw05_awake.f (k : Nat)  : Option (Bool) := (standstilllaw01_Read.f k (⟨#[49, 82, 66, 49, 76, 66, 95, 49, 76, 65, 49, 82, 90]⟩ : ByteArray)).bind fun bt181 => ((block_Cross.f k bt181.1 bt181.2.1 bt181.2.2 0 0 (([0, 0] : List Int))).bind fun bt189 => ((standstilllaw01_Read.f k (⟨#[48, 82, 66, 49, 82, 90, 95, 48, 76, 65, 49, 82, 90]⟩ : ByteArray)).bind fun bt198 => ((block_Cross.f k bt198.1 bt198.2.1 bt198.2.2 0 0 (([0, 0] : List Int))).bind fun bt206 => (if bt189.2.2.2.2.2 = 0 then (if bt206.2.2.2.2.2 = 0 then (if bt206.1 = 3 then ((standstillref05_Same.f k bt189.1 bt189.2.1 bt189.2.2.1 bt189.2.2.2.1 bt189.2.2.2.2.1 0 1 3 (-1) (([1, 1] : List Int))).bind fun t218 => (some t218)) else (some false)) else (some false)) else (some false)))))
theorem standstilllaw05_awake.mono : ∀ k, LeO (standstilllaw05_awake.f k ) (standstilllaw05_awake.f (k + 1) ) := by
 intro  k
 unfold standstilllaw05_awake.f
 repeat' first
   | (with_reducible exact block_Cross.mono _ _ _ _ _ _ _)
   | (with_reducible exact standstilllaw01_Read.mono _ _)
   | (with_reducible exact standstillref05_Same.mono _ _ _ _ _ _ _ _ _ _ _)
   | (with_reducible exact LeO.refl _)
   | (with_reducible exact LeO.none _)
   | (with_reducible refine LeO.ite ?_ ?_)
   | (with_reducible refine LeO.bind ?_ (fun _ => ?_))
   | exact block_Cross.mono _ _ _ _ _ _ _
   | exact standstilllaw01_Read.mono _ _
   | exact standstillref05_Same.mono _ _ _ _ _ _ _ _ _ _ _
   | exact LeO.none _
   | refine LeO.ite ?_ ?_
   | refine LeO.bind ?_ (fun _ => ?_)
set_option maxHeartbeats 8000000 in
set_option maxRecDepth 100000 in
theorem standstilllaw05_awake.calls (k : Nat)  (r : Bool) (w : World) (h : standstilllaw05_awake.f k  = some r) :
  Calls Try.prog 8 #[] w fun e w' => e = .returned (.bool r) ∧ Below w.heap.size w w' := by
 have hu29 := Try.underlying29
 have HB := Aside0.mk (Below.refl w.heap.size w)
 have H : ((standstilllaw01_Read.f k (⟨#[49, 82, 66, 49, 76, 66, 95, 49, 76, 65, 49, 82, 90]⟩ : ByteArray)).bind fun bt181 => ((block_Cross.f k bt181.1 bt181.2.1 bt181.2.2 0 0 (([0, 0] : List Int))).bind fun bt189 => ((standstilllaw01_Read.f k (⟨#[48, 82, 66, 49, 82, 90, 95, 48, 76, 65, 49, 82, 90]⟩ : ByteArray)).bind fun bt198 => ((block_Cross.f k bt198.1 bt198.2.1 bt198.2.2 0 0 (([0, 0] : List Int))).bind fun bt206 => (if bt189.2.2.2.2.2 = 0 then (if bt206.2.2.2.2.2 = 0 then (if bt206.1 = 3 then ((standstillref05_Same.f k bt189.1 bt189.2.1 bt189.2.2.1 bt189.2.2.2.1 bt189.2.2.2.2.1 0 1 3 (-1) (([1, 1] : List Int))).bind fun t218 => (some t218)) else (some false)) else (some false)) else (some false)))))) = some r := h
 clear h
 replace H := Option.bind_eq_some_iff.mp H
 obtain ⟨⟨t181, t182, t183⟩, A10, H⟩ := H
 replace H : ((block_Cross.f k t181 t182 t183 0 0 (([0, 0] : List Int))).bind fun bt189 => ((standstilllaw01_Read.f k (⟨#[48, 82, 66, 49, 82, 90, 95, 48, 76, 65, 49, 82, 90]⟩ : ByteArray)).bind fun bt198 => ((block_Cross.f k bt198.1 bt198.2.1 bt198.2.2 0 0 (([0, 0] : List Int))).bind fun bt206 => (if bt189.2.2.2.2.2 = 0 then (if bt206.2.2.2.2.2 = 0 then (if bt206.1 = 3 then ((standstillref05_Same.f k bt189.1 bt189.2.1 bt189.2.2.1 bt189.2.2.2.1 bt189.2.2.2.2.1 0 1 3 (-1) (([1, 1] : List Int))).bind fun t218 => (some t218)) else (some false)) else (some false)) else (some false))))) = some r := H
 have A1 := Aside0.mk A10
 clear A10
 obtain ⟨y186, hy186⟩ : ∃ y_ : List Int, y_ = (([0, 0] : List Int)) := ⟨_, rfl⟩
 replace H : ((block_Cross.f k t181 t182 t183 0 0 y186).bind fun bt189 => ((standstilllaw01_Read.f k (⟨#[48, 82, 66, 49, 82, 90, 95, 48, 76, 65, 49, 82, 90]⟩ : ByteArray)).bind fun bt198 => ((block_Cross.f k bt198.1 bt198.2.1 bt198.2.2 0 0 (([0, 0] : List Int))).bind fun bt206 => (if bt189.2.2.2.2.2 = 0 then (if bt206.2.2.2.2.2 = 0 then (if bt206.1 = 3 then ((standstillref05_Same.f k bt189.1 bt189.2.1 bt189.2.2.1 bt189.2.2.2.1 bt189.2.2.2.2.1 0 1 3 (-1) (([1, 1] : List Int))).bind fun t218 => (some t218)) else (some false)) else (some false)) else (some false))))) = some r := by first | (rw [hy186]; with_reducible exact H) | (have H2_ := (Option.bind_some _ _).symm.trans H; rw [hy186]; with_reducible exact H2_) | (have H2_ := (Option.bind_some _ _).symm.trans H; with_reducible exact H2_) | with_reducible exact H | (rw [hy186]; exact H) | exact H
 have Ny186 := Aside0.mk hy186
 clear hy186
 replace H := Option.bind_eq_some_iff.mp H
 obtain ⟨⟨t189, t190, t191, t192, t193, t196⟩, A20, H⟩ := H
 replace H : ((standstilllaw01_Read.f k (⟨#[48, 82, 66, 49, 82, 90, 95, 48, 76, 65, 49, 82, 90]⟩ : ByteArray)).bind fun bt198 => ((block_Cross.f k bt198.1 bt198.2.1 bt198.2.2 0 0 (([0, 0] : List Int))).bind fun bt206 => (if t196 = 0 then (if bt206.2.2.2.2.2 = 0 then (if bt206.1 = 3 then ((standstillref05_Same.f k t189 t190 t191 t192 t193 0 1 3 (-1) (([1, 1] : List Int))).bind fun t218 => (some t218)) else (some false)) else (some false)) else (some false)))) = some r := H
 have A2 := Aside0.mk A20
 clear A20
 replace H := Option.bind_eq_some_iff.mp H
 obtain ⟨⟨t198, t199, t200⟩, A30, H⟩ := H
 replace H : ((block_Cross.f k t198 t199 t200 0 0 (([0, 0] : List Int))).bind fun bt206 => (if t196 = 0 then (if bt206.2.2.2.2.2 = 0 then (if bt206.1 = 3 then ((standstillref05_Same.f k t189 t190 t191 t192 t193 0 1 3 (-1) (([1, 1] : List Int))).bind fun t218 => (some t218)) else (some false)) else (some false)) else (some false))) = some r := H
 have A3 := Aside0.mk A30
 clear A30
 obtain ⟨y203, hy203⟩ : ∃ y_ : List Int, y_ = (([0, 0] : List Int)) := ⟨_, rfl⟩
 replace H : ((block_Cross.f k t198 t199 t200 0 0 y203).bind fun bt206 => (if t196 = 0 then (if bt206.2.2.2.2.2 = 0 then (if bt206.1 = 3 then ((standstillref05_Same.f k t189 t190 t191 t192 t193 0 1 3 (-1) (([1, 1] : List Int))).bind fun t218 => (some t218)) else (some false)) else (some false)) else (some false))) = some r := by first | (rw [hy203]; with_reducible exact H) | (have H2_ := (Option.bind_some _ _).symm.trans H; rw [hy203]; with_reducible exact H2_) | (have H2_ := (Option.bind_some _ _).symm.trans H; with_reducible exact H2_) | with_reducible exact H | (rw [hy203]; exact H) | exact H
 have Ny203 := Aside0.mk hy203
 clear hy203
 replace H := Option.bind_eq_some_iff.mp H
 obtain ⟨⟨t206, t207, t208, t209, t210, t213⟩, A40, H⟩ := H
 replace H : (if t196 = 0 then (if t213 = 0 then (if t206 = 3 then ((standstillref05_Same.f k t189 t190 t191 t192 t193 0 1 3 (-1) (([1, 1] : List Int))).bind fun t218 => (some t218)) else (some false)) else (some false)) else (some false)) = some r := H
 have A4 := Aside0.mk A40
 clear A40
 have HC5 := Aside0.mk H
 clear H
 go_enter Try.func8, Try.ntmps8
 go_upto_region 3 with (first | ((with_reducible refine gate_callee (f := 22) rfl ?_); refine goesL_ (some 6) rfl rfl Try.func22 (by kernel_rfl) rfl #[.string (⟨#[49, 82, 66, 49, 76, 66, 95, 49, 76, 65, 49, 82, 90]⟩ : ByteArray)] rfl (zm) ?_; (with_reducible refine (standstilllaw01_Read.calls k (⟨#[49, 82, 66, 49, 76, 66, 95, 49, 76, 65, 49, 82, 90]⟩ : ByteArray) t181 t182 t183 _ A1.out).mono ?_); rintro e w6 ⟨v184, rfl, ho0, hb⟩; refine ⟨_, rfl, ?_⟩; have HO185 := Aside0.mk (Kd.S_lower ho0 (below_size (zB HB))); replace HB := Aside0.mk (below_step (zB HB) hb); (try clear hb); (try clear hb2); (try clear hk); (try clear hi); (try clear ho0)) | ((with_reducible refine gate_dst (N := 7) rfl ?_); (try (refine gate_guard (by rfl) ?_; dsimp only)); refine Kd.R_lit (Kd.int .i64) _ 3 ?hg (N := 7) ?hd (xs := ([0, 0] : List Int)) (inner := [.int .i64 0, .int .i64 0]) (ok := fun _ => True) (okp := fun _ => True) ?hr ?hp (fun _ hk => hk) trivial (Below.refl _ _) (Nat.le_refl _) (by simp) ?_; (case hd => rfl); (case hg => rfl); (case hr => first | (go_simp; done) | (go_simp; rfl)); (case hp => exact (Reps.one (show Kd.M (Kd.int .i64) _ _ _ 0 [.int .i64 0] from rfl) (Reps.one (show Kd.M (Kd.int .i64) _ _ _ 0 [.int .i64 0] from rfl) (Reps.none _ _)))); intro v187 w7 ho8 hb hg_ hnew_; clear hg_ hnew_; (first | rw [← Ny186.out] at ho8 | (simp only [Int.reduceToNat] at ho8; rw [← Ny186.out] at ho8)); have HO188 := Aside0.mk (Kd.R_lower ho8 (below_size (zB HB))); replace HO185 := Aside0.mk (zSb HO185 hb); replace HB := Aside0.mk (below_step (zB HB) hb); clear hb ho8; obtain ⟨Ao9, co9, eo9⟩ := Kd.S_slice HO185.out; subst eo9; obtain ⟨Ao10, co10, eo10⟩ := Kd.R_slice HO188.out; subst eo10) | ((with_reducible refine gate_callee (f := 9) rfl ?_); refine goesL_ (some 8) rfl rfl Try.func9 (by kernel_rfl) rfl #[.agg #[.int .i64 t181, .int .i64 t182, .slice Ao9 t183.length co9], .int .i64 0, .int .i64 0, .slice Ao10 y186.length co10] rfl (zm) ?_; (with_reducible refine (block_Cross.calls k t181 t182 _ _ t183 0 0 _ _ y186 t189 t190 t191 t192 t193 t196 _ ?side1 ?side2 ?side3 ?side4 A2.out).mono ?_); (case side1 => exact zC ((Kd.S_reads' HO185.out).2.2)); (case side2 => exact (Kd.S_reads' HO185.out).2.1); (case side3 => exact zC ((Kd.R_reads' HO188.out).2.2)); (case side4 => exact (Kd.R_reads' HO188.out).2.1); rintro e w11 ⟨v194, rfl, ho0, hb⟩; refine ⟨_, rfl, ?_⟩; have HO195 := Aside0.mk (Kd.R_lower (Kd.R_new' ho0 (Kd.R_lt (zR HO188))) (below_size (zB HB))); replace HO185 := Aside0.mk (zSb HO185 hb); replace HO188 := Aside0.mk (Kd.R_elder' (zR HO188) (Kd.R_base ho0) hb); replace HB := Aside0.mk (below_step (zB HB) hb); (try clear hb); (try clear hb2); (try clear hk); (try clear hi); (try clear ho0)) | ((with_reducible refine gate_dst (N := 1) rfl ?_); (try (refine gate_guard (by rfl) ?_; dsimp only)); refine box_event ?hg (N := 1) ?hd (cs := #[.int .i64 0, .int .i64 0, .int .i64 0, .int .i64 0, .slice none 0 0]) (t := 29) ?hr ?_; (case hd => rfl); (case hg => rfl); (case hr => first | (go_simp; done) | (go_simp; rfl)); intro gb197 hg w12 hbox hb; have BK197 := Aside0.mk (hbox); have GW197 := Aside0.mk ((by rw [hg]; exact (below_size (zB HB)) : w.heap.size ≤ gb197)); have GE197 := Aside0.mk ((by rw [hg]; exact (below_size (zB HB)) : w.heap.size ≤ gb197)); replace HO185 := Aside0.mk (zSb HO185 hb); replace HO188 := Aside0.mk (zRb HO188 hb); replace HO195 := Aside0.mk (zRb HO195 hb); replace HB := Aside0.mk (below_step (zB HB) hb); clear hb hbox hg; have hz13 := zc5 BK197; obtain ⟨Ao14, co14, eo14⟩ := Kd.R_slice HO195.out; subst eo14) | ((with_reducible refine gate_callee (f := 22) rfl ?_); refine goesL_ (some 12) rfl rfl Try.func22 (by kernel_rfl) rfl #[.string (⟨#[48, 82, 66, 49, 82, 90, 95, 48, 76, 65, 49, 82, 90]⟩ : ByteArray)] rfl (zm) ?_; (with_reducible refine (standstilllaw01_Read.calls k (⟨#[48, 82, 66, 49, 82, 90, 95, 48, 76, 65, 49, 82, 90]⟩ : ByteArray) t198 t199 t200 _ A3.out).mono ?_); rintro e w15 ⟨v201, rfl, ho0, hb⟩; refine ⟨_, rfl, ?_⟩; have HO202 := Aside0.mk (Kd.S_lower (Kd.S_new' ho0 (Kd.S_lt (by (with_reducible repeat (first | apply Kd.S_alloc | apply Kd.S_drewN | apply Kd.S_drew)); exact (Kd.S_mono (zSf5 (g := gb197) (Kd.S_types HO185.out BK197.out (by decide))) (fun _ h_ => h_.1))))) (below_size (zB HB))); replace HO185 := Aside0.mk (Kd.S_elder' (by (with_reducible repeat (first | apply Kd.S_alloc | apply Kd.S_drewN | apply Kd.S_drew)); exact (Kd.S_mono (zSf5 (g := gb197) (Kd.S_types HO185.out BK197.out (by decide))) (fun _ h_ => h_.1))) (Kd.S_base ho0) hb); replace HO188 := Aside0.mk (Kd.R_below (by (with_reducible repeat (first | apply Kd.R_alloc | apply Kd.R_drewN | apply Kd.R_drew)); exact (Kd.R_mono (zRf5 (g := gb197) (Kd.R_types HO188.out BK197.out (by decide))) (fun _ h_ => h_.1))) hb); replace HO195 := Aside0.mk (Kd.R_below (by (with_reducible repeat (first | apply Kd.R_alloc | apply Kd.R_drewN | apply Kd.R_drew)); exact (Kd.R_mono (zRf5 (g := gb197) (Kd.R_types HO195.out BK197.out (by decide))) (fun _ h_ => h_.1))) hb); replace BK197 := Aside0.mk (blk_below (g := gb197) (o := .cells #[.int .i64 t189, .int .i64 t190, .int .i64 t191, .int .i64 t192, .slice Ao14 t193.length co14] 29 (0, 0)) (by (with_reducible repeat (first | refine blk_drewN ?_ _ | refine blk_drew ?_ | refine blk_alloc ?_ _)); refine blk_put (cs := #[.int .i64 t189, .int .i64 t190, .int .i64 t191, .int .i64 t192, .slice none 0 0]) ?_ 4 _ rfl; (with_reducible repeat (first | refine blk_drewN ?_ _ | refine blk_drew ?_ | refine blk_alloc ?_ _)); refine blk_put (cs := #[.int .i64 t189, .int .i64 t190, .int .i64 t191, .int .i64 0, .slice none 0 0]) ?_ 3 _ rfl; (with_reducible repeat (first | refine blk_drewN ?_ _ | refine blk_drew ?_ | refine blk_alloc ?_ _)); refine blk_put (cs := #[.int .i64 t189, .int .i64 t190, .int .i64 0, .int .i64 0, .slice none 0 0]) ?_ 2 _ rfl; (with_reducible repeat (first | refine blk_drewN ?_ _ | refine blk_drew ?_ | refine blk_alloc ?_ _)); refine blk_put (cs := #[.int .i64 t189, .int .i64 0, .int .i64 0, .int .i64 0, .slice none 0 0]) ?_ 1 _ rfl; (with_reducible repeat (first | refine blk_drewN ?_ _ | refine blk_drew ?_ | refine blk_alloc ?_ _)); refine blk_put (cs := #[.int .i64 0, .int .i64 0, .int .i64 0, .int .i64 0, .slice none 0 0]) ?_ 0 _ rfl; (with_reducible repeat (first | refine blk_drewN ?_ _ | refine blk_drew ?_ | refine blk_alloc ?_ _)); exact BK197.out) hb); replace HB := Aside0.mk (below_step (zB HB) hb); (try clear hb); (try clear hb2); (try clear hk); (try clear hi); (try clear ho0)) | ((with_reducible refine gate_dst (N := 13) rfl ?_); (try (refine gate_guard (by rfl) ?_; dsimp only)); refine Kd.R_lit (Kd.int .i64) _ 3 ?hg (N := 13) ?hd (xs := ([0, 0] : List Int)) (inner := [.int .i64 0, .int .i64 0]) (ok := fun _ => True) (okp := fun _ => True) ?hr ?hp (fun _ hk => hk) trivial (Below.refl _ _) (Nat.le_refl _) (by simp) ?_; (case hd => rfl); (case hg => rfl); (case hr => first | (go_simp; done) | (go_simp; rfl)); (case hp => exact (Reps.one (show Kd.M (Kd.int .i64) _ _ _ 0 [.int .i64 0] from rfl) (Reps.one (show Kd.M (Kd.int .i64) _ _ _ 0 [.int .i64 0] from rfl) (Reps.none _ _)))); intro v204 w16 ho17 hb hg_ hnew_; clear hg_ hnew_; (first | rw [← Ny203.out] at ho17 | (simp only [Int.reduceToNat] at ho17; rw [← Ny203.out] at ho17)); have HO205 := Aside0.mk (Kd.R_lower (Kd.R_new' (Kd.R_new' ho17 (Kd.R_lt (zR HO188))) (Kd.R_lt (zR HO195))) (below_size (zB HB))); replace HO185 := Aside0.mk (zSb HO185 hb); replace HO188 := Aside0.mk (Kd.R_elder' (zR HO188) (Kd.R_base ho17) hb); replace HO195 := Aside0.mk (Kd.R_elder' (zR HO195) (Kd.R_base ho17) hb); replace HO202 := Aside0.mk (zSb HO202 hb); replace BK197 := Aside0.mk (zb BK197 hb); replace HB := Aside0.mk (below_step (zB HB) hb); clear hb ho17; obtain ⟨Ao18, co18, eo18⟩ := Kd.S_slice HO202.out; subst eo18; obtain ⟨Ao19, co19, eo19⟩ := Kd.R_slice HO205.out; subst eo19) | ((with_reducible refine gate_callee (f := 9) rfl ?_); refine goesL_ (some 14) rfl rfl Try.func9 (by kernel_rfl) rfl #[.agg #[.int .i64 t198, .int .i64 t199, .slice Ao18 t200.length co18], .int .i64 0, .int .i64 0, .slice Ao19 y203.length co19] rfl (zm) ?_; (with_reducible refine (block_Cross.calls k t198 t199 _ _ t200 0 0 _ _ y203 t206 t207 t208 t209 t210 t213 _ ?side1 ?side2 ?side3 ?side4 A4.out).mono ?_); (case side1 => exact zC ((Kd.S_reads' HO202.out).2.2)); (case side2 => exact (Kd.S_reads' HO202.out).2.1); (case side3 => exact zC ((Kd.R_reads' HO205.out).2.2)); (case side4 => exact (Kd.R_reads' HO205.out).2.1); rintro e w20 ⟨v211, rfl, ho0, hb⟩; refine ⟨_, rfl, ?_⟩; have HO212 := Aside0.mk (Kd.R_lower (Kd.R_new' (Kd.R_new' (Kd.R_new' ho0 (Kd.R_lt (zR HO188))) (Kd.R_lt (zR HO195))) (Kd.R_lt (zR HO205))) (below_size (zB HB))); replace HO185 := Aside0.mk (zSb HO185 hb); replace HO188 := Aside0.mk (Kd.R_elder' (zR HO188) (Kd.R_base ho0) hb); replace HO195 := Aside0.mk (Kd.R_elder' (zR HO195) (Kd.R_base ho0) hb); replace HO202 := Aside0.mk (zSb HO202 hb); replace HO205 := Aside0.mk (Kd.R_elder' (zR HO205) (Kd.R_base ho0) hb); replace BK197 := Aside0.mk (zb BK197 hb); replace HB := Aside0.mk (below_step (zB HB) hb); (try clear hb); (try clear hb2); (try clear hk); (try clear hi); (try clear ho0)) | ((with_reducible refine gate_dst (N := 3) rfl ?_); (try (refine gate_guard (by rfl) ?_; dsimp only)); refine box_event ?hg (N := 3) ?hd (cs := #[.int .i64 0, .int .i64 0, .int .i64 0, .int .i64 0, .slice none 0 0]) (t := 29) ?hr ?_; (case hd => rfl); (case hg => rfl); (case hr => first | (go_simp; done) | (go_simp; rfl)); intro gb214 hg w21 hbox hb; have BK214 := Aside0.mk (hbox); have GW214 := Aside0.mk ((by rw [hg]; exact (below_size (zB HB)) : w.heap.size ≤ gb214)); have GE214 := Aside0.mk ((by rw [hg]; exact (below_size (zB HB)) : w.heap.size ≤ gb214)); have NB197_214 := Aside0.mk ((by rw [hg]; exact Nat.ne_of_lt (zL BK197) : gb197 ≠ gb214)); have NB214_197 := Aside0.mk ((by rw [hg]; exact Nat.ne_of_gt (zL BK197) : gb214 ≠ gb197)); replace HO185 := Aside0.mk (zSb HO185 hb); replace HO188 := Aside0.mk (zRb HO188 hb); replace HO195 := Aside0.mk (zRb HO195 hb); replace HO202 := Aside0.mk (zSb HO202 hb); replace HO205 := Aside0.mk (zRb HO205 hb); replace HO212 := Aside0.mk (zRb HO212 hb); replace BK197 := Aside0.mk (zb BK197 hb); replace HB := Aside0.mk (below_step (zB HB) hb); clear hb hbox hg; have hnb22 := NB214_197.out; have hnc22 := NB197_214.out; have hz23 := zc5 BK214; obtain ⟨Ao24, co24, eo24⟩ := Kd.R_slice HO212.out; subst eo24) | ((with_reducible refine gate_store (t := 29) (p := 3) rfl ?_); refine store_event (t := 29) (p := 3) (v := ?vo_w25) (w1 := (((((w21.setCell ⟨gb214, 0, none⟩ (.int .i64 t206)).setCell ⟨gb214, 1, none⟩ (.int .i64 t207)).setCell ⟨gb214, 2, none⟩ (.int .i64 t208)).setCell ⟨gb214, 3, none⟩ (.int .i64 t209)).setCell ⟨gb214, 4, none⟩ (.slice Ao24 t210.length co24))) ?hg ?ho ?hn ?hr ?_; (case ho => rfl); (case hg => rfl); (case hn => rfl); (case hr => first | (go_simp; done) | (go_simp; rfl)); intro w25 hw; have n0_ : Aside0 (Kd.S (Kd.slice 57 k57) 54 w25 w.heap.size (fun k_ => some k_ ≠ (.slice Ao18 t200.length co18 : Value).ownBlock) (.slice Ao9 t183.length co9) t183) := ⟨(by rw [hw]; exact (by (with_reducible repeat (first | apply Kd.S_alloc | apply Kd.S_drewN | apply Kd.S_drew)); exact Kd.S_mono (zSf5 (g := gb214) (Kd.S_types HO185.out BK214.out (by decide))) (fun _ hk => hk.1.2)))⟩; have n1_ : Aside0 (Kd.R (Kd.int .i64) 3 w25 w.heap.size (fun k_ => some k_ ≠ (.slice Ao14 t193.length co14 : Value).ownBlock ∧ some k_ ≠ (.slice Ao19 y203.length co19 : Value).ownBlock ∧ some k_ ≠ (.slice Ao24 t210.length co24 : Value).ownBlock) (.slice Ao10 y186.length co10) y186) := ⟨(by rw [hw]; exact (by (with_reducible repeat (first | apply Kd.R_alloc | apply Kd.R_drewN | apply Kd.R_drew)); exact Kd.R_mono (zRf5 (g := gb214) (Kd.R_types HO188.out BK214.out (by decide))) (fun _ hk => ⟨hk.1.1.1.2, ⟨hk.1.1.2, hk.1.2⟩⟩)))⟩; have n2_ : Aside0 (Kd.R (Kd.int .i64) 3 w25 w.heap.size (fun k_ => some k_ ≠ (.slice Ao10 y186.length co10 : Value).ownBlock ∧ some k_ ≠ (.slice Ao19 y203.length co19 : Value).ownBlock ∧ some k_ ≠ (.slice Ao24 t210.length co24 : Value).ownBlock) (.slice Ao14 t193.length co14) t193) := ⟨(by rw [hw]; exact (by (with_reducible repeat (first | apply Kd.R_alloc | apply Kd.R_drewN | apply Kd.R_drew)); exact Kd.R_mono (zRf5 (g := gb214) (Kd.R_types HO195.out BK214.out (by decide))) (fun _ hk => ⟨hk.1.1.1.2, ⟨hk.1.1.2, hk.1.2⟩⟩)))⟩; have n3_ : Aside0 (Kd.S (Kd.slice 57 k57) 54 w25 w.heap.size (fun k_ => some k_ ≠ (.slice Ao9 t183.length co9 : Value).ownBlock) (.slice Ao18 t200.length co18) t200) := ⟨(by rw [hw]; exact (by (with_reducible repeat (first | apply Kd.S_alloc | apply Kd.S_drewN | apply Kd.S_drew)); exact Kd.S_mono (zSf5 (g := gb214) (Kd.S_types HO202.out BK214.out (by decide))) (fun _ hk => hk.1.2)))⟩; have n4_ : Aside0 (Kd.R (Kd.int .i64) 3 w25 w.heap.size (fun k_ => some k_ ≠ (.slice Ao10 y186.length co10 : Value).ownBlock ∧ some k_ ≠ (.slice Ao14 t193.length co14 : Value).ownBlock ∧ some k_ ≠ (.slice Ao24 t210.length co24 : Value).ownBlock) (.slice Ao19 y203.length co19) y203) := ⟨(by rw [hw]; exact (by (with_reducible repeat (first | apply Kd.R_alloc | apply Kd.R_drewN | apply Kd.R_drew)); exact Kd.R_mono (zRf5 (g := gb214) (Kd.R_types HO205.out BK214.out (by decide))) (fun _ hk => ⟨hk.1.1.1.2, ⟨hk.1.1.2, hk.1.2⟩⟩)))⟩; have n5_ : Aside0 (Kd.R (Kd.int .i64) 3 w25 w.heap.size (fun k_ => some k_ ≠ (.slice Ao10 y186.length co10 : Value).ownBlock ∧ some k_ ≠ (.slice Ao14 t193.length co14 : Value).ownBlock ∧ some k_ ≠ (.slice Ao19 y203.length co19 : Value).ownBlock) (.slice Ao24 t210.length co24) t210) := ⟨(by rw [hw]; exact (by (with_reducible repeat (first | apply Kd.R_alloc | apply Kd.R_drewN | apply Kd.R_drew)); exact Kd.R_mono (zRf5 (g := gb214) (Kd.R_types HO212.out BK214.out (by decide))) (fun _ hk => ⟨hk.1.1.1.2, ⟨hk.1.1.2, hk.1.2⟩⟩)))⟩; have n6_ : Aside0 (w25.heap[gb197]? = some (.cells #[.int .i64 t189, .int .i64 t190, .int .i64 t191, .int .i64 t192, .slice Ao14 t193.length co14] 29 (0, 0))) := ⟨(by rw [hw]; exact (zK BK197))⟩; have n7_ : Aside0 (w25.heap[gb214]? = some (.cells #[.int .i64 t206, .int .i64 t207, .int .i64 t208, .int .i64 t209, .slice Ao24 t210.length co24] 29 (0, 0))) := ⟨(by rw [hw]; exact (by (with_reducible repeat (first | refine blk_drewN ?_ _ | refine blk_drew ?_ | refine blk_alloc ?_ _)); refine blk_put (cs := #[.int .i64 t206, .int .i64 t207, .int .i64 t208, .int .i64 t209, .slice none 0 0]) ?_ 4 _ rfl; (with_reducible repeat (first | refine blk_drewN ?_ _ | refine blk_drew ?_ | refine blk_alloc ?_ _)); refine blk_put (cs := #[.int .i64 t206, .int .i64 t207, .int .i64 t208, .int .i64 0, .slice none 0 0]) ?_ 3 _ rfl; (with_reducible repeat (first | refine blk_drewN ?_ _ | refine blk_drew ?_ | refine blk_alloc ?_ _)); refine blk_put (cs := #[.int .i64 t206, .int .i64 t207, .int .i64 0, .int .i64 0, .slice none 0 0]) ?_ 2 _ rfl; (with_reducible repeat (first | refine blk_drewN ?_ _ | refine blk_drew ?_ | refine blk_alloc ?_ _)); refine blk_put (cs := #[.int .i64 t206, .int .i64 0, .int .i64 0, .int .i64 0, .slice none 0 0]) ?_ 1 _ rfl; (with_reducible repeat (first | refine blk_drewN ?_ _ | refine blk_drew ?_ | refine blk_alloc ?_ _)); refine blk_put (cs := #[.int .i64 0, .int .i64 0, .int .i64 0, .int .i64 0, .slice none 0 0]) ?_ 0 _ rfl; (with_reducible repeat (first | refine blk_drewN ?_ _ | refine blk_drew ?_ | refine blk_alloc ?_ _)); exact BK214.out))⟩; have n8_ : Aside0 (Below w.heap.size w w25) := ⟨(by rw [hw]; exact (zB HB))⟩; clear hw; clear HO185; clear HO188; clear HO195; clear HO202; clear HO205; clear HO212; clear BK197; clear BK214; clear HB; have HO185 := n0_; have HO188 := n1_; have HO195 := n2_; have HO202 := n3_; have HO205 := n4_; have HO212 := n5_; have BK197 := n6_; have BK214 := n7_; have HB := n8_; clear n0_ n1_ n2_ n3_ n4_ n5_ n6_ n7_ n8_))
 (try simp only [Act.put, zs, zs0, zs1])
 have H := HC5.out
 clear HC5
 by_cases c26 : t196 = 0
 ·
  rw [if_pos c26] at H
  have c26b0 : (t196 == 0) = true := beq_iff_eq.mpr c26
  have c26b1 : (t196 != 0) = false := bne_eq_false_iff_eq.mpr c26
  clear c26
  (first | rw [c26b0] | (simp only [i64_w, i32_w]; rw [c26b0]) | skip)
  (try rw [c26b1])
  by_cases c27 : t213 = 0
  ·
   rw [if_pos c27] at H
   have c27b0 : (t213 == 0) = true := beq_iff_eq.mpr c27
   have c27b1 : (t213 != 0) = false := bne_eq_false_iff_eq.mpr c27
   clear c27
   by_cases c28 : t206 = 3
   ·
    rw [if_pos c28] at H
    have c28b0 : (t206 == 3) = true := beq_iff_eq.mpr c28
    have c28b1 : (t206 != 3) = false := bne_eq_false_iff_eq.mpr c28
    clear c28
    obtain ⟨y215, hy215⟩ : ∃ y_ : List Int, y_ = (([1, 1] : List Int)) := ⟨_, rfl⟩
    replace H : ((standstillref05_Same.f k t189 t190 t191 t192 t193 0 1 3 (-1) y215).bind fun t218 => (some t218)) = some r := by first | (rw [hy215]; with_reducible exact H) | (have H2_ := (Option.bind_some _ _).symm.trans H; rw [hy215]; with_reducible exact H2_) | (have H2_ := (Option.bind_some _ _).symm.trans H; with_reducible exact H2_) | with_reducible exact H | (rw [hy215]; exact H) | exact H
    have Ny215 := Aside0.mk hy215
    clear hy215
    replace H := Option.bind_eq_some_iff.mp H
    obtain ⟨t218, A290, H⟩ := H
    replace H : (some t218) = some r := H
    have A29 := Aside0.mk A290
    clear A290
    obtain rfl := Option.some.inj H
    have hnb30 := NB214_197.out
    have hnc30 := NB197_214.out
    have hz31 := zc5 BK214
    have hz32 := zc5 BK197
    go_wp2_with (first | ((with_reducible refine gate_dst (N := 30) rfl ?_); (try (refine gate_guard (by rfl) ?_; dsimp only)); refine Kd.R_lit (Kd.int .i64) _ 3 ?hg (N := 30) ?hd (xs := ([1, 1] : List Int)) (inner := [.int .i64 1, .int .i64 1]) (ok := fun _ => True) (okp := fun _ => True) ?hr ?hp (fun _ hk => hk) trivial (Below.refl _ _) (Nat.le_refl _) (by simp) ?_; (case hd => rfl); (case hg => rfl); (case hr => first | (go_simp; done) | (go_simp; rfl)); (case hp => exact (Reps.one (show Kd.M (Kd.int .i64) _ _ _ 1 [.int .i64 1] from rfl) (Reps.one (show Kd.M (Kd.int .i64) _ _ _ 1 [.int .i64 1] from rfl) (Reps.none _ _)))); intro v216 w33 ho34 hb hg_ hnew_; clear hg_ hnew_; (first | rw [← Ny215.out] at ho34 | (simp only [Int.reduceToNat] at ho34; rw [← Ny215.out] at ho34)); have HO217 := Aside0.mk (Kd.R_lower (Kd.R_new' (Kd.R_new' (Kd.R_new' (Kd.R_new' ho34 (Kd.R_lt (zR HO188))) (Kd.R_lt (zR HO195))) (Kd.R_lt (zR HO205))) (Kd.R_lt (zR HO212))) (below_size (zB HB))); replace HO185 := Aside0.mk (zSb HO185 hb); replace HO188 := Aside0.mk (Kd.R_elder' (zR HO188) (Kd.R_base ho34) hb); replace HO195 := Aside0.mk (Kd.R_elder' (zR HO195) (Kd.R_base ho34) hb); replace HO202 := Aside0.mk (zSb HO202 hb); replace HO205 := Aside0.mk (Kd.R_elder' (zR HO205) (Kd.R_base ho34) hb); replace HO212 := Aside0.mk (Kd.R_elder' (zR HO212) (Kd.R_base ho34) hb); replace BK197 := Aside0.mk (zb BK197 hb); replace BK214 := Aside0.mk (zb BK214 hb); replace HB := Aside0.mk (below_step (zB HB) hb); clear hb ho34; obtain ⟨Ao35, co35, eo35⟩ := Kd.R_slice HO217.out; subst eo35) | (go_at_call 11; (with_reducible refine (standstillref05_Same.calls k t189 t190 t191 t192 _ _ t193 0 1 3 (-1) _ _ y215 t218 _ ?side1 ?side2 ?side3 ?side4 A29.out).mono ?_); (case side1 => exact zC ((Kd.R_reads' HO195.out).2.2)); (case side2 => exact (Kd.R_reads' HO195.out).2.1); (case side3 => exact zC ((Kd.R_reads' HO217.out).2.2)); (case side4 => exact (Kd.R_reads' HO217.out).2.1); rintro e w36 ⟨rfl, hb⟩; replace HO185 := Aside0.mk (zSb HO185 hb); replace HO188 := Aside0.mk (zRb HO188 hb); replace HO195 := Aside0.mk (zRb HO195 hb); replace HO202 := Aside0.mk (zSb HO202 hb); replace HO205 := Aside0.mk (zRb HO205 hb); replace HO212 := Aside0.mk (zRb HO212 hb); replace HO217 := Aside0.mk (zRb HO217 hb); replace BK197 := Aside0.mk (zb BK197 hb); replace BK214 := Aside0.mk (zb BK214 hb); replace HB := Aside0.mk (below_step (zB HB) hb); (try clear hb); (try clear hb2); (try clear hk); (try clear hi)))
    go_ret
    exact ⟨by first | rfl | (simp [errW_none, errW_some] <;> rfl) | (simp [*, errW_none, errW_some] <;> rfl), zB HB⟩
   ·
    rw [if_neg c28] at H
    have c28b0 : (t206 == 3) = false := beq_eq_false_iff_ne.mpr c28
    have c28b1 : (t206 != 3) = true := bne_iff_ne.mpr c28
    obtain rfl := Option.some.inj H
    have hnb37 := NB214_197.out
    have hnc37 := NB197_214.out
    have hz38 := zc5 BK214
    go_wp2
    go_ret
    exact ⟨by first | rfl | (simp [errW_none, errW_some] <;> rfl) | (simp [*, errW_none, errW_some] <;> rfl), zB HB⟩
  ·
   rw [if_neg c27] at H
   have c27b0 : (t213 == 0) = false := beq_eq_false_iff_ne.mpr c27
   have c27b1 : (t213 != 0) = true := bne_iff_ne.mpr c27
   obtain rfl := Option.some.inj H
   go_wp2
   go_ret
   exact ⟨by first | rfl | (simp [errW_none, errW_some] <;> rfl) | (simp [*, errW_none, errW_some] <;> rfl), zB HB⟩
 ·
  rw [if_neg c26] at H
  have c26b0 : (t196 == 0) = false := beq_eq_false_iff_ne.mpr c26
  have c26b1 : (t196 != 0) = true := bne_iff_ne.mpr c26
  (first | rw [c26b0] | (simp only [i64_w, i32_w]; rw [c26b0]) | skip)
  (try rw [c26b1])
  obtain rfl := Option.some.inj H
  go_wp2
  go_ret
  exact ⟨by first | rfl | (simp [errW_none, errW_some] <;> rfl) | (simp [*, errW_none, errW_some] <;> rfl), zB HB⟩

/-! ### standstillref05_Word: function 12 -/
def standstillref05_Word.l0 : Nat → List Int → Int → Int → Int → List (List (S57)) → Option (Bool)
 | 0, _, _, _, _, _ => none
 | k + 1, x1, x5, x220000, x220001, x220002 => if x5 < (x1.length : Int) then (if 0 ≤ x5 then (if (rd x1 x5) < 0 then (some false) else (if (rd x1 x5) ≥ x220001 then (some false) else (standstillref05_Word.l0 k x1 (wrap64 (x5 + 1)) x220000 x220001 x220002))) else (none)) else (if (x1.length : Int) ≥ 1 then (some (decide ((x1.length : Int) ≤ 6))) else (some false))
def standstillref05_Word.f (k : Nat) (a0_0 : Int) (a0_1 : Int) (l0_2 : List (List (S57))) (l1 : List Int) : Option (Bool) := standstillref05_Word.l0 k l1 0 a0_0 a0_1 l0_2
theorem standstillref05_Word.mono_l : ∀ k, (∀ y0 y1 y2 y3 y4, LeO (standstillref05_Word.l0 k y0 y1 y2 y3 y4) (standstillref05_Word.l0 (k + 1) y0 y1 y2 y3 y4))
 | 0 => fun _ _ _ _ _ r h => by simp [standstillref05_Word.l0] at h
 | k + 1 => by
  have ih0 := standstillref05_Word.mono_l k
  ·
   intro y0 y1 y2 y3 y4
   unfold standstillref05_Word.l0
   repeat' first
   | (with_reducible exact ih0 _ _ _ _ _)
   | (with_reducible exact LeO.refl _)
   | (with_reducible exact LeO.none _)
   | (with_reducible refine LeO.ite ?_ ?_)
   | (with_reducible refine LeO.bind ?_ (fun _ => ?_))
   | exact ih0 _ _ _ _ _
   | exact LeO.none _
   | refine LeO.ite ?_ ?_
   | refine LeO.bind ?_ (fun _ => ?_)
theorem standstillref05_Word.mono : ∀ a0 a1 a2 a3 k, LeO (standstillref05_Word.f k a0 a1 a2 a3) (standstillref05_Word.f (k + 1) a0 a1 a2 a3) := by
 intro a0 a1 a2 a3 k
 have ih0 := standstillref05_Word.mono_l k
 unfold standstillref05_Word.f
 repeat' first
   | (with_reducible exact ih0 _ _ _ _ _)
   | (with_reducible exact LeO.refl _)
   | (with_reducible exact LeO.none _)
   | (with_reducible refine LeO.ite ?_ ?_)
   | (with_reducible refine LeO.bind ?_ (fun _ => ?_))
   | exact ih0 _ _ _ _ _
   | exact LeO.none _
   | refine LeO.ite ?_ ?_
   | refine LeO.bind ?_ (fun _ => ?_)
set_option maxHeartbeats 8000000 in
set_option maxRecDepth 100000 in
theorem standstillref05_Word.calls (k : Nat) (a0_0 : Int) (a0_1 : Int) (A0_2 : Option Addr) (c0_2 : Nat) (l0_2 : List (List (S57))) (A1 : Option Addr) (c1 : Nat) (l1 : List Int) (r : Bool) (w : World) (hr0_2 : Kd.C (Kd.slice 57 k57) w A0_2 l0_2.length l0_2) (hc0_2 : l0_2.length ≤ c0_2) (hr1 : Kd.C (Kd.int .i64) w A1 l1.length l1) (hc1 : l1.length ≤ c1) (h : standstillref05_Word.f k a0_0 a0_1 l0_2 l1 = some r) :
  Calls Try.prog 12 #[.agg #[.int .i64 a0_0, .int .i64 a0_1, .slice A0_2 l0_2.length c0_2], .slice A1 l1.length c1] w fun e w' => e = .returned (.bool r) ∧ Below w.heap.size w w' := by
 have hu24 := Try.underlying24
 have HR0_2 := Aside0.mk hr0_2
 have HC0_2 := Aside0.mk hc0_2
 clear hr0_2 hc0_2
 have HR1 := Aside0.mk hr1
 have HC1 := Aside0.mk hc1
 clear hr1 hc1
 have HB := Aside0.mk (Below.refl w.heap.size w)
 have H : (standstillref05_Word.l0 k l1 0 a0_0 a0_1 l0_2) = some r := h
 clear h
 have H' := Aside0.mk H
 clear H
 go_enter Try.func12, Try.ntmps12
 go_wp2_with (first | ((with_reducible refine gate_dst (N := 2) rfl ?_); (try (refine gate_guard (by rfl) ?_; dsimp only)); refine box_event ?hg (N := 2) ?hd (cs := #[.int .i64 a0_0, .int .i64 a0_1, .slice A0_2 l0_2.length c0_2]) (t := 24) ?hr ?_; (case hd => rfl); (case hg => rfl); (case hr => first | (go_simp; done) | (go_simp; rfl)); intro gb219 hg w3 hbox hb; have BK219 := Aside0.mk (hbox); have GW219 := Aside0.mk ((by rw [hg]; exact (below_size (zB HB)) : w.heap.size ≤ gb219)); have GE219 := Aside0.mk ((by rw [hg]; exact (below_size (zB HB)) : w.heap.size ≤ gb219)); replace HB := Aside0.mk (below_step (zB HB) hb); clear hb hbox hg))
 repeat (go_quiet (first | ((with_reducible refine gate_dst (N := 2) rfl ?_); (try (refine gate_guard (by rfl) ?_; dsimp only)); refine box_event ?hg (N := 2) ?hd (cs := #[.int .i64 a0_0, .int .i64 a0_1, .slice A0_2 l0_2.length c0_2]) (t := 24) ?hr ?_; (case hd => rfl); (case hg => rfl); (case hr => first | (go_simp; done) | (go_simp; rfl)); intro gb219 hg w3 hbox hb; have BK219 := Aside0.mk (hbox); have GW219 := Aside0.mk ((by rw [hg]; exact (below_size (zB HB)) : w.heap.size ≤ gb219)); have GE219 := Aside0.mk ((by rw [hg]; exact (below_size (zB HB)) : w.heap.size ≤ gb219)); replace HB := Aside0.mk (below_step (zB HB) hb); clear hb hbox hg)); try go_wp2_with (first | ((with_reducible refine gate_dst (N := 2) rfl ?_); (try (refine gate_guard (by rfl) ?_; dsimp only)); refine box_event ?hg (N := 2) ?hd (cs := #[.int .i64 a0_0, .int .i64 a0_1, .slice A0_2 l0_2.length c0_2]) (t := 24) ?hr ?_; (case hd => rfl); (case hg => rfl); (case hr => first | (go_simp; done) | (go_simp; rfl)); intro gb219 hg w3 hbox hb; have BK219 := Aside0.mk (hbox); have GW219 := Aside0.mk ((by rw [hg]; exact (below_size (zB HB)) : w.heap.size ≤ gb219)); have GE219 := Aside0.mk ((by rw [hg]; exact (below_size (zB HB)) : w.heap.size ≤ gb219)); replace HB := Aside0.mk (below_step (zB HB) hb); clear hb hbox hg)))
 go_loopg [5] k (fun kq v5 w' => ∃ (x5_1 : Int), v5 = .int .i64 x5_1 ∧ Aside0 (standstillref05_Word.l0 kq l1 x5_1 a0_0 a0_1 l0_2 = some r) ∧ Aside0 (kq ≤ k) ∧ Aside0 (w'.heap[gb219]? = some (.cells #[.int .i64 a0_0, .int .i64 a0_1, (.slice A0_2 l0_2.length c0_2)] 24 (0, 0))) ∧ Aside0 (Below w.heap.size w w'))
 case atStart => exact ⟨(0), (by first | rfl | (simp; done) | (simp [*]; done)), H', ⟨Nat.le_refl _⟩, ⟨zk BK219⟩, ⟨zB HB⟩⟩
 case round =>
  clear H'
  try clear c1
  try clear p2
  obtain ⟨x5_1, rfl, HA, HK1, BK219, HB⟩ := hrel
  cases gk with
  | zero => exact absurd HA.out (by simp [standstillref05_Word.l0])
  | succ k1 =>
   have H := HA.out
   clear HA
   simp only [standstillref05_Word.l0] at H
   by_cases c4 : x5_1 < (l1.length : Int)
   ·
    rw [if_pos c4] at H
    have c4b0 : decide (x5_1 < (l1.length : Int)) = true := decide_eq_true c4
    clear c4
    by_cases c5 : 0 ≤ x5_1
    ·
     rw [if_pos c5] at H
     have c5b0 : decide (0 ≤ x5_1) = true := decide_eq_true c5
     clear c5
     by_cases c6 : (rd l1 x5_1) < 0
     ·
      rw [if_pos c6] at H
      have c6b0 : decide ((rd l1 x5_1) < 0) = true := decide_eq_true c6
      clear c6
      obtain rfl := Option.some.inj H
      have p220 : 0 ≤ (x5_1 : Int) := of_decide_eq_true (by first | (with_reducible assumption) | assumption)
      have q220 : x5_1 < (l1.length : Int) := of_decide_eq_true (by first | (with_reducible assumption) | assumption)
      obtain ⟨ad220, e220, hx220_0⟩ := Kd.at_int HR1.out x5_1 p220 q220
      cases e220
      replace hx220_0 := (HB.out.cell (World.block_lt_of_cell? w _ hx220_0)).trans hx220_0
      replace p220 := eq_true p220
      replace q220 := eq_true q220
      go_wp2
      repeat (go_quiet (fail); try go_wp2)
      go_ret
      exact ⟨by first | rfl | (simp [errW_none, errW_some] <;> rfl) | (simp [*, errW_none, errW_some] <;> rfl), zB HB⟩
     ·
      rw [if_neg c6] at H
      have c6b0 : decide ((rd l1 x5_1) < 0) = false := decide_eq_false c6
      clear c6
      by_cases c7 : (rd l1 x5_1) ≥ a0_1
      ·
       rw [if_pos c7] at H
       have c7b0 : decide (a0_1 ≤ (rd l1 x5_1)) = true := decide_eq_true c7
       clear c7
       obtain rfl := Option.some.inj H
       have p220 : 0 ≤ (x5_1 : Int) := of_decide_eq_true (by first | (with_reducible assumption) | assumption)
       have q220 : x5_1 < (l1.length : Int) := of_decide_eq_true (by first | (with_reducible assumption) | assumption)
       obtain ⟨ad220, e220, hx220_0⟩ := Kd.at_int HR1.out x5_1 p220 q220
       cases e220
       replace hx220_0 := (HB.out.cell (World.block_lt_of_cell? w _ hx220_0)).trans hx220_0
       replace p220 := eq_true p220
       replace q220 := eq_true q220
       have p221 : 0 ≤ (x5_1 : Int) := of_decide_eq_true (by first | (with_reducible assumption) | assumption)
       have q221 : x5_1 < (l1.length : Int) := of_decide_eq_true (by first | (with_reducible assumption) | assumption)
       obtain ⟨ad221, e221, hx221_0⟩ := Kd.at_int HR1.out x5_1 p221 q221
       obtain rfl : ad220 = ad221 := (by injection e221)
       replace hx221_0 := (HB.out.cell (World.block_lt_of_cell? w _ hx221_0)).trans hx221_0
       replace p221 := eq_true p221
       replace q221 := eq_true q221
       have hz8 := zc3 BK219
       go_wp2
       repeat (go_quiet (fail); try go_wp2)
       go_ret
       exact ⟨by first | rfl | (simp [errW_none, errW_some] <;> rfl) | (simp [*, errW_none, errW_some] <;> rfl), zB HB⟩
      ·
       rw [if_neg c7] at H
       have c7b0 : decide (a0_1 ≤ (rd l1 x5_1)) = false := decide_eq_false c7
       clear c7
       have H' := Aside0.mk H
       clear H
       have p220 : 0 ≤ (x5_1 : Int) := of_decide_eq_true (by first | (with_reducible assumption) | assumption)
       have q220 : x5_1 < (l1.length : Int) := of_decide_eq_true (by first | (with_reducible assumption) | assumption)
       obtain ⟨ad220, e220, hx220_0⟩ := Kd.at_int HR1.out x5_1 p220 q220
       cases e220
       replace hx220_0 := (HB.out.cell (World.block_lt_of_cell? w _ hx220_0)).trans hx220_0
       replace p220 := eq_true p220
       replace q220 := eq_true q220
       have p221 : 0 ≤ (x5_1 : Int) := of_decide_eq_true (by first | (with_reducible assumption) | assumption)
       have q221 : x5_1 < (l1.length : Int) := of_decide_eq_true (by first | (with_reducible assumption) | assumption)
       obtain ⟨ad221, e221, hx221_0⟩ := Kd.at_int HR1.out x5_1 p221 q221
       obtain rfl : ad220 = ad221 := (by injection e221)
       replace hx221_0 := (HB.out.cell (World.block_lt_of_cell? w _ hx221_0)).trans hx221_0
       replace p221 := eq_true p221
       replace q221 := eq_true q221
       have hz9 := zc3 BK219
       go_wp2
       repeat (go_quiet (fail); try go_wp2)
       go_roundg k1
       case measure => have := HK1.out; omega
       case rel => exact ⟨(wrap64 (x5_1 + 1)), (by first | rfl | (simp; done) | (simp [*]; done)), H', ⟨by have := HK1.out; omega⟩, ⟨zk BK219⟩, ⟨zB HB⟩⟩
    ·
     rw [if_neg c5] at H
     exact absurd H (by simp)
   ·
    rw [if_neg c4] at H
    have c4b0 : decide (x5_1 < (l1.length : Int)) = false := decide_eq_false c4
    clear c4
    by_cases c10 : (l1.length : Int) ≥ 1
    ·
     rw [if_pos c10] at H
     have c10b0 : decide (1 ≤ (l1.length : Int)) = true := decide_eq_true c10
     have c10b1 : decide (1 ≤ l1.length) = true := decide_eq_true (by omega)
     clear c10
     obtain rfl := Option.some.inj H
     go_wp2
     repeat (go_quiet (fail); try go_wp2)
     go_ret
     exact ⟨by first | rfl | (simp [errW_none, errW_some] <;> rfl) | (simp [*, errW_none, errW_some] <;> rfl), zB HB⟩
    ·
     rw [if_neg c10] at H
     have c10b0 : decide (1 ≤ (l1.length : Int)) = false := decide_eq_false c10
     have c10b1 : decide (1 ≤ l1.length) = false := decide_eq_false (by omega)
     clear c10
     obtain rfl := Option.some.inj H
     go_wp2
     repeat (go_quiet (fail); try go_wp2)
     go_ret
     exact ⟨by first | rfl | (simp [errW_none, errW_some] <;> rfl) | (simp [*, errW_none, errW_some] <;> rfl), zB HB⟩

/-! ### standstillref05_Number: function 25 -/
def standstillref05_Number.l0 : Nat → List Int → Int → Int → Int → Option (Int)
 | 0, _, _, _, _ => none
 | k + 1, x0, x1, x5, x6 => if x6 < (x0.length : Int) then (if 0 ≤ x6 then (standstillref05_Number.l0 k x0 x1 (wrap64 ((wrap64 (x5 * x1)) + (rd x0 x6))) (wrap64 (x6 + 1))) else (none)) else (some x5)
def standstillref05_Number.f (k : Nat) (l0 : List Int) (a1 : Int) : Option (Int) := standstillref05_Number.l0 k l0 a1 0 0
theorem standstillref05_Number.mono_l : ∀ k, (∀ y0 y1 y2 y3, LeO (standstillref05_Number.l0 k y0 y1 y2 y3) (standstillref05_Number.l0 (k + 1) y0 y1 y2 y3))
 | 0 => fun _ _ _ _ r h => by simp [standstillref05_Number.l0] at h
 | k + 1 => by
  have ih0 := standstillref05_Number.mono_l k
  ·
   intro y0 y1 y2 y3
   unfold standstillref05_Number.l0
   repeat' first
   | (with_reducible exact ih0 _ _ _ _)
   | (with_reducible exact LeO.refl _)
   | (with_reducible exact LeO.none _)
   | (with_reducible refine LeO.ite ?_ ?_)
   | (with_reducible refine LeO.bind ?_ (fun _ => ?_))
   | exact ih0 _ _ _ _
   | exact LeO.none _
   | refine LeO.ite ?_ ?_
   | refine LeO.bind ?_ (fun _ => ?_)
theorem standstillref05_Number.mono : ∀ a0 a1 k, LeO (standstillref05_Number.f k a0 a1) (standstillref05_Number.f (k + 1) a0 a1) := by
 intro a0 a1 k
 have ih0 := standstillref05_Number.mono_l k
 unfold standstillref05_Number.f
 repeat' first
   | (with_reducible exact ih0 _ _ _ _)
   | (with_reducible exact LeO.refl _)
   | (with_reducible exact LeO.none _)
   | (with_reducible refine LeO.ite ?_ ?_)
   | (with_reducible refine LeO.bind ?_ (fun _ => ?_))
   | exact ih0 _ _ _ _
   | exact LeO.none _
   | refine LeO.ite ?_ ?_
   | refine LeO.bind ?_ (fun _ => ?_)
set_option maxHeartbeats 8000000 in
set_option maxRecDepth 100000 in
theorem standstillref05_Number.calls (k : Nat) (A0 : Option Addr) (c0 : Nat) (l0 : List Int) (a1 : Int) (r : Int) (w : World) (hr0 : Kd.C (Kd.int .i64) w A0 l0.length l0) (hc0 : l0.length ≤ c0) (h : standstillref05_Number.f k l0 a1 = some r) :
  Calls Try.prog 25 #[.slice A0 l0.length c0, .int .i64 a1] w fun e w' => e = .returned (.int .i64 r) ∧ Drawn0 w w' := by
 have HR0 := Aside0.mk hr0
 have HC0 := Aside0.mk hc0
 clear hr0 hc0
 have H : (standstillref05_Number.l0 k l0 a1 0 0) = some r := h
 clear h
 have H' := Aside0.mk H
 clear H
 go_enter Try.func25, Try.ntmps25
 go_wp2
 go_loopg [5, 6] k (fun kq v5 v6 w' => ∃ (x5_1 : Int) (x6_1 : Int), v5 = .int .i64 x5_1 ∧ v6 = .int .i64 x6_1 ∧ Aside0 (standstillref05_Number.l0 kq l0 a1 x5_1 x6_1 = some r) ∧ Aside0 (kq ≤ k) ∧ Drawn0 w w')
 case atStart => exact ⟨(0), (0), (by first | rfl | (simp; done) | (simp [*]; done)), (by first | rfl | (simp; done) | (simp [*]; done)), H', ⟨Nat.le_refl _⟩, by repeat (first | exact Drawn0.refl _ | apply Drawn0.step)⟩
 case round =>
  clear H'
  try clear c2
  try clear p2
  obtain ⟨x5_1, x6_1, rfl, rfl, HA, HK1, ⟨m1, rfl⟩⟩ := hrel
  cases gk with
  | zero => exact absurd HA.out (by simp [standstillref05_Number.l0])
  | succ k1 =>
   have H := HA.out
   clear HA
   simp only [standstillref05_Number.l0] at H
   by_cases c3 : x6_1 < (l0.length : Int)
   ·
    rw [if_pos c3] at H
    have c3b0 : decide (x6_1 < (l0.length : Int)) = true := decide_eq_true c3
    clear c3
    by_cases c4 : 0 ≤ x6_1
    ·
     rw [if_pos c4] at H
     have c4b0 : decide (0 ≤ x6_1) = true := decide_eq_true c4
     clear c4
     have H' := Aside0.mk H
     clear H
     have p222 : 0 ≤ (x6_1 : Int) := of_decide_eq_true (by first | (with_reducible assumption) | assumption)
     have q222 : x6_1 < (l0.length : Int) := of_decide_eq_true (by first | (with_reducible assumption) | assumption)
     obtain ⟨ad222, e222, hx222_0⟩ := Kd.at_int HR0.out x6_1 p222 q222
     cases e222
     replace p222 := eq_true p222
     replace q222 := eq_true q222
     go_wp2
     go_roundg k1
     case measure => have := HK1.out; omega
     case rel => exact ⟨(wrap64 ((wrap64 (x5_1 * a1)) + (rd l0 x6_1))), (wrap64 (x6_1 + 1)), (by first | rfl | (simp; done) | (simp [*]; done)), (by first | rfl | (simp; done) | (simp [*]; done)), H', ⟨by have := HK1.out; omega⟩, by repeat (first | exact Drawn0.refl _ | apply Drawn0.step)⟩
    ·
     rw [if_neg c4] at H
     exact absurd H (by simp)
   ·
    rw [if_neg c3] at H
    have c3b0 : decide (x6_1 < (l0.length : Int)) = false := decide_eq_false c3
    clear c3
    obtain rfl := Option.some.inj H
    go_wp2
    go_ret
    exact ⟨by first | rfl | (simp; done) | (simp [*]; done), by repeat (first | exact Drawn0.refl _ | apply Drawn0.step)⟩

end Go.Proofs.Ytfjfnpegpcdnaaa.GB
