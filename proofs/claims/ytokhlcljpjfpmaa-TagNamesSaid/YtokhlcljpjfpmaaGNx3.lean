/- The functions of one seat as Lean functions, each with its contract: the call of the Go function returns what the Lean function answers. Written by a program of this session out of the translation; contracts made by hand are laid between. -/
import Derived.Test.YtokhlcljpjfpmaaGNx0
import Derived.Test.YtokhlcljpjfpmaaGNx2
namespace Go.Proofs.Ytokhlcljpjfpmaa.GN
open Go.RowKit Go.Proofs.YtokhlcljpjfpmaaW.PrintWords Go.Proofs.YtokhlcljpjfpmaaW.PrintLast Go.Proofs.YtokhlcljpjfpmaaW.PrintMore
attribute [local go_sem] max2_int min2_int max_two min_two max_three min_three max_four min_four   -- for this text's walks alone
set_option linter.unusedVariables false
set_option linter.unusedSimpArgs false

/-! ### tag_Run: function 9 -/

/-- The queue at block g of w: its row and where it begins. -/
structure QueueAt (w0 w : World) (g : Nat) (v : Value) (l : List Int) (at_ : Int) : Prop where
  blk : w.heap[g]? = some (.cells #[v, .int .i64 at_] 53 (0, 0))
  row : Kd.R (Kd.int .i64) 3 w w0.heap.size (fun _ => True) v l
  ge : w0.heap.size ≤ g
  bel : Below w0.heap.size w0 w
theorem QueueAt.ne {w0 w : World} {g : Nat} {v : Value} {l : List Int} {at_ : Int} (h : QueueAt w0 w g v l at_) : some g ≠ v.ownBlock := Kd.R_ne h.row h.blk (by decide)
theorem QueueAt.drewN {w0 w : World} {g : Nat} {v : Value} {l : List Int} {at_ : Int} (h : QueueAt w0 w g v l at_) (n : Nat) : QueueAt w0 (w.drewN n) g v l at_ :=
  ⟨blk_drewN h.blk n, Kd.R_drewN h.row n, h.ge, pw_below_drewN h.bel n⟩
theorem QueueAt.below {w0 w w1 : World} {g : Nat} {v : Value} {l : List Int} {at_ : Int} (h : QueueAt w0 w g v l at_) (hb : Below w.heap.size w w1) : QueueAt w0 w1 g v l at_ :=
  ⟨blk_below h.blk hb, Kd.R_below h.row hb, h.ge, below_then h.bel h.bel.size hb⟩

theorem C_int {w : World} {A : Option Addr} {n : Nat} {xs : List Int} (h : Kd.C (Kd.int .i64) w A n xs) (i : Int) (h0 : 0 ≤ i) (h1 : i < n) : ∃ ad, A = some ad ∧ w.cell? (ad.add i.toNat) = some (.int .i64 (rd xs i)) := by
  obtain ⟨ad, c, e, hl, hk, hc⟩ := Kd.C_get h 0 i h0 h1
  obtain rfl : c = [.int .i64 (rd xs i)] := hk
  refine ⟨ad, e, ?_⟩
  have := hc 0 _ rfl
  rwa [show (Kd.int .i64).sz = 1 from rfl, Nat.mul_one, Nat.add_zero] at this

theorem size_calls (g : Nat) (v : Value) (l : List Int) (at_ : Int) (w0 w : World) (h : QueueAt w0 w g v l at_) (h0 : 0 ≤ at_) (h1 : at_ ≤ l.length) (hn : l.length ≤ 9223372036854775807) :
    Calls Try.prog 23 #[.pointer (some ⟨g, 0, none⟩)] w fun e w' => e = .returned (.int .i64 ((l.length : Int) - at_)) ∧ Drawn0 w w' := by
  obtain ⟨A, c, rfl⟩ := Kd.R_slice h.row
  have c0 : w.cell? ⟨g, 0, none⟩ = some (.slice A l.length c) := (blk_cell h.blk 0).trans rfl
  have c1 : w.cell? ⟨g, 1, none⟩ = some (.int .i64 at_) := (blk_cell h.blk 1).trans rfl
  clear h
  have hu := Try.underlying53
  go_enter Try.func23, Try.ntmps23
  go_wp2
  go_quiet (fail)
  go_wp2
  go_ret
  exact ⟨rfl, ⟨_, rfl⟩⟩

theorem first_calls (g : Nat) (v : Value) (l : List Int) (at_ : Int) (w0 w : World) (h : QueueAt w0 w g v l at_) (h0 : 0 ≤ at_) (h1 : at_ < l.length) (hn : l.length ≤ 9223372036854775807) :
    Calls Try.prog 24 #[.pointer (some ⟨g, 0, none⟩)] w fun e w' => e = .returned (.int .i64 (rd l at_)) ∧ Drawn0 w w' := by
  obtain ⟨A, c, rfl, hc, hC⟩ := Kd.R_reads h.row
  have c0 : w.cell? ⟨g, 0, none⟩ = some (.slice A l.length c) := (blk_cell h.blk 0).trans rfl
  have c1 : w.cell? ⟨g, 1, none⟩ = some (.int .i64 at_) := (blk_cell h.blk 1).trans rfl
  obtain ⟨ad, rfl, c2⟩ := C_int hC at_ h0 h1
  clear h hC hc
  have hu := Try.underlying53
  go_enter Try.func24, Try.ntmps24
  go_wp2
  go_quiet (fail)
  go_wp2
  go_ret
  exact ⟨rfl, ⟨_, rfl⟩⟩

theorem push_calls (g : Nat) (v : Value) (l : List Int) (at_ : Int) (A1 : Option Addr) (c1 : Nat) (l1 : List Int) (w0 w : World) (h : QueueAt w0 w g v l at_) (hr1 : Kd.C (Kd.int .i64) w A1 l1.length l1) (hl : l.length + l1.length < 17592186044416) :
    Calls Try.prog 26 #[.pointer (some ⟨g, 0, none⟩), .slice A1 l1.length c1] w fun e w' => ∃ v', e = .returned (.tuple #[]) ∧ QueueAt w0 w' g v' (l ++ l1) at_ ∧ KeepBut w w' g v.ownBlock := by
  obtain ⟨A, c, rfl⟩ := Kd.R_slice h.row
  have hne := Aside0.mk h.ne
  have c0 : w.cell? ⟨g, 0, none⟩ = some (.slice A l.length c) := (blk_cell h.blk 0).trans rfl
  have H := Aside0.mk h
  have HL := Aside0.mk hl
  have HR := Aside0.mk hr1
  clear h hl hr1
  have hu := Try.underlying53
  go_enter Try.func26, Try.ntmps26
  go_wp2_with (first | ((with_reducible refine gate_builtin (b := .append) (xs := #[.tmp 8, .tmp 9]) rfl ?_); at_builtin; refine Kd.R_append_rows (Kd.int .i64) (w0 := w0) w0.heap.size rfl (.tmp 8) (.tmp 9) 26 3 (.int .i64 0) 8 rfl Try.underlying26 info3 rfl (by decide) (by omega) (.slice A l.length c) l l1 _ _ _ (fun _ => True) (fun _ => False) rfl rfl H.out.row HR.out (fun _ _ h => h) (fun _ h => h.elim) (fun _ _ => trivial) H.out.bel H.out.bel.size (by have := HL.out; omega) ?_; intro v1 w1 ho hb hg hat; obtain ⟨A2, c2, e2⟩ := Kd.R_slice ho; subst e2; have n0_ := Aside0.mk ho; have n1_ := Aside0.mk hb; have n2_ := Aside0.mk hg; clear ho hb hg hat; have cw := blk_grown H.out.blk n2_.out hne.out; have cf := blk_frozen cw 0; have cc : w1.cell? ⟨g, 0, none⟩ = some (.slice A l.length c) := (blk_cell cw 0).trans rfl; have CW := Aside0.mk cw; clear cw))
  go_end0
  rw [← List.length_append]
  exact ⟨_, rfl, ⟨(blk_set CW.out 0 _).trans rfl, Kd.R_set n0_.out CW.out (by decide) 0 _, H.out.ge, Below.setCell n1_.out H.out.ge _⟩, (KeepBut.of_grown n2_.out g).set_ 0 _⟩

set_option maxHeartbeats 1000000 in
theorem list_calls (g : Nat) (v : Value) (l : List Int) (at_ : Int) (r : List Int) (w0 w : World) (h : QueueAt w0 w g v l at_) (h0 : 0 ≤ at_) (h1 : at_ ≤ l.length) (hr : slices_Clone_int_int.f (l.drop at_.toNat) = some r) :
    Calls Try.prog 25 #[.pointer (some ⟨g, 0, none⟩)] w fun e w' => ∃ v0_ : Value, e = .returned v0_ ∧ Kd.R (Kd.int .i64) 3 w' w.heap.size (fun _ => True) v0_ r ∧ Below w.heap.size w w' := by
  obtain ⟨A, c, rfl, hc, hC⟩ := Kd.R_reads h.row
  have c0 : w.cell? ⟨g, 0, none⟩ = some (.slice A l.length c) := (blk_cell h.blk 0).trans rfl
  have c1 : w.cell? ⟨g, 1, none⟩ = some (.int .i64 at_) := (blk_cell h.blk 1).trans rfl
  have hm := hC.2.1
  have H := Aside0.mk h
  have HR := Aside0.mk hr
  have HC := Aside0.mk hC
  clear h hr hC
  have hu := Try.underlying53
  have hu26 := Try.underlying26
  go_enter Try.func25, Try.ntmps25
  go_wp2
  go_still_tail 9, (by kernel_rfl)
  change wpList _ _ _ _ _ w.drew
  have HD := Kd.C_drop (c := c) (m := at_.toNat) HC.out (by omega) hc
  simp only [show (Kd.int .i64).sz = 1 from rfl, Nat.mul_one] at HD
  have hle : (l.drop at_.toNat).length ≤ c - at_.toNat := by simp; omega
  rw [show l.length - at_.toNat = (l.drop at_.toNat).length from by simp]
  generalize (if c = at_.toNat then A else Option.map (fun x => x.add at_.toNat) A) = AD at HD ⊢
  generalize l.drop at_.toNat = l2 at HD HR hle ⊢
  generalize c - at_.toNat = c2 at hle ⊢
  have HD' := Aside0.mk HD
  clear HD
  go_wp2_with (go_at_call 22; refine (slices_Clone_int_int.calls _ _ _ r _ (Kd.C_drew HD'.out) hle HR.out).mono ?_; rintro e w' ⟨v0, rfl, ho, hb⟩)
  go_ret
  exact ⟨_, rfl, ho, (Below.refl w.heap.size w).drew.trans hb⟩

theorem clone_eq (l : List Int) (h : l.length < 17592186044416) : slices_Clone_int_int.f l = some l := by
  simp [slices_Clone_int_int.f, h]

set_option maxHeartbeats 1000000 in
theorem drop_keep (g : Nat) (v : Value) (l : List Int) (at_ n : Int) (w0 w : World) (h : QueueAt w0 w g v l at_) (h0 : 0 ≤ at_) (hn : 0 ≤ n) (h1 : at_ + n ≤ l.length) (hk : ¬ (at_ + n > l.length / 2 ∧ at_ + n > 1000)) :
    Calls Try.prog 27 #[.pointer (some ⟨g, 0, none⟩), .int .i64 n] w fun e w' => e = .returned (.tuple #[]) ∧ QueueAt w0 w' g v l (at_ + n) ∧ KeepBut w w' g none := by
  obtain ⟨A, c, rfl, hc, hC⟩ := Kd.R_reads h.row
  have c0 : w.cell? ⟨g, 0, none⟩ = some (.slice A l.length c) := (blk_cell h.blk 0).trans rfl
  have c1 : w.cell? ⟨g, 1, none⟩ = some (.int .i64 at_) := (blk_cell h.blk 1).trans rfl
  have f1 := blk_frozen h.blk 1
  have hs := blk_set h.blk 1 (.int .i64 (at_ + n))
  have d0 : (w.setCell ⟨g, 1, none⟩ (.int .i64 (at_ + n))).cell? ⟨g, 0, none⟩ = some (.slice A l.length c) := (blk_cell hs 0).trans rfl
  have d1 : (w.setCell ⟨g, 1, none⟩ (.int .i64 (at_ + n))).cell? ⟨g, 1, none⟩ = some (.int .i64 (at_ + n)) := (blk_cell hs 1).trans rfl
  have hm := hC.2.1
  have H := Aside0.mk h
  have HS := Aside0.mk hs
  clear h hs hC
  have hu := Try.underlying53
  by_cases g1 : (l.length : Int) / 2 < at_ + n
  · have g2 : ¬ (1000 < at_ + n) := by omega
    clear hk
    go_enter Try.func27, Try.ntmps27
    go_wp2
    have g1' : decide ((l.length : Int) / 2 < at_ + n) = true := decide_eq_true g1
    have g2' : decide (1000 < at_ + n) = false := decide_eq_false (by omega)
    go_quiet (fail)
    go_wp2
    go_end0
    exact ⟨rfl, ⟨blk_drewN HS.out _, Kd.R_drewN (Kd.R_set H.out.row H.out.blk (by decide) 1 _) _, H.out.ge, pw_below_drewN (Below.setCell H.out.bel H.out.ge _) _⟩, keep_drewN ((KeepBut.refl w g none).set_ 1 _) _⟩
  · clear hk
    go_enter Try.func27, Try.ntmps27
    go_wp2
    have g1' : decide ((l.length : Int) / 2 < at_ + n) = false := decide_eq_false (by omega)
    go_quiet (fail)
    go_wp2
    go_end0
    exact ⟨rfl, ⟨blk_drewN HS.out _, Kd.R_drewN (Kd.R_set H.out.row H.out.blk (by decide) 1 _) _, H.out.ge, pw_below_drewN (Below.setCell H.out.bel H.out.ge _) _⟩, keep_drewN ((KeepBut.refl w g none).set_ 1 _) _⟩

set_option maxHeartbeats 2000000 in
theorem drop_compact (g : Nat) (v : Value) (l : List Int) (at_ n : Int) (w0 w : World) (h : QueueAt w0 w g v l at_) (h0 : 0 ≤ at_) (hn : 0 ≤ n) (h1 : at_ + n ≤ l.length) (hk : at_ + n > l.length / 2 ∧ at_ + n > 1000) (hl : l.length < 17592186044416) :
    Calls Try.prog 27 #[.pointer (some ⟨g, 0, none⟩), .int .i64 n] w fun e w' => ∃ v', e = .returned (.tuple #[]) ∧ QueueAt w0 w' g v' (l.drop (at_ + n).toNat) 0 ∧ KeepBut w w' g none := by
  obtain ⟨A, c, rfl, hc, hC⟩ := Kd.R_reads h.row
  have c0 : w.cell? ⟨g, 0, none⟩ = some (.slice A l.length c) := (blk_cell h.blk 0).trans rfl
  have c1 : w.cell? ⟨g, 1, none⟩ = some (.int .i64 at_) := (blk_cell h.blk 1).trans rfl
  have f1 := blk_frozen h.blk 1
  have hs := blk_set h.blk 1 (.int .i64 (at_ + n))
  have hR := Kd.R_set h.row h.blk (by decide) 1 (.int .i64 (at_ + n))
  have hB := Below.setCell h.bel h.ge (.int .i64 (at_ + n)) (p := ⟨g, 1, none⟩)
  have hKB := (KeepBut.refl w g none).set_ 1 (.int .i64 (at_ + n))
  have hm := hC.2.1
  have HG := Aside0.mk h.ge
  clear h hC
  have hu := Try.underlying53
  have hu26 := Try.underlying26
  have g1 : (l.length : Int) / 2 < at_ + n := by omega
  have g2 : 1000 < at_ + n := by omega
  clear hk
  go_enter Try.func27, Try.ntmps27
  go_wp2
  generalize w.setCell ⟨g, 1, none⟩ (.int .i64 (at_ + n)) = w1 at hs hR hB hKB ⊢
  have d0 : w1.cell? ⟨g, 0, none⟩ = some (.slice A l.length c) := (blk_cell hs 0).trans rfl
  have d1 : w1.cell? ⟨g, 1, none⟩ = some (.int .i64 (at_ + n)) := (blk_cell hs 1).trans rfl
  have HS := Aside0.mk hs
  have HR := Aside0.mk hR
  have HB := Aside0.mk hB
  have HK := Aside0.mk hKB
  have HL := Aside0.mk hl
  clear hs hR hB hKB c0 c1 f1 hl
  have g1' : decide ((l.length : Int) / 2 < at_ + n) = true := decide_eq_true g1
  have g2' : decide (1000 < at_ + n) = true := decide_eq_true g2
  go_quiet (fail)
  go_wp2
  have n0 := blk_drew (blk_drewN HS.out nq)
  have n1 := Kd.R_drew (Kd.R_drewN HR.out nq)
  have n2 := (pw_below_drewN HB.out nq).drew
  have n3 := keep_drew (keep_drewN HK.out nq)
  clear HS HR HB HK d0 d1
  have hS : (w1.drewN nq).drew.cell? ⟨g, 0, none⟩ = some (.slice A l.length c) ∧ (w1.drewN nq).drew.cell? ⟨g, 1, none⟩ = some (.int .i64 (at_ + n)) := ⟨(blk_cell n0 0).trans rfl, (blk_cell n0 1).trans rfl⟩
  refine start_ (n := 18) (S := fun w' => w'.cell? ⟨g, 0, none⟩ = some (.slice A l.length c) ∧ w'.cell? ⟨g, 1, none⟩ = some (.int .i64 (at_ + n))) (ds := [11, 14, 17]) #[false, false, false, false, false, false, false, false, false, false, false, false, false, false, false, false, false, false] (by kernel_rfl) rfl rfl hS (fun hHeld => ?_)
  generalize (w1.drewN nq).drew = w3 at n0 n1 n2 n3 hS hHeld ⊢
  clear hS
  have HD := Kd.C_drop (c := c) (m := (at_ + n).toNat) (Kd.R_reads' n1).2.2 (by omega) hc
  simp only [show (Kd.int .i64).sz = 1 from rfl, Nat.mul_one] at HD
  have hle : (l.drop (at_ + n).toNat).length ≤ c - (at_ + n).toNat := by simp; omega
  have N0 := Aside0.mk n0
  have N1 := Aside0.mk n1
  have N2 := Aside0.mk n2
  have N3 := Aside0.mk n3
  have HD' := Aside0.mk HD
  have HLE := Aside0.mk hle
  clear n0 n1 n2 n3 HD hle
  refine pure_ (i := 0) (N := some 30) (v := ?_) (a' := ?_) #[true, false, false, false, false, false, false, false, false, false, false, false, false, false, false, false, false, false] rfl rfl (by kernel_rfl) (fun _ _ _ h => h) (Or.inl ⟨by rfl, ?_⟩) ?_ ?_
  rotate_left
  · intro w'; go_simp; with_reducible rfl
  rotate_left
  · simp only [Act.put, List.setIfInBounds_toArray, List.set_cons_zero, List.set_cons_succ, i64_w, i32_w]; rfl
  refine pure_ (i := 1) (N := some 31) (v := ?_) (a' := ?_) #[true, true, false, false, false, false, false, false, false, false, false, false, false, false, false, false, false, false] rfl rfl (by kernel_rfl) (fun _ _ _ h => h) (Or.inl ⟨by rfl, ?_⟩) ?_ ?_
  rotate_left
  · intro w'; go_simp; with_reducible rfl
  rotate_left
  · simp only [Act.put, List.setIfInBounds_toArray, List.set_cons_zero, List.set_cons_succ, i64_w, i32_w]; rfl
  refine pure_ (i := 2) (N := some 32) (v := ?_) (a' := ?_) #[true, true, true, false, false, false, false, false, false, false, false, false, false, false, false, false, false, false] rfl rfl (by kernel_rfl) (fun _ _ _ h => h) (Or.inl ⟨by rfl, ?_⟩) ?_ ?_
  rotate_left
  · intro w'; go_simp; with_reducible rfl
  rotate_left
  · simp only [Act.put, List.setIfInBounds_toArray, List.set_cons_zero, List.set_cons_succ, i64_w, i32_w]; rfl
  refine pure_ (i := 3) (N := some 33) (v := ?_) (a' := ?_) #[true, true, true, true, false, false, false, false, false, false, false, false, false, false, false, false, false, false] rfl rfl (by kernel_rfl) (fun _ _ _ h => h) (Or.inl ⟨by rfl, ?_⟩) ?_ ?_
  rotate_left
  · intro w'; go_simp; with_reducible rfl
  rotate_left
  · simp only [Act.put, List.setIfInBounds_toArray, List.set_cons_zero, List.set_cons_succ, i64_w, i32_w]; rfl
  refine pure_ (i := 4) (N := some 34) (v := ?_) (a' := ?_) #[true, true, true, true, true, false, false, false, false, false, false, false, false, false, false, false, false, false] rfl rfl (by kernel_rfl) (fun _ _ _ h => h) (Or.inl ⟨by rfl, ?_⟩) ?_ ?_
  rotate_left
  · intro w'; go_simp; with_reducible rfl
  rotate_left
  · simp only [Act.put, List.setIfInBounds_toArray, List.set_cons_zero, List.set_cons_succ, i64_w, i32_w]; rfl
  refine pure_ (i := 6) (N := some 36) (v := ?_) (a' := ?_) #[true, true, true, true, true, false, true, false, false, false, false, false, false, false, false, false, false, false] rfl rfl (by kernel_rfl) (fun _ _ _ h => h) (Or.inl ⟨by rfl, ?_⟩) ?_ ?_
  rotate_left
  · intro w'; go_simp; with_reducible rfl
  rotate_left
  · simp only [Act.put, List.setIfInBounds_toArray, List.set_cons_zero, List.set_cons_succ, i64_w, i32_w]; rfl
  refine pure_ (i := 7) (N := some 37) (v := ?_) (a' := ?_) #[true, true, true, true, true, false, true, true, false, false, false, false, false, false, false, false, false, false] rfl rfl (by kernel_rfl) (fun _ _ _ h => h) (Or.inl ⟨by rfl, ?_⟩) ?_ ?_
  rotate_left
  · intro w'; go_simp; with_reducible rfl
  rotate_left
  · simp only [Act.put, List.setIfInBounds_toArray, List.set_cons_zero, List.set_cons_succ, i64_w, i32_w]; rfl
  refine pure_ (i := 8) (N := some 38) (v := ?_) (a' := ?_) #[true, true, true, true, true, false, true, true, true, false, false, false, false, false, false, false, false, false] rfl rfl (by kernel_rfl) (fun _ _ _ h => h) (Or.inl ⟨by rfl, ?_⟩) ?_ ?_
  rotate_left
  · intro w'; go_simp; with_reducible rfl
  rotate_left
  · simp only [Act.put, List.setIfInBounds_toArray, List.set_cons_zero, List.set_cons_succ, i64_w, i32_w]; rfl
  refine take_ (i := 5) (N := some 35) (v := ?_) (a' := ?_) #[true, true, true, true, true, true, true, true, true, false, false, false, false, false, false, false, false, false] rfl rfl (by kernel_rfl) (fun _ _ _ h => h) (Or.inl ⟨by rfl, ?_⟩) hHeld ?_ ?_
  rotate_left
  · rintro w' ⟨s0, s1⟩; go_simp; with_reducible rfl
  rotate_left
  · simp only [Act.put, List.setIfInBounds_toArray, List.set_cons_zero, List.set_cons_succ, i64_w, i32_w]; rfl
  refine take_ (i := 9) (N := some 39) (v := ?_) (a' := ?_) #[true, true, true, true, true, true, true, true, true, true, false, false, false, false, false, false, false, false] rfl rfl (by kernel_rfl) (fun _ _ _ h => h) (Or.inl ⟨by rfl, ?_⟩) hHeld ?_ ?_
  rotate_left
  · rintro w' ⟨s0, s1⟩; go_simp; with_reducible rfl
  rotate_left
  · simp only [Act.put, List.setIfInBounds_toArray, List.set_cons_zero, List.set_cons_succ, i64_w, i32_w]; rfl
  have h01 : 0 ≤ at_ + n := by omega
  refine pure_ (i := 10) (N := some 40) (v := ?_) (a' := ?_) #[true, true, true, true, true, true, true, true, true, true, true, false, false, false, false, false, false, false] rfl rfl (by kernel_rfl) (fun _ _ _ h => h) (Or.inl ⟨by rfl, ?_⟩) ?_ ?_
  rotate_left
  · intro w'; go_simp; with_reducible rfl
  rotate_left
  · simp only [Act.put, List.setIfInBounds_toArray, List.set_cons_zero, List.set_cons_succ, i64_w, i32_w]; rfl
  have hD := HD'.out
  have hle := HLE.out
  clear HD' HLE
  rw [show l.length - (at_ + n).toNat = (l.drop (at_ + n).toNat).length from by simp]
  generalize (if c = (at_ + n).toNat then A else Option.map (fun x => x.add (at_ + n).toNat) A) = AD at hD ⊢
  generalize hl2 : l.drop (at_ + n).toNat = l2 at hD hle ⊢
  generalize c - (at_ + n).toNat = c2 at hle ⊢
  have HD' := Aside0.mk hD
  have HLE := Aside0.mk hle
  have H2 : Aside0 (l2.length < 17592186044416) := ⟨by rw [← hl2, List.length_drop]; have := HL.out; omega⟩
  have HL2 := Aside0.mk hl2
  clear hD hle hl2
  refine last_ (i := 11) (N := some 41) #[true, true, true, true, true, true, true, true, true, true, true, true, false, false, false, false, false, false] rfl rfl (by kernel_rfl) (by decide) (fun K hK => ?_)
  refine goes_ Try.func22 (by kernel_rfl) rfl #[.slice AD l2.length c2] (by rfl) rfl rfl (by (try simp only [List.map_toArray, List.map_cons, List.map_nil]); first | done | rfl) ?_
  refine (slices_Clone_int_int.calls AD c2 l2 l2 w3 HD'.out HLE.out (clone_eq l2 H2.out)).mono ?_
  rintro e w' ⟨v0, rfl, ho, hb⟩
  obtain ⟨A4, c4, rfl⟩ := Kd.R_slice ho
  refine ⟨.slice A4 l2.length c4, rfl, hK.out _ _ ?_⟩
  clear hK K
  refine norm_ (a' := ?_) ?_ ?_
  rotate_left
  · show Act.put _ (some 41) _ = _; simp only [Act.put, List.setIfInBounds_toArray, List.set_cons_zero, List.set_cons_succ, i64_w, i32_w]; rfl
  have n0 := blk_below N0.out hb
  have n1 := Kd.R_lower ho N2.out.size
  have n2 := below_then N2.out N2.out.size hb
  have n3 := KeepBut.trans N3.out (KeepBut.of_below hb g none) (.inl rfl)
  clear N0 N1 N2 N3 ho hb hHeld
  have f0 := blk_frozen n0 0
  have f1 := blk_frozen n0 1
  have c0 : w'.cell? ⟨g, 0, none⟩ = some (.slice A l.length c) := (blk_cell n0 0).trans rfl
  have c1 : w'.cell? ⟨g, 1, none⟩ = some (.int .i64 (at_ + n)) := (blk_cell n0 1).trans rfl
  have m0 := blk_set n0 0 (.slice A4 l2.length c4)
  have f2 := blk_frozen m0 1
  have c2' : (w'.setCell ⟨g, 0, none⟩ (.slice A4 l2.length c4)).cell? ⟨g, 1, none⟩ = some (.int .i64 (at_ + n)) := (blk_cell m0 1).trans rfl
  have N0 := Aside0.mk n0
  have N1 := Aside0.mk n1
  have N2 := Aside0.mk n2
  have N3 := Aside0.mk n3
  have M0 := Aside0.mk m0
  clear n0 n1 n2 n3 m0
  refine pure_ (i := 12) (N := some 42) (v := ?_) (a' := ?_) #[true, true, true, true, true, true, true, true, true, true, true, true, true, false, false, false, false, false] rfl rfl (by kernel_rfl) (fun _ _ _ h => h) (Or.inl ⟨by rfl, ?_⟩) ?_ ?_
  rotate_left
  · intro w'; go_simp; with_reducible rfl
  rotate_left
  · simp only [Act.put, List.setIfInBounds_toArray, List.set_cons_zero, List.set_cons_succ, i64_w, i32_w]; rfl
  refine pure_ (i := 13) (N := some 43) (v := ?_) (a' := ?_) #[true, true, true, true, true, true, true, true, true, true, true, true, true, true, false, false, false, false] rfl rfl (by kernel_rfl) (fun _ _ _ h => h) (Or.inl ⟨by rfl, ?_⟩) ?_ ?_
  rotate_left
  · intro w'; go_simp; with_reducible rfl
  rotate_left
  · simp only [Act.put, List.setIfInBounds_toArray, List.set_cons_zero, List.set_cons_succ, i64_w, i32_w]; rfl
  refine last_ (i := 14) (N := none) #[true, true, true, true, true, true, true, true, true, true, true, true, true, true, true, false, false, false] rfl rfl (by kernel_rfl) (by decide) (fun K hK => ?_)
  refine skip_ (w1 := ?_) (by rfl) rfl ?_ ?_
  rotate_left
  · go_simp; rfl
  refine hK.out _ _ ?_
  clear hK K
  refine pure_ (i := 15) (N := some 44) (v := ?_) (a' := ?_) #[true, true, true, true, true, true, true, true, true, true, true, true, true, true, true, true, false, false] rfl rfl (by kernel_rfl) (fun _ _ _ h => h) (Or.inl ⟨by rfl, ?_⟩) ?_ ?_
  rotate_left
  · intro w'; go_simp; with_reducible rfl
  rotate_left
  · simp only [Act.put, List.setIfInBounds_toArray, List.set_cons_zero, List.set_cons_succ, i64_w, i32_w]; rfl
  refine pure_ (i := 16) (N := some 45) (v := ?_) (a' := ?_) #[true, true, true, true, true, true, true, true, true, true, true, true, true, true, true, true, true, false] rfl rfl (by kernel_rfl) (fun _ _ _ h => h) (Or.inl ⟨by rfl, ?_⟩) ?_ ?_
  rotate_left
  · intro w'; go_simp; with_reducible rfl
  rotate_left
  · simp only [Act.put, List.setIfInBounds_toArray, List.set_cons_zero, List.set_cons_succ, i64_w, i32_w]; rfl
  refine last_ (i := 17) (N := none) #[true, true, true, true, true, true, true, true, true, true, true, true, true, true, true, true, true, true] rfl rfl (by kernel_rfl) (by decide) (fun K hK => ?_)
  refine skip_ (w1 := ?_) (by rfl) rfl ?_ ?_
  rotate_left
  · go_simp; rfl
  refine hK.out _ _ ?_
  clear hK K
  refine done_ (by kernel_rfl) ?_
  go_wp2
  go_end0
  rw [HL2.out]
  exact ⟨_, rfl, ⟨(blk_set M0.out 1 _).trans rfl, Kd.R_set (Kd.R_set N1.out N0.out (by decide) 0 _) M0.out (by decide) 1 _, HG.out, Below.setCell (Below.setCell N2.out HG.out _) HG.out _⟩, (N3.out.set_ 0 _).set_ 1 _⟩

/-- What the loop of tag.Run does: the round, the queue's letters and where it begins. -/
def tag_Run.l0 : Nat → Int → List Int → Int → Int → List (List Int) → List Bool → Int → Option (List Int × Int × Int)
  | 0, _, _, _, _, _, _, _ => none
  | k + 1, i, l, at_, D, R, S, n =>
    if i < n then
      (if (l.length : Int) - at_ < D then (some (l.drop at_.toNat, i, 0))
       else if 0 ≤ at_ ∧ at_ < (l.length : Int) ∧ 0 ≤ rd l at_ ∧ rd l at_ < (S.length : Int) then
        (if rdOf false S (rd l at_) = true then (some (l.drop at_.toNat, i, 0))
         else if rd l at_ < (R.length : Int) ∧ l.length + (rd_L1 R (rd l at_)).length < 17592186044416 ∧ 0 ≤ D ∧ at_ + D ≤ ((l ++ rd_L1 R (rd l at_)).length : Int) then
          (if at_ + D > ((l ++ rd_L1 R (rd l at_)).length : Int) / 2 ∧ at_ + D > 1000 then
            (if ((((l ++ rd_L1 R (rd l at_)).drop (at_ + D).toNat).length : Int) - 0 > 100000) then (some ([], 0, 4)) else tag_Run.l0 k (i + 1) ((l ++ rd_L1 R (rd l at_)).drop (at_ + D).toNat) 0 D R S n)
           else (if ((l ++ rd_L1 R (rd l at_)).length : Int) - (at_ + D) > 100000 then (some ([], 0, 4)) else tag_Run.l0 k (i + 1) (l ++ rd_L1 R (rd l at_)) (at_ + D) D R S n))
         else none)
       else none)
    else (some (l.drop at_.toNat, n, 0))
def tag_Run.f (k : Nat) (a0_0 : Int) (l0_1 : List (List Int)) (l0_2 : List Bool) (l1 : List Int) (a2 : Int) : Option (List Int × Int × Int) :=
  (tag_Fits.f k a0_0 l0_1 l0_2 l1).bind fun ok => if ok = true then (if a2 < 0 then some ([], 0, 2) else if a2 > 1000000 then some ([], 0, 2) else if l1.length < 17592186044416 then tag_Run.l0 k 0 l1 0 a0_0 l0_1 l0_2 a2 else none) else some ([], 0, 1)

theorem tag_Run.mono_l : ∀ k, ∀ y0 y1 y2 y3 y4 y5 y6, LeO (tag_Run.l0 k y0 y1 y2 y3 y4 y5 y6) (tag_Run.l0 (k + 1) y0 y1 y2 y3 y4 y5 y6)
  | 0 => fun _ _ _ _ _ _ _ r h => by simp [tag_Run.l0] at h
  | k + 1 => by
    have ih0 := tag_Run.mono_l k
    intro y0 y1 y2 y3 y4 y5 y6
    unfold tag_Run.l0
    repeat' first
      | (with_reducible exact ih0 _ _ _ _ _ _ _)
      | (with_reducible exact LeO.refl _)
      | (with_reducible exact LeO.none _)
      | (with_reducible refine LeO.ite ?_ ?_)
      | (with_reducible refine LeO.bind ?_ (fun _ => ?_))
      | exact ih0 _ _ _ _ _ _ _
      | exact LeO.none _
      | refine LeO.ite ?_ ?_
      | refine LeO.bind ?_ (fun _ => ?_)
theorem tag_Run.mono : ∀ a0 a1 a2 a3 a4 k, LeO (tag_Run.f k a0 a1 a2 a3 a4) (tag_Run.f (k + 1) a0 a1 a2 a3 a4) := by
  intro a0 a1 a2 a3 a4 k
  have ih0 := tag_Run.mono_l k
  unfold tag_Run.f
  repeat' first
      | (with_reducible exact ih0 _ _ _ _ _ _ _)
      | (with_reducible exact tag_Fits.mono _ _ _ _ _)
      | (with_reducible exact LeO.refl _)
      | (with_reducible exact LeO.none _)
      | (with_reducible refine LeO.ite ?_ ?_)
      | (with_reducible refine LeO.bind ?_ (fun _ => ?_))
      | exact LeO.none _
      | refine LeO.ite ?_ ?_
      | refine LeO.bind ?_ (fun _ => ?_)

theorem C_bool {w : World} {A : Option Addr} {n : Nat} {xs : List Bool} (h : Kd.C Kd.bool w A n xs) (i : Int) (h0 : 0 ≤ i) (h1 : i < n) : ∃ ad, A = some ad ∧ w.cell? (ad.add i.toNat) = some (.bool (rdOf false xs i)) := by
  obtain ⟨ad, c, e, hl, hk, hc⟩ := Kd.C_get h false i h0 h1
  obtain rfl : c = [.bool (rdOf false xs i)] := hk
  refine ⟨ad, e, ?_⟩
  have := hc 0 _ rfl
  rwa [show Kd.bool.sz = 1 from rfl, Nat.mul_one, Nat.add_zero] at this
theorem size_quiet (g : Nat) (v : Value) (l : List Int) (at_ : Int) (w0 w : World) (h : QueueAt w0 w g v l at_) (h0 : 0 ≤ at_) (h1 : at_ ≤ l.length) (hn : l.length ≤ 9223372036854775807) (n : Nat) :
    Calls Try.prog 23 #[.pointer (some ⟨g, 0, none⟩)] (w.drewN n) fun e w' => e = .returned (.int .i64 ((l.length : Int) - at_)) ∧ ∃ m, w' = (w.drewN n).drewN m :=
  (size_calls g v l at_ w0 _ (h.drewN n) h0 h1 hn).mono fun _ _ ⟨he, hw⟩ => ⟨he, hw.out⟩
theorem first_quiet (g : Nat) (v : Value) (l : List Int) (at_ : Int) (w0 w : World) (h : QueueAt w0 w g v l at_) (h0 : 0 ≤ at_) (h1 : at_ < l.length) (hn : l.length ≤ 9223372036854775807) (n : Nat) :
    Calls Try.prog 24 #[.pointer (some ⟨g, 0, none⟩)] (w.drewN n) fun e w' => e = .returned (.int .i64 (rd l at_)) ∧ ∃ m, w' = (w.drewN n).drewN m :=
  (first_calls g v l at_ w0 _ (h.drewN n) h0 h1 hn).mono fun _ _ ⟨he, hw⟩ => ⟨he, hw.out⟩

set_option maxHeartbeats 4000000 in
theorem tag_Run.calls (k : Nat) (a0_0 : Int) (A0_1 : Option Addr) (c0_1 : Nat) (l0_1 : List (List Int)) (A0_2 : Option Addr) (c0_2 : Nat) (l0_2 : List Bool) (A1 : Option Addr) (c1 : Nat) (l1 : List Int) (a2 : Int) (r1 : List Int) (r2 r3 : Int) (w : World) (hr0_1 : Kd.C (Kd.slice 3 (Kd.int .i64)) w A0_1 l0_1.length l0_1) (hc0_1 : l0_1.length ≤ c0_1) (hr0_2 : Kd.C Kd.bool w A0_2 l0_2.length l0_2) (hc0_2 : l0_2.length ≤ c0_2) (hr1 : Kd.C (Kd.int .i64) w A1 l1.length l1) (hc1 : l1.length ≤ c1) (h : tag_Run.f k a0_0 l0_1 l0_2 l1 a2 = some (r1, r2, r3)) :
    Calls Try.prog 9 #[.agg #[.int .i64 a0_0, .slice A0_1 l0_1.length c0_1, .slice A0_2 l0_2.length c0_2], .slice A1 l1.length c1, .int .i64 a2] w fun e w' => ∃ v0_ : Value, e = .returned (.tuple #[v0_, .int .i64 r2, .int .i64 r3]) ∧ Kd.R (Kd.int .i64) 3 w' w.heap.size (fun _ => True) v0_ r1 ∧ Below w.heap.size w w' := by
  obtain ⟨ok, hok, h⟩ := Option.bind_eq_some_iff.1 h
  have hu25 := Try.underlying25
  have hu53 := Try.underlying53
  have HOK := Aside0.mk hok
  have HR1 := Aside0.mk hr0_1
  have HC1 := Aside0.mk hc0_1
  have HR2 := Aside0.mk hr0_2
  have HC2 := Aside0.mk hc0_2
  have HR3 := Aside0.mk hr1
  have HC3 := Aside0.mk hc1
  have H := Aside0.mk h
  clear hok hr0_1 hc0_1 hr0_2 hc0_2 hr1 hc1 h
  go_enter Try.func9, Try.ntmps9
  go_wp2_with fail
  refine (tag_Fits.calls k a0_0 A0_1 c0_1 l0_1 A0_2 c0_2 l0_2 A1 c1 l1 ok _ (Kd.C_alloc HR1.out _) HC1.out (Kd.C_alloc HR2.out _) HC2.out (Kd.C_alloc HR3.out _) HC3.out HOK.out).mono ?_
  rintro e w1 ⟨rfl, hb⟩
  have BK := Aside0.mk (blk_below (blk_new w _) hb)
  have HB := Aside0.mk (((Below.refl w.heap.size w).alloc (Nat.le_refl _) (.cells #[.int .i64 a0_0, .slice A0_1 l0_1.length c0_1, .slice A0_2 l0_2.length c0_2] 25 (0, 0))).trans (hb.mono (by simp)))
  cases ok with
  | false =>
    have h := H.out
    rw [if_neg (by decide)] at h
    simp only [Option.some.injEq, Prod.mk.injEq] at h
    obtain ⟨rfl, rfl, rfl⟩ := h
    go_wp2_with fail
    go_ret3
    exact ⟨_, rfl, Kd.R_nil _ _ _ _ _, HB.out⟩
  | true =>
    have h := H.out
    clear H
    rw [if_pos rfl] at h
    by_cases g1 : a2 < 0
    · rw [if_pos g1] at h
      simp only [Option.some.injEq, Prod.mk.injEq] at h
      obtain ⟨rfl, rfl, rfl⟩ := h
      go_wp2_with fail
      go_ret3
      exact ⟨_, rfl, Kd.R_nil _ _ _ _ _, HB.out⟩
    · rw [if_neg g1] at h
      by_cases g2 : a2 > 1000000
      · rw [if_pos g2] at h
        simp only [Option.some.injEq, Prod.mk.injEq] at h
        obtain ⟨rfl, rfl, rfl⟩ := h
        go_wp2_with fail
        go_ret3
        exact ⟨_, rfl, Kd.R_nil _ _ _ _ _, HB.out⟩
      · rw [if_neg g2] at h
        by_cases g3 : l1.length < 17592186044416
        · rw [if_pos g3] at h
          have H := Aside0.mk h
          have HL := Aside0.mk g3
          have HCl := Aside0.mk (clone_eq l1 g3)
          clear h g3
          go_wp2_with fail
          refine (slices_Clone_int_int.calls A1 c1 l1 l1 _ (Kd.C_below (Kd.C_alloc HR3.out _) hb) HC3.out HCl.out).mono ?_
          rintro e w2 ⟨v0, rfl, ho, hb2⟩
          have BK2 := Aside0.mk (blk_below BK.out hb2)
          have HB2 := Aside0.mk (below_then HB.out HB.out.size hb2)
          have HO := Aside0.mk ho
          clear hb hb2 BK
          obtain ⟨A4, c4, rfl⟩ := Kd.R_slice ho
          clear ho
          go_wp2_with fail
          have BK3 := Aside0.mk (blk_alloc BK2.out (.cells #[.slice A4 l1.length c4, .int .i64 0] 53 (0, 0)))
          have hq : QueueAt w (w2.alloc (.cells #[.slice A4 l1.length c4, .int .i64 0] 53 (0, 0))) w2.heap.size (.slice A4 l1.length c4) l1 0 := ⟨blk_new _ _, Kd.R_alloc (Kd.R_lower HO.out HB.out.size) _, HB2.out.size, HB2.out.alloc HB2.out.size _⟩
          have HQ := Aside0.mk hq
          clear hq
          generalize w2.alloc (.cells #[.slice A4 l1.length c4, .int .i64 0] 53 (0, 0)) = w3 at BK3 HQ ⊢
          generalize w2.heap.size = g at HQ ⊢
          clear BK2 HO HB2 HB HCl HOK HR3 HC3
          go_loopg [26] k (fun kq v26 w' => ∃ (i : Int) (l : List Int) (at_ : Int) (v : Value), v26 = .int .i64 i ∧ Aside0 (tag_Run.l0 kq i l at_ a0_0 l0_1 l0_2 a2 = some (r1, r2, r3)) ∧ Aside0 (kq ≤ k) ∧ Aside0 (QueueAt w w' g v l at_) ∧ Aside0 (w'.heap[w.heap.size]? = some (.cells #[.int .i64 a0_0, .slice A0_1 l0_1.length c0_1, .slice A0_2 l0_2.length c0_2] 25 (0, 0))) ∧ Aside0 (0 ≤ at_ ∧ at_ ≤ l.length ∧ l.length < 17592186044416) ∧ 0 ≤ i ∧ i ≤ 1000000)
          case atStart => exact ⟨0, l1, 0, _, rfl, H, ⟨Nat.le_refl _⟩, HQ, BK3, ⟨by omega, by omega, HL.out⟩, by omega, by omega⟩
          case round =>
            clear H HQ BK3
            obtain ⟨i, l, at_, v, rfl, H, HK, HQ, BK, HA, i0, i1⟩ := hrel
            cases gk with
            | zero => exact absurd H.out (by simp [tag_Run.l0])
            | succ k1 =>
              have h := H.out
              simp only [tag_Run.l0] at h
              clear H
              have hsz : l.length ≤ 9223372036854775807 := by
                obtain ⟨A, c, rfl, hc, hC⟩ := Kd.R_reads HQ.out.row
                exact hC.2.1
              have HSZ := Aside0.mk hsz
              clear hsz
              by_cases c1 : i < a2
              · rw [if_pos c1] at h
                have b0 : wr.cell? ⟨w.heap.size, 0, none⟩ = some (.int .i64 a0_0) := (blk_cell BK.out 0).trans rfl
                have b1 : wr.cell? ⟨w.heap.size, 1, none⟩ = some (.slice A0_1 l0_1.length c0_1) := (blk_cell BK.out 1).trans rfl
                have b2 : wr.cell? ⟨w.heap.size, 2, none⟩ = some (.slice A0_2 l0_2.length c0_2) := (blk_cell BK.out 2).trans rfl
                have HS := Aside0.mk (size_quiet g v l at_ w wr HQ.out HA.out.1 HA.out.2.1 HSZ.out)
                by_cases c2 : (l.length : Int) - at_ < a0_0
                · rw [if_pos c2] at h
                  simp only [Option.some.injEq, Prod.mk.injEq] at h
                  obtain ⟨rfl, rfl, rfl⟩ := h
                  have d2 : decide ((l.length : Int) - at_ < a0_0) = true := decide_eq_true c2
                  go_wp2_with fail
                  go_quiet ((go_at_call 23; exact Calls.quiet_of (HS.out _)))
                  have hq := HQ.out.drewN nq
                  have ha := HA.out
                  have hcl := clone_eq (l.drop at_.toNat) (by rw [List.length_drop]; omega)
                  have hl := list_calls g v l at_ _ w _ hq ha.1 ha.2.1 hcl
                  have HL' := Aside0.mk hl
                  have HB := Aside0.mk hq.bel
                  clear hq ha hcl hl
                  generalize wr.drewN nq = w4 at HL' HB ⊢
                  go_wp2_with fail
                  refine HL'.out.mono ?_
                  rintro e w5 ⟨v5, rfl, ho, hb⟩
                  have HO5 := Aside0.mk ho
                  have HB5 := Aside0.mk hb
                  clear ho hb
                  go_wp2_with fail
                  go_ret3
                  exact ⟨_, rfl, Kd.R_lower HO5.out HB.out.size, below_then HB.out HB.out.size HB5.out⟩
                · rw [if_neg c2] at h
                  have d2 : decide ((l.length : Int) - at_ < a0_0) = false := decide_eq_false c2
                  by_cases c3 : 0 ≤ at_ ∧ at_ < (l.length : Int) ∧ 0 ≤ rd l at_ ∧ rd l at_ < (l0_2.length : Int)
                  · rw [if_pos c3] at h
                    obtain ⟨z0, z1, z2, z3⟩ := c3
                    have HF := Aside0.mk (first_quiet g v l at_ w wr HQ.out HA.out.1 z1 HSZ.out)
                    obtain ⟨adS, eS, hS⟩ := C_bool (Kd.C_below HR2.out HQ.out.bel) (rd l at_) z2 z3
                    cases eS
                    by_cases c4 : rdOf false l0_2 (rd l at_) = true
                    · rw [if_pos c4] at h
                      simp only [Option.some.injEq, Prod.mk.injEq] at h
                      obtain ⟨rfl, rfl, rfl⟩ := h
                      rw [c4] at hS
                      go_wp2_with fail
                      go_quiet (first | (go_at_call 23; exact Calls.quiet_of (HS.out _)) | (go_at_call 24; exact Calls.quiet_of (HF.out _)))
                      have hq := HQ.out.drewN nq
                      have ha := HA.out
                      have hcl := clone_eq (l.drop at_.toNat) (by rw [List.length_drop]; omega)
                      have hl := list_calls g v l at_ _ w _ hq ha.1 ha.2.1 hcl
                      have HL' := Aside0.mk hl
                      have HB := Aside0.mk hq.bel
                      clear hq ha hcl hl
                      generalize wr.drewN nq = w4 at HL' HB ⊢
                      go_wp2_with fail
                      refine HL'.out.mono ?_
                      rintro e w5 ⟨v5, rfl, ho, hb⟩
                      have HO5 := Aside0.mk ho
                      have HB5 := Aside0.mk hb
                      clear ho hb
                      go_wp2_with fail
                      go_ret3
                      exact ⟨_, rfl, Kd.R_lower HO5.out HB.out.size, below_then HB.out HB.out.size HB5.out⟩
                    · rw [if_neg c4] at h
                      have c4' : rdOf false l0_2 (rd l at_) = false := by simpa using c4
                      rw [c4'] at hS
                      by_cases c5 : rd l at_ < (l0_1.length : Int) ∧ l.length + (rd_L1 l0_1 (rd l at_)).length < 17592186044416 ∧ 0 ≤ a0_0 ∧ at_ + a0_0 ≤ ((l ++ rd_L1 l0_1 (rd l at_)).length : Int)
                      · rw [if_pos c5] at h
                        obtain ⟨z4, z5, z6, z7⟩ := c5
                        obtain ⟨adR, AR, cR, eR, hR, hlR, hCR⟩ := at_L1 (Kd.C_below HR1.out HQ.out.bel) (rd l at_) z2 z4
                        cases eR
                        have HCR := Aside0.mk hCR
                        have HLR := Aside0.mk hlR
                        have Hh := Aside0.mk h
                        clear hCR hlR h c4 c4'
                        go_wp2_with fail
                        go_quiet (first | (go_at_call 23; exact Calls.quiet_of (HS.out _)) | (go_at_call 24; exact Calls.quiet_of (HF.out _)))
                        go_wp2_with fail
                        refine start_ (n := 8) (S := fun w' => ∃ n, w' = wr.drewN n) (ds := [7]) #[false, false, false, false, false, false, false, false] (by kernel_rfl) rfl rfl ⟨nq + 1, rfl⟩ (fun hHeld => ?_)
                        change wpAnyLast _ _ _ _ _ _ _ _ _ (wr.drewN (nq + 1))
                        refine pure_ (i := 0) (N := some 45) (v := ?_) (a' := ?_) #[true, false, false, false, false, false, false, false] rfl rfl (by kernel_rfl) (fun _ _ _ h => h) (Or.inl ⟨by rfl, ?_⟩) ?_ ?_
                        rotate_left
                        · intro w'; go_simp; with_reducible rfl
                        rotate_left
                        · simp only [Act.put, List.setIfInBounds_toArray, List.set_cons_zero, List.set_cons_succ, i64_w, i32_w]; rfl
                        refine pure_ (i := 1) (N := some 46) (v := ?_) (a' := ?_) #[true, true, false, false, false, false, false, false] rfl rfl (by kernel_rfl) (fun _ _ _ h => h) (Or.inl ⟨by rfl, ?_⟩) ?_ ?_
                        rotate_left
                        · intro w'; go_simp; with_reducible rfl
                        rotate_left
                        · simp only [Act.put, List.setIfInBounds_toArray, List.set_cons_zero, List.set_cons_succ, i64_w, i32_w]; rfl
                        refine pure_ (i := 3) (N := some 48) (v := ?_) (a' := ?_) #[true, true, false, true, false, false, false, false] rfl rfl (by kernel_rfl) (fun _ _ _ h => h) (Or.inl ⟨by rfl, ?_⟩) ?_ ?_
                        rotate_left
                        · intro w'; go_simp; with_reducible rfl
                        rotate_left
                        · simp only [Act.put, List.setIfInBounds_toArray, List.set_cons_zero, List.set_cons_succ, i64_w, i32_w]; rfl
                        refine take_ (i := 2) (N := some 47) (v := ?_) (a' := ?_) #[true, true, true, true, false, false, false, false] rfl rfl (by kernel_rfl) (fun _ _ _ h => h) (Or.inl ⟨by rfl, ?_⟩) hHeld ?_ ?_
                        rotate_left
                        · rintro w' ⟨n, rfl⟩; go_simp; with_reducible rfl
                        rotate_left
                        · simp only [Act.put, List.setIfInBounds_toArray, List.set_cons_zero, List.set_cons_succ, i64_w, i32_w]; rfl
                        refine one_ (i := 4) (N := some 49) #[true, true, true, true, true, false, false, false] rfl rfl (by kernel_rfl) (by decide) (fun K hK => ?_)
                        refine goes_ Try.func24 (by kernel_rfl) rfl #[.pointer (some ⟨g, 0, none⟩)] (by rfl) rfl rfl (by (try simp only [List.map_toArray, List.map_cons, List.map_nil]); first | done | rfl) ?_
                        refine (HF.out (nq + 1)).mono ?_
                        rintro e w' ⟨rfl, m, rfl⟩
                        rw [World.drewN_drewN]
                        refine ⟨_, rfl, hK.out _ _ ⟨_, rfl⟩ (fun hHeld => ?_)⟩
                        clear hK K
                        refine norm_ (a' := ?_) ?_ ?_
                        rotate_left
                        · show Act.put _ (some 49) _ = _; simp only [Act.put, List.setIfInBounds_toArray, List.set_cons_zero, List.set_cons_succ, i64_w, i32_w]; rfl
                        refine pure_ (i := 5) (N := some 50) (v := ?_) (a' := ?_) #[true, true, true, true, true, true, false, false] rfl rfl (by kernel_rfl) (fun _ _ _ h => h) (Or.inl ⟨by rfl, ?_⟩) ?_ ?_
                        rotate_left
                        · intro w'; go_simp; with_reducible rfl
                        rotate_left
                        · simp only [Act.put, List.setIfInBounds_toArray, List.set_cons_zero, List.set_cons_succ, i64_w, i32_w]; rfl
                        refine take_ (i := 6) (N := some 51) (v := ?_) (a' := ?_) #[true, true, true, true, true, true, true, false] rfl rfl (by kernel_rfl) (fun _ _ _ h => h) (Or.inl ⟨by rfl, ?_⟩) hHeld ?_ ?_
                        rotate_left
                        · rintro w' ⟨n, rfl⟩; go_simp; with_reducible rfl
                        rotate_left
                        · simp only [Act.put, List.setIfInBounds_toArray, List.set_cons_zero, List.set_cons_succ, i64_w, i32_w]; rfl
                        refine last_ (i := 7) (N := some 52) #[true, true, true, true, true, true, true, true] rfl rfl (by kernel_rfl) (by decide) (fun K hK => ?_)
                        have hq := HQ.out.drewN (nq + 1 + m)
                        have hp := push_calls g v l at_ AR cR (rd_L1 l0_1 (rd l at_)) w _ hq (Kd.C_drewN HCR.out _) z5
                        have HP := Aside0.mk hp
                        clear hq hp
                        refine goes_ Try.func26 (by kernel_rfl) rfl #[.pointer (some ⟨g, 0, none⟩), .slice AR (rd_L1 l0_1 (rd l at_)).length cR] (by rfl) rfl rfl (by (try simp only [List.map_toArray, List.map_cons, List.map_nil]); first | done | rfl) ?_
                        refine HP.out.mono ?_
                        rintro e w5 ⟨v5, rfl, hq5, hk5⟩
                        refine ⟨_, rfl, hK.out _ _ ?_⟩
                        clear hK K
                        refine norm_ (a' := ?_) ?_ ?_
                        rotate_left
                        · show Act.put _ (some 52) _ = _; simp only [Act.put, List.setIfInBounds_toArray, List.set_cons_zero, List.set_cons_succ, i64_w, i32_w]; rfl
                        refine done_ (by kernel_rfl) ?_
                        have ngb : g ≠ w.heap.size := blk_ne HQ.out.blk BK.out (by decide)
                        have BK5 := Aside0.mk (KeepBut.blk hk5 (blk_drewN BK.out _) ngb.symm (Kd.R_ne HQ.out.row BK.out (by decide)))
                        have zl : (l ++ rd_L1 l0_1 (rd l at_)).length < 17592186044416 := by rw [List.length_append]; exact z5
                        have Hh := Hh.out
                        clear HS HF hS hR HCR HLR HP b0 b1 b2 BK hk5 z5 z4 z1 z2 z3 HSZ hHeld
                        generalize l ++ rd_L1 l0_1 (rd l at_) = l2 at hq5 Hh z7 zl
                        have HQ5 := Aside0.mk hq5
                        have HA5 := HA.out.1
                        clear hq5 HQ HA
                        have b0 : w5.cell? ⟨w.heap.size, 0, none⟩ = some (.int .i64 a0_0) := (blk_cell BK5.out 0).trans rfl
                        go_wp2_with fail
                        by_cases c6 : at_ + a0_0 > (l2.length : Int) / 2 ∧ at_ + a0_0 > 1000
                        · rw [if_pos c6] at Hh
                          refine (drop_compact g v5 l2 at_ a0_0 w w5 HQ5.out HA5 z6 z7 c6 zl).mono ?_
                          rintro e w6 ⟨v6, rfl, hq6, hk6⟩
                          have BK6 := Aside0.mk (KeepBut.blk hk6 BK5.out ngb.symm (by simp))
                          have zl6 : (l2.drop (at_ + a0_0).toNat).length < 17592186044416 := by rw [List.length_drop]; omega
                          generalize l2.drop (at_ + a0_0).toNat = l6 at hq6 Hh zl6
                          have HQ6 := Aside0.mk hq6
                          have HH := Aside0.mk Hh
                          clear hq6 hk6 Hh BK5 HQ5 b0 c6 z7 zl
                          go_wp2_with fail
                          refine (size_calls g v6 l6 0 w w6 HQ6.out (by omega) (by omega) (by omega)).mono ?_
                          rintro e w7 ⟨rfl, ⟨n7, rfl⟩⟩
                          have BK7 := Aside0.mk (blk_drewN BK6.out n7)
                          have HQ7 := Aside0.mk (HQ6.out.drewN n7)
                          clear BK6 HQ6
                          generalize w6.drewN n7 = w7 at BK7 HQ7 ⊢
                          have h := HH.out
                          clear HH
                          by_cases c7 : (l6.length : Int) - 0 > 100000
                          · rw [if_pos c7] at h
                            simp only [Option.some.injEq, Prod.mk.injEq] at h
                            obtain ⟨rfl, rfl, rfl⟩ := h
                            have d7 : decide (100000 < (l6.length : Int) - 0) = true := decide_eq_true c7
                            go_wp2_with fail
                            go_ret3
                            exact ⟨_, rfl, Kd.R_nil _ _ _ _ _, HQ7.out.bel⟩
                          · rw [if_neg c7] at h
                            have H := Aside0.mk h
                            clear h
                            have d7 : decide (100000 < (l6.length : Int) - 0) = false := decide_eq_false c7
                            go_wp2_with fail
                            go_roundg k1
                            case measure => have := HK.out; omega
                            case rel => exact ⟨i + 1, l6, 0, v6, by first | rfl | simp, H, ⟨by have := HK.out; omega⟩, HQ7, BK7, ⟨by omega⟩, by omega, by omega⟩
                        · rw [if_neg c6] at Hh
                          refine (drop_keep g v5 l2 at_ a0_0 w w5 HQ5.out HA5 z6 z7 c6).mono ?_
                          rintro e w6 ⟨rfl, hq6, hk6⟩
                          have BK6 := Aside0.mk (KeepBut.blk hk6 BK5.out ngb.symm (by simp))
                          have HQ6 := Aside0.mk hq6
                          have HH := Aside0.mk Hh
                          clear hq6 hk6 Hh BK5 HQ5 b0 c6
                          go_wp2_with fail
                          refine (size_calls g v5 l2 (at_ + a0_0) w w6 HQ6.out (by omega) (by omega) (by omega)).mono ?_
                          rintro e w7 ⟨rfl, ⟨n7, rfl⟩⟩
                          have BK7 := Aside0.mk (blk_drewN BK6.out n7)
                          have HQ7 := Aside0.mk (HQ6.out.drewN n7)
                          clear BK6 HQ6
                          generalize w6.drewN n7 = w7 at BK7 HQ7 ⊢
                          have h := HH.out
                          clear HH
                          by_cases c7 : (l2.length : Int) - (at_ + a0_0) > 100000
                          · rw [if_pos c7] at h
                            simp only [Option.some.injEq, Prod.mk.injEq] at h
                            obtain ⟨rfl, rfl, rfl⟩ := h
                            have d7 : decide (100000 < (l2.length : Int) - (at_ + a0_0)) = true := decide_eq_true c7
                            go_wp2_with fail
                            go_ret3
                            exact ⟨_, rfl, Kd.R_nil _ _ _ _ _, HQ7.out.bel⟩
                          · rw [if_neg c7] at h
                            have H := Aside0.mk h
                            clear h
                            have d7 : decide (100000 < (l2.length : Int) - (at_ + a0_0)) = false := decide_eq_false c7
                            go_wp2_with fail
                            go_roundg k1
                            case measure => have := HK.out; omega
                            case rel => exact ⟨i + 1, l2, at_ + a0_0, v5, by first | rfl | simp, H, ⟨by have := HK.out; omega⟩, HQ7, BK7, ⟨by omega⟩, by omega, by omega⟩
                      · rw [if_neg c5] at h
                        cases h
                  · rw [if_neg c3] at h
                    cases h
              · rw [if_neg c1] at h
                simp only [Option.some.injEq, Prod.mk.injEq] at h
                obtain ⟨rfl, rfl, rfl⟩ := h
                have hq := HQ.out
                have ha := HA.out
                have hcl := clone_eq (l.drop at_.toNat) (by rw [List.length_drop]; omega)
                have hl := list_calls g v l at_ _ w wr hq ha.1 ha.2.1 hcl
                have HL' := Aside0.mk hl
                have HB := Aside0.mk hq.bel
                clear hq ha hcl hl
                go_wp2_with fail
                refine HL'.out.mono ?_
                rintro e w5 ⟨v5, rfl, ho, hb⟩
                have HO5 := Aside0.mk ho
                have HB5 := Aside0.mk hb
                clear ho hb
                go_wp2_with fail
                go_ret3
                exact ⟨_, rfl, Kd.R_lower HO5.out HB.out.size, below_then HB.out HB.out.size HB5.out⟩
        · rw [if_neg g3] at h
          cases h

/-! ### standstillref07_Same: function 10 -/
def standstillref07_Same.l0 : Nat → List Int → List Int → Int → Option (Bool)
  | 0, _, _, _ => none
  | k + 1, x0, x1, x5 => if x5 < (x0.length : Int) then (if 0 ≤ x5 then (if x5 < (x1.length : Int) then (if (rd x0 x5) = (rd x1 x5) then (standstillref07_Same.l0 k x0 x1 (wrap64 (x5 + 1))) else (some false)) else (none)) else (none)) else (some true)
def standstillref07_Same.f (k : Nat) (l0 : List Int) (l1 : List Int) : Option (Bool) := if (l0.length : Int) = (l1.length : Int) then (standstillref07_Same.l0 k l0 l1 0) else (some false)
theorem standstillref07_Same.mono_l : ∀ k, (∀ y0 y1 y2, LeO (standstillref07_Same.l0 k y0 y1 y2) (standstillref07_Same.l0 (k + 1) y0 y1 y2))
  | 0 => fun _ _ _ r h => by simp [standstillref07_Same.l0] at h
  | k + 1 => by
    have ih0 := standstillref07_Same.mono_l k
    · intro y0 y1 y2
      unfold standstillref07_Same.l0
      repeat' first
      | (with_reducible exact ih0 _ _ _)
      | (with_reducible exact LeO.refl _)
      | (with_reducible exact LeO.none _)
      | (with_reducible refine LeO.ite ?_ ?_)
      | (with_reducible refine LeO.bind ?_ (fun _ => ?_))
      | exact ih0 _ _ _
      | exact LeO.none _
      | refine LeO.ite ?_ ?_
      | refine LeO.bind ?_ (fun _ => ?_)
theorem standstillref07_Same.mono : ∀ a0 a1 k, LeO (standstillref07_Same.f k a0 a1) (standstillref07_Same.f (k + 1) a0 a1) := by
  intro a0 a1 k
  have ih0 := standstillref07_Same.mono_l k
  unfold standstillref07_Same.f
  repeat' first
      | (with_reducible exact ih0 _ _ _)
      | (with_reducible exact LeO.refl _)
      | (with_reducible exact LeO.none _)
      | (with_reducible refine LeO.ite ?_ ?_)
      | (with_reducible refine LeO.bind ?_ (fun _ => ?_))
      | exact ih0 _ _ _
      | exact LeO.none _
      | refine LeO.ite ?_ ?_
      | refine LeO.bind ?_ (fun _ => ?_)
set_option maxHeartbeats 8000000 in
set_option maxRecDepth 100000 in
theorem standstillref07_Same.calls (k : Nat) (A0 : Option Addr) (c0 : Nat) (l0 : List Int) (A1 : Option Addr) (c1 : Nat) (l1 : List Int) (r : Bool) (w : World) (hr0 : Kd.C (Kd.int .i64) w A0 l0.length l0) (hc0 : l0.length ≤ c0) (hr1 : Kd.C (Kd.int .i64) w A1 l1.length l1) (hc1 : l1.length ≤ c1) (h : standstillref07_Same.f k l0 l1 = some r) :
    Calls Try.prog 10 #[.slice A0 l0.length c0, .slice A1 l1.length c1] w fun e w' => e = .returned (.bool r) ∧ Drawn0 w w' := by
  have HR0 := Aside0.mk hr0
  have HC0 := Aside0.mk hc0
  clear hr0 hc0
  have HR1 := Aside0.mk hr1
  have HC1 := Aside0.mk hc1
  clear hr1 hc1
  have H : (if (l0.length : Int) = (l1.length : Int) then (standstillref07_Same.l0 k l0 l1 0) else (some false)) = some r := h
  clear h
  by_cases c3 : (l0.length : Int) = (l1.length : Int)
  · rw [if_pos c3] at H
    have c3b0 : ((l0.length : Int) == (l1.length : Int)) = true := beq_iff_eq.mpr c3
    have c3b1 : ((l0.length : Int) != (l1.length : Int)) = false := bne_eq_false_iff_eq.mpr c3
    have c3b2 : (l0.length == l1.length) = true := by first | simpa using c3 | (simp at c3 ⊢; omega)
    clear c3
    have H' := Aside0.mk H
    clear H
    go_enter Try.func10, Try.ntmps10
    go_wp2
    repeat (go_quiet (fail); try go_wp2)
    go_loopg [5] k (fun kq v5 w' => ∃ (x5_1 : Int), v5 = .int .i64 x5_1 ∧ Aside0 (standstillref07_Same.l0 kq l0 l1 x5_1 = some r) ∧ Aside0 (kq ≤ k) ∧ Drawn0 w w')
    case atStart => exact ⟨(0), (by first | rfl | (simp; done) | (simp [*]; done)), H', ⟨Nat.le_refl _⟩, by repeat (first | exact Drawn0.refl _ | apply Drawn0.step)⟩
    case round =>
      clear H'
      try clear c1
      try clear p2
      try clear c3
      try clear c3b0
      try clear c3b1
      try clear c3b2
      obtain ⟨x5_1, rfl, HA, HK1, ⟨m1, rfl⟩⟩ := hrel
      cases gk with
      | zero => exact absurd HA.out (by simp [standstillref07_Same.l0])
      | succ k1 =>
        have H := HA.out
        clear HA
        simp only [standstillref07_Same.l0] at H
        by_cases c4 : x5_1 < (l0.length : Int)
        · rw [if_pos c4] at H
          have c4b0 : decide (x5_1 < (l0.length : Int)) = true := decide_eq_true c4
          clear c4
          by_cases c5 : 0 ≤ x5_1
          · rw [if_pos c5] at H
            have c5b0 : decide (0 ≤ x5_1) = true := decide_eq_true c5
            clear c5
            by_cases c6 : x5_1 < (l1.length : Int)
            · rw [if_pos c6] at H
              have c6b0 : decide (x5_1 < (l1.length : Int)) = true := decide_eq_true c6
              clear c6
              by_cases c7 : (rd l0 x5_1) = (rd l1 x5_1)
              · rw [if_pos c7] at H
                have c7b0 : ((rd l0 x5_1) == (rd l1 x5_1)) = true := beq_iff_eq.mpr c7
                have c7b1 : ((rd l0 x5_1) != (rd l1 x5_1)) = false := bne_eq_false_iff_eq.mpr c7
                clear c7
                have H' := Aside0.mk H
                clear H
                have p126 : 0 ≤ (x5_1 : Int) := of_decide_eq_true (by first | (with_reducible assumption) | assumption)
                have q126 : x5_1 < (l0.length : Int) := of_decide_eq_true (by first | (with_reducible assumption) | assumption)
                obtain ⟨ad126, e126, hx126_0⟩ := Kd.at_int HR0.out x5_1 p126 q126
                cases e126
                replace p126 := eq_true p126
                replace q126 := eq_true q126
                have p127 : 0 ≤ (x5_1 : Int) := of_decide_eq_true (by first | (with_reducible assumption) | assumption)
                have q127 : x5_1 < (l1.length : Int) := of_decide_eq_true (by first | (with_reducible assumption) | assumption)
                obtain ⟨ad127, e127, hx127_0⟩ := Kd.at_int HR1.out x5_1 p127 q127
                cases e127
                replace p127 := eq_true p127
                replace q127 := eq_true q127
                go_wp2
                repeat (go_quiet (fail); try go_wp2)
                go_roundg k1
                case measure => have := HK1.out; omega
                case rel => exact ⟨(wrap64 (x5_1 + 1)), (by first | rfl | (simp; done) | (simp [*]; done)), H', ⟨by have := HK1.out; omega⟩, by repeat (first | exact Drawn0.refl _ | apply Drawn0.step)⟩
              · rw [if_neg c7] at H
                have c7b0 : ((rd l0 x5_1) == (rd l1 x5_1)) = false := beq_eq_false_iff_ne.mpr c7
                have c7b1 : ((rd l0 x5_1) != (rd l1 x5_1)) = true := bne_iff_ne.mpr c7
                obtain rfl := Option.some.inj H
                have p126 : 0 ≤ (x5_1 : Int) := of_decide_eq_true (by first | (with_reducible assumption) | assumption)
                have q126 : x5_1 < (l0.length : Int) := of_decide_eq_true (by first | (with_reducible assumption) | assumption)
                obtain ⟨ad126, e126, hx126_0⟩ := Kd.at_int HR0.out x5_1 p126 q126
                cases e126
                replace p126 := eq_true p126
                replace q126 := eq_true q126
                have p127 : 0 ≤ (x5_1 : Int) := of_decide_eq_true (by first | (with_reducible assumption) | assumption)
                have q127 : x5_1 < (l1.length : Int) := of_decide_eq_true (by first | (with_reducible assumption) | assumption)
                obtain ⟨ad127, e127, hx127_0⟩ := Kd.at_int HR1.out x5_1 p127 q127
                cases e127
                replace p127 := eq_true p127
                replace q127 := eq_true q127
                go_wp2
                repeat (go_quiet (fail); try go_wp2)
                go_ret
                exact ⟨by first | rfl | (simp; done) | (simp [*]; done), by repeat (first | exact Drawn0.refl _ | apply Drawn0.step)⟩
            · rw [if_neg c6] at H
              exact absurd H (by simp)
          · rw [if_neg c5] at H
            exact absurd H (by simp)
        · rw [if_neg c4] at H
          have c4b0 : decide (x5_1 < (l0.length : Int)) = false := decide_eq_false c4
          clear c4
          obtain rfl := Option.some.inj H
          go_wp2
          repeat (go_quiet (fail); try go_wp2)
          go_ret
          exact ⟨by first | rfl | (simp; done) | (simp [*]; done), by repeat (first | exact Drawn0.refl _ | apply Drawn0.step)⟩
  · rw [if_neg c3] at H
    have c3b0 : ((l0.length : Int) == (l1.length : Int)) = false := beq_eq_false_iff_ne.mpr c3
    have c3b1 : ((l0.length : Int) != (l1.length : Int)) = true := bne_iff_ne.mpr c3
    have c3b2 : (l0.length == l1.length) = false := by first | simpa using c3 | (simp at c3 ⊢; omega)
    obtain rfl := Option.some.inj H
    go_enter Try.func10, Try.ntmps10
    go_wp2
    repeat (go_quiet (fail); try go_wp2)
    go_ret
    exact ⟨by first | rfl | (simp; done) | (simp [*]; done), by repeat (first | exact Drawn0.refl _ | apply Drawn0.step)⟩

/-! ### standstilllaw07_three: function 20 -/
def standstilllaw07_three.f  : Option (Int × (List (List Int)) × List Bool) := some (2, (([(([1, 2] : List Int)), (([0] : List Int)), (([0, 0, 0] : List Int))] : List (List Int))), (([false, false, false] : List Bool)))
set_option maxHeartbeats 8000000 in
set_option maxRecDepth 100000 in
theorem standstilllaw07_three.calls  (r1 : Int) (r2 : List (List Int)) (r3 : List Bool) (w : World) (h : standstilllaw07_three.f  = some (r1, r2, r3)) :
    Calls Try.prog 20 #[] w fun e w' => ∃ v1_ v2_ : Value, e = .returned (.agg #[.int .i64 r1, v1_, v2_]) ∧ Kd.N (Kd.slice 3 (Kd.int .i64)) 26 w' w.heap.size (fun k_ => (w.heap.size ≤ k_) ∧ some k_ ≠ (v2_ : Value).ownBlock) v1_ r2 ∧ Kd.R Kd.bool 4 w' w.heap.size (fun k_ => (w.heap.size ≤ k_)) v2_ r3 ∧ Below w.heap.size w w' := by
  have hu25 := Try.underlying25
  have HB := Aside0.mk (Below.refl w.heap.size w)
  have H : (some (2, (([(([1, 2] : List Int)), (([0] : List Int)), (([0, 0, 0] : List Int))] : List (List Int))), (([false, false, false] : List Bool)))) = some (r1, r2, r3) := h
  clear h
  obtain ⟨y129, hy129⟩ : ∃ y_ : List Int, y_ = (([1, 2] : List Int)) := ⟨_, rfl⟩
  replace H : (some (2, (([y129, (([0] : List Int)), (([0, 0, 0] : List Int))] : List (List Int))), (([false, false, false] : List Bool)))) = some (r1, r2, r3) := by first | (rw [hy129]; with_reducible exact H) | (have H2_ := (Option.bind_some _ _).symm.trans H; rw [hy129]; with_reducible exact H2_) | (have H2_ := (Option.bind_some _ _).symm.trans H; with_reducible exact H2_) | with_reducible exact H | (rw [hy129]; exact H) | exact H
  have Ny129 := Aside0.mk hy129
  clear hy129
  obtain ⟨y132, hy132⟩ : ∃ y_ : List Int, y_ = (([0] : List Int)) := ⟨_, rfl⟩
  replace H : (some (2, (([y129, y132, (([0, 0, 0] : List Int))] : List (List Int))), (([false, false, false] : List Bool)))) = some (r1, r2, r3) := by first | (rw [hy132]; with_reducible exact H) | (have H2_ := (Option.bind_some _ _).symm.trans H; rw [hy132]; with_reducible exact H2_) | (have H2_ := (Option.bind_some _ _).symm.trans H; with_reducible exact H2_) | with_reducible exact H | (rw [hy132]; exact H) | exact H
  have Ny132 := Aside0.mk hy132
  clear hy132
  obtain ⟨y135, hy135⟩ : ∃ y_ : List Int, y_ = (([0, 0, 0] : List Int)) := ⟨_, rfl⟩
  replace H : (some (2, (([y129, y132, y135] : List (List Int))), (([false, false, false] : List Bool)))) = some (r1, r2, r3) := by first | (rw [hy135]; with_reducible exact H) | (have H2_ := (Option.bind_some _ _).symm.trans H; rw [hy135]; with_reducible exact H2_) | (have H2_ := (Option.bind_some _ _).symm.trans H; with_reducible exact H2_) | with_reducible exact H | (rw [hy135]; exact H) | exact H
  have Ny135 := Aside0.mk hy135
  clear hy135
  obtain ⟨y138, hy138⟩ : ∃ y_ : List (List Int), y_ = (([y129, y132, y135] : List (List Int))) := ⟨_, rfl⟩
  replace H : (some (2, y138, (([false, false, false] : List Bool)))) = some (r1, r2, r3) := by first | (rw [hy138]; with_reducible exact H) | (have H2_ := (Option.bind_some _ _).symm.trans H; rw [hy138]; with_reducible exact H2_) | (have H2_ := (Option.bind_some _ _).symm.trans H; with_reducible exact H2_) | with_reducible exact H | (rw [hy138]; exact H) | exact H
  have Ny138 := Aside0.mk hy138
  clear hy138
  obtain ⟨y141, hy141⟩ : ∃ y_ : List Bool, y_ = (([false, false, false] : List Bool)) := ⟨_, rfl⟩
  replace H : (some (2, y138, y141)) = some (r1, r2, r3) := by first | (rw [hy141]; with_reducible exact H) | (have H2_ := (Option.bind_some _ _).symm.trans H; rw [hy141]; with_reducible exact H2_) | (have H2_ := (Option.bind_some _ _).symm.trans H; with_reducible exact H2_) | with_reducible exact H | (rw [hy141]; exact H) | exact H
  have Ny141 := Aside0.mk hy141
  clear hy141
  simp only [Option.some.injEq, Prod.mk.injEq] at H
  obtain ⟨rfl, rfl, rfl⟩ := H
  go_enter Try.func20, Try.ntmps20
  go_wp2_with (first | ((with_reducible refine gate_dst (N := 0) rfl ?_); refine box_event ?hg (N := 0) ?hd (cs := #[.int .i64 0, .slice none 0 0, .slice none 0 0]) (t := 25) ?hr ?_; (case hd => rfl); (case hg => rfl); (case hr => first | (go_simp; done) | (go_simp; rfl)); intro gb128 hg w1 hbox hb; have n0_ := Aside0.mk (below_step (by repeat (first | (with_reducible first | exact HB.out | apply below_alloc | apply pw_below_drewN | apply below_drew1) | exact HB.out)) hb); have n1_ := Aside0.mk (hbox); have n2_ := Aside0.mk ((by rw [hg]; exact (below_size (by repeat (first | (with_reducible first | exact HB.out | apply below_alloc | apply pw_below_drewN | apply below_drew1) | exact HB.out))) : w.heap.size ≤ gb128)); have n3_ := Aside0.mk ((by rw [hg]; exact (below_size (by repeat (first | (with_reducible first | exact HB.out | apply below_alloc | apply pw_below_drewN | apply below_drew1) | exact HB.out))) : w.heap.size ≤ gb128)); clear HB; have HB := n0_; have BK128 := n1_; have GW128 := n2_; have GE128 := n3_; clear n0_ n1_ n2_ n3_; clear hb hbox hg) | ((with_reducible refine gate_dst (N := 1) rfl ?_); refine Kd.R_lit (Kd.int .i64) _ 3 ?hg (N := 1) ?hd (xs := ([1, 2] : List Int)) (inner := [.int .i64 1, .int .i64 2]) (ok := fun _ => True) (okp := fun _ => True) ?hr ?hp (fun _ hk => hk) trivial (Below.refl _ _) (Nat.le_refl _) (by simp) ?_; (case hd => rfl); (case hg => rfl); (case hr => first | (go_simp; done) | (go_simp; rfl)); (case hp => exact (Reps.one (show Kd.M (Kd.int .i64) _ _ _ 1 [.int .i64 1] from rfl) (Reps.one (show Kd.M (Kd.int .i64) _ _ _ 2 [.int .i64 2] from rfl) (Reps.none _ _)))); intro v130 w2 ho3 hb hg_ hnew_; clear hg_ hnew_; (first | rw [← Ny129.out] at ho3 | (simp only [Int.reduceToNat] at ho3; rw [← Ny129.out] at ho3)); have n0_ := Aside0.mk (Kd.R_lower (Kd.R_newM (M := fun k_ => (w.heap.size ≤ k_)) ho3 (below_size (by repeat (first | (with_reducible first | exact HB.out | apply below_alloc | apply pw_below_drewN | apply below_drew1 | refine below_set ?_ GE128.out) | exact HB.out))) (fun k_ h_ => h_)) (below_size (by repeat (first | (with_reducible first | exact HB.out | apply below_alloc | apply pw_below_drewN | apply below_drew1 | refine below_set ?_ GE128.out) | exact HB.out)))); have n1_ := Aside0.mk (blk_below (g := gb128) (o := .cells #[.int .i64 0, .slice none 0 0, .slice none 0 0] 25 (0, 0)) (by (with_reducible repeat (first | refine blk_drewN ?_ _ | refine blk_drew ?_ | refine blk_alloc ?_ _)); exact BK128.out) hb); have n2_ := Aside0.mk (below_step (by repeat (first | (with_reducible first | exact HB.out | apply below_alloc | apply pw_below_drewN | apply below_drew1 | refine below_set ?_ GE128.out) | exact HB.out)) hb); clear BK128; clear HB; have HO131 := n0_; have BK128 := n1_; have HB := n2_; clear n0_ n1_ n2_; clear hb ho3) | ((with_reducible refine gate_dst (N := 2) rfl ?_); refine Kd.R_lit (Kd.int .i64) _ 3 ?hg (N := 2) ?hd (xs := ([0] : List Int)) (inner := [.int .i64 0]) (ok := fun _ => True) (okp := fun _ => True) ?hr ?hp (fun _ hk => hk) trivial (Below.refl _ _) (Nat.le_refl _) (by simp) ?_; (case hd => rfl); (case hg => rfl); (case hr => first | (go_simp; done) | (go_simp; rfl)); (case hp => exact (Reps.one (show Kd.M (Kd.int .i64) _ _ _ 0 [.int .i64 0] from rfl) (Reps.none _ _))); intro v133 w4 ho5 hb hg_ hnew_; clear hg_ hnew_; (first | rw [← Ny132.out] at ho5 | (simp only [Int.reduceToNat] at ho5; rw [← Ny132.out] at ho5)); have n0_ := Aside0.mk (Kd.R_elder' (by (with_reducible repeat (first | apply Kd.R_alloc | apply Kd.R_drewN | apply Kd.R_drew)); exact HO131.out) (Kd.R_base ho5) hb); have n1_ := Aside0.mk (Kd.R_lower (Kd.R_new' (Kd.R_newM (M := fun k_ => (w.heap.size ≤ k_)) ho5 (below_size (by repeat (first | (with_reducible first | exact HB.out | apply below_alloc | apply pw_below_drewN | apply below_drew1 | refine below_set ?_ GE128.out) | exact HB.out))) (fun k_ h_ => h_)) (Kd.R_lt (by (with_reducible repeat (first | apply Kd.R_alloc | apply Kd.R_drewN | apply Kd.R_drew)); exact HO131.out))) (below_size (by repeat (first | (with_reducible first | exact HB.out | apply below_alloc | apply pw_below_drewN | apply below_drew1 | refine below_set ?_ GE128.out) | exact HB.out)))); have n2_ := Aside0.mk (blk_below (g := gb128) (o := .cells #[.int .i64 0, .slice none 0 0, .slice none 0 0] 25 (0, 0)) (by (with_reducible repeat (first | refine blk_drewN ?_ _ | refine blk_drew ?_ | refine blk_alloc ?_ _)); exact BK128.out) hb); have n3_ := Aside0.mk (below_step (by repeat (first | (with_reducible first | exact HB.out | apply below_alloc | apply pw_below_drewN | apply below_drew1 | refine below_set ?_ GE128.out) | exact HB.out)) hb); clear HO131; clear BK128; clear HB; have HO131 := n0_; have HO134 := n1_; have BK128 := n2_; have HB := n3_; clear n0_ n1_ n2_ n3_; clear hb ho5) | ((with_reducible refine gate_dst (N := 3) rfl ?_); refine Kd.R_lit (Kd.int .i64) _ 3 ?hg (N := 3) ?hd (xs := ([0, 0, 0] : List Int)) (inner := [.int .i64 0, .int .i64 0, .int .i64 0]) (ok := fun _ => True) (okp := fun _ => True) ?hr ?hp (fun _ hk => hk) trivial (Below.refl _ _) (Nat.le_refl _) (by simp) ?_; (case hd => rfl); (case hg => rfl); (case hr => first | (go_simp; done) | (go_simp; rfl)); (case hp => exact (Reps.one (show Kd.M (Kd.int .i64) _ _ _ 0 [.int .i64 0] from rfl) (Reps.one (show Kd.M (Kd.int .i64) _ _ _ 0 [.int .i64 0] from rfl) (Reps.one (show Kd.M (Kd.int .i64) _ _ _ 0 [.int .i64 0] from rfl) (Reps.none _ _))))); intro v136 w6 ho7 hb hg_ hnew_; clear hg_ hnew_; (first | rw [← Ny135.out] at ho7 | (simp only [Int.reduceToNat] at ho7; rw [← Ny135.out] at ho7)); have n0_ := Aside0.mk (Kd.R_elder' (by (with_reducible repeat (first | apply Kd.R_alloc | apply Kd.R_drewN | apply Kd.R_drew)); exact HO131.out) (Kd.R_base ho7) hb); have n1_ := Aside0.mk (Kd.R_elder' (by (with_reducible repeat (first | apply Kd.R_alloc | apply Kd.R_drewN | apply Kd.R_drew)); exact HO134.out) (Kd.R_base ho7) hb); have n2_ := Aside0.mk (Kd.R_lower (Kd.R_new' (Kd.R_new' (Kd.R_newM (M := fun k_ => (w.heap.size ≤ k_)) ho7 (below_size (by repeat (first | (with_reducible first | exact HB.out | apply below_alloc | apply pw_below_drewN | apply below_drew1 | refine below_set ?_ GE128.out) | exact HB.out))) (fun k_ h_ => h_)) (Kd.R_lt (by (with_reducible repeat (first | apply Kd.R_alloc | apply Kd.R_drewN | apply Kd.R_drew)); exact HO131.out))) (Kd.R_lt (by (with_reducible repeat (first | apply Kd.R_alloc | apply Kd.R_drewN | apply Kd.R_drew)); exact HO134.out))) (below_size (by repeat (first | (with_reducible first | exact HB.out | apply below_alloc | apply pw_below_drewN | apply below_drew1 | refine below_set ?_ GE128.out) | exact HB.out)))); have n3_ := Aside0.mk (blk_below (g := gb128) (o := .cells #[.int .i64 0, .slice none 0 0, .slice none 0 0] 25 (0, 0)) (by (with_reducible repeat (first | refine blk_drewN ?_ _ | refine blk_drew ?_ | refine blk_alloc ?_ _)); exact BK128.out) hb); have n4_ := Aside0.mk (below_step (by repeat (first | (with_reducible first | exact HB.out | apply below_alloc | apply pw_below_drewN | apply below_drew1 | refine below_set ?_ GE128.out) | exact HB.out)) hb); clear HO131; clear HO134; clear BK128; clear HB; have HO131 := n0_; have HO134 := n1_; have HO137 := n2_; have BK128 := n3_; have HB := n4_; clear n0_ n1_ n2_ n3_ n4_; clear hb ho7; obtain ⟨Ao8, co8, eo8⟩ := Kd.R_slice HO131.out; subst eo8; obtain ⟨Ao9, co9, eo9⟩ := Kd.R_slice HO134.out; subst eo9; obtain ⟨Ao10, co10, eo10⟩ := Kd.R_slice HO137.out; subst eo10) | ((with_reducible refine gate_dst (N := 4) rfl ?_); refine Kd.N_lit (Kd.slice 3 (Kd.int .i64)) _ 26 ?hg (N' := 4) ?hd (xs := ([y129, y132, y135] : List (List Int))) (inner := [.slice Ao8 y129.length co8, .slice Ao9 y132.length co9, .slice Ao10 y135.length co10]) (ok := (fun k_ => (w.heap.size ≤ k_) ∧ k_ ≠ gb128)) (okp := (fun k_ => (w.heap.size ≤ k_) ∧ k_ ≠ gb128)) ?hr ?hp (fun _ hk => hk) ((show ∀ k_, w6.heap.size ≤ k_ → (fun k_ => (w.heap.size ≤ k_) ∧ k_ ≠ gb128) k_ from fun k_ hk => ⟨(Nat.le_trans (below_size (by repeat (first | (with_reducible first | exact HB.out | apply below_alloc | apply pw_below_drewN | apply below_drew1 | refine below_set ?_ GE128.out) | exact HB.out))) hk), Kd.freshB (g := gb128) (o := .cells #[.int .i64 0, .slice none 0 0, .slice none 0 0] 25 (0, 0)) (by (with_reducible repeat (first | refine blk_drewN ?_ _ | refine blk_drew ?_ | refine blk_alloc ?_ _)); exact BK128.out) k_ hk⟩) _ (Nat.le_refl _)) (Below.refl _ _) (Nat.le_refl _) (by simp) ?_; (case hd => rfl); (case hg => rfl); (case hr => first | (go_simp; done) | (go_simp; rfl)); (case hp => exact (Reps.one (show Kd.FK (Kd.slice 3 (Kd.int .i64)) _ _ y129 [.slice Ao8 y129.length co8] from (Kd.FK_slice_mk (Kd.R_reads' (Kd.R_mono (ok' := (fun k_ => (w.heap.size ≤ k_) ∧ k_ ≠ gb128)) (Kd.R_types (HO131.out) BK128.out (by decide)) (fun k_ hk => ⟨hk.1.1.1.1, hk.2⟩))).2.1 (Kd.R_F (Kd.R_mono (ok' := (fun k_ => (w.heap.size ≤ k_) ∧ k_ ≠ gb128)) (Kd.R_types (HO131.out) BK128.out (by decide)) (fun k_ hk => ⟨hk.1.1.1.1, hk.2⟩))))) (Reps.one (show Kd.FK (Kd.slice 3 (Kd.int .i64)) _ _ y132 [.slice Ao9 y132.length co9] from (Kd.FK_slice_mk (Kd.R_reads' (Kd.R_mono (ok' := (fun k_ => (w.heap.size ≤ k_) ∧ k_ ≠ gb128)) (Kd.R_types (HO134.out) BK128.out (by decide)) (fun k_ hk => ⟨hk.1.1.1.1, hk.2⟩))).2.1 (Kd.R_F (Kd.R_mono (ok' := (fun k_ => (w.heap.size ≤ k_) ∧ k_ ≠ gb128)) (Kd.R_types (HO134.out) BK128.out (by decide)) (fun k_ hk => ⟨hk.1.1.1.1, hk.2⟩))))) (Reps.one (show Kd.FK (Kd.slice 3 (Kd.int .i64)) _ _ y135 [.slice Ao10 y135.length co10] from (Kd.FK_slice_mk (Kd.R_reads' (Kd.R_mono (ok' := (fun k_ => (w.heap.size ≤ k_) ∧ k_ ≠ gb128)) (Kd.R_types (HO137.out) BK128.out (by decide)) (fun k_ hk => ⟨hk.1.1.1.1, hk.2⟩))).2.1 (Kd.R_F (Kd.R_mono (ok' := (fun k_ => (w.heap.size ≤ k_) ∧ k_ ≠ gb128)) (Kd.R_types (HO137.out) BK128.out (by decide)) (fun k_ hk => ⟨hk.1.1.1.1, hk.2⟩))))) (Reps.none _ _))))); intro v139 w11 ho12 hb hg_ hnew_; clear hg_ hnew_; (first | rw [← Ny138.out] at ho12 | (simp only [Int.reduceToNat] at ho12; rw [← Ny138.out] at ho12)); have n0_ := Aside0.mk (Kd.N_lower ho12 (below_size (by repeat (first | (with_reducible first | exact HB.out | apply below_alloc | apply pw_below_drewN | apply below_drew1 | refine below_set ?_ GE128.out) | exact HB.out)))); have n1_ := Aside0.mk (blk_below (g := gb128) (o := .cells #[.int .i64 0, .slice none 0 0, .slice none 0 0] 25 (0, 0)) (by (with_reducible repeat (first | refine blk_drewN ?_ _ | refine blk_drew ?_ | refine blk_alloc ?_ _)); exact BK128.out) hb); have n2_ := Aside0.mk (below_step (by repeat (first | (with_reducible first | exact HB.out | apply below_alloc | apply pw_below_drewN | apply below_drew1 | refine below_set ?_ GE128.out) | exact HB.out)) hb); clear BK128; clear HB; clear HO131; clear HO134; clear HO137; have HO140 := n0_; have BK128 := n1_; have HB := n2_; clear n0_ n1_ n2_; clear hb ho12) | ((with_reducible refine gate_dst (N := 5) rfl ?_); refine Kd.R_lit Kd.bool _ 4 ?hg (N := 5) ?hd (xs := ([false, false, false] : List Bool)) (inner := [.bool false, .bool false, .bool false]) (ok := fun _ => True) (okp := fun _ => True) ?hr ?hp (fun _ hk => hk) trivial (Below.refl _ _) (Nat.le_refl _) (by simp) ?_; (case hd => rfl); (case hg => rfl); (case hr => first | (go_simp; done) | (go_simp; rfl)); (case hp => exact (Reps.one (show Kd.M Kd.bool _ _ _ false [.bool false] from rfl) (Reps.one (show Kd.M Kd.bool _ _ _ false [.bool false] from rfl) (Reps.one (show Kd.M Kd.bool _ _ _ false [.bool false] from rfl) (Reps.none _ _))))); intro v142 w13 ho14 hb hg_ hnew_; clear hg_ hnew_; (first | rw [← Ny141.out] at ho14 | (simp only [Int.reduceToNat] at ho14; rw [← Ny141.out] at ho14)); have n0_ := Aside0.mk (Kd.N_elder' (by (with_reducible repeat (first | apply Kd.N_alloc | apply Kd.N_drewN | apply Kd.N_drew)); exact HO140.out) (Kd.R_base ho14) hb); have n1_ := Aside0.mk (Kd.R_lower (Kd.R_newM (M := fun k_ => (w.heap.size ≤ k_)) ho14 (below_size (by repeat (first | (with_reducible first | exact HB.out | apply below_alloc | apply pw_below_drewN | apply below_drew1 | refine below_set ?_ GE128.out) | exact HB.out))) (fun k_ h_ => h_)) (below_size (by repeat (first | (with_reducible first | exact HB.out | apply below_alloc | apply pw_below_drewN | apply below_drew1 | refine below_set ?_ GE128.out) | exact HB.out)))); have n2_ := Aside0.mk (blk_below (g := gb128) (o := .cells #[.int .i64 0, .slice none 0 0, .slice none 0 0] 25 (0, 0)) (by (with_reducible repeat (first | refine blk_drewN ?_ _ | refine blk_drew ?_ | refine blk_alloc ?_ _)); exact BK128.out) hb); have n3_ := Aside0.mk (below_step (by repeat (first | (with_reducible first | exact HB.out | apply below_alloc | apply pw_below_drewN | apply below_drew1 | refine below_set ?_ GE128.out) | exact HB.out)) hb); clear HO140; clear BK128; clear HB; have HO140 := n0_; have HO143 := n1_; have BK128 := n2_; have HB := n3_; clear n0_ n1_ n2_ n3_; clear hb ho14; obtain ⟨Ao15, co15, eo15⟩ := Kd.R_slice HO143.out; subst eo15; obtain ⟨Ao16, co16, eo16⟩ := Kd.N_slice HO140.out; subst eo16; have hcz17_0 : w13.cell? ⟨gb128, 0, none⟩ = some (.int .i64 0) := (blk_cell BK128.out 0).trans rfl; have hcz17_1 : w13.cell? ⟨gb128, 1, none⟩ = some (.slice none 0 0) := (blk_cell BK128.out 1).trans rfl; have hcz17_2 : w13.cell? ⟨gb128, 2, none⟩ = some (.slice none 0 0) := (blk_cell BK128.out 2).trans rfl; have hfz17_0 := blk_frozen BK128.out 0; have hfz17_1 := blk_frozen BK128.out 1; have hfz17_2 := blk_frozen BK128.out 2))
  refine bodyPost_ret (results_cell_row rfl _ _ gb128 25 #[.int .i64 2, .slice Ao16 y138.length co16, .slice Ao15 y141.length co15] (0, 0) _ rfl (by (with_reducible repeat (first | refine blk_drewN ?_ _ | refine blk_drew ?_ | refine blk_alloc ?_ _)); refine blk_put (cs := #[.int .i64 2, .slice Ao16 y138.length co16, .slice none 0 0]) ?_ 2 _ rfl; (with_reducible repeat (first | refine blk_drewN ?_ _ | refine blk_drew ?_ | refine blk_alloc ?_ _)); refine blk_put (cs := #[.int .i64 2, .slice none 0 0, .slice none 0 0]) ?_ 1 _ rfl; (with_reducible repeat (first | refine blk_drewN ?_ _ | refine blk_drew ?_ | refine blk_alloc ?_ _)); refine blk_put (cs := #[.int .i64 0, .slice none 0 0, .slice none 0 0]) ?_ 0 _ rfl; (with_reducible repeat (first | refine blk_drewN ?_ _ | refine blk_drew ?_ | refine blk_alloc ?_ _)); exact BK128.out) Try.underlying25 rfl (by kernel_rfl)) rfl ?_
  exact ⟨_, _, by first | rfl | (simp [errW_none, errW_some] <;> rfl) | (simp [*, errW_none, errW_some] <;> rfl), by (with_reducible repeat (first | apply Kd.N_alloc | apply Kd.N_drewN | apply Kd.N_drew)); exact Kd.N_mono (Kd.N_far (p := ⟨gb128, 2, none⟩) (Kd.N_far (p := ⟨gb128, 1, none⟩) (Kd.N_far (p := ⟨gb128, 0, none⟩) (Kd.N_mono HO140.out (fun k_ hk => (⟨hk, hk.1.2⟩ : _ ∧ k_ ≠ gb128))) (fun _ hk => hk.2) (.int .i64 2)) (fun _ hk => hk.2) (.slice Ao16 y138.length co16)) (fun _ hk => hk.2) (.slice Ao15 y141.length co15)) (fun _ hk => ⟨hk.1.1.1, hk.1.2⟩), by (with_reducible repeat (first | apply Kd.R_alloc | apply Kd.R_drewN | apply Kd.R_drew)); exact Kd.R_mono (Kd.R_far (p := ⟨gb128, 2, none⟩) (Kd.R_far (p := ⟨gb128, 1, none⟩) (Kd.R_far (p := ⟨gb128, 0, none⟩) (Kd.R_types HO143.out BK128.out (by decide)) (fun _ hk => hk.2) (.int .i64 2)) (fun _ hk => hk.2) (.slice Ao16 y138.length co16)) (fun _ hk => hk.2) (.slice Ao15 y141.length co15)) (fun _ hk => hk.1.1), by repeat (first | (with_reducible first | exact HB.out | apply below_alloc | apply pw_below_drewN | apply below_drew1 | refine below_set ?_ GE128.out) | exact HB.out)⟩

end Go.Proofs.Ytokhlcljpjfpmaa.GN
