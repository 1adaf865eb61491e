/- The functions of one seat as Lean functions, each with its contract: the call of the Go function returns what the Lean function answers. Written by a program of this session out of the translation; contracts made by hand are laid between. -/
import Derived.Test.YtpemcbjdlpajlaaG1x0
namespace Go.Proofs.Ytpemcbjdlpajlaa.G1
open Go.RowKit Go.Proofs.YtpemcbjdlpajlaaW.PrintWords Go.Proofs.YtpemcbjdlpajlaaW.PrintLast Go.Proofs.YtpemcbjdlpajlaaW.PrintMore
attribute [local go_sem] max2_int min2_int max_two min_two max_three min_three max_four min_four   -- for this text's walks alone
set_option linter.unusedVariables false
set_option linter.unusedSimpArgs false

/-! ### api_Run: function 36 -/
def api_Run.f (l0 : List (S62)) : Option ((List (S62))) := (some (([] : List (S62)) : List (S62))).bind fun y150 => (if y150.length + l0.length < 8796093022208 then (some (y150 ++ l0)) else (none))
set_option maxHeartbeats 8000000 in
set_option maxRecDepth 100000 in
theorem api_Run.calls (A0 : Option Addr) (c0 : Nat) (l0 : List (S62)) (r : List (S62)) (w : World) (hr0 : Kd.C k62 w A0 l0.length l0) (hc0 : l0.length ≤ c0) (h : api_Run.f l0 = some r) :
  Calls Try.prog 36 #[.slice A0 l0.length c0] w fun e w' => ∃ v0_ : Value, e = .returned (v0_) ∧ Kd.R k62 62 w' w.heap.size (fun _ => True) v0_ r ∧ Below w.heap.size w w' := by
 cases A0 with
 | none =>
  have he : l0 = [] := by
   cases l0 with
   | nil => rfl
   | cons a t => obtain ⟨ad, e, _⟩ := hr0.2.2 (by simp); cases e
  subst he
  obtain rfl : r = [] := by simpa [api_Run.f] using h.symm
  have hq : ∀ W n c, (binOp .eql 25 (.slice none n c) (.slice none 0 0)).run Try.prog W = .ok (.bool true) W := fun W n c => Lib.run_eql_slice_nil W 25 62 none n c 0 0 Try.underlying25
  clear h hr0 hc0
  go_enter Try.func36, Try.ntmps36
  go_wp2
  go_ret
  exact ⟨_, rfl, Kd.R_nil _ _ _ _ _, Below.refl _ _⟩
 | some ad0_ =>
  have HR0 := Aside0.mk hr0
  have HC0 := Aside0.mk hc0
  clear hr0 hc0
  have HB := Aside0.mk (Below.refl w.heap.size w)
  have H : ((some (([] : List (S62)) : List (S62))).bind fun y150 => (if y150.length + l0.length < 8796093022208 then (some (y150 ++ l0)) else (none))) = some r := h
  clear h
  obtain ⟨y150, hy150⟩ : ∃ y_ : List (S62), y_ = (([] : List (S62))) := ⟨_, rfl⟩
  replace H : (if y150.length + l0.length < 8796093022208 then (some (y150 ++ l0)) else (none)) = some r := by first | (rw [hy150]; with_reducible exact H) | (have H2_ := (Option.bind_some _ _).symm.trans H; rw [hy150]; with_reducible exact H2_) | (have H2_ := (Option.bind_some _ _).symm.trans H; with_reducible exact H2_) | with_reducible exact H | (rw [hy150]; exact H) | exact H
  have Ny150 := Aside0.mk hy150
  clear hy150
  by_cases c2 : y150.length + l0.length < 8796093022208
  ·
   rw [if_pos c2] at H
   have LMc2 := Aside0.mk c2
   clear c2
   obtain ⟨y153, hy153⟩ : ∃ y_ : List (S62), y_ = (y150 ++ l0) := ⟨_, rfl⟩
   replace H : (some y153) = some r := by first | (rw [hy153]; with_reducible exact H) | (have H2_ := (Option.bind_some _ _).symm.trans H; rw [hy153]; with_reducible exact H2_) | (have H2_ := (Option.bind_some _ _).symm.trans H; with_reducible exact H2_) | with_reducible exact H | (rw [hy153]; exact H) | exact H
   have Ny153 := Aside0.mk hy153
   clear hy153
   obtain rfl := Option.some.inj H
   have hq : ∀ W n c, (binOp .eql 25 (.slice (some ad0_) n c) (.slice none 0 0)).run Try.prog W = .ok (.bool false) W := fun W n c => Lib.run_eql_slice_nil W 25 62 (some ad0_) n c 0 0 Try.underlying25
   go_enter Try.func36, Try.ntmps36
   go_wp2_with (first | ((with_reducible refine gate_dst (N := 5) rfl ?_); refine Kd.R_lit k62 _ 62 ?hg (N := 5) ?hd (xs := ([] : List (S62))) (inner := []) (ok := fun _ => True) (okp := fun _ => True) ?hr ?hp (fun _ hk => hk) trivial (Below.refl _ _) (Nat.le_refl _) (by simp) ?_; (case hd => rfl); (case hg => rfl); (case hr => first | (go_simp; done) | (go_simp; rfl)); (case hp => exact (Reps.none _ _)); intro v151 w3 ho4 hb hg_ hnew_; clear hg_ hnew_; (first | rw [← Ny150.out] at ho4 | (simp only [Int.reduceToNat] at ho4; rw [← Ny150.out] at ho4)); have HO152 := Aside0.mk (Kd.R_lower ho4 (below_size (zB HB))); replace HB := Aside0.mk (below_step (zB HB) hb); clear hb ho4) | ((with_reducible refine gate_builtin (b := .append) (xs := #[.tmp 5, .tmp 6]) rfl ?_); at_builtin; refine Kd.R_append_rows k62 (w0 := w) w.heap.size rfl (.tmp 5) (.tmp 6) 25 62 (.agg #[(.int .i64 0), (.int .i64 0)]) 16 rfl Try.underlying25 info62 rfl (by decide) (by omega) v151 y150 l0 _ _ _ (fun _ => True) (fun _ => False) rfl rfl ?aO ?aR (fun _ _ h => h) (fun _ h => h.elim) ?aF ?aB ?aS ?aL ?_; (case aR => exact zC ((Kd.C_below HR0.out HB.out))); (case aB => exact (zB HB)); (case aF => exact (fun _ _ => trivial)); (case aO => exact (zR HO152)); (case aS => exact (below_size (zB HB))); (case aL => have := LMc2.out; omega); intro v154 w5 ho hb hg hat; rw [← Ny153.out] at ho; have n0_ := Aside0.mk (hb); have n1_ := Aside0.mk (ho); clear HB; clear HO152; have HB := n0_; have HO155 := n1_; clear n0_ n1_; clear ho hb hg hat))
   go_ret
   exact ⟨_, by first | rfl | (simp [errW_none, errW_some] <;> rfl) | (simp [*, errW_none, errW_some] <;> rfl), zR HO155, zB HB⟩
  ·
   rw [if_neg c2] at H
   exact absurd H (by simp)

/-! ### leap_before: function 34 -/
def leap_before.j0 : Nat → Int → Int → List (S62) → Bool → Option ((List (S62)))
 | 0, _, _, _, _ => none
 | k + 1, x0, x1, x2, x8 => if x8 = true then (some x2) else (if (x2.length : Int) > 0 then (if 0 < (x2.length : Int) then (if ((rd_T62 x2 0).f0) = x0 then ((api_Run.f x2).bind fun t157 => (if 0 < (t157.length : Int) then (some (t157.set (0 : Int).toNat (⟨(rd_T62 t157 0).f0, wrap64 (((rd_T62 t157 0).f1) + x1)⟩ : S62))) else (none))) else ((some (([(⟨x0, x1⟩ : S62)] : List (S62)) : List (S62))).bind fun y162 => (if y162.length + x2.length < 8796093022208 then (some (y162 ++ x2)) else (none)))) else (none)) else ((some (([(⟨x0, x1⟩ : S62)] : List (S62)) : List (S62))).bind fun y168 => (if y168.length + x2.length < 8796093022208 then (some (y168 ++ x2)) else (none))))
def leap_before.f (k : Nat) (a0 : Int) (a1 : Int) (l2 : List (S62)) : Option ((List (S62))) := if a1 = 0 then (leap_before.j0 k a0 a1 l2 true) else (if a0 = 0 then (leap_before.j0 k a0 a1 l2 ((l2.length : Int) == 0)) else (leap_before.j0 k a0 a1 l2 false))
theorem leap_before.mono_l : ∀ k, (∀ y0 y1 y2 y3, LeO (leap_before.j0 k y0 y1 y2 y3) (leap_before.j0 (k + 1) y0 y1 y2 y3))
 | 0 => fun _ _ _ _ r h => by simp [leap_before.j0] at h
 | k + 1 => by
  have ih0 := leap_before.mono_l k
  ·
   intro y0 y1 y2 y3
   unfold leap_before.j0
   repeat' first
   | (with_reducible exact ih0 _ _ _ _)
   | (with_reducible exact LeO.refl _)
   | (with_reducible exact LeO.none _)
   | (with_reducible refine LeO.ite ?_ ?_)
   | (with_reducible refine LeO.bind ?_ (fun _ => ?_))
   | exact ih0 _ _ _ _
   | exact LeO.none _
   | refine LeO.ite ?_ ?_
   | refine LeO.bind ?_ (fun _ => ?_)
theorem leap_before.mono : ∀ a0 a1 a2 k, LeO (leap_before.f k a0 a1 a2) (leap_before.f (k + 1) a0 a1 a2) := by
 intro a0 a1 a2 k
 have ih0 := leap_before.mono_l k
 unfold leap_before.f
 repeat' first
   | (with_reducible exact ih0 _ _ _ _)
   | (with_reducible exact LeO.refl _)
   | (with_reducible exact LeO.none _)
   | (with_reducible refine LeO.ite ?_ ?_)
   | (with_reducible refine LeO.bind ?_ (fun _ => ?_))
   | exact ih0 _ _ _ _
   | exact LeO.none _
   | refine LeO.ite ?_ ?_
   | refine LeO.bind ?_ (fun _ => ?_)
set_option maxHeartbeats 8000000 in
set_option maxRecDepth 100000 in
theorem leap_before.calls (k : Nat) (a0 : Int) (a1 : Int) (P2_ : Nat → Prop) (A2 : Option Addr) (c2 : Nat) (l2 : List (S62)) (r : List (S62)) (w : World) (hs2 : Kd.V k62 62 w w.heap.size (fun k_ => P2_ k_) (.slice A2 l2.length c2) l2) (h : leap_before.f k a0 a1 l2 = some r) :
  Calls Try.prog 34 #[.int .i64 a0, .int .i64 a1, .slice A2 l2.length c2] w fun e w' => ∃ v0_ : Value, e = .returned (v0_) ∧ Kd.V k62 62 w' w.heap.size (fun k_ => (P2_ k_ ∨ w.heap.size ≤ k_)) v0_ r ∧ Below w.heap.size w w' := by
 have hu62 := Try.underlying62
 have HO2 := Aside0.mk (show Kd.V k62 62 w w.heap.size (fun k_ => (P2_ k_ ∨ w.heap.size ≤ k_)) (.slice A2 l2.length c2) l2 from Kd.V_mono hs2 (fun k_ hk => .inl hk))
 have HB := Aside0.mk (Below.refl w.heap.size w)
 have H : (if a1 = 0 then (leap_before.j0 k a0 a1 l2 true) else (if a0 = 0 then (leap_before.j0 k a0 a1 l2 ((l2.length : Int) == 0)) else (leap_before.j0 k a0 a1 l2 false))) = some r := h
 clear h
 have HC4 := Aside0.mk H
 clear H
 go_enter Try.func34, Try.ntmps34
 go_upto_region 1 with (fail)
 go_cut [8] (fun v8 wc => ∃ (kq : Nat) (x8_3 : Bool), v8 = .bool x8_3 ∧ Aside0 (leap_before.j0 kq a0 a1 l2 x8_3 = some r) ∧ Aside0 (kq ≤ k) ∧ Aside0 (Kd.V k62 62 wc w.heap.size (fun k_ => (P2_ k_ ∨ w.heap.size ≤ k_)) (.slice A2 l2.length c2) l2) ∧ Aside0 (Below w.heap.size w wc))
 case first =>
  have H := HC4.out
  clear HC4
  by_cases c5 : a1 = 0
  ·
   rw [if_pos c5] at H
   have c5b0 : (a1 == 0) = true := beq_iff_eq.mpr c5
   have c5b1 : (a1 != 0) = false := bne_eq_false_iff_eq.mpr c5
   clear c5
   (first | rw [c5b0] | (simp only [i64_w, i32_w]; rw [c5b0]) | skip)
   (try rw [c5b1])
   have H' := Aside0.mk H
   clear H
   go_wp2
   go_meet
   case rel => exact ⟨_, (true), (by first | rfl | (simp; done) | (simp [*]; done)), H', ⟨by first | omega | exact Nat.le_refl _⟩, ⟨zV HO2⟩, ⟨zB HB⟩⟩
  ·
   rw [if_neg c5] at H
   have c5b0 : (a1 == 0) = false := beq_eq_false_iff_ne.mpr c5
   have c5b1 : (a1 != 0) = true := bne_iff_ne.mpr c5
   (first | rw [c5b0] | (simp only [i64_w, i32_w]; rw [c5b0]) | skip)
   (try rw [c5b1])
   by_cases c6 : a0 = 0
   ·
    rw [if_pos c6] at H
    have c6b0 : (a0 == 0) = true := beq_iff_eq.mpr c6
    have c6b1 : (a0 != 0) = false := bne_eq_false_iff_eq.mpr c6
    clear c6
    have H' := Aside0.mk H
    clear H
    go_wp2
    go_meet
    case rel => exact ⟨_, (((l2.length : Int) == 0)), (by first | rfl | (simp; done) | (simp [*]; done)), H', ⟨by first | omega | exact Nat.le_refl _⟩, ⟨zV HO2⟩, ⟨zB HB⟩⟩
   ·
    rw [if_neg c6] at H
    have c6b0 : (a0 == 0) = false := beq_eq_false_iff_ne.mpr c6
    have c6b1 : (a0 != 0) = true := bne_iff_ne.mpr c6
    have H' := Aside0.mk H
    clear H
    go_wp2
    go_meet
    case rel => exact ⟨_, (false), (by first | rfl | (simp; done) | (simp [*]; done)), H', ⟨by first | omega | exact Nat.le_refl _⟩, ⟨zV HO2⟩, ⟨zB HB⟩⟩
 case rest =>
  clear HC4
  try clear c2
  try clear p2
  try clear c3
  try clear c5
  try clear c5b0
  try clear c5b1
  try clear c6
  try clear c6b0
  try clear c6b1
  obtain ⟨kq, x8_3, rfl, HA, HJ3, HO_2, HB⟩ := hcut
  cases kq with
  | zero => exact absurd HA.out (by simp [leap_before.j0])
  | succ kj3 =>
   have H := HA.out
   clear HA
   simp only [leap_before.j0] at H
   by_cases c7 : x8_3 = true
   ·
    subst c7
    have H1 : (some l2) = some r := by rw [if_pos rfl] at H; exact H
    clear H
    have H := H1
    clear H1
    obtain rfl := Option.some.inj H
    go_wp2
    go_ret
    exact ⟨_, by first | rfl | (simp [errW_none, errW_some] <;> rfl) | (simp [*, errW_none, errW_some] <;> rfl), zV HO_2, zB HB⟩
   ·
    replace c7 := Bool.eq_false_iff.mpr c7
    subst c7
    have H1 : (if (l2.length : Int) > 0 then (if 0 < (l2.length : Int) then (if ((rd_T62 l2 0).f0) = a0 then ((api_Run.f l2).bind fun t157 => (if 0 < (t157.length : Int) then (some (t157.set (0 : Int).toNat (⟨(rd_T62 t157 0).f0, wrap64 (((rd_T62 t157 0).f1) + a1)⟩ : S62))) else (none))) else ((some (([(⟨a0, a1⟩ : S62)] : List (S62)) : List (S62))).bind fun y162 => (if y162.length + l2.length < 8796093022208 then (some (y162 ++ l2)) else (none)))) else (none)) else ((some (([(⟨a0, a1⟩ : S62)] : List (S62)) : List (S62))).bind fun y168 => (if y168.length + l2.length < 8796093022208 then (some (y168 ++ l2)) else (none)))) = some r := by rw [if_neg (show ¬ (false = true) by decide)] at H; exact H
    clear H
    have H := H1
    clear H1
    by_cases c8 : (l2.length : Int) > 0
    ·
     rw [if_pos c8] at H
     have c8b0 : decide (0 < (l2.length : Int)) = true := decide_eq_true c8
     have c8b1 : decide (0 < l2.length) = true := decide_eq_true (by omega)
     clear c8
     by_cases c9 : 0 < (l2.length : Int)
     ·
      rw [if_pos c9] at H
      have c9b0 : decide (0 < (l2.length : Int)) = true := decide_eq_true c9
      have c9b1 : decide (0 < l2.length) = true := decide_eq_true (by omega)
      clear c9
      by_cases c10 : ((rd_T62 l2 0).f0) = a0
      ·
       rw [if_pos c10] at H
       have c10b0 : (((rd_T62 l2 0).f0) == a0) = true := beq_iff_eq.mpr c10
       have c10b1 : (((rd_T62 l2 0).f0) != a0) = false := bne_eq_false_iff_eq.mpr c10
       clear c10
       replace H := Option.bind_eq_some_iff.mp H
       obtain ⟨t157, A110, H⟩ := H
       replace H : (if 0 < (t157.length : Int) then (some (t157.set (0 : Int).toNat (⟨(rd_T62 t157 0).f0, wrap64 (((rd_T62 t157 0).f1) + a1)⟩ : S62))) else (none)) = some r := H
       have A11 := Aside0.mk A110
       clear A110
       by_cases c12 : 0 < (t157.length : Int)
       ·
        rw [if_pos c12] at H
        have c12b0 : decide (0 < (t157.length : Int)) = true := decide_eq_true c12
        have c12b1 : decide (0 < t157.length) = true := decide_eq_true (by omega)
        clear c12
        obtain ⟨y161, hy161⟩ : ∃ y_ : List (S62), y_ = (t157.set (0 : Int).toNat (⟨(rd_T62 t157 0).f0, wrap64 (((rd_T62 t157 0).f1) + a1)⟩ : S62)) := ⟨_, rfl⟩
        replace H : (some y161) = some r := by first | (rw [hy161]; with_reducible exact H) | (have H2_ := (Option.bind_some _ _).symm.trans H; rw [hy161]; with_reducible exact H2_) | (have H2_ := (Option.bind_some _ _).symm.trans H; with_reducible exact H2_) | with_reducible exact H | (rw [hy161]; exact H) | exact H
        have Ny161 := Aside0.mk hy161
        clear hy161
        obtain rfl := Option.some.inj H
        have p156 : 0 ≤ (0 : Int) := (by omega)
        have q156 : 0 < (l2.length : Int) := of_decide_eq_true (by first | (with_reducible assumption) | assumption)
        obtain ⟨ad156, e156, hx156_0, hx156_1⟩ := at_T62 (Kd.V_reads' HO_2.out).2.2 0 p156 q156
        cases e156
        have qi156 : (0 < l2.length) = True := eq_true (by omega)
        (try rw [show ((0 : Int)).toNat = 0 from rfl] at hx156_0)
        (try rw [show 0 * 2 = 0 from rfl] at hx156_0)
        (try rw [Addr.add_zero'] at hx156_0)
        (try rw [show ((0 : Int)).toNat = 0 from rfl] at hx156_1)
        (try rw [show 0 * 2 = 0 from rfl] at hx156_1)
        (try rw [Addr.add_zero'] at hx156_1)
        replace p156 := eq_true p156
        replace q156 := eq_true q156
        go_wp2_with (first | ((with_reducible refine gate_callee (f := 36) rfl ?_); refine goesL_ (some 34) rfl rfl Try.func36 (by kernel_rfl) rfl #[.slice (some ad156) l2.length c2] rfl (zm) ?_; (with_reducible refine (api_Run.calls _ _ l2 t157 _ ?side1 ?side2 A11.out).mono ?_); (case side1 => exact zC ((Kd.V_reads' HO_2.out).2.2)); (case side2 => exact (Kd.V_reads' HO_2.out).2.1); rintro e w14 ⟨v158, rfl, ho0, hb⟩; refine ⟨_, rfl, ?_⟩; have HO159 := Aside0.mk (Kd.R_lower (Kd.R_newM (M := fun k_ => (w.heap.size ≤ k_)) ho0 (below_size (zB HB)) (fun k_ h_ => h_)) (below_size (zB HB))); replace HO_2 := Aside0.mk (Kd.V_elder' (zV HO_2) (Kd.R_base ho0) hb); replace HB := Aside0.mk (below_step (zB HB) hb); (try clear hb); (try clear hb2); (try clear hk); (try clear hi); (try clear ho0); obtain ⟨Ao15, co15, eo15⟩ := Kd.R_slice HO159.out; subst eo15; have p160 : 0 ≤ (0 : Int) := (by omega); have q160 : 0 < (t157.length : Int) := of_decide_eq_true (by first | (with_reducible assumption) | assumption); obtain ⟨ad160, e160, hx160_0, hx160_1⟩ := at_T62 (Kd.R_reads' HO159.out).2.2 0 p160 q160; cases e160; have qi160 : (0 < t157.length) = True := eq_true (by omega); (try rw [show ((0 : Int)).toNat = 0 from rfl] at hx160_0); (try rw [show 0 * 2 = 0 from rfl] at hx160_0); (try rw [Addr.add_zero'] at hx160_0); (try rw [show ((0 : Int)).toNat = 0 from rfl] at hx160_1); (try rw [show 0 * 2 = 0 from rfl] at hx160_1); (try rw [Addr.add_zero'] at hx160_1); replace p160 := eq_true p160; replace q160 := eq_true q160; have p13 : 0 ≤ (0 : Int) := (by omega); have q13 : (0 : Int) < ((t157.length : Int) : Int) := of_decide_eq_true (by first | (with_reducible assumption) | assumption); have qi13 : (0 < t157.length) = True := eq_true (by omega); obtain ⟨go13, co13, eo13, gb13, gl13, cl13, HG13⟩ := Kd.R_form HO159.out (by omega); (first | cases eo13 | (injection eo13 with ea_ en_ ec_; (first | subst ea_ | (injection ea_ with ea_; subst ea_)); subst ec_; clear en_)); have GB13 := Aside0.mk gb13; have GG13 := Aside0.mk HG13; clear gb13 gl13 HG13; (first | simp only [add_plain] at hx160_0 | skip); (first | simp only [add_plain] at hx160_1 | skip); obtain ⟨ce13, hcl13, hM13, hcc13, hfr13⟩ := Kd.R_elem HO159.out z62 (0 : Int) p13 q13; obtain rfl := k62_openM hM13; have hx13_0 : w14.cell? ⟨go13, (0 : Int).toNat * 2, none⟩ = some (.int .i64 ((rd_T62 t157 0).f0)) := hcc13 0 _ rfl; have hx13_1 : w14.cell? ⟨go13, (0 : Int).toNat * 2 + 1, none⟩ = some (.int .i64 ((rd_T62 t157 0).f1)) := hcc13 1 _ rfl; have hf13_0 : w14.frozen? ⟨go13, (0 : Int).toNat * 2, none⟩ = false := hfr13 0; have hf13_1 : w14.frozen? ⟨go13, (0 : Int).toNat * 2 + 1, none⟩ = false := hfr13 1; clear hcl13 hcc13 hfr13 hM13; (try rw [show ((0 : Int)).toNat = 0 from rfl] at hx13_0); (try simp only [Nat.reduceMul, Nat.zero_mul, Nat.zero_add, Nat.reduceAdd] at hx13_0); (try rw [show ((0 : Int)).toNat = 0 from rfl] at hf13_0); (try simp only [Nat.reduceMul, Nat.zero_mul, Nat.zero_add, Nat.reduceAdd] at hf13_0); (try rw [show ((0 : Int)).toNat = 0 from rfl] at hx13_1); (try simp only [Nat.reduceMul, Nat.zero_mul, Nat.zero_add, Nat.reduceAdd] at hx13_1); (try rw [show ((0 : Int)).toNat = 0 from rfl] at hf13_1); (try simp only [Nat.reduceMul, Nat.zero_mul, Nat.zero_add, Nat.reduceAdd] at hf13_1); replace p13 := eq_true p13; replace q13 := eq_true q13; have n_ := Aside0.mk (Kd.R_mono (ok' := (fun k_ => (w.heap.size ≤ k_))) HO159.out (fun k_ hk => hk.1)); clear HO159; have HO159 := n_; clear n_; have HX16 := Aside0.mk (show Kd.R k62 62 w14 w.heap.size (fun k_ => (w.heap.size ≤ k_)) (.slice (some ⟨go13, 0, none⟩) t157.length co15) t157 from (zR HO159)); obtain ⟨ce16, hcl16, hM16, hcc16, hfr16⟩ := Kd.R_elem HX16.out z62 (0 : Int) (by omega) (by have h_ : (0 : Int) < ((t157.length : Int) : Int) := of_decide_eq_true (by first | (with_reducible assumption) | assumption); first | exact h_ | (have e_ := (Kd.R_reads' HO159.out).1; omega) | simpa using h_); obtain rfl := k62_openM hM16; have HP16 := Kd.R_seg HX16.out (0 : Int) (by omega) (by have h_ : (0 : Int) < ((t157.length : Int) : Int) := of_decide_eq_true (by first | (with_reducible assumption) | assumption); first | exact h_ | (have e_ := (Kd.R_reads' HO159.out).1; omega) | simpa using h_) (seg := [.int .i64 (wrap64 (((rd_T62 t157 0).f1) + a1))]) (j := 1) hcl16 hcc16 (show 2 ≤ 2 from by decide) (x' := (⟨(rd_T62 t157 0).f0, wrap64 (((rd_T62 t157 0).f1) + a1)⟩ : S62)) (k62_mkM _ _ _ (⟨(rd_T62 t157 0).f0, wrap64 (((rd_T62 t157 0).f1) + a1)⟩ : S62) ) (fun _ hk => hk); have hx16_1 := hcc16 1 _ rfl; (try simp only [show (k62).sz = 2 from rfl, Nat.mul_one, Nat.add_zero] at hx16_1); (try rw [show ((0 : Int)).toNat = 0 from rfl] at hx16_1); (try simp only [Nat.reduceMul, Nat.zero_mul, Nat.zero_add, Nat.reduceAdd] at hx16_1); have hf16_1 := hfr16 1; (try simp only [show (k62).sz = 2 from rfl, Nat.mul_one, Nat.add_zero] at hf16_1); (try rw [show ((0 : Int)).toNat = 0 from rfl] at hf16_1); (try simp only [Nat.reduceMul, Nat.zero_mul, Nat.zero_add, Nat.reduceAdd] at hf16_1); clear hcl16 hcc16 hfr16 hM16) | ((with_reducible refine gate_store (t := 3) (p := 42) rfl ?_); refine store_event (t := 3) (p := 42) (v := ?vo_w17) (w1 := (w14.setCell ⟨go13, 1, none⟩ (.int .i64 (wrap64 (((rd_T62 t157 0).f1) + a1))))) ?hg ?ho ?hn ?hr ?_; (case ho => rfl); (case hg => rfl); (case hn => rfl); (case hr => first | (go_simp; done) | (go_simp; rfl)); intro w17 hw; have hg : w14.grownBy w17 (some go13) := (by rw [hw]; exact HP16.2); have hp_ : Kd.R k62 62 w17 w.heap.size (fun k_ => (w.heap.size ≤ k_)) (.slice (some ⟨go13, 0, none⟩) t157.length co15) y161 := (by rw [hw, Ny161.out]; exact HP16.1); clear HP16; replace HO_2 := Aside0.mk (Kd.V_afterv (v := (.slice (some ⟨go13, 0, none⟩) t157.length co15)) (v1 := (.slice (some ⟨go13, 0, none⟩) t157.length co15)) (ok := (fun k_ => (P2_ k_ ∨ w.heap.size ≤ k_))) (zV HO_2) hg (.inl rfl)); replace HO159 := Aside0.mk (hp_); replace HB := Aside0.mk ((by rw [hw]; exact below_set (HB.out) GB13.out : Below w.heap.size w w17)); clear hg hw hp_))
        go_ret
        exact ⟨_, by first | rfl | (simp [errW_none, errW_some] <;> rfl) | (simp [*, errW_none, errW_some] <;> rfl), Kd.V_mono (Kd.R_V (zR HO159)) (fun k_ hk => by first | exact ⟨(.inr (hk.1)), hk.2⟩ | exact (.inr (hk))), zB HB⟩
       ·
        rw [if_neg c12] at H
        exact absurd H (by simp)
      ·
       rw [if_neg c10] at H
       have c10b0 : (((rd_T62 l2 0).f0) == a0) = false := beq_eq_false_iff_ne.mpr c10
       have c10b1 : (((rd_T62 l2 0).f0) != a0) = true := bne_iff_ne.mpr c10
       obtain ⟨y162, hy162⟩ : ∃ y_ : List (S62), y_ = (([(⟨a0, a1⟩ : S62)] : List (S62))) := ⟨_, rfl⟩
       replace H : (if y162.length + l2.length < 8796093022208 then (some (y162 ++ l2)) else (none)) = some r := by first | (rw [hy162]; with_reducible exact H) | (have H2_ := (Option.bind_some _ _).symm.trans H; rw [hy162]; with_reducible exact H2_) | (have H2_ := (Option.bind_some _ _).symm.trans H; with_reducible exact H2_) | with_reducible exact H | (rw [hy162]; exact H) | exact H
       have Ny162 := Aside0.mk hy162
       clear hy162
       by_cases c18 : y162.length + l2.length < 8796093022208
       ·
        rw [if_pos c18] at H
        have LMc18 := Aside0.mk c18
        clear c18
        obtain ⟨y165, hy165⟩ : ∃ y_ : List (S62), y_ = (y162 ++ l2) := ⟨_, rfl⟩
        replace H : (some y165) = some r := by first | (rw [hy165]; with_reducible exact H) | (have H2_ := (Option.bind_some _ _).symm.trans H; rw [hy165]; with_reducible exact H2_) | (have H2_ := (Option.bind_some _ _).symm.trans H; with_reducible exact H2_) | with_reducible exact H | (rw [hy165]; exact H) | exact H
        have Ny165 := Aside0.mk hy165
        clear hy165
        obtain rfl := Option.some.inj H
        have p156 : 0 ≤ (0 : Int) := (by omega)
        have q156 : 0 < (l2.length : Int) := of_decide_eq_true (by first | (with_reducible assumption) | assumption)
        obtain ⟨ad156, e156, hx156_0, hx156_1⟩ := at_T62 (Kd.V_reads' HO_2.out).2.2 0 p156 q156
        cases e156
        have qi156 : (0 < l2.length) = True := eq_true (by omega)
        (try rw [show ((0 : Int)).toNat = 0 from rfl] at hx156_0)
        (try rw [show 0 * 2 = 0 from rfl] at hx156_0)
        (try rw [Addr.add_zero'] at hx156_0)
        (try rw [show ((0 : Int)).toNat = 0 from rfl] at hx156_1)
        (try rw [show 0 * 2 = 0 from rfl] at hx156_1)
        (try rw [Addr.add_zero'] at hx156_1)
        replace p156 := eq_true p156
        replace q156 := eq_true q156
        go_wp2_with (first | ((with_reducible refine gate_dst (N := 47) rfl ?_); (try (refine gate_guard (by rfl) ?_; dsimp only)); refine Kd.R_lit k62 _ 62 ?hg (N := 47) ?hd (xs := ([(⟨a0, a1⟩ : S62)] : List (S62))) (inner := [.int .i64 a0, .int .i64 a1]) (ok := fun _ => True) (okp := fun _ => True) ?hr ?hp (fun _ hk => hk) trivial (Below.refl _ _) (Nat.le_refl _) (by simp) ?_; (case hd => rfl); (case hg => rfl); (case hr => first | (go_simp; done) | (go_simp; rfl)); (case hp => exact (Reps.c2 (show Kd.M k62 _ _ _ (⟨a0, a1⟩ : S62) [.int .i64 a0, .int .i64 a1] from (k62_mkM _ _ _ (⟨a0, a1⟩ : S62) )) (Reps.none _ _))); intro v163 w19 ho20 hb hg_ hnew_; clear hg_ hnew_; (first | rw [← Ny162.out] at ho20 | (simp only [Int.reduceToNat] at ho20; rw [← Ny162.out] at ho20)); have HO164 := Aside0.mk (Kd.R_lower (Kd.R_newM (M := fun k_ => (w.heap.size ≤ k_)) ho20 (below_size (zB HB)) (fun k_ h_ => h_)) (below_size (zB HB))); replace HO_2 := Aside0.mk (Kd.V_elder' (zV HO_2) (Kd.R_base ho20) hb); replace HB := Aside0.mk (below_step (zB HB) hb); clear hb ho20) | ((with_reducible refine gate_builtin (b := .append) (xs := #[.tmp 47, .tmp 48]) rfl ?_); (try (refine gate_guard (by rfl) ?_; dsimp only)); at_builtin; refine Kd.R_append_rows k62 (w0 := w) w.heap.size rfl (.tmp 47) (.tmp 48) 25 62 (.agg #[(.int .i64 0), (.int .i64 0)]) 16 rfl Try.underlying25 info62 rfl (by decide) (by omega) v163 y162 l2 _ _ _ (fun k_ => (w.heap.size ≤ k_)) (fun _ => False) rfl rfl ?aO ?aR (fun _ _ h => h) (fun _ h => h.elim) ?aF ?aB ?aS ?aL ?_; (case aR => exact zC ((Kd.V_reads' HO_2.out).2.2)); (case aB => exact (zB HB)); (case aF => exact (fun k_ hk => (Nat.le_trans (below_size (zB HB)) hk))); (case aO => exact (by (with_reducible repeat (first | apply Kd.R_alloc | apply Kd.R_drewN | apply Kd.R_drew)); exact Kd.R_mono HO164.out (fun _ hk => hk.1))); (case aS => exact (below_size (zB HB))); (case aL => have := LMc18.out; omega); intro v166 w21 ho hb hg hat; rw [← Ny165.out] at ho; have n0_ := Aside0.mk (Kd.V_afterv (ok := (fun k_ => (P2_ k_ ∨ w.heap.size ≤ k_))) (zV HO_2) hg hat); have n1_ := Aside0.mk (hb); have n2_ := Aside0.mk (ho); clear HO_2; clear HB; clear HO164; have HO_2 := n0_; have HB := n1_; have HO167 := n2_; clear n0_ n1_ n2_; clear ho hb hg hat))
        go_ret
        exact ⟨_, by first | rfl | (simp [errW_none, errW_some] <;> rfl) | (simp [*, errW_none, errW_some] <;> rfl), Kd.V_mono (Kd.R_V (zR HO167)) (fun k_ hk => by first | exact ⟨(.inr (hk.1)), hk.2⟩ | exact (.inr (hk))), zB HB⟩
       ·
        rw [if_neg c18] at H
        exact absurd H (by simp)
     ·
      rw [if_neg c9] at H
      exact absurd H (by simp)
    ·
     rw [if_neg c8] at H
     have c8b0 : decide (0 < (l2.length : Int)) = false := decide_eq_false c8
     have c8b1 : decide (0 < l2.length) = false := decide_eq_false (by omega)
     clear c8
     obtain ⟨y168, hy168⟩ : ∃ y_ : List (S62), y_ = (([(⟨a0, a1⟩ : S62)] : List (S62))) := ⟨_, rfl⟩
     replace H : (if y168.length + l2.length < 8796093022208 then (some (y168 ++ l2)) else (none)) = some r := by first | (rw [hy168]; with_reducible exact H) | (have H2_ := (Option.bind_some _ _).symm.trans H; rw [hy168]; with_reducible exact H2_) | (have H2_ := (Option.bind_some _ _).symm.trans H; with_reducible exact H2_) | with_reducible exact H | (rw [hy168]; exact H) | exact H
     have Ny168 := Aside0.mk hy168
     clear hy168
     by_cases c22 : y168.length + l2.length < 8796093022208
     ·
      rw [if_pos c22] at H
      have LMc22 := Aside0.mk c22
      clear c22
      obtain ⟨y171, hy171⟩ : ∃ y_ : List (S62), y_ = (y168 ++ l2) := ⟨_, rfl⟩
      replace H : (some y171) = some r := by first | (rw [hy171]; with_reducible exact H) | (have H2_ := (Option.bind_some _ _).symm.trans H; rw [hy171]; with_reducible exact H2_) | (have H2_ := (Option.bind_some _ _).symm.trans H; with_reducible exact H2_) | with_reducible exact H | (rw [hy171]; exact H) | exact H
      have Ny171 := Aside0.mk hy171
      clear hy171
      obtain rfl := Option.some.inj H
      go_wp2_with (first | ((with_reducible refine gate_dst (N := 47) rfl ?_); (try (refine gate_guard (by rfl) ?_; dsimp only)); refine Kd.R_lit k62 _ 62 ?hg (N := 47) ?hd (xs := ([(⟨a0, a1⟩ : S62)] : List (S62))) (inner := [.int .i64 a0, .int .i64 a1]) (ok := fun _ => True) (okp := fun _ => True) ?hr ?hp (fun _ hk => hk) trivial (Below.refl _ _) (Nat.le_refl _) (by simp) ?_; (case hd => rfl); (case hg => rfl); (case hr => first | (go_simp; done) | (go_simp; rfl)); (case hp => exact (Reps.c2 (show Kd.M k62 _ _ _ (⟨a0, a1⟩ : S62) [.int .i64 a0, .int .i64 a1] from (k62_mkM _ _ _ (⟨a0, a1⟩ : S62) )) (Reps.none _ _))); intro v169 w23 ho24 hb hg_ hnew_; clear hg_ hnew_; (first | rw [← Ny168.out] at ho24 | (simp only [Int.reduceToNat] at ho24; rw [← Ny168.out] at ho24)); have HO170 := Aside0.mk (Kd.R_lower (Kd.R_newM (M := fun k_ => (w.heap.size ≤ k_)) ho24 (below_size (zB HB)) (fun k_ h_ => h_)) (below_size (zB HB))); replace HO_2 := Aside0.mk (Kd.V_elder' (zV HO_2) (Kd.R_base ho24) hb); replace HB := Aside0.mk (below_step (zB HB) hb); clear hb ho24) | ((with_reducible refine gate_builtin (b := .append) (xs := #[.tmp 47, .tmp 48]) rfl ?_); (try (refine gate_guard (by rfl) ?_; dsimp only)); at_builtin; refine Kd.R_append_rows k62 (w0 := w) w.heap.size rfl (.tmp 47) (.tmp 48) 25 62 (.agg #[(.int .i64 0), (.int .i64 0)]) 16 rfl Try.underlying25 info62 rfl (by decide) (by omega) v169 y168 l2 _ _ _ (fun k_ => (w.heap.size ≤ k_)) (fun _ => False) rfl rfl ?aO ?aR (fun _ _ h => h) (fun _ h => h.elim) ?aF ?aB ?aS ?aL ?_; (case aR => exact zC ((Kd.V_reads' HO_2.out).2.2)); (case aB => exact (zB HB)); (case aF => exact (fun k_ hk => (Nat.le_trans (below_size (zB HB)) hk))); (case aO => exact (by (with_reducible repeat (first | apply Kd.R_alloc | apply Kd.R_drewN | apply Kd.R_drew)); exact Kd.R_mono HO170.out (fun _ hk => hk.1))); (case aS => exact (below_size (zB HB))); (case aL => have := LMc22.out; omega); intro v172 w25 ho hb hg hat; rw [← Ny171.out] at ho; have n0_ := Aside0.mk (Kd.V_afterv (ok := (fun k_ => (P2_ k_ ∨ w.heap.size ≤ k_))) (zV HO_2) hg hat); have n1_ := Aside0.mk (hb); have n2_ := Aside0.mk (ho); clear HO_2; clear HB; clear HO170; have HO_2 := n0_; have HB := n1_; have HO173 := n2_; clear n0_ n1_ n2_; clear ho hb hg hat))
      go_ret
      exact ⟨_, by first | rfl | (simp [errW_none, errW_some] <;> rfl) | (simp [*, errW_none, errW_some] <;> rfl), Kd.V_mono (Kd.R_V (zR HO173)) (fun k_ hk => by first | exact ⟨(.inr (hk.1)), hk.2⟩ | exact (.inr (hk))), zB HB⟩
     ·
      rw [if_neg c22] at H
      exact absurd H (by simp)

/-! ### leap_split: function 35 -/
def leap_split.f (l0 : List (S62)) : Option (Int × (List (S62))) := if (l0.length : Int) = 0 then (some (0, ([] : List (S62)))) else (if 0 < (l0.length : Int) then (if ((rd_T62 l0 0).f1) = 1 then (if 1 ≤ (l0.length : Int) then (some ((rd_T62 l0 0).f0, (l0.drop 1))) else (none)) else ((api_Run.f l0).bind fun t181 => (if 0 < (t181.length : Int) then (some ((rd_T62 l0 0).f0, (t181.set (0 : Int).toNat (⟨(rd_T62 t181 0).f0, wrap64 (((rd_T62 t181 0).f1) - 1)⟩ : S62)))) else (none)))) else (none))
set_option maxHeartbeats 8000000 in
set_option maxRecDepth 100000 in
theorem leap_split.calls (P0_ : Nat → Prop) (A0 : Option Addr) (c0 : Nat) (l0 : List (S62)) (r1 : Int) (r2 : List (S62)) (w : World) (hs0 : Kd.V k62 62 w w.heap.size (fun k_ => P0_ k_) (.slice A0 l0.length c0) l0) (h : leap_split.f l0 = some (r1, r2)) :
  Calls Try.prog 35 #[.slice A0 l0.length c0] w fun e w' => ∃ v1_ : Value, e = .returned (.tuple #[.int .i64 r1, v1_]) ∧ Kd.V k62 62 w' w.heap.size (fun k_ => (P0_ k_ ∨ w.heap.size ≤ k_)) v1_ r2 ∧ Below w.heap.size w w' := by
 have HO0 := Aside0.mk (show Kd.V k62 62 w w.heap.size (fun k_ => (P0_ k_ ∨ w.heap.size ≤ k_)) (.slice A0 l0.length c0) l0 from Kd.V_mono hs0 (fun k_ hk => .inl hk))
 have HB := Aside0.mk (Below.refl w.heap.size w)
 have H : (if (l0.length : Int) = 0 then (some (0, ([] : List (S62)))) else (if 0 < (l0.length : Int) then (if ((rd_T62 l0 0).f1) = 1 then (if 1 ≤ (l0.length : Int) then (some ((rd_T62 l0 0).f0, (l0.drop 1))) else (none)) else ((api_Run.f l0).bind fun t181 => (if 0 < (t181.length : Int) then (some ((rd_T62 l0 0).f0, (t181.set (0 : Int).toNat (⟨(rd_T62 t181 0).f0, wrap64 (((rd_T62 t181 0).f1) - 1)⟩ : S62)))) else (none)))) else (none))) = some (r1, r2) := h
 clear h
 by_cases c2 : (l0.length : Int) = 0
 ·
  rw [if_pos c2] at H
  have c2b0 : ((l0.length : Int) == 0) = true := beq_iff_eq.mpr c2
  have c2b1 : ((l0.length : Int) != 0) = false := bne_eq_false_iff_eq.mpr c2
  clear c2
  simp only [Option.some.injEq, Prod.mk.injEq] at H
  obtain ⟨rfl, rfl⟩ := H
  go_enter Try.func35, Try.ntmps35
  go_wp2
  repeat (go_quiet (fail); try go_wp2)
  go_ret2
  exact ⟨_, by first | rfl | (simp [errW_none, errW_some] <;> rfl) | (simp [*, errW_none, errW_some] <;> rfl), by first | exact Kd.R_nil _ _ _ _ _ | exact Kd.N_nil _ _ _ _ _ | exact Kd.V_nil _ _ _ _ _ | exact Kd.Q_nil _ _ _ _ _ | exact Kd.S_nil _ _ _ _ _, zB HB⟩
 ·
  rw [if_neg c2] at H
  have c2b0 : ((l0.length : Int) == 0) = false := beq_eq_false_iff_ne.mpr c2
  have c2b1 : ((l0.length : Int) != 0) = true := bne_iff_ne.mpr c2
  have c2b2 : ¬ (l0 = []) := fun h_ => c2 (by rw [h_]; rfl)
  by_cases c3 : 0 < (l0.length : Int)
  ·
   rw [if_pos c3] at H
   have c3b0 : decide (0 < (l0.length : Int)) = true := decide_eq_true c3
   have c3b1 : decide (0 < l0.length) = true := decide_eq_true (by omega)
   clear c3
   by_cases c4 : ((rd_T62 l0 0).f1) = 1
   ·
    rw [if_pos c4] at H
    have c4b0 : (((rd_T62 l0 0).f1) == 1) = true := beq_iff_eq.mpr c4
    have c4b1 : (((rd_T62 l0 0).f1) != 1) = false := bne_eq_false_iff_eq.mpr c4
    clear c4
    by_cases c5 : 1 ≤ (l0.length : Int)
    ·
     rw [if_pos c5] at H
     have c5b0 := eq_true c5
     have c5b1 : decide (1 ≤ (l0.length : Int)) = true := decide_eq_true c5
     clear c5
     obtain ⟨y176, hy176⟩ : ∃ y_ : List (S62), y_ = (l0.drop 1) := ⟨_, rfl⟩
     replace H : (some ((rd_T62 l0 0).f0, y176)) = some (r1, r2) := by first | (rw [hy176]; with_reducible exact H) | (have H2_ := (Option.bind_some _ _).symm.trans H; rw [hy176]; with_reducible exact H2_) | (have H2_ := (Option.bind_some _ _).symm.trans H; with_reducible exact H2_) | with_reducible exact H | (rw [hy176]; exact H) | exact H
     have Ny176 := Aside0.mk hy176
     clear hy176
     simp only [Option.some.injEq, Prod.mk.injEq] at H
     obtain ⟨rfl, rfl⟩ := H
     have p174 : 0 ≤ (0 : Int) := (by omega)
     have q174 : 0 < (l0.length : Int) := of_decide_eq_true (by first | (with_reducible assumption) | assumption)
     obtain ⟨ad174, e174, hx174_0, hx174_1⟩ := at_T62 (Kd.V_reads' HO0.out).2.2 0 p174 q174
     cases e174
     have qi174 : (0 < l0.length) = True := eq_true (by omega)
     (try rw [show ((0 : Int)).toNat = 0 from rfl] at hx174_0)
     (try rw [show 0 * 2 = 0 from rfl] at hx174_0)
     (try rw [Addr.add_zero'] at hx174_0)
     (try rw [show ((0 : Int)).toNat = 0 from rfl] at hx174_1)
     (try rw [show 0 * 2 = 0 from rfl] at hx174_1)
     (try rw [Addr.add_zero'] at hx174_1)
     replace p174 := eq_true p174
     replace q174 := eq_true q174
     have p175 : 0 ≤ (0 : Int) := (by omega)
     have q175 : 0 < (l0.length : Int) := of_decide_eq_true (by first | (with_reducible assumption) | assumption)
     obtain ⟨ad175, e175, hx175_0, hx175_1⟩ := at_T62 (Kd.V_reads' HO0.out).2.2 0 p175 q175
     obtain rfl : ad174 = ad175 := (by injection e175)
     have qi175 : (0 < l0.length) = True := eq_true (by omega)
     (try rw [show ((0 : Int)).toNat = 0 from rfl] at hx175_0)
     (try rw [show 0 * 2 = 0 from rfl] at hx175_0)
     (try rw [Addr.add_zero'] at hx175_0)
     (try rw [show ((0 : Int)).toNat = 0 from rfl] at hx175_1)
     (try rw [show 0 * 2 = 0 from rfl] at hx175_1)
     (try rw [Addr.add_zero'] at hx175_1)
     replace p175 := eq_true p175
     replace q175 := eq_true q175
     have q6 : (1 : Int) ≤ ((l0.length : Int) : Int) := of_decide_eq_true (by first | (with_reducible assumption) | assumption)
     obtain ⟨i06, hi06, _, hsz6, _⟩ := info_parts info62
     have hroom6 : l0.length ≤ c0 := (Kd.V_reads' HO0.out).2.1
     have hC6 : Kd.F k62 _ _ (some ad174) l0.length l0 := (Kd.V_at (base := w.heap.size) HO0.out).2.2
     have hcut6 := cut_from (P := Try.prog) 25 62 .i64 Try.underlying25 hi06 2 hsz6 (some ad174) l0.length c0 1 (by omega) q6
     have hr6 := Kd.F_cut (m := (1 : Int).toNat) (c := c0) hC6 (by omega) hroom6
     obtain ⟨A6, hA6⟩ : ∃ A1, A1 = (if c0 = (1 : Int).toNat then (some ad174) else ((some ad174) : Option Addr).map (·.add ((1 : Int).toNat * 2))) := ⟨_, rfl⟩
     obtain ⟨c6, hc6⟩ : ∃ c1, c1 = c0 - (1 : Int).toNat := ⟨_, rfl⟩
     have hy6 : y176.length = l0.length - (1 : Int).toNat := (by rw [Ny176.out, List.length_drop] <;> omega)
     rw [show (l0).drop (1 : Int).toNat = y176 from Ny176.out.symm] at hr6
     replace hr6 : Kd.F k62 _ _ A6 y176.length y176 := (by rw [hA6]; exact hr6)
     rw [← hy6, ← hA6, ← hc6] at hcut6
     have HO180 := Aside0.mk (show Kd.V k62 62 _ w.heap.size _ (.slice A6 y176.length c6) y176 from Kd.V_mk (by rw [hy6, hc6]; exact Nat.sub_le_sub_right hroom6 _) hr6)
     have HC180 := Aside0.mk (show y176.length ≤ c6 from by rw [hy6, hc6]; exact Nat.sub_le_sub_right hroom6 _)
     clear hr6 hC6 hroom6 hi06 hsz6 hc6
     have KY6 := Aside0.mk hy6
     have KA6 := Aside0.mk hA6
     clear hy6 hA6
     replace q6 := eq_true q6
     go_enter Try.func35, Try.ntmps35
     go_wp2
     repeat (go_quiet (fail); try go_wp2)
     go_ret2
     exact ⟨_, by first | rfl | (simp [errW_none, errW_some] <;> rfl) | (simp [*, errW_none, errW_some] <;> rfl), zV HO180, zB HB⟩
    ·
     rw [if_neg c5] at H
     exact absurd H (by simp)
   ·
    rw [if_neg c4] at H
    have c4b0 : (((rd_T62 l0 0).f1) == 1) = false := beq_eq_false_iff_ne.mpr c4
    have c4b1 : (((rd_T62 l0 0).f1) != 1) = true := bne_iff_ne.mpr c4
    replace H := Option.bind_eq_some_iff.mp H
    obtain ⟨t181, A70, H⟩ := H
    replace H : (if 0 < (t181.length : Int) then (some ((rd_T62 l0 0).f0, (t181.set (0 : Int).toNat (⟨(rd_T62 t181 0).f0, wrap64 (((rd_T62 t181 0).f1) - 1)⟩ : S62)))) else (none)) = some (r1, r2) := H
    have A7 := Aside0.mk A70
    clear A70
    by_cases c8 : 0 < (t181.length : Int)
    ·
     rw [if_pos c8] at H
     have c8b0 : decide (0 < (t181.length : Int)) = true := decide_eq_true c8
     have c8b1 : decide (0 < t181.length) = true := decide_eq_true (by omega)
     clear c8
     obtain ⟨y185, hy185⟩ : ∃ y_ : List (S62), y_ = (t181.set (0 : Int).toNat (⟨(rd_T62 t181 0).f0, wrap64 (((rd_T62 t181 0).f1) - 1)⟩ : S62)) := ⟨_, rfl⟩
     replace H : (some ((rd_T62 l0 0).f0, y185)) = some (r1, r2) := by first | (rw [hy185]; with_reducible exact H) | (have H2_ := (Option.bind_some _ _).symm.trans H; rw [hy185]; with_reducible exact H2_) | (have H2_ := (Option.bind_some _ _).symm.trans H; with_reducible exact H2_) | with_reducible exact H | (rw [hy185]; exact H) | exact H
     have Ny185 := Aside0.mk hy185
     clear hy185
     simp only [Option.some.injEq, Prod.mk.injEq] at H
     obtain ⟨rfl, rfl⟩ := H
     have p174 : 0 ≤ (0 : Int) := (by omega)
     have q174 : 0 < (l0.length : Int) := of_decide_eq_true (by first | (with_reducible assumption) | assumption)
     obtain ⟨ad174, e174, hx174_0, hx174_1⟩ := at_T62 (Kd.V_reads' HO0.out).2.2 0 p174 q174
     cases e174
     have qi174 : (0 < l0.length) = True := eq_true (by omega)
     (try rw [show ((0 : Int)).toNat = 0 from rfl] at hx174_0)
     (try rw [show 0 * 2 = 0 from rfl] at hx174_0)
     (try rw [Addr.add_zero'] at hx174_0)
     (try rw [show ((0 : Int)).toNat = 0 from rfl] at hx174_1)
     (try rw [show 0 * 2 = 0 from rfl] at hx174_1)
     (try rw [Addr.add_zero'] at hx174_1)
     replace p174 := eq_true p174
     replace q174 := eq_true q174
     go_enter Try.func35, Try.ntmps35
     go_wp2_with (first | (go_at_call 36; (with_reducible refine (api_Run.calls _ _ l0 t181 _ ?side1 ?side2 A7.out).mono ?_); (case side1 => exact zC ((Kd.V_reads' HO0.out).2.2)); (case side2 => exact (Kd.V_reads' HO0.out).2.1); rintro e w10 ⟨v182, rfl, ho0, hb⟩; have HO183 := Aside0.mk (Kd.R_lower (Kd.R_newM (M := fun k_ => (w.heap.size ≤ k_)) ho0 (below_size (zB HB)) (fun k_ h_ => h_)) (below_size (zB HB))); replace HO0 := Aside0.mk (Kd.V_elder' (zV HO0) (Kd.R_base ho0) hb); replace HB := Aside0.mk (below_step (zB HB) hb); (try clear hb); (try clear hb2); (try clear hk); (try clear hi); (try clear ho0); obtain ⟨Ao11, co11, eo11⟩ := Kd.R_slice HO183.out; subst eo11; have p184 : 0 ≤ (0 : Int) := (by omega); have q184 : 0 < (t181.length : Int) := of_decide_eq_true (by first | (with_reducible assumption) | assumption); obtain ⟨ad184, e184, hx184_0, hx184_1⟩ := at_T62 (Kd.R_reads' HO183.out).2.2 0 p184 q184; cases e184; have qi184 : (0 < t181.length) = True := eq_true (by omega); (try rw [show ((0 : Int)).toNat = 0 from rfl] at hx184_0); (try rw [show 0 * 2 = 0 from rfl] at hx184_0); (try rw [Addr.add_zero'] at hx184_0); (try rw [show ((0 : Int)).toNat = 0 from rfl] at hx184_1); (try rw [show 0 * 2 = 0 from rfl] at hx184_1); (try rw [Addr.add_zero'] at hx184_1); replace p184 := eq_true p184; replace q184 := eq_true q184; have p9 : 0 ≤ (0 : Int) := (by omega); have q9 : (0 : Int) < ((t181.length : Int) : Int) := of_decide_eq_true (by first | (with_reducible assumption) | assumption); have qi9 : (0 < t181.length) = True := eq_true (by omega); obtain ⟨go9, co9, eo9, gb9, gl9, cl9, HG9⟩ := Kd.R_form HO183.out (by omega); (first | cases eo9 | (injection eo9 with ea_ en_ ec_; (first | subst ea_ | (injection ea_ with ea_; subst ea_)); subst ec_; clear en_)); have GB9 := Aside0.mk gb9; have GG9 := Aside0.mk HG9; clear gb9 gl9 HG9; (first | simp only [add_plain] at hx184_0 | skip); (first | simp only [add_plain] at hx184_1 | skip); obtain ⟨ce9, hcl9, hM9, hcc9, hfr9⟩ := Kd.R_elem HO183.out z62 (0 : Int) p9 q9; obtain rfl := k62_openM hM9; have hx9_0 : w10.cell? ⟨go9, (0 : Int).toNat * 2, none⟩ = some (.int .i64 ((rd_T62 t181 0).f0)) := hcc9 0 _ rfl; have hx9_1 : w10.cell? ⟨go9, (0 : Int).toNat * 2 + 1, none⟩ = some (.int .i64 ((rd_T62 t181 0).f1)) := hcc9 1 _ rfl; have hf9_0 : w10.frozen? ⟨go9, (0 : Int).toNat * 2, none⟩ = false := hfr9 0; have hf9_1 : w10.frozen? ⟨go9, (0 : Int).toNat * 2 + 1, none⟩ = false := hfr9 1; clear hcl9 hcc9 hfr9 hM9; (try rw [show ((0 : Int)).toNat = 0 from rfl] at hx9_0); (try simp only [Nat.reduceMul, Nat.zero_mul, Nat.zero_add, Nat.reduceAdd] at hx9_0); (try rw [show ((0 : Int)).toNat = 0 from rfl] at hf9_0); (try simp only [Nat.reduceMul, Nat.zero_mul, Nat.zero_add, Nat.reduceAdd] at hf9_0); (try rw [show ((0 : Int)).toNat = 0 from rfl] at hx9_1); (try simp only [Nat.reduceMul, Nat.zero_mul, Nat.zero_add, Nat.reduceAdd] at hx9_1); (try rw [show ((0 : Int)).toNat = 0 from rfl] at hf9_1); (try simp only [Nat.reduceMul, Nat.zero_mul, Nat.zero_add, Nat.reduceAdd] at hf9_1); replace p9 := eq_true p9; replace q9 := eq_true q9; have n_ := Aside0.mk (Kd.R_mono (ok' := (fun k_ => (w.heap.size ≤ k_))) HO183.out (fun k_ hk => hk.1)); clear HO183; have HO183 := n_; clear n_; have HX12 := Aside0.mk (show Kd.R k62 62 w10 w.heap.size (fun k_ => (w.heap.size ≤ k_)) (.slice (some ⟨go9, 0, none⟩) t181.length co11) t181 from (zR HO183)); obtain ⟨ce12, hcl12, hM12, hcc12, hfr12⟩ := Kd.R_elem HX12.out z62 (0 : Int) (by omega) (by have h_ : (0 : Int) < ((t181.length : Int) : Int) := of_decide_eq_true (by first | (with_reducible assumption) | assumption); first | exact h_ | (have e_ := (Kd.R_reads' HO183.out).1; omega) | simpa using h_); obtain rfl := k62_openM hM12; have HP12 := Kd.R_seg HX12.out (0 : Int) (by omega) (by have h_ : (0 : Int) < ((t181.length : Int) : Int) := of_decide_eq_true (by first | (with_reducible assumption) | assumption); first | exact h_ | (have e_ := (Kd.R_reads' HO183.out).1; omega) | simpa using h_) (seg := [.int .i64 (wrap64 (((rd_T62 t181 0).f1) - 1))]) (j := 1) hcl12 hcc12 (show 2 ≤ 2 from by decide) (x' := (⟨(rd_T62 t181 0).f0, wrap64 (((rd_T62 t181 0).f1) - 1)⟩ : S62)) (k62_mkM _ _ _ (⟨(rd_T62 t181 0).f0, wrap64 (((rd_T62 t181 0).f1) - 1)⟩ : S62) ) (fun _ hk => hk); have hx12_1 := hcc12 1 _ rfl; (try simp only [show (k62).sz = 2 from rfl, Nat.mul_one, Nat.add_zero] at hx12_1); (try rw [show ((0 : Int)).toNat = 0 from rfl] at hx12_1); (try simp only [Nat.reduceMul, Nat.zero_mul, Nat.zero_add, Nat.reduceAdd] at hx12_1); have hf12_1 := hfr12 1; (try simp only [show (k62).sz = 2 from rfl, Nat.mul_one, Nat.add_zero] at hf12_1); (try rw [show ((0 : Int)).toNat = 0 from rfl] at hf12_1); (try simp only [Nat.reduceMul, Nat.zero_mul, Nat.zero_add, Nat.reduceAdd] at hf12_1); clear hcl12 hcc12 hfr12 hM12) | ((with_reducible refine gate_store (t := 3) (p := 27) rfl ?_); (try (rw [drewN_self w10]; generalize hq_ : World.drewN w10 _ = w10; have n0_ := Aside0.mk (Kd.V_at hq_ HO0.out); have n1_ := Aside0.mk (Kd.R_at hq_ HO183.out); have n2_ := Aside0.mk (below_at hq_ HB.out); clear hq_ HO0 HO183 HB; have HO0 := n0_; have HO183 := n1_; have HB := n2_; clear n0_ n1_ n2_; (try (have n_ := Aside0.mk (Kd.R_mono (ok' := (fun k_ => (w.heap.size ≤ k_))) HO183.out (fun k_ hk => hk.1)); clear HO183; have HO183 := n_; clear n_)); (try (have HX12 := Aside0.mk (show Kd.R k62 62 w10 w.heap.size (fun k_ => (w.heap.size ≤ k_)) (.slice (some ⟨go9, 0, none⟩) t181.length co11) t181 from (zR HO183)))); (try (obtain ⟨ce12, hcl12, hM12, hcc12, hfr12⟩ := Kd.R_elem HX12.out z62 (0 : Int) (by omega) (by have h_ : (0 : Int) < ((t181.length : Int) : Int) := of_decide_eq_true (by first | (with_reducible assumption) | assumption); first | exact h_ | (have e_ := (Kd.R_reads' HO183.out).1; omega) | simpa using h_))); (try (obtain rfl := k62_openM hM12)); (try (have HP12 := Kd.R_seg HX12.out (0 : Int) (by omega) (by have h_ : (0 : Int) < ((t181.length : Int) : Int) := of_decide_eq_true (by first | (with_reducible assumption) | assumption); first | exact h_ | (have e_ := (Kd.R_reads' HO183.out).1; omega) | simpa using h_) (seg := [.int .i64 (wrap64 (((rd_T62 t181 0).f1) - 1))]) (j := 1) hcl12 hcc12 (show 2 ≤ 2 from by decide) (x' := (⟨(rd_T62 t181 0).f0, wrap64 (((rd_T62 t181 0).f1) - 1)⟩ : S62)) (k62_mkM _ _ _ (⟨(rd_T62 t181 0).f0, wrap64 (((rd_T62 t181 0).f1) - 1)⟩ : S62) ) (fun _ hk => hk))); (try (have hx12_1 := hcc12 1 _ rfl)); (try (try simp only [show (k62).sz = 2 from rfl, Nat.mul_one, Nat.add_zero] at hx12_1)); (try (try rw [show ((0 : Int)).toNat = 0 from rfl] at hx12_1)); (try (try simp only [Nat.reduceMul, Nat.zero_mul, Nat.zero_add, Nat.reduceAdd] at hx12_1)); (try (have hf12_1 := hfr12 1)); (try (try simp only [show (k62).sz = 2 from rfl, Nat.mul_one, Nat.add_zero] at hf12_1)); (try (try rw [show ((0 : Int)).toNat = 0 from rfl] at hf12_1)); (try (try simp only [Nat.reduceMul, Nat.zero_mul, Nat.zero_add, Nat.reduceAdd] at hf12_1)); (try (clear hcl12 hcc12 hfr12 hM12)))); refine store_event (t := 3) (p := 27) (v := ?vo_w13) (w1 := (w10.setCell ⟨go9, 1, none⟩ (.int .i64 (wrap64 (((rd_T62 t181 0).f1) - 1))))) ?hg ?ho ?hn ?hr ?_; (case ho => rfl); (case hg => rfl); (case hn => rfl); (case hr => first | (go_simp; done) | (go_simp; rfl)); intro w13 hw; have hg : w10.grownBy w13 (some go9) := (by rw [hw]; exact HP12.2); have hp_ : Kd.R k62 62 w13 w.heap.size (fun k_ => (w.heap.size ≤ k_)) (.slice (some ⟨go9, 0, none⟩) t181.length co11) y185 := (by rw [hw, Ny185.out]; exact HP12.1); clear HP12; replace HO0 := Aside0.mk (Kd.V_afterv (v := (.slice (some ⟨go9, 0, none⟩) t181.length co11)) (v1 := (.slice (some ⟨go9, 0, none⟩) t181.length co11)) (ok := (fun k_ => (P0_ k_ ∨ w.heap.size ≤ k_))) (zV HO0) hg (.inl rfl)); replace HO183 := Aside0.mk (hp_); replace HB := Aside0.mk ((by rw [hw]; exact below_set (HB.out) GB9.out : Below w.heap.size w w13)); clear hg hw hp_; have p186 : 0 ≤ (0 : Int) := (by omega); have q186 : 0 < (l0.length : Int) := of_decide_eq_true (by first | (with_reducible assumption) | assumption); obtain ⟨ad186, e186, hx186_0, hx186_1⟩ := at_T62 (Kd.V_reads' HO0.out).2.2 0 p186 q186; obtain rfl : ad174 = ad186 := (by injection e186); have qi186 : (0 < l0.length) = True := eq_true (by omega); (try rw [show ((0 : Int)).toNat = 0 from rfl] at hx186_0); (try rw [show 0 * 2 = 0 from rfl] at hx186_0); (try rw [Addr.add_zero'] at hx186_0); (try rw [show ((0 : Int)).toNat = 0 from rfl] at hx186_1); (try rw [show 0 * 2 = 0 from rfl] at hx186_1); (try rw [Addr.add_zero'] at hx186_1); replace p186 := eq_true p186; replace q186 := eq_true q186))
     repeat (go_quiet (first | (go_at_call 36; (with_reducible refine (api_Run.calls _ _ l0 t181 _ ?side1 ?side2 A7.out).mono ?_); (case side1 => exact zC ((Kd.V_reads' HO0.out).2.2)); (case side2 => exact (Kd.V_reads' HO0.out).2.1); rintro e w10 ⟨v182, rfl, ho0, hb⟩; have HO183 := Aside0.mk (Kd.R_lower (Kd.R_newM (M := fun k_ => (w.heap.size ≤ k_)) ho0 (below_size (zB HB)) (fun k_ h_ => h_)) (below_size (zB HB))); replace HO0 := Aside0.mk (Kd.V_elder' (zV HO0) (Kd.R_base ho0) hb); replace HB := Aside0.mk (below_step (zB HB) hb); (try clear hb); (try clear hb2); (try clear hk); (try clear hi); (try clear ho0); obtain ⟨Ao11, co11, eo11⟩ := Kd.R_slice HO183.out; subst eo11; have p184 : 0 ≤ (0 : Int) := (by omega); have q184 : 0 < (t181.length : Int) := of_decide_eq_true (by first | (with_reducible assumption) | assumption); obtain ⟨ad184, e184, hx184_0, hx184_1⟩ := at_T62 (Kd.R_reads' HO183.out).2.2 0 p184 q184; cases e184; have qi184 : (0 < t181.length) = True := eq_true (by omega); (try rw [show ((0 : Int)).toNat = 0 from rfl] at hx184_0); (try rw [show 0 * 2 = 0 from rfl] at hx184_0); (try rw [Addr.add_zero'] at hx184_0); (try rw [show ((0 : Int)).toNat = 0 from rfl] at hx184_1); (try rw [show 0 * 2 = 0 from rfl] at hx184_1); (try rw [Addr.add_zero'] at hx184_1); replace p184 := eq_true p184; replace q184 := eq_true q184; have p9 : 0 ≤ (0 : Int) := (by omega); have q9 : (0 : Int) < ((t181.length : Int) : Int) := of_decide_eq_true (by first | (with_reducible assumption) | assumption); have qi9 : (0 < t181.length) = True := eq_true (by omega); obtain ⟨go9, co9, eo9, gb9, gl9, cl9, HG9⟩ := Kd.R_form HO183.out (by omega); (first | cases eo9 | (injection eo9 with ea_ en_ ec_; (first | subst ea_ | (injection ea_ with ea_; subst ea_)); subst ec_; clear en_)); have GB9 := Aside0.mk gb9; have GG9 := Aside0.mk HG9; clear gb9 gl9 HG9; (first | simp only [add_plain] at hx184_0 | skip); (first | simp only [add_plain] at hx184_1 | skip); obtain ⟨ce9, hcl9, hM9, hcc9, hfr9⟩ := Kd.R_elem HO183.out z62 (0 : Int) p9 q9; obtain rfl := k62_openM hM9; have hx9_0 : w10.cell? ⟨go9, (0 : Int).toNat * 2, none⟩ = some (.int .i64 ((rd_T62 t181 0).f0)) := hcc9 0 _ rfl; have hx9_1 : w10.cell? ⟨go9, (0 : Int).toNat * 2 + 1, none⟩ = some (.int .i64 ((rd_T62 t181 0).f1)) := hcc9 1 _ rfl; have hf9_0 : w10.frozen? ⟨go9, (0 : Int).toNat * 2, none⟩ = false := hfr9 0; have hf9_1 : w10.frozen? ⟨go9, (0 : Int).toNat * 2 + 1, none⟩ = false := hfr9 1; clear hcl9 hcc9 hfr9 hM9; (try rw [show ((0 : Int)).toNat = 0 from rfl] at hx9_0); (try simp only [Nat.reduceMul, Nat.zero_mul, Nat.zero_add, Nat.reduceAdd] at hx9_0); (try rw [show ((0 : Int)).toNat = 0 from rfl] at hf9_0); (try simp only [Nat.reduceMul, Nat.zero_mul, Nat.zero_add, Nat.reduceAdd] at hf9_0); (try rw [show ((0 : Int)).toNat = 0 from rfl] at hx9_1); (try simp only [Nat.reduceMul, Nat.zero_mul, Nat.zero_add, Nat.reduceAdd] at hx9_1); (try rw [show ((0 : Int)).toNat = 0 from rfl] at hf9_1); (try simp only [Nat.reduceMul, Nat.zero_mul, Nat.zero_add, Nat.reduceAdd] at hf9_1); replace p9 := eq_true p9; replace q9 := eq_true q9; have n_ := Aside0.mk (Kd.R_mono (ok' := (fun k_ => (w.heap.size ≤ k_))) HO183.out (fun k_ hk => hk.1)); clear HO183; have HO183 := n_; clear n_; have HX12 := Aside0.mk (show Kd.R k62 62 w10 w.heap.size (fun k_ => (w.heap.size ≤ k_)) (.slice (some ⟨go9, 0, none⟩) t181.length co11) t181 from (zR HO183)); obtain ⟨ce12, hcl12, hM12, hcc12, hfr12⟩ := Kd.R_elem HX12.out z62 (0 : Int) (by omega) (by have h_ : (0 : Int) < ((t181.length : Int) : Int) := of_decide_eq_true (by first | (with_reducible assumption) | assumption); first | exact h_ | (have e_ := (Kd.R_reads' HO183.out).1; omega) | simpa using h_); obtain rfl := k62_openM hM12; have HP12 := Kd.R_seg HX12.out (0 : Int) (by omega) (by have h_ : (0 : Int) < ((t181.length : Int) : Int) := of_decide_eq_true (by first | (with_reducible assumption) | assumption); first | exact h_ | (have e_ := (Kd.R_reads' HO183.out).1; omega) | simpa using h_) (seg := [.int .i64 (wrap64 (((rd_T62 t181 0).f1) - 1))]) (j := 1) hcl12 hcc12 (show 2 ≤ 2 from by decide) (x' := (⟨(rd_T62 t181 0).f0, wrap64 (((rd_T62 t181 0).f1) - 1)⟩ : S62)) (k62_mkM _ _ _ (⟨(rd_T62 t181 0).f0, wrap64 (((rd_T62 t181 0).f1) - 1)⟩ : S62) ) (fun _ hk => hk); have hx12_1 := hcc12 1 _ rfl; (try simp only [show (k62).sz = 2 from rfl, Nat.mul_one, Nat.add_zero] at hx12_1); (try rw [show ((0 : Int)).toNat = 0 from rfl] at hx12_1); (try simp only [Nat.reduceMul, Nat.zero_mul, Nat.zero_add, Nat.reduceAdd] at hx12_1); have hf12_1 := hfr12 1; (try simp only [show (k62).sz = 2 from rfl, Nat.mul_one, Nat.add_zero] at hf12_1); (try rw [show ((0 : Int)).toNat = 0 from rfl] at hf12_1); (try simp only [Nat.reduceMul, Nat.zero_mul, Nat.zero_add, Nat.reduceAdd] at hf12_1); clear hcl12 hcc12 hfr12 hM12) | ((with_reducible refine gate_store (t := 3) (p := 27) rfl ?_); (try (rw [drewN_self w10]; generalize hq_ : World.drewN w10 _ = w10; have n0_ := Aside0.mk (Kd.V_at hq_ HO0.out); have n1_ := Aside0.mk (Kd.R_at hq_ HO183.out); have n2_ := Aside0.mk (below_at hq_ HB.out); clear hq_ HO0 HO183 HB; have HO0 := n0_; have HO183 := n1_; have HB := n2_; clear n0_ n1_ n2_; (try (have n_ := Aside0.mk (Kd.R_mono (ok' := (fun k_ => (w.heap.size ≤ k_))) HO183.out (fun k_ hk => hk.1)); clear HO183; have HO183 := n_; clear n_)); (try (have HX12 := Aside0.mk (show Kd.R k62 62 w10 w.heap.size (fun k_ => (w.heap.size ≤ k_)) (.slice (some ⟨go9, 0, none⟩) t181.length co11) t181 from (zR HO183)))); (try (obtain ⟨ce12, hcl12, hM12, hcc12, hfr12⟩ := Kd.R_elem HX12.out z62 (0 : Int) (by omega) (by have h_ : (0 : Int) < ((t181.length : Int) : Int) := of_decide_eq_true (by first | (with_reducible assumption) | assumption); first | exact h_ | (have e_ := (Kd.R_reads' HO183.out).1; omega) | simpa using h_))); (try (obtain rfl := k62_openM hM12)); (try (have HP12 := Kd.R_seg HX12.out (0 : Int) (by omega) (by have h_ : (0 : Int) < ((t181.length : Int) : Int) := of_decide_eq_true (by first | (with_reducible assumption) | assumption); first | exact h_ | (have e_ := (Kd.R_reads' HO183.out).1; omega) | simpa using h_) (seg := [.int .i64 (wrap64 (((rd_T62 t181 0).f1) - 1))]) (j := 1) hcl12 hcc12 (show 2 ≤ 2 from by decide) (x' := (⟨(rd_T62 t181 0).f0, wrap64 (((rd_T62 t181 0).f1) - 1)⟩ : S62)) (k62_mkM _ _ _ (⟨(rd_T62 t181 0).f0, wrap64 (((rd_T62 t181 0).f1) - 1)⟩ : S62) ) (fun _ hk => hk))); (try (have hx12_1 := hcc12 1 _ rfl)); (try (try simp only [show (k62).sz = 2 from rfl, Nat.mul_one, Nat.add_zero] at hx12_1)); (try (try rw [show ((0 : Int)).toNat = 0 from rfl] at hx12_1)); (try (try simp only [Nat.reduceMul, Nat.zero_mul, Nat.zero_add, Nat.reduceAdd] at hx12_1)); (try (have hf12_1 := hfr12 1)); (try (try simp only [show (k62).sz = 2 from rfl, Nat.mul_one, Nat.add_zero] at hf12_1)); (try (try rw [show ((0 : Int)).toNat = 0 from rfl] at hf12_1)); (try (try simp only [Nat.reduceMul, Nat.zero_mul, Nat.zero_add, Nat.reduceAdd] at hf12_1)); (try (clear hcl12 hcc12 hfr12 hM12)))); refine store_event (t := 3) (p := 27) (v := ?vo_w13) (w1 := (w10.setCell ⟨go9, 1, none⟩ (.int .i64 (wrap64 (((rd_T62 t181 0).f1) - 1))))) ?hg ?ho ?hn ?hr ?_; (case ho => rfl); (case hg => rfl); (case hn => rfl); (case hr => first | (go_simp; done) | (go_simp; rfl)); intro w13 hw; have hg : w10.grownBy w13 (some go9) := (by rw [hw]; exact HP12.2); have hp_ : Kd.R k62 62 w13 w.heap.size (fun k_ => (w.heap.size ≤ k_)) (.slice (some ⟨go9, 0, none⟩) t181.length co11) y185 := (by rw [hw, Ny185.out]; exact HP12.1); clear HP12; replace HO0 := Aside0.mk (Kd.V_afterv (v := (.slice (some ⟨go9, 0, none⟩) t181.length co11)) (v1 := (.slice (some ⟨go9, 0, none⟩) t181.length co11)) (ok := (fun k_ => (P0_ k_ ∨ w.heap.size ≤ k_))) (zV HO0) hg (.inl rfl)); replace HO183 := Aside0.mk (hp_); replace HB := Aside0.mk ((by rw [hw]; exact below_set (HB.out) GB9.out : Below w.heap.size w w13)); clear hg hw hp_; have p186 : 0 ≤ (0 : Int) := (by omega); have q186 : 0 < (l0.length : Int) := of_decide_eq_true (by first | (with_reducible assumption) | assumption); obtain ⟨ad186, e186, hx186_0, hx186_1⟩ := at_T62 (Kd.V_reads' HO0.out).2.2 0 p186 q186; obtain rfl : ad174 = ad186 := (by injection e186); have qi186 : (0 < l0.length) = True := eq_true (by omega); (try rw [show ((0 : Int)).toNat = 0 from rfl] at hx186_0); (try rw [show 0 * 2 = 0 from rfl] at hx186_0); (try rw [Addr.add_zero'] at hx186_0); (try rw [show ((0 : Int)).toNat = 0 from rfl] at hx186_1); (try rw [show 0 * 2 = 0 from rfl] at hx186_1); (try rw [Addr.add_zero'] at hx186_1); replace p186 := eq_true p186; replace q186 := eq_true q186)); try go_wp2_with (first | (go_at_call 36; (with_reducible refine (api_Run.calls _ _ l0 t181 _ ?side1 ?side2 A7.out).mono ?_); (case side1 => exact zC ((Kd.V_reads' HO0.out).2.2)); (case side2 => exact (Kd.V_reads' HO0.out).2.1); rintro e w10 ⟨v182, rfl, ho0, hb⟩; have HO183 := Aside0.mk (Kd.R_lower (Kd.R_newM (M := fun k_ => (w.heap.size ≤ k_)) ho0 (below_size (zB HB)) (fun k_ h_ => h_)) (below_size (zB HB))); replace HO0 := Aside0.mk (Kd.V_elder' (zV HO0) (Kd.R_base ho0) hb); replace HB := Aside0.mk (below_step (zB HB) hb); (try clear hb); (try clear hb2); (try clear hk); (try clear hi); (try clear ho0); obtain ⟨Ao11, co11, eo11⟩ := Kd.R_slice HO183.out; subst eo11; have p184 : 0 ≤ (0 : Int) := (by omega); have q184 : 0 < (t181.length : Int) := of_decide_eq_true (by first | (with_reducible assumption) | assumption); obtain ⟨ad184, e184, hx184_0, hx184_1⟩ := at_T62 (Kd.R_reads' HO183.out).2.2 0 p184 q184; cases e184; have qi184 : (0 < t181.length) = True := eq_true (by omega); (try rw [show ((0 : Int)).toNat = 0 from rfl] at hx184_0); (try rw [show 0 * 2 = 0 from rfl] at hx184_0); (try rw [Addr.add_zero'] at hx184_0); (try rw [show ((0 : Int)).toNat = 0 from rfl] at hx184_1); (try rw [show 0 * 2 = 0 from rfl] at hx184_1); (try rw [Addr.add_zero'] at hx184_1); replace p184 := eq_true p184; replace q184 := eq_true q184; have p9 : 0 ≤ (0 : Int) := (by omega); have q9 : (0 : Int) < ((t181.length : Int) : Int) := of_decide_eq_true (by first | (with_reducible assumption) | assumption); have qi9 : (0 < t181.length) = True := eq_true (by omega); obtain ⟨go9, co9, eo9, gb9, gl9, cl9, HG9⟩ := Kd.R_form HO183.out (by omega); (first | cases eo9 | (injection eo9 with ea_ en_ ec_; (first | subst ea_ | (injection ea_ with ea_; subst ea_)); subst ec_; clear en_)); have GB9 := Aside0.mk gb9; have GG9 := Aside0.mk HG9; clear gb9 gl9 HG9; (first | simp only [add_plain] at hx184_0 | skip); (first | simp only [add_plain] at hx184_1 | skip); obtain ⟨ce9, hcl9, hM9, hcc9, hfr9⟩ := Kd.R_elem HO183.out z62 (0 : Int) p9 q9; obtain rfl := k62_openM hM9; have hx9_0 : w10.cell? ⟨go9, (0 : Int).toNat * 2, none⟩ = some (.int .i64 ((rd_T62 t181 0).f0)) := hcc9 0 _ rfl; have hx9_1 : w10.cell? ⟨go9, (0 : Int).toNat * 2 + 1, none⟩ = some (.int .i64 ((rd_T62 t181 0).f1)) := hcc9 1 _ rfl; have hf9_0 : w10.frozen? ⟨go9, (0 : Int).toNat * 2, none⟩ = false := hfr9 0; have hf9_1 : w10.frozen? ⟨go9, (0 : Int).toNat * 2 + 1, none⟩ = false := hfr9 1; clear hcl9 hcc9 hfr9 hM9; (try rw [show ((0 : Int)).toNat = 0 from rfl] at hx9_0); (try simp only [Nat.reduceMul, Nat.zero_mul, Nat.zero_add, Nat.reduceAdd] at hx9_0); (try rw [show ((0 : Int)).toNat = 0 from rfl] at hf9_0); (try simp only [Nat.reduceMul, Nat.zero_mul, Nat.zero_add, Nat.reduceAdd] at hf9_0); (try rw [show ((0 : Int)).toNat = 0 from rfl] at hx9_1); (try simp only [Nat.reduceMul, Nat.zero_mul, Nat.zero_add, Nat.reduceAdd] at hx9_1); (try rw [show ((0 : Int)).toNat = 0 from rfl] at hf9_1); (try simp only [Nat.reduceMul, Nat.zero_mul, Nat.zero_add, Nat.reduceAdd] at hf9_1); replace p9 := eq_true p9; replace q9 := eq_true q9; have n_ := Aside0.mk (Kd.R_mono (ok' := (fun k_ => (w.heap.size ≤ k_))) HO183.out (fun k_ hk => hk.1)); clear HO183; have HO183 := n_; clear n_; have HX12 := Aside0.mk (show Kd.R k62 62 w10 w.heap.size (fun k_ => (w.heap.size ≤ k_)) (.slice (some ⟨go9, 0, none⟩) t181.length co11) t181 from (zR HO183)); obtain ⟨ce12, hcl12, hM12, hcc12, hfr12⟩ := Kd.R_elem HX12.out z62 (0 : Int) (by omega) (by have h_ : (0 : Int) < ((t181.length : Int) : Int) := of_decide_eq_true (by first | (with_reducible assumption) | assumption); first | exact h_ | (have e_ := (Kd.R_reads' HO183.out).1; omega) | simpa using h_); obtain rfl := k62_openM hM12; have HP12 := Kd.R_seg HX12.out (0 : Int) (by omega) (by have h_ : (0 : Int) < ((t181.length : Int) : Int) := of_decide_eq_true (by first | (with_reducible assumption) | assumption); first | exact h_ | (have e_ := (Kd.R_reads' HO183.out).1; omega) | simpa using h_) (seg := [.int .i64 (wrap64 (((rd_T62 t181 0).f1) - 1))]) (j := 1) hcl12 hcc12 (show 2 ≤ 2 from by decide) (x' := (⟨(rd_T62 t181 0).f0, wrap64 (((rd_T62 t181 0).f1) - 1)⟩ : S62)) (k62_mkM _ _ _ (⟨(rd_T62 t181 0).f0, wrap64 (((rd_T62 t181 0).f1) - 1)⟩ : S62) ) (fun _ hk => hk); have hx12_1 := hcc12 1 _ rfl; (try simp only [show (k62).sz = 2 from rfl, Nat.mul_one, Nat.add_zero] at hx12_1); (try rw [show ((0 : Int)).toNat = 0 from rfl] at hx12_1); (try simp only [Nat.reduceMul, Nat.zero_mul, Nat.zero_add, Nat.reduceAdd] at hx12_1); have hf12_1 := hfr12 1; (try simp only [show (k62).sz = 2 from rfl, Nat.mul_one, Nat.add_zero] at hf12_1); (try rw [show ((0 : Int)).toNat = 0 from rfl] at hf12_1); (try simp only [Nat.reduceMul, Nat.zero_mul, Nat.zero_add, Nat.reduceAdd] at hf12_1); clear hcl12 hcc12 hfr12 hM12) | ((with_reducible refine gate_store (t := 3) (p := 27) rfl ?_); (try (rw [drewN_self w10]; generalize hq_ : World.drewN w10 _ = w10; have n0_ := Aside0.mk (Kd.V_at hq_ HO0.out); have n1_ := Aside0.mk (Kd.R_at hq_ HO183.out); have n2_ := Aside0.mk (below_at hq_ HB.out); clear hq_ HO0 HO183 HB; have HO0 := n0_; have HO183 := n1_; have HB := n2_; clear n0_ n1_ n2_; (try (have n_ := Aside0.mk (Kd.R_mono (ok' := (fun k_ => (w.heap.size ≤ k_))) HO183.out (fun k_ hk => hk.1)); clear HO183; have HO183 := n_; clear n_)); (try (have HX12 := Aside0.mk (show Kd.R k62 62 w10 w.heap.size (fun k_ => (w.heap.size ≤ k_)) (.slice (some ⟨go9, 0, none⟩) t181.length co11) t181 from (zR HO183)))); (try (obtain ⟨ce12, hcl12, hM12, hcc12, hfr12⟩ := Kd.R_elem HX12.out z62 (0 : Int) (by omega) (by have h_ : (0 : Int) < ((t181.length : Int) : Int) := of_decide_eq_true (by first | (with_reducible assumption) | assumption); first | exact h_ | (have e_ := (Kd.R_reads' HO183.out).1; omega) | simpa using h_))); (try (obtain rfl := k62_openM hM12)); (try (have HP12 := Kd.R_seg HX12.out (0 : Int) (by omega) (by have h_ : (0 : Int) < ((t181.length : Int) : Int) := of_decide_eq_true (by first | (with_reducible assumption) | assumption); first | exact h_ | (have e_ := (Kd.R_reads' HO183.out).1; omega) | simpa using h_) (seg := [.int .i64 (wrap64 (((rd_T62 t181 0).f1) - 1))]) (j := 1) hcl12 hcc12 (show 2 ≤ 2 from by decide) (x' := (⟨(rd_T62 t181 0).f0, wrap64 (((rd_T62 t181 0).f1) - 1)⟩ : S62)) (k62_mkM _ _ _ (⟨(rd_T62 t181 0).f0, wrap64 (((rd_T62 t181 0).f1) - 1)⟩ : S62) ) (fun _ hk => hk))); (try (have hx12_1 := hcc12 1 _ rfl)); (try (try simp only [show (k62).sz = 2 from rfl, Nat.mul_one, Nat.add_zero] at hx12_1)); (try (try rw [show ((0 : Int)).toNat = 0 from rfl] at hx12_1)); (try (try simp only [Nat.reduceMul, Nat.zero_mul, Nat.zero_add, Nat.reduceAdd] at hx12_1)); (try (have hf12_1 := hfr12 1)); (try (try simp only [show (k62).sz = 2 from rfl, Nat.mul_one, Nat.add_zero] at hf12_1)); (try (try rw [show ((0 : Int)).toNat = 0 from rfl] at hf12_1)); (try (try simp only [Nat.reduceMul, Nat.zero_mul, Nat.zero_add, Nat.reduceAdd] at hf12_1)); (try (clear hcl12 hcc12 hfr12 hM12)))); refine store_event (t := 3) (p := 27) (v := ?vo_w13) (w1 := (w10.setCell ⟨go9, 1, none⟩ (.int .i64 (wrap64 (((rd_T62 t181 0).f1) - 1))))) ?hg ?ho ?hn ?hr ?_; (case ho => rfl); (case hg => rfl); (case hn => rfl); (case hr => first | (go_simp; done) | (go_simp; rfl)); intro w13 hw; have hg : w10.grownBy w13 (some go9) := (by rw [hw]; exact HP12.2); have hp_ : Kd.R k62 62 w13 w.heap.size (fun k_ => (w.heap.size ≤ k_)) (.slice (some ⟨go9, 0, none⟩) t181.length co11) y185 := (by rw [hw, Ny185.out]; exact HP12.1); clear HP12; replace HO0 := Aside0.mk (Kd.V_afterv (v := (.slice (some ⟨go9, 0, none⟩) t181.length co11)) (v1 := (.slice (some ⟨go9, 0, none⟩) t181.length co11)) (ok := (fun k_ => (P0_ k_ ∨ w.heap.size ≤ k_))) (zV HO0) hg (.inl rfl)); replace HO183 := Aside0.mk (hp_); replace HB := Aside0.mk ((by rw [hw]; exact below_set (HB.out) GB9.out : Below w.heap.size w w13)); clear hg hw hp_; have p186 : 0 ≤ (0 : Int) := (by omega); have q186 : 0 < (l0.length : Int) := of_decide_eq_true (by first | (with_reducible assumption) | assumption); obtain ⟨ad186, e186, hx186_0, hx186_1⟩ := at_T62 (Kd.V_reads' HO0.out).2.2 0 p186 q186; obtain rfl : ad174 = ad186 := (by injection e186); have qi186 : (0 < l0.length) = True := eq_true (by omega); (try rw [show ((0 : Int)).toNat = 0 from rfl] at hx186_0); (try rw [show 0 * 2 = 0 from rfl] at hx186_0); (try rw [Addr.add_zero'] at hx186_0); (try rw [show ((0 : Int)).toNat = 0 from rfl] at hx186_1); (try rw [show 0 * 2 = 0 from rfl] at hx186_1); (try rw [Addr.add_zero'] at hx186_1); replace p186 := eq_true p186; replace q186 := eq_true q186)))
     go_ret2
     exact ⟨_, by first | rfl | (simp [errW_none, errW_some] <;> rfl) | (simp [*, errW_none, errW_some] <;> rfl), Kd.V_mono (Kd.R_V (zR HO183)) (fun k_ hk => by first | exact ⟨(.inr (hk.1)), hk.2⟩ | exact (.inr (hk))), zB HB⟩
    ·
     rw [if_neg c8] at H
     exact absurd H (by simp)
  ·
   rw [if_neg c3] at H
   exact absurd H (by simp)

end Go.Proofs.Ytpemcbjdlpajlaa.G1
