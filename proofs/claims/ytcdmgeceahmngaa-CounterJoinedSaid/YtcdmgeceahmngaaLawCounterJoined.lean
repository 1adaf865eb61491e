/- The law CounterJoined of the given program returns true for every input, and every argument reads behind the call as it read before. No condition. -/
import Derived.Test.YtcdmgeceahmngaaRows
import Derived.Test.YtcdmgeceahmngaaPureCounterJoined
import Derived.Test.YtcdmgeceahmngaaOpen
import Derived.WalkKit
import Derived.ProofKit
import Derived.OpenShut
import Derived.ShutString
import Derived.ChangeOld
import Derived.Below
import Derived.SizedLaws
namespace Go.Proofs.Ytcdmgeceahmngaa.counterJoined
open Go.ChangeShapes Go.WideShapes Go.ChangeAt Go.RowKit Go.Proofs.YtcdmgeceahmngaaW.PrintWords Go.Proofs.Ytcdmgeceahmngaa.GC
open Go.ChangeMaps (open_string shut_string)
set_option linter.unusedVariables false
theorem own : ownKnob Try.prog.godebug = none := by kernel_rfl
theorem laidOut : laidOutB Try.prog = true := by kernel_rfl
set_option maxHeartbeats 2000000 in
set_option maxRecDepth 100000 in
theorem lifted (os : Os) (started : os.Started) (H : Type) (enc : TypeId × Value → H) :
    ReturnsInHanded {} Try.checked os 3 .any (Rows.counterJoinedSpec.pre6 enc Try.prog Try.f3 Rows.counterJoinedRow.domain false) (Rows.counterJoinedSpec.post enc Try.prog Try.f3 false true false false) := by
  refine returnsInHanded_of_change_sized (C := Try.checked) own started (by kernel_rfl) Try.func3
    (ChangeSpec.witness6 (enc := enc) (C := Try.checked) false ⟨#[], #[.agg #[.int .i64 0, .slice none 0 0], .agg #[.int .i64 0, .slice none 0 0], .slice none 0 0], []⟩ 8 (by kernel_rfl) (by kernel_rfl) (by kernel_rfl) (by kernel_rfl)) ?_
  intro W base args ds gs before hval0 hW hcnd hsz0 _
  have hsz : (DataW.weightsEach Try.prog (Try.f3.params.toList ++ Rows.counterJoinedSpec.plain.varTypes Try.prog) (ds ++ gs)).all (· ≤ reachBytes) = true := hsz0
  have hval : ∀ (j : Nat) t v, Try.f3.params[j]? = some t → args[j]? = some v → Value.okWide Try.prog W .any base t v := hval0
  have hW' := hW
  obtain ⟨p, q, hA0, hV, rfl, hfz, hnd⟩ := hW
  have hA : DataW.TrodAll enc Try.prog W 0 (fun _ => true) true Try.f3.params.toList args.toList ds p := hA0
  rw [Try.params3] at hA hval hsz
  obtain ⟨v0, vs0, d0, ds0, p0, q0, hargs, rfl, rfl, h0, r0⟩ := trodAll_cons hA
  obtain ⟨v1, vs1, d1, ds1, p1, q1, rfl, rfl, rfl, h1, r1⟩ := trodAll_cons r0
  obtain ⟨v2, vs2, d2, ds2, p2, q2, rfl, rfl, rfl, h2, r2⟩ := trodAll_cons r1
  obtain ⟨rfl, rfl, rfl⟩ := trodAll_nil r2
  obtain rfl : args = #[v0, v1, v2] := by cases args; simp_all
  obtain ⟨rfl, rfl⟩ := trodVars_none hV
  obtain ⟨cs0, rfl, zs0⟩ := okWide_struct Try.underlying24 (hval 0 24 v0 rfl rfl)
  have k0 := h0
  have lt0 : ∀ x ∈ p0, x.block < W.heap.size := by obtain ⟨m, hm⟩ := k0; exact DataW.trod_lt m _ _ _ hm
  obtain ⟨⟨x0_0, x0_1⟩, K0, o0⟩ := Open.opens_arg (j := 0) (Open.opens_struct (T := 24) (fun p => p) (fun p => p) (fun _ => rfl) Try.underlying24 (by kernel_rfl) (Open.opensL_cons rfl (by kernel_rfl) (Open.opens_int (k := .i64) Try.underlying3) (o' := 1) rfl (Open.opensL_one rfl (by kernel_rfl) (Open.opens_slice (E := 35) (B := 32) Try.underlying22 (by kernel_rfl) (by kernel_rfl) (Open.opens_struct (T := 35) (fun x : S35 => (x.f0, x.f1, x.f2, x.f3)) (fun p => ⟨p.1, p.2.1, p.2.2.1, p.2.2.2⟩) (fun _ => rfl) Try.underlying35 (by kernel_rfl) (Open.opensL_cons rfl (by kernel_rfl) (Open.opens_int (k := .i64) Try.underlying3) (o' := 1) rfl (Open.opensL_cons rfl (by kernel_rfl) (Open.opens_int (k := .i64) Try.underlying3) (o' := 2) rfl (Open.opensL_cons rfl (by kernel_rfl) (Open.opens_int (k := .i64) Try.underlying3) (o' := 3) rfl (Open.opensL_one rfl (by kernel_rfl) (Open.opens_int (k := .i64) Try.underlying3)))))))))) h0 hsz rfl rfl
  obtain ⟨_, _, e0, rfl, ⟨A0_1, c0_1, rfl, l0_1, C0_1⟩⟩ := K0
  obtain rfl : cs0 = #[.int .i64 x0_0, .slice A0_1 x0_1.length c0_1] := by
    have e : cs0.toList = _ := e0
    cases cs0
    simp only [List.cons_append, List.nil_append] at e
    subst e
    rfl
  obtain ⟨o0_0, o0_1⟩ := o0
  obtain ⟨cs1, rfl, zs1⟩ := okWide_struct Try.underlying24 (hval 1 24 v1 rfl rfl)
  have k1 := h1
  have lt1 : ∀ x ∈ p1, x.block < W.heap.size := by obtain ⟨m, hm⟩ := k1; exact DataW.trod_lt m _ _ _ hm
  obtain ⟨⟨x1_0, x1_1⟩, K1, o1⟩ := Open.opens_arg (j := 1) (Open.opens_struct (T := 24) (fun p => p) (fun p => p) (fun _ => rfl) Try.underlying24 (by kernel_rfl) (Open.opensL_cons rfl (by kernel_rfl) (Open.opens_int (k := .i64) Try.underlying3) (o' := 1) rfl (Open.opensL_one rfl (by kernel_rfl) (Open.opens_slice (E := 35) (B := 32) Try.underlying22 (by kernel_rfl) (by kernel_rfl) (Open.opens_struct (T := 35) (fun x : S35 => (x.f0, x.f1, x.f2, x.f3)) (fun p => ⟨p.1, p.2.1, p.2.2.1, p.2.2.2⟩) (fun _ => rfl) Try.underlying35 (by kernel_rfl) (Open.opensL_cons rfl (by kernel_rfl) (Open.opens_int (k := .i64) Try.underlying3) (o' := 1) rfl (Open.opensL_cons rfl (by kernel_rfl) (Open.opens_int (k := .i64) Try.underlying3) (o' := 2) rfl (Open.opensL_cons rfl (by kernel_rfl) (Open.opens_int (k := .i64) Try.underlying3) (o' := 3) rfl (Open.opensL_one rfl (by kernel_rfl) (Open.opens_int (k := .i64) Try.underlying3)))))))))) h1 hsz rfl rfl
  obtain ⟨_, _, e1, rfl, ⟨A1_1, c1_1, rfl, l1_1, C1_1⟩⟩ := K1
  obtain rfl : cs1 = #[.int .i64 x1_0, .slice A1_1 x1_1.length c1_1] := by
    have e : cs1.toList = _ := e1
    cases cs1
    simp only [List.cons_append, List.nil_append] at e
    subst e
    rfl
  obtain ⟨o1_0, o1_1⟩ := o1
  obtain ⟨ad2, len2, cap2, rfl⟩ := okWide_slice Try.underlying25 (hval 2 25 v2 rfl rfl)
  have k2 := h2
  have lt2 : ∀ x ∈ p2, x.block < W.heap.size := by obtain ⟨m, hm⟩ := k2; exact DataW.trod_lt m _ _ _ hm
  obtain ⟨x2, K2, o2⟩ := Open.opens_arg (j := 2) (Open.opens_slice (E := 3) (B := 8) Try.underlying25 (by kernel_rfl) (by kernel_rfl) (Open.opens_int (k := .i64) Try.underlying3)) h2 hsz rfl rfl
  obtain ⟨A2, c2, e2, l2, C2⟩ := K2
  obtain ⟨rfl, rfl, rfl⟩ : ad2 = A2 ∧ len2 = x2.length ∧ cap2 = c2 := by simpa [Value.cells] using e2
  clear hA0 hval0 hsz0 hsz
  obtain ⟨k, hk⟩ := Pure.CounterJoined x0_0 x0_1 x1_0 x1_1 x2 o0_0 o0_1 o1_0 o1_1 o2
  refine (standstilllaw06_CounterJoined.calls k x0_0 _ _ x0_1 x1_0 _ _ x1_1 _ _ x2 true W C0_1 l0_1 C1_1 l1_1 C2 l2 hk).mono fun e W' ⟨he, bel⟩ => ?_
  subst he
  exact ⟨_, rfl, _, _, _, [], _, [], hW', trodAll_mk1 (shut_bool Try.underlying4 _), (trodAll_cons_mk (Below.trod laidOut (by kernel_rfl) (of_decide_eq_true (by kernel_rfl)) k0 bel lt0) (trodAll_cons_mk (Below.trod laidOut (by kernel_rfl) (of_decide_eq_true (by kernel_rfl)) k1 bel lt1) (trodAll_cons_mk (Below.trod laidOut (by kernel_rfl) (of_decide_eq_true (by kernel_rfl)) k2 bel lt2) trodAll_mk0))), rfl, bel.frame _, fun h => by cases h⟩
theorem over : Rows.counterJoinedRow.holds Try.pinned (OpenSpec.ofChange Rows.counterJoinedSpec) :=
  OpenClaim.holds_of_wide 3 Try.f3 rfl rfl rfl rfl rfl rfl rfl ⟨rfl, rfl, rfl, rfl, rfl⟩ rfl rfl rfl rfl rfl (by kernel_rfl) Try.func3 (by kernel_rfl)
    (of_decide_eq_true (by kernel_rfl)) (by unfold Func.isWrapper; first | (rw [if_pos (by decide +kernel)]; kernel_rfl) | (rw [if_neg (by decide +kernel)]; exact ⟨rfl, rfl⟩))
    (fun os started H enc _ => lifted os started H enc)
theorem proved : Rows.CounterJoinedSaid := over
#print axioms proved
end Go.Proofs.Ytcdmgeceahmngaa.counterJoined
namespace Go.Proofs.Ytcdmgeceahmngaa
/-- The row, under a short name, for the claim. -/
theorem counterJoined_holds : Rows.CounterJoinedSaid := counterJoined.proved
end Go.Proofs.Ytcdmgeceahmngaa
