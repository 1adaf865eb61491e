/- The law TagNames of the given program returns true for every input, and every argument reads behind the call as it read before. No condition. -/
import Derived.Test.YtokhlcljpjfpmaaRows
import Derived.Test.YtokhlcljpjfpmaaPureTagNames
import Derived.Test.YtokhlcljpjfpmaaGNx7
import Derived.Test.YtokhlcljpjfpmaaOpen
import Derived.WalkKit
import Derived.ProofKit
import Derived.OpenShut
import Derived.ShutString
import Derived.ChangeOld
import Derived.Below
import Derived.SizedLaws
namespace Go.Proofs.Ytokhlcljpjfpmaa.tagNames
open Go.ChangeShapes Go.WideShapes Go.ChangeAt Go.RowKit Go.Proofs.YtokhlcljpjfpmaaW.PrintWords Go.Proofs.Ytokhlcljpjfpmaa.GN
open Go.ChangeMaps (open_string shut_string)
set_option linter.unusedVariables false
theorem own : ownKnob Try.prog.godebug = none := by kernel_rfl
theorem laidOut : laidOutB Try.prog = true := by kernel_rfl
set_option maxHeartbeats 2000000 in
set_option maxRecDepth 100000 in
theorem lifted (os : Os) (started : os.Started) (H : Type) (enc : TypeId × Value → H) :
    ReturnsInHanded {} Try.checked os 3 .any (Rows.tagNamesSpec.pre6 enc Try.prog Try.f3 Rows.tagNamesRow.domain false) (Rows.tagNamesSpec.post enc Try.prog Try.f3 false true false false) := by
  refine returnsInHanded_of_change_sized (C := Try.checked) own started (by kernel_rfl) Try.func3
    (ChangeSpec.witness6 (enc := enc) (C := Try.checked) false ⟨#[], #[.agg #[.int .i64 0, .slice none 0 0, .slice none 0 0], .slice none 0 0, .slice none 0 0, .int .u8 0], []⟩ 8 (by kernel_rfl) (by kernel_rfl) (by kernel_rfl) (by kernel_rfl)) ?_
  intro W base args ds gs before hval0 hW hcnd hsz0 _
  have hsz : (DataW.weightsEach Try.prog (Try.f3.params.toList ++ Rows.tagNamesSpec.plain.varTypes Try.prog) (ds ++ gs)).all (· ≤ reachBytes) = true := hsz0
  have hval : ∀ (j : Nat) t v, Try.f3.params[j]? = some t → args[j]? = some v → Value.okWide Try.prog W .any base t v := hval0
  have hW' := hW
  obtain ⟨p, q, hA0, hV, rfl, hfz, hnd⟩ := hW
  have hA : DataW.TrodAll enc Try.prog W 0 (fun _ => true) true Try.f3.params.toList args.toList ds p := hA0
  rw [Try.params3] at hA hval hsz
  obtain ⟨v0, vs0, d0, ds0, p0, q0, hargs, rfl, rfl, h0, r0⟩ := trodAll_cons hA
  obtain ⟨v1, vs1, d1, ds1, p1, q1, rfl, rfl, rfl, h1, r1⟩ := trodAll_cons r0
  obtain ⟨v2, vs2, d2, ds2, p2, q2, rfl, rfl, rfl, h2, r2⟩ := trodAll_cons r1
  obtain ⟨v3, vs3, d3, ds3, p3, q3, rfl, rfl, rfl, h3, r3⟩ := trodAll_cons r2
  obtain ⟨rfl, rfl, rfl⟩ := trodAll_nil r3
  obtain rfl : args = #[v0, v1, v2, v3] := by cases args; simp_all
  obtain ⟨rfl, rfl⟩ := trodVars_none hV
  obtain ⟨cs0, rfl, zs0⟩ := okWide_struct Try.underlying25 (hval 0 25 v0 rfl rfl)
  have k0 := h0
  have lt0 : ∀ x ∈ p0, x.block < W.heap.size := by obtain ⟨m, hm⟩ := k0; exact DataW.trod_lt m _ _ _ hm
  obtain ⟨⟨x0_0, x0_1, x0_2⟩, K0, o0⟩ := Open.opens_arg (j := 0) (Open.opens_struct (T := 25) (fun p => p) (fun p => p) (fun _ => rfl) Try.underlying25 (by kernel_rfl) (Open.opensL_cons rfl (by kernel_rfl) (Open.opens_int (k := .i64) Try.underlying3) (o' := 1) rfl (Open.opensL_cons rfl (by kernel_rfl) (Open.opens_slice (E := 26) (B := 24) Try.underlying22 (by kernel_rfl) (by kernel_rfl) (Open.opens_slice (E := 3) (B := 8) Try.underlying26 (by kernel_rfl) (by kernel_rfl) (Open.opens_int (k := .i64) Try.underlying3))) (o' := 2) rfl (Open.opensL_one rfl (by kernel_rfl) (Open.opens_slice (E := 4) (B := 1) Try.underlying23 (by kernel_rfl) (by kernel_rfl) (Open.opens_bool Try.underlying4)))))) h0 hsz rfl rfl
  obtain ⟨_, _, e0, rfl, ⟨_, _, rfl, ⟨A0_1, c0_1, rfl, l0_1, C0_1⟩, ⟨A0_2, c0_2, rfl, l0_2, C0_2⟩⟩⟩ := K0
  obtain rfl : cs0 = #[.int .i64 x0_0, .slice A0_1 x0_1.length c0_1, .slice A0_2 x0_2.length c0_2] := by
    have e : cs0.toList = _ := e0
    cases cs0
    simp only [List.cons_append, List.nil_append] at e
    subst e
    rfl
  obtain ⟨o0_0, o0_1, o0_2⟩ := o0
  obtain ⟨ad1, len1, cap1, rfl⟩ := okWide_slice Try.underlying26 (hval 1 26 v1 rfl rfl)
  have k1 := h1
  have lt1 : ∀ x ∈ p1, x.block < W.heap.size := by obtain ⟨m, hm⟩ := k1; exact DataW.trod_lt m _ _ _ hm
  obtain ⟨x1, K1, o1⟩ := Open.opens_arg (j := 1) (Open.opens_slice (E := 3) (B := 8) Try.underlying26 (by kernel_rfl) (by kernel_rfl) (Open.opens_int (k := .i64) Try.underlying3)) h1 hsz rfl rfl
  obtain ⟨A1, c1, e1, l1, C1⟩ := K1
  obtain ⟨rfl, rfl, rfl⟩ : ad1 = A1 ∧ len1 = x1.length ∧ cap1 = c1 := by simpa [Value.cells] using e1
  obtain ⟨ad2, len2, cap2, rfl⟩ := okWide_slice Try.underlying26 (hval 2 26 v2 rfl rfl)
  have k2 := h2
  have lt2 : ∀ x ∈ p2, x.block < W.heap.size := by obtain ⟨m, hm⟩ := k2; exact DataW.trod_lt m _ _ _ hm
  obtain ⟨x2, K2, o2⟩ := Open.opens_arg (j := 2) (Open.opens_slice (E := 3) (B := 8) Try.underlying26 (by kernel_rfl) (by kernel_rfl) (Open.opens_int (k := .i64) Try.underlying3)) h2 hsz rfl rfl
  obtain ⟨A2, c2, e2, l2, C2⟩ := K2
  obtain ⟨rfl, rfl, rfl⟩ : ad2 = A2 ∧ len2 = x2.length ∧ cap2 = c2 := by simpa [Value.cells] using e2
  obtain ⟨b3, rfl, rfl, rfl, w3⟩ := open_int Try.underlying5 (hval 3 5 v3 rfl rfl) h3
  clear hA0 hval0 hsz0 hsz
  obtain ⟨k, hk⟩ := Pure.TagNames x0_0 x0_1 x0_2 x1 x2 b3 o0_0 o0_1 o0_2 o1 o2 w3
  refine (standstilllaw07_TagNames.calls k x0_0 _ _ x0_1 _ _ x0_2 _ _ x1 _ _ x2 b3 true W C0_1 l0_1 C0_2 l0_2 C1 l1 C2 l2 hk).mono fun e W' ⟨he, bel⟩ => ?_
  subst he
  exact ⟨_, rfl, _, _, _, [], _, [], hW', trodAll_mk1 (shut_bool Try.underlying4 _), (trodAll_cons_mk (Below.trod laidOut (by kernel_rfl) (of_decide_eq_true (by kernel_rfl)) k0 bel lt0) (trodAll_cons_mk (Below.trod laidOut (by kernel_rfl) (of_decide_eq_true (by kernel_rfl)) k1 bel lt1) (trodAll_cons_mk (Below.trod laidOut (by kernel_rfl) (of_decide_eq_true (by kernel_rfl)) k2 bel lt2) (trodAll_cons_mk (shut_int Try.underlying5 w3) trodAll_mk0)))), rfl, bel.frame _, fun h => by cases h⟩
theorem over : Rows.tagNamesRow.holds Try.pinned (OpenSpec.ofChange Rows.tagNamesSpec) :=
  OpenClaim.holds_of_wide 3 Try.f3 rfl rfl rfl rfl rfl rfl rfl ⟨rfl, rfl, rfl, rfl, rfl⟩ rfl rfl rfl rfl rfl (by kernel_rfl) Try.func3 (by kernel_rfl)
    (of_decide_eq_true (by kernel_rfl)) (by unfold Func.isWrapper; first | (rw [if_pos (by decide +kernel)]; kernel_rfl) | (rw [if_neg (by decide +kernel)]; exact ⟨rfl, rfl⟩))
    (fun os started H enc _ => lifted os started H enc)
theorem proved : Rows.TagNamesSaid := over
#print axioms proved
end Go.Proofs.Ytokhlcljpjfpmaa.tagNames
namespace Go.Proofs.Ytokhlcljpjfpmaa
/-- The row, under a short name, for the claim. -/
theorem tagNames_holds : Rows.TagNamesSaid := tagNames.proved
end Go.Proofs.Ytokhlcljpjfpmaa
