/- The law BlockParts of the given program returns true for every input, and every argument reads behind the call as it read before. No condition. -/
import Derived.Test.YtfjfnpegpcdnaaaRows
import Derived.Test.YtfjfnpegpcdnaaaPureBlockParts
import Derived.Test.YtfjfnpegpcdnaaaOpen
import Derived.WalkKit
import Derived.ProofKit
import Derived.OpenShut
import Derived.ShutString
import Derived.ChangeOld
import Derived.Below
import Derived.SizedLaws
namespace Go.Proofs.Ytfjfnpegpcdnaaa.blockParts
open Go.ChangeShapes Go.WideShapes Go.ChangeAt Go.RowKit Go.Proofs.YtfjfnpegpcdnaaaW.PrintWords Go.Proofs.Ytfjfnpegpcdnaaa.GB
open Go.ChangeMaps (open_string shut_string)
set_option linter.unusedVariables false
theorem own : ownKnob Try.prog.godebug = none := by kernel_rfl
theorem laidOut : laidOutB Try.prog = true := by kernel_rfl
set_option maxHeartbeats 2000000 in
set_option maxRecDepth 100000 in
theorem lifted (os : Os) (started : os.Started) (H : Type) (enc : TypeId × Value → H) :
    ReturnsInHanded {} Try.checked os 4 .any (Rows.blockPartsSpec.pre6 enc Try.prog Try.f4 Rows.blockPartsRow.domain false) (Rows.blockPartsSpec.post enc Try.prog Try.f4 false true false false) := by
  refine returnsInHanded_of_change_sized (C := Try.checked) own started (by kernel_rfl) Try.func4
    (ChangeSpec.witness6 (enc := enc) (C := Try.checked) false ⟨#[], #[.agg #[.int .i64 0, .int .i64 0, .slice none 0 0], .int .i64 0, .int .i64 0, .slice none 0 0, .int .u8 0], []⟩ 8 (by kernel_rfl) (by kernel_rfl) (by kernel_rfl) (by kernel_rfl)) ?_
  intro W base args ds gs before hval0 hW hcnd hsz0 _
  have hsz : (DataW.weightsEach Try.prog (Try.f4.params.toList ++ Rows.blockPartsSpec.plain.varTypes Try.prog) (ds ++ gs)).all (· ≤ reachBytes) = true := hsz0
  have hval : ∀ (j : Nat) t v, Try.f4.params[j]? = some t → args[j]? = some v → Value.okWide Try.prog W .any base t v := hval0
  have hW' := hW
  obtain ⟨p, q, hA0, hV, rfl, hfz, hnd⟩ := hW
  have hA : DataW.TrodAll enc Try.prog W 0 (fun _ => true) true Try.f4.params.toList args.toList ds p := hA0
  rw [Try.params4] at hA hval hsz
  obtain ⟨v0, vs0, d0, ds0, p0, q0, hargs, rfl, rfl, h0, r0⟩ := trodAll_cons hA
  obtain ⟨v1, vs1, d1, ds1, p1, q1, rfl, rfl, rfl, h1, r1⟩ := trodAll_cons r0
  obtain ⟨v2, vs2, d2, ds2, p2, q2, rfl, rfl, rfl, h2, r2⟩ := trodAll_cons r1
  obtain ⟨v3, vs3, d3, ds3, p3, q3, rfl, rfl, rfl, h3, r3⟩ := trodAll_cons r2
  obtain ⟨v4, vs4, d4, ds4, p4, q4, rfl, rfl, rfl, h4, r4⟩ := trodAll_cons r3
  obtain ⟨rfl, rfl, rfl⟩ := trodAll_nil r4
  obtain rfl : args = #[v0, v1, v2, v3, v4] := by cases args; simp_all
  obtain ⟨rfl, rfl⟩ := trodVars_none hV
  obtain ⟨cs0, rfl, zs0⟩ := okWide_struct Try.underlying24 (hval 0 24 v0 rfl rfl)
  have k0 := h0
  have lt0 : ∀ x ∈ p0, x.block < W.heap.size := by obtain ⟨m, hm⟩ := k0; exact DataW.trod_lt m _ _ _ hm
  obtain ⟨⟨x0_0, x0_1, x0_2⟩, K0, o0⟩ := Open.opens_arg (j := 0) (Open.opens_struct (T := 24) (fun p => p) (fun p => p) (fun _ => rfl) Try.underlying24 (by kernel_rfl) (Open.opensL_cons rfl (by kernel_rfl) (Open.opens_int (k := .i64) Try.underlying3) (o' := 1) rfl (Open.opensL_cons rfl (by kernel_rfl) (Open.opens_int (k := .i64) Try.underlying3) (o' := 2) rfl (Open.opensL_one rfl (by kernel_rfl) (Open.opens_slice (E := 54) (B := 24) Try.underlying22 (by kernel_rfl) (by kernel_rfl) (Open.opens_slice (E := 57) (B := 24) Try.underlying54 (by kernel_rfl) (by kernel_rfl) (Open.opens_struct (T := 57) (fun x : S57 => (x.f0, x.f1, x.f2)) (fun p => ⟨p.1, p.2.1, p.2.2⟩) (fun _ => rfl) Try.underlying57 (by kernel_rfl) (Open.opensL_cons rfl (by kernel_rfl) (Open.opens_int (k := .i64) Try.underlying3) (o' := 1) rfl (Open.opensL_cons rfl (by kernel_rfl) (Open.opens_int (k := .i64) Try.underlying3) (o' := 2) rfl (Open.opensL_one rfl (by kernel_rfl) (Open.opens_int (k := .i64) Try.underlying3))))))))))) h0 hsz rfl rfl
  obtain ⟨_, _, e0, rfl, ⟨_, _, rfl, rfl, ⟨A0_2, c0_2, rfl, l0_2, C0_2⟩⟩⟩ := K0
  obtain rfl : cs0 = #[.int .i64 x0_0, .int .i64 x0_1, .slice A0_2 x0_2.length c0_2] := by
    have e : cs0.toList = _ := e0
    cases cs0
    simp only [List.cons_append, List.nil_append] at e
    subst e
    rfl
  obtain ⟨o0_0, o0_1, o0_2⟩ := o0
  obtain ⟨b1, rfl, rfl, rfl, w1⟩ := open_int Try.underlying3 (hval 1 3 v1 rfl rfl) h1
  obtain ⟨b2, rfl, rfl, rfl, w2⟩ := open_int Try.underlying3 (hval 2 3 v2 rfl rfl) h2
  obtain ⟨ad3, len3, cap3, rfl⟩ := okWide_slice Try.underlying25 (hval 3 25 v3 rfl rfl)
  have k3 := h3
  have lt3 : ∀ x ∈ p3, x.block < W.heap.size := by obtain ⟨m, hm⟩ := k3; exact DataW.trod_lt m _ _ _ hm
  obtain ⟨x3, K3, o3⟩ := Open.opens_arg (j := 3) (Open.opens_slice (E := 3) (B := 8) Try.underlying25 (by kernel_rfl) (by kernel_rfl) (Open.opens_int (k := .i64) Try.underlying3)) h3 hsz rfl rfl
  obtain ⟨A3, c3, e3, l3, C3⟩ := K3
  obtain ⟨rfl, rfl, rfl⟩ : ad3 = A3 ∧ len3 = x3.length ∧ cap3 = c3 := by simpa [Value.cells] using e3
  obtain ⟨b4, rfl, rfl, rfl, w4⟩ := open_int Try.underlying5 (hval 4 5 v4 rfl rfl) h4
  clear hA0 hval0 hsz0 hsz
  obtain ⟨k, hk⟩ := Pure.BlockParts x0_0 x0_1 x0_2 b1 b2 x3 b4 o0_0 o0_1 o0_2 w1 w2 o3 w4
  refine (standstilllaw05_BlockParts.calls k x0_0 x0_1 _ _ x0_2 b1 b2 _ _ x3 b4 true W C0_2 l0_2 C3 l3 hk).mono fun e W' ⟨he, bel⟩ => ?_
  subst he
  exact ⟨_, rfl, _, _, _, [], _, [], hW', trodAll_mk1 (shut_bool Try.underlying4 _), (trodAll_cons_mk (Below.trod laidOut (by kernel_rfl) (of_decide_eq_true (by kernel_rfl)) k0 bel lt0) (trodAll_cons_mk (shut_int Try.underlying3 w1) (trodAll_cons_mk (shut_int Try.underlying3 w2) (trodAll_cons_mk (Below.trod laidOut (by kernel_rfl) (of_decide_eq_true (by kernel_rfl)) k3 bel lt3) (trodAll_cons_mk (shut_int Try.underlying5 w4) trodAll_mk0))))), rfl, bel.frame _, fun h => by cases h⟩
theorem over : Rows.blockPartsRow.holds Try.pinned (OpenSpec.ofChange Rows.blockPartsSpec) :=
  OpenClaim.holds_of_wide 4 Try.f4 rfl rfl rfl rfl rfl rfl rfl ⟨rfl, rfl, rfl, rfl, rfl⟩ rfl rfl rfl rfl rfl (by kernel_rfl) Try.func4 (by kernel_rfl)
    (of_decide_eq_true (by kernel_rfl)) (by unfold Func.isWrapper; first | (rw [if_pos (by decide +kernel)]; kernel_rfl) | (rw [if_neg (by decide +kernel)]; exact ⟨rfl, rfl⟩))
    (fun os started H enc _ => lifted os started H enc)
theorem proved : Rows.BlockPartsSaid := over
#print axioms proved
end Go.Proofs.Ytfjfnpegpcdnaaa.blockParts
namespace Go.Proofs.Ytfjfnpegpcdnaaa
/-- The row, under a short name, for the claim. -/
theorem blockParts_holds : Rows.BlockPartsSaid := blockParts.proved
end Go.Proofs.Ytfjfnpegpcdnaaa
