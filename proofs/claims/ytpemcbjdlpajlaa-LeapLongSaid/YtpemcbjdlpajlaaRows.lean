/-
  No cell of these rows narrows 'for every input' (looked for: loops, veiled, ifaces, maps, wideKeys, modest, calm, conditions, laid).
  DERIVED. THE GIVEN ROWS OF THIS SEAT. 3 by the template 'for every input the law returns true; each argument reads behind the call as it read before'; 0 by the template 'total and deterministic' (their statements: YtpemcbjdlpajlaaTotals.lean).
  GIVEN WITH THE SEED: the statements are not yours to turn. If you find one false, say at which input.
  Laid BY PROGRAM, IN A SANDBOX (cutbox-rows.mjs): the forced cells as the released guide's own fill.sh prints them over the translation b5e082100497b709… (all of the seat's roots in one cut). By AI agents, Wed Nov 11 2026. No macro, syntax, notation, axiom, sorry.
-/
import Derived.Test.YtpemcbjdlpajlaaChecked
import GoSem.Claim
import GoSem.ClaimJoined
import GoSem.ClaimMapViews
import Derived.JoinedTies
import Derived.KernelRfl
namespace Go.Proofs.Ytpemcbjdlpajlaa
/- THE CELL 'sum', in the pinned program and in every row, IS THE sha256 OF THE DUMP (.gsa) THAT YtpemcbjdlpajlaaProg.lean LOADS. Nothing in Lean hashes anything: it is a label: what it is worth is what the hold of that sum in a sandbox is worth. -/
noncomputable def Try.pinned : Pinned := { name := "ytpemcbjdlpajlaa", sum := "b5e082100497b70939e11d2eeccf917c65e7d8d2059b089cec785f76bae0353c", checked := Try.checked }
namespace Rows
def none {H : Type} : Left H := { results := [], args := [] }

/-- 'standstilllaw04.LeapLong': WHATEVER THE INPUT: true; the input reads as it did. -/
def leapLongSpec : ChangeSpec := { name := "leapLong", fn := fun _ => fun
  | [d1, d2, d3] => { results := [.lit (.bool true)], args := [d1, d2, d3] }
  | _ => none }
def leapLongRow : OpenClaim := { program := "ytpemcbjdlpajlaa", sum := "b5e082100497b70939e11d2eeccf917c65e7d8d2059b089cec785f76bae0353c", func := "standstill/standstilllaw04.LeapLong", spec := "leapLong", apart := false }
def LeapLongSaid : Prop := leapLongRow.holds Try.pinned (OpenSpec.ofChange leapLongSpec)

/-- ITS FALSE NEIGHBOUR: 'it returns false'. Refute it at one input. -/
def leapLongWrong : ChangeSpec := { name := "leapLong", fn := fun _ => fun
  | [d1, d2, d3] => { results := [.lit (.bool false)], args := [d1, d2, d3] }
  | _ => none }
def LeapLongWrongFalsely : Prop := leapLongRow.holds Try.pinned (OpenSpec.ofChange leapLongWrong)

/-- 'standstilllaw04.LeapLeaps': WHATEVER THE INPUT: true; the input reads as it did. -/
def leapLeapsSpec : ChangeSpec := { name := "leapLeaps", fn := fun _ => fun
  | [d1, d2, d3] => { results := [.lit (.bool true)], args := [d1, d2, d3] }
  | _ => none }
def leapLeapsRow : OpenClaim := { program := "ytpemcbjdlpajlaa", sum := "b5e082100497b70939e11d2eeccf917c65e7d8d2059b089cec785f76bae0353c", func := "standstill/standstilllaw04.LeapLeaps", spec := "leapLeaps", apart := false }
def LeapLeapsSaid : Prop := leapLeapsRow.holds Try.pinned (OpenSpec.ofChange leapLeapsSpec)

/-- ITS FALSE NEIGHBOUR: 'it returns false'. Refute it at one input. -/
def leapLeapsWrong : ChangeSpec := { name := "leapLeaps", fn := fun _ => fun
  | [d1, d2, d3] => { results := [.lit (.bool false)], args := [d1, d2, d3] }
  | _ => none }
def LeapLeapsWrongFalsely : Prop := leapLeapsRow.holds Try.pinned (OpenSpec.ofChange leapLeapsWrong)

/-- 'standstilllaw04.LeapMirror': WHATEVER THE INPUT: true; the input reads as it did. -/
def leapMirrorSpec : ChangeSpec := { name := "leapMirror", fn := fun _ => fun
  | [d1, d2, d3] => { results := [.lit (.bool true)], args := [d1, d2, d3] }
  | _ => none }
def leapMirrorRow : OpenClaim := { program := "ytpemcbjdlpajlaa", sum := "b5e082100497b70939e11d2eeccf917c65e7d8d2059b089cec785f76bae0353c", func := "standstill/standstilllaw04.LeapMirror", spec := "leapMirror", apart := false }
def LeapMirrorSaid : Prop := leapMirrorRow.holds Try.pinned (OpenSpec.ofChange leapMirrorSpec)

/-- ITS FALSE NEIGHBOUR: 'it returns false'. Refute it at one input. -/
def leapMirrorWrong : ChangeSpec := { name := "leapMirror", fn := fun _ => fun
  | [d1, d2, d3] => { results := [.lit (.bool false)], args := [d1, d2, d3] }
  | _ => none }
def LeapMirrorWrongFalsely : Prop := leapMirrorRow.holds Try.pinned (OpenSpec.ofChange leapMirrorWrong)

/- THE SECOND FORM. 'bulk': how many values and letters a reading holds, each counted each time it is reached (what is shared counts as often as it is met; a slice's spare places count too). A statement '..UptoSaid' is the law's where the arguments, and the package variables that the reading takes, are together of bulk at most 1048576: NARROWER than '..Said'. Prove '..Said' where nothing that the law and all that it calls make is longer than what came in: it says more and counts as full. Else prove '..UptoSaid'. A law counts once. -/
mutual
def uptoBulk {H : Type} : DataW H → Nat
  | .lit (.string bytes) => bytes.length + 1
  | .lit _ => 1
  | .nil => 1
  | .ptr d => uptoBulk d + 1
  | .slice elems spare => uptoBulkAll elems + uptoBulkAll spare + 1
  | .agg parts => uptoBulkAll parts + 1
  | .iface _ d => uptoBulk d + 1
  | .map entries => uptoBulkEntries entries + 1
  | .held _ => 1
def uptoBulkAll {H : Type} : List (DataW H) → Nat
  | [] => 0
  | d :: r => uptoBulk d + uptoBulkAll r
def uptoBulkEntries {H : Type} : List (Lit × DataW H) → Nat
  | [] => 0
  | x :: r => uptoBulkEntry x + uptoBulkEntries r
def uptoBulkEntry {H : Type} : Lit × DataW H → Nat
  | (.string bytes, d) => bytes.length + uptoBulk d + 1
  | (_, d) => uptoBulk d + 1
 end
def uptoSmall : (H : Type) → List (DataW H) → Bool := fun _ ds => decide (uptoBulkAll ds ≤ 1048576)
def OpenSpec.upto (s : _root_.Go.ChangeSpec) : _root_.Go.OpenSpec := { _root_.Go.OpenSpec.ofChange s with cond := some uptoSmall }

/-- 'standstilllaw04.LeapLong', WHERE WHAT IT READS IS OF BULK AT MOST 1048576: true; the input reads as it did. -/
def leapLongUptoRow : OpenClaim := { program := "ytpemcbjdlpajlaa", sum := "b5e082100497b70939e11d2eeccf917c65e7d8d2059b089cec785f76bae0353c", func := "standstill/standstilllaw04.LeapLong", spec := "leapLong", apart := false, narrowed := true }
def LeapLongUptoSaid : Prop := leapLongUptoRow.holds Try.pinned (OpenSpec.upto leapLongSpec)

/-- 'standstilllaw04.LeapLeaps', WHERE WHAT IT READS IS OF BULK AT MOST 1048576: true; the input reads as it did. -/
def leapLeapsUptoRow : OpenClaim := { program := "ytpemcbjdlpajlaa", sum := "b5e082100497b70939e11d2eeccf917c65e7d8d2059b089cec785f76bae0353c", func := "standstill/standstilllaw04.LeapLeaps", spec := "leapLeaps", apart := false, narrowed := true }
def LeapLeapsUptoSaid : Prop := leapLeapsUptoRow.holds Try.pinned (OpenSpec.upto leapLeapsSpec)

/-- 'standstilllaw04.LeapMirror', WHERE WHAT IT READS IS OF BULK AT MOST 1048576: true; the input reads as it did. -/
def leapMirrorUptoRow : OpenClaim := { program := "ytpemcbjdlpajlaa", sum := "b5e082100497b70939e11d2eeccf917c65e7d8d2059b089cec785f76bae0353c", func := "standstill/standstilllaw04.LeapMirror", spec := "leapMirror", apart := false, narrowed := true }
def LeapMirrorUptoSaid : Prop := leapMirrorUptoRow.holds Try.pinned (OpenSpec.upto leapMirrorSpec)

end Rows
end Go.Proofs.Ytpemcbjdlpajlaa
