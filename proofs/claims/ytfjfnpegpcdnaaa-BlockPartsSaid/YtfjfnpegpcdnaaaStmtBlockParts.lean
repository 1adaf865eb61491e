/- The pure statement of the law BlockParts: over numbers and lists alone. Written by a program of this session. -/
import Derived.Test.YtfjfnpegpcdnaaaGBx10
import GoSem.ClaimJoined
namespace Go.Proofs.Ytfjfnpegpcdnaaa.Pure
open Go.RowKit Go.Proofs.YtfjfnpegpcdnaaaW.PrintWords Go.Proofs.Ytfjfnpegpcdnaaa.GB
def BlockPartsStmt : Prop := ∀ (a0_0 : Int) (a0_1 : Int) (l0_2 : List (List (S57))) (a1 : Int) (a2 : Int) (l3 : List (Int)) (a4 : Int), ((Lit.int .i64 a0_0).wf = true) → ((Lit.int .i64 a0_1).wf = true) → (l0_2.length * 24 ≤ reachBytes ∧ ∀ yl0_2 ∈ l0_2, yl0_2.length * 24 ≤ reachBytes ∧ ∀ yyl0_2 ∈ yl0_2, ((Lit.int .i64 yyl0_2.f0).wf = true) ∧ ((Lit.int .i64 yyl0_2.f1).wf = true) ∧ ((Lit.int .i64 yyl0_2.f2).wf = true)) → ((Lit.int .i64 a1).wf = true) → ((Lit.int .i64 a2).wf = true) → (l3.length * 8 ≤ reachBytes ∧ ∀ yl3 ∈ l3, (Lit.int .i64 yl3).wf = true) → ((Lit.int .u8 a4).wf = true) → ∃ k : Nat, standstilllaw05_BlockParts.f k a0_0 a0_1 l0_2 a1 a2 l3 a4 = some true
end Go.Proofs.Ytfjfnpegpcdnaaa.Pure
