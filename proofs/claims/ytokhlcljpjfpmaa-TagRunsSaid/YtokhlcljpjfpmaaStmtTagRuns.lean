/- The pure statement of the law TagRuns: over numbers and lists alone. Written by a program of this session. -/
import Derived.Test.YtokhlcljpjfpmaaGx7
import GoSem.ClaimJoined
namespace Go.Proofs.Ytokhlcljpjfpmaa.Pure
open Go.RowKit Go.Proofs.YtokhlcljpjfpmaaW.PrintWords Go.Proofs.Ytokhlcljpjfpmaa.G
def TagRunsStmt : Prop := ∀ (a0_0 : Int) (l0_1 : List (List (Int))) (l0_2 : List (Bool)) (l1 : List (Int)) (a2 : Int), ((Lit.int .i64 a0_0).wf = true) → (l0_1.length * 24 ≤ reachBytes ∧ ∀ yl0_1 ∈ l0_1, yl0_1.length * 8 ≤ reachBytes ∧ ∀ yyl0_1 ∈ yl0_1, (Lit.int .i64 yyl0_1).wf = true) → (l0_2.length * 1 ≤ reachBytes ∧ ∀ yl0_2 ∈ l0_2, True) → (l1.length * 8 ≤ reachBytes ∧ ∀ yl1 ∈ l1, (Lit.int .i64 yl1).wf = true) → ((Lit.int .i64 a2).wf = true) → ∃ k : Nat, standstilllaw07_TagRuns.f k a0_0 l0_1 l0_2 l1 a2 = some true
end Go.Proofs.Ytokhlcljpjfpmaa.Pure
