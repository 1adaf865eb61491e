/- The pure statement of the law TagNames: over numbers and lists alone. Written by a program of this session. -/
import Derived.Test.YtokhlcljpjfpmaaGNx6
import GoSem.ClaimJoined
namespace Go.Proofs.Ytokhlcljpjfpmaa.Pure
open Go.RowKit Go.Proofs.YtokhlcljpjfpmaaW.PrintWords Go.Proofs.Ytokhlcljpjfpmaa.GN
def TagNamesStmt : Prop := ∀ (a0_0 : Int) (l0_1 : List (List (Int))) (l0_2 : List (Bool)) (l1 : List (Int)) (l2 : List (Int)) (a3 : Int), ((Lit.int .i64 a0_0).wf = true) → (l0_1.length * 24 ≤ reachBytes ∧ ∀ yl0_1 ∈ l0_1, yl0_1.length * 8 ≤ reachBytes ∧ ∀ yyl0_1 ∈ yl0_1, (Lit.int .i64 yyl0_1).wf = true) → (l0_2.length * 1 ≤ reachBytes ∧ ∀ yl0_2 ∈ l0_2, True) → (l1.length * 8 ≤ reachBytes ∧ ∀ yl1 ∈ l1, (Lit.int .i64 yl1).wf = true) → (l2.length * 8 ≤ reachBytes ∧ ∀ yl2 ∈ l2, (Lit.int .i64 yl2).wf = true) → ((Lit.int .u8 a3).wf = true) → ∃ k : Nat, standstilllaw07_TagNames.f k a0_0 l0_1 l0_2 l1 l2 a3 = some true
end Go.Proofs.Ytokhlcljpjfpmaa.Pure
