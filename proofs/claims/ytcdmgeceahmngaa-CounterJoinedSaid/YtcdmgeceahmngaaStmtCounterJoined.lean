/- The pure statement of the law CounterJoined: over numbers and lists alone. Written by a program of this session. -/
import Derived.Test.YtcdmgeceahmngaaGCx9
import GoSem.ClaimJoined
namespace Go.Proofs.Ytcdmgeceahmngaa.Pure
open Go.RowKit Go.Proofs.YtcdmgeceahmngaaW.PrintWords Go.Proofs.Ytcdmgeceahmngaa.GC
def CounterJoinedStmt : Prop := ∀ (a0_0 : Int) (l0_1 : List (S35)) (a1_0 : Int) (l1_1 : List (S35)) (l2 : List (Int)), ((Lit.int .i64 a0_0).wf = true) → (l0_1.length * 32 ≤ reachBytes ∧ ∀ yl0_1 ∈ l0_1, ((Lit.int .i64 yl0_1.f0).wf = true) ∧ ((Lit.int .i64 yl0_1.f1).wf = true) ∧ ((Lit.int .i64 yl0_1.f2).wf = true) ∧ ((Lit.int .i64 yl0_1.f3).wf = true)) → ((Lit.int .i64 a1_0).wf = true) → (l1_1.length * 32 ≤ reachBytes ∧ ∀ yl1_1 ∈ l1_1, ((Lit.int .i64 yl1_1.f0).wf = true) ∧ ((Lit.int .i64 yl1_1.f1).wf = true) ∧ ((Lit.int .i64 yl1_1.f2).wf = true) ∧ ((Lit.int .i64 yl1_1.f3).wf = true)) → (l2.length * 8 ≤ reachBytes ∧ ∀ yl2 ∈ l2, (Lit.int .i64 yl2).wf = true) → ∃ k : Nat, standstilllaw06_CounterJoined.f k a0_0 l0_1 a1_0 l1_1 l2 = some true
end Go.Proofs.Ytcdmgeceahmngaa.Pure
