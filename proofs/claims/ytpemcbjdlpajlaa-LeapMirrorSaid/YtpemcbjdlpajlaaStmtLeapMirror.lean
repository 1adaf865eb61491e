/- The pure statement of the law LeapMirror: over numbers and lists alone. Written by a program of this session. -/
import Derived.Test.YtpemcbjdlpajlaaG1x18
import GoSem.ClaimJoined
namespace Go.Proofs.Ytpemcbjdlpajlaa.Pure
open Go.RowKit Go.Proofs.YtpemcbjdlpajlaaW.PrintWords Go.Proofs.Ytpemcbjdlpajlaa.G1
def LeapMirrorStmt : Prop := ∀ (a0_0 : Int) (a0_1 : Int) (l0_2 : List (List (S37))) (a1_0 : Int) (a1_1 : Int) (a1_2 : Int) (l1_3 : List (S62)) (l1_4 : List (S62)) (a2 : Int), ((Lit.int .i64 a0_0).wf = true) → ((Lit.int .i64 a0_1).wf = true) → (l0_2.length * 24 ≤ reachBytes ∧ ∀ yl0_2 ∈ l0_2, yl0_2.length * 24 ≤ reachBytes ∧ ∀ yyl0_2 ∈ yl0_2, ((Lit.int .i64 yyl0_2.f0).wf = true) ∧ ((Lit.int .i64 yyl0_2.f1).wf = true) ∧ ((Lit.int .i64 yyl0_2.f2).wf = true)) → ((Lit.int .i64 a1_0).wf = true) → ((Lit.int .i64 a1_1).wf = true) → ((Lit.int .i64 a1_2).wf = true) → (l1_3.length * 16 ≤ reachBytes ∧ ∀ yl1_3 ∈ l1_3, ((Lit.int .i64 yl1_3.f0).wf = true) ∧ ((Lit.int .i64 yl1_3.f1).wf = true)) → (l1_4.length * 16 ≤ reachBytes ∧ ∀ yl1_4 ∈ l1_4, ((Lit.int .i64 yl1_4.f0).wf = true) ∧ ((Lit.int .i64 yl1_4.f1).wf = true)) → ((Lit.int .u16 a2).wf = true) → ∃ k : Nat, standstilllaw04_LeapMirror.f k a0_0 a0_1 l0_2 a1_0 a1_1 a1_2 l1_3 l1_4 a2 = some true
end Go.Proofs.Ytpemcbjdlpajlaa.Pure
