/- The pure statement of the law FnExactTrustBytes: over numbers, strings and lists alone. Written by a program of this session. -/
import Derived.Test.YtkjljfeneoaojaaP9
namespace Go.Proofs.Ytkjljfeneoaojaa.P
open Go.RowKit Go.Proofs.YtkjljfeneoaojaaW.PrintWords Go.Proofs.YtkjljfeneoaojaaW.PrintLast Go.Proofs.YtkjljfeneoaojaaW.PrintMore
attribute [local go_sem] max2_int min2_int max_two min_two max_three min_three max_four min_four   -- for this text's walks alone
set_option linter.unusedVariables false
set_option linter.unusedSimpArgs false
def laws_FnExactTrustBytes.Pure : Prop := ∀ (a0_0 : Int) (a0_1 : Int), (Lit.int .i64 a0_0).wf = true → (Lit.int .i64 a0_1).wf = true → ∃ k, laws_FnExactTrustBytes.f k a0_0 a0_1 = some true
end Go.Proofs.Ytkjljfeneoaojaa.P
