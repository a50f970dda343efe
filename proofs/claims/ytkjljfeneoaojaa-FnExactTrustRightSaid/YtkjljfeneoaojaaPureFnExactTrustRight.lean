/- The program's TrustRight returns what the reference's returns: the pure statement, over numbers, strings and lists alone. Conditions: those that the statement names: each number is one of its kind, and what comes in is of a size that can be read. -/
import Derived.Test.YtkjljfeneoaojaaQFnExactTrustRight
import Derived.Test.YtkjljfeneoaojaaA20
namespace Go.Proofs.Ytkjljfeneoaojaa.Pure
open Go.RowKit Go.Proofs.YtkjljfeneoaojaaW.PrintWords Go.Proofs.YtkjljfeneoaojaaW.PrintLast Go.Proofs.Ytkjljfeneoaojaa.P
theorem FnExactTrustRight : laws_FnExactTrustRight.Pure := by
  intro a b _ _
  simp [laws_FnExactTrustRight.f, laws_toTrust.f, sTrust, impl_TrustRight.f, iTrust]
end Go.Proofs.Ytkjljfeneoaojaa.Pure
