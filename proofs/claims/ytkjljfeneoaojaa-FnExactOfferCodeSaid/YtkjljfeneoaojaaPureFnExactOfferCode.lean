/- The program's OfferCode returns what the reference's returns: the pure statement, over numbers, strings and lists alone. Conditions: those that the statement names: each number is one of its kind, and what comes in is of a size that can be read. -/
import Derived.Test.YtkjljfeneoaojaaQFnExactOfferCode
import Derived.Test.YtkjljfeneoaojaaA20
namespace Go.Proofs.Ytkjljfeneoaojaa.Pure
open Go.RowKit Go.Proofs.YtkjljfeneoaojaaW.PrintWords Go.Proofs.YtkjljfeneoaojaaW.PrintLast Go.Proofs.Ytkjljfeneoaojaa.P
theorem FnExactOfferCode : laws_FnExactOfferCode.Pure := by
  intro a b v r d _ _ _ _ _
  refine ⟨1, ?_⟩
  simp only [laws_FnExactOfferCode.f, laws_szOffer.f, laws_toOffer.f, laws_toTrust.f, sCode, impl_OfferCode.f, iCode, Option.bind_some]
  split <;> simp
end Go.Proofs.Ytkjljfeneoaojaa.Pure
