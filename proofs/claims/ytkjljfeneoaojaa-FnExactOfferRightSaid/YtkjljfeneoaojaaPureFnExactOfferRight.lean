/- The program's OfferRight returns what the reference's returns: the pure statement, over numbers, strings and lists alone. Conditions: those that the statement names: each number is one of its kind, and what comes in is of a size that can be read. -/
import Derived.Test.YtkjljfeneoaojaaQFnExactOfferRight
import Derived.Test.YtkjljfeneoaojaaA20
namespace Go.Proofs.Ytkjljfeneoaojaa.Pure
open Go.RowKit Go.Proofs.YtkjljfeneoaojaaW.PrintWords Go.Proofs.YtkjljfeneoaojaaW.PrintLast Go.Proofs.Ytkjljfeneoaojaa.P
theorem FnExactOfferRight : laws_FnExactOfferRight.Pure := by
  intro a b c _ _ _
  simp only [laws_FnExactOfferRight.f, laws_szOffer.f, laws_toOffer.f, sOffer, impl_OfferRight.f, iOffer, Option.bind_some]
  split <;> simp
end Go.Proofs.Ytkjljfeneoaojaa.Pure
