/- The program's Settle returns what the reference's returns: the pure statement, over numbers, strings and lists alone. Conditions: those that the statement names: each number is one of its kind, and what comes in is of a size that can be read. -/
import Derived.Test.YtkjljfeneoaojaaQFnExactSettle
import Derived.Test.YtkjljfeneoaojaaA20
namespace Go.Proofs.Ytkjljfeneoaojaa.Pure
open Go.RowKit Go.Proofs.YtkjljfeneoaojaaW.PrintWords Go.Proofs.YtkjljfeneoaojaaW.PrintLast Go.Proofs.Ytkjljfeneoaojaa.P
theorem smax (a b : Int) : spec_l03Max.f a b = some (mx a b) := by
  unfold spec_l03Max.f mx; split <;> simp <;> omega
theorem FnExactSettle : laws_FnExactSettle.Pure := by
  intro a b v r d g _ _ _ _ _
  refine ⟨1, ?_⟩
  simp only [laws_FnExactSettle.f, laws_szOffer.f, laws_toOffer.f, laws_toTrust.f, spec_Settle.f, impl_Settle.f, sCode, iCode, smax, Option.bind_some, ite_some, laws_eqTrustOut.f, laws_eqTrust.f]
  generalize codeZ a b v r d = c
  repeat' (first | (simp_all; done) | split)
end Go.Proofs.Ytkjljfeneoaojaa.Pure
