/- Plain facts on trusts and offers. Conditions: none. -/
import Derived.Test.YtkjljfeneoaojaaP15
import Derived.Test.YtkjljfeneoaojaaP19
import Derived.Test.YtkjljfeneoaojaaP26
import Derived.Test.YtkjljfeneoaojaaP57
import Derived.Test.YtkjljfeneoaojaaP58
import Derived.Test.YtkjljfeneoaojaaP60
import Derived.Test.YtkjljfeneoaojaaA1
namespace Go.Proofs.Ytkjljfeneoaojaa.Pure
open Go.RowKit Go.Proofs.YtkjljfeneoaojaaW.PrintWords Go.Proofs.YtkjljfeneoaojaaW.PrintLast Go.Proofs.Ytkjljfeneoaojaa.P
def trustB (a b : Int) : Bool := decide (0 ≤ a) && decide (a ≤ 1000000) && (decide (0 ≤ b) && decide (b ≤ a))
def offerB (a b : Int) (d : ByteArray) : Bool := decide (1 ≤ a) && decide (a ≤ 1000000) && (decide (0 ≤ b) && decide (b ≤ a)) && ((d.size : Int) == 32)
theorem sTrust (a b : Int) : spec_TrustRight.f a b = some (trustB a b) := by
  simp only [spec_TrustRight.f, is_eq, Option.bind_some, ite_some, ite_and]; rfl
theorem iTrust (a b : Int) : impl_isTrust.f a b = some (trustB a b) := by
  simp only [impl_isTrust.f, time_eq, within_eq, Option.bind_some, ite_some, ite_and]; rfl
theorem sOffer (a b : Int) (d : ByteArray) : spec_OfferRight.f a b d = some (offerB a b d) := by
  simp only [spec_OfferRight.f, is_eq, Option.bind_some, ite_some, ite_and, offerB, Bool.and_assoc]
theorem iOffer (a b : Int) (d : ByteArray) : impl_isOffer.f a b d = some (offerB a b d) := by
  simp only [impl_isOffer.f, within_eq, Option.bind_some, ite_some, ite_and, offerB, Bool.and_assoc]
def codeZ (a b v r : Int) (d : ByteArray) : Int := if (trustB a b && offerB v r d) = true then (if v < b then 8 else if v = a then 7 else 0) else 1
theorem sCode (k : Nat) (a b v r : Int) (d : ByteArray) : spec_OfferCode.f (k + 1) a b v r d = some (codeZ a b v r d) := by
  simp only [spec_OfferCode.f, sTrust, sOffer, Option.bind_some, spec_OfferCode.j0, codeZ, ite_some]
  cases trustB a b <;> cases offerB v r d <;> simp
theorem iCode (k : Nat) (a b v r : Int) (d : ByteArray) : impl_offerCode.f (k + 1) a b v r d = some (codeZ a b v r d) := by
  simp only [impl_offerCode.f, iTrust, iOffer, Option.bind_some, impl_offerCode.j0, codeZ, ite_some]
  cases trustB a b <;> cases offerB v r d <;> simp
end Go.Proofs.Ytkjljfeneoaojaa.Pure
