/- The program's HeadRight returns what the reference's returns: the pure statement, over numbers, strings and lists alone. Conditions: those that the statement names: each number is one of its kind, and what comes in is of a size that can be read. -/
import Derived.Test.YtkjljfeneoaojaaQFnExactHeadRight
import Derived.Test.YtkjljfeneoaojaaA1
namespace Go.Proofs.Ytkjljfeneoaojaa.Pure
open Go.RowKit Go.Proofs.YtkjljfeneoaojaaW.PrintWords Go.Proofs.YtkjljfeneoaojaaW.PrintLast Go.Proofs.Ytkjljfeneoaojaa.P
def headB (a b c : Int) (d : ByteArray) : Bool := decide (1 ≤ a) && decide (a ≤ 8) && (decide (1 ≤ b) && decide (b ≤ 20) && (decide (0 ≤ c) && decide (c ≤ 4) && ((d.size : Int) == 32)))
theorem FnExactHeadRight : laws_FnExactHeadRight.Pure := by
  intro a b c d _ _ _ _
  have h1 : spec_HeadRight.f a b c d = some (headB a b c d) := by
    simp only [spec_HeadRight.f, is_eq, Option.bind_some, ite_some, ite_and]; rfl
  have h2 : impl_isHead.f a b c d = some (headB a b c d) := by
    simp only [impl_isHead.f, impl_isBlocks.f, within_eq, Option.bind_some, ite_some, ite_and]; rfl
  simp only [laws_FnExactHeadRight.f, laws_szHead.f, laws_toHead.f, h1, impl_HeadRight.f, h2, Option.bind_some]
  split <;> simp
end Go.Proofs.Ytkjljfeneoaojaa.Pure
