/- The program's FeedRight returns what the reference's returns: the pure statement, over numbers, strings and lists alone. Conditions: those that the statement names: each number is one of its kind, and what comes in is of a size that can be read. -/
import Derived.Test.YtkjljfeneoaojaaQFnExactFeedRight
import Derived.Test.YtkjljfeneoaojaaA1
namespace Go.Proofs.Ytkjljfeneoaojaa.Pure
open Go.RowKit Go.Proofs.YtkjljfeneoaojaaW.PrintWords Go.Proofs.YtkjljfeneoaojaaW.PrintLast Go.Proofs.Ytkjljfeneoaojaa.P
def headB (a b c : Int) (d : ByteArray) : Bool := decide (1 ≤ a) && decide (a ≤ 8) && (decide (1 ≤ b) && decide (b ≤ 20) && (decide (0 ≤ c) && decide (c ≤ 4) && ((d.size : Int) == 32)))
theorem FnExactFeedRight : laws_FnExactFeedRight.Pure := by
  intro a b c d g r _ _ _ _ _ _
  have h1 : spec_HeadRight.f a b c d = some (headB a b c d) := by
    simp only [spec_HeadRight.f, is_eq, Option.bind_some, ite_some, ite_and]; rfl
  have h2 : impl_isHead.f a b c d = some (headB a b c d) := by
    simp only [impl_isHead.f, impl_isBlocks.f, within_eq, Option.bind_some, ite_some, ite_and]; rfl
  simp only [laws_FnExactFeedRight.f, laws_szFeed.f, laws_szHead.f, laws_toFeed.f, laws_toHead.f, spec_FeedRight.f, impl_FeedRight.f, impl_isFeed.f, h1, h2, is_eq, within_eq, Option.bind_some, ite_some, ite_and]
  have h3 : (a == 0 && (b == 0 && (c == 0 && (d.toList == ([] : List UInt8))))) = true → headB a b c d = false := by
    intro h
    simp only [Bool.and_eq_true, beq_iff_eq] at h
    obtain ⟨rfl, _⟩ := h
    simp [headB]
  generalize headB a b c d = H at h3 ⊢
  generalize (a == 0 && (b == 0 && (c == 0 && (d.toList == ([] : List UInt8))))) = Z at h3 ⊢
  cases Z <;> cases H <;> simp_all
  all_goals (repeat' (first | (simp_all; done) | split))
  all_goals exact .inr (by rw [show (g == 0) = decide (g = 0) by rw [Bool.eq_iff_iff]; simp])
end Go.Proofs.Ytkjljfeneoaojaa.Pure
