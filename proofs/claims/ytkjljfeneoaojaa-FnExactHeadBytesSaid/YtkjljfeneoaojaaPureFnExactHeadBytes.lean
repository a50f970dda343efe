/- The program's HeadBytes returns what the reference's returns: the pure statement, over numbers, strings and lists alone. Conditions: those that the statement names: each number is one of its kind, and what comes in is of a size that can be read. -/
import Derived.Test.YtkjljfeneoaojaaQFnExactHeadBytes
import Derived.Test.YtkjljfeneoaojaaA19
namespace Go.Proofs.Ytkjljfeneoaojaa.Pure
open Go.RowKit Go.Proofs.YtkjljfeneoaojaaW.PrintWords Go.Proofs.YtkjljfeneoaojaaW.PrintLast Go.Proofs.Ytkjljfeneoaojaa.P
theorem FnExactHeadBytes : laws_FnExactHeadBytes.Pure := by
  intro a b c d _ _ _ _
  refine Ev.rounds ?_
  unfold laws_FnExactHeadBytes.f
  have e1 : ∃ z, laws_szHead.f a b c d 1048576 = some z := by unfold laws_szHead.f; split <;> exact ⟨_, rfl⟩
  obtain ⟨z, hz⟩ := e1
  simp only [hz, Option.bind_some]
  split
  · exact Ev.now _
  · refine Ev.congr (f := fun k => (spec_HeadBytes.f k a b c d).bind fun t => (impl_HeadBytes.f k a b c d).bind fun u => if u.toList = t.toList then some true else some false) (fun k => rfl) (Ev.bind (sHeadBytes a b c d) (Ev.bind (a := if headB a b c d = true then headBytesOf a b c d else ⟨#[]⟩) ?_ ?_))
    · unfold impl_HeadBytes.f
      simp only [iHead, Option.bind_some]
      split
      · exact Ev.bind (iHeadBytes a b c d (by assumption)) (Ev.now _)
      · exact Ev.now _
    · exact Ev.ifp rfl (Ev.now _)
end Go.Proofs.Ytkjljfeneoaojaa.Pure
