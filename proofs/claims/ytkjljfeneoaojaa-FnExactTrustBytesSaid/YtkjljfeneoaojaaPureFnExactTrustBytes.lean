/- The program's TrustBytes returns what the reference's returns: the pure statement, over numbers, strings and lists alone. Conditions: those that the statement names: each number is one of its kind. -/
import Derived.Test.YtkjljfeneoaojaaQFnExactTrustBytes
import Derived.Test.YtkjljfeneoaojaaA2
import Derived.Test.YtkjljfeneoaojaaA3
import Derived.Test.YtkjljfeneoaojaaA20
namespace Go.Proofs.Ytkjljfeneoaojaa.Pure
open Go.RowKit Go.Proofs.YtkjljfeneoaojaaW.PrintWords Go.Proofs.YtkjljfeneoaojaaW.PrintLast Go.Proofs.Ytkjljfeneoaojaa.P
theorem two_puts (a b : Int) : putsOf [a, b] = putOf a ++ putOf b := by
  refine B_ext ?_
  simp only [putsOf, B_append, B_empty, List.append_nil]
def trustBytesOf (a b : Int) : ByteArray := if trustB a b = true then sealOf (putOf a ++ putOf b) else ⟨#[]⟩
theorem sTrustBytes (a b : Int) (ha : -9223372036854775808 ≤ a ∧ a ≤ 9223372036854775807) (hb : -9223372036854775808 ≤ b ∧ b ≤ 9223372036854775807) : Ev (fun k => spec_TrustBytes.f k a b) (trustBytesOf a b) := by
  unfold spec_TrustBytes.f trustBytesOf
  simp only [sTrust, Option.bind_some]
  have h1 := putOf_size a
  have h2 := putOf_size b
  split
  · refine Ev.bind (sPutNum a ha) (Ev.bind (sPutNum b hb) ?_)
    refine Ev.ifp (by omega) ?_
    exact Ev.bind (sSeal _ (by rw [size_append']; omega)) (Ev.now _)
  · exact Ev.now _
theorem iTrustBytes (a b : Int) (ha : -9223372036854775808 ≤ a ∧ a ≤ 9223372036854775807) (hb : -9223372036854775808 ≤ b ∧ b ≤ 9223372036854775807) : Ev (fun k => impl_TrustBytes.f k a b) (trustBytesOf a b) := by
  unfold impl_TrustBytes.f trustBytesOf
  simp only [iTrust, Option.bind_some]
  have h1 := putOf_size a
  have h2 := putOf_size b
  split
  · refine Ev.bind (iPutNums [a, b] (by simp; exact ⟨ha, hb⟩) (by simp)) ?_
    rw [two_puts]
    exact Ev.bind (iSeal _ (by rw [size_append']; omega)) (Ev.now _)
  · exact Ev.now _
theorem FnExactTrustBytes : laws_FnExactTrustBytes.Pure := by
  intro a b ha hb
  have h1 := sTrustBytes a b (wf64 ha) (wf64 hb)
  have h2 := iTrustBytes a b (wf64 ha) (wf64 hb)
  refine Ev.rounds (Ev.congr (f := fun k => (spec_TrustBytes.f k a b).bind fun t => (impl_TrustBytes.f k a b).bind fun u => if u.toList = t.toList then some true else some false) (fun k => rfl) (Ev.bind h1 (Ev.bind h2 ?_)))
  exact Ev.ifp rfl (Ev.now _)
end Go.Proofs.Ytkjljfeneoaojaa.Pure
