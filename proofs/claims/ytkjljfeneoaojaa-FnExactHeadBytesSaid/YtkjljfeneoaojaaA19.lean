/- Plain facts on heads. Conditions: as each theorem states. -/
import Derived.Test.YtkjljfeneoaojaaP23
import Derived.Test.YtkjljfeneoaojaaP37
import Derived.Test.YtkjljfeneoaojaaP59
import Derived.Test.YtkjljfeneoaojaaP69
import Derived.Test.YtkjljfeneoaojaaA2
import Derived.Test.YtkjljfeneoaojaaA3
namespace Go.Proofs.Ytkjljfeneoaojaa.Pure
open Go.RowKit Go.Proofs.YtkjljfeneoaojaaW.PrintWords Go.Proofs.YtkjljfeneoaojaaW.PrintLast Go.Proofs.Ytkjljfeneoaojaa.P
def headB (a b c : Int) (d : ByteArray) : Bool := decide (1 ≤ a) && decide (a ≤ 8) && (decide (1 ≤ b) && decide (b ≤ 20) && (decide (0 ≤ c) && decide (c ≤ 4) && ((d.size : Int) == 32)))
theorem sHead (a b c : Int) (d : ByteArray) : spec_HeadRight.f a b c d = some (headB a b c d) := by
  simp only [spec_HeadRight.f, is_eq, Option.bind_some, ite_some, ite_and]; rfl
theorem iHead (a b c : Int) (d : ByteArray) : impl_isHead.f a b c d = some (headB a b c d) := by
  simp only [impl_isHead.f, impl_isBlocks.f, within_eq, Option.bind_some, ite_some, ite_and]; rfl
def headBytesOf (a b c : Int) (d : ByteArray) : ByteArray := sealOf (putOf a ++ putOf b ++ putOf c ++ putTextOf d)
theorem headB_parts {a b c : Int} {d : ByteArray} (h : headB a b c d = true) : 1 ≤ a ∧ a ≤ 8 ∧ 1 ≤ b ∧ b ≤ 20 ∧ 0 ≤ c ∧ c ≤ 4 ∧ d.size = 32 := by
  simp only [headB, Bool.and_eq_true, decide_eq_true_eq, beq_iff_eq] at h
  omega
theorem three_puts (a b c : Int) : putsOf [a, b, c] = putOf a ++ putOf b ++ putOf c := by
  refine B_ext ?_
  simp only [putsOf, B_append, B_empty, List.append_nil, List.append_assoc]
theorem sHeadBytes (a b c : Int) (d : ByteArray) : Ev (fun k => spec_HeadBytes.f k a b c d) (if headB a b c d = true then headBytesOf a b c d else ⟨#[]⟩) := by
  unfold spec_HeadBytes.f
  simp only [sHead, Option.bind_some]
  split
  · rename_i h
    have hp := headB_parts h
    have h1 := putOf_size a
    have h2 := putOf_size b
    have h3 := putOf_size c
    have h4 := putOf_size (d.size : Int)
    have h5 : (putTextOf d).size ≤ 42 := by unfold putTextOf; rw [size_append']; omega
    refine Ev.bind (sPutNum a (by omega)) (Ev.bind (sPutNum b (by omega)) ?_)
    refine Ev.ifp (by omega) ?_
    refine Ev.bind (sPutNum c (by omega)) ?_
    refine Ev.ifp (by rw [size_append']; omega) ?_
    refine Ev.bind (sPutText d (by omega)) ?_
    refine Ev.ifp (by rw [size_append', size_append']; omega) ?_
    exact Ev.bind (sSeal _ (by rw [size_append', size_append', size_append']; omega)) (Ev.now _)
  · exact Ev.now _
theorem iHeadBytes (a b c : Int) (d : ByteArray) (h : headB a b c d = true) : Ev (fun k => impl_headBytes.f k a b c d) (headBytesOf a b c d) := by
  unfold impl_headBytes.f
  have hp := headB_parts h
  have h1 := putOf_size a
  have h2 := putOf_size b
  have h3 := putOf_size c
  have h4 := putOf_size (d.size : Int)
  have h5 : (putTextOf d).size ≤ 42 := by unfold putTextOf; rw [size_append']; omega
  refine Ev.bind (iPutNums [a, b, c] (by intro n hn; simp at hn; rcases hn with rfl | rfl | rfl <;> omega) (by simp)) ?_
  rw [three_puts]
  refine Ev.bind (iPutText d (by omega)) ?_
  refine Ev.ifp (by rw [size_append', size_append']; omega) ?_
  exact Ev.bind (iSeal _ (by rw [size_append', size_append', size_append']; omega)) (Ev.now _)
end Go.Proofs.Ytkjljfeneoaojaa.Pure
