/- What the law FnExactHeadRead needs, part 8 of 8: the Lean functions of the Go functions that it reaches, with the proofs that the calls come to what they say, and plain facts about them; the last theorem is the law. Conditions: those that each theorem states. Written by a session and by its programs (after the kit's printer). -/
import Derived.Laws.BitsLemmas
import Derived.Test.YthoibokhmkjkdaaRows
import Derived.WalkKit
import Derived.ProofKit
import Derived.OpenShut
import Derived.ShutString
import Derived.ChangeOld
import Derived.Below
import Derived.SizedLaws
import Derived.Test.YthoibokhmkjkdaaXFnExactHeadRead0
import Derived.Test.YthoibokhmkjkdaaXFnExactHeadRead1
import Derived.Test.YthoibokhmkjkdaaXFnExactHeadRead2
import Derived.Test.YthoibokhmkjkdaaXFnExactHeadRead3
import Derived.Test.YthoibokhmkjkdaaXFnExactHeadRead4
import Derived.Test.YthoibokhmkjkdaaXFnExactHeadRead5
import Derived.Test.YthoibokhmkjkdaaXFnExactHeadRead6
namespace Go.Proofs.Ythoibokhmkjkdaa.P
open Go.RowKit Go.Proofs.YthoibokhmkjkdaaW.PrintWords Go.Proofs.YthoibokhmkjkdaaW.PrintLast Go.Proofs.YthoibokhmkjkdaaW.PrintMore
attribute [local go_sem] max2_int min2_int max_two min_two max_three min_three max_four min_four   -- for this text's walks alone
set_option linter.unusedVariables false
set_option linter.unusedSimpArgs false

/-! ### laws_eqHeadOut: function 50 -/
def laws_eqHeadOut.f (a0_0 : Int) (a0_1 : Int) (a0_2 : Int) (a0_3 : ByteArray) (a0_4 : Int) (a1_0 : Int) (a1_1 : Int) (a1_2 : Int) (a1_3 : ByteArray) (a1_4 : Int) : Option (Bool) := (laws_eqHead.f a0_0 a0_1 a0_2 a0_3 a1_0 a1_1 a1_2 a1_3).bind fun t103 => (if t103 = true then (if a0_4 = a1_4 then (some true) else (some false)) else (some false))
set_option maxHeartbeats 8000000 in
set_option maxRecDepth 100000 in
theorem laws_eqHeadOut.calls (a0_0 : Int) (a0_1 : Int) (a0_2 : Int) (a0_3 : ByteArray) (a0_4 : Int) (a1_0 : Int) (a1_1 : Int) (a1_2 : Int) (a1_3 : ByteArray) (a1_4 : Int) (r : Bool) (w : World) (h : laws_eqHeadOut.f a0_0 a0_1 a0_2 a0_3 a0_4 a1_0 a1_1 a1_2 a1_3 a1_4 = some r) :
    Calls Try.prog 50 #[.agg #[.int .i64 a0_0, .int .i64 a0_1, .int .i64 a0_2, .string a0_3, .int .i64 a0_4], .agg #[.int .i64 a1_0, .int .i64 a1_1, .int .i64 a1_2, .string a1_3, .int .i64 a1_4]] w fun e w' => e = .returned (.bool r) ∧ Below w.heap.size w w' := by
  have hu76 := Try.underlying76
  have hu74 := Try.underlying74
  have HB := Aside0.mk (Below.refl w.heap.size w)
  have H : ((laws_eqHead.f a0_0 a0_1 a0_2 a0_3 a1_0 a1_1 a1_2 a1_3).bind fun t103 => (if t103 = true then (if a0_4 = a1_4 then (some true) else (some false)) else (some false))) = some r := h
  clear h
  replace H := Option.bind_eq_some_iff.mp H
  obtain ⟨t103, A30, H⟩ := H
  replace H : (if t103 = true then (if a0_4 = a1_4 then (some true) else (some false)) else (some false)) = some r := H
  have A3 := Aside0.mk A30
  clear A30
  by_cases c4 : t103 = true
  · subst c4
    have H1 : (if a0_4 = a1_4 then (some true) else (some false)) = some r := by rw [if_pos rfl] at H; exact H
    clear H
    have H := H1
    clear H1
    by_cases c5 : a0_4 = a1_4
    · rw [if_pos c5] at H
      have c5b0 : (a0_4 == a1_4) = true := beq_iff_eq.mpr c5
      have c5b1 : (a0_4 != a1_4) = false := bne_eq_false_iff_eq.mpr c5
      clear c5
      obtain rfl := Option.some.inj H
      go_enter Try.func50, Try.ntmps50
      go_wp2_with (first | ((with_reducible refine gate_dst (N := 2) rfl ?_); refine box_event ?hg (N := 2) ?hd (cs := #[.int .i64 a0_0, .int .i64 a0_1, .int .i64 a0_2, .string a0_3, .int .i64 a0_4]) (t := 76) ?hr ?_; (case hd => rfl); (case hg => rfl); (case hr => first | (go_simp; done) | (go_simp; rfl)); intro gb101 hg w6 hbox hb; have n0_ := Aside0.mk (below_step (by repeat (first | (with_reducible first | exact HB.out | apply below_alloc | apply pw_below_drewN | apply below_drew1) | exact HB.out)) hb); have n1_ := Aside0.mk (hbox); have n2_ := Aside0.mk ((by rw [hg]; exact (below_size (by repeat (first | (with_reducible first | exact HB.out | apply below_alloc | apply pw_below_drewN | apply below_drew1) | exact HB.out))) : w.heap.size ≤ gb101)); have n3_ := Aside0.mk ((by rw [hg]; exact (below_size (by repeat (first | (with_reducible first | exact HB.out | apply below_alloc | apply pw_below_drewN | apply below_drew1) | exact HB.out))) : w.heap.size ≤ gb101)); clear HB; have HB := n0_; have BK101 := n1_; have GW101 := n2_; have GE101 := n3_; clear n0_ n1_ n2_ n3_; clear hb hbox hg) | ((with_reducible refine gate_dst (N := 3) rfl ?_); refine box_event ?hg (N := 3) ?hd (cs := #[.int .i64 a1_0, .int .i64 a1_1, .int .i64 a1_2, .string a1_3, .int .i64 a1_4]) (t := 76) ?hr ?_; (case hd => rfl); (case hg => rfl); (case hr => first | (go_simp; done) | (go_simp; rfl)); intro gb102 hg w7 hbox hb; have n0_ := Aside0.mk (blk_below (g := gb101) (o := .cells #[.int .i64 a0_0, .int .i64 a0_1, .int .i64 a0_2, .string a0_3, .int .i64 a0_4] 76 (0, 0)) (by (with_reducible repeat (first | refine blk_drewN ?_ _ | refine blk_drew ?_ | refine blk_alloc ?_ _)); exact BK101.out) hb); have n1_ := Aside0.mk (below_step (by repeat (first | (with_reducible first | exact HB.out | apply below_alloc | apply pw_below_drewN | apply below_drew1 | refine below_set ?_ GE101.out) | exact HB.out)) hb); have n2_ := Aside0.mk (hbox); have n3_ := Aside0.mk ((by rw [hg]; exact (below_size (by repeat (first | (with_reducible first | exact HB.out | apply below_alloc | apply pw_below_drewN | apply below_drew1 | refine below_set ?_ GE101.out) | exact HB.out))) : w.heap.size ≤ gb102)); have n4_ := Aside0.mk ((by rw [hg]; exact (below_size (by repeat (first | (with_reducible first | exact HB.out | apply below_alloc | apply pw_below_drewN | apply below_drew1 | refine below_set ?_ GE101.out) | exact HB.out))) : w.heap.size ≤ gb102)); have n5_ := Aside0.mk ((by rw [hg]; exact Nat.ne_of_lt (blk_lt (g := gb101) (o := .cells #[.int .i64 a0_0, .int .i64 a0_1, .int .i64 a0_2, .string a0_3, .int .i64 a0_4] 76 (0, 0)) (by (with_reducible repeat (first | refine blk_drewN ?_ _ | refine blk_drew ?_ | refine blk_alloc ?_ _)); exact BK101.out)) : gb101 ≠ gb102)); have n6_ := Aside0.mk ((by rw [hg]; exact Nat.ne_of_gt (blk_lt (g := gb101) (o := .cells #[.int .i64 a0_0, .int .i64 a0_1, .int .i64 a0_2, .string a0_3, .int .i64 a0_4] 76 (0, 0)) (by (with_reducible repeat (first | refine blk_drewN ?_ _ | refine blk_drew ?_ | refine blk_alloc ?_ _)); exact BK101.out)) : gb102 ≠ gb101)); clear BK101; clear HB; have BK101 := n0_; have HB := n1_; have BK102 := n2_; have GW102 := n3_; have GE102 := n4_; have NB101_102 := n5_; have NB102_101 := n6_; clear n0_ n1_ n2_ n3_ n4_ n5_ n6_; clear hb hbox hg; have hnb8 := NB101_102.out; have hnc8 := NB102_101.out; have hcz9_0 : w7.cell? ⟨gb101, 0, none⟩ = some (.int .i64 a0_0) := (blk_cell BK101.out 0).trans rfl; have hcz9_1 : w7.cell? ⟨gb101, 1, none⟩ = some (.int .i64 a0_1) := (blk_cell BK101.out 1).trans rfl; have hcz9_2 : w7.cell? ⟨gb101, 2, none⟩ = some (.int .i64 a0_2) := (blk_cell BK101.out 2).trans rfl; have hcz9_3 : w7.cell? ⟨gb101, 3, none⟩ = some (.string a0_3) := (blk_cell BK101.out 3).trans rfl; have hcz9_4 : w7.cell? ⟨gb101, 4, none⟩ = some (.int .i64 a0_4) := (blk_cell BK101.out 4).trans rfl; have hfz9_0 := blk_frozen BK101.out 0; have hfz9_1 := blk_frozen BK101.out 1; have hfz9_2 := blk_frozen BK101.out 2; have hfz9_3 := blk_frozen BK101.out 3; have hfz9_4 := blk_frozen BK101.out 4; have hcz10_0 : w7.cell? ⟨gb102, 0, none⟩ = some (.int .i64 a1_0) := (blk_cell BK102.out 0).trans rfl; have hcz10_1 : w7.cell? ⟨gb102, 1, none⟩ = some (.int .i64 a1_1) := (blk_cell BK102.out 1).trans rfl; have hcz10_2 : w7.cell? ⟨gb102, 2, none⟩ = some (.int .i64 a1_2) := (blk_cell BK102.out 2).trans rfl; have hcz10_3 : w7.cell? ⟨gb102, 3, none⟩ = some (.string a1_3) := (blk_cell BK102.out 3).trans rfl; have hcz10_4 : w7.cell? ⟨gb102, 4, none⟩ = some (.int .i64 a1_4) := (blk_cell BK102.out 4).trans rfl; have hfz10_0 := blk_frozen BK102.out 0; have hfz10_1 := blk_frozen BK102.out 1; have hfz10_2 := blk_frozen BK102.out 2; have hfz10_3 := blk_frozen BK102.out 3; have hfz10_4 := blk_frozen BK102.out 4) | ((with_reducible refine gate_callee (f := 107) rfl ?_); refine goesL_ (some 9) rfl rfl Try.func107 (by kernel_rfl) rfl #[.agg #[.int .i64 a0_0, .int .i64 a0_1, .int .i64 a0_2, .string a0_3], .agg #[.int .i64 a1_0, .int .i64 a1_1, .int .i64 a1_2, .string a1_3]] rfl (by (try simp only [List.map_toArray, List.map_cons, List.map_nil]); first | done | rfl | (simp only [List.length_drop, List.length_take]; rfl)) ?_; (with_reducible refine (laws_eqHead.calls a0_0 a0_1 a0_2 a0_3 a1_0 a1_1 a1_2 a1_3 true _ A3.out).mono ?_); rintro e w11 ⟨rfl, hb⟩; refine ⟨_, rfl, ?_⟩; have n0_ := Aside0.mk (blk_below (g := gb101) (o := .cells #[.int .i64 a0_0, .int .i64 a0_1, .int .i64 a0_2, .string a0_3, .int .i64 a0_4] 76 (0, 0)) (by (with_reducible repeat (first | refine blk_drewN ?_ _ | refine blk_drew ?_ | refine blk_alloc ?_ _)); exact BK101.out) hb); have n1_ := Aside0.mk (blk_below (g := gb102) (o := .cells #[.int .i64 a1_0, .int .i64 a1_1, .int .i64 a1_2, .string a1_3, .int .i64 a1_4] 76 (0, 0)) (by (with_reducible repeat (first | refine blk_drewN ?_ _ | refine blk_drew ?_ | refine blk_alloc ?_ _)); exact BK102.out) hb); have n2_ := Aside0.mk (below_step (by repeat (first | (with_reducible first | exact HB.out | apply below_alloc | apply pw_below_drewN | apply below_drew1 | refine below_set ?_ GE101.out | refine below_set ?_ GE102.out) | exact HB.out)) hb); clear BK101; clear BK102; clear HB; have BK101 := n0_; have BK102 := n1_; have HB := n2_; clear n0_ n1_ n2_; (try clear hb); (try clear hb2); (try clear hk); (try clear hi); have hcz12_0 : w11.cell? ⟨gb101, 0, none⟩ = some (.int .i64 a0_0) := (blk_cell BK101.out 0).trans rfl; have hcz12_1 : w11.cell? ⟨gb101, 1, none⟩ = some (.int .i64 a0_1) := (blk_cell BK101.out 1).trans rfl; have hcz12_2 : w11.cell? ⟨gb101, 2, none⟩ = some (.int .i64 a0_2) := (blk_cell BK101.out 2).trans rfl; have hcz12_3 : w11.cell? ⟨gb101, 3, none⟩ = some (.string a0_3) := (blk_cell BK101.out 3).trans rfl; have hcz12_4 : w11.cell? ⟨gb101, 4, none⟩ = some (.int .i64 a0_4) := (blk_cell BK101.out 4).trans rfl; have hfz12_0 := blk_frozen BK101.out 0; have hfz12_1 := blk_frozen BK101.out 1; have hfz12_2 := blk_frozen BK101.out 2; have hfz12_3 := blk_frozen BK101.out 3; have hfz12_4 := blk_frozen BK101.out 4; have hcz13_0 : w11.cell? ⟨gb102, 0, none⟩ = some (.int .i64 a1_0) := (blk_cell BK102.out 0).trans rfl; have hcz13_1 : w11.cell? ⟨gb102, 1, none⟩ = some (.int .i64 a1_1) := (blk_cell BK102.out 1).trans rfl; have hcz13_2 : w11.cell? ⟨gb102, 2, none⟩ = some (.int .i64 a1_2) := (blk_cell BK102.out 2).trans rfl; have hcz13_3 : w11.cell? ⟨gb102, 3, none⟩ = some (.string a1_3) := (blk_cell BK102.out 3).trans rfl; have hcz13_4 : w11.cell? ⟨gb102, 4, none⟩ = some (.int .i64 a1_4) := (blk_cell BK102.out 4).trans rfl; have hfz13_0 := blk_frozen BK102.out 0; have hfz13_1 := blk_frozen BK102.out 1; have hfz13_2 := blk_frozen BK102.out 2; have hfz13_3 := blk_frozen BK102.out 3; have hfz13_4 := blk_frozen BK102.out 4))
      go_ret
      exact ⟨by first | rfl | (simp only [i64_w, i32_w]; done) | (simp only [i64_w, i32_w]; rfl) | (simp [errW_none, errW_some] <;> rfl) | (simp [*, errW_none, errW_some] <;> rfl), by repeat (first | (with_reducible first | exact HB.out | apply below_alloc | apply pw_below_drewN | apply below_drew1 | refine below_set ?_ GE101.out | refine below_set ?_ GE102.out) | exact HB.out)⟩
    · rw [if_neg c5] at H
      have c5b0 : (a0_4 == a1_4) = false := beq_eq_false_iff_ne.mpr c5
      have c5b1 : (a0_4 != a1_4) = true := bne_iff_ne.mpr c5
      obtain rfl := Option.some.inj H
      go_enter Try.func50, Try.ntmps50
      go_wp2_with (first | ((with_reducible refine gate_dst (N := 2) rfl ?_); refine box_event ?hg (N := 2) ?hd (cs := #[.int .i64 a0_0, .int .i64 a0_1, .int .i64 a0_2, .string a0_3, .int .i64 a0_4]) (t := 76) ?hr ?_; (case hd => rfl); (case hg => rfl); (case hr => first | (go_simp; done) | (go_simp; rfl)); intro gb101 hg w14 hbox hb; have n0_ := Aside0.mk (below_step (by repeat (first | (with_reducible first | exact HB.out | apply below_alloc | apply pw_below_drewN | apply below_drew1) | exact HB.out)) hb); have n1_ := Aside0.mk (hbox); have n2_ := Aside0.mk ((by rw [hg]; exact (below_size (by repeat (first | (with_reducible first | exact HB.out | apply below_alloc | apply pw_below_drewN | apply below_drew1) | exact HB.out))) : w.heap.size ≤ gb101)); have n3_ := Aside0.mk ((by rw [hg]; exact (below_size (by repeat (first | (with_reducible first | exact HB.out | apply below_alloc | apply pw_below_drewN | apply below_drew1) | exact HB.out))) : w.heap.size ≤ gb101)); clear HB; have HB := n0_; have BK101 := n1_; have GW101 := n2_; have GE101 := n3_; clear n0_ n1_ n2_ n3_; clear hb hbox hg) | ((with_reducible refine gate_dst (N := 3) rfl ?_); refine box_event ?hg (N := 3) ?hd (cs := #[.int .i64 a1_0, .int .i64 a1_1, .int .i64 a1_2, .string a1_3, .int .i64 a1_4]) (t := 76) ?hr ?_; (case hd => rfl); (case hg => rfl); (case hr => first | (go_simp; done) | (go_simp; rfl)); intro gb102 hg w15 hbox hb; have n0_ := Aside0.mk (blk_below (g := gb101) (o := .cells #[.int .i64 a0_0, .int .i64 a0_1, .int .i64 a0_2, .string a0_3, .int .i64 a0_4] 76 (0, 0)) (by (with_reducible repeat (first | refine blk_drewN ?_ _ | refine blk_drew ?_ | refine blk_alloc ?_ _)); exact BK101.out) hb); have n1_ := Aside0.mk (below_step (by repeat (first | (with_reducible first | exact HB.out | apply below_alloc | apply pw_below_drewN | apply below_drew1 | refine below_set ?_ GE101.out) | exact HB.out)) hb); have n2_ := Aside0.mk (hbox); have n3_ := Aside0.mk ((by rw [hg]; exact (below_size (by repeat (first | (with_reducible first | exact HB.out | apply below_alloc | apply pw_below_drewN | apply below_drew1 | refine below_set ?_ GE101.out) | exact HB.out))) : w.heap.size ≤ gb102)); have n4_ := Aside0.mk ((by rw [hg]; exact (below_size (by repeat (first | (with_reducible first | exact HB.out | apply below_alloc | apply pw_below_drewN | apply below_drew1 | refine below_set ?_ GE101.out) | exact HB.out))) : w.heap.size ≤ gb102)); have n5_ := Aside0.mk ((by rw [hg]; exact Nat.ne_of_lt (blk_lt (g := gb101) (o := .cells #[.int .i64 a0_0, .int .i64 a0_1, .int .i64 a0_2, .string a0_3, .int .i64 a0_4] 76 (0, 0)) (by (with_reducible repeat (first | refine blk_drewN ?_ _ | refine blk_drew ?_ | refine blk_alloc ?_ _)); exact BK101.out)) : gb101 ≠ gb102)); have n6_ := Aside0.mk ((by rw [hg]; exact Nat.ne_of_gt (blk_lt (g := gb101) (o := .cells #[.int .i64 a0_0, .int .i64 a0_1, .int .i64 a0_2, .string a0_3, .int .i64 a0_4] 76 (0, 0)) (by (with_reducible repeat (first | refine blk_drewN ?_ _ | refine blk_drew ?_ | refine blk_alloc ?_ _)); exact BK101.out)) : gb102 ≠ gb101)); clear BK101; clear HB; have BK101 := n0_; have HB := n1_; have BK102 := n2_; have GW102 := n3_; have GE102 := n4_; have NB101_102 := n5_; have NB102_101 := n6_; clear n0_ n1_ n2_ n3_ n4_ n5_ n6_; clear hb hbox hg; have hnb16 := NB101_102.out; have hnc16 := NB102_101.out; have hcz17_0 : w15.cell? ⟨gb101, 0, none⟩ = some (.int .i64 a0_0) := (blk_cell BK101.out 0).trans rfl; have hcz17_1 : w15.cell? ⟨gb101, 1, none⟩ = some (.int .i64 a0_1) := (blk_cell BK101.out 1).trans rfl; have hcz17_2 : w15.cell? ⟨gb101, 2, none⟩ = some (.int .i64 a0_2) := (blk_cell BK101.out 2).trans rfl; have hcz17_3 : w15.cell? ⟨gb101, 3, none⟩ = some (.string a0_3) := (blk_cell BK101.out 3).trans rfl; have hcz17_4 : w15.cell? ⟨gb101, 4, none⟩ = some (.int .i64 a0_4) := (blk_cell BK101.out 4).trans rfl; have hfz17_0 := blk_frozen BK101.out 0; have hfz17_1 := blk_frozen BK101.out 1; have hfz17_2 := blk_frozen BK101.out 2; have hfz17_3 := blk_frozen BK101.out 3; have hfz17_4 := blk_frozen BK101.out 4; have hcz18_0 : w15.cell? ⟨gb102, 0, none⟩ = some (.int .i64 a1_0) := (blk_cell BK102.out 0).trans rfl; have hcz18_1 : w15.cell? ⟨gb102, 1, none⟩ = some (.int .i64 a1_1) := (blk_cell BK102.out 1).trans rfl; have hcz18_2 : w15.cell? ⟨gb102, 2, none⟩ = some (.int .i64 a1_2) := (blk_cell BK102.out 2).trans rfl; have hcz18_3 : w15.cell? ⟨gb102, 3, none⟩ = some (.string a1_3) := (blk_cell BK102.out 3).trans rfl; have hcz18_4 : w15.cell? ⟨gb102, 4, none⟩ = some (.int .i64 a1_4) := (blk_cell BK102.out 4).trans rfl; have hfz18_0 := blk_frozen BK102.out 0; have hfz18_1 := blk_frozen BK102.out 1; have hfz18_2 := blk_frozen BK102.out 2; have hfz18_3 := blk_frozen BK102.out 3; have hfz18_4 := blk_frozen BK102.out 4) | ((with_reducible refine gate_callee (f := 107) rfl ?_); refine goesL_ (some 9) rfl rfl Try.func107 (by kernel_rfl) rfl #[.agg #[.int .i64 a0_0, .int .i64 a0_1, .int .i64 a0_2, .string a0_3], .agg #[.int .i64 a1_0, .int .i64 a1_1, .int .i64 a1_2, .string a1_3]] rfl (by (try simp only [List.map_toArray, List.map_cons, List.map_nil]); first | done | rfl | (simp only [List.length_drop, List.length_take]; rfl)) ?_; (with_reducible refine (laws_eqHead.calls a0_0 a0_1 a0_2 a0_3 a1_0 a1_1 a1_2 a1_3 true _ A3.out).mono ?_); rintro e w19 ⟨rfl, hb⟩; refine ⟨_, rfl, ?_⟩; have n0_ := Aside0.mk (blk_below (g := gb101) (o := .cells #[.int .i64 a0_0, .int .i64 a0_1, .int .i64 a0_2, .string a0_3, .int .i64 a0_4] 76 (0, 0)) (by (with_reducible repeat (first | refine blk_drewN ?_ _ | refine blk_drew ?_ | refine blk_alloc ?_ _)); exact BK101.out) hb); have n1_ := Aside0.mk (blk_below (g := gb102) (o := .cells #[.int .i64 a1_0, .int .i64 a1_1, .int .i64 a1_2, .string a1_3, .int .i64 a1_4] 76 (0, 0)) (by (with_reducible repeat (first | refine blk_drewN ?_ _ | refine blk_drew ?_ | refine blk_alloc ?_ _)); exact BK102.out) hb); have n2_ := Aside0.mk (below_step (by repeat (first | (with_reducible first | exact HB.out | apply below_alloc | apply pw_below_drewN | apply below_drew1 | refine below_set ?_ GE101.out | refine below_set ?_ GE102.out) | exact HB.out)) hb); clear BK101; clear BK102; clear HB; have BK101 := n0_; have BK102 := n1_; have HB := n2_; clear n0_ n1_ n2_; (try clear hb); (try clear hb2); (try clear hk); (try clear hi); have hcz20_0 : w19.cell? ⟨gb101, 0, none⟩ = some (.int .i64 a0_0) := (blk_cell BK101.out 0).trans rfl; have hcz20_1 : w19.cell? ⟨gb101, 1, none⟩ = some (.int .i64 a0_1) := (blk_cell BK101.out 1).trans rfl; have hcz20_2 : w19.cell? ⟨gb101, 2, none⟩ = some (.int .i64 a0_2) := (blk_cell BK101.out 2).trans rfl; have hcz20_3 : w19.cell? ⟨gb101, 3, none⟩ = some (.string a0_3) := (blk_cell BK101.out 3).trans rfl; have hcz20_4 : w19.cell? ⟨gb101, 4, none⟩ = some (.int .i64 a0_4) := (blk_cell BK101.out 4).trans rfl; have hfz20_0 := blk_frozen BK101.out 0; have hfz20_1 := blk_frozen BK101.out 1; have hfz20_2 := blk_frozen BK101.out 2; have hfz20_3 := blk_frozen BK101.out 3; have hfz20_4 := blk_frozen BK101.out 4; have hcz21_0 : w19.cell? ⟨gb102, 0, none⟩ = some (.int .i64 a1_0) := (blk_cell BK102.out 0).trans rfl; have hcz21_1 : w19.cell? ⟨gb102, 1, none⟩ = some (.int .i64 a1_1) := (blk_cell BK102.out 1).trans rfl; have hcz21_2 : w19.cell? ⟨gb102, 2, none⟩ = some (.int .i64 a1_2) := (blk_cell BK102.out 2).trans rfl; have hcz21_3 : w19.cell? ⟨gb102, 3, none⟩ = some (.string a1_3) := (blk_cell BK102.out 3).trans rfl; have hcz21_4 : w19.cell? ⟨gb102, 4, none⟩ = some (.int .i64 a1_4) := (blk_cell BK102.out 4).trans rfl; have hfz21_0 := blk_frozen BK102.out 0; have hfz21_1 := blk_frozen BK102.out 1; have hfz21_2 := blk_frozen BK102.out 2; have hfz21_3 := blk_frozen BK102.out 3; have hfz21_4 := blk_frozen BK102.out 4))
      go_ret
      exact ⟨by first | rfl | (simp only [i64_w, i32_w]; done) | (simp only [i64_w, i32_w]; rfl) | (simp [errW_none, errW_some] <;> rfl) | (simp [*, errW_none, errW_some] <;> rfl), by repeat (first | (with_reducible first | exact HB.out | apply below_alloc | apply pw_below_drewN | apply below_drew1 | refine below_set ?_ GE101.out | refine below_set ?_ GE102.out) | exact HB.out)⟩
  · replace c4 := Bool.eq_false_iff.mpr c4
    subst c4
    have H1 : (some false) = some r := by rw [if_neg (show ¬ (false = true) by decide)] at H; exact H
    clear H
    have H := H1
    clear H1
    obtain rfl := Option.some.inj H
    go_enter Try.func50, Try.ntmps50
    go_wp2_with (first | ((with_reducible refine gate_dst (N := 2) rfl ?_); refine box_event ?hg (N := 2) ?hd (cs := #[.int .i64 a0_0, .int .i64 a0_1, .int .i64 a0_2, .string a0_3, .int .i64 a0_4]) (t := 76) ?hr ?_; (case hd => rfl); (case hg => rfl); (case hr => first | (go_simp; done) | (go_simp; rfl)); intro gb101 hg w22 hbox hb; have n0_ := Aside0.mk (below_step (by repeat (first | (with_reducible first | exact HB.out | apply below_alloc | apply pw_below_drewN | apply below_drew1) | exact HB.out)) hb); have n1_ := Aside0.mk (hbox); have n2_ := Aside0.mk ((by rw [hg]; exact (below_size (by repeat (first | (with_reducible first | exact HB.out | apply below_alloc | apply pw_below_drewN | apply below_drew1) | exact HB.out))) : w.heap.size ≤ gb101)); have n3_ := Aside0.mk ((by rw [hg]; exact (below_size (by repeat (first | (with_reducible first | exact HB.out | apply below_alloc | apply pw_below_drewN | apply below_drew1) | exact HB.out))) : w.heap.size ≤ gb101)); clear HB; have HB := n0_; have BK101 := n1_; have GW101 := n2_; have GE101 := n3_; clear n0_ n1_ n2_ n3_; clear hb hbox hg) | ((with_reducible refine gate_dst (N := 3) rfl ?_); refine box_event ?hg (N := 3) ?hd (cs := #[.int .i64 a1_0, .int .i64 a1_1, .int .i64 a1_2, .string a1_3, .int .i64 a1_4]) (t := 76) ?hr ?_; (case hd => rfl); (case hg => rfl); (case hr => first | (go_simp; done) | (go_simp; rfl)); intro gb102 hg w23 hbox hb; have n0_ := Aside0.mk (blk_below (g := gb101) (o := .cells #[.int .i64 a0_0, .int .i64 a0_1, .int .i64 a0_2, .string a0_3, .int .i64 a0_4] 76 (0, 0)) (by (with_reducible repeat (first | refine blk_drewN ?_ _ | refine blk_drew ?_ | refine blk_alloc ?_ _)); exact BK101.out) hb); have n1_ := Aside0.mk (below_step (by repeat (first | (with_reducible first | exact HB.out | apply below_alloc | apply pw_below_drewN | apply below_drew1 | refine below_set ?_ GE101.out) | exact HB.out)) hb); have n2_ := Aside0.mk (hbox); have n3_ := Aside0.mk ((by rw [hg]; exact (below_size (by repeat (first | (with_reducible first | exact HB.out | apply below_alloc | apply pw_below_drewN | apply below_drew1 | refine below_set ?_ GE101.out) | exact HB.out))) : w.heap.size ≤ gb102)); have n4_ := Aside0.mk ((by rw [hg]; exact (below_size (by repeat (first | (with_reducible first | exact HB.out | apply below_alloc | apply pw_below_drewN | apply below_drew1 | refine below_set ?_ GE101.out) | exact HB.out))) : w.heap.size ≤ gb102)); have n5_ := Aside0.mk ((by rw [hg]; exact Nat.ne_of_lt (blk_lt (g := gb101) (o := .cells #[.int .i64 a0_0, .int .i64 a0_1, .int .i64 a0_2, .string a0_3, .int .i64 a0_4] 76 (0, 0)) (by (with_reducible repeat (first | refine blk_drewN ?_ _ | refine blk_drew ?_ | refine blk_alloc ?_ _)); exact BK101.out)) : gb101 ≠ gb102)); have n6_ := Aside0.mk ((by rw [hg]; exact Nat.ne_of_gt (blk_lt (g := gb101) (o := .cells #[.int .i64 a0_0, .int .i64 a0_1, .int .i64 a0_2, .string a0_3, .int .i64 a0_4] 76 (0, 0)) (by (with_reducible repeat (first | refine blk_drewN ?_ _ | refine blk_drew ?_ | refine blk_alloc ?_ _)); exact BK101.out)) : gb102 ≠ gb101)); clear BK101; clear HB; have BK101 := n0_; have HB := n1_; have BK102 := n2_; have GW102 := n3_; have GE102 := n4_; have NB101_102 := n5_; have NB102_101 := n6_; clear n0_ n1_ n2_ n3_ n4_ n5_ n6_; clear hb hbox hg; have hnb24 := NB101_102.out; have hnc24 := NB102_101.out; have hcz25_0 : w23.cell? ⟨gb101, 0, none⟩ = some (.int .i64 a0_0) := (blk_cell BK101.out 0).trans rfl; have hcz25_1 : w23.cell? ⟨gb101, 1, none⟩ = some (.int .i64 a0_1) := (blk_cell BK101.out 1).trans rfl; have hcz25_2 : w23.cell? ⟨gb101, 2, none⟩ = some (.int .i64 a0_2) := (blk_cell BK101.out 2).trans rfl; have hcz25_3 : w23.cell? ⟨gb101, 3, none⟩ = some (.string a0_3) := (blk_cell BK101.out 3).trans rfl; have hcz25_4 : w23.cell? ⟨gb101, 4, none⟩ = some (.int .i64 a0_4) := (blk_cell BK101.out 4).trans rfl; have hfz25_0 := blk_frozen BK101.out 0; have hfz25_1 := blk_frozen BK101.out 1; have hfz25_2 := blk_frozen BK101.out 2; have hfz25_3 := blk_frozen BK101.out 3; have hfz25_4 := blk_frozen BK101.out 4; have hcz26_0 : w23.cell? ⟨gb102, 0, none⟩ = some (.int .i64 a1_0) := (blk_cell BK102.out 0).trans rfl; have hcz26_1 : w23.cell? ⟨gb102, 1, none⟩ = some (.int .i64 a1_1) := (blk_cell BK102.out 1).trans rfl; have hcz26_2 : w23.cell? ⟨gb102, 2, none⟩ = some (.int .i64 a1_2) := (blk_cell BK102.out 2).trans rfl; have hcz26_3 : w23.cell? ⟨gb102, 3, none⟩ = some (.string a1_3) := (blk_cell BK102.out 3).trans rfl; have hcz26_4 : w23.cell? ⟨gb102, 4, none⟩ = some (.int .i64 a1_4) := (blk_cell BK102.out 4).trans rfl; have hfz26_0 := blk_frozen BK102.out 0; have hfz26_1 := blk_frozen BK102.out 1; have hfz26_2 := blk_frozen BK102.out 2; have hfz26_3 := blk_frozen BK102.out 3; have hfz26_4 := blk_frozen BK102.out 4) | ((with_reducible refine gate_callee (f := 107) rfl ?_); refine goesL_ (some 9) rfl rfl Try.func107 (by kernel_rfl) rfl #[.agg #[.int .i64 a0_0, .int .i64 a0_1, .int .i64 a0_2, .string a0_3], .agg #[.int .i64 a1_0, .int .i64 a1_1, .int .i64 a1_2, .string a1_3]] rfl (by (try simp only [List.map_toArray, List.map_cons, List.map_nil]); first | done | rfl | (simp only [List.length_drop, List.length_take]; rfl)) ?_; (with_reducible refine (laws_eqHead.calls a0_0 a0_1 a0_2 a0_3 a1_0 a1_1 a1_2 a1_3 false _ A3.out).mono ?_); rintro e w27 ⟨rfl, hb⟩; refine ⟨_, rfl, ?_⟩; have n0_ := Aside0.mk (blk_below (g := gb101) (o := .cells #[.int .i64 a0_0, .int .i64 a0_1, .int .i64 a0_2, .string a0_3, .int .i64 a0_4] 76 (0, 0)) (by (with_reducible repeat (first | refine blk_drewN ?_ _ | refine blk_drew ?_ | refine blk_alloc ?_ _)); exact BK101.out) hb); have n1_ := Aside0.mk (blk_below (g := gb102) (o := .cells #[.int .i64 a1_0, .int .i64 a1_1, .int .i64 a1_2, .string a1_3, .int .i64 a1_4] 76 (0, 0)) (by (with_reducible repeat (first | refine blk_drewN ?_ _ | refine blk_drew ?_ | refine blk_alloc ?_ _)); exact BK102.out) hb); have n2_ := Aside0.mk (below_step (by repeat (first | (with_reducible first | exact HB.out | apply below_alloc | apply pw_below_drewN | apply below_drew1 | refine below_set ?_ GE101.out | refine below_set ?_ GE102.out) | exact HB.out)) hb); clear BK101; clear BK102; clear HB; have BK101 := n0_; have BK102 := n1_; have HB := n2_; clear n0_ n1_ n2_; (try clear hb); (try clear hb2); (try clear hk); (try clear hi)))
    go_ret
    exact ⟨by first | rfl | (simp only [i64_w, i32_w]; done) | (simp only [i64_w, i32_w]; rfl) | (simp [errW_none, errW_some] <;> rfl) | (simp [*, errW_none, errW_some] <;> rfl), by repeat (first | (with_reducible first | exact HB.out | apply below_alloc | apply pw_below_drewN | apply below_drew1 | refine below_set ?_ GE101.out | refine below_set ?_ GE102.out) | exact HB.out)⟩

end Go.Proofs.Ythoibokhmkjkdaa.P

namespace Go.Proofs.Ythoibokhmkjkdaa.P
open Go.RowKit Go.Proofs.YthoibokhmkjkdaaW.PrintWords Go.Proofs.YthoibokhmkjkdaaW.PrintLast Go.Proofs.YthoibokhmkjkdaaW.PrintMore
attribute [local go_sem] max2_int min2_int max_two min_two max_three min_three max_four min_four   -- for this text's walks alone
set_option linter.unusedVariables false
set_option linter.unusedSimpArgs false

/-! ### laws_FnExactHeadRead: function 11 -/
def laws_FnExactHeadRead.f (k : Nat) (a0 : ByteArray) : Option (Bool) := if (a0.size : Int) > 1048576 then (some true) else ((spec_HeadRead.f k a0).bind fun bt101 => ((impl_HeadRead.f k a0).bind fun bt107 => ((laws_eqHeadOut.f bt107.1 bt107.2.1 bt107.2.2.1 bt107.2.2.2.1 bt107.2.2.2.2 bt101.1 bt101.2.1 bt101.2.2.1 bt101.2.2.2.1 bt101.2.2.2.2).bind fun t113 => (if t113 = true then (some true) else (some false)))))
theorem laws_FnExactHeadRead.mono : ∀ a0 k, LeO (laws_FnExactHeadRead.f k a0) (laws_FnExactHeadRead.f (k + 1) a0) := by
  intro a0 k
  unfold laws_FnExactHeadRead.f
  repeat' first
      | (with_reducible exact impl_HeadRead.mono _ _)
      | (with_reducible exact spec_HeadRead.mono _ _)
      | (with_reducible exact LeO.refl _)
      | (with_reducible exact LeO.none _)
      | (with_reducible refine LeO.ite ?_ ?_)
      | (with_reducible refine LeO.bind ?_ (fun _ => ?_))
      | exact impl_HeadRead.mono _ _
      | exact spec_HeadRead.mono _ _
      | exact LeO.none _
      | refine LeO.ite ?_ ?_
      | refine LeO.bind ?_ (fun _ => ?_)
set_option maxHeartbeats 8000000 in
set_option maxRecDepth 100000 in
theorem laws_FnExactHeadRead.calls (k : Nat) (a0 : ByteArray) (r : Bool) (w : World) (h : laws_FnExactHeadRead.f k a0 = some r) :
    Calls Try.prog 11 #[.string a0] w fun e w' => e = .returned (.bool r) ∧ Below w.heap.size w w' := by
  have hu76 := Try.underlying76
  have HB := Aside0.mk (Below.refl w.heap.size w)
  have H : (if (a0.size : Int) > 1048576 then (some true) else ((spec_HeadRead.f k a0).bind fun bt101 => ((impl_HeadRead.f k a0).bind fun bt107 => ((laws_eqHeadOut.f bt107.1 bt107.2.1 bt107.2.2.1 bt107.2.2.2.1 bt107.2.2.2.2 bt101.1 bt101.2.1 bt101.2.2.1 bt101.2.2.2.1 bt101.2.2.2.2).bind fun t113 => (if t113 = true then (some true) else (some false)))))) = some r := h
  clear h
  by_cases c2 : (a0.size : Int) > 1048576
  · rw [if_pos c2] at H
    have c2b0 : decide (1048576 < (a0.size : Int)) = true := decide_eq_true c2
    have c2b1 : decide (1048576 < a0.size) = true := decide_eq_true (by omega)
    clear c2
    obtain rfl := Option.some.inj H
    go_enter Try.func11, Try.ntmps11
    go_wp2
    go_ret
    exact ⟨by first | rfl | (simp only [i64_w, i32_w]; done) | (simp only [i64_w, i32_w]; rfl) | (simp [errW_none, errW_some] <;> rfl) | (simp [*, errW_none, errW_some] <;> rfl), by repeat (first | (with_reducible first | exact HB.out | apply below_alloc | apply pw_below_drewN | apply below_drew1) | exact HB.out)⟩
  · rw [if_neg c2] at H
    have c2b0 : decide (1048576 < (a0.size : Int)) = false := decide_eq_false c2
    have c2b1 : decide (1048576 < a0.size) = false := decide_eq_false (by omega)
    clear c2
    replace H := Option.bind_eq_some_iff.mp H
    obtain ⟨⟨t101, t102, t103, t104, t105⟩, A30, H⟩ := H
    replace H : ((impl_HeadRead.f k a0).bind fun bt107 => ((laws_eqHeadOut.f bt107.1 bt107.2.1 bt107.2.2.1 bt107.2.2.2.1 bt107.2.2.2.2 t101 t102 t103 t104 t105).bind fun t113 => (if t113 = true then (some true) else (some false)))) = some r := H
    have A3 := Aside0.mk A30
    clear A30
    replace H := Option.bind_eq_some_iff.mp H
    obtain ⟨⟨t107, t108, t109, t110, t111⟩, A40, H⟩ := H
    replace H : ((laws_eqHeadOut.f t107 t108 t109 t110 t111 t101 t102 t103 t104 t105).bind fun t113 => (if t113 = true then (some true) else (some false))) = some r := H
    have A4 := Aside0.mk A40
    clear A40
    replace H := Option.bind_eq_some_iff.mp H
    obtain ⟨t113, A50, H⟩ := H
    replace H : (if t113 = true then (some true) else (some false)) = some r := H
    have A5 := Aside0.mk A50
    clear A50
    by_cases c6 : t113 = true
    · subst c6
      have H1 : (some true) = some r := by rw [if_pos rfl] at H; exact H
      clear H
      have H := H1
      clear H1
      obtain rfl := Option.some.inj H
      go_enter Try.func11, Try.ntmps11
      go_wp2_with (first | ((with_reducible refine gate_callee (f := 48) rfl ?_); refine goesL_ (some 9) rfl rfl Try.func48 (by kernel_rfl) rfl #[.string a0] rfl (by (try simp only [List.map_toArray, List.map_cons, List.map_nil]); first | done | rfl | (simp only [List.length_drop, List.length_take]; rfl)) ?_; (with_reducible refine (spec_HeadRead.calls k a0 t101 t102 t103 t104 t105 _ A3.out).mono ?_); rintro e w7 ⟨rfl, hb⟩; refine ⟨_, rfl, ?_⟩; have n0_ := Aside0.mk (below_step (by repeat (first | (with_reducible first | exact HB.out | apply below_alloc | apply pw_below_drewN | apply below_drew1) | exact HB.out)) hb); clear HB; have HB := n0_; clear n0_; (try clear hb); (try clear hb2); (try clear hk); (try clear hi)) | ((with_reducible refine gate_dst (N := 3) rfl ?_); refine box_event ?hg (N := 3) ?hd (cs := #[.int .i64 0, .int .i64 0, .int .i64 0, .string (⟨#[]⟩ : ByteArray), .int .i64 0]) (t := 76) ?hr ?_; (case hd => rfl); (case hg => rfl); (case hr => first | (go_simp; done) | (go_simp; rfl)); intro gb106 hg w8 hbox hb; have n0_ := Aside0.mk (below_step (by repeat (first | (with_reducible first | exact HB.out | apply below_alloc | apply pw_below_drewN | apply below_drew1) | exact HB.out)) hb); have n1_ := Aside0.mk (hbox); have n2_ := Aside0.mk ((by rw [hg]; exact (below_size (by repeat (first | (with_reducible first | exact HB.out | apply below_alloc | apply pw_below_drewN | apply below_drew1) | exact HB.out))) : w.heap.size ≤ gb106)); have n3_ := Aside0.mk ((by rw [hg]; exact (below_size (by repeat (first | (with_reducible first | exact HB.out | apply below_alloc | apply pw_below_drewN | apply below_drew1) | exact HB.out))) : w.heap.size ≤ gb106)); clear HB; have HB := n0_; have BK106 := n1_; have GW106 := n2_; have GE106 := n3_; clear n0_ n1_ n2_ n3_; clear hb hbox hg; have hcz9_0 : w8.cell? ⟨gb106, 0, none⟩ = some (.int .i64 0) := (blk_cell BK106.out 0).trans rfl; have hcz9_1 : w8.cell? ⟨gb106, 1, none⟩ = some (.int .i64 0) := (blk_cell BK106.out 1).trans rfl; have hcz9_2 : w8.cell? ⟨gb106, 2, none⟩ = some (.int .i64 0) := (blk_cell BK106.out 2).trans rfl; have hcz9_3 : w8.cell? ⟨gb106, 3, none⟩ = some (.string (⟨#[]⟩ : ByteArray)) := (blk_cell BK106.out 3).trans rfl; have hcz9_4 : w8.cell? ⟨gb106, 4, none⟩ = some (.int .i64 0) := (blk_cell BK106.out 4).trans rfl; have hfz9_0 := blk_frozen BK106.out 0; have hfz9_1 := blk_frozen BK106.out 1; have hfz9_2 := blk_frozen BK106.out 2; have hfz9_3 := blk_frozen BK106.out 3; have hfz9_4 := blk_frozen BK106.out 4) | ((with_reducible refine gate_callee (f := 49) rfl ?_); refine goesL_ (some 11) rfl rfl Try.func49 (by kernel_rfl) rfl #[.string a0] rfl (by (try simp only [List.map_toArray, List.map_cons, List.map_nil]); first | done | rfl | (simp only [List.length_drop, List.length_take]; rfl)) ?_; (with_reducible refine (impl_HeadRead.calls k a0 t107 t108 t109 t110 t111 _ A4.out).mono ?_); rintro e w10 ⟨rfl, hb⟩; refine ⟨_, rfl, ?_⟩; have n0_ := Aside0.mk (blk_below (g := gb106) (o := .cells #[.int .i64 t101, .int .i64 t102, .int .i64 t103, .string t104, .int .i64 t105] 76 (0, 0)) (by (with_reducible repeat (first | refine blk_drewN ?_ _ | refine blk_drew ?_ | refine blk_alloc ?_ _)); refine blk_put (cs := #[.int .i64 t101, .int .i64 t102, .int .i64 t103, .string t104, .int .i64 0]) ?_ 4 _ rfl; (with_reducible repeat (first | refine blk_drewN ?_ _ | refine blk_drew ?_ | refine blk_alloc ?_ _)); refine blk_put (cs := #[.int .i64 t101, .int .i64 t102, .int .i64 t103, .string (⟨#[]⟩ : ByteArray), .int .i64 0]) ?_ 3 _ rfl; (with_reducible repeat (first | refine blk_drewN ?_ _ | refine blk_drew ?_ | refine blk_alloc ?_ _)); refine blk_put (cs := #[.int .i64 t101, .int .i64 t102, .int .i64 0, .string (⟨#[]⟩ : ByteArray), .int .i64 0]) ?_ 2 _ rfl; (with_reducible repeat (first | refine blk_drewN ?_ _ | refine blk_drew ?_ | refine blk_alloc ?_ _)); refine blk_put (cs := #[.int .i64 t101, .int .i64 0, .int .i64 0, .string (⟨#[]⟩ : ByteArray), .int .i64 0]) ?_ 1 _ rfl; (with_reducible repeat (first | refine blk_drewN ?_ _ | refine blk_drew ?_ | refine blk_alloc ?_ _)); refine blk_put (cs := #[.int .i64 0, .int .i64 0, .int .i64 0, .string (⟨#[]⟩ : ByteArray), .int .i64 0]) ?_ 0 _ rfl; (with_reducible repeat (first | refine blk_drewN ?_ _ | refine blk_drew ?_ | refine blk_alloc ?_ _)); exact BK106.out) hb); have n1_ := Aside0.mk (below_step (by repeat (first | (with_reducible first | exact HB.out | apply below_alloc | apply pw_below_drewN | apply below_drew1 | refine below_set ?_ GE106.out) | exact HB.out)) hb); clear BK106; clear HB; have BK106 := n0_; have HB := n1_; clear n0_ n1_; (try clear hb); (try clear hb2); (try clear hk); (try clear hi)) | ((with_reducible refine gate_dst (N := 4) rfl ?_); refine box_event ?hg (N := 4) ?hd (cs := #[.int .i64 0, .int .i64 0, .int .i64 0, .string (⟨#[]⟩ : ByteArray), .int .i64 0]) (t := 76) ?hr ?_; (case hd => rfl); (case hg => rfl); (case hr => first | (go_simp; done) | (go_simp; rfl)); intro gb112 hg w11 hbox hb; have n0_ := Aside0.mk (blk_below (g := gb106) (o := .cells #[.int .i64 t101, .int .i64 t102, .int .i64 t103, .string t104, .int .i64 t105] 76 (0, 0)) (by (with_reducible repeat (first | refine blk_drewN ?_ _ | refine blk_drew ?_ | refine blk_alloc ?_ _)); exact BK106.out) hb); have n1_ := Aside0.mk (below_step (by repeat (first | (with_reducible first | exact HB.out | apply below_alloc | apply pw_below_drewN | apply below_drew1 | refine below_set ?_ GE106.out) | exact HB.out)) hb); have n2_ := Aside0.mk (hbox); have n3_ := Aside0.mk ((by rw [hg]; exact (below_size (by repeat (first | (with_reducible first | exact HB.out | apply below_alloc | apply pw_below_drewN | apply below_drew1 | refine below_set ?_ GE106.out) | exact HB.out))) : w.heap.size ≤ gb112)); have n4_ := Aside0.mk ((by rw [hg]; exact (below_size (by repeat (first | (with_reducible first | exact HB.out | apply below_alloc | apply pw_below_drewN | apply below_drew1 | refine below_set ?_ GE106.out) | exact HB.out))) : w.heap.size ≤ gb112)); have n5_ := Aside0.mk ((by rw [hg]; exact Nat.ne_of_lt (blk_lt (g := gb106) (o := .cells #[.int .i64 t101, .int .i64 t102, .int .i64 t103, .string t104, .int .i64 t105] 76 (0, 0)) (by (with_reducible repeat (first | refine blk_drewN ?_ _ | refine blk_drew ?_ | refine blk_alloc ?_ _)); exact BK106.out)) : gb106 ≠ gb112)); have n6_ := Aside0.mk ((by rw [hg]; exact Nat.ne_of_gt (blk_lt (g := gb106) (o := .cells #[.int .i64 t101, .int .i64 t102, .int .i64 t103, .string t104, .int .i64 t105] 76 (0, 0)) (by (with_reducible repeat (first | refine blk_drewN ?_ _ | refine blk_drew ?_ | refine blk_alloc ?_ _)); exact BK106.out)) : gb112 ≠ gb106)); clear BK106; clear HB; have BK106 := n0_; have HB := n1_; have BK112 := n2_; have GW112 := n3_; have GE112 := n4_; have NB106_112 := n5_; have NB112_106 := n6_; clear n0_ n1_ n2_ n3_ n4_ n5_ n6_; clear hb hbox hg; have hnb12 := NB112_106.out; have hnc12 := NB106_112.out; have hcz13_0 : w11.cell? ⟨gb112, 0, none⟩ = some (.int .i64 0) := (blk_cell BK112.out 0).trans rfl; have hcz13_1 : w11.cell? ⟨gb112, 1, none⟩ = some (.int .i64 0) := (blk_cell BK112.out 1).trans rfl; have hcz13_2 : w11.cell? ⟨gb112, 2, none⟩ = some (.int .i64 0) := (blk_cell BK112.out 2).trans rfl; have hcz13_3 : w11.cell? ⟨gb112, 3, none⟩ = some (.string (⟨#[]⟩ : ByteArray)) := (blk_cell BK112.out 3).trans rfl; have hcz13_4 : w11.cell? ⟨gb112, 4, none⟩ = some (.int .i64 0) := (blk_cell BK112.out 4).trans rfl; have hfz13_0 := blk_frozen BK112.out 0; have hfz13_1 := blk_frozen BK112.out 1; have hfz13_2 := blk_frozen BK112.out 2; have hfz13_3 := blk_frozen BK112.out 3; have hfz13_4 := blk_frozen BK112.out 4; have hcz14_0 : w11.cell? ⟨gb106, 0, none⟩ = some (.int .i64 t101) := (blk_cell BK106.out 0).trans rfl; have hcz14_1 : w11.cell? ⟨gb106, 1, none⟩ = some (.int .i64 t102) := (blk_cell BK106.out 1).trans rfl; have hcz14_2 : w11.cell? ⟨gb106, 2, none⟩ = some (.int .i64 t103) := (blk_cell BK106.out 2).trans rfl; have hcz14_3 : w11.cell? ⟨gb106, 3, none⟩ = some (.string t104) := (blk_cell BK106.out 3).trans rfl; have hcz14_4 : w11.cell? ⟨gb106, 4, none⟩ = some (.int .i64 t105) := (blk_cell BK106.out 4).trans rfl; have hfz14_0 := blk_frozen BK106.out 0; have hfz14_1 := blk_frozen BK106.out 1; have hfz14_2 := blk_frozen BK106.out 2; have hfz14_3 := blk_frozen BK106.out 3; have hfz14_4 := blk_frozen BK106.out 4) | ((with_reducible refine gate_callee (f := 50) rfl ?_); refine goesL_ (some 14) rfl rfl Try.func50 (by kernel_rfl) rfl #[.agg #[.int .i64 t107, .int .i64 t108, .int .i64 t109, .string t110, .int .i64 t111], .agg #[.int .i64 t101, .int .i64 t102, .int .i64 t103, .string t104, .int .i64 t105]] rfl (by (try simp only [List.map_toArray, List.map_cons, List.map_nil]); first | done | rfl | (simp only [List.length_drop, List.length_take]; rfl)) ?_; (with_reducible refine (laws_eqHeadOut.calls t107 t108 t109 t110 t111 t101 t102 t103 t104 t105 true _ A5.out).mono ?_); rintro e w15 ⟨rfl, hb⟩; refine ⟨_, rfl, ?_⟩; have n0_ := Aside0.mk (blk_below (g := gb106) (o := .cells #[.int .i64 t101, .int .i64 t102, .int .i64 t103, .string t104, .int .i64 t105] 76 (0, 0)) (by (with_reducible repeat (first | refine blk_drewN ?_ _ | refine blk_drew ?_ | refine blk_alloc ?_ _)); refine blk_far ?_ NB106_112.out _; (with_reducible repeat (first | refine blk_drewN ?_ _ | refine blk_drew ?_ | refine blk_alloc ?_ _)); refine blk_far ?_ NB106_112.out _; (with_reducible repeat (first | refine blk_drewN ?_ _ | refine blk_drew ?_ | refine blk_alloc ?_ _)); refine blk_far ?_ NB106_112.out _; (with_reducible repeat (first | refine blk_drewN ?_ _ | refine blk_drew ?_ | refine blk_alloc ?_ _)); refine blk_far ?_ NB106_112.out _; (with_reducible repeat (first | refine blk_drewN ?_ _ | refine blk_drew ?_ | refine blk_alloc ?_ _)); refine blk_far ?_ NB106_112.out _; (with_reducible repeat (first | refine blk_drewN ?_ _ | refine blk_drew ?_ | refine blk_alloc ?_ _)); exact BK106.out) hb); have n1_ := Aside0.mk (blk_below (g := gb112) (o := .cells #[.int .i64 t107, .int .i64 t108, .int .i64 t109, .string t110, .int .i64 t111] 76 (0, 0)) (by (with_reducible repeat (first | refine blk_drewN ?_ _ | refine blk_drew ?_ | refine blk_alloc ?_ _)); refine blk_put (cs := #[.int .i64 t107, .int .i64 t108, .int .i64 t109, .string t110, .int .i64 0]) ?_ 4 _ rfl; (with_reducible repeat (first | refine blk_drewN ?_ _ | refine blk_drew ?_ | refine blk_alloc ?_ _)); refine blk_put (cs := #[.int .i64 t107, .int .i64 t108, .int .i64 t109, .string (⟨#[]⟩ : ByteArray), .int .i64 0]) ?_ 3 _ rfl; (with_reducible repeat (first | refine blk_drewN ?_ _ | refine blk_drew ?_ | refine blk_alloc ?_ _)); refine blk_put (cs := #[.int .i64 t107, .int .i64 t108, .int .i64 0, .string (⟨#[]⟩ : ByteArray), .int .i64 0]) ?_ 2 _ rfl; (with_reducible repeat (first | refine blk_drewN ?_ _ | refine blk_drew ?_ | refine blk_alloc ?_ _)); refine blk_put (cs := #[.int .i64 t107, .int .i64 0, .int .i64 0, .string (⟨#[]⟩ : ByteArray), .int .i64 0]) ?_ 1 _ rfl; (with_reducible repeat (first | refine blk_drewN ?_ _ | refine blk_drew ?_ | refine blk_alloc ?_ _)); refine blk_put (cs := #[.int .i64 0, .int .i64 0, .int .i64 0, .string (⟨#[]⟩ : ByteArray), .int .i64 0]) ?_ 0 _ rfl; (with_reducible repeat (first | refine blk_drewN ?_ _ | refine blk_drew ?_ | refine blk_alloc ?_ _)); exact BK112.out) hb); have n2_ := Aside0.mk (below_step (by repeat (first | (with_reducible first | exact HB.out | apply below_alloc | apply pw_below_drewN | apply below_drew1 | refine below_set ?_ GE106.out | refine below_set ?_ GE112.out) | exact HB.out)) hb); clear BK106; clear BK112; clear HB; have BK106 := n0_; have BK112 := n1_; have HB := n2_; clear n0_ n1_ n2_; (try clear hb); (try clear hb2); (try clear hk); (try clear hi)))
      go_ret
      exact ⟨by first | rfl | (simp only [i64_w, i32_w]; done) | (simp only [i64_w, i32_w]; rfl) | (simp [errW_none, errW_some] <;> rfl) | (simp [*, errW_none, errW_some] <;> rfl), by repeat (first | (with_reducible first | exact HB.out | apply below_alloc | apply pw_below_drewN | apply below_drew1 | refine below_set ?_ GE106.out | refine below_set ?_ GE112.out) | exact HB.out)⟩
    · replace c6 := Bool.eq_false_iff.mpr c6
      subst c6
      have H1 : (some false) = some r := by rw [if_neg (show ¬ (false = true) by decide)] at H; exact H
      clear H
      have H := H1
      clear H1
      obtain rfl := Option.some.inj H
      go_enter Try.func11, Try.ntmps11
      go_wp2_with (first | ((with_reducible refine gate_callee (f := 48) rfl ?_); refine goesL_ (some 9) rfl rfl Try.func48 (by kernel_rfl) rfl #[.string a0] rfl (by (try simp only [List.map_toArray, List.map_cons, List.map_nil]); first | done | rfl | (simp only [List.length_drop, List.length_take]; rfl)) ?_; (with_reducible refine (spec_HeadRead.calls k a0 t101 t102 t103 t104 t105 _ A3.out).mono ?_); rintro e w16 ⟨rfl, hb⟩; refine ⟨_, rfl, ?_⟩; have n0_ := Aside0.mk (below_step (by repeat (first | (with_reducible first | exact HB.out | apply below_alloc | apply pw_below_drewN | apply below_drew1) | exact HB.out)) hb); clear HB; have HB := n0_; clear n0_; (try clear hb); (try clear hb2); (try clear hk); (try clear hi)) | ((with_reducible refine gate_dst (N := 3) rfl ?_); refine box_event ?hg (N := 3) ?hd (cs := #[.int .i64 0, .int .i64 0, .int .i64 0, .string (⟨#[]⟩ : ByteArray), .int .i64 0]) (t := 76) ?hr ?_; (case hd => rfl); (case hg => rfl); (case hr => first | (go_simp; done) | (go_simp; rfl)); intro gb106 hg w17 hbox hb; have n0_ := Aside0.mk (below_step (by repeat (first | (with_reducible first | exact HB.out | apply below_alloc | apply pw_below_drewN | apply below_drew1) | exact HB.out)) hb); have n1_ := Aside0.mk (hbox); have n2_ := Aside0.mk ((by rw [hg]; exact (below_size (by repeat (first | (with_reducible first | exact HB.out | apply below_alloc | apply pw_below_drewN | apply below_drew1) | exact HB.out))) : w.heap.size ≤ gb106)); have n3_ := Aside0.mk ((by rw [hg]; exact (below_size (by repeat (first | (with_reducible first | exact HB.out | apply below_alloc | apply pw_below_drewN | apply below_drew1) | exact HB.out))) : w.heap.size ≤ gb106)); clear HB; have HB := n0_; have BK106 := n1_; have GW106 := n2_; have GE106 := n3_; clear n0_ n1_ n2_ n3_; clear hb hbox hg; have hcz18_0 : w17.cell? ⟨gb106, 0, none⟩ = some (.int .i64 0) := (blk_cell BK106.out 0).trans rfl; have hcz18_1 : w17.cell? ⟨gb106, 1, none⟩ = some (.int .i64 0) := (blk_cell BK106.out 1).trans rfl; have hcz18_2 : w17.cell? ⟨gb106, 2, none⟩ = some (.int .i64 0) := (blk_cell BK106.out 2).trans rfl; have hcz18_3 : w17.cell? ⟨gb106, 3, none⟩ = some (.string (⟨#[]⟩ : ByteArray)) := (blk_cell BK106.out 3).trans rfl; have hcz18_4 : w17.cell? ⟨gb106, 4, none⟩ = some (.int .i64 0) := (blk_cell BK106.out 4).trans rfl; have hfz18_0 := blk_frozen BK106.out 0; have hfz18_1 := blk_frozen BK106.out 1; have hfz18_2 := blk_frozen BK106.out 2; have hfz18_3 := blk_frozen BK106.out 3; have hfz18_4 := blk_frozen BK106.out 4) | ((with_reducible refine gate_callee (f := 49) rfl ?_); refine goesL_ (some 11) rfl rfl Try.func49 (by kernel_rfl) rfl #[.string a0] rfl (by (try simp only [List.map_toArray, List.map_cons, List.map_nil]); first | done | rfl | (simp only [List.length_drop, List.length_take]; rfl)) ?_; (with_reducible refine (impl_HeadRead.calls k a0 t107 t108 t109 t110 t111 _ A4.out).mono ?_); rintro e w19 ⟨rfl, hb⟩; refine ⟨_, rfl, ?_⟩; have n0_ := Aside0.mk (blk_below (g := gb106) (o := .cells #[.int .i64 t101, .int .i64 t102, .int .i64 t103, .string t104, .int .i64 t105] 76 (0, 0)) (by (with_reducible repeat (first | refine blk_drewN ?_ _ | refine blk_drew ?_ | refine blk_alloc ?_ _)); refine blk_put (cs := #[.int .i64 t101, .int .i64 t102, .int .i64 t103, .string t104, .int .i64 0]) ?_ 4 _ rfl; (with_reducible repeat (first | refine blk_drewN ?_ _ | refine blk_drew ?_ | refine blk_alloc ?_ _)); refine blk_put (cs := #[.int .i64 t101, .int .i64 t102, .int .i64 t103, .string (⟨#[]⟩ : ByteArray), .int .i64 0]) ?_ 3 _ rfl; (with_reducible repeat (first | refine blk_drewN ?_ _ | refine blk_drew ?_ | refine blk_alloc ?_ _)); refine blk_put (cs := #[.int .i64 t101, .int .i64 t102, .int .i64 0, .string (⟨#[]⟩ : ByteArray), .int .i64 0]) ?_ 2 _ rfl; (with_reducible repeat (first | refine blk_drewN ?_ _ | refine blk_drew ?_ | refine blk_alloc ?_ _)); refine blk_put (cs := #[.int .i64 t101, .int .i64 0, .int .i64 0, .string (⟨#[]⟩ : ByteArray), .int .i64 0]) ?_ 1 _ rfl; (with_reducible repeat (first | refine blk_drewN ?_ _ | refine blk_drew ?_ | refine blk_alloc ?_ _)); refine blk_put (cs := #[.int .i64 0, .int .i64 0, .int .i64 0, .string (⟨#[]⟩ : ByteArray), .int .i64 0]) ?_ 0 _ rfl; (with_reducible repeat (first | refine blk_drewN ?_ _ | refine blk_drew ?_ | refine blk_alloc ?_ _)); exact BK106.out) hb); have n1_ := Aside0.mk (below_step (by repeat (first | (with_reducible first | exact HB.out | apply below_alloc | apply pw_below_drewN | apply below_drew1 | refine below_set ?_ GE106.out) | exact HB.out)) hb); clear BK106; clear HB; have BK106 := n0_; have HB := n1_; clear n0_ n1_; (try clear hb); (try clear hb2); (try clear hk); (try clear hi)) | ((with_reducible refine gate_dst (N := 4) rfl ?_); refine box_event ?hg (N := 4) ?hd (cs := #[.int .i64 0, .int .i64 0, .int .i64 0, .string (⟨#[]⟩ : ByteArray), .int .i64 0]) (t := 76) ?hr ?_; (case hd => rfl); (case hg => rfl); (case hr => first | (go_simp; done) | (go_simp; rfl)); intro gb112 hg w20 hbox hb; have n0_ := Aside0.mk (blk_below (g := gb106) (o := .cells #[.int .i64 t101, .int .i64 t102, .int .i64 t103, .string t104, .int .i64 t105] 76 (0, 0)) (by (with_reducible repeat (first | refine blk_drewN ?_ _ | refine blk_drew ?_ | refine blk_alloc ?_ _)); exact BK106.out) hb); have n1_ := Aside0.mk (below_step (by repeat (first | (with_reducible first | exact HB.out | apply below_alloc | apply pw_below_drewN | apply below_drew1 | refine below_set ?_ GE106.out) | exact HB.out)) hb); have n2_ := Aside0.mk (hbox); have n3_ := Aside0.mk ((by rw [hg]; exact (below_size (by repeat (first | (with_reducible first | exact HB.out | apply below_alloc | apply pw_below_drewN | apply below_drew1 | refine below_set ?_ GE106.out) | exact HB.out))) : w.heap.size ≤ gb112)); have n4_ := Aside0.mk ((by rw [hg]; exact (below_size (by repeat (first | (with_reducible first | exact HB.out | apply below_alloc | apply pw_below_drewN | apply below_drew1 | refine below_set ?_ GE106.out) | exact HB.out))) : w.heap.size ≤ gb112)); have n5_ := Aside0.mk ((by rw [hg]; exact Nat.ne_of_lt (blk_lt (g := gb106) (o := .cells #[.int .i64 t101, .int .i64 t102, .int .i64 t103, .string t104, .int .i64 t105] 76 (0, 0)) (by (with_reducible repeat (first | refine blk_drewN ?_ _ | refine blk_drew ?_ | refine blk_alloc ?_ _)); exact BK106.out)) : gb106 ≠ gb112)); have n6_ := Aside0.mk ((by rw [hg]; exact Nat.ne_of_gt (blk_lt (g := gb106) (o := .cells #[.int .i64 t101, .int .i64 t102, .int .i64 t103, .string t104, .int .i64 t105] 76 (0, 0)) (by (with_reducible repeat (first | refine blk_drewN ?_ _ | refine blk_drew ?_ | refine blk_alloc ?_ _)); exact BK106.out)) : gb112 ≠ gb106)); clear BK106; clear HB; have BK106 := n0_; have HB := n1_; have BK112 := n2_; have GW112 := n3_; have GE112 := n4_; have NB106_112 := n5_; have NB112_106 := n6_; clear n0_ n1_ n2_ n3_ n4_ n5_ n6_; clear hb hbox hg; have hnb21 := NB112_106.out; have hnc21 := NB106_112.out; have hcz22_0 : w20.cell? ⟨gb112, 0, none⟩ = some (.int .i64 0) := (blk_cell BK112.out 0).trans rfl; have hcz22_1 : w20.cell? ⟨gb112, 1, none⟩ = some (.int .i64 0) := (blk_cell BK112.out 1).trans rfl; have hcz22_2 : w20.cell? ⟨gb112, 2, none⟩ = some (.int .i64 0) := (blk_cell BK112.out 2).trans rfl; have hcz22_3 : w20.cell? ⟨gb112, 3, none⟩ = some (.string (⟨#[]⟩ : ByteArray)) := (blk_cell BK112.out 3).trans rfl; have hcz22_4 : w20.cell? ⟨gb112, 4, none⟩ = some (.int .i64 0) := (blk_cell BK112.out 4).trans rfl; have hfz22_0 := blk_frozen BK112.out 0; have hfz22_1 := blk_frozen BK112.out 1; have hfz22_2 := blk_frozen BK112.out 2; have hfz22_3 := blk_frozen BK112.out 3; have hfz22_4 := blk_frozen BK112.out 4; have hcz23_0 : w20.cell? ⟨gb106, 0, none⟩ = some (.int .i64 t101) := (blk_cell BK106.out 0).trans rfl; have hcz23_1 : w20.cell? ⟨gb106, 1, none⟩ = some (.int .i64 t102) := (blk_cell BK106.out 1).trans rfl; have hcz23_2 : w20.cell? ⟨gb106, 2, none⟩ = some (.int .i64 t103) := (blk_cell BK106.out 2).trans rfl; have hcz23_3 : w20.cell? ⟨gb106, 3, none⟩ = some (.string t104) := (blk_cell BK106.out 3).trans rfl; have hcz23_4 : w20.cell? ⟨gb106, 4, none⟩ = some (.int .i64 t105) := (blk_cell BK106.out 4).trans rfl; have hfz23_0 := blk_frozen BK106.out 0; have hfz23_1 := blk_frozen BK106.out 1; have hfz23_2 := blk_frozen BK106.out 2; have hfz23_3 := blk_frozen BK106.out 3; have hfz23_4 := blk_frozen BK106.out 4) | ((with_reducible refine gate_callee (f := 50) rfl ?_); refine goesL_ (some 14) rfl rfl Try.func50 (by kernel_rfl) rfl #[.agg #[.int .i64 t107, .int .i64 t108, .int .i64 t109, .string t110, .int .i64 t111], .agg #[.int .i64 t101, .int .i64 t102, .int .i64 t103, .string t104, .int .i64 t105]] rfl (by (try simp only [List.map_toArray, List.map_cons, List.map_nil]); first | done | rfl | (simp only [List.length_drop, List.length_take]; rfl)) ?_; (with_reducible refine (laws_eqHeadOut.calls t107 t108 t109 t110 t111 t101 t102 t103 t104 t105 false _ A5.out).mono ?_); rintro e w24 ⟨rfl, hb⟩; refine ⟨_, rfl, ?_⟩; have n0_ := Aside0.mk (blk_below (g := gb106) (o := .cells #[.int .i64 t101, .int .i64 t102, .int .i64 t103, .string t104, .int .i64 t105] 76 (0, 0)) (by (with_reducible repeat (first | refine blk_drewN ?_ _ | refine blk_drew ?_ | refine blk_alloc ?_ _)); refine blk_far ?_ NB106_112.out _; (with_reducible repeat (first | refine blk_drewN ?_ _ | refine blk_drew ?_ | refine blk_alloc ?_ _)); refine blk_far ?_ NB106_112.out _; (with_reducible repeat (first | refine blk_drewN ?_ _ | refine blk_drew ?_ | refine blk_alloc ?_ _)); refine blk_far ?_ NB106_112.out _; (with_reducible repeat (first | refine blk_drewN ?_ _ | refine blk_drew ?_ | refine blk_alloc ?_ _)); refine blk_far ?_ NB106_112.out _; (with_reducible repeat (first | refine blk_drewN ?_ _ | refine blk_drew ?_ | refine blk_alloc ?_ _)); refine blk_far ?_ NB106_112.out _; (with_reducible repeat (first | refine blk_drewN ?_ _ | refine blk_drew ?_ | refine blk_alloc ?_ _)); exact BK106.out) hb); have n1_ := Aside0.mk (blk_below (g := gb112) (o := .cells #[.int .i64 t107, .int .i64 t108, .int .i64 t109, .string t110, .int .i64 t111] 76 (0, 0)) (by (with_reducible repeat (first | refine blk_drewN ?_ _ | refine blk_drew ?_ | refine blk_alloc ?_ _)); refine blk_put (cs := #[.int .i64 t107, .int .i64 t108, .int .i64 t109, .string t110, .int .i64 0]) ?_ 4 _ rfl; (with_reducible repeat (first | refine blk_drewN ?_ _ | refine blk_drew ?_ | refine blk_alloc ?_ _)); refine blk_put (cs := #[.int .i64 t107, .int .i64 t108, .int .i64 t109, .string (⟨#[]⟩ : ByteArray), .int .i64 0]) ?_ 3 _ rfl; (with_reducible repeat (first | refine blk_drewN ?_ _ | refine blk_drew ?_ | refine blk_alloc ?_ _)); refine blk_put (cs := #[.int .i64 t107, .int .i64 t108, .int .i64 0, .string (⟨#[]⟩ : ByteArray), .int .i64 0]) ?_ 2 _ rfl; (with_reducible repeat (first | refine blk_drewN ?_ _ | refine blk_drew ?_ | refine blk_alloc ?_ _)); refine blk_put (cs := #[.int .i64 t107, .int .i64 0, .int .i64 0, .string (⟨#[]⟩ : ByteArray), .int .i64 0]) ?_ 1 _ rfl; (with_reducible repeat (first | refine blk_drewN ?_ _ | refine blk_drew ?_ | refine blk_alloc ?_ _)); refine blk_put (cs := #[.int .i64 0, .int .i64 0, .int .i64 0, .string (⟨#[]⟩ : ByteArray), .int .i64 0]) ?_ 0 _ rfl; (with_reducible repeat (first | refine blk_drewN ?_ _ | refine blk_drew ?_ | refine blk_alloc ?_ _)); exact BK112.out) hb); have n2_ := Aside0.mk (below_step (by repeat (first | (with_reducible first | exact HB.out | apply below_alloc | apply pw_below_drewN | apply below_drew1 | refine below_set ?_ GE106.out | refine below_set ?_ GE112.out) | exact HB.out)) hb); clear BK106; clear BK112; clear HB; have BK106 := n0_; have BK112 := n1_; have HB := n2_; clear n0_ n1_ n2_; (try clear hb); (try clear hb2); (try clear hk); (try clear hi)))
      go_ret
      exact ⟨by first | rfl | (simp only [i64_w, i32_w]; done) | (simp only [i64_w, i32_w]; rfl) | (simp [errW_none, errW_some] <;> rfl) | (simp [*, errW_none, errW_some] <;> rfl), by repeat (first | (with_reducible first | exact HB.out | apply below_alloc | apply pw_below_drewN | apply below_drew1 | refine below_set ?_ GE106.out | refine below_set ?_ GE112.out) | exact HB.out)⟩

end Go.Proofs.Ythoibokhmkjkdaa.P

namespace Go.Proofs.Ythoibokhmkjkdaa.P
open Go.RowKit Go.Proofs.YthoibokhmkjkdaaW.PrintWords Go.Proofs.YthoibokhmkjkdaaW.PrintLast Go.Proofs.YthoibokhmkjkdaaW.PrintMore
attribute [local go_sem] max2_int min2_int max_two min_two max_three min_three max_four min_four   -- for this text's walks alone
set_option linter.unusedVariables false
set_option linter.unusedSimpArgs false
def laws_FnExactHeadRead.Pure : Prop := ∀ (a0 : ByteArray), a0.size ≤ 140737488351232 → ∃ k, laws_FnExactHeadRead.f k a0 = some true
end Go.Proofs.Ythoibokhmkjkdaa.P

namespace Go.Proofs.Ythoibokhmkjkdaa.Pure
open Go Go.RowKit Go.Proofs.YthoibokhmkjkdaaW.PrintWords Go.Proofs.YthoibokhmkjkdaaW.PrintLast Go.Proofs.YthoibokhmkjkdaaW.PrintMore
theorem w64 {n : Int} (h0 : -9223372036854775808 ≤ n) (h1 : n < 9223372036854775808) : wrap64 n = n := by unfold wrap64; omega
theorem wf64 {n : Int} (h : (Lit.int .i64 n).wf = true) : -9223372036854775808 ≤ n ∧ n ≤ 9223372036854775807 := by
  simp [Lit.wf, IntKind.min, IntKind.max, IntKind.signed, IntKind.bits] at h
  omega
theorem u64w (n : Int) : IntKind.u64.wrap n = n % 18446744073709551616 := by simp [IntKind.wrap, IntKind.bits, IntKind.signed]
/-- One round more, where the tests are known. -/
theorem Ev.now' {α : Type} {g : Nat → Option α} {r : α} (h : ∀ k, g (k + 1) = some r) : Ev g r := ⟨1, fun k hk => by
  obtain ⟨m, rfl⟩ : ∃ m, k = m + 1 := ⟨k - 1, by omega⟩
  exact h m⟩
theorem Ev.all {α : Type} {g : Nat → Option α} {r : α} (h : ∀ k, g k = some r) : Ev g r := ⟨0, fun k _ => h k⟩
theorem Ev.ifp {α : Type} {c : Prop} [Decidable c] {g f : Nat → Option α} {r : α} (h : c) (hg : Ev g r) : Ev (fun k => if c then g k else f k) r := Ev.congr (fun _ => if_pos h) hg
theorem Ev.ifn {α : Type} {c : Prop} [Decidable c] {g f : Nat → Option α} {r : α} (h : ¬ c) (hf : Ev f r) : Ev (fun k => if c then g k else f k) r := Ev.congr (fun _ => if_neg h) hf
theorem Ev.ite {α : Type} {c : Prop} [Decidable c] {g f : Nat → Option α} {r q : α} (hg : c → Ev g r) (hf : ¬ c → Ev f q) : Ev (fun k => if c then g k else f k) (if c then r else q) := by
  by_cases h : c
  · rw [if_pos h]; exact Ev.ifp h (hg h)
  · rw [if_neg h]; exact Ev.ifn h (hf h)
/-- The bytes of a string. -/
def B (s : ByteArray) : List Nat := s.data.toList.map (·.toNat)
theorem dl (s : ByteArray) : s.data.toList.length = s.size := by rw [Array.length_toList]; rfl
theorem B_len (s : ByteArray) : (B s).length = s.size := by unfold B; rw [List.length_map]; exact dl s
theorem B_lt (s : ByteArray) : ∀ x ∈ B s, x < 256 := by
  intro x hx
  simp only [B, List.mem_map] at hx
  obtain ⟨u, _, rfl⟩ := hx
  exact u.toNat_lt
theorem bt_B (s : ByteArray) (i : Nat) : bt s (i : Int) = (((B s).getD i 0 : Nat) : Int) := by
  unfold bt B
  simp only [Int.toNat_natCast]
  split
  · rename_i h
    have h' : i < s.data.toList.length := by rw [dl]; omega
    simp only [List.getD_eq_getElem?_getD, List.getElem?_map, List.getElem?_eq_getElem h', Option.map_some, Option.getD_some]
    rfl
  · rename_i h
    have h' : s.data.toList.length ≤ i := by rw [dl]; omega
    simp only [List.getD_eq_getElem?_getD, List.getElem?_map, List.getElem?_eq_none h', Option.map_none, Option.getD_none]
    rfl
theorem B_append (s t : ByteArray) : B (s ++ t) = B s ++ B t := by simp [B]
theorem B_ext {s t : ByteArray} (h : B s = B t) : s = t := by
  have h2 : s.data.toList = t.data.toList := by
    unfold B at h
    exact List.map_inj_right (fun a b hab => UInt8.toNat_inj.1 hab) |>.1 h
  cases s; cases t
  simp only [ByteArray.mk.injEq]
  exact Array.toList_inj.1 h2
/-- A string of numbers' bytes. -/
theorem B_nums (l : List Int) (h : ∀ x ∈ l, 0 ≤ x ∧ x < 256) : B (strOfNums l) = l.map Int.toNat := by
  unfold B strOfNums
  simp only [List.map_map]
  refine List.map_congr_left fun x hx => ?_
  have := h x hx
  simp only [Function.comp]
  simp
  omega
theorem bx32 (a b : Nat) (ha : a < 4294967296) (hb : b < 4294967296) : Go.bits .xor .u32 (a : Int) (b : Int) = ((a ^^^ b : Nat) : Int) := by
  have hx : a ^^^ b < 2 ^ 32 := Nat.xor_lt_two_pow (by omega) (by omega)
  show IntKind.u32.wrap (((BitVec.ofInt 32 (a : Int)) ^^^ (BitVec.ofInt 32 (b : Int))).toNat : Int) = _
  rw [BitVec.ofInt_natCast, BitVec.ofInt_natCast, BitVec.toNat_xor, BitVec.toNat_ofNat, BitVec.toNat_ofNat, IntKind.wrap_u32,
    Nat.mod_eq_of_lt (show a < 2 ^ 32 by omega), Nat.mod_eq_of_lt (show b < 2 ^ 32 by omega)]
  omega
theorem band1 (a : Nat) (ha : a < 4294967296) : Go.bits .and .u32 (a : Int) 1 = ((a % 2 : Nat) : Int) := by
  have h : a &&& 1 = a % 2 := Nat.and_one_is_mod a
  have e : (1 : Int) = ((1 : Nat) : Int) := rfl
  rw [e]
  show IntKind.u32.wrap (((BitVec.ofInt 32 (a : Int)) &&& (BitVec.ofInt 32 ((1 : Nat) : Int))).toNat : Int) = _
  rw [BitVec.ofInt_natCast, BitVec.ofInt_natCast, BitVec.toNat_and, BitVec.toNat_ofNat, BitVec.toNat_ofNat, IntKind.wrap_u32,
    Nat.mod_eq_of_lt (show a < 2 ^ 32 by omega), Nat.mod_eq_of_lt (show 1 < 2 ^ 32 by omega), h]
  omega
end Go.Proofs.Ythoibokhmkjkdaa.Pure

namespace Go.Proofs.Ythoibokhmkjkdaa.P
open Go.RowKit Go.Proofs.YthoibokhmkjkdaaW.PrintWords Go.Proofs.YthoibokhmkjkdaaW.PrintLast Go.Proofs.YthoibokhmkjkdaaW.PrintMore
attribute [local go_sem] max2_int min2_int max_two min_two max_three min_three max_four min_four   -- for this text's walks alone
set_option linter.unusedVariables false
set_option linter.unusedSimpArgs false

/-! ### impl_isTime: function 139 -/
def impl_isTime.f (a0 : Int) : Option (Bool) := (impl_within.f a0 0 1000000).bind fun t101 => (some t101)
set_option maxHeartbeats 8000000 in
set_option maxRecDepth 100000 in
theorem impl_isTime.calls (a0 : Int) (r : Bool) (w : World) (h : impl_isTime.f a0 = some r) :
    Calls Try.prog 139 #[.int .i64 a0] w fun e w' => e = .returned (.bool r) ∧ Drawn0 w w' := by
  have H : ((impl_within.f a0 0 1000000).bind fun t101 => (some t101)) = some r := h
  clear h
  replace H := Option.bind_eq_some_iff.mp H
  obtain ⟨t101, A20, H⟩ := H
  replace H : (some t101) = some r := H
  have A2 := Aside0.mk A20
  clear A20
  obtain rfl := Option.some.inj H
  go_enter Try.func139, Try.ntmps139
  go_wp2_with (first | ((with_reducible refine gate_callee (f := 76) rfl ?_); refine goesL_ (some 4) rfl rfl Try.func76 (by kernel_rfl) rfl #[.int .i64 a0, .int .i64 0, .int .i64 1000000] rfl (by (try simp only [List.map_toArray, List.map_cons, List.map_nil]); first | done | rfl | (simp only [List.length_drop, List.length_take]; rfl)) ?_; (with_reducible refine (impl_within.calls a0 0 1000000 t101 _ A2.out).mono ?_); rintro e w' ⟨rfl, ⟨nd, rfl⟩⟩; refine ⟨_, rfl, ?_⟩))
  go_ret
  exact ⟨by first | rfl | (simp; done) | (simp [*]; done), by repeat (first | exact Drawn0.refl _ | apply Drawn0.step)⟩

end Go.Proofs.Ythoibokhmkjkdaa.P

namespace Go.Proofs.Ythoibokhmkjkdaa.Pure
open Go.RowKit Go.Proofs.YthoibokhmkjkdaaW.PrintWords Go.Proofs.YthoibokhmkjkdaaW.PrintLast Go.Proofs.Ythoibokhmkjkdaa.P
theorem within_eq (a b c : Int) : impl_within.f a b c = some (decide (b ≤ a) && decide (a ≤ c)) := by
  unfold impl_within.f; split <;> simp_all
  omega
theorem is_eq (a b c : Int) : spec_l03Is.f a b c = some (decide (b ≤ a) && decide (a ≤ c)) := by
  unfold spec_l03Is.f; split <;> simp_all
  omega
theorem time_eq (a : Int) : impl_isTime.f a = some (decide (0 ≤ a) && decide (a ≤ 1000000)) := by
  unfold impl_isTime.f; rw [within_eq]; rfl
theorem ite_some {α : Type} (c : Prop) [Decidable c] (a b : α) : (if c then some a else some b) = some (if c then a else b) := by split <;> rfl
theorem ite_and (x y : Bool) : (if x = true then y else false) = (x && y) := by cases x <;> rfl
end Go.Proofs.Ythoibokhmkjkdaa.Pure

namespace Go.Proofs.Ythoibokhmkjkdaa.Pure
open Go Go.RowKit Go.Proofs.YthoibokhmkjkdaaW.PrintWords Go.Proofs.YthoibokhmkjkdaaW.PrintLast Go.Proofs.YthoibokhmkjkdaaW.PrintMore Go.Proofs.Ythoibokhmkjkdaa.P
def crcBit (r : Nat) : Nat := if r % 2 = 1 then (r / 2) ^^^ 3988292384 else r / 2
def crcBits : Nat → Nat → Nat
  | 0, r => r
  | n + 1, r => crcBits n (crcBit r)
def crcRun : List Nat → Nat → Nat
  | [], r => r
  | c :: l, r => crcRun l (crcBits 8 (r ^^^ c))
def crcOf (c : Nat) (s : ByteArray) : Nat := (crcRun (B s) (c ^^^ 4294967295)) ^^^ 4294967295
theorem x32 {a b : Nat} (ha : a < 4294967296) (hb : b < 4294967296) : a ^^^ b < 4294967296 := Nat.xor_lt_two_pow (n := 32) ha hb
theorem crcBit_lt {r : Nat} (h : r < 4294967296) : crcBit r < 4294967296 := by
  unfold crcBit
  split
  · exact x32 (by omega) (by omega)
  · omega
theorem crcBits_lt : ∀ (n : Nat) {r : Nat}, r < 4294967296 → crcBits n r < 4294967296
  | 0, _, h => h
  | n + 1, _, h => crcBits_lt n (crcBit_lt h)
theorem crcRun_lt : ∀ (l : List Nat) {r : Nat}, (∀ x ∈ l, x < 256) → r < 4294967296 → crcRun l r < 4294967296
  | [], _, _, h => h
  | c :: l, r, hl, h => crcRun_lt l (fun x hx => hl x (by simp [hx])) (crcBits_lt 8 (x32 h (by have := hl c (by simp); omega)))
theorem crcOf_lt {c : Nat} (s : ByteArray) (h : c < 4294967296) : crcOf c s < 4294967296 := x32 (crcRun_lt _ (B_lt s) (x32 h (by omega))) (by omega)

theorem sl1 {x : ByteArray} {i : Int} {res : Int} : ∀ (n : Nat) (r : Nat), n ≤ 8 → r < 4294967296 → Ev (fun k => spec_l01Crc.l0 k x ((crcBits n r : Nat) : Int) (wrap64 (i + 1))) res → Ev (fun k => spec_l01Crc.l1 k x (r : Int) i ((8 - n : Nat) : Int)) res
  | 0, r, _, _, h => Ev.step (fun k => by simp only [spec_l01Crc.l1]; rw [if_neg (by omega)]; rfl) h
  | n + 1, r, hn, hr, h => by
    refine Ev.step (f := fun k => spec_l01Crc.l1 k x ((crcBit r : Nat) : Int) i ((8 - n : Nat) : Int)) (fun k => ?_) (sl1 n (crcBit r) (by omega) (crcBit_lt hr) h)
    simp only [spec_l01Crc.l1]
    rw [if_pos (by omega), band1 _ hr, show wrap64 (((8 - (n + 1) : Nat) : Int) + 1) = ((8 - n : Nat) : Int) by rw [w64] <;> omega, show ((r : Int) / 2) = ((r / 2 : Nat) : Int) by omega]
    by_cases hp : r % 2 = 1
    · rw [if_pos (by omega), show (3988292384 : Int) = ((3988292384 : Nat) : Int) from rfl, bx32 _ _ (by omega) (by omega)]
      simp [crcBit, hp]
    · rw [if_neg (by omega)]
      simp [crcBit, hp]
theorem sl0 {x : ByteArray} (hx : x.size ≤ 140737488351232) : ∀ (d i r : Nat), x.size - i = d → i ≤ x.size → r < 4294967296 → Ev (fun k => spec_l01Crc.l0 k x (r : Int) (i : Int)) ((crcRun ((B x).drop i) r ^^^ 4294967295 : Nat) : Int)
  | 0, i, r, hd, hi, hr => by
    refine Ev.now' fun k => ?_
    simp only [spec_l01Crc.l0]
    have hb : (B x).drop i = [] := List.drop_eq_nil_of_le (by rw [B_len]; omega)
    rw [if_neg (by omega), show (4294967295 : Int) = ((4294967295 : Nat) : Int) from rfl, bx32 _ _ hr (by omega), hb]
    have := x32 hr (show 4294967295 < 4294967296 by omega)
    rw [w64 (by omega) (by omega)]
    rfl
  | d + 1, i, r, hd, hi, hr => by
    have hlt : i < (B x).length := by rw [B_len]; omega
    have hc : (B x)[i] < 256 := B_lt x _ (List.getElem_mem hlt)
    have hg : bt x (i : Int) = (((B x)[i] : Nat) : Int) := by rw [bt_B, List.getD_eq_getElem?_getD, List.getElem?_eq_getElem hlt, Option.getD_some]
    have hdr : (B x).drop i = (B x)[i] :: (B x).drop (i + 1) := List.drop_eq_getElem_cons hlt
    have hxr := x32 hr (show (B x)[i] < 4294967296 by omega)
    refine Ev.step (f := fun k => spec_l01Crc.l1 k x ((r ^^^ (B x)[i] : Nat) : Int) (i : Int) ((8 - 8 : Nat) : Int)) (fun k => ?_) (sl1 8 _ (Nat.le_refl _) hxr ?_)
    · simp only [spec_l01Crc.l0]
      rw [if_pos (by omega), if_pos (by omega), hg, show (((B x)[i] : Nat) : Int) % 4294967296 = (((B x)[i] : Nat) : Int) by omega, bx32 _ _ hr (by omega)]
      rfl
    · rw [hdr, show wrap64 ((i : Int) + 1) = ((i + 1 : Nat) : Int) by rw [w64] <;> omega]
      exact sl0 hx d (i + 1) _ (by omega) (by omega) (crcBits_lt 8 hxr)
theorem sCrc (c : Nat) (s : ByteArray) (hc : c < 4294967296) (hs : s.size ≤ 140737488351232) : Ev (fun k => spec_l01Crc.f k (c : Int) s) ((crcOf c s : Nat) : Int) := by
  have h := sl0 hs s.size 0 (c ^^^ 4294967295) (by omega) (by omega) (x32 hc (by omega))
  refine Ev.congr (fun k => ?_) h
  unfold spec_l01Crc.f
  rw [show (c : Int) % 4294967296 = (c : Int) by omega, show (4294967295 : Int) = ((4294967295 : Nat) : Int) from rfl, bx32 _ _ hc (by omega)]
  rfl

theorem il1 {x : ByteArray} {i n0 : Int} {res : Int} (c : Nat) (hc : c < 256) (hg : bt x i = (c : Int)) (hi : 0 ≤ i) (hi2 : i < (x.size : Int)) : ∀ (n : Nat) (s r : Nat), n ≤ 8 → s < 4294967296 → r = s ^^^ (c / 2 ^ (8 - n)) → Ev (fun k => impl_crcMore.l0 k x ((crcBits n s : Nat) : Int) n0 (wrap64 (i + 1))) res →
    Ev (fun k => impl_crcMore.l1 k x (r : Int) i n0 i ((8 - n : Nat) : Int)) res
  | 0, s, r, _, _, hr, h => by
    have : c / 2 ^ (8 - 0) = 0 := Nat.div_eq_of_lt (by simpa using hc)
    rw [this, Nat.xor_zero] at hr
    subst hr
    exact Ev.step (fun k => by simp only [impl_crcMore.l1]; rw [if_neg (by omega)]; rfl) h
  | n + 1, s, r, hn, hs, hr, h => by
    have hcd : c / 2 ^ (8 - (n + 1)) < 256 := Nat.lt_of_le_of_lt (Nat.div_le_self _ _) hc
    have hrl : r < 4294967296 := by rw [hr]; exact x32 hs (by omega)
    have hsr : r ^^^ (c / 2 ^ (8 - (n + 1))) = s := by rw [hr, Nat.xor_assoc, Nat.xor_self, Nat.xor_zero]
    have hhalf : r / 2 = s / 2 ^^^ (c / 2 ^ (8 - n)) := by
      have e1 : c / 2 ^ (8 - n) = (c / 2 ^ (8 - (n + 1))) / 2 := by rw [Nat.div_div_eq_div_mul, ← Nat.pow_succ]; congr 2; omega
      rw [hr, e1]
      have := @Nat.shiftRight_xor_distrib 1 s (c / 2 ^ (8 - (n + 1)))
      simpa [Nat.shiftRight_eq_div_pow] using this
    have hsh : shr .u32 ((c : Int) % 4294967296) ((8 - (n + 1) : Nat) : Int) = ((c / 2 ^ (8 - (n + 1)) : Nat) : Int) := by
      unfold shr
      rw [show (c : Int) % 4294967296 = (c : Int) by omega, Int.toNat_natCast, Nat.min_eq_left (by simp [IntKind.bits]; omega)]
      push_cast
      rfl
    by_cases hp : s % 2 = 1
    · refine Ev.step (f := fun k => impl_crcMore.l1 k x (((r / 2) ^^^ 3988292384 : Nat) : Int) i n0 i ((8 - n : Nat) : Int)) (fun k => ?_) (il1 c hc hg hi hi2 n (crcBit s) _ (by omega) (crcBit_lt hs) ?_ h)
      · simp only [impl_crcMore.l1]
        rw [if_pos (by omega), if_pos hi, if_pos hi2, if_pos (by omega), hg, hsh, bx32 _ _ hrl (by omega), hsr, band1 _ hs, if_pos (by omega), show ((r : Int) / 2) = ((r / 2 : Nat) : Int) by omega, show (3988292384 : Int) = ((3988292384 : Nat) : Int) from rfl, bx32 _ _ (by omega) (by omega),
          show wrap64 (((8 - (n + 1) : Nat) : Int) + 1) = ((8 - n : Nat) : Int) by rw [w64] <;> omega]
      · simp only [crcBit, hp, if_true]
        rw [hhalf, Nat.xor_assoc, Nat.xor_assoc, Nat.xor_comm (c / 2 ^ (8 - n))]
    · refine Ev.step (f := fun k => impl_crcMore.l1 k x ((r / 2 : Nat) : Int) i n0 i ((8 - n : Nat) : Int)) (fun k => ?_) (il1 c hc hg hi hi2 n (crcBit s) _ (by omega) (crcBit_lt hs) ?_ h)
      · simp only [impl_crcMore.l1]
        rw [if_pos (by omega), if_pos hi, if_pos hi2, if_pos (by omega), hg, hsh, bx32 _ _ hrl (by omega), hsr, band1 _ hs, if_neg (by omega), show ((r : Int) / 2) = ((r / 2 : Nat) : Int) by omega,
          show wrap64 (((8 - (n + 1) : Nat) : Int) + 1) = ((8 - n : Nat) : Int) by rw [w64] <;> omega]
      · simp only [crcBit, hp, if_false]
        exact hhalf
theorem il0 {x : ByteArray} (hx : x.size ≤ 140737488351232) : ∀ (d i r : Nat), x.size - i = d → i ≤ x.size → r < 4294967296 → Ev (fun k => impl_crcMore.l0 k x (r : Int) (x.size : Int) (i : Int)) ((crcRun ((B x).drop i) r ^^^ 4294967295 : Nat) : Int)
  | 0, i, r, hd, hi, hr => by
    refine Ev.now' fun k => ?_
    simp only [impl_crcMore.l0]
    have hb : (B x).drop i = [] := List.drop_eq_nil_of_le (by rw [B_len]; omega)
    rw [if_neg (by omega), show (4294967295 : Int) = ((4294967295 : Nat) : Int) from rfl, bx32 _ _ (by omega) hr, hb, Nat.xor_comm]
    rfl
  | d + 1, i, r, hd, hi, hr => by
    have hlt : i < (B x).length := by rw [B_len]; omega
    have hc : (B x)[i] < 256 := B_lt x _ (List.getElem_mem hlt)
    have hg : bt x (i : Int) = (((B x)[i] : Nat) : Int) := by rw [bt_B, List.getD_eq_getElem?_getD, List.getElem?_eq_getElem hlt, Option.getD_some]
    have hdr : (B x).drop i = (B x)[i] :: (B x).drop (i + 1) := List.drop_eq_getElem_cons hlt
    have hxr := x32 hr (show (B x)[i] < 4294967296 by omega)
    refine Ev.step (f := fun k => impl_crcMore.l1 k x (r : Int) (i : Int) (x.size : Int) (i : Int) ((8 - 8 : Nat) : Int)) (fun k => ?_) (il1 _ hc hg (by omega) (by omega) 8 (r ^^^ (B x)[i]) r (Nat.le_refl _) hxr ?_ ?_)
    · simp only [impl_crcMore.l0]
      rw [if_pos (by omega)]
      rfl
    · simp [Nat.xor_assoc]
    · rw [hdr, show wrap64 ((i : Int) + 1) = ((i + 1 : Nat) : Int) by rw [w64] <;> omega]
      exact il0 hx d (i + 1) _ (by omega) (by omega) (crcBits_lt 8 hxr)
theorem iCrc (c : Nat) (s : ByteArray) (hc : c < 4294967296) (hs : s.size ≤ 140737488351232) : Ev (fun k => impl_crcMore.f k (c : Int) s) ((crcOf c s : Nat) : Int) := by
  have h := il0 hs s.size 0 (c ^^^ 4294967295) (by omega) (by omega) (x32 hc (by omega))
  refine Ev.congr (fun k => ?_) h
  unfold impl_crcMore.f
  rw [show (4294967295 : Int) = ((4294967295 : Nat) : Int) from rfl, bx32 _ _ (by omega) hc, Nat.xor_comm]
  rfl
/-- The four bytes of a CRC. -/
def four (n : Nat) : ByteArray := strOfNums [(n : Int) % 256, (n : Int) / 256 % 256, (n : Int) / 65536 % 256, (n : Int) / 16777216 % 256]
def sealOf (s : ByteArray) : ByteArray := s ++ four (crcOf 0 s)
theorem four_size (n : Nat) : (four n).size = 4 := by
  rw [← B_len]
  unfold four
  rw [B_nums _ (by intro x hx; simp at hx; omega)]
  rfl
theorem sSeal (s : ByteArray) (hs : s.size ≤ 7996) : Ev (fun k => spec_Seal.f k s) (sealOf s) := by
  have h := sCrc 0 s (by omega) (by omega)
  have hf := four_size (crcOf 0 s)
  refine Ev.congr (f := fun k => (spec_l01Crc.f k ((0 : Nat) : Int) s).bind fun t269 => (spec_l01Four.f t269).bind fun t270 => (if s.size + t270.size ≤ 9223372036854775807 then (some (s ++ t270)) else (none))) (fun k => ?_) (Ev.bind h (Ev.all fun k => ?_))
  · unfold spec_Seal.f
    rw [if_neg (by omega)]
    rfl
  · have e : spec_l01Four.f ((crcOf 0 s : Nat) : Int) = some (four (crcOf 0 s)) := rfl
    rw [e]
    simp only [Option.bind_some]
    rw [if_pos (by omega)]
    rfl
theorem iSeal (s : ByteArray) (hs : s.size ≤ 140737488351232) : Ev (fun k => impl_seal.f k s) (sealOf s) := by
  have h := iCrc 0 s (by omega) (by omega)
  refine Ev.bind h ?_
  refine Ev.all fun k => ?_
  have := four_size (crcOf 0 s)
  have e : strOfNums [(((crcOf 0 s : Nat) : Int)) % 256, (((crcOf 0 s : Nat) : Int)) / 256 % 256, (((crcOf 0 s : Nat) : Int)) / 65536 % 256, (((crcOf 0 s : Nat) : Int)) / 16777216 % 256] = four (crcOf 0 s) := rfl
  simp only [Option.bind_some]
  rw [e, if_pos (by omega)]
  rfl
end Go.Proofs.Ythoibokhmkjkdaa.Pure

namespace Go.Proofs.Ythoibokhmkjkdaa.Pure
open Go Go.RowKit Go.Proofs.YthoibokhmkjkdaaW.PrintWords Go.Proofs.YthoibokhmkjkdaaW.PrintLast Go.Proofs.YthoibokhmkjkdaaW.PrintMore Go.Proofs.Ythoibokhmkjkdaa.P
/-- The zigzag number. -/
def zig (n : Int) : Nat := if n < 0 then (-2 * n - 1).toNat else (2 * n).toNat
/-- The groups of seven bits of a number, as bytes; f: a bound on their count. -/
def groups : Nat → Nat → List Int
  | 0, _ => []
  | f + 1, u => if 128 ≤ u then ((u % 128 + 128 : Nat) : Int) :: groups f (u / 128) else [(u : Int)]
def putOf (n : Int) : ByteArray := strOfNums (groups 10 (zig n))
theorem zig_lt {n : Int} (h : -9223372036854775808 ≤ n ∧ n ≤ 9223372036854775807) : zig n < 18446744073709551616 := by unfold zig; split <;> omega
theorem groups_len : ∀ (f u : Nat), (groups f u).length ≤ f
  | 0, _ => by simp [groups]
  | f + 1, u => by
    unfold groups
    split
    · simp only [List.length_cons]; have := groups_len f (u / 128); omega
    · simp
theorem groups_byte : ∀ (f u : Nat), ∀ x ∈ groups f u, 0 ≤ x ∧ x < 256
  | 0, _ => by simp [groups]
  | f + 1, u => by
    unfold groups
    split
    · intro x hx
      rcases List.mem_cons.1 hx with rfl | hx
      · omega
      · exact groups_byte f _ x hx
    · intro x hx
      rw [List.mem_singleton.1 hx]
      omega
theorem putOf_size (n : Int) : (putOf n).size ≤ 10 := by
  rw [← B_len]
  unfold putOf
  rw [B_nums _ (groups_byte _ _), List.length_map]
  exact groups_len 10 _
theorem sput : ∀ (f u : Nat) (acc : List Int), u < 128 ^ f → u < 18446744073709551616 → acc.length + f ≤ 100 → 0 < f → Ev (fun k => spec_PutNum.l0 k (u : Int) acc) (strOfNums (acc ++ groups f u))
  | 0, _, _, _, _, _, h => absurd h (by omega)
  | f + 1, u, acc, hu, hb, hl, _ => by
    by_cases h : 128 ≤ u
    · have hf : 0 < f := by
        rcases Nat.eq_zero_or_pos f with rfl | h'
        · simp at hu; omega
        · exact h'
      have ih := sput f (u / 128) (acc ++ [((u % 128 + 128 : Nat) : Int)]) (by rw [Nat.pow_succ] at hu; exact Nat.div_lt_of_lt_mul (by rw [Nat.mul_comm]; exact hu)) (by omega) (by simp; omega) hf
      rw [List.append_assoc, show [((u % 128 + 128 : Nat) : Int)] ++ groups f (u / 128) = groups (f + 1) u by simp [groups, h]] at ih
      refine Ev.step (fun k => ?_) ih
      simp only [spec_PutNum.l0]
      rw [if_pos (by omega), if_pos (by omega)]
      have e1 : IntKind.u64.wrap (Int.tdiv (u : Int) 128) = ((u / 128 : Nat) : Int) := by
        rw [u64w, Int.tdiv_eq_ediv_of_nonneg (by omega)]; omega
      have e2 : (IntKind.u64.wrap ((Int.tmod (u : Int) 128) + 128)) % 256 = ((u % 128 + 128 : Nat) : Int) := by
        rw [u64w, Int.tmod_eq_emod_of_nonneg (by omega)]; omega
      rw [e1, e2]
    · refine Ev.now' fun k => ?_
      simp only [spec_PutNum.l0]
      rw [if_neg (by omega), if_pos (by omega)]
      have e : (u : Int) % 256 = (u : Int) := by omega
      rw [e]
      simp [groups, h]
theorem sPutNum (n : Int) (h : -9223372036854775808 ≤ n ∧ n ≤ 9223372036854775807) : Ev (fun k => spec_PutNum.f k n) (putOf n) := by
  have hz := zig_lt h
  have e : spec_l01Fold.f n = some ((zig n : Nat) : Int) := by
    unfold spec_l01Fold.f zig
    simp only [u64w]
    split
    · rw [w64 (n := n + 1) (by omega) (by omega), w64 (by omega) (by omega)]
      congr 1
      omega
    · congr 1
      omega
  have h0 := sput 10 (zig n) [] (by omega) hz (by simp) (by omega)
  refine Ev.congr (fun k => ?_) h0
  unfold spec_PutNum.f
  rw [e]
  rfl
theorem B_empty : B (⟨#[]⟩ : ByteArray) = [] := rfl
theorem empty_append (s : ByteArray) : (⟨#[]⟩ : ByteArray) ++ s = s := B_ext (by rw [B_append, B_empty, List.nil_append])
theorem append_assoc' (a b c : ByteArray) : a ++ b ++ c = a ++ (b ++ c) := B_ext (by simp only [B_append, List.append_assoc])
theorem size_append' (a b : ByteArray) : (a ++ b).size = a.size + b.size := by rw [← B_len, B_append, List.length_append, B_len, B_len]
/-- Several numbers' encodings. -/
def putsOf : List Int → ByteArray
  | [] => ⟨#[]⟩
  | n :: l => putOf n ++ putsOf l
theorem putsOf_size : ∀ l : List Int, (putsOf l).size ≤ 10 * l.length
  | [] => by show (0 : Nat) ≤ _; omega
  | n :: l => by
    have := putOf_size n
    have := putsOf_size l
    simp only [putsOf, size_append', List.length_cons]
    omega
def putTextOf (s : ByteArray) : ByteArray := putOf (s.size : Int) ++ s
theorem sPutText (s : ByteArray) (h : s.size ≤ 8000) : Ev (fun k => spec_PutText.f k s) (putTextOf s) := by
  have hp := sPutNum (s.size : Int) (by omega)
  have := putOf_size (s.size : Int)
  refine Ev.congr (f := fun k => (spec_PutNum.f k (s.size : Int)).bind fun t => if t.size + s.size ≤ 9223372036854775807 then some (t ++ s) else none) (fun k => ?_) (Ev.bind hp (Ev.all fun k => ?_))
  · unfold spec_PutText.f
    rw [if_neg (by omega)]
  · rw [if_pos (by omega)]
    rfl
end Go.Proofs.Ythoibokhmkjkdaa.Pure

namespace Go.Proofs.Ythoibokhmkjkdaa.Pure
open Go Go.RowKit Go.Proofs.YthoibokhmkjkdaaW.PrintWords Go.Proofs.YthoibokhmkjkdaaW.PrintLast Go.Proofs.YthoibokhmkjkdaaW.PrintMore
/-- What a loop makes: d rounds from round i on, each going on or leaving. -/
def run {σ α : Type} (step : σ → Nat → σ ⊕ α) (fin : σ → α) : Nat → Nat → σ → α
  | 0, _, s => fin s
  | d + 1, i, s => match step s i with
    | .inl s' => run step fin d (i + 1) s'
    | .inr a => a
theorem ev_for {σ α : Type} (L : Nat → σ → Int → Option α) (n : Nat) (step : σ → Nat → σ ⊕ α) (fin : σ → α) (Inv : σ → Nat → Prop)
    (hs : ∀ s i, i < n → Inv s i → (∀ s', step s i = .inl s' → Inv s' (i + 1) ∧ ∀ r, Ev (fun k => L k s' ((i + 1 : Nat) : Int)) r → Ev (fun k => L k s (i : Int)) r) ∧ (∀ a, step s i = .inr a → Ev (fun k => L k s (i : Int)) a))
    (he : ∀ s, Inv s n → Ev (fun k => L k s (n : Int)) (fin s)) : ∀ d i s, i + d = n → Inv s i → Ev (fun k => L k s (i : Int)) (run step fin d i s)
  | 0, i, s, hd, hi => by
    obtain rfl : i = n := by omega
    exact he s hi
  | d + 1, i, s, hd, hi => by
    obtain ⟨h1, h2⟩ := hs s i (by omega) hi
    unfold run
    cases h : step s i with
    | inl s' =>
      obtain ⟨h3, h4⟩ := h1 s' h
      exact h4 _ (ev_for L n step fin Inv hs he d (i + 1) s' (by omega) h3)
    | inr a => exact h2 a h
/-- A list that is filled, place by place. -/
theorem ev_fill {β : Type} (L : Nat → List β → Int → Option (List β)) (n : Nat) (z : β) (v : Nat → β)
    (hs : ∀ x i, i < n → x.length = n → ∀ r, Ev (fun k => L k (x.set i (v i)) ((i + 1 : Nat) : Int)) r → Ev (fun k => L k x (i : Int)) r)
    (he : ∀ x, x.length = n → Ev (fun k => L k x (n : Int)) x) : Ev (fun k => L k (List.replicate n z) 0) ((List.range n).map v) := by
  have key : ∀ d i, i + d = n → Ev (fun k => L k ((List.range i).map v ++ List.replicate d z) (i : Int)) ((List.range n).map v) := by
    intro d
    induction d with
    | zero =>
      intro i hi
      obtain rfl : i = n := by omega
      have := he ((List.range i).map v) (by simp)
      simpa using this
    | succ d ih =>
      intro i hi
      refine hs _ i (by omega) (by simp; omega) _ ?_
      have e : ((List.range i).map v ++ List.replicate (d + 1) z).set i (v i) = (List.range (i + 1)).map v ++ List.replicate d z := by
        rw [List.set_append_right _ _ (by simp), List.length_map, List.length_range, Nat.sub_self, List.replicate_succ, List.set_cons_zero, List.range_succ, List.map_append, List.append_assoc]
        rfl
      rw [e]
      exact ih (i + 1) (by omega)
  have := key n 0 (by omega)
  simpa using this
theorem map_range_get {α β : Type} (l : List α) (c : α → β) (z : α) : (List.range l.length).map (fun i => c (l.getD i z)) = l.map c := by
  apply List.ext_getElem
  · simp
  · intro i h1 h2
    simp at h1
    simp [List.getD_eq_getElem?_getD, List.getElem?_eq_getElem h1]
/-- A test of all places. -/
theorem ev_all {α : Type} (L : Nat → Int → Option α) (n : Nat) (p : Nat → Bool) (no yes : α)
    (hs : ∀ i, i < n → (p i = true → ∀ r, Ev (fun k => L k ((i + 1 : Nat) : Int)) r → Ev (fun k => L k (i : Int)) r) ∧ (p i = false → Ev (fun k => L k (i : Int)) no))
    (he : Ev (fun k => L k (n : Int)) yes) : Ev (fun k => L k 0) (if (List.range n).all p = true then yes else no) := by
  have key : ∀ d i, i + d = n → Ev (fun k => L k (i : Int)) (if (List.range' i d).all p = true then yes else no) := by
    intro d
    induction d with
    | zero =>
      intro i hi
      obtain rfl : i = n := by omega
      simpa using he
    | succ d ih =>
      intro i hi
      rw [List.range'_succ, List.all_cons]
      cases hp : p i with
      | false =>
        have h := (hs i (by omega)).2 hp
        simpa using h
      | true =>
        have h := (hs i (by omega)).1 hp _ (ih (i + 1) (by omega))
        rw [Bool.true_and]
        exact h
  have := key n 0 (by omega)
  rw [List.range_eq_range']
  exact this
theorem rd_get (l : List Int) (i : Nat) : rd l (i : Int) = l.getD i 0 := by simp [rd]
theorem wsucc (i : Nat) (h : i < 9223372036854775807) : wrap64 ((i : Int) + 1) = ((i + 1 : Nat) : Int) := by rw [w64] <;> omega
theorem wpred (i : Nat) (h : 0 < i) (h2 : i < 9223372036854775807) : wrap64 ((i : Int) - 1) = ((i - 1 : Nat) : Int) := by rw [w64] <;> omega
end Go.Proofs.Ythoibokhmkjkdaa.Pure

namespace Go.Proofs.Ythoibokhmkjkdaa.Pure
open Go Go.RowKit Go.Proofs.YthoibokhmkjkdaaW.PrintWords Go.Proofs.YthoibokhmkjkdaaW.PrintLast Go.Proofs.YthoibokhmkjkdaaW.PrintMore Go.Proofs.Ythoibokhmkjkdaa.P
def unz (u : Nat) : Int := if u % 2 = 1 then -((u / 2 : Nat) : Int) - 1 else ((u / 2 : Nat) : Int)
/-- A number's groups, read: the number, how many bytes, the code. -/
def gn : Nat → Nat → Nat → List Nat → Int × Nat × Int
  | 0, _, _, _ => (0, 0, 3)
  | _ + 1, _, _, [] => (0, 0, 4)
  | f + 1, i, u, b :: l => if i = 9 ∧ 1 < b then (0, 0, 3) else if 128 ≤ b then gn f (i + 1) (u + b % 128 * 128 ^ i) l else if b = 0 ∧ 0 < i then (0, 0, 3) else (unz (u + b % 128 * 128 ^ i), i + 1, 0)
/-- What the readers make of it: the number, the place behind it, the code. -/
def fin (a : Nat) (r : Int × Nat × Int) : Int × Int × Int := if r.2.2 = 0 then (r.1, ((a + r.2.1 : Nat) : Int), 0) else (0, 0, r.2.2)
def getNumZ (s : ByteArray) (a : Nat) : Int × Int × Int := fin a (gn 10 0 0 ((B s).drop a))
theorem p128 (i : Nat) : (2 : Nat) ^ (7 * i) = 128 ^ i := by rw [Nat.pow_mul]
theorem step_lt {i u b : Nat} (_ : i ≤ 8) (hu : u < 128 ^ i) : u + b % 128 * 128 ^ i < 128 ^ (i + 1) := by
  have h1 : b % 128 ≤ 127 := by omega
  have h2 : b % 128 * 128 ^ i ≤ 127 * 128 ^ i := Nat.mul_le_mul_right _ h1
  rw [Nat.pow_succ]
  omega
theorem pow_le9 {i : Nat} (hi : i ≤ 9) : 128 ^ i ≤ 9223372036854775808 := by
  have : 128 ^ i ≤ 128 ^ 9 := Nat.pow_le_pow_right (by omega) hi
  simpa using this
theorem term_lt {i b : Nat} (hi : i ≤ 9) (h9 : i = 9 → b ≤ 1) : b % 128 * 128 ^ i < 18446744073709551616 := by
  by_cases h : i = 9
  · have := h9 h
    subst h
    have : b % 128 ≤ 1 := by omega
    have := Nat.mul_le_mul_right (128 ^ 9) this
    simp at this ⊢
    omega
  · have h1 : 128 ^ i ≤ 128 ^ 8 := Nat.pow_le_pow_right (by omega) (by omega)
    have h2 : b % 128 ≤ 127 := by omega
    have := Nat.mul_le_mul h2 h1
    simp at this
    omega
theorem sum_lt {i u b : Nat} (hi : i ≤ 9) (hu : u < 128 ^ i) (h9 : i = 9 → b ≤ 1) : u + b % 128 * 128 ^ i < 18446744073709551616 := by
  by_cases h : i = 9
  · have := h9 h
    subst h
    have h1 : b % 128 ≤ 1 := by omega
    have := Nat.mul_le_mul_right (128 ^ 9) h1
    simp at this hu ⊢
    omega
  · have h1 := step_lt (b := b) (show i ≤ 8 by omega) hu
    have h2 := pow_le9 (show i + 1 ≤ 9 by omega)
    omega
theorem shl_eq {i b : Nat} (hi : i ≤ 9) (h9 : i = 9 → b ≤ 1) : shl .u64 ((b % 128 : Nat) : Int) ((7 * i : Nat) : Int) = ((b % 128 * 128 ^ i : Nat) : Int) := by
  unfold shl
  rw [Int.toNat_natCast, Nat.min_eq_left (by simp [IntKind.bits]; omega), u64w]
  have e : ((b % 128 : Nat) : Int) * 2 ^ (7 * i) = ((b % 128 * 128 ^ i : Nat) : Int) := by rw [← p128]; push_cast; rfl
  rw [e]
  have := term_lt hi h9
  omega
theorem bor64 (a b : Nat) (ha : a < 18446744073709551616) (hb : b < 18446744073709551616) : Go.bits .or .u64 (a : Int) (b : Int) = ((a ||| b : Nat) : Int) := by
  show IntKind.u64.wrap (((BitVec.ofInt 64 (a : Int)) ||| (BitVec.ofInt 64 (b : Int))).toNat : Int) = _
  have hx : a ||| b < 2 ^ 64 := Nat.or_lt_two_pow (by omega) (by omega)
  rw [BitVec.ofInt_natCast, BitVec.ofInt_natCast, BitVec.toNat_or, BitVec.toNat_ofNat, BitVec.toNat_ofNat, u64w, Nat.mod_eq_of_lt (show a < 2 ^ 64 by omega), Nat.mod_eq_of_lt (show b < 2 ^ 64 by omega)]
  omega
theorem or_sum {i u b : Nat} (hu : u < 128 ^ i) : u ||| (b % 128 * 128 ^ i) = u + b % 128 * 128 ^ i := by
  have h := @Nat.shiftLeft_add_eq_or_of_lt (7 * i) u (by rw [p128]; exact hu) (b % 128)
  rw [Nat.shiftLeft_eq, p128] at h
  rw [Nat.or_comm, ← h, Nat.add_comm]
theorem and127 : ∀ a : Nat, a < 256 → Go.bits .and .u8 ((a : Nat) : Int) 127 = ((a % 128 : Nat) : Int) := by
  decide +kernel
theorem band64 (a : Nat) (ha : a < 18446744073709551616) : Go.bits .and .u64 (a : Int) 1 = ((a % 2 : Nat) : Int) := by
  have h : a &&& 1 = a % 2 := Nat.and_one_is_mod a
  show IntKind.u64.wrap (((BitVec.ofInt 64 (a : Int)) &&& (BitVec.ofInt 64 ((1 : Nat) : Int))).toNat : Int) = _
  rw [BitVec.ofInt_natCast, BitVec.ofInt_natCast, BitVec.toNat_and, BitVec.toNat_ofNat, BitVec.toNat_ofNat, u64w, Nat.mod_eq_of_lt (show a < 2 ^ 64 by omega), Nat.mod_eq_of_lt (show 1 < 2 ^ 64 by omega), h]
  omega
theorem noti64 (a : Nat) (h : a < 9223372036854775808) : Go.bits .xor .i64 (-1) (a : Int) = -(a : Int) - 1 := by
  show IntKind.i64.wrap (((BitVec.ofInt 64 (-1)) ^^^ (BitVec.ofInt 64 (a : Int))).toNat : Int) = _
  have e : (BitVec.ofInt 64 (-1)) = BitVec.allOnes 64 := by decide
  rw [BitVec.ofInt_natCast, e, BitVec.allOnes_xor, BitVec.toNat_not, BitVec.toNat_ofNat, IntKind.wrap_i64, Nat.mod_eq_of_lt (show a < 2 ^ 64 by omega)]
  omega
theorem drop_cases (s : ByteArray) (j : Nat) : ((B s).drop j = [] ∧ s.size ≤ j) ∨ (j < s.size ∧ (B s).drop j = (B s).getD j 0 :: (B s).drop (j + 1) ∧ (B s).getD j 0 < 256) := by
  by_cases h : j < s.size
  · right
    have hl : j < (B s).length := by rw [B_len]; exact h
    have e : (B s).getD j 0 = (B s)[j] := by rw [List.getD_eq_getElem?_getD, List.getElem?_eq_getElem hl, Option.getD_some]
    refine ⟨h, by rw [e]; exact List.drop_eq_getElem_cons hl, ?_⟩
    rw [e]
    exact B_lt s _ (List.getElem_mem hl)
  · left
    exact ⟨List.drop_eq_nil_of_le (by rw [B_len]; omega), by omega⟩
section
variable {s : ByteArray} (hs : s.size ≤ 140737488351232)
include hs
theorem iget (a : Nat) (ha : a ≤ 9223372036854775807) : ∀ (f i u : Nat), i + f = 10 → i ≤ 9 → u < 128 ^ i → (0 < i → a + i ≤ s.size) → Ev (fun k => impl_getNum.l0 k s (a : Int) (u : Int) (i : Int)) (fin a (gn f i u ((B s).drop (a + i))))
  | 0, i, u, hf, h9, hu, hz => by omega
  | f + 1, i, u, hf, hi9, hu, hz => by
    rcases drop_cases s (a + i) with ⟨hd, hlen⟩ | ⟨hlt, hd, hb⟩
    · rw [hd]
      refine Ev.now' fun k => ?_
      simp only [impl_getNum.l0]
      rw [w64 (by omega) (by omega), if_pos (by omega)]
      rfl
    · generalize hbv : (B s).getD (a + i) 0 = b at hd hb
      have hbt : bt s (wrap64 ((a : Int) + (i : Int))) = (b : Int) := by
        rw [w64 (by omega) (by omega), show ((a : Int) + (i : Int)) = ((a + i : Nat) : Int) by omega, bt_B, hbv]
      rw [hd]
      have hw : wrap64 ((a : Int) + (i : Int)) = ((a + i : Nat) : Int) := by rw [w64 (by omega) (by omega)]; omega
      have hj : ∀ x : Bool, x = decide (i = 9 ∧ 1 < b) → Ev (fun k => impl_getNum.j1 k s (a : Int) (u : Int) (i : Int) (b : Int) x) (fin a (gn (f + 1) i u (b :: (B s).drop (a + i + 1)))) := by
        intro x hx
        subst hx
        by_cases h9 : i = 9 ∧ 1 < b
        · rw [decide_eq_true h9]
          refine Ev.now' fun k => ?_
          simp only [impl_getNum.j1, gn]
          rw [if_pos h9]
          rfl
        · rw [decide_eq_false h9]
          have hb9 : i = 9 → b ≤ 1 := fun h => by
            rcases Nat.lt_or_ge 1 b with h1 | h1
            · exact absurd ⟨h, h1⟩ h9
            · exact h1
          have hv : Go.bits .or .u64 (u : Int) (shl .u64 (IntKind.u64.wrap (Go.bits .and .u8 (b : Int) 127)) (wrap64 (7 * (i : Int)))) = ((u + b % 128 * 128 ^ i : Nat) : Int) := by
            rw [and127 b hb, u64w, show ((b % 128 : Nat) : Int) % 18446744073709551616 = ((b % 128 : Nat) : Int) by omega, w64 (by omega) (by omega), show (7 * (i : Int)) = ((7 * i : Nat) : Int) by omega, shl_eq (by omega) hb9, bor64 _ _ (by have := pow_le9 (show i ≤ 9 by omega); omega) (term_lt (by omega) hb9), or_sum hu]
          have hsl := sum_lt (b := b) (show i ≤ 9 by omega) hu hb9
          by_cases h128 : 128 ≤ b
          · have hi8 : i ≤ 8 := by
              by_cases h : i = 9
              · have := hb9 h; omega
              · omega
            refine Ev.step (f := fun k => impl_getNum.l0 k s (a : Int) ((u + b % 128 * 128 ^ i : Nat) : Int) ((i + 1 : Nat) : Int)) (fun k => ?_) ?_
            · simp only [impl_getNum.j1]
              rw [if_neg (by simp), if_pos (by rw [w64 (by omega) (by omega)]; omega), if_pos (by omega), hv, wsucc i (by omega)]
            · have h := iget a ha f (i + 1) (u + b % 128 * 128 ^ i) (by omega) (by omega) (step_lt hi8 hu) (fun _ => by omega)
              simp only [gn]
              rw [if_neg h9, if_pos h128, show a + i + 1 = a + (i + 1) by omega]
              exact h
          · have hend : ∀ y : Bool, y = decide (b = 0 ∧ 0 < i) → Ev (fun k => impl_getNum.j2 k (a : Int) ((u + b % 128 * 128 ^ i : Nat) : Int) (i : Int) y) (fin a (gn (f + 1) i u (b :: (B s).drop (a + i + 1)))) := by
              intro y hy
              subst hy
              simp only [gn]
              rw [if_neg h9, if_neg h128]
              by_cases h0 : b = 0 ∧ 0 < i
              · rw [decide_eq_true h0, if_pos h0]
                exact Ev.now' fun k => by simp only [impl_getNum.j2]; rfl
              · rw [decide_eq_false h0, if_neg h0]
                refine Ev.now' fun k => ?_
                simp only [impl_getNum.j2]
                generalize u + b % 128 * 128 ^ i = v at hsl
                rw [if_neg (by simp), band64 v hsl, hw, wsucc (a + i) (by omega), show ((v : Int) / 2) = ((v / 2 : Nat) : Int) by omega, w64 (n := ((v / 2 : Nat) : Int)) (by omega) (by omega)]
                unfold fin unz
                simp only [if_true]
                by_cases hp : v % 2 = 1
                · rw [if_pos (by omega), if_pos hp, noti64 _ (by omega)]
                  rfl
                · rw [if_neg (by omega), if_neg hp]
                  rfl
            by_cases hb0 : b = 0
            · refine Ev.step (f := fun k => impl_getNum.j2 k (a : Int) ((u + b % 128 * 128 ^ i : Nat) : Int) (i : Int) (decide ((i : Int) > 0))) (fun k => ?_) (hend _ (decide_eq_decide.2 (by omega)))
              simp only [impl_getNum.j1]
              rw [if_neg (by simp), if_pos (by rw [w64 (by omega) (by omega)]; omega), if_neg (by omega), if_pos (by omega), hv]
            · refine Ev.step (f := fun k => impl_getNum.j2 k (a : Int) ((u + b % 128 * 128 ^ i : Nat) : Int) (i : Int) false) (fun k => ?_) (hend _ (decide_eq_false (by rintro ⟨h, _⟩; exact hb0 h)).symm)
              simp only [impl_getNum.j1]
              rw [if_neg (by simp), if_pos (by rw [w64 (by omega) (by omega)]; omega), if_neg (by omega), if_neg (by omega), hv]
      by_cases h9 : i = 9
      · refine Ev.step (f := fun k => impl_getNum.j1 k s (a : Int) (u : Int) (i : Int) (b : Int) (decide ((b : Int) > 1))) (fun k => ?_) (hj _ (decide_eq_decide.2 (by omega)))
        simp only [impl_getNum.l0]
        rw [w64 (n := (s.size : Int) - (i : Int)) (by omega) (by omega), if_neg (by omega), hbt, hw, if_pos (by omega), if_pos (by omega), if_pos (by omega)]
      · refine Ev.step (f := fun k => impl_getNum.j1 k s (a : Int) (u : Int) (i : Int) (b : Int) false) (fun k => ?_) (hj _ (decide_eq_false (by rintro ⟨h, _⟩; exact h9 h)).symm)
        simp only [impl_getNum.l0]
        rw [w64 (n := (s.size : Int) - (i : Int)) (by omega) (by omega), if_neg (by omega), hbt, hw, if_pos (by omega), if_pos (by omega), if_neg (by omega)]
theorem sget (a : Nat) (ha : a ≤ 9223372036854775807) : ∀ (f i u : Nat), i + f = 10 → i ≤ 9 → u < 128 ^ i → (0 < i → a + i ≤ s.size) → Ev (fun k => spec_GetNum.l0 k s (a : Int) (u : Int) (i : Int)) (fin a (gn f i u ((B s).drop (a + i))))
  | 0, i, u, hf, h9, hu, hz => by omega
  | f + 1, i, u, hf, hi9, hu, hz => by
    rcases drop_cases s (a + i) with ⟨hd, hlen⟩ | ⟨hlt, hd, hb⟩
    · rw [hd]
      refine Ev.now' fun k => ?_
      simp only [spec_GetNum.l0]
      rw [if_pos (by omega), w64 (by omega) (by omega), if_pos (by omega)]
      rfl
    · generalize hbv : (B s).getD (a + i) 0 = b at hd hb
      have hbt : bt s (wrap64 ((a : Int) + (i : Int))) = (b : Int) := by
        rw [w64 (by omega) (by omega), show ((a : Int) + (i : Int)) = ((a + i : Nat) : Int) by omega, bt_B, hbv]
      rw [hd]
      have hw : wrap64 ((a : Int) + (i : Int)) = ((a + i : Nat) : Int) := by rw [w64 (by omega) (by omega)]; omega
      have hj : ∀ x : Bool, x = decide (i = 9 ∧ 1 < b) → Ev (fun k => spec_GetNum.j1 k s (a : Int) (u : Int) (i : Int) (b : Int) x) (fin a (gn (f + 1) i u (b :: (B s).drop (a + i + 1)))) := by
        intro x hx
        subst hx
        by_cases h9 : i = 9 ∧ 1 < b
        · rw [decide_eq_true h9]
          refine Ev.now' fun k => ?_
          simp only [spec_GetNum.j1, gn]
          rw [if_pos h9]
          rfl
        · rw [decide_eq_false h9]
          have hb9 : i = 9 → b ≤ 1 := fun h => by
            rcases Nat.lt_or_ge 1 b with h1 | h1
            · exact absurd ⟨h, h1⟩ h9
            · exact h1
          have hsl := sum_lt (b := b) (show i ≤ 9 by omega) hu hb9
          have hv : IntKind.u64.wrap ((u : Int) + shl .u64 (Int.tmod (b : Int) 128) (IntKind.u64.wrap (wrap64 (7 * (i : Int))))) = ((u + b % 128 * 128 ^ i : Nat) : Int) := by
            rw [w64 (by omega) (by omega), u64w (7 * (i : Int)), show (7 * (i : Int)) % 18446744073709551616 = ((7 * i : Nat) : Int) by omega, Int.tmod_eq_emod_of_nonneg (by omega), show (b : Int) % 128 = ((b % 128 : Nat) : Int) by omega, shl_eq (by omega) hb9, u64w]
            omega
          by_cases h128 : 128 ≤ b
          · have hi8 : i ≤ 8 := by
              by_cases h : i = 9
              · have := hb9 h; omega
              · omega
            refine Ev.step (f := fun k => spec_GetNum.l0 k s (a : Int) ((u + b % 128 * 128 ^ i : Nat) : Int) ((i + 1 : Nat) : Int)) (fun k => ?_) ?_
            · simp only [spec_GetNum.j1]
              rw [if_neg (by simp), if_pos (by rw [w64 (by omega) (by omega), u64w]; omega), if_neg (by omega), hv, wsucc i (by omega)]
            · have h := sget a ha f (i + 1) (u + b % 128 * 128 ^ i) (by omega) (by omega) (step_lt hi8 hu) (fun _ => by omega)
              simp only [gn]
              rw [if_neg h9, if_pos h128, show a + i + 1 = a + (i + 1) by omega]
              exact h
          · have hend : ∀ y : Bool, y = decide (b = 0 ∧ 0 < i) → Ev (fun k => spec_GetNum.j2 k (a : Int) ((u + b % 128 * 128 ^ i : Nat) : Int) (i : Int) y) (fin a (gn (f + 1) i u (b :: (B s).drop (a + i + 1)))) := by
              intro y hy
              subst hy
              simp only [gn]
              rw [if_neg h9, if_neg h128]
              by_cases h0 : b = 0 ∧ 0 < i
              · rw [decide_eq_true h0, if_pos h0]
                exact Ev.now' fun k => by simp only [spec_GetNum.j2]; rfl
              · rw [decide_eq_false h0, if_neg h0]
                refine Ev.now' fun k => ?_
                simp only [spec_GetNum.j2]
                generalize u + b % 128 * 128 ^ i = v at hsl
                have e2 : wrap64 (IntKind.u64.wrap (Int.tdiv (v : Int) 2)) = ((v / 2 : Nat) : Int) := by
                  rw [Int.tdiv_eq_ediv_of_nonneg (by omega), u64w, w64 (by omega) (by omega)]
                  omega
                rw [if_neg (by simp), hw, wsucc (a + i) (by omega), e2, Int.tmod_eq_emod_of_nonneg (by omega)]
                unfold fin unz
                simp only [if_true]
                by_cases hp : v % 2 = 1
                · rw [if_pos (by omega), if_pos hp, w64 (n := -((v / 2 : Nat) : Int)) (by omega) (by omega), w64 (by omega) (by omega)]
                  rfl
                · rw [if_neg (by omega), if_neg hp]
                  rfl
            by_cases hb0 : b = 0
            · refine Ev.step (f := fun k => spec_GetNum.j2 k (a : Int) ((u + b % 128 * 128 ^ i : Nat) : Int) (i : Int) (decide ((i : Int) > 0))) (fun k => ?_) (hend _ (decide_eq_decide.2 (by omega)))
              simp only [spec_GetNum.j1]
              rw [if_neg (by simp), if_pos (by rw [w64 (by omega) (by omega), u64w]; omega), if_pos (by omega), if_pos (by omega), hv]
            · refine Ev.step (f := fun k => spec_GetNum.j2 k (a : Int) ((u + b % 128 * 128 ^ i : Nat) : Int) (i : Int) false) (fun k => ?_) (hend _ (decide_eq_false (by rintro ⟨h, _⟩; exact hb0 h)).symm)
              simp only [spec_GetNum.j1]
              rw [if_neg (by simp), if_pos (by rw [w64 (by omega) (by omega), u64w]; omega), if_pos (by omega), if_neg (by omega), hv]
      by_cases h9 : i = 9
      · refine Ev.step (f := fun k => spec_GetNum.j1 k s (a : Int) (u : Int) (i : Int) (b : Int) (decide ((b : Int) > 1))) (fun k => ?_) (hj _ (decide_eq_decide.2 (by omega)))
        simp only [spec_GetNum.l0]
        have hbu : IntKind.u64.wrap ((b : Nat) : Int) = (b : Int) := by rw [u64w]; omega
        rw [if_pos (by omega), w64 (n := (s.size : Int) - (i : Int)) (by omega) (by omega), if_neg (by omega), hbt, hbu, hw, if_pos (by omega), if_pos (by omega), if_pos (by omega)]
      · refine Ev.step (f := fun k => spec_GetNum.j1 k s (a : Int) (u : Int) (i : Int) (b : Int) false) (fun k => ?_) (hj _ (decide_eq_false (by rintro ⟨h, _⟩; exact h9 h)).symm)
        simp only [spec_GetNum.l0]
        have hbu : IntKind.u64.wrap ((b : Nat) : Int) = (b : Int) := by rw [u64w]; omega
        rw [if_pos (by omega), w64 (n := (s.size : Int) - (i : Int)) (by omega) (by omega), if_neg (by omega), hbt, hbu, hw, if_pos (by omega), if_pos (by omega), if_neg (by omega)]
end
end Go.Proofs.Ythoibokhmkjkdaa.Pure

namespace Go.Proofs.Ythoibokhmkjkdaa.Pure
open Go Go.RowKit Go.Proofs.YthoibokhmkjkdaaW.PrintWords Go.Proofs.YthoibokhmkjkdaaW.PrintLast Go.Proofs.YthoibokhmkjkdaaW.PrintMore Go.Proofs.Ythoibokhmkjkdaa.P
theorem toList_iff (s t : ByteArray) : s.toList = t.toList ↔ s = t := by
  constructor
  · intro h
    rw [ByteArray.toList_eq, ByteArray.toList_eq] at h
    refine B_ext ?_
    unfold B
    rw [h]
  · rintro rfl; rfl
theorem B_extract (s : ByteArray) (m n : Nat) : B (s.extract m n) = ((B s).take n).drop m := by
  unfold B
  simp [ByteArray.data_extract, List.drop_take, List.map_drop, List.map_take]
theorem zig_unz (v : Nat) : zig (unz v) = v := by
  unfold unz
  split
  · unfold zig; split <;> omega
  · unfold zig; split <;> omega
theorem unz_range {v : Nat} (h : v < 18446744073709551616) : -9223372036854775808 ≤ unz v ∧ unz v ≤ 9223372036854775807 := by
  unfold unz
  split <;> omega
theorem gn_canon : ∀ (f i u : Nat) (l : List Nat), i + f = 10 → i ≤ 9 → u < 128 ^ i → (∀ x ∈ l, x < 256) → (gn f i u l).2.2 = 0 →
    ∃ v, gn f i u l = (unz (u + v * 128 ^ i), i + (groups f v).length, 0) ∧ l = (groups f v).map Int.toNat ++ l.drop (groups f v).length ∧ u + v * 128 ^ i < 18446744073709551616 ∧ (0 < i → v ≠ 0)
  | 0, i, u, l, hf, h9, _, _, _ => by omega
  | f + 1, i, u, [], hf, h9, hu, hl, h0 => by simp [gn] at h0
  | f + 1, i, u, b :: l, hf, hi9, hu, hl, h0 => by
    have hb : b < 256 := hl b (by simp)
    simp only [gn] at h0 ⊢
    by_cases h9 : i = 9 ∧ 1 < b
    · rw [if_pos h9] at h0; simp at h0
    rw [if_neg h9] at h0 ⊢
    have hb9 : i = 9 → b ≤ 1 := fun h => by
      rcases Nat.lt_or_ge 1 b with h1 | h1
      · exact absurd ⟨h, h1⟩ h9
      · exact h1
    by_cases h128 : 128 ≤ b
    · have hi8 : i ≤ 8 := by
        by_cases h : i = 9
        · have := hb9 h; omega
        · omega
      rw [if_pos h128] at h0 ⊢
      obtain ⟨v, e1, e2, e3, e4⟩ := gn_canon f (i + 1) (u + b % 128 * 128 ^ i) l (by omega) (by omega) (step_lt hi8 hu) (fun x hx => hl x (by simp [hx])) h0
      have hv := e4 (by omega)
      have hs : u + b % 128 * 128 ^ i + v * 128 ^ (i + 1) = u + (b % 128 + 128 * v) * 128 ^ i := by
        rw [Nat.pow_succ, Nat.add_mul, Nat.mul_comm (128 ^ i) 128, ← Nat.mul_assoc, Nat.mul_comm v 128, Nat.add_assoc]
      have hg : groups (f + 1) (b % 128 + 128 * v) = (b : Int) :: groups f v := by
        have h1 : 128 ≤ b % 128 + 128 * v := by omega
        have h2 : (b % 128 + 128 * v) / 128 = v := by omega
        have h3 : (b % 128 + 128 * v) % 128 + 128 = b := by omega
        simp only [groups, if_pos h1, h2, h3]
      refine ⟨b % 128 + 128 * v, ?_, ?_, ?_, ?_⟩
      · rw [e1, hs, hg, List.length_cons, Nat.add_assoc, Nat.add_comm 1]
      · rw [hg]
        simp only [List.map_cons, List.length_cons, List.drop_succ_cons, List.cons_append, Int.toNat_natCast]
        rw [← e2]
      · rw [← hs]; exact e3
      · intro _; omega
    · rw [if_neg h128] at h0 ⊢
      by_cases hz : b = 0 ∧ 0 < i
      · rw [if_pos hz] at h0; simp at h0
      rw [if_neg hz] at h0 ⊢
      have hm : b % 128 = b := by omega
      have hsl := sum_lt (b := b) hi9 hu hb9
      rw [hm] at hsl ⊢
      have hg : groups (f + 1) b = [(b : Int)] := by simp only [groups, if_neg h128]
      refine ⟨b, ?_, ?_, hsl, ?_⟩
      · rw [hg]; rfl
      · rw [hg]; simp
      · intro hi hb0; exact hz ⟨hb0, hi⟩
/-- At a stands the encoding of n, and it ends at a'. -/
structure Got (s : ByteArray) (a : Nat) (n : Int) (a' : Nat) : Prop where
  at' : a' = a + (putOf n).size
  le : a' ≤ s.size
  eq : (B s).drop a = B (putOf n) ++ (B s).drop a'
  range : -9223372036854775808 ≤ n ∧ n ≤ 9223372036854775807
theorem num_cases (s : ByteArray) (a : Nat) : (∃ (n : Int) (a' : Nat), getNumZ s a = (n, (a' : Int), 0) ∧ Got s a n a') ∨ ∃ c, c ≠ 0 ∧ getNumZ s a = (0, 0, c) := by
  unfold getNumZ fin
  by_cases h : (gn 10 0 0 ((B s).drop a)).2.2 = 0
  · left
    obtain ⟨v, e1, e2, e3, _⟩ := gn_canon 10 0 0 ((B s).drop a) (by omega) (by omega) (by omega) (fun x hx => B_lt s x (List.mem_of_mem_drop hx)) h
    simp only [Nat.pow_zero, Nat.mul_one, Nat.zero_add] at e1 e3
    have hB : B (putOf (unz v)) = (groups 10 v).map Int.toNat := by
      unfold putOf
      rw [zig_unz, B_nums _ (groups_byte _ _)]
    have hsz : (putOf (unz v)).size = (groups 10 v).length := by rw [← B_len, hB, List.length_map]
    refine ⟨unz v, a + (putOf (unz v)).size, ?_, rfl, ?_, ?_, unz_range e3⟩
    · rw [e1, hsz]
      rfl
    · have := congrArg List.length e2
      simp only [List.length_append, List.length_map, List.length_drop, B_len] at this
      have hp : 0 < (groups 10 v).length := by unfold groups; split <;> simp
      omega
    · rw [hB, hsz, ← List.drop_drop]
      exact e2
  · right
    exact ⟨_, h, by rw [if_neg h]⟩
/-- One number, read from a text: the number, the place, whether it failed. -/
def numR (s : ByteArray) (a : Nat) : Int × ByteArray × Int × Bool := if (getNumZ s a).2.2 = 0 then ((getNumZ s a).1, s, (getNumZ s a).2.1, false) else (0, s, (a : Int), true)
section
variable (s : ByteArray) (a : Nat) (ha : a ≤ 9223372036854775807)
include ha
theorem iGet (hs : s.size ≤ 140737488351232) : Ev (fun k => impl_getNum.f k s (a : Int)) (getNumZ s a) := by
  have h := iget hs a ha 10 0 0 (by omega) (by omega) (by omega) (fun h => absurd h (by omega))
  refine Ev.congr (fun k => ?_) h
  unfold impl_getNum.f
  rw [if_neg (by omega)]
  rfl
theorem sGet (hs : s.size ≤ 8000) : Ev (fun k => spec_GetNum.f k s (a : Int)) (getNumZ s a) := by
  have h := sget (s := s) (by omega) a ha 10 0 0 (by omega) (by omega) (by omega) (fun h => absurd h (by omega))
  refine Ev.congr (fun k => ?_) h
  unfold spec_GetNum.f
  rw [if_neg (by omega), if_neg (by omega)]
  rfl
theorem iNum (hs : s.size ≤ 140737488351232) : Ev (fun k => impl_reader_num.f k s (a : Int) false) (numR s a) := by
  refine Ev.bind (iGet s a ha hs) ?_
  unfold numR
  split
  · exact Ev.now _
  · exact Ev.now _
theorem sNum (hs : s.size ≤ 8000) : Ev (fun k => spec_l06Reader_num.f k s (a : Int) false) (numR s a) := by
  refine Ev.bind (sGet s a ha hs) ?_
  refine Ev.ifn (by simp) ?_
  unfold numR
  split
  · exact Ev.now _
  · exact Ev.now _
theorem sNumF (hs : s.size ≤ 8000) : Ev (fun k => spec_l06Reader_num.f k s (a : Int) true) (0, s, (a : Int), true) :=
  Ev.bind (sGet s a ha hs) (Ev.ifp rfl (Ev.now _))
theorem iNumF (hs : s.size ≤ 140737488351232) : ∃ (n : Int) (a' : Nat), Ev (fun k => impl_reader_num.f k s (a : Int) true) (n, s, (a' : Int), true) ∧ a' ≤ max a s.size := by
  rcases num_cases s a with ⟨n, a', e, g⟩ | ⟨c, hc, e⟩
  · refine ⟨n, a', Ev.bind (iGet s a ha hs) ?_, ?_⟩
    · rw [e]
      exact Ev.now _
    · have := g.le; omega
  · refine ⟨0, a, Ev.bind (iGet s a ha hs) ?_, by omega⟩
    rw [e]
    exact Ev.ifn hc (Ev.now _)
end
theorem numR_cases (s : ByteArray) (a : Nat) : (∃ n a', numR s a = (n, s, ((a' : Nat) : Int), false) ∧ Got s a n a') ∨ numR s a = (0, s, (a : Int), true) := by
  unfold numR
  rcases num_cases s a with ⟨n, a', e, g⟩ | ⟨c, hc, e⟩
  · left; exact ⟨n, a', by rw [e]; rfl, g⟩
  · right; rw [e, if_neg hc]
/-- What stands ahead of the seal. -/
def bodyOf (s : ByteArray) : ByteArray := s.extract 0 (s.size - 4)
theorem body_size (s : ByteArray) : (bodyOf s).size = s.size - 4 := by
  rw [← B_len]
  unfold bodyOf
  rw [B_extract]
  simp [B_len]
theorem seal_inj {a b : ByteArray} : sealOf a = sealOf b ↔ a = b := by
  constructor
  · intro h
    have := congrArg B h
    unfold sealOf at this
    rw [B_append, B_append] at this
    exact B_ext (List.append_inj_left' this (by rw [B_len, B_len, four_size, four_size]))
  · rintro rfl; rfl
theorem tail_iff (s : ByteArray) : (four (crcOf 0 (bodyOf s)) = s.extract (s.size - 4) s.size) ↔ sealOf (bodyOf s) = s := by
  have e : B s = B (bodyOf s) ++ B (s.extract (s.size - 4) s.size) := by
    unfold bodyOf
    rw [B_extract, B_extract, List.drop_zero, List.take_of_length_le (l := B s) (i := s.size) (by rw [B_len]; exact Nat.le_refl _), List.take_append_drop]
  unfold sealOf
  constructor
  · intro h
    rw [h]
    exact B_ext (by rw [B_append, ← e])
  · intro h
    have := congrArg B h
    rw [B_append, e] at this
    exact B_ext (List.append_cancel_left this)
def unsealI (s : ByteArray) : ByteArray × Int := if s.size < 4 then (⟨#[]⟩, 4) else if sealOf (bodyOf s) = s then (bodyOf s, 0) else (⟨#[]⟩, 5)
theorem unseal_ok {s : ByteArray} (h : (unsealI s).2 = 0) : unsealI s = (bodyOf s, 0) ∧ sealOf (bodyOf s) = s ∧ 4 ≤ s.size := by
  unfold unsealI at h ⊢
  by_cases h4 : s.size < 4
  · rw [if_pos h4] at h; simp at h
  · rw [if_neg h4] at h ⊢
    by_cases he : sealOf (bodyOf s) = s
    · rw [if_pos he]; exact ⟨rfl, he, by omega⟩
    · rw [if_neg he] at h; simp at h
theorem iUnseal (s : ByteArray) (hs : s.size ≤ 140737488351232) : Ev (fun k => impl_unseal.f k s) (unsealI s) := by
  unfold impl_unseal.f unsealI
  by_cases h4 : s.size < 4
  · rw [if_pos h4]
    exact Ev.ifp (by omega) (Ev.now _)
  · have e : wrap64 ((s.size : Int) - 4) = ((s.size - 4 : Nat) : Int) := by rw [w64 (by omega) (by omega)]; omega
    rw [if_neg h4]
    simp only [e, Int.toNat_natCast]
    refine Ev.ifn (by omega) (Ev.ifp (by omega) (Ev.ifp (by omega) ?_))
    refine Ev.bind (iSeal (bodyOf s) (by rw [body_size]; omega)) ?_
    refine Ev.congr (f := fun _ => if sealOf (bodyOf s) = s then some (bodyOf s, (0 : Int)) else some (⟨#[]⟩, 5)) (fun k => ?_) ?_
    · simp only [toList_iff]
      rfl
    · split
      · exact Ev.now _
      · exact Ev.now _
theorem sUnseal (s : ByteArray) (hs : s.size ≤ 8000) : Ev (fun k => spec_Unseal.f k s) ((unsealI s).1, 0, (unsealI s).2) := by
  unfold spec_Unseal.f unsealI
  refine Ev.ifn (by omega) ?_
  by_cases h4 : s.size < 4
  · rw [if_pos h4]
    exact Ev.ifp (by omega) (Ev.now _)
  · have e : wrap64 ((s.size : Int) - 4) = ((s.size - 4 : Nat) : Int) := by rw [w64 (by omega) (by omega)]; omega
    rw [if_neg h4]
    simp only [e, Int.toNat_natCast]
    refine Ev.ifn (by omega) (Ev.ifp (by omega) (Ev.ifp (by omega) ?_))
    refine Ev.bind (sCrc 0 (bodyOf s) (by omega) (by rw [body_size]; omega)) ?_
    have e4 : spec_l01Four.f ((crcOf 0 (bodyOf s) : Nat) : Int) = some (four (crcOf 0 (bodyOf s))) := rfl
    simp only [e4, Option.bind_some]
    refine Ev.congr (f := fun _ => if sealOf (bodyOf s) = s then some (bodyOf s, (0 : Int), (0 : Int)) else some (⟨#[]⟩, 0, 5)) (fun k => ?_) ?_
    · simp only [toList_iff, tail_iff s]
      rfl
    · split
      · exact Ev.now _
      · exact Ev.now _
end Go.Proofs.Ythoibokhmkjkdaa.Pure

namespace Go.Proofs.Ythoibokhmkjkdaa.Pure
open Go Go.RowKit Go.Proofs.YthoibokhmkjkdaaW.PrintWords Go.Proofs.YthoibokhmkjkdaaW.PrintLast Go.Proofs.YthoibokhmkjkdaaW.PrintMore Go.Proofs.Ythoibokhmkjkdaa.P
def getTextZ (s : ByteArray) (a : Nat) : ByteArray × Int × Int :=
  if (getNumZ s a).2.2 = 0 then
    if 0 ≤ (getNumZ s a).1 ∧ (getNumZ s a).1 ≤ 8000 then
      if (getNumZ s a).1 > (s.size : Int) - (getNumZ s a).2.1 then (⟨#[]⟩, 0, 4)
      else (s.extract (getNumZ s a).2.1.toNat ((getNumZ s a).2.1 + (getNumZ s a).1).toNat, (getNumZ s a).2.1 + (getNumZ s a).1, 0)
    else (⟨#[]⟩, 0, 3)
  else (⟨#[]⟩, 0, (getNumZ s a).2.2)
/-- At a stands the encoding of the text t, and it ends at a'. -/
structure GotT (s : ByteArray) (a : Nat) (t : ByteArray) (a' : Nat) : Prop where
  at' : a' = a + (putTextOf t).size
  le : a' ≤ s.size
  eq : (B s).drop a = B (putTextOf t) ++ (B s).drop a'
  size : t.size ≤ 8000
theorem text_cases (s : ByteArray) (a : Nat) : (∃ t a', getTextZ s a = (t, ((a' : Nat) : Int), 0) ∧ GotT s a t a') ∨ ∃ c, c ≠ 0 ∧ getTextZ s a = (⟨#[]⟩, 0, c) := by
  unfold getTextZ
  rcases num_cases s a with ⟨n, a', e, g⟩ | ⟨c, hc, e⟩
  · rw [e]
    simp only [if_true]
    by_cases hn : 0 ≤ n ∧ n ≤ 8000
    · rw [if_pos hn]
      have hle := g.le
      by_cases hs : n > (s.size : Int) - (a' : Int)
      · rw [if_pos hs]
        exact .inr ⟨4, by omega, rfl⟩
      · rw [if_neg hs]
        obtain ⟨m, rfl⟩ : ∃ m : Nat, n = (m : Int) := ⟨n.toNat, by omega⟩
        have e1 : ((a' : Int) + (m : Int)).toNat = a' + m := by omega
        rw [e1, Int.toNat_natCast]
        have hB : B (s.extract a' (a' + m)) = ((B s).drop a').take m := by
          rw [B_extract, List.drop_take, Nat.add_sub_cancel_left]
        have hsz : (s.extract a' (a' + m)).size = m := by
          rw [← B_len, hB, List.length_take, List.length_drop, B_len]
          omega
        refine .inl ⟨_, a' + m, by push_cast; rfl, ?_, ?_, ?_, ?_⟩
        · unfold putTextOf
          rw [size_append', hsz]
          have := g.at'
          omega
        · omega
        · unfold putTextOf
          rw [hsz, B_append, hB, g.eq, List.append_assoc, ← List.drop_drop, List.take_append_drop]
        · rw [hsz]; omega
    · rw [if_neg hn]
      exact .inr ⟨3, by omega, rfl⟩
  · rw [e]
    simp only
    rw [if_neg hc]
    exact .inr ⟨c, hc, rfl⟩
section
variable (s : ByteArray) (a : Nat) (ha : a ≤ 9223372036854775807)
include ha
theorem sGetText (hs : s.size ≤ 8000) : Ev (fun k => spec_GetText.f k s (a : Int)) (getTextZ s a) := by
  refine Ev.bind (sGet s a ha hs) ?_
  unfold getTextZ
  rcases num_cases s a with ⟨n, a', e, g⟩ | ⟨c, hc, e⟩
  · rw [e]
    simp only [if_true]
    have hle := g.le
    have hj : ∀ x : Bool, x = !decide (0 ≤ n ∧ n ≤ 8000) → Ev (fun k => spec_GetText.j0 k s x n (a' : Int) 0) (if 0 ≤ n ∧ n ≤ 8000 then if n > (s.size : Int) - (a' : Int) then ((⟨#[]⟩ : ByteArray), (0 : Int), (4 : Int)) else (s.extract (a' : Int).toNat ((a' : Int) + n).toNat, (a' : Int) + n, 0) else (⟨#[]⟩, 0, 3)) := by
      rintro x rfl
      by_cases hn : 0 ≤ n ∧ n ≤ 8000
      · rw [decide_eq_true hn, if_pos hn]
        refine Ev.now' fun k => ?_
        simp only [spec_GetText.j0]
        rw [if_neg (by simp), w64 (n := (s.size : Int) - n) (by omega) (by omega), w64 (n := (a' : Int) + n) (by omega) (by omega)]
        by_cases hq : n > (s.size : Int) - (a' : Int)
        · rw [if_pos (by omega), if_pos hq]
        · rw [if_neg (by omega), if_neg hq, if_pos (by omega), if_pos (by omega), if_pos (by omega)]
      · rw [decide_eq_false hn, if_neg hn]
        refine Ev.now' fun k => ?_
        simp only [spec_GetText.j0]
        rfl
    by_cases h0 : n < 0
    · exact Ev.ifp h0 (hj _ (by simp; omega))
    · exact Ev.ifn h0 (hj _ (by rw [Bool.eq_iff_iff]; simp; omega))
  · rw [e]
    simp only
    rw [if_neg hc]
    exact Ev.ifn hc (Ev.now _)
theorem iGetText (hs : s.size ≤ 140737488351232) : Ev (fun k => impl_getText.f k s (a : Int)) (getTextZ s a) := by
  refine Ev.bind (iGet s a ha hs) ?_
  unfold getTextZ
  rcases num_cases s a with ⟨n, a', e, g⟩ | ⟨c, hc, e⟩
  · rw [e]
    simp only [if_true]
    have hle := g.le
    simp only [within_eq, Option.bind_some]
    by_cases hn : 0 ≤ n ∧ n ≤ 8000
    · rw [if_pos hn]
      refine Ev.all fun k => ?_
      rw [if_pos (by simp; exact hn), w64 (n := (s.size : Int) - (a' : Int)) (by omega) (by omega), w64 (n := (a' : Int) + n) (by omega) (by omega)]
      by_cases hq : n > (s.size : Int) - (a' : Int)
      · rw [if_pos (by omega), if_pos hq]
      · rw [if_neg (by omega), if_neg hq, if_pos (by omega), if_pos (by omega), if_pos (by omega)]
    · rw [if_neg hn]
      refine Ev.all fun k => ?_
      rw [if_neg (by simp; omega)]
  · rw [e]
    simp only [if_neg hc]
    exact Ev.now _
end
/-- One text, read: the text, the place, whether it failed. -/
def textR (s : ByteArray) (a : Nat) : ByteArray × ByteArray × Int × Bool := if (getTextZ s a).2.2 = 0 then ((getTextZ s a).1, s, (getTextZ s a).2.1, false) else (⟨#[]⟩, s, (a : Int), true)
theorem textR_cases (s : ByteArray) (a : Nat) : (∃ t a', textR s a = (t, s, ((a' : Nat) : Int), false) ∧ GotT s a t a') ∨ textR s a = (⟨#[]⟩, s, (a : Int), true) := by
  unfold textR
  rcases text_cases s a with ⟨n, a', e, g⟩ | ⟨c, hc, e⟩
  · left; exact ⟨n, a', by rw [e]; rfl, g⟩
  · right; rw [e, if_neg hc]
section
variable (s : ByteArray) (a : Nat) (ha : a ≤ 9223372036854775807)
include ha
theorem iWord (hs : s.size ≤ 140737488351232) : Ev (fun k => impl_reader_word.f k s (a : Int) false) (textR s a) := by
  refine Ev.bind (iGetText s a ha hs) ?_
  unfold textR
  split
  · exact Ev.now _
  · exact Ev.now _
theorem sText (hs : s.size ≤ 8000) : Ev (fun k => spec_l06Reader_text.f k s (a : Int) false) (textR s a) := by
  refine Ev.bind (sGetText s a ha hs) ?_
  refine Ev.ifn (by simp) ?_
  unfold textR
  split
  · exact Ev.now _
  · exact Ev.now _
theorem sTextF (hs : s.size ≤ 8000) : Ev (fun k => spec_l06Reader_text.f k s (a : Int) true) (⟨#[]⟩, s, (a : Int), true) :=
  Ev.bind (sGetText s a ha hs) (Ev.ifp rfl (Ev.now _))
theorem iWordF (hs : s.size ≤ 140737488351232) : ∃ (t : ByteArray) (a' : Nat), Ev (fun k => impl_reader_word.f k s (a : Int) true) (t, s, (a' : Int), true) ∧ a' ≤ max a s.size := by
  rcases text_cases s a with ⟨n, a', e, g⟩ | ⟨c, hc, e⟩
  · refine ⟨n, a', Ev.bind (iGetText s a ha hs) ?_, ?_⟩
    · rw [e]
      exact Ev.now _
    · have := g.le; omega
  · refine ⟨⟨#[]⟩, a, Ev.bind (iGetText s a ha hs) ?_, by omega⟩
    rw [e]
    exact Ev.ifn hc (Ev.now _)
end
end Go.Proofs.Ythoibokhmkjkdaa.Pure

namespace Go.Proofs.Ythoibokhmkjkdaa.Pure
open Go.RowKit Go.Proofs.YthoibokhmkjkdaaW.PrintWords Go.Proofs.YthoibokhmkjkdaaW.PrintLast Go.Proofs.Ythoibokhmkjkdaa.P
def headB (a b c : Int) (d : ByteArray) : Bool := decide (1 ≤ a) && decide (a ≤ 8) && (decide (1 ≤ b) && decide (b ≤ 20) && (decide (0 ≤ c) && decide (c ≤ 4) && ((d.size : Int) == 32)))
theorem sHead (a b c : Int) (d : ByteArray) : spec_HeadRight.f a b c d = some (headB a b c d) := by
  simp only [spec_HeadRight.f, is_eq, Option.bind_some, ite_some, ite_and]; rfl
theorem iHead (a b c : Int) (d : ByteArray) : impl_isHead.f a b c d = some (headB a b c d) := by
  simp only [impl_isHead.f, impl_isBlocks.f, within_eq, Option.bind_some, ite_some, ite_and]; rfl
def headBytesOf (a b c : Int) (d : ByteArray) : ByteArray := sealOf (putOf a ++ putOf b ++ putOf c ++ putTextOf d)
theorem headB_parts {a b c : Int} {d : ByteArray} (h : headB a b c d = true) : 1 ≤ a ∧ a ≤ 8 ∧ 1 ≤ b ∧ b ≤ 20 ∧ 0 ≤ c ∧ c ≤ 4 ∧ d.size = 32 := by
  simp only [headB, Bool.and_eq_true, decide_eq_true_eq, beq_iff_eq] at h
  omega
theorem sHeadBytes (a b c : Int) (d : ByteArray) : Ev (fun k => spec_HeadBytes.f k a b c d) (if headB a b c d = true then headBytesOf a b c d else ⟨#[]⟩) := by
  unfold spec_HeadBytes.f
  simp only [sHead, Option.bind_some]
  split
  · rename_i h
    have hp := headB_parts h
    have h1 := putOf_size a
    have h2 := putOf_size b
    have h3 := putOf_size c
    have h4 := putOf_size (d.size : Int)
    have h5 : (putTextOf d).size ≤ 42 := by unfold putTextOf; rw [size_append']; omega
    refine Ev.bind (sPutNum a (by omega)) (Ev.bind (sPutNum b (by omega)) ?_)
    refine Ev.ifp (by omega) ?_
    refine Ev.bind (sPutNum c (by omega)) ?_
    refine Ev.ifp (by rw [size_append']; omega) ?_
    refine Ev.bind (sPutText d (by omega)) ?_
    refine Ev.ifp (by rw [size_append', size_append']; omega) ?_
    exact Ev.bind (sSeal _ (by rw [size_append', size_append', size_append']; omega)) (Ev.now _)
  · exact Ev.now _
end Go.Proofs.Ythoibokhmkjkdaa.Pure

namespace Go.Proofs.Ythoibokhmkjkdaa.Pure
open Go.RowKit Go.Proofs.YthoibokhmkjkdaaW.PrintWords Go.Proofs.YthoibokhmkjkdaaW.PrintLast Go.Proofs.Ythoibokhmkjkdaa.P
/-- Three numbers and a text stand in the text from its start, and nothing behind them. -/
theorem head_whole {s : ByteArray} {x y z : Int} {t : ByteArray} {a b c d : Nat} (g1 : Got s 0 x a) (g2 : Got s a y b) (g3 : Got s b z c) (g4 : GotT s c t d) : putOf x ++ putOf y ++ putOf z ++ putTextOf t = s ↔ d = s.size := by
  have e1 := g1.eq
  have e2 := g2.eq
  have e3 := g3.eq
  have e4 := g4.eq
  rw [List.drop_zero] at e1
  constructor
  · intro h
    have h1 := congrArg ByteArray.size h
    rw [size_append', size_append', size_append'] at h1
    have := g1.at'; have := g2.at'; have := g3.at'; have := g4.at'
    omega
  · rintro rfl
    refine B_ext ?_
    rw [B_append, B_append, B_append, e1, e2, e3, e4, List.drop_of_length_le (l := B s) (i := s.size) (by rw [B_len]; omega), List.append_nil, List.append_assoc, List.append_assoc]
def Zh (c : Int) : Int × Int × Int × ByteArray × Int := (0, 0, 0, ⟨#[]⟩, c)
/-- What both make of a body. -/
def headOf (s : ByteArray) : Int × Int × Int × ByteArray × Int :=
  let r1 := numR s 0
  if r1.2.2.2 = true then Zh 3 else
  let r2 := numR s r1.2.2.1.toNat
  if r2.2.2.2 = true then Zh 3 else
  let r3 := numR s r2.2.2.1.toNat
  if r3.2.2.2 = true then Zh 3 else
  let r4 := textR s r3.2.2.1.toNat
  if r4.2.2.2 = true then Zh 3 else
  if r4.2.2.1 = (s.size : Int) ∧ headB r1.1 r2.1 r3.1 r4.1 = true then (r1.1, r2.1, r3.1, r4.1, 0) else Zh 3
section
variable (s : ByteArray) (hs : s.size ≤ 8000)
include hs
theorem iHeadBody : Ev (fun k => (impl_reader_num.f k s ((0 : Nat) : Int) false).bind fun bt105 => ((impl_reader_num.f k bt105.2.1 bt105.2.2.1 bt105.2.2.2).bind fun bt109 => ((impl_reader_num.f k bt109.2.1 bt109.2.2.1 bt109.2.2.2).bind fun bt113 => ((impl_reader_word.f k bt113.2.1 bt113.2.2.1 bt113.2.2.2).bind fun bt117 => (if bt117.2.2.2 = true then (some (0, 0, 0, (⟨#[]⟩ : ByteArray), 3)) else (if bt117.2.2.1 = (s.size : Int) then ((impl_isHead.f bt105.1 bt109.1 bt113.1 bt117.1).bind fun t122 => (if t122 = true then (some (bt105.1, bt109.1, bt113.1, bt117.1, 0)) else (some (0, 0, 0, (⟨#[]⟩ : ByteArray), 3)))) else (some (0, 0, 0, (⟨#[]⟩ : ByteArray), 3)))))))) (headOf s) := by
  unfold headOf
  refine Ev.bind (iNum s 0 (by omega) (by omega)) ?_
  rcases numR_cases s 0 with ⟨x, a, e1, g1⟩ | e1
  · rw [e1]
    have := g1.le
    simp only [Int.toNat_natCast]
    refine Ev.bind (iNum s a (by omega) (by omega)) ?_
    rcases numR_cases s a with ⟨y, b, e2, g2⟩ | e2
    · rw [e2]
      have := g2.le
      simp only [Int.toNat_natCast]
      refine Ev.bind (iNum s b (by omega) (by omega)) ?_
      rcases numR_cases s b with ⟨z, c, e3, g3⟩ | e3
      · rw [e3]
        have := g3.le
        simp only [Int.toNat_natCast]
        refine Ev.bind (iWord s c (by omega) (by omega)) ?_
        rcases textR_cases s c with ⟨t, d, e4, g4⟩ | e4
        · rw [e4]
          simp only [iHead, Option.bind_some]
          refine Ev.all fun k => ?_
          by_cases hq : (d : Int) = (s.size : Int) <;> cases headB x y z t <;> simp [hq, Zh]
        · rw [e4]
          exact Ev.all fun k => by simp [Zh]
      · rw [e3]
        obtain ⟨t, a4, h4, _⟩ := iWordF s b (by omega) (by omega)
        exact Ev.bind h4 (Ev.all fun k => by simp [Zh])
    · rw [e2]
      obtain ⟨n3, a3, h3, l3⟩ := iNumF s a (by omega) (by omega)
      obtain ⟨t, a4, h4, _⟩ := iWordF s a3 (by omega) (by omega)
      exact Ev.bind h3 (Ev.bind h4 (Ev.all fun k => by simp [Zh]))
  · rw [e1]
    obtain ⟨n2, a2, h2, l2⟩ := iNumF s 0 (by omega) (by omega)
    obtain ⟨n3, a3, h3, l3⟩ := iNumF s a2 (by omega) (by omega)
    obtain ⟨t, a4, h4, _⟩ := iWordF s a3 (by omega) (by omega)
    exact Ev.bind h2 (Ev.bind h3 (Ev.bind h4 (Ev.all fun k => by simp [Zh])))
theorem sHeadBody (w : ByteArray) (hw : sealOf s = w) : Ev (fun k => (spec_l06Reader_num.f k s ((0 : Nat) : Int) false).bind fun bt107 => ((spec_l06Reader_num.f k bt107.2.1 bt107.2.2.1 bt107.2.2.2).bind fun bt112 => ((spec_l06Reader_num.f k bt112.2.1 bt112.2.2.1 bt112.2.2.2).bind fun bt116 => ((spec_l06Reader_text.f k bt116.2.1 bt116.2.2.1 bt116.2.2.2).bind fun bt120 => (if bt120.2.2.2 = true then (some (0, 0, 0, (⟨#[]⟩ : ByteArray), 3)) else ((spec_HeadBytes.f k bt107.1 bt112.1 bt116.1 bt120.1).bind fun t124 => (if t124.toList = w.toList then (some (bt107.1, bt112.1, bt116.1, bt120.1, 0)) else (some (0, 0, 0, (⟨#[]⟩ : ByteArray), 3))))))))) (headOf s) := by
  unfold headOf
  refine Ev.bind (sNum s 0 (by omega) (by omega)) ?_
  rcases numR_cases s 0 with ⟨x, a, e1, g1⟩ | e1
  · rw [e1]
    have := g1.le
    simp only [Int.toNat_natCast]
    refine Ev.bind (sNum s a (by omega) (by omega)) ?_
    rcases numR_cases s a with ⟨y, b, e2, g2⟩ | e2
    · rw [e2]
      have := g2.le
      simp only [Int.toNat_natCast]
      refine Ev.bind (sNum s b (by omega) (by omega)) ?_
      rcases numR_cases s b with ⟨z, c, e3, g3⟩ | e3
      · rw [e3]
        have := g3.le
        simp only [Int.toNat_natCast]
        refine Ev.bind (sText s c (by omega) (by omega)) ?_
        rcases textR_cases s c with ⟨t, d, e4, g4⟩ | e4
        · rw [e4]
          refine Ev.ifn (by simp) (Ev.bind (sHeadBytes x y z t) ?_)
          have key : (if headB x y z t = true then headBytesOf x y z t else ⟨#[]⟩).toList = w.toList ↔ (d : Int) = (s.size : Int) ∧ headB x y z t = true := by
            rw [toList_iff]
            by_cases ht : headB x y z t = true
            · rw [if_pos ht, ← hw]
              unfold headBytesOf
              rw [seal_inj, head_whole g1 g2 g3 g4]
              exact ⟨fun h => ⟨by rw [h], ht⟩, fun h => by have := h.1; omega⟩
            · rw [if_neg ht]
              constructor
              · intro h
                have h1 := congrArg ByteArray.size h
                have h0 : (⟨#[]⟩ : ByteArray).size = 0 := rfl
                rw [← hw] at h1
                unfold sealOf at h1
                rw [size_append', four_size] at h1
                omega
              · rintro ⟨_, h⟩; exact absurd h ht
          by_cases hk : (d : Int) = (s.size : Int) ∧ headB x y z t = true
          · exact Ev.all fun k => by rw [if_pos (key.2 hk), if_neg (by simp), if_neg (by simp), if_neg (by simp), if_neg (by simp), if_pos hk]
          · exact Ev.all fun k => by rw [if_neg (fun h => hk (key.1 h)), if_neg (by simp), if_neg (by simp), if_neg (by simp), if_neg (by simp), if_neg hk]; rfl
        · rw [e4]
          exact Ev.all fun k => by simp [Zh]
      · rw [e3]
        exact Ev.bind (sTextF s b (by omega) (by omega)) (Ev.all fun k => by simp [Zh])
    · rw [e2]
      exact Ev.bind (sNumF s a (by omega) (by omega)) (Ev.bind (sTextF s a (by omega) (by omega)) (Ev.all fun k => by simp [Zh]))
  · rw [e1]
    exact Ev.bind (sNumF s 0 (by omega) (by omega)) (Ev.bind (sNumF s 0 (by omega) (by omega)) (Ev.bind (sTextF s 0 (by omega) (by omega)) (Ev.all fun k => by simp [Zh])))
end
def headReadOf (s : ByteArray) : Int × Int × Int × ByteArray × Int := if s.size > 8000 then Zh 2 else if (unsealI s).2 = 0 then headOf (bodyOf s) else Zh (unsealI s).2
theorem iHeadRead (s : ByteArray) (hs : s.size ≤ 140737488351232) : Ev (fun k => impl_HeadRead.f k s) (headReadOf s) := by
  unfold impl_HeadRead.f headReadOf
  by_cases h8 : s.size > 8000
  · rw [if_pos h8]
    exact Ev.ifp (by omega) (Ev.now _)
  rw [if_neg h8]
  refine Ev.ifn (by omega) ?_
  have h : Ev (fun k => impl_headRead.f k s) (if (unsealI s).2 = 0 then headOf (bodyOf s) else Zh (unsealI s).2) := by
    unfold impl_headRead.f
    refine Ev.bind (iUnseal s hs) ?_
    by_cases hu : (unsealI s).2 = 0
    · obtain ⟨e, _, h4⟩ := unseal_ok hu
      rw [if_pos hu]
      refine Ev.ifp hu ?_
      rw [e]
      exact iHeadBody (bodyOf s) (by rw [body_size]; omega)
    · rw [if_neg hu]
      exact Ev.ifn hu (Ev.now _)
  exact Ev.bind h (Ev.now _)
theorem sHeadRead (s : ByteArray) : Ev (fun k => spec_HeadRead.f k s) (headReadOf s) := by
  unfold spec_HeadRead.f headReadOf
  by_cases h8 : s.size > 8000
  · rw [if_pos h8]
    have h : Ev (fun k => spec_Unseal.f k s) (⟨#[]⟩, 0, 2) := Ev.all fun k => by unfold spec_Unseal.f; rw [if_pos (by omega)]
    refine Ev.bind h ?_
    exact Ev.ifn (by simp) (Ev.now _)
  rw [if_neg h8]
  refine Ev.bind (sUnseal s (by omega)) ?_
  by_cases hu : (unsealI s).2 = 0
  · obtain ⟨e, he, h4⟩ := unseal_ok hu
    rw [if_pos hu]
    refine Ev.ifp hu ?_
    rw [e]
    exact sHeadBody (bodyOf s) (by rw [body_size]; omega) s he
  · rw [if_neg hu]
    exact Ev.ifn hu (Ev.now _)
theorem FnExactHeadRead : laws_FnExactHeadRead.Pure := by
  intro s hs
  refine Ev.rounds ?_
  unfold laws_FnExactHeadRead.f
  by_cases h : (s.size : Int) > 1048576
  · exact Ev.ifp h (Ev.now _)
  · refine Ev.ifn h (Ev.bind (sHeadRead s) (Ev.bind (iHeadRead s hs) ?_))
    exact Ev.all fun k => by simp [laws_eqHeadOut.f, laws_eqHead.f]
end Go.Proofs.Ythoibokhmkjkdaa.Pure

namespace Go.Proofs.Ythoibokhmkjkdaa.fnExactHeadRead
open Go.ChangeShapes Go.WideShapes Go.ChangeAt Go.RowKit Go.Proofs.YthoibokhmkjkdaaO Go.Proofs.YthoibokhmkjkdaaW.PrintWords Go.Proofs.Ythoibokhmkjkdaa.P
open Go.ChangeMaps (open_string shut_string)
set_option linter.unusedVariables false
theorem own : ownKnob Try.prog.godebug = none := by kernel_rfl
theorem laidOut : laidOutB Try.prog = true := by kernel_rfl
set_option maxRecDepth 100000 in
theorem lifted (os : Os) (started : os.Started) (H : Type) (enc : TypeId × Value → H) :
    ReturnsInHanded {} Try.checked os 11 .any (Rows.fnExactHeadReadSpec.pre6 enc Try.prog Try.f11 Rows.fnExactHeadReadRow.domain false) (Rows.fnExactHeadReadSpec.post enc Try.prog Try.f11 false true false false) := by
  refine returnsInHanded_of_change_sized (C := Try.checked) own started (by kernel_rfl) Try.func11
    (ChangeSpec.witness6 (enc := enc) (C := Try.checked) false ⟨#[], #[.string ByteArray.empty], []⟩ 8 (by kernel_rfl) (by kernel_rfl) (by kernel_rfl) (by kernel_rfl)) ?_
  intro W base args ds gs before hval0 hW hcnd hsz0 _
  have hsz : (DataW.weightsEach Try.prog (Try.f11.params.toList ++ Rows.fnExactHeadReadSpec.plain.varTypes Try.prog) (ds ++ gs)).all (· ≤ reachBytes) = true := hsz0
  have hval : ∀ (j : Nat) t v, Try.f11.params[j]? = some t → args[j]? = some v → Value.okWide Try.prog W .any base t v := hval0
  have hW' := hW
  obtain ⟨p, q, hA0, hV, rfl, hfz, hnd⟩ := hW
  have hA : DataW.TrodAll enc Try.prog W 0 (fun _ => true) true Try.f11.params.toList args.toList ds p := hA0
  rw [Try.params11] at hA hval hsz
  obtain ⟨v0, vs0, d0, ds0, p0, q0, hargs, rfl, rfl, h0, r0⟩ := trodAll_cons hA
  obtain ⟨rfl, rfl, rfl⟩ := trodAll_nil r0
  obtain rfl : args = #[v0] := by cases args; simp_all
  obtain ⟨rfl, rfl⟩ := trodVars_none hV
  have lt0 := trod_lt_all h0
  have k0 := h0
  have z0 := weights_arg hsz (j := 0) (t := 9) rfl rfl
  obtain ⟨a0, rfl, rfl, rfl, y0⟩ := open_string Try.underlying9 (hval 0 9 v0 rfl rfl) h0
  have w0 : a0.size ≤ 140737488351232 := by
    have z := sized_string hsz (j := 0) (t := 9) rfl rfl
    rw [Array.length_toList] at z
    exact z
  clear hA0 hval0 hsz0 hsz
  obtain ⟨k, h⟩ := Pure.FnExactHeadRead a0 w0
  refine (laws_FnExactHeadRead.calls k a0 true W h).mono fun e W' ⟨he, bel0⟩ => ?_
  have bel : Below W.heap.size W W' := bel0
  subst he
  exact ⟨_, rfl, _, _, _, [], _, [], hW', trodAll_mk1 (shut_bool Try.underlying4 _), (trodAll_cons_mk (Below.trod laidOut (by kernel_rfl) (of_decide_eq_true (by kernel_rfl)) k0 bel lt0) trodAll_mk0), rfl, bel.frame _, fun h => by cases h⟩
theorem over : Rows.fnExactHeadReadRow.holds Try.pinned (OpenSpec.ofChange Rows.fnExactHeadReadSpec) :=
  OpenClaim.holds_of_wide 11 Try.f11 rfl rfl rfl rfl rfl rfl rfl ⟨rfl, rfl, rfl, rfl, rfl⟩ rfl rfl rfl rfl rfl (by kernel_rfl) Try.func11 (by kernel_rfl)
    (of_decide_eq_true (by kernel_rfl)) (by unfold Func.isWrapper; first | (rw [if_pos (by decide +kernel)]; kernel_rfl) | (rw [if_neg (by decide +kernel)]; exact ⟨rfl, rfl⟩))
    (fun os started H enc _ => lifted os started H enc)
theorem proved : Rows.FnExactHeadReadSaid := over
#print axioms proved
end Go.Proofs.Ythoibokhmkjkdaa.fnExactHeadRead
namespace Go.Proofs.Ythoibokhmkjkdaa
/-- The row, under a short name, for the claim. -/
theorem fnExactHeadRead_holds : Rows.FnExactHeadReadSaid := fnExactHeadRead.proved
end Go.Proofs.Ythoibokhmkjkdaa
