/- What the law FnExactHalted needs, part 5 of 6: the Lean functions of the Go functions that it reaches, with the proofs that the calls come to what they say, and plain facts about them. Conditions: those that each theorem states. Written by a session and by its programs (after the kit's printer). -/
import Derived.Test.YtkjljfeneoaojaaWMore
import Derived.Laws.BitsLemmas
import Derived.Test.YtkjljfeneoaojaaXFnExactHalted0
import Derived.Test.YtkjljfeneoaojaaXFnExactHalted1
import Derived.Test.YtkjljfeneoaojaaXFnExactHalted2
import Derived.Test.YtkjljfeneoaojaaXFnExactHalted3
namespace Go.Proofs.Ytkjljfeneoaojaa.P
open Go.RowKit Go.Proofs.YtkjljfeneoaojaaW.PrintWords Go.Proofs.YtkjljfeneoaojaaW.PrintLast Go.Proofs.YtkjljfeneoaojaaW.PrintMore
attribute [local go_sem] max2_int min2_int max_two min_two max_three min_three max_four min_four   -- for this text's walks alone
set_option linter.unusedVariables false
set_option linter.unusedSimpArgs false

/-! ### laws_FnExactHalted: function 14 -/
def laws_FnExactHalted.f (k : Nat) (l0_0 : List Int) (a0_1 : Int) (a0_2 : Int) (l0_3 : List Int) : Option (Bool) := (laws_szFleet.f l0_0 a0_1 a0_2 l0_3 1048576).bind fun t668 => (if t668 < 0 then (some true) else ((laws_toFleet.f k l0_0 a0_1 a0_2 l0_3).bind fun bt669 => ((spec_Halted.f k bt669.1 bt669.2.1 bt669.2.2.1 bt669.2.2.2).bind fun t677 => ((laws_toFleet.f k l0_0 a0_1 a0_2 l0_3).bind fun bt678 => ((impl_Halted.f k bt678.1 bt678.2.1 bt678.2.2.1 bt678.2.2.2).bind fun t687 => (if (t687 != t677) = true then (some false) else ((laws_toFleet.f k l0_0 a0_1 a0_2 l0_3).bind fun bt688 => ((laws_eqFleet.f k bt678.1 bt678.2.1 bt678.2.2.1 bt678.2.2.2 bt688.1 bt688.2.1 bt688.2.2.1 bt688.2.2.2).bind fun t696 => (if t696 = true then (some true) else (some false))))))))))
theorem laws_FnExactHalted.mono : ∀ a0 a1 a2 a3 k, LeO (laws_FnExactHalted.f k a0 a1 a2 a3) (laws_FnExactHalted.f (k + 1) a0 a1 a2 a3) := by
  intro a0 a1 a2 a3 k
  unfold laws_FnExactHalted.f
  repeat' first
      | (with_reducible exact impl_Halted.mono _ _ _ _ _)
      | (with_reducible exact laws_eqFleet.mono _ _ _ _ _ _ _ _ _)
      | (with_reducible exact laws_toFleet.mono _ _ _ _ _)
      | (with_reducible exact spec_Halted.mono _ _ _ _ _)
      | (with_reducible exact LeO.refl _)
      | (with_reducible exact LeO.none _)
      | (with_reducible refine LeO.ite ?_ ?_)
      | (with_reducible refine LeO.bind ?_ (fun _ => ?_))
      | exact impl_Halted.mono _ _ _ _ _
      | exact laws_eqFleet.mono _ _ _ _ _ _ _ _ _
      | exact laws_toFleet.mono _ _ _ _ _
      | exact spec_Halted.mono _ _ _ _ _
      | exact LeO.none _
      | refine LeO.ite ?_ ?_
      | refine LeO.bind ?_ (fun _ => ?_)
set_option maxHeartbeats 8000000 in
set_option maxRecDepth 100000 in
theorem laws_FnExactHalted.calls (k : Nat) (A0_0 : Option Addr) (c0_0 : Nat) (l0_0 : List Int) (a0_1 : Int) (a0_2 : Int) (A0_3 : Option Addr) (c0_3 : Nat) (l0_3 : List Int) (r : Bool) (w : World) (hr0_0 : Kd.C (Kd.int .i64) w A0_0 l0_0.length l0_0) (hc0_0 : l0_0.length ≤ c0_0) (hr0_3 : Kd.C (Kd.int .i64) w A0_3 l0_3.length l0_3) (hc0_3 : l0_3.length ≤ c0_3) (h : laws_FnExactHalted.f k l0_0 a0_1 a0_2 l0_3 = some r) :
    Calls Try.prog 14 #[.agg #[.slice A0_0 l0_0.length c0_0, .int .i64 a0_1, .int .i64 a0_2, .slice A0_3 l0_3.length c0_3]] w fun e w' => e = .returned (.bool r) ∧ Below w.heap.size w w' := by
  have hu79 := Try.underlying79
  have hu71 := Try.underlying71
  have HR0_0 := Aside0.mk hr0_0
  have HC0_0 := Aside0.mk hc0_0
  clear hr0_0 hc0_0
  have HR0_3 := Aside0.mk hr0_3
  have HC0_3 := Aside0.mk hc0_3
  clear hr0_3 hc0_3
  have HB := Aside0.mk (Below.refl w.heap.size w)
  have H : ((laws_szFleet.f l0_0 a0_1 a0_2 l0_3 1048576).bind fun t668 => (if t668 < 0 then (some true) else ((laws_toFleet.f k l0_0 a0_1 a0_2 l0_3).bind fun bt669 => ((spec_Halted.f k bt669.1 bt669.2.1 bt669.2.2.1 bt669.2.2.2).bind fun t677 => ((laws_toFleet.f k l0_0 a0_1 a0_2 l0_3).bind fun bt678 => ((impl_Halted.f k bt678.1 bt678.2.1 bt678.2.2.1 bt678.2.2.2).bind fun t687 => (if (t687 != t677) = true then (some false) else ((laws_toFleet.f k l0_0 a0_1 a0_2 l0_3).bind fun bt688 => ((laws_eqFleet.f k bt678.1 bt678.2.1 bt678.2.2.1 bt678.2.2.2 bt688.1 bt688.2.1 bt688.2.2.1 bt688.2.2.2).bind fun t696 => (if t696 = true then (some true) else (some false))))))))))) = some r := h
  clear h
  replace H := Option.bind_eq_some_iff.mp H
  obtain ⟨t668, A20, H⟩ := H
  replace H : (if t668 < 0 then (some true) else ((laws_toFleet.f k l0_0 a0_1 a0_2 l0_3).bind fun bt669 => ((spec_Halted.f k bt669.1 bt669.2.1 bt669.2.2.1 bt669.2.2.2).bind fun t677 => ((laws_toFleet.f k l0_0 a0_1 a0_2 l0_3).bind fun bt678 => ((impl_Halted.f k bt678.1 bt678.2.1 bt678.2.2.1 bt678.2.2.2).bind fun t687 => (if (t687 != t677) = true then (some false) else ((laws_toFleet.f k l0_0 a0_1 a0_2 l0_3).bind fun bt688 => ((laws_eqFleet.f k bt678.1 bt678.2.1 bt678.2.2.1 bt678.2.2.2 bt688.1 bt688.2.1 bt688.2.2.1 bt688.2.2.2).bind fun t696 => (if t696 = true then (some true) else (some false)))))))))) = some r := H
  have A2 := Aside0.mk A20
  clear A20
  by_cases c3 : t668 < 0
  · rw [if_pos c3] at H
    have c3b0 : decide (t668 < 0) = true := decide_eq_true c3
    clear c3
    obtain rfl := Option.some.inj H
    go_enter Try.func14, Try.ntmps14
    go_wp2_with (first | ((with_reducible refine gate_dst (N := 1) rfl ?_); refine box_event ?hg (N := 1) ?hd (cs := #[.slice A0_0 l0_0.length c0_0, .int .i64 a0_1, .int .i64 a0_2, .slice A0_3 l0_3.length c0_3]) (t := 79) ?hr ?_; (case hd => rfl); (case hg => rfl); (case hr => first | (go_simp; done) | (go_simp; rfl)); intro gb667 hg w4 hbox hb; have n0_ := Aside0.mk (below_step (by repeat (first | (with_reducible first | exact HB.out | apply below_alloc | apply pw_below_drewN | apply below_drew1) | exact HB.out)) hb); have n1_ := Aside0.mk (hbox); have n2_ := Aside0.mk ((by rw [hg]; exact (below_size (by repeat (first | (with_reducible first | exact HB.out | apply below_alloc | apply pw_below_drewN | apply below_drew1) | exact HB.out))) : w.heap.size ≤ gb667)); have n3_ := Aside0.mk ((by rw [hg]; exact (below_size (by repeat (first | (with_reducible first | exact HB.out | apply below_alloc | apply pw_below_drewN | apply below_drew1) | exact HB.out))) : w.heap.size ≤ gb667)); clear HB; have HB := n0_; have BK667 := n1_; have GW667 := n2_; have GE667 := n3_; clear n0_ n1_ n2_ n3_; clear hb hbox hg; have hcz5_0 : w4.cell? ⟨gb667, 0, none⟩ = some (.slice A0_0 l0_0.length c0_0) := (blk_cell BK667.out 0).trans rfl; have hcz5_1 : w4.cell? ⟨gb667, 1, none⟩ = some (.int .i64 a0_1) := (blk_cell BK667.out 1).trans rfl; have hcz5_2 : w4.cell? ⟨gb667, 2, none⟩ = some (.int .i64 a0_2) := (blk_cell BK667.out 2).trans rfl; have hcz5_3 : w4.cell? ⟨gb667, 3, none⟩ = some (.slice A0_3 l0_3.length c0_3) := (blk_cell BK667.out 3).trans rfl; have hfz5_0 := blk_frozen BK667.out 0; have hfz5_1 := blk_frozen BK667.out 1; have hfz5_2 := blk_frozen BK667.out 2; have hfz5_3 := blk_frozen BK667.out 3) | ((with_reducible refine gate_callee (f := 50) rfl ?_); refine goesL_ (some 9) rfl rfl Try.func50 (by kernel_rfl) rfl #[.agg #[.slice A0_0 l0_0.length c0_0, .int .i64 a0_1, .int .i64 a0_2, .slice A0_3 l0_3.length c0_3], .int .i64 1048576] rfl (by (try simp only [List.map_toArray, List.map_cons, List.map_nil]); first | done | rfl | (simp only [List.length_drop, List.length_take]; rfl)) ?_; (with_reducible refine (laws_szFleet.calls _ _ l0_0 a0_1 a0_2 _ _ l0_3 1048576 t668 _ ?side1 ?side2 ?side3 ?side4 A2.out).mono ?_); (case side1 => repeat (first | exact (Kd.C_below HR0_0.out HB.out) | (with_reducible refine Kd.C_alloc ?_ _) | (with_reducible refine Kd.C_drewN ?_ _) | (with_reducible refine Kd.C_drew ?_))); (case side2 => exact HC0_0.out); (case side3 => repeat (first | exact (Kd.C_below HR0_3.out HB.out) | (with_reducible refine Kd.C_alloc ?_ _) | (with_reducible refine Kd.C_drewN ?_ _) | (with_reducible refine Kd.C_drew ?_))); (case side4 => exact HC0_3.out); rintro e w6 ⟨rfl, hb⟩; refine ⟨_, rfl, ?_⟩; have n0_ := Aside0.mk (blk_below (g := gb667) (o := .cells #[.slice A0_0 l0_0.length c0_0, .int .i64 a0_1, .int .i64 a0_2, .slice A0_3 l0_3.length c0_3] 79 (0, 0)) (by (with_reducible repeat (first | refine blk_drewN ?_ _ | refine blk_drew ?_ | refine blk_alloc ?_ _)); exact BK667.out) hb); have n1_ := Aside0.mk (below_step (by repeat (first | (with_reducible first | exact HB.out | apply below_alloc | apply pw_below_drewN | apply below_drew1 | refine below_set ?_ GE667.out) | exact HB.out)) hb); clear BK667; clear HB; have BK667 := n0_; have HB := n1_; clear n0_ n1_; (try clear hb); (try clear hb2); (try clear hk); (try clear hi)))
    go_ret
    exact ⟨by first | rfl | (simp only [i64_w, i32_w]; done) | (simp only [i64_w, i32_w]; rfl) | (simp [errW_none, errW_some] <;> rfl) | (simp [*, errW_none, errW_some] <;> rfl), by repeat (first | (with_reducible first | exact HB.out | apply below_alloc | apply pw_below_drewN | apply below_drew1 | refine below_set ?_ GE667.out) | exact HB.out)⟩
  · rw [if_neg c3] at H
    have c3b0 : decide (t668 < 0) = false := decide_eq_false c3
    clear c3
    replace H := Option.bind_eq_some_iff.mp H
    obtain ⟨⟨t669, t672, t673, t674⟩, A70, H⟩ := H
    replace H : ((spec_Halted.f k t669 t672 t673 t674).bind fun t677 => ((laws_toFleet.f k l0_0 a0_1 a0_2 l0_3).bind fun bt678 => ((impl_Halted.f k bt678.1 bt678.2.1 bt678.2.2.1 bt678.2.2.2).bind fun t687 => (if (t687 != t677) = true then (some false) else ((laws_toFleet.f k l0_0 a0_1 a0_2 l0_3).bind fun bt688 => ((laws_eqFleet.f k bt678.1 bt678.2.1 bt678.2.2.1 bt678.2.2.2 bt688.1 bt688.2.1 bt688.2.2.1 bt688.2.2.2).bind fun t696 => (if t696 = true then (some true) else (some false)))))))) = some r := H
    have A7 := Aside0.mk A70
    clear A70
    replace H := Option.bind_eq_some_iff.mp H
    obtain ⟨t677, A80, H⟩ := H
    replace H : ((laws_toFleet.f k l0_0 a0_1 a0_2 l0_3).bind fun bt678 => ((impl_Halted.f k bt678.1 bt678.2.1 bt678.2.2.1 bt678.2.2.2).bind fun t687 => (if (t687 != t677) = true then (some false) else ((laws_toFleet.f k l0_0 a0_1 a0_2 l0_3).bind fun bt688 => ((laws_eqFleet.f k bt678.1 bt678.2.1 bt678.2.2.1 bt678.2.2.2 bt688.1 bt688.2.1 bt688.2.2.1 bt688.2.2.2).bind fun t696 => (if t696 = true then (some true) else (some false))))))) = some r := H
    have A8 := Aside0.mk A80
    clear A80
    replace H := Option.bind_eq_some_iff.mp H
    obtain ⟨⟨t678, t681, t682, t683⟩, A90, H⟩ := H
    replace H : ((impl_Halted.f k t678 t681 t682 t683).bind fun t687 => (if (t687 != t677) = true then (some false) else ((laws_toFleet.f k l0_0 a0_1 a0_2 l0_3).bind fun bt688 => ((laws_eqFleet.f k t678 t681 t682 t683 bt688.1 bt688.2.1 bt688.2.2.1 bt688.2.2.2).bind fun t696 => (if t696 = true then (some true) else (some false)))))) = some r := H
    have A9 := Aside0.mk A90
    clear A90
    replace H := Option.bind_eq_some_iff.mp H
    obtain ⟨t687, A100, H⟩ := H
    replace H : (if (t687 != t677) = true then (some false) else ((laws_toFleet.f k l0_0 a0_1 a0_2 l0_3).bind fun bt688 => ((laws_eqFleet.f k t678 t681 t682 t683 bt688.1 bt688.2.1 bt688.2.2.1 bt688.2.2.2).bind fun t696 => (if t696 = true then (some true) else (some false))))) = some r := H
    have A10 := Aside0.mk A100
    clear A100
    by_cases c11 : (t687 != t677) = true
    · rw [if_pos c11] at H
      have c11b0 : (t687 != t677) = true := c11
      (try (have c11b1 : decide (t687 = t677) = false := by simpa using c11))
      (try (have c11b2 : (t687 == t677) = false := by simpa using c11))
      (try (have c11b3 : ¬ (t687 = t677) := by simpa using c11))
      clear c11
      obtain rfl := Option.some.inj H
      go_enter Try.func14, Try.ntmps14
      go_wp2_with (first | ((with_reducible refine gate_dst (N := 1) rfl ?_); refine box_event ?hg (N := 1) ?hd (cs := #[.slice A0_0 l0_0.length c0_0, .int .i64 a0_1, .int .i64 a0_2, .slice A0_3 l0_3.length c0_3]) (t := 79) ?hr ?_; (case hd => rfl); (case hg => rfl); (case hr => first | (go_simp; done) | (go_simp; rfl)); intro gb667 hg w12 hbox hb; have n0_ := Aside0.mk (below_step (by repeat (first | (with_reducible first | exact HB.out | apply below_alloc | apply pw_below_drewN | apply below_drew1) | exact HB.out)) hb); have n1_ := Aside0.mk (hbox); have n2_ := Aside0.mk ((by rw [hg]; exact (below_size (by repeat (first | (with_reducible first | exact HB.out | apply below_alloc | apply pw_below_drewN | apply below_drew1) | exact HB.out))) : w.heap.size ≤ gb667)); have n3_ := Aside0.mk ((by rw [hg]; exact (below_size (by repeat (first | (with_reducible first | exact HB.out | apply below_alloc | apply pw_below_drewN | apply below_drew1) | exact HB.out))) : w.heap.size ≤ gb667)); clear HB; have HB := n0_; have BK667 := n1_; have GW667 := n2_; have GE667 := n3_; clear n0_ n1_ n2_ n3_; clear hb hbox hg; have hcz13_0 : w12.cell? ⟨gb667, 0, none⟩ = some (.slice A0_0 l0_0.length c0_0) := (blk_cell BK667.out 0).trans rfl; have hcz13_1 : w12.cell? ⟨gb667, 1, none⟩ = some (.int .i64 a0_1) := (blk_cell BK667.out 1).trans rfl; have hcz13_2 : w12.cell? ⟨gb667, 2, none⟩ = some (.int .i64 a0_2) := (blk_cell BK667.out 2).trans rfl; have hcz13_3 : w12.cell? ⟨gb667, 3, none⟩ = some (.slice A0_3 l0_3.length c0_3) := (blk_cell BK667.out 3).trans rfl; have hfz13_0 := blk_frozen BK667.out 0; have hfz13_1 := blk_frozen BK667.out 1; have hfz13_2 := blk_frozen BK667.out 2; have hfz13_3 := blk_frozen BK667.out 3) | ((with_reducible refine gate_callee (f := 50) rfl ?_); refine goesL_ (some 9) rfl rfl Try.func50 (by kernel_rfl) rfl #[.agg #[.slice A0_0 l0_0.length c0_0, .int .i64 a0_1, .int .i64 a0_2, .slice A0_3 l0_3.length c0_3], .int .i64 1048576] rfl (by (try simp only [List.map_toArray, List.map_cons, List.map_nil]); first | done | rfl | (simp only [List.length_drop, List.length_take]; rfl)) ?_; (with_reducible refine (laws_szFleet.calls _ _ l0_0 a0_1 a0_2 _ _ l0_3 1048576 t668 _ ?side1 ?side2 ?side3 ?side4 A2.out).mono ?_); (case side1 => repeat (first | exact (Kd.C_below HR0_0.out HB.out) | (with_reducible refine Kd.C_alloc ?_ _) | (with_reducible refine Kd.C_drewN ?_ _) | (with_reducible refine Kd.C_drew ?_))); (case side2 => exact HC0_0.out); (case side3 => repeat (first | exact (Kd.C_below HR0_3.out HB.out) | (with_reducible refine Kd.C_alloc ?_ _) | (with_reducible refine Kd.C_drewN ?_ _) | (with_reducible refine Kd.C_drew ?_))); (case side4 => exact HC0_3.out); rintro e w14 ⟨rfl, hb⟩; refine ⟨_, rfl, ?_⟩; have n0_ := Aside0.mk (blk_below (g := gb667) (o := .cells #[.slice A0_0 l0_0.length c0_0, .int .i64 a0_1, .int .i64 a0_2, .slice A0_3 l0_3.length c0_3] 79 (0, 0)) (by (with_reducible repeat (first | refine blk_drewN ?_ _ | refine blk_drew ?_ | refine blk_alloc ?_ _)); exact BK667.out) hb); have n1_ := Aside0.mk (below_step (by repeat (first | (with_reducible first | exact HB.out | apply below_alloc | apply pw_below_drewN | apply below_drew1 | refine below_set ?_ GE667.out) | exact HB.out)) hb); clear BK667; clear HB; have BK667 := n0_; have HB := n1_; clear n0_ n1_; (try clear hb); (try clear hb2); (try clear hk); (try clear hi); have hcz15_0 : w14.cell? ⟨gb667, 0, none⟩ = some (.slice A0_0 l0_0.length c0_0) := (blk_cell BK667.out 0).trans rfl; have hcz15_1 : w14.cell? ⟨gb667, 1, none⟩ = some (.int .i64 a0_1) := (blk_cell BK667.out 1).trans rfl; have hcz15_2 : w14.cell? ⟨gb667, 2, none⟩ = some (.int .i64 a0_2) := (blk_cell BK667.out 2).trans rfl; have hcz15_3 : w14.cell? ⟨gb667, 3, none⟩ = some (.slice A0_3 l0_3.length c0_3) := (blk_cell BK667.out 3).trans rfl; have hfz15_0 := blk_frozen BK667.out 0; have hfz15_1 := blk_frozen BK667.out 1; have hfz15_2 := blk_frozen BK667.out 2; have hfz15_3 := blk_frozen BK667.out 3) | ((with_reducible refine gate_callee (f := 52) rfl ?_); refine goesL_ (some 13) rfl rfl Try.func52 (by kernel_rfl) rfl #[.agg #[.slice A0_0 l0_0.length c0_0, .int .i64 a0_1, .int .i64 a0_2, .slice A0_3 l0_3.length c0_3]] rfl (by (try simp only [List.map_toArray, List.map_cons, List.map_nil]); first | done | rfl | (simp only [List.length_drop, List.length_take]; rfl)) ?_; (with_reducible refine (laws_toFleet.calls k _ _ l0_0 a0_1 a0_2 _ _ l0_3 t669 t672 t673 t674 _ ?side1 ?side2 ?side3 ?side4 A7.out).mono ?_); (case side1 => repeat (first | exact (Kd.C_below HR0_0.out HB.out) | (with_reducible refine Kd.C_alloc ?_ _) | (with_reducible refine Kd.C_drewN ?_ _) | (with_reducible refine Kd.C_drew ?_))); (case side2 => exact HC0_0.out); (case side3 => repeat (first | exact (Kd.C_below HR0_3.out HB.out) | (with_reducible refine Kd.C_alloc ?_ _) | (with_reducible refine Kd.C_drewN ?_ _) | (with_reducible refine Kd.C_drew ?_))); (case side4 => exact HC0_3.out); rintro e w16 ⟨v670, v675, rfl, ho0, ho1, hb⟩; refine ⟨_, rfl, ?_⟩; have n0_ := Aside0.mk (Kd.R_lower ho0 (below_size (by repeat (first | (with_reducible first | exact HB.out | apply below_alloc | apply pw_below_drewN | apply below_drew1 | refine below_set ?_ GE667.out) | exact HB.out)))); have n1_ := Aside0.mk (Kd.R_lower ho1 (below_size (by repeat (first | (with_reducible first | exact HB.out | apply below_alloc | apply pw_below_drewN | apply below_drew1 | refine below_set ?_ GE667.out) | exact HB.out)))); have n2_ := Aside0.mk (blk_below (g := gb667) (o := .cells #[.slice A0_0 l0_0.length c0_0, .int .i64 a0_1, .int .i64 a0_2, .slice A0_3 l0_3.length c0_3] 79 (0, 0)) (by (with_reducible repeat (first | refine blk_drewN ?_ _ | refine blk_drew ?_ | refine blk_alloc ?_ _)); exact BK667.out) hb); have n3_ := Aside0.mk (below_step (by repeat (first | (with_reducible first | exact HB.out | apply below_alloc | apply pw_below_drewN | apply below_drew1 | refine below_set ?_ GE667.out) | exact HB.out)) hb); clear BK667; clear HB; have HO671 := n0_; have HO676 := n1_; have BK667 := n2_; have HB := n3_; clear n0_ n1_ n2_ n3_; (try clear hb); (try clear hb2); (try clear hk); (try clear hi); (try clear ho0); (try clear ho1); obtain ⟨Ao17, co17, eo17⟩ := Kd.R_slice HO671.out; subst eo17; obtain ⟨Ao18, co18, eo18⟩ := Kd.R_slice HO676.out; subst eo18) | ((with_reducible refine gate_callee (f := 55) rfl ?_); refine goesL_ (some 14) rfl rfl Try.func55 (by kernel_rfl) rfl #[.agg #[.slice Ao17 t669.length co17, .int .i64 t672, .int .i64 t673, .slice Ao18 t674.length co18]] rfl (by (try simp only [List.map_toArray, List.map_cons, List.map_nil]); first | done | rfl | (simp only [List.length_drop, List.length_take]; rfl)) ?_; (with_reducible refine (spec_Halted.calls k _ _ t669 t672 t673 _ _ t674 t677 _ ?side1 ?side2 ?side3 ?side4 A8.out).mono ?_); (case side1 => repeat (first | exact (Kd.R_reads' HO671.out).2.2 | (with_reducible refine Kd.C_alloc ?_ _) | (with_reducible refine Kd.C_drewN ?_ _) | (with_reducible refine Kd.C_drew ?_))); (case side2 => exact (Kd.R_reads' HO671.out).2.1); (case side3 => repeat (first | exact (Kd.R_reads' HO676.out).2.2 | (with_reducible refine Kd.C_alloc ?_ _) | (with_reducible refine Kd.C_drewN ?_ _) | (with_reducible refine Kd.C_drew ?_))); (case side4 => exact (Kd.R_reads' HO676.out).2.1); rintro e w19 ⟨rfl, hb⟩; refine ⟨_, rfl, ?_⟩; have n0_ := Aside0.mk (Kd.R_below (by (with_reducible repeat (first | apply Kd.R_alloc | apply Kd.R_drewN | apply Kd.R_drew)); exact HO671.out) hb); have n1_ := Aside0.mk (Kd.R_below (by (with_reducible repeat (first | apply Kd.R_alloc | apply Kd.R_drewN | apply Kd.R_drew)); exact HO676.out) hb); have n2_ := Aside0.mk (blk_below (g := gb667) (o := .cells #[.slice A0_0 l0_0.length c0_0, .int .i64 a0_1, .int .i64 a0_2, .slice A0_3 l0_3.length c0_3] 79 (0, 0)) (by (with_reducible repeat (first | refine blk_drewN ?_ _ | refine blk_drew ?_ | refine blk_alloc ?_ _)); exact BK667.out) hb); have n3_ := Aside0.mk (below_step (by repeat (first | (with_reducible first | exact HB.out | apply below_alloc | apply pw_below_drewN | apply below_drew1 | refine below_set ?_ GE667.out) | exact HB.out)) hb); clear HO671; clear HO676; clear BK667; clear HB; have HO671 := n0_; have HO676 := n1_; have BK667 := n2_; have HB := n3_; clear n0_ n1_ n2_ n3_; (try clear hb); (try clear hb2); (try clear hk); (try clear hi); have hcz20_0 : w19.cell? ⟨gb667, 0, none⟩ = some (.slice A0_0 l0_0.length c0_0) := (blk_cell BK667.out 0).trans rfl; have hcz20_1 : w19.cell? ⟨gb667, 1, none⟩ = some (.int .i64 a0_1) := (blk_cell BK667.out 1).trans rfl; have hcz20_2 : w19.cell? ⟨gb667, 2, none⟩ = some (.int .i64 a0_2) := (blk_cell BK667.out 2).trans rfl; have hcz20_3 : w19.cell? ⟨gb667, 3, none⟩ = some (.slice A0_3 l0_3.length c0_3) := (blk_cell BK667.out 3).trans rfl; have hfz20_0 := blk_frozen BK667.out 0; have hfz20_1 := blk_frozen BK667.out 1; have hfz20_2 := blk_frozen BK667.out 2; have hfz20_3 := blk_frozen BK667.out 3) | ((with_reducible refine gate_callee (f := 52) rfl ?_); refine goesL_ (some 16) rfl rfl Try.func52 (by kernel_rfl) rfl #[.agg #[.slice A0_0 l0_0.length c0_0, .int .i64 a0_1, .int .i64 a0_2, .slice A0_3 l0_3.length c0_3]] rfl (by (try simp only [List.map_toArray, List.map_cons, List.map_nil]); first | done | rfl | (simp only [List.length_drop, List.length_take]; rfl)) ?_; (with_reducible refine (laws_toFleet.calls k _ _ l0_0 a0_1 a0_2 _ _ l0_3 t678 t681 t682 t683 _ ?side1 ?side2 ?side3 ?side4 A9.out).mono ?_); (case side1 => repeat (first | exact (Kd.C_below HR0_0.out HB.out) | (with_reducible refine Kd.C_alloc ?_ _) | (with_reducible refine Kd.C_drewN ?_ _) | (with_reducible refine Kd.C_drew ?_))); (case side2 => exact HC0_0.out); (case side3 => repeat (first | exact (Kd.C_below HR0_3.out HB.out) | (with_reducible refine Kd.C_alloc ?_ _) | (with_reducible refine Kd.C_drewN ?_ _) | (with_reducible refine Kd.C_drew ?_))); (case side4 => exact HC0_3.out); rintro e w21 ⟨v679, v684, rfl, ho0, ho1, hb⟩; refine ⟨_, rfl, ?_⟩; have n0_ := Aside0.mk (Kd.R_mono (Kd.R_told (Kd.R_told (Kd.R_old (by (with_reducible repeat (first | apply Kd.R_alloc | apply Kd.R_drewN | apply Kd.R_drew)); exact HO671.out) hb) (Kd.R_base ho0)) (Kd.R_base ho1)) (fun _ h_ => h_.1)); have n1_ := Aside0.mk (Kd.R_mono (Kd.R_told (Kd.R_told (Kd.R_old (by (with_reducible repeat (first | apply Kd.R_alloc | apply Kd.R_drewN | apply Kd.R_drew)); exact HO676.out) hb) (Kd.R_base ho0)) (Kd.R_base ho1)) (fun _ h_ => h_.1)); have n2_ := Aside0.mk (Kd.R_lower (Kd.R_new' (Kd.R_new' ho0 (Kd.R_lt (by (with_reducible repeat (first | apply Kd.R_alloc | apply Kd.R_drewN | apply Kd.R_drew)); exact HO671.out))) (Kd.R_lt (by (with_reducible repeat (first | apply Kd.R_alloc | apply Kd.R_drewN | apply Kd.R_drew)); exact HO676.out))) (below_size (by repeat (first | (with_reducible first | exact HB.out | apply below_alloc | apply pw_below_drewN | apply below_drew1 | refine below_set ?_ GE667.out) | exact HB.out)))); have n3_ := Aside0.mk (Kd.R_lower (Kd.R_new' (Kd.R_new' ho1 (Kd.R_lt (by (with_reducible repeat (first | apply Kd.R_alloc | apply Kd.R_drewN | apply Kd.R_drew)); exact HO671.out))) (Kd.R_lt (by (with_reducible repeat (first | apply Kd.R_alloc | apply Kd.R_drewN | apply Kd.R_drew)); exact HO676.out))) (below_size (by repeat (first | (with_reducible first | exact HB.out | apply below_alloc | apply pw_below_drewN | apply below_drew1 | refine below_set ?_ GE667.out) | exact HB.out)))); have n4_ := Aside0.mk (blk_below (g := gb667) (o := .cells #[.slice A0_0 l0_0.length c0_0, .int .i64 a0_1, .int .i64 a0_2, .slice A0_3 l0_3.length c0_3] 79 (0, 0)) (by (with_reducible repeat (first | refine blk_drewN ?_ _ | refine blk_drew ?_ | refine blk_alloc ?_ _)); exact BK667.out) hb); have n5_ := Aside0.mk (below_step (by repeat (first | (with_reducible first | exact HB.out | apply below_alloc | apply pw_below_drewN | apply below_drew1 | refine below_set ?_ GE667.out) | exact HB.out)) hb); clear HO671; clear HO676; clear BK667; clear HB; have HO671 := n0_; have HO676 := n1_; have HO680 := n2_; have HO685 := n3_; have BK667 := n4_; have HB := n5_; clear n0_ n1_ n2_ n3_ n4_ n5_; (try clear hb); (try clear hb2); (try clear hk); (try clear hi); (try clear ho0); (try clear ho1)) | ((with_reducible refine gate_dst (N := 5) rfl ?_); refine box_event ?hg (N := 5) ?hd (cs := #[.slice none 0 0, .int .i64 0, .int .i64 0, .slice none 0 0]) (t := 71) ?hr ?_; (case hd => rfl); (case hg => rfl); (case hr => first | (go_simp; done) | (go_simp; rfl)); intro gb686 hg w22 hbox hb; have n0_ := Aside0.mk (Kd.R_below (by (with_reducible repeat (first | apply Kd.R_alloc | apply Kd.R_drewN | apply Kd.R_drew)); exact HO671.out) hb); have n1_ := Aside0.mk (Kd.R_below (by (with_reducible repeat (first | apply Kd.R_alloc | apply Kd.R_drewN | apply Kd.R_drew)); exact HO676.out) hb); have n2_ := Aside0.mk (Kd.R_below (by (with_reducible repeat (first | apply Kd.R_alloc | apply Kd.R_drewN | apply Kd.R_drew)); exact HO680.out) hb); have n3_ := Aside0.mk (Kd.R_below (by (with_reducible repeat (first | apply Kd.R_alloc | apply Kd.R_drewN | apply Kd.R_drew)); exact HO685.out) hb); have n4_ := Aside0.mk (blk_below (g := gb667) (o := .cells #[.slice A0_0 l0_0.length c0_0, .int .i64 a0_1, .int .i64 a0_2, .slice A0_3 l0_3.length c0_3] 79 (0, 0)) (by (with_reducible repeat (first | refine blk_drewN ?_ _ | refine blk_drew ?_ | refine blk_alloc ?_ _)); exact BK667.out) hb); have n5_ := Aside0.mk (below_step (by repeat (first | (with_reducible first | exact HB.out | apply below_alloc | apply pw_below_drewN | apply below_drew1 | refine below_set ?_ GE667.out) | exact HB.out)) hb); have n6_ := Aside0.mk (hbox); have n7_ := Aside0.mk ((by rw [hg]; exact (below_size (by repeat (first | (with_reducible first | exact HB.out | apply below_alloc | apply pw_below_drewN | apply below_drew1 | refine below_set ?_ GE667.out) | exact HB.out))) : w.heap.size ≤ gb686)); have n8_ := Aside0.mk ((by rw [hg]; exact (below_size (by repeat (first | (with_reducible first | exact HB.out | apply below_alloc | apply pw_below_drewN | apply below_drew1 | refine below_set ?_ GE667.out) | exact HB.out))) : w.heap.size ≤ gb686)); have n9_ := Aside0.mk ((by rw [hg]; exact Nat.ne_of_lt (blk_lt (g := gb667) (o := .cells #[.slice A0_0 l0_0.length c0_0, .int .i64 a0_1, .int .i64 a0_2, .slice A0_3 l0_3.length c0_3] 79 (0, 0)) (by (with_reducible repeat (first | refine blk_drewN ?_ _ | refine blk_drew ?_ | refine blk_alloc ?_ _)); exact BK667.out)) : gb667 ≠ gb686)); have n10_ := Aside0.mk ((by rw [hg]; exact Nat.ne_of_gt (blk_lt (g := gb667) (o := .cells #[.slice A0_0 l0_0.length c0_0, .int .i64 a0_1, .int .i64 a0_2, .slice A0_3 l0_3.length c0_3] 79 (0, 0)) (by (with_reducible repeat (first | refine blk_drewN ?_ _ | refine blk_drew ?_ | refine blk_alloc ?_ _)); exact BK667.out)) : gb686 ≠ gb667)); clear HO671; clear HO676; clear HO680; clear HO685; clear BK667; clear HB; have HO671 := n0_; have HO676 := n1_; have HO680 := n2_; have HO685 := n3_; have BK667 := n4_; have HB := n5_; have BK686 := n6_; have GW686 := n7_; have GE686 := n8_; have NB667_686 := n9_; have NB686_667 := n10_; clear n0_ n1_ n2_ n3_ n4_ n5_ n6_ n7_ n8_ n9_ n10_; clear hb hbox hg; obtain ⟨Ao23, co23, eo23⟩ := Kd.R_slice HO680.out; subst eo23; have hnb24 := NB686_667.out; have hnc24 := NB667_686.out; have hcz25_0 : w22.cell? ⟨gb686, 0, none⟩ = some (.slice none 0 0) := (blk_cell BK686.out 0).trans rfl; have hcz25_1 : w22.cell? ⟨gb686, 1, none⟩ = some (.int .i64 0) := (blk_cell BK686.out 1).trans rfl; have hcz25_2 : w22.cell? ⟨gb686, 2, none⟩ = some (.int .i64 0) := (blk_cell BK686.out 2).trans rfl; have hcz25_3 : w22.cell? ⟨gb686, 3, none⟩ = some (.slice none 0 0) := (blk_cell BK686.out 3).trans rfl; have hfz25_0 := blk_frozen BK686.out 0; have hfz25_1 := blk_frozen BK686.out 1; have hfz25_2 := blk_frozen BK686.out 2; have hfz25_3 := blk_frozen BK686.out 3; obtain ⟨Ao26, co26, eo26⟩ := Kd.R_slice HO685.out; subst eo26) | ((with_reducible refine gate_callee (f := 49) rfl ?_); refine goesL_ (some 18) rfl rfl Try.func49 (by kernel_rfl) rfl #[.agg #[.slice Ao23 t678.length co23, .int .i64 t681, .int .i64 t682, .slice Ao26 t683.length co26]] rfl (by (try simp only [List.map_toArray, List.map_cons, List.map_nil]); first | done | rfl | (simp only [List.length_drop, List.length_take]; rfl)) ?_; (with_reducible refine (impl_Halted.calls k _ _ t678 t681 t682 _ _ t683 t687 _ ?side1 ?side2 ?side3 ?side4 A10.out).mono ?_); (case side1 => refine (Kd.R_reads' (e := 2) (base := w.heap.size) (ok := fun k_ => ((some k_ ≠ (.slice Ao26 t683.length co26 : Value).ownBlock ∧ some k_ ≠ (.slice Ao17 t669.length co17 : Value).ownBlock) ∧ some k_ ≠ (.slice Ao18 t674.length co18 : Value).ownBlock)) (n := t678.length) (c := co23) ?_).2.2; exact (by (with_reducible repeat (first | apply Kd.R_alloc | apply Kd.R_drewN | apply Kd.R_drew)); exact (Kd.R_mono (Kd.R_far (p := ⟨gb686, 3, none⟩) (Kd.R_far (p := ⟨gb686, 2, none⟩) (Kd.R_far (p := ⟨gb686, 1, none⟩) (Kd.R_far (p := ⟨gb686, 0, none⟩) (Kd.R_types HO680.out BK686.out (by decide)) (fun _ hk => hk.2) (.slice Ao23 t678.length co23)) (fun _ hk => hk.2) (.int .i64 t681)) (fun _ hk => hk.2) (.int .i64 t682)) (fun _ hk => hk.2) (.slice Ao26 t683.length co26)) (fun _ h_ => h_.1)))); (case side2 => exact (Kd.R_reads' HO680.out).2.1); (case side3 => refine (Kd.R_reads' (e := 2) (base := w.heap.size) (ok := fun k_ => ((some k_ ≠ (.slice Ao23 t678.length co23 : Value).ownBlock ∧ some k_ ≠ (.slice Ao17 t669.length co17 : Value).ownBlock) ∧ some k_ ≠ (.slice Ao18 t674.length co18 : Value).ownBlock)) (n := t683.length) (c := co26) ?_).2.2; exact (by (with_reducible repeat (first | apply Kd.R_alloc | apply Kd.R_drewN | apply Kd.R_drew)); exact (Kd.R_mono (Kd.R_far (p := ⟨gb686, 3, none⟩) (Kd.R_far (p := ⟨gb686, 2, none⟩) (Kd.R_far (p := ⟨gb686, 1, none⟩) (Kd.R_far (p := ⟨gb686, 0, none⟩) (Kd.R_types HO685.out BK686.out (by decide)) (fun _ hk => hk.2) (.slice Ao23 t678.length co23)) (fun _ hk => hk.2) (.int .i64 t681)) (fun _ hk => hk.2) (.int .i64 t682)) (fun _ hk => hk.2) (.slice Ao26 t683.length co26)) (fun _ h_ => h_.1)))); (case side4 => exact (Kd.R_reads' HO685.out).2.1); rintro e w27 ⟨rfl, hb⟩; refine ⟨_, rfl, ?_⟩; have n0_ := Aside0.mk (Kd.R_below (by (with_reducible repeat (first | apply Kd.R_alloc | apply Kd.R_drewN | apply Kd.R_drew)); exact (Kd.R_mono (Kd.R_far (p := ⟨gb686, 3, none⟩) (Kd.R_far (p := ⟨gb686, 2, none⟩) (Kd.R_far (p := ⟨gb686, 1, none⟩) (Kd.R_far (p := ⟨gb686, 0, none⟩) (Kd.R_types HO671.out BK686.out (by decide)) (fun _ hk => hk.2) (.slice Ao23 t678.length co23)) (fun _ hk => hk.2) (.int .i64 t681)) (fun _ hk => hk.2) (.int .i64 t682)) (fun _ hk => hk.2) (.slice Ao26 t683.length co26)) (fun _ h_ => h_.1))) hb); have n1_ := Aside0.mk (Kd.R_below (by (with_reducible repeat (first | apply Kd.R_alloc | apply Kd.R_drewN | apply Kd.R_drew)); exact (Kd.R_mono (Kd.R_far (p := ⟨gb686, 3, none⟩) (Kd.R_far (p := ⟨gb686, 2, none⟩) (Kd.R_far (p := ⟨gb686, 1, none⟩) (Kd.R_far (p := ⟨gb686, 0, none⟩) (Kd.R_types HO676.out BK686.out (by decide)) (fun _ hk => hk.2) (.slice Ao23 t678.length co23)) (fun _ hk => hk.2) (.int .i64 t681)) (fun _ hk => hk.2) (.int .i64 t682)) (fun _ hk => hk.2) (.slice Ao26 t683.length co26)) (fun _ h_ => h_.1))) hb); have n2_ := Aside0.mk (Kd.R_below (by (with_reducible repeat (first | apply Kd.R_alloc | apply Kd.R_drewN | apply Kd.R_drew)); exact (Kd.R_mono (Kd.R_far (p := ⟨gb686, 3, none⟩) (Kd.R_far (p := ⟨gb686, 2, none⟩) (Kd.R_far (p := ⟨gb686, 1, none⟩) (Kd.R_far (p := ⟨gb686, 0, none⟩) (Kd.R_types HO680.out BK686.out (by decide)) (fun _ hk => hk.2) (.slice Ao23 t678.length co23)) (fun _ hk => hk.2) (.int .i64 t681)) (fun _ hk => hk.2) (.int .i64 t682)) (fun _ hk => hk.2) (.slice Ao26 t683.length co26)) (fun _ h_ => h_.1))) hb); have n3_ := Aside0.mk (Kd.R_below (by (with_reducible repeat (first | apply Kd.R_alloc | apply Kd.R_drewN | apply Kd.R_drew)); exact (Kd.R_mono (Kd.R_far (p := ⟨gb686, 3, none⟩) (Kd.R_far (p := ⟨gb686, 2, none⟩) (Kd.R_far (p := ⟨gb686, 1, none⟩) (Kd.R_far (p := ⟨gb686, 0, none⟩) (Kd.R_types HO685.out BK686.out (by decide)) (fun _ hk => hk.2) (.slice Ao23 t678.length co23)) (fun _ hk => hk.2) (.int .i64 t681)) (fun _ hk => hk.2) (.int .i64 t682)) (fun _ hk => hk.2) (.slice Ao26 t683.length co26)) (fun _ h_ => h_.1))) hb); have n4_ := Aside0.mk (blk_below (g := gb667) (o := .cells #[.slice A0_0 l0_0.length c0_0, .int .i64 a0_1, .int .i64 a0_2, .slice A0_3 l0_3.length c0_3] 79 (0, 0)) (by (with_reducible repeat (first | refine blk_drewN ?_ _ | refine blk_drew ?_ | refine blk_alloc ?_ _)); refine blk_far ?_ NB667_686.out _; (with_reducible repeat (first | refine blk_drewN ?_ _ | refine blk_drew ?_ | refine blk_alloc ?_ _)); refine blk_far ?_ NB667_686.out _; (with_reducible repeat (first | refine blk_drewN ?_ _ | refine blk_drew ?_ | refine blk_alloc ?_ _)); refine blk_far ?_ NB667_686.out _; (with_reducible repeat (first | refine blk_drewN ?_ _ | refine blk_drew ?_ | refine blk_alloc ?_ _)); refine blk_far ?_ NB667_686.out _; (with_reducible repeat (first | refine blk_drewN ?_ _ | refine blk_drew ?_ | refine blk_alloc ?_ _)); exact BK667.out) hb); have n5_ := Aside0.mk (blk_below (g := gb686) (o := .cells #[.slice Ao23 t678.length co23, .int .i64 t681, .int .i64 t682, .slice Ao26 t683.length co26] 71 (0, 0)) (by (with_reducible repeat (first | refine blk_drewN ?_ _ | refine blk_drew ?_ | refine blk_alloc ?_ _)); refine blk_put (cs := #[.slice Ao23 t678.length co23, .int .i64 t681, .int .i64 t682, .slice none 0 0]) ?_ 3 _ rfl; (with_reducible repeat (first | refine blk_drewN ?_ _ | refine blk_drew ?_ | refine blk_alloc ?_ _)); refine blk_put (cs := #[.slice Ao23 t678.length co23, .int .i64 t681, .int .i64 0, .slice none 0 0]) ?_ 2 _ rfl; (with_reducible repeat (first | refine blk_drewN ?_ _ | refine blk_drew ?_ | refine blk_alloc ?_ _)); refine blk_put (cs := #[.slice Ao23 t678.length co23, .int .i64 0, .int .i64 0, .slice none 0 0]) ?_ 1 _ rfl; (with_reducible repeat (first | refine blk_drewN ?_ _ | refine blk_drew ?_ | refine blk_alloc ?_ _)); refine blk_put (cs := #[.slice none 0 0, .int .i64 0, .int .i64 0, .slice none 0 0]) ?_ 0 _ rfl; (with_reducible repeat (first | refine blk_drewN ?_ _ | refine blk_drew ?_ | refine blk_alloc ?_ _)); exact BK686.out) hb); have n6_ := Aside0.mk (below_step (by repeat (first | (with_reducible first | exact HB.out | apply below_alloc | apply pw_below_drewN | apply below_drew1 | refine below_set ?_ GE667.out | refine below_set ?_ GE686.out) | exact HB.out)) hb); clear HO671; clear HO676; clear HO680; clear HO685; clear BK667; clear BK686; clear HB; have HO671 := n0_; have HO676 := n1_; have HO680 := n2_; have HO685 := n3_; have BK667 := n4_; have BK686 := n5_; have HB := n6_; clear n0_ n1_ n2_ n3_ n4_ n5_ n6_; (try clear hb); (try clear hb2); (try clear hk); (try clear hi)))
      go_ret
      exact ⟨by first | rfl | (simp only [i64_w, i32_w]; done) | (simp only [i64_w, i32_w]; rfl) | (simp [errW_none, errW_some] <;> rfl) | (simp [*, errW_none, errW_some] <;> rfl), by repeat (first | (with_reducible first | exact HB.out | apply below_alloc | apply pw_below_drewN | apply below_drew1 | refine below_set ?_ GE667.out | refine below_set ?_ GE686.out) | exact HB.out)⟩
    · rw [if_neg c11] at H
      have c11b0 : (t687 != t677) = false := by simpa using c11
      (try (have c11b1 : decide (t687 = t677) = true := by simpa using c11))
      (try (have c11b2 : (t687 == t677) = true := by simpa using c11))
      clear c11
      replace H := Option.bind_eq_some_iff.mp H
      obtain ⟨⟨t688, t691, t692, t693⟩, A280, H⟩ := H
      replace H : ((laws_eqFleet.f k t678 t681 t682 t683 t688 t691 t692 t693).bind fun t696 => (if t696 = true then (some true) else (some false))) = some r := H
      have A28 := Aside0.mk A280
      clear A280
      replace H := Option.bind_eq_some_iff.mp H
      obtain ⟨t696, A290, H⟩ := H
      replace H : (if t696 = true then (some true) else (some false)) = some r := H
      have A29 := Aside0.mk A290
      clear A290
      by_cases c30 : t696 = true
      · subst c30
        have H1 : (some true) = some r := by rw [if_pos rfl] at H; exact H
        clear H
        have H := H1
        clear H1
        obtain rfl := Option.some.inj H
        go_enter Try.func14, Try.ntmps14
        try go_wp2_with (first | ((with_reducible refine gate_dst (N := 1) rfl ?_); refine box_event ?hg (N := 1) ?hd (cs := #[.slice A0_0 l0_0.length c0_0, .int .i64 a0_1, .int .i64 a0_2, .slice A0_3 l0_3.length c0_3]) (t := 79) ?hr ?_; (case hd => rfl); (case hg => rfl); (case hr => first | (go_simp; done) | (go_simp; rfl)); intro gb667 hg w31 hbox hb; have n0_ := Aside0.mk (below_step (by repeat (first | (with_reducible first | exact HB.out | apply below_alloc | apply pw_below_drewN | apply below_drew1) | exact HB.out)) hb); have n1_ := Aside0.mk (hbox); have n2_ := Aside0.mk ((by rw [hg]; exact (below_size (by repeat (first | (with_reducible first | exact HB.out | apply below_alloc | apply pw_below_drewN | apply below_drew1) | exact HB.out))) : w.heap.size ≤ gb667)); have n3_ := Aside0.mk ((by rw [hg]; exact (below_size (by repeat (first | (with_reducible first | exact HB.out | apply below_alloc | apply pw_below_drewN | apply below_drew1) | exact HB.out))) : w.heap.size ≤ gb667)); clear HB; have HB := n0_; have BK667 := n1_; have GW667 := n2_; have GE667 := n3_; clear n0_ n1_ n2_ n3_; clear hb hbox hg; have hcz32_0 : w31.cell? ⟨gb667, 0, none⟩ = some (.slice A0_0 l0_0.length c0_0) := (blk_cell BK667.out 0).trans rfl; have hcz32_1 : w31.cell? ⟨gb667, 1, none⟩ = some (.int .i64 a0_1) := (blk_cell BK667.out 1).trans rfl; have hcz32_2 : w31.cell? ⟨gb667, 2, none⟩ = some (.int .i64 a0_2) := (blk_cell BK667.out 2).trans rfl; have hcz32_3 : w31.cell? ⟨gb667, 3, none⟩ = some (.slice A0_3 l0_3.length c0_3) := (blk_cell BK667.out 3).trans rfl; have hfz32_0 := blk_frozen BK667.out 0; have hfz32_1 := blk_frozen BK667.out 1; have hfz32_2 := blk_frozen BK667.out 2; have hfz32_3 := blk_frozen BK667.out 3) | ((with_reducible refine gate_callee (f := 50) rfl ?_); refine goesL_ (some 9) rfl rfl Try.func50 (by kernel_rfl) rfl #[.agg #[.slice A0_0 l0_0.length c0_0, .int .i64 a0_1, .int .i64 a0_2, .slice A0_3 l0_3.length c0_3], .int .i64 1048576] rfl (by (try simp only [List.map_toArray, List.map_cons, List.map_nil]); first | done | rfl | (simp only [List.length_drop, List.length_take]; rfl)) ?_; (with_reducible refine (laws_szFleet.calls _ _ l0_0 a0_1 a0_2 _ _ l0_3 1048576 t668 _ ?side1 ?side2 ?side3 ?side4 A2.out).mono ?_); (case side1 => repeat (first | exact (Kd.C_below HR0_0.out HB.out) | (with_reducible refine Kd.C_alloc ?_ _) | (with_reducible refine Kd.C_drewN ?_ _) | (with_reducible refine Kd.C_drew ?_))); (case side2 => exact HC0_0.out); (case side3 => repeat (first | exact (Kd.C_below HR0_3.out HB.out) | (with_reducible refine Kd.C_alloc ?_ _) | (with_reducible refine Kd.C_drewN ?_ _) | (with_reducible refine Kd.C_drew ?_))); (case side4 => exact HC0_3.out); rintro e w33 ⟨rfl, hb⟩; refine ⟨_, rfl, ?_⟩; have n0_ := Aside0.mk (blk_below (g := gb667) (o := .cells #[.slice A0_0 l0_0.length c0_0, .int .i64 a0_1, .int .i64 a0_2, .slice A0_3 l0_3.length c0_3] 79 (0, 0)) (by (with_reducible repeat (first | refine blk_drewN ?_ _ | refine blk_drew ?_ | refine blk_alloc ?_ _)); exact BK667.out) hb); have n1_ := Aside0.mk (below_step (by repeat (first | (with_reducible first | exact HB.out | apply below_alloc | apply pw_below_drewN | apply below_drew1 | refine below_set ?_ GE667.out) | exact HB.out)) hb); clear BK667; clear HB; have BK667 := n0_; have HB := n1_; clear n0_ n1_; (try clear hb); (try clear hb2); (try clear hk); (try clear hi); have hcz34_0 : w33.cell? ⟨gb667, 0, none⟩ = some (.slice A0_0 l0_0.length c0_0) := (blk_cell BK667.out 0).trans rfl; have hcz34_1 : w33.cell? ⟨gb667, 1, none⟩ = some (.int .i64 a0_1) := (blk_cell BK667.out 1).trans rfl; have hcz34_2 : w33.cell? ⟨gb667, 2, none⟩ = some (.int .i64 a0_2) := (blk_cell BK667.out 2).trans rfl; have hcz34_3 : w33.cell? ⟨gb667, 3, none⟩ = some (.slice A0_3 l0_3.length c0_3) := (blk_cell BK667.out 3).trans rfl; have hfz34_0 := blk_frozen BK667.out 0; have hfz34_1 := blk_frozen BK667.out 1; have hfz34_2 := blk_frozen BK667.out 2; have hfz34_3 := blk_frozen BK667.out 3) | ((with_reducible refine gate_callee (f := 52) rfl ?_); refine goesL_ (some 13) rfl rfl Try.func52 (by kernel_rfl) rfl #[.agg #[.slice A0_0 l0_0.length c0_0, .int .i64 a0_1, .int .i64 a0_2, .slice A0_3 l0_3.length c0_3]] rfl (by (try simp only [List.map_toArray, List.map_cons, List.map_nil]); first | done | rfl | (simp only [List.length_drop, List.length_take]; rfl)) ?_; (with_reducible refine (laws_toFleet.calls k _ _ l0_0 a0_1 a0_2 _ _ l0_3 t669 t672 t673 t674 _ ?side1 ?side2 ?side3 ?side4 A7.out).mono ?_); (case side1 => repeat (first | exact (Kd.C_below HR0_0.out HB.out) | (with_reducible refine Kd.C_alloc ?_ _) | (with_reducible refine Kd.C_drewN ?_ _) | (with_reducible refine Kd.C_drew ?_))); (case side2 => exact HC0_0.out); (case side3 => repeat (first | exact (Kd.C_below HR0_3.out HB.out) | (with_reducible refine Kd.C_alloc ?_ _) | (with_reducible refine Kd.C_drewN ?_ _) | (with_reducible refine Kd.C_drew ?_))); (case side4 => exact HC0_3.out); rintro e w35 ⟨v670, v675, rfl, ho0, ho1, hb⟩; refine ⟨_, rfl, ?_⟩; have n0_ := Aside0.mk (Kd.R_lower ho0 (below_size (by repeat (first | (with_reducible first | exact HB.out | apply below_alloc | apply pw_below_drewN | apply below_drew1 | refine below_set ?_ GE667.out) | exact HB.out)))); have n1_ := Aside0.mk (Kd.R_lower ho1 (below_size (by repeat (first | (with_reducible first | exact HB.out | apply below_alloc | apply pw_below_drewN | apply below_drew1 | refine below_set ?_ GE667.out) | exact HB.out)))); have n2_ := Aside0.mk (blk_below (g := gb667) (o := .cells #[.slice A0_0 l0_0.length c0_0, .int .i64 a0_1, .int .i64 a0_2, .slice A0_3 l0_3.length c0_3] 79 (0, 0)) (by (with_reducible repeat (first | refine blk_drewN ?_ _ | refine blk_drew ?_ | refine blk_alloc ?_ _)); exact BK667.out) hb); have n3_ := Aside0.mk (below_step (by repeat (first | (with_reducible first | exact HB.out | apply below_alloc | apply pw_below_drewN | apply below_drew1 | refine below_set ?_ GE667.out) | exact HB.out)) hb); clear BK667; clear HB; have HO671 := n0_; have HO676 := n1_; have BK667 := n2_; have HB := n3_; clear n0_ n1_ n2_ n3_; (try clear hb); (try clear hb2); (try clear hk); (try clear hi); (try clear ho0); (try clear ho1); obtain ⟨Ao36, co36, eo36⟩ := Kd.R_slice HO671.out; subst eo36; obtain ⟨Ao37, co37, eo37⟩ := Kd.R_slice HO676.out; subst eo37) | ((with_reducible refine gate_callee (f := 55) rfl ?_); refine goesL_ (some 14) rfl rfl Try.func55 (by kernel_rfl) rfl #[.agg #[.slice Ao36 t669.length co36, .int .i64 t672, .int .i64 t673, .slice Ao37 t674.length co37]] rfl (by (try simp only [List.map_toArray, List.map_cons, List.map_nil]); first | done | rfl | (simp only [List.length_drop, List.length_take]; rfl)) ?_; (with_reducible refine (spec_Halted.calls k _ _ t669 t672 t673 _ _ t674 t677 _ ?side1 ?side2 ?side3 ?side4 A8.out).mono ?_); (case side1 => repeat (first | exact (Kd.R_reads' HO671.out).2.2 | (with_reducible refine Kd.C_alloc ?_ _) | (with_reducible refine Kd.C_drewN ?_ _) | (with_reducible refine Kd.C_drew ?_))); (case side2 => exact (Kd.R_reads' HO671.out).2.1); (case side3 => repeat (first | exact (Kd.R_reads' HO676.out).2.2 | (with_reducible refine Kd.C_alloc ?_ _) | (with_reducible refine Kd.C_drewN ?_ _) | (with_reducible refine Kd.C_drew ?_))); (case side4 => exact (Kd.R_reads' HO676.out).2.1); rintro e w38 ⟨rfl, hb⟩; refine ⟨_, rfl, ?_⟩; have n0_ := Aside0.mk (Kd.R_below (by (with_reducible repeat (first | apply Kd.R_alloc | apply Kd.R_drewN | apply Kd.R_drew)); exact HO671.out) hb); have n1_ := Aside0.mk (Kd.R_below (by (with_reducible repeat (first | apply Kd.R_alloc | apply Kd.R_drewN | apply Kd.R_drew)); exact HO676.out) hb); have n2_ := Aside0.mk (blk_below (g := gb667) (o := .cells #[.slice A0_0 l0_0.length c0_0, .int .i64 a0_1, .int .i64 a0_2, .slice A0_3 l0_3.length c0_3] 79 (0, 0)) (by (with_reducible repeat (first | refine blk_drewN ?_ _ | refine blk_drew ?_ | refine blk_alloc ?_ _)); exact BK667.out) hb); have n3_ := Aside0.mk (below_step (by repeat (first | (with_reducible first | exact HB.out | apply below_alloc | apply pw_below_drewN | apply below_drew1 | refine below_set ?_ GE667.out) | exact HB.out)) hb); clear HO671; clear HO676; clear BK667; clear HB; have HO671 := n0_; have HO676 := n1_; have BK667 := n2_; have HB := n3_; clear n0_ n1_ n2_ n3_; (try clear hb); (try clear hb2); (try clear hk); (try clear hi); have hcz39_0 : w38.cell? ⟨gb667, 0, none⟩ = some (.slice A0_0 l0_0.length c0_0) := (blk_cell BK667.out 0).trans rfl; have hcz39_1 : w38.cell? ⟨gb667, 1, none⟩ = some (.int .i64 a0_1) := (blk_cell BK667.out 1).trans rfl; have hcz39_2 : w38.cell? ⟨gb667, 2, none⟩ = some (.int .i64 a0_2) := (blk_cell BK667.out 2).trans rfl; have hcz39_3 : w38.cell? ⟨gb667, 3, none⟩ = some (.slice A0_3 l0_3.length c0_3) := (blk_cell BK667.out 3).trans rfl; have hfz39_0 := blk_frozen BK667.out 0; have hfz39_1 := blk_frozen BK667.out 1; have hfz39_2 := blk_frozen BK667.out 2; have hfz39_3 := blk_frozen BK667.out 3) | ((with_reducible refine gate_callee (f := 52) rfl ?_); refine goesL_ (some 16) rfl rfl Try.func52 (by kernel_rfl) rfl #[.agg #[.slice A0_0 l0_0.length c0_0, .int .i64 a0_1, .int .i64 a0_2, .slice A0_3 l0_3.length c0_3]] rfl (by (try simp only [List.map_toArray, List.map_cons, List.map_nil]); first | done | rfl | (simp only [List.length_drop, List.length_take]; rfl)) ?_; (with_reducible refine (laws_toFleet.calls k _ _ l0_0 a0_1 a0_2 _ _ l0_3 t678 t681 t682 t683 _ ?side1 ?side2 ?side3 ?side4 A9.out).mono ?_); (case side1 => repeat (first | exact (Kd.C_below HR0_0.out HB.out) | (with_reducible refine Kd.C_alloc ?_ _) | (with_reducible refine Kd.C_drewN ?_ _) | (with_reducible refine Kd.C_drew ?_))); (case side2 => exact HC0_0.out); (case side3 => repeat (first | exact (Kd.C_below HR0_3.out HB.out) | (with_reducible refine Kd.C_alloc ?_ _) | (with_reducible refine Kd.C_drewN ?_ _) | (with_reducible refine Kd.C_drew ?_))); (case side4 => exact HC0_3.out); rintro e w40 ⟨v679, v684, rfl, ho0, ho1, hb⟩; refine ⟨_, rfl, ?_⟩; have n0_ := Aside0.mk (Kd.R_mono (Kd.R_told (Kd.R_told (Kd.R_old (by (with_reducible repeat (first | apply Kd.R_alloc | apply Kd.R_drewN | apply Kd.R_drew)); exact HO671.out) hb) (Kd.R_base ho0)) (Kd.R_base ho1)) (fun _ h_ => h_.1)); have n1_ := Aside0.mk (Kd.R_mono (Kd.R_told (Kd.R_told (Kd.R_old (by (with_reducible repeat (first | apply Kd.R_alloc | apply Kd.R_drewN | apply Kd.R_drew)); exact HO676.out) hb) (Kd.R_base ho0)) (Kd.R_base ho1)) (fun _ h_ => h_.1)); have n2_ := Aside0.mk (Kd.R_lower (Kd.R_new' (Kd.R_new' ho0 (Kd.R_lt (by (with_reducible repeat (first | apply Kd.R_alloc | apply Kd.R_drewN | apply Kd.R_drew)); exact HO671.out))) (Kd.R_lt (by (with_reducible repeat (first | apply Kd.R_alloc | apply Kd.R_drewN | apply Kd.R_drew)); exact HO676.out))) (below_size (by repeat (first | (with_reducible first | exact HB.out | apply below_alloc | apply pw_below_drewN | apply below_drew1 | refine below_set ?_ GE667.out) | exact HB.out)))); have n3_ := Aside0.mk (Kd.R_lower (Kd.R_new' (Kd.R_new' ho1 (Kd.R_lt (by (with_reducible repeat (first | apply Kd.R_alloc | apply Kd.R_drewN | apply Kd.R_drew)); exact HO671.out))) (Kd.R_lt (by (with_reducible repeat (first | apply Kd.R_alloc | apply Kd.R_drewN | apply Kd.R_drew)); exact HO676.out))) (below_size (by repeat (first | (with_reducible first | exact HB.out | apply below_alloc | apply pw_below_drewN | apply below_drew1 | refine below_set ?_ GE667.out) | exact HB.out)))); have n4_ := Aside0.mk (blk_below (g := gb667) (o := .cells #[.slice A0_0 l0_0.length c0_0, .int .i64 a0_1, .int .i64 a0_2, .slice A0_3 l0_3.length c0_3] 79 (0, 0)) (by (with_reducible repeat (first | refine blk_drewN ?_ _ | refine blk_drew ?_ | refine blk_alloc ?_ _)); exact BK667.out) hb); have n5_ := Aside0.mk (below_step (by repeat (first | (with_reducible first | exact HB.out | apply below_alloc | apply pw_below_drewN | apply below_drew1 | refine below_set ?_ GE667.out) | exact HB.out)) hb); clear HO671; clear HO676; clear BK667; clear HB; have HO671 := n0_; have HO676 := n1_; have HO680 := n2_; have HO685 := n3_; have BK667 := n4_; have HB := n5_; clear n0_ n1_ n2_ n3_ n4_ n5_; (try clear hb); (try clear hb2); (try clear hk); (try clear hi); (try clear ho0); (try clear ho1)) | ((with_reducible refine gate_dst (N := 5) rfl ?_); refine box_event ?hg (N := 5) ?hd (cs := #[.slice none 0 0, .int .i64 0, .int .i64 0, .slice none 0 0]) (t := 71) ?hr ?_; (case hd => rfl); (case hg => rfl); (case hr => first | (go_simp; done) | (go_simp; rfl)); intro gb686 hg w41 hbox hb; have n0_ := Aside0.mk (Kd.R_below (by (with_reducible repeat (first | apply Kd.R_alloc | apply Kd.R_drewN | apply Kd.R_drew)); exact HO671.out) hb); have n1_ := Aside0.mk (Kd.R_below (by (with_reducible repeat (first | apply Kd.R_alloc | apply Kd.R_drewN | apply Kd.R_drew)); exact HO676.out) hb); have n2_ := Aside0.mk (Kd.R_below (by (with_reducible repeat (first | apply Kd.R_alloc | apply Kd.R_drewN | apply Kd.R_drew)); exact HO680.out) hb); have n3_ := Aside0.mk (Kd.R_below (by (with_reducible repeat (first | apply Kd.R_alloc | apply Kd.R_drewN | apply Kd.R_drew)); exact HO685.out) hb); have n4_ := Aside0.mk (blk_below (g := gb667) (o := .cells #[.slice A0_0 l0_0.length c0_0, .int .i64 a0_1, .int .i64 a0_2, .slice A0_3 l0_3.length c0_3] 79 (0, 0)) (by (with_reducible repeat (first | refine blk_drewN ?_ _ | refine blk_drew ?_ | refine blk_alloc ?_ _)); exact BK667.out) hb); have n5_ := Aside0.mk (below_step (by repeat (first | (with_reducible first | exact HB.out | apply below_alloc | apply pw_below_drewN | apply below_drew1 | refine below_set ?_ GE667.out) | exact HB.out)) hb); have n6_ := Aside0.mk (hbox); have n7_ := Aside0.mk ((by rw [hg]; exact (below_size (by repeat (first | (with_reducible first | exact HB.out | apply below_alloc | apply pw_below_drewN | apply below_drew1 | refine below_set ?_ GE667.out) | exact HB.out))) : w.heap.size ≤ gb686)); have n8_ := Aside0.mk ((by rw [hg]; exact (below_size (by repeat (first | (with_reducible first | exact HB.out | apply below_alloc | apply pw_below_drewN | apply below_drew1 | refine below_set ?_ GE667.out) | exact HB.out))) : w.heap.size ≤ gb686)); have n9_ := Aside0.mk ((by rw [hg]; exact Nat.ne_of_lt (blk_lt (g := gb667) (o := .cells #[.slice A0_0 l0_0.length c0_0, .int .i64 a0_1, .int .i64 a0_2, .slice A0_3 l0_3.length c0_3] 79 (0, 0)) (by (with_reducible repeat (first | refine blk_drewN ?_ _ | refine blk_drew ?_ | refine blk_alloc ?_ _)); exact BK667.out)) : gb667 ≠ gb686)); have n10_ := Aside0.mk ((by rw [hg]; exact Nat.ne_of_gt (blk_lt (g := gb667) (o := .cells #[.slice A0_0 l0_0.length c0_0, .int .i64 a0_1, .int .i64 a0_2, .slice A0_3 l0_3.length c0_3] 79 (0, 0)) (by (with_reducible repeat (first | refine blk_drewN ?_ _ | refine blk_drew ?_ | refine blk_alloc ?_ _)); exact BK667.out)) : gb686 ≠ gb667)); clear HO671; clear HO676; clear HO680; clear HO685; clear BK667; clear HB; have HO671 := n0_; have HO676 := n1_; have HO680 := n2_; have HO685 := n3_; have BK667 := n4_; have HB := n5_; have BK686 := n6_; have GW686 := n7_; have GE686 := n8_; have NB667_686 := n9_; have NB686_667 := n10_; clear n0_ n1_ n2_ n3_ n4_ n5_ n6_ n7_ n8_ n9_ n10_; clear hb hbox hg; obtain ⟨Ao42, co42, eo42⟩ := Kd.R_slice HO680.out; subst eo42; have hnb43 := NB686_667.out; have hnc43 := NB667_686.out; have hcz44_0 : w41.cell? ⟨gb686, 0, none⟩ = some (.slice none 0 0) := (blk_cell BK686.out 0).trans rfl; have hcz44_1 : w41.cell? ⟨gb686, 1, none⟩ = some (.int .i64 0) := (blk_cell BK686.out 1).trans rfl; have hcz44_2 : w41.cell? ⟨gb686, 2, none⟩ = some (.int .i64 0) := (blk_cell BK686.out 2).trans rfl; have hcz44_3 : w41.cell? ⟨gb686, 3, none⟩ = some (.slice none 0 0) := (blk_cell BK686.out 3).trans rfl; have hfz44_0 := blk_frozen BK686.out 0; have hfz44_1 := blk_frozen BK686.out 1; have hfz44_2 := blk_frozen BK686.out 2; have hfz44_3 := blk_frozen BK686.out 3; obtain ⟨Ao45, co45, eo45⟩ := Kd.R_slice HO685.out; subst eo45) | ((with_reducible refine gate_callee (f := 49) rfl ?_); refine goesL_ (some 18) rfl rfl Try.func49 (by kernel_rfl) rfl #[.agg #[.slice Ao42 t678.length co42, .int .i64 t681, .int .i64 t682, .slice Ao45 t683.length co45]] rfl (by (try simp only [List.map_toArray, List.map_cons, List.map_nil]); first | done | rfl | (simp only [List.length_drop, List.length_take]; rfl)) ?_; (with_reducible refine (impl_Halted.calls k _ _ t678 t681 t682 _ _ t683 t687 _ ?side1 ?side2 ?side3 ?side4 A10.out).mono ?_); (case side1 => refine (Kd.R_reads' (e := 2) (base := w.heap.size) (ok := fun k_ => ((some k_ ≠ (.slice Ao45 t683.length co45 : Value).ownBlock ∧ some k_ ≠ (.slice Ao36 t669.length co36 : Value).ownBlock) ∧ some k_ ≠ (.slice Ao37 t674.length co37 : Value).ownBlock)) (n := t678.length) (c := co42) ?_).2.2; exact (by (with_reducible repeat (first | apply Kd.R_alloc | apply Kd.R_drewN | apply Kd.R_drew)); exact (Kd.R_mono (Kd.R_far (p := ⟨gb686, 3, none⟩) (Kd.R_far (p := ⟨gb686, 2, none⟩) (Kd.R_far (p := ⟨gb686, 1, none⟩) (Kd.R_far (p := ⟨gb686, 0, none⟩) (Kd.R_types HO680.out BK686.out (by decide)) (fun _ hk => hk.2) (.slice Ao42 t678.length co42)) (fun _ hk => hk.2) (.int .i64 t681)) (fun _ hk => hk.2) (.int .i64 t682)) (fun _ hk => hk.2) (.slice Ao45 t683.length co45)) (fun _ h_ => h_.1)))); (case side2 => exact (Kd.R_reads' HO680.out).2.1); (case side3 => refine (Kd.R_reads' (e := 2) (base := w.heap.size) (ok := fun k_ => ((some k_ ≠ (.slice Ao42 t678.length co42 : Value).ownBlock ∧ some k_ ≠ (.slice Ao36 t669.length co36 : Value).ownBlock) ∧ some k_ ≠ (.slice Ao37 t674.length co37 : Value).ownBlock)) (n := t683.length) (c := co45) ?_).2.2; exact (by (with_reducible repeat (first | apply Kd.R_alloc | apply Kd.R_drewN | apply Kd.R_drew)); exact (Kd.R_mono (Kd.R_far (p := ⟨gb686, 3, none⟩) (Kd.R_far (p := ⟨gb686, 2, none⟩) (Kd.R_far (p := ⟨gb686, 1, none⟩) (Kd.R_far (p := ⟨gb686, 0, none⟩) (Kd.R_types HO685.out BK686.out (by decide)) (fun _ hk => hk.2) (.slice Ao42 t678.length co42)) (fun _ hk => hk.2) (.int .i64 t681)) (fun _ hk => hk.2) (.int .i64 t682)) (fun _ hk => hk.2) (.slice Ao45 t683.length co45)) (fun _ h_ => h_.1)))); (case side4 => exact (Kd.R_reads' HO685.out).2.1); rintro e w46 ⟨rfl, hb⟩; refine ⟨_, rfl, ?_⟩; have n0_ := Aside0.mk (Kd.R_below (by (with_reducible repeat (first | apply Kd.R_alloc | apply Kd.R_drewN | apply Kd.R_drew)); exact (Kd.R_mono (Kd.R_far (p := ⟨gb686, 3, none⟩) (Kd.R_far (p := ⟨gb686, 2, none⟩) (Kd.R_far (p := ⟨gb686, 1, none⟩) (Kd.R_far (p := ⟨gb686, 0, none⟩) (Kd.R_types HO671.out BK686.out (by decide)) (fun _ hk => hk.2) (.slice Ao42 t678.length co42)) (fun _ hk => hk.2) (.int .i64 t681)) (fun _ hk => hk.2) (.int .i64 t682)) (fun _ hk => hk.2) (.slice Ao45 t683.length co45)) (fun _ h_ => h_.1))) hb); have n1_ := Aside0.mk (Kd.R_below (by (with_reducible repeat (first | apply Kd.R_alloc | apply Kd.R_drewN | apply Kd.R_drew)); exact (Kd.R_mono (Kd.R_far (p := ⟨gb686, 3, none⟩) (Kd.R_far (p := ⟨gb686, 2, none⟩) (Kd.R_far (p := ⟨gb686, 1, none⟩) (Kd.R_far (p := ⟨gb686, 0, none⟩) (Kd.R_types HO676.out BK686.out (by decide)) (fun _ hk => hk.2) (.slice Ao42 t678.length co42)) (fun _ hk => hk.2) (.int .i64 t681)) (fun _ hk => hk.2) (.int .i64 t682)) (fun _ hk => hk.2) (.slice Ao45 t683.length co45)) (fun _ h_ => h_.1))) hb); have n2_ := Aside0.mk (Kd.R_below (by (with_reducible repeat (first | apply Kd.R_alloc | apply Kd.R_drewN | apply Kd.R_drew)); exact (Kd.R_mono (Kd.R_far (p := ⟨gb686, 3, none⟩) (Kd.R_far (p := ⟨gb686, 2, none⟩) (Kd.R_far (p := ⟨gb686, 1, none⟩) (Kd.R_far (p := ⟨gb686, 0, none⟩) (Kd.R_types HO680.out BK686.out (by decide)) (fun _ hk => hk.2) (.slice Ao42 t678.length co42)) (fun _ hk => hk.2) (.int .i64 t681)) (fun _ hk => hk.2) (.int .i64 t682)) (fun _ hk => hk.2) (.slice Ao45 t683.length co45)) (fun _ h_ => h_.1))) hb); have n3_ := Aside0.mk (Kd.R_below (by (with_reducible repeat (first | apply Kd.R_alloc | apply Kd.R_drewN | apply Kd.R_drew)); exact (Kd.R_mono (Kd.R_far (p := ⟨gb686, 3, none⟩) (Kd.R_far (p := ⟨gb686, 2, none⟩) (Kd.R_far (p := ⟨gb686, 1, none⟩) (Kd.R_far (p := ⟨gb686, 0, none⟩) (Kd.R_types HO685.out BK686.out (by decide)) (fun _ hk => hk.2) (.slice Ao42 t678.length co42)) (fun _ hk => hk.2) (.int .i64 t681)) (fun _ hk => hk.2) (.int .i64 t682)) (fun _ hk => hk.2) (.slice Ao45 t683.length co45)) (fun _ h_ => h_.1))) hb); have n4_ := Aside0.mk (blk_below (g := gb667) (o := .cells #[.slice A0_0 l0_0.length c0_0, .int .i64 a0_1, .int .i64 a0_2, .slice A0_3 l0_3.length c0_3] 79 (0, 0)) (by (with_reducible repeat (first | refine blk_drewN ?_ _ | refine blk_drew ?_ | refine blk_alloc ?_ _)); refine blk_far ?_ NB667_686.out _; (with_reducible repeat (first | refine blk_drewN ?_ _ | refine blk_drew ?_ | refine blk_alloc ?_ _)); refine blk_far ?_ NB667_686.out _; (with_reducible repeat (first | refine blk_drewN ?_ _ | refine blk_drew ?_ | refine blk_alloc ?_ _)); refine blk_far ?_ NB667_686.out _; (with_reducible repeat (first | refine blk_drewN ?_ _ | refine blk_drew ?_ | refine blk_alloc ?_ _)); refine blk_far ?_ NB667_686.out _; (with_reducible repeat (first | refine blk_drewN ?_ _ | refine blk_drew ?_ | refine blk_alloc ?_ _)); exact BK667.out) hb); have n5_ := Aside0.mk (blk_below (g := gb686) (o := .cells #[.slice Ao42 t678.length co42, .int .i64 t681, .int .i64 t682, .slice Ao45 t683.length co45] 71 (0, 0)) (by (with_reducible repeat (first | refine blk_drewN ?_ _ | refine blk_drew ?_ | refine blk_alloc ?_ _)); refine blk_put (cs := #[.slice Ao42 t678.length co42, .int .i64 t681, .int .i64 t682, .slice none 0 0]) ?_ 3 _ rfl; (with_reducible repeat (first | refine blk_drewN ?_ _ | refine blk_drew ?_ | refine blk_alloc ?_ _)); refine blk_put (cs := #[.slice Ao42 t678.length co42, .int .i64 t681, .int .i64 0, .slice none 0 0]) ?_ 2 _ rfl; (with_reducible repeat (first | refine blk_drewN ?_ _ | refine blk_drew ?_ | refine blk_alloc ?_ _)); refine blk_put (cs := #[.slice Ao42 t678.length co42, .int .i64 0, .int .i64 0, .slice none 0 0]) ?_ 1 _ rfl; (with_reducible repeat (first | refine blk_drewN ?_ _ | refine blk_drew ?_ | refine blk_alloc ?_ _)); refine blk_put (cs := #[.slice none 0 0, .int .i64 0, .int .i64 0, .slice none 0 0]) ?_ 0 _ rfl; (with_reducible repeat (first | refine blk_drewN ?_ _ | refine blk_drew ?_ | refine blk_alloc ?_ _)); exact BK686.out) hb); have n6_ := Aside0.mk (below_step (by repeat (first | (with_reducible first | exact HB.out | apply below_alloc | apply pw_below_drewN | apply below_drew1 | refine below_set ?_ GE667.out | refine below_set ?_ GE686.out) | exact HB.out)) hb); clear HO671; clear HO676; clear HO680; clear HO685; clear BK667; clear BK686; clear HB; have HO671 := n0_; have HO676 := n1_; have HO680 := n2_; have HO685 := n3_; have BK667 := n4_; have BK686 := n5_; have HB := n6_; clear n0_ n1_ n2_ n3_ n4_ n5_ n6_; (try clear hb); (try clear hb2); (try clear hk); (try clear hi)))
        have n0_ := Aside0.mk (Kd.R_drew HO671.out)
        have n1_ := Aside0.mk (Kd.R_drew HO676.out)
        have n2_ := Aside0.mk (Kd.R_drew HO680.out)
        have n3_ := Aside0.mk (Kd.R_drew HO685.out)
        have n4_ := Aside0.mk (blk_drew BK667.out)
        have n5_ := Aside0.mk (blk_drew BK686.out)
        have n6_ := Aside0.mk (below_drew1 HB.out)
        clear HO671
        clear HO676
        clear HO680
        clear HO685
        clear BK667
        clear BK686
        clear HB
        have HO671 := n0_
        have HO676 := n1_
        have HO680 := n2_
        have HO685 := n3_
        have BK667 := n4_
        have BK686 := n5_
        have HB := n6_
        clear n0_ n1_ n2_ n3_ n4_ n5_ n6_
        refine start_ (n := 5) (S := fun w' => w'.cell? ⟨gb686, 0, none⟩ = some (.slice Ao42 t678.length co42) ∧ w'.cell? ⟨gb686, 1, none⟩ = some (.int .i64 t681) ∧ w'.cell? ⟨gb686, 2, none⟩ = some (.int .i64 t682) ∧ w'.cell? ⟨gb686, 3, none⟩ = some (.slice Ao45 t683.length co45) ∧ w'.cell? ⟨gb667, 0, none⟩ = some (.slice A0_0 l0_0.length c0_0) ∧ w'.cell? ⟨gb667, 1, none⟩ = some (.int .i64 a0_1) ∧ w'.cell? ⟨gb667, 2, none⟩ = some (.int .i64 a0_2) ∧ w'.cell? ⟨gb667, 3, none⟩ = some (.slice A0_3 l0_3.length c0_3)) (ds := []) #[false, false, false, false, false] (by kernel_rfl) rfl rfl ⟨(blk_cell BK686.out 0).trans rfl, (blk_cell BK686.out 1).trans rfl, (blk_cell BK686.out 2).trans rfl, (blk_cell BK686.out 3).trans rfl, (blk_cell BK667.out 0).trans rfl, (blk_cell BK667.out 1).trans rfl, (blk_cell BK667.out 2).trans rfl, (blk_cell BK667.out 3).trans rfl⟩ (fun hHeld => ?_)
        generalize w46.drew = w47 at HO671 HO676 HO680 HO685 BK667 BK686 HB hHeld ⊢
        refine take_ (i := 0) (N := some 22) (v := ?_) (a' := ?_) #[true, false, false, false, false] rfl rfl (by kernel_rfl) (fun _ _ _ h => h) (Or.inl ⟨by rfl, ?_⟩) hHeld ?_ ?_
        rotate_left
        · rintro w' ⟨s0, s1, s2, s3, s4, s5, s6, s7⟩
          go_simp
          with_reducible rfl
        rotate_left
        · simp only [Act.put, List.setIfInBounds_toArray, List.set_cons_zero, List.set_cons_succ, i64_w, i32_w]
          rfl
        refine take_ (i := 1) (N := some 23) (v := ?_) (a' := ?_) #[true, true, false, false, false] rfl rfl (by kernel_rfl) (fun _ _ _ h => h) (Or.inl ⟨by rfl, ?_⟩) hHeld ?_ ?_
        rotate_left
        · rintro w' ⟨s0, s1, s2, s3, s4, s5, s6, s7⟩
          go_simp
          with_reducible rfl
        rotate_left
        · simp only [Act.put, List.setIfInBounds_toArray, List.set_cons_zero, List.set_cons_succ, i64_w, i32_w]
          rfl
        refine one_ (i := 2) (N := some 24) #[true, true, true, false, false] rfl rfl (by kernel_rfl) (by decide) (fun K hK => ?_)
        refine goes_ Try.func52 (by kernel_rfl) rfl #[.agg #[.slice A0_0 l0_0.length c0_0, .int .i64 a0_1, .int .i64 a0_2, .slice A0_3 l0_3.length c0_3]] (by rfl) rfl rfl (by (try simp only [List.map_toArray, List.map_cons, List.map_nil]); first | done | rfl | (simp only [List.length_drop, List.length_take]; rfl)) ?_
        with_reducible refine (laws_toFleet.calls k _ _ l0_0 a0_1 a0_2 _ _ l0_3 t688 t691 t692 t693 _ ?side1 ?side2 ?side3 ?side4 A28.out).mono ?_
        (case side1 => repeat (first | exact (Kd.C_below HR0_0.out HB.out) | (with_reducible refine Kd.C_alloc ?_ _) | (with_reducible refine Kd.C_drewN ?_ _) | (with_reducible refine Kd.C_drew ?_)))
        (case side2 => exact HC0_0.out)
        (case side3 => repeat (first | exact (Kd.C_below HR0_3.out HB.out) | (with_reducible refine Kd.C_alloc ?_ _) | (with_reducible refine Kd.C_drewN ?_ _) | (with_reducible refine Kd.C_drew ?_)))
        (case side4 => exact HC0_3.out)
        rintro e w48 ⟨v689, v694, rfl, ho0, ho1, hb⟩
        refine ⟨_, rfl, ?_⟩
        have n0_ := Aside0.mk (Kd.R_mono (Kd.R_told (Kd.R_told (Kd.R_old (by (with_reducible repeat (first | apply Kd.R_alloc | apply Kd.R_drewN | apply Kd.R_drew)); exact HO671.out) hb) (Kd.R_base ho0)) (Kd.R_base ho1)) (fun _ h_ => h_.1))
        have n1_ := Aside0.mk (Kd.R_mono (Kd.R_told (Kd.R_told (Kd.R_old (by (with_reducible repeat (first | apply Kd.R_alloc | apply Kd.R_drewN | apply Kd.R_drew)); exact HO676.out) hb) (Kd.R_base ho0)) (Kd.R_base ho1)) (fun _ h_ => h_.1))
        have n2_ := Aside0.mk (Kd.R_mono (Kd.R_told (Kd.R_told (Kd.R_old (by (with_reducible repeat (first | apply Kd.R_alloc | apply Kd.R_drewN | apply Kd.R_drew)); exact HO680.out) hb) (Kd.R_base ho0)) (Kd.R_base ho1)) (fun _ h_ => h_.1))
        have n3_ := Aside0.mk (Kd.R_mono (Kd.R_told (Kd.R_told (Kd.R_old (by (with_reducible repeat (first | apply Kd.R_alloc | apply Kd.R_drewN | apply Kd.R_drew)); exact HO685.out) hb) (Kd.R_base ho0)) (Kd.R_base ho1)) (fun _ h_ => h_.1))
        have n4_ := Aside0.mk (Kd.R_lower (Kd.R_new' (Kd.R_new' (Kd.R_new' (Kd.R_new' ho0 (Kd.R_lt (by (with_reducible repeat (first | apply Kd.R_alloc | apply Kd.R_drewN | apply Kd.R_drew)); exact HO671.out))) (Kd.R_lt (by (with_reducible repeat (first | apply Kd.R_alloc | apply Kd.R_drewN | apply Kd.R_drew)); exact HO676.out))) (Kd.R_lt (by (with_reducible repeat (first | apply Kd.R_alloc | apply Kd.R_drewN | apply Kd.R_drew)); exact HO680.out))) (Kd.R_lt (by (with_reducible repeat (first | apply Kd.R_alloc | apply Kd.R_drewN | apply Kd.R_drew)); exact HO685.out))) (below_size (by repeat (first | (with_reducible first | exact HB.out | apply below_alloc | apply pw_below_drewN | apply below_drew1 | refine below_set ?_ GE667.out | refine below_set ?_ GE686.out) | exact HB.out))))
        have n5_ := Aside0.mk (Kd.R_lower (Kd.R_new' (Kd.R_new' (Kd.R_new' (Kd.R_new' ho1 (Kd.R_lt (by (with_reducible repeat (first | apply Kd.R_alloc | apply Kd.R_drewN | apply Kd.R_drew)); exact HO671.out))) (Kd.R_lt (by (with_reducible repeat (first | apply Kd.R_alloc | apply Kd.R_drewN | apply Kd.R_drew)); exact HO676.out))) (Kd.R_lt (by (with_reducible repeat (first | apply Kd.R_alloc | apply Kd.R_drewN | apply Kd.R_drew)); exact HO680.out))) (Kd.R_lt (by (with_reducible repeat (first | apply Kd.R_alloc | apply Kd.R_drewN | apply Kd.R_drew)); exact HO685.out))) (below_size (by repeat (first | (with_reducible first | exact HB.out | apply below_alloc | apply pw_below_drewN | apply below_drew1 | refine below_set ?_ GE667.out | refine below_set ?_ GE686.out) | exact HB.out))))
        have n6_ := Aside0.mk (blk_below (g := gb667) (o := .cells #[.slice A0_0 l0_0.length c0_0, .int .i64 a0_1, .int .i64 a0_2, .slice A0_3 l0_3.length c0_3] 79 (0, 0)) (by (with_reducible repeat (first | refine blk_drewN ?_ _ | refine blk_drew ?_ | refine blk_alloc ?_ _)); exact BK667.out) hb)
        have n7_ := Aside0.mk (blk_below (g := gb686) (o := .cells #[.slice Ao42 t678.length co42, .int .i64 t681, .int .i64 t682, .slice Ao45 t683.length co45] 71 (0, 0)) (by (with_reducible repeat (first | refine blk_drewN ?_ _ | refine blk_drew ?_ | refine blk_alloc ?_ _)); exact BK686.out) hb)
        have n8_ := Aside0.mk (below_step (by repeat (first | (with_reducible first | exact HB.out | apply below_alloc | apply pw_below_drewN | apply below_drew1 | refine below_set ?_ GE667.out | refine below_set ?_ GE686.out) | exact HB.out)) hb)
        clear HO671
        clear HO676
        clear HO680
        clear HO685
        clear BK667
        clear BK686
        clear HB
        have HO671 := n0_
        have HO676 := n1_
        have HO680 := n2_
        have HO685 := n3_
        have HO690 := n4_
        have HO695 := n5_
        have BK667 := n6_
        have BK686 := n7_
        have HB := n8_
        clear n0_ n1_ n2_ n3_ n4_ n5_ n6_ n7_ n8_
        (try clear hb)
        (try clear hb2)
        (try clear hk)
        (try clear hi)
        (try clear ho0)
        (try clear ho1)
        obtain ⟨Ao49, co49, eo49⟩ := Kd.R_slice HO690.out
        (first | subst eo49 | (injection eo49 with f1_ f2_ f3_; have f4_ := f1_.symm; have f5_ := f3_.symm; clear f1_ f2_ f3_; subst f4_; subst f5_))
        obtain ⟨Ao50, co50, eo50⟩ := Kd.R_slice HO695.out
        (first | subst eo50 | (injection eo50 with f1_ f2_ f3_; have f4_ := f1_.symm; have f5_ := f3_.symm; clear f1_ f2_ f3_; subst f4_; subst f5_))
        refine hK.out _ _ ⟨(blk_cell BK686.out 0).trans rfl, (blk_cell BK686.out 1).trans rfl, (blk_cell BK686.out 2).trans rfl, (blk_cell BK686.out 3).trans rfl, (blk_cell BK667.out 0).trans rfl, (blk_cell BK667.out 1).trans rfl, (blk_cell BK667.out 2).trans rfl, (blk_cell BK667.out 3).trans rfl⟩ (fun hHeld => ?_)
        clear hK K
        refine norm_ (a' := ?_) ?_ ?_
        rotate_left
        · show Act.put _ (some 24) _ = _
          simp only [Act.put, List.setIfInBounds_toArray, List.set_cons_zero, List.set_cons_succ, i64_w, i32_w]
          rfl
        refine one_ (i := 3) (N := some 25) #[true, true, true, true, false] rfl rfl (by kernel_rfl) (by decide) (fun K hK => ?_)
        refine goes_ Try.func54 (by kernel_rfl) rfl #[.agg #[.slice Ao42 t678.length co42, .int .i64 t681, .int .i64 t682, .slice Ao45 t683.length co45], .agg #[.slice Ao49 t688.length co49, .int .i64 t691, .int .i64 t692, .slice Ao50 t693.length co50]] (by rfl) rfl rfl (by (try simp only [List.map_toArray, List.map_cons, List.map_nil]); first | done | rfl | (simp only [List.length_drop, List.length_take]; rfl)) ?_
        with_reducible refine (laws_eqFleet.calls k _ _ t678 t681 t682 _ _ t683 _ _ t688 t691 t692 _ _ t693 true _ ?side1 ?side2 ?side3 ?side4 ?side5 ?side6 ?side7 ?side8 A29.out).mono ?_
        (case side1 => repeat (first | exact (Kd.R_reads' HO680.out).2.2 | (with_reducible refine Kd.C_alloc ?_ _) | (with_reducible refine Kd.C_drewN ?_ _) | (with_reducible refine Kd.C_drew ?_)))
        (case side2 => exact (Kd.R_reads' HO680.out).2.1)
        (case side3 => repeat (first | exact (Kd.R_reads' HO685.out).2.2 | (with_reducible refine Kd.C_alloc ?_ _) | (with_reducible refine Kd.C_drewN ?_ _) | (with_reducible refine Kd.C_drew ?_)))
        (case side4 => exact (Kd.R_reads' HO685.out).2.1)
        (case side5 => repeat (first | exact (Kd.R_reads' HO690.out).2.2 | (with_reducible refine Kd.C_alloc ?_ _) | (with_reducible refine Kd.C_drewN ?_ _) | (with_reducible refine Kd.C_drew ?_)))
        (case side6 => exact (Kd.R_reads' HO690.out).2.1)
        (case side7 => repeat (first | exact (Kd.R_reads' HO695.out).2.2 | (with_reducible refine Kd.C_alloc ?_ _) | (with_reducible refine Kd.C_drewN ?_ _) | (with_reducible refine Kd.C_drew ?_)))
        (case side8 => exact (Kd.R_reads' HO695.out).2.1)
        rintro e w51 ⟨rfl, hb⟩
        refine ⟨_, rfl, ?_⟩
        have n0_ := Aside0.mk (Kd.R_below (by (with_reducible repeat (first | apply Kd.R_alloc | apply Kd.R_drewN | apply Kd.R_drew)); exact HO671.out) hb)
        have n1_ := Aside0.mk (Kd.R_below (by (with_reducible repeat (first | apply Kd.R_alloc | apply Kd.R_drewN | apply Kd.R_drew)); exact HO676.out) hb)
        have n2_ := Aside0.mk (Kd.R_below (by (with_reducible repeat (first | apply Kd.R_alloc | apply Kd.R_drewN | apply Kd.R_drew)); exact HO680.out) hb)
        have n3_ := Aside0.mk (Kd.R_below (by (with_reducible repeat (first | apply Kd.R_alloc | apply Kd.R_drewN | apply Kd.R_drew)); exact HO685.out) hb)
        have n4_ := Aside0.mk (Kd.R_below (by (with_reducible repeat (first | apply Kd.R_alloc | apply Kd.R_drewN | apply Kd.R_drew)); exact HO690.out) hb)
        have n5_ := Aside0.mk (Kd.R_below (by (with_reducible repeat (first | apply Kd.R_alloc | apply Kd.R_drewN | apply Kd.R_drew)); exact HO695.out) hb)
        have n6_ := Aside0.mk (blk_below (g := gb667) (o := .cells #[.slice A0_0 l0_0.length c0_0, .int .i64 a0_1, .int .i64 a0_2, .slice A0_3 l0_3.length c0_3] 79 (0, 0)) (by (with_reducible repeat (first | refine blk_drewN ?_ _ | refine blk_drew ?_ | refine blk_alloc ?_ _)); exact BK667.out) hb)
        have n7_ := Aside0.mk (blk_below (g := gb686) (o := .cells #[.slice Ao42 t678.length co42, .int .i64 t681, .int .i64 t682, .slice Ao45 t683.length co45] 71 (0, 0)) (by (with_reducible repeat (first | refine blk_drewN ?_ _ | refine blk_drew ?_ | refine blk_alloc ?_ _)); exact BK686.out) hb)
        have n8_ := Aside0.mk (below_step (by repeat (first | (with_reducible first | exact HB.out | apply below_alloc | apply pw_below_drewN | apply below_drew1 | refine below_set ?_ GE667.out | refine below_set ?_ GE686.out) | exact HB.out)) hb)
        clear HO671
        clear HO676
        clear HO680
        clear HO685
        clear HO690
        clear HO695
        clear BK667
        clear BK686
        clear HB
        have HO671 := n0_
        have HO676 := n1_
        have HO680 := n2_
        have HO685 := n3_
        have HO690 := n4_
        have HO695 := n5_
        have BK667 := n6_
        have BK686 := n7_
        have HB := n8_
        clear n0_ n1_ n2_ n3_ n4_ n5_ n6_ n7_ n8_
        (try clear hb)
        (try clear hb2)
        (try clear hk)
        (try clear hi)
        refine hK.out _ _ ⟨(blk_cell BK686.out 0).trans rfl, (blk_cell BK686.out 1).trans rfl, (blk_cell BK686.out 2).trans rfl, (blk_cell BK686.out 3).trans rfl, (blk_cell BK667.out 0).trans rfl, (blk_cell BK667.out 1).trans rfl, (blk_cell BK667.out 2).trans rfl, (blk_cell BK667.out 3).trans rfl⟩ (fun hHeld => ?_)
        clear hK K
        refine norm_ (a' := ?_) ?_ ?_
        rotate_left
        · show Act.put _ (some 25) _ = _
          simp only [Act.put, List.setIfInBounds_toArray, List.set_cons_zero, List.set_cons_succ, i64_w, i32_w]
          rfl
        refine pure_ (i := 4) (N := some 26) (v := ?_) (a' := ?_) #[true, true, true, true, true] rfl rfl (by kernel_rfl) (fun _ _ _ h => h) (Or.inl ⟨by rfl, ?_⟩) ?_ ?_
        rotate_left
        · intro w'
          go_simp
          with_reducible rfl
        rotate_left
        · simp only [Act.put, List.setIfInBounds_toArray, List.set_cons_zero, List.set_cons_succ, i64_w, i32_w]
          rfl
        refine done_ (by kernel_rfl) ?_
        try go_wp2
        go_ret
        exact ⟨by first | rfl | (simp only [i64_w, i32_w]; done) | (simp only [i64_w, i32_w]; rfl) | (simp [errW_none, errW_some] <;> rfl) | (simp [*, errW_none, errW_some] <;> rfl), by repeat (first | (with_reducible first | exact HB.out | apply below_alloc | apply pw_below_drewN | apply below_drew1 | refine below_set ?_ GE667.out | refine below_set ?_ GE686.out) | exact HB.out)⟩
      · replace c30 := Bool.eq_false_iff.mpr c30
        subst c30
        have H1 : (some false) = some r := by rw [if_neg (show ¬ (false = true) by decide)] at H; exact H
        clear H
        have H := H1
        clear H1
        obtain rfl := Option.some.inj H
        go_enter Try.func14, Try.ntmps14
        try go_wp2_with (first | ((with_reducible refine gate_dst (N := 1) rfl ?_); refine box_event ?hg (N := 1) ?hd (cs := #[.slice A0_0 l0_0.length c0_0, .int .i64 a0_1, .int .i64 a0_2, .slice A0_3 l0_3.length c0_3]) (t := 79) ?hr ?_; (case hd => rfl); (case hg => rfl); (case hr => first | (go_simp; done) | (go_simp; rfl)); intro gb667 hg w52 hbox hb; have n0_ := Aside0.mk (below_step (by repeat (first | (with_reducible first | exact HB.out | apply below_alloc | apply pw_below_drewN | apply below_drew1) | exact HB.out)) hb); have n1_ := Aside0.mk (hbox); have n2_ := Aside0.mk ((by rw [hg]; exact (below_size (by repeat (first | (with_reducible first | exact HB.out | apply below_alloc | apply pw_below_drewN | apply below_drew1) | exact HB.out))) : w.heap.size ≤ gb667)); have n3_ := Aside0.mk ((by rw [hg]; exact (below_size (by repeat (first | (with_reducible first | exact HB.out | apply below_alloc | apply pw_below_drewN | apply below_drew1) | exact HB.out))) : w.heap.size ≤ gb667)); clear HB; have HB := n0_; have BK667 := n1_; have GW667 := n2_; have GE667 := n3_; clear n0_ n1_ n2_ n3_; clear hb hbox hg; have hcz53_0 : w52.cell? ⟨gb667, 0, none⟩ = some (.slice A0_0 l0_0.length c0_0) := (blk_cell BK667.out 0).trans rfl; have hcz53_1 : w52.cell? ⟨gb667, 1, none⟩ = some (.int .i64 a0_1) := (blk_cell BK667.out 1).trans rfl; have hcz53_2 : w52.cell? ⟨gb667, 2, none⟩ = some (.int .i64 a0_2) := (blk_cell BK667.out 2).trans rfl; have hcz53_3 : w52.cell? ⟨gb667, 3, none⟩ = some (.slice A0_3 l0_3.length c0_3) := (blk_cell BK667.out 3).trans rfl; have hfz53_0 := blk_frozen BK667.out 0; have hfz53_1 := blk_frozen BK667.out 1; have hfz53_2 := blk_frozen BK667.out 2; have hfz53_3 := blk_frozen BK667.out 3) | ((with_reducible refine gate_callee (f := 50) rfl ?_); refine goesL_ (some 9) rfl rfl Try.func50 (by kernel_rfl) rfl #[.agg #[.slice A0_0 l0_0.length c0_0, .int .i64 a0_1, .int .i64 a0_2, .slice A0_3 l0_3.length c0_3], .int .i64 1048576] rfl (by (try simp only [List.map_toArray, List.map_cons, List.map_nil]); first | done | rfl | (simp only [List.length_drop, List.length_take]; rfl)) ?_; (with_reducible refine (laws_szFleet.calls _ _ l0_0 a0_1 a0_2 _ _ l0_3 1048576 t668 _ ?side1 ?side2 ?side3 ?side4 A2.out).mono ?_); (case side1 => repeat (first | exact (Kd.C_below HR0_0.out HB.out) | (with_reducible refine Kd.C_alloc ?_ _) | (with_reducible refine Kd.C_drewN ?_ _) | (with_reducible refine Kd.C_drew ?_))); (case side2 => exact HC0_0.out); (case side3 => repeat (first | exact (Kd.C_below HR0_3.out HB.out) | (with_reducible refine Kd.C_alloc ?_ _) | (with_reducible refine Kd.C_drewN ?_ _) | (with_reducible refine Kd.C_drew ?_))); (case side4 => exact HC0_3.out); rintro e w54 ⟨rfl, hb⟩; refine ⟨_, rfl, ?_⟩; have n0_ := Aside0.mk (blk_below (g := gb667) (o := .cells #[.slice A0_0 l0_0.length c0_0, .int .i64 a0_1, .int .i64 a0_2, .slice A0_3 l0_3.length c0_3] 79 (0, 0)) (by (with_reducible repeat (first | refine blk_drewN ?_ _ | refine blk_drew ?_ | refine blk_alloc ?_ _)); exact BK667.out) hb); have n1_ := Aside0.mk (below_step (by repeat (first | (with_reducible first | exact HB.out | apply below_alloc | apply pw_below_drewN | apply below_drew1 | refine below_set ?_ GE667.out) | exact HB.out)) hb); clear BK667; clear HB; have BK667 := n0_; have HB := n1_; clear n0_ n1_; (try clear hb); (try clear hb2); (try clear hk); (try clear hi); have hcz55_0 : w54.cell? ⟨gb667, 0, none⟩ = some (.slice A0_0 l0_0.length c0_0) := (blk_cell BK667.out 0).trans rfl; have hcz55_1 : w54.cell? ⟨gb667, 1, none⟩ = some (.int .i64 a0_1) := (blk_cell BK667.out 1).trans rfl; have hcz55_2 : w54.cell? ⟨gb667, 2, none⟩ = some (.int .i64 a0_2) := (blk_cell BK667.out 2).trans rfl; have hcz55_3 : w54.cell? ⟨gb667, 3, none⟩ = some (.slice A0_3 l0_3.length c0_3) := (blk_cell BK667.out 3).trans rfl; have hfz55_0 := blk_frozen BK667.out 0; have hfz55_1 := blk_frozen BK667.out 1; have hfz55_2 := blk_frozen BK667.out 2; have hfz55_3 := blk_frozen BK667.out 3) | ((with_reducible refine gate_callee (f := 52) rfl ?_); refine goesL_ (some 13) rfl rfl Try.func52 (by kernel_rfl) rfl #[.agg #[.slice A0_0 l0_0.length c0_0, .int .i64 a0_1, .int .i64 a0_2, .slice A0_3 l0_3.length c0_3]] rfl (by (try simp only [List.map_toArray, List.map_cons, List.map_nil]); first | done | rfl | (simp only [List.length_drop, List.length_take]; rfl)) ?_; (with_reducible refine (laws_toFleet.calls k _ _ l0_0 a0_1 a0_2 _ _ l0_3 t669 t672 t673 t674 _ ?side1 ?side2 ?side3 ?side4 A7.out).mono ?_); (case side1 => repeat (first | exact (Kd.C_below HR0_0.out HB.out) | (with_reducible refine Kd.C_alloc ?_ _) | (with_reducible refine Kd.C_drewN ?_ _) | (with_reducible refine Kd.C_drew ?_))); (case side2 => exact HC0_0.out); (case side3 => repeat (first | exact (Kd.C_below HR0_3.out HB.out) | (with_reducible refine Kd.C_alloc ?_ _) | (with_reducible refine Kd.C_drewN ?_ _) | (with_reducible refine Kd.C_drew ?_))); (case side4 => exact HC0_3.out); rintro e w56 ⟨v670, v675, rfl, ho0, ho1, hb⟩; refine ⟨_, rfl, ?_⟩; have n0_ := Aside0.mk (Kd.R_lower ho0 (below_size (by repeat (first | (with_reducible first | exact HB.out | apply below_alloc | apply pw_below_drewN | apply below_drew1 | refine below_set ?_ GE667.out) | exact HB.out)))); have n1_ := Aside0.mk (Kd.R_lower ho1 (below_size (by repeat (first | (with_reducible first | exact HB.out | apply below_alloc | apply pw_below_drewN | apply below_drew1 | refine below_set ?_ GE667.out) | exact HB.out)))); have n2_ := Aside0.mk (blk_below (g := gb667) (o := .cells #[.slice A0_0 l0_0.length c0_0, .int .i64 a0_1, .int .i64 a0_2, .slice A0_3 l0_3.length c0_3] 79 (0, 0)) (by (with_reducible repeat (first | refine blk_drewN ?_ _ | refine blk_drew ?_ | refine blk_alloc ?_ _)); exact BK667.out) hb); have n3_ := Aside0.mk (below_step (by repeat (first | (with_reducible first | exact HB.out | apply below_alloc | apply pw_below_drewN | apply below_drew1 | refine below_set ?_ GE667.out) | exact HB.out)) hb); clear BK667; clear HB; have HO671 := n0_; have HO676 := n1_; have BK667 := n2_; have HB := n3_; clear n0_ n1_ n2_ n3_; (try clear hb); (try clear hb2); (try clear hk); (try clear hi); (try clear ho0); (try clear ho1); obtain ⟨Ao57, co57, eo57⟩ := Kd.R_slice HO671.out; subst eo57; obtain ⟨Ao58, co58, eo58⟩ := Kd.R_slice HO676.out; subst eo58) | ((with_reducible refine gate_callee (f := 55) rfl ?_); refine goesL_ (some 14) rfl rfl Try.func55 (by kernel_rfl) rfl #[.agg #[.slice Ao57 t669.length co57, .int .i64 t672, .int .i64 t673, .slice Ao58 t674.length co58]] rfl (by (try simp only [List.map_toArray, List.map_cons, List.map_nil]); first | done | rfl | (simp only [List.length_drop, List.length_take]; rfl)) ?_; (with_reducible refine (spec_Halted.calls k _ _ t669 t672 t673 _ _ t674 t677 _ ?side1 ?side2 ?side3 ?side4 A8.out).mono ?_); (case side1 => repeat (first | exact (Kd.R_reads' HO671.out).2.2 | (with_reducible refine Kd.C_alloc ?_ _) | (with_reducible refine Kd.C_drewN ?_ _) | (with_reducible refine Kd.C_drew ?_))); (case side2 => exact (Kd.R_reads' HO671.out).2.1); (case side3 => repeat (first | exact (Kd.R_reads' HO676.out).2.2 | (with_reducible refine Kd.C_alloc ?_ _) | (with_reducible refine Kd.C_drewN ?_ _) | (with_reducible refine Kd.C_drew ?_))); (case side4 => exact (Kd.R_reads' HO676.out).2.1); rintro e w59 ⟨rfl, hb⟩; refine ⟨_, rfl, ?_⟩; have n0_ := Aside0.mk (Kd.R_below (by (with_reducible repeat (first | apply Kd.R_alloc | apply Kd.R_drewN | apply Kd.R_drew)); exact HO671.out) hb); have n1_ := Aside0.mk (Kd.R_below (by (with_reducible repeat (first | apply Kd.R_alloc | apply Kd.R_drewN | apply Kd.R_drew)); exact HO676.out) hb); have n2_ := Aside0.mk (blk_below (g := gb667) (o := .cells #[.slice A0_0 l0_0.length c0_0, .int .i64 a0_1, .int .i64 a0_2, .slice A0_3 l0_3.length c0_3] 79 (0, 0)) (by (with_reducible repeat (first | refine blk_drewN ?_ _ | refine blk_drew ?_ | refine blk_alloc ?_ _)); exact BK667.out) hb); have n3_ := Aside0.mk (below_step (by repeat (first | (with_reducible first | exact HB.out | apply below_alloc | apply pw_below_drewN | apply below_drew1 | refine below_set ?_ GE667.out) | exact HB.out)) hb); clear HO671; clear HO676; clear BK667; clear HB; have HO671 := n0_; have HO676 := n1_; have BK667 := n2_; have HB := n3_; clear n0_ n1_ n2_ n3_; (try clear hb); (try clear hb2); (try clear hk); (try clear hi); have hcz60_0 : w59.cell? ⟨gb667, 0, none⟩ = some (.slice A0_0 l0_0.length c0_0) := (blk_cell BK667.out 0).trans rfl; have hcz60_1 : w59.cell? ⟨gb667, 1, none⟩ = some (.int .i64 a0_1) := (blk_cell BK667.out 1).trans rfl; have hcz60_2 : w59.cell? ⟨gb667, 2, none⟩ = some (.int .i64 a0_2) := (blk_cell BK667.out 2).trans rfl; have hcz60_3 : w59.cell? ⟨gb667, 3, none⟩ = some (.slice A0_3 l0_3.length c0_3) := (blk_cell BK667.out 3).trans rfl; have hfz60_0 := blk_frozen BK667.out 0; have hfz60_1 := blk_frozen BK667.out 1; have hfz60_2 := blk_frozen BK667.out 2; have hfz60_3 := blk_frozen BK667.out 3) | ((with_reducible refine gate_callee (f := 52) rfl ?_); refine goesL_ (some 16) rfl rfl Try.func52 (by kernel_rfl) rfl #[.agg #[.slice A0_0 l0_0.length c0_0, .int .i64 a0_1, .int .i64 a0_2, .slice A0_3 l0_3.length c0_3]] rfl (by (try simp only [List.map_toArray, List.map_cons, List.map_nil]); first | done | rfl | (simp only [List.length_drop, List.length_take]; rfl)) ?_; (with_reducible refine (laws_toFleet.calls k _ _ l0_0 a0_1 a0_2 _ _ l0_3 t678 t681 t682 t683 _ ?side1 ?side2 ?side3 ?side4 A9.out).mono ?_); (case side1 => repeat (first | exact (Kd.C_below HR0_0.out HB.out) | (with_reducible refine Kd.C_alloc ?_ _) | (with_reducible refine Kd.C_drewN ?_ _) | (with_reducible refine Kd.C_drew ?_))); (case side2 => exact HC0_0.out); (case side3 => repeat (first | exact (Kd.C_below HR0_3.out HB.out) | (with_reducible refine Kd.C_alloc ?_ _) | (with_reducible refine Kd.C_drewN ?_ _) | (with_reducible refine Kd.C_drew ?_))); (case side4 => exact HC0_3.out); rintro e w61 ⟨v679, v684, rfl, ho0, ho1, hb⟩; refine ⟨_, rfl, ?_⟩; have n0_ := Aside0.mk (Kd.R_mono (Kd.R_told (Kd.R_told (Kd.R_old (by (with_reducible repeat (first | apply Kd.R_alloc | apply Kd.R_drewN | apply Kd.R_drew)); exact HO671.out) hb) (Kd.R_base ho0)) (Kd.R_base ho1)) (fun _ h_ => h_.1)); have n1_ := Aside0.mk (Kd.R_mono (Kd.R_told (Kd.R_told (Kd.R_old (by (with_reducible repeat (first | apply Kd.R_alloc | apply Kd.R_drewN | apply Kd.R_drew)); exact HO676.out) hb) (Kd.R_base ho0)) (Kd.R_base ho1)) (fun _ h_ => h_.1)); have n2_ := Aside0.mk (Kd.R_lower (Kd.R_new' (Kd.R_new' ho0 (Kd.R_lt (by (with_reducible repeat (first | apply Kd.R_alloc | apply Kd.R_drewN | apply Kd.R_drew)); exact HO671.out))) (Kd.R_lt (by (with_reducible repeat (first | apply Kd.R_alloc | apply Kd.R_drewN | apply Kd.R_drew)); exact HO676.out))) (below_size (by repeat (first | (with_reducible first | exact HB.out | apply below_alloc | apply pw_below_drewN | apply below_drew1 | refine below_set ?_ GE667.out) | exact HB.out)))); have n3_ := Aside0.mk (Kd.R_lower (Kd.R_new' (Kd.R_new' ho1 (Kd.R_lt (by (with_reducible repeat (first | apply Kd.R_alloc | apply Kd.R_drewN | apply Kd.R_drew)); exact HO671.out))) (Kd.R_lt (by (with_reducible repeat (first | apply Kd.R_alloc | apply Kd.R_drewN | apply Kd.R_drew)); exact HO676.out))) (below_size (by repeat (first | (with_reducible first | exact HB.out | apply below_alloc | apply pw_below_drewN | apply below_drew1 | refine below_set ?_ GE667.out) | exact HB.out)))); have n4_ := Aside0.mk (blk_below (g := gb667) (o := .cells #[.slice A0_0 l0_0.length c0_0, .int .i64 a0_1, .int .i64 a0_2, .slice A0_3 l0_3.length c0_3] 79 (0, 0)) (by (with_reducible repeat (first | refine blk_drewN ?_ _ | refine blk_drew ?_ | refine blk_alloc ?_ _)); exact BK667.out) hb); have n5_ := Aside0.mk (below_step (by repeat (first | (with_reducible first | exact HB.out | apply below_alloc | apply pw_below_drewN | apply below_drew1 | refine below_set ?_ GE667.out) | exact HB.out)) hb); clear HO671; clear HO676; clear BK667; clear HB; have HO671 := n0_; have HO676 := n1_; have HO680 := n2_; have HO685 := n3_; have BK667 := n4_; have HB := n5_; clear n0_ n1_ n2_ n3_ n4_ n5_; (try clear hb); (try clear hb2); (try clear hk); (try clear hi); (try clear ho0); (try clear ho1)) | ((with_reducible refine gate_dst (N := 5) rfl ?_); refine box_event ?hg (N := 5) ?hd (cs := #[.slice none 0 0, .int .i64 0, .int .i64 0, .slice none 0 0]) (t := 71) ?hr ?_; (case hd => rfl); (case hg => rfl); (case hr => first | (go_simp; done) | (go_simp; rfl)); intro gb686 hg w62 hbox hb; have n0_ := Aside0.mk (Kd.R_below (by (with_reducible repeat (first | apply Kd.R_alloc | apply Kd.R_drewN | apply Kd.R_drew)); exact HO671.out) hb); have n1_ := Aside0.mk (Kd.R_below (by (with_reducible repeat (first | apply Kd.R_alloc | apply Kd.R_drewN | apply Kd.R_drew)); exact HO676.out) hb); have n2_ := Aside0.mk (Kd.R_below (by (with_reducible repeat (first | apply Kd.R_alloc | apply Kd.R_drewN | apply Kd.R_drew)); exact HO680.out) hb); have n3_ := Aside0.mk (Kd.R_below (by (with_reducible repeat (first | apply Kd.R_alloc | apply Kd.R_drewN | apply Kd.R_drew)); exact HO685.out) hb); have n4_ := Aside0.mk (blk_below (g := gb667) (o := .cells #[.slice A0_0 l0_0.length c0_0, .int .i64 a0_1, .int .i64 a0_2, .slice A0_3 l0_3.length c0_3] 79 (0, 0)) (by (with_reducible repeat (first | refine blk_drewN ?_ _ | refine blk_drew ?_ | refine blk_alloc ?_ _)); exact BK667.out) hb); have n5_ := Aside0.mk (below_step (by repeat (first | (with_reducible first | exact HB.out | apply below_alloc | apply pw_below_drewN | apply below_drew1 | refine below_set ?_ GE667.out) | exact HB.out)) hb); have n6_ := Aside0.mk (hbox); have n7_ := Aside0.mk ((by rw [hg]; exact (below_size (by repeat (first | (with_reducible first | exact HB.out | apply below_alloc | apply pw_below_drewN | apply below_drew1 | refine below_set ?_ GE667.out) | exact HB.out))) : w.heap.size ≤ gb686)); have n8_ := Aside0.mk ((by rw [hg]; exact (below_size (by repeat (first | (with_reducible first | exact HB.out | apply below_alloc | apply pw_below_drewN | apply below_drew1 | refine below_set ?_ GE667.out) | exact HB.out))) : w.heap.size ≤ gb686)); have n9_ := Aside0.mk ((by rw [hg]; exact Nat.ne_of_lt (blk_lt (g := gb667) (o := .cells #[.slice A0_0 l0_0.length c0_0, .int .i64 a0_1, .int .i64 a0_2, .slice A0_3 l0_3.length c0_3] 79 (0, 0)) (by (with_reducible repeat (first | refine blk_drewN ?_ _ | refine blk_drew ?_ | refine blk_alloc ?_ _)); exact BK667.out)) : gb667 ≠ gb686)); have n10_ := Aside0.mk ((by rw [hg]; exact Nat.ne_of_gt (blk_lt (g := gb667) (o := .cells #[.slice A0_0 l0_0.length c0_0, .int .i64 a0_1, .int .i64 a0_2, .slice A0_3 l0_3.length c0_3] 79 (0, 0)) (by (with_reducible repeat (first | refine blk_drewN ?_ _ | refine blk_drew ?_ | refine blk_alloc ?_ _)); exact BK667.out)) : gb686 ≠ gb667)); clear HO671; clear HO676; clear HO680; clear HO685; clear BK667; clear HB; have HO671 := n0_; have HO676 := n1_; have HO680 := n2_; have HO685 := n3_; have BK667 := n4_; have HB := n5_; have BK686 := n6_; have GW686 := n7_; have GE686 := n8_; have NB667_686 := n9_; have NB686_667 := n10_; clear n0_ n1_ n2_ n3_ n4_ n5_ n6_ n7_ n8_ n9_ n10_; clear hb hbox hg; obtain ⟨Ao63, co63, eo63⟩ := Kd.R_slice HO680.out; subst eo63; have hnb64 := NB686_667.out; have hnc64 := NB667_686.out; have hcz65_0 : w62.cell? ⟨gb686, 0, none⟩ = some (.slice none 0 0) := (blk_cell BK686.out 0).trans rfl; have hcz65_1 : w62.cell? ⟨gb686, 1, none⟩ = some (.int .i64 0) := (blk_cell BK686.out 1).trans rfl; have hcz65_2 : w62.cell? ⟨gb686, 2, none⟩ = some (.int .i64 0) := (blk_cell BK686.out 2).trans rfl; have hcz65_3 : w62.cell? ⟨gb686, 3, none⟩ = some (.slice none 0 0) := (blk_cell BK686.out 3).trans rfl; have hfz65_0 := blk_frozen BK686.out 0; have hfz65_1 := blk_frozen BK686.out 1; have hfz65_2 := blk_frozen BK686.out 2; have hfz65_3 := blk_frozen BK686.out 3; obtain ⟨Ao66, co66, eo66⟩ := Kd.R_slice HO685.out; subst eo66) | ((with_reducible refine gate_callee (f := 49) rfl ?_); refine goesL_ (some 18) rfl rfl Try.func49 (by kernel_rfl) rfl #[.agg #[.slice Ao63 t678.length co63, .int .i64 t681, .int .i64 t682, .slice Ao66 t683.length co66]] rfl (by (try simp only [List.map_toArray, List.map_cons, List.map_nil]); first | done | rfl | (simp only [List.length_drop, List.length_take]; rfl)) ?_; (with_reducible refine (impl_Halted.calls k _ _ t678 t681 t682 _ _ t683 t687 _ ?side1 ?side2 ?side3 ?side4 A10.out).mono ?_); (case side1 => refine (Kd.R_reads' (e := 2) (base := w.heap.size) (ok := fun k_ => ((some k_ ≠ (.slice Ao66 t683.length co66 : Value).ownBlock ∧ some k_ ≠ (.slice Ao57 t669.length co57 : Value).ownBlock) ∧ some k_ ≠ (.slice Ao58 t674.length co58 : Value).ownBlock)) (n := t678.length) (c := co63) ?_).2.2; exact (by (with_reducible repeat (first | apply Kd.R_alloc | apply Kd.R_drewN | apply Kd.R_drew)); exact (Kd.R_mono (Kd.R_far (p := ⟨gb686, 3, none⟩) (Kd.R_far (p := ⟨gb686, 2, none⟩) (Kd.R_far (p := ⟨gb686, 1, none⟩) (Kd.R_far (p := ⟨gb686, 0, none⟩) (Kd.R_types HO680.out BK686.out (by decide)) (fun _ hk => hk.2) (.slice Ao63 t678.length co63)) (fun _ hk => hk.2) (.int .i64 t681)) (fun _ hk => hk.2) (.int .i64 t682)) (fun _ hk => hk.2) (.slice Ao66 t683.length co66)) (fun _ h_ => h_.1)))); (case side2 => exact (Kd.R_reads' HO680.out).2.1); (case side3 => refine (Kd.R_reads' (e := 2) (base := w.heap.size) (ok := fun k_ => ((some k_ ≠ (.slice Ao63 t678.length co63 : Value).ownBlock ∧ some k_ ≠ (.slice Ao57 t669.length co57 : Value).ownBlock) ∧ some k_ ≠ (.slice Ao58 t674.length co58 : Value).ownBlock)) (n := t683.length) (c := co66) ?_).2.2; exact (by (with_reducible repeat (first | apply Kd.R_alloc | apply Kd.R_drewN | apply Kd.R_drew)); exact (Kd.R_mono (Kd.R_far (p := ⟨gb686, 3, none⟩) (Kd.R_far (p := ⟨gb686, 2, none⟩) (Kd.R_far (p := ⟨gb686, 1, none⟩) (Kd.R_far (p := ⟨gb686, 0, none⟩) (Kd.R_types HO685.out BK686.out (by decide)) (fun _ hk => hk.2) (.slice Ao63 t678.length co63)) (fun _ hk => hk.2) (.int .i64 t681)) (fun _ hk => hk.2) (.int .i64 t682)) (fun _ hk => hk.2) (.slice Ao66 t683.length co66)) (fun _ h_ => h_.1)))); (case side4 => exact (Kd.R_reads' HO685.out).2.1); rintro e w67 ⟨rfl, hb⟩; refine ⟨_, rfl, ?_⟩; have n0_ := Aside0.mk (Kd.R_below (by (with_reducible repeat (first | apply Kd.R_alloc | apply Kd.R_drewN | apply Kd.R_drew)); exact (Kd.R_mono (Kd.R_far (p := ⟨gb686, 3, none⟩) (Kd.R_far (p := ⟨gb686, 2, none⟩) (Kd.R_far (p := ⟨gb686, 1, none⟩) (Kd.R_far (p := ⟨gb686, 0, none⟩) (Kd.R_types HO671.out BK686.out (by decide)) (fun _ hk => hk.2) (.slice Ao63 t678.length co63)) (fun _ hk => hk.2) (.int .i64 t681)) (fun _ hk => hk.2) (.int .i64 t682)) (fun _ hk => hk.2) (.slice Ao66 t683.length co66)) (fun _ h_ => h_.1))) hb); have n1_ := Aside0.mk (Kd.R_below (by (with_reducible repeat (first | apply Kd.R_alloc | apply Kd.R_drewN | apply Kd.R_drew)); exact (Kd.R_mono (Kd.R_far (p := ⟨gb686, 3, none⟩) (Kd.R_far (p := ⟨gb686, 2, none⟩) (Kd.R_far (p := ⟨gb686, 1, none⟩) (Kd.R_far (p := ⟨gb686, 0, none⟩) (Kd.R_types HO676.out BK686.out (by decide)) (fun _ hk => hk.2) (.slice Ao63 t678.length co63)) (fun _ hk => hk.2) (.int .i64 t681)) (fun _ hk => hk.2) (.int .i64 t682)) (fun _ hk => hk.2) (.slice Ao66 t683.length co66)) (fun _ h_ => h_.1))) hb); have n2_ := Aside0.mk (Kd.R_below (by (with_reducible repeat (first | apply Kd.R_alloc | apply Kd.R_drewN | apply Kd.R_drew)); exact (Kd.R_mono (Kd.R_far (p := ⟨gb686, 3, none⟩) (Kd.R_far (p := ⟨gb686, 2, none⟩) (Kd.R_far (p := ⟨gb686, 1, none⟩) (Kd.R_far (p := ⟨gb686, 0, none⟩) (Kd.R_types HO680.out BK686.out (by decide)) (fun _ hk => hk.2) (.slice Ao63 t678.length co63)) (fun _ hk => hk.2) (.int .i64 t681)) (fun _ hk => hk.2) (.int .i64 t682)) (fun _ hk => hk.2) (.slice Ao66 t683.length co66)) (fun _ h_ => h_.1))) hb); have n3_ := Aside0.mk (Kd.R_below (by (with_reducible repeat (first | apply Kd.R_alloc | apply Kd.R_drewN | apply Kd.R_drew)); exact (Kd.R_mono (Kd.R_far (p := ⟨gb686, 3, none⟩) (Kd.R_far (p := ⟨gb686, 2, none⟩) (Kd.R_far (p := ⟨gb686, 1, none⟩) (Kd.R_far (p := ⟨gb686, 0, none⟩) (Kd.R_types HO685.out BK686.out (by decide)) (fun _ hk => hk.2) (.slice Ao63 t678.length co63)) (fun _ hk => hk.2) (.int .i64 t681)) (fun _ hk => hk.2) (.int .i64 t682)) (fun _ hk => hk.2) (.slice Ao66 t683.length co66)) (fun _ h_ => h_.1))) hb); have n4_ := Aside0.mk (blk_below (g := gb667) (o := .cells #[.slice A0_0 l0_0.length c0_0, .int .i64 a0_1, .int .i64 a0_2, .slice A0_3 l0_3.length c0_3] 79 (0, 0)) (by (with_reducible repeat (first | refine blk_drewN ?_ _ | refine blk_drew ?_ | refine blk_alloc ?_ _)); refine blk_far ?_ NB667_686.out _; (with_reducible repeat (first | refine blk_drewN ?_ _ | refine blk_drew ?_ | refine blk_alloc ?_ _)); refine blk_far ?_ NB667_686.out _; (with_reducible repeat (first | refine blk_drewN ?_ _ | refine blk_drew ?_ | refine blk_alloc ?_ _)); refine blk_far ?_ NB667_686.out _; (with_reducible repeat (first | refine blk_drewN ?_ _ | refine blk_drew ?_ | refine blk_alloc ?_ _)); refine blk_far ?_ NB667_686.out _; (with_reducible repeat (first | refine blk_drewN ?_ _ | refine blk_drew ?_ | refine blk_alloc ?_ _)); exact BK667.out) hb); have n5_ := Aside0.mk (blk_below (g := gb686) (o := .cells #[.slice Ao63 t678.length co63, .int .i64 t681, .int .i64 t682, .slice Ao66 t683.length co66] 71 (0, 0)) (by (with_reducible repeat (first | refine blk_drewN ?_ _ | refine blk_drew ?_ | refine blk_alloc ?_ _)); refine blk_put (cs := #[.slice Ao63 t678.length co63, .int .i64 t681, .int .i64 t682, .slice none 0 0]) ?_ 3 _ rfl; (with_reducible repeat (first | refine blk_drewN ?_ _ | refine blk_drew ?_ | refine blk_alloc ?_ _)); refine blk_put (cs := #[.slice Ao63 t678.length co63, .int .i64 t681, .int .i64 0, .slice none 0 0]) ?_ 2 _ rfl; (with_reducible repeat (first | refine blk_drewN ?_ _ | refine blk_drew ?_ | refine blk_alloc ?_ _)); refine blk_put (cs := #[.slice Ao63 t678.length co63, .int .i64 0, .int .i64 0, .slice none 0 0]) ?_ 1 _ rfl; (with_reducible repeat (first | refine blk_drewN ?_ _ | refine blk_drew ?_ | refine blk_alloc ?_ _)); refine blk_put (cs := #[.slice none 0 0, .int .i64 0, .int .i64 0, .slice none 0 0]) ?_ 0 _ rfl; (with_reducible repeat (first | refine blk_drewN ?_ _ | refine blk_drew ?_ | refine blk_alloc ?_ _)); exact BK686.out) hb); have n6_ := Aside0.mk (below_step (by repeat (first | (with_reducible first | exact HB.out | apply below_alloc | apply pw_below_drewN | apply below_drew1 | refine below_set ?_ GE667.out | refine below_set ?_ GE686.out) | exact HB.out)) hb); clear HO671; clear HO676; clear HO680; clear HO685; clear BK667; clear BK686; clear HB; have HO671 := n0_; have HO676 := n1_; have HO680 := n2_; have HO685 := n3_; have BK667 := n4_; have BK686 := n5_; have HB := n6_; clear n0_ n1_ n2_ n3_ n4_ n5_ n6_; (try clear hb); (try clear hb2); (try clear hk); (try clear hi)))
        have n0_ := Aside0.mk (Kd.R_drew HO671.out)
        have n1_ := Aside0.mk (Kd.R_drew HO676.out)
        have n2_ := Aside0.mk (Kd.R_drew HO680.out)
        have n3_ := Aside0.mk (Kd.R_drew HO685.out)
        have n4_ := Aside0.mk (blk_drew BK667.out)
        have n5_ := Aside0.mk (blk_drew BK686.out)
        have n6_ := Aside0.mk (below_drew1 HB.out)
        clear HO671
        clear HO676
        clear HO680
        clear HO685
        clear BK667
        clear BK686
        clear HB
        have HO671 := n0_
        have HO676 := n1_
        have HO680 := n2_
        have HO685 := n3_
        have BK667 := n4_
        have BK686 := n5_
        have HB := n6_
        clear n0_ n1_ n2_ n3_ n4_ n5_ n6_
        refine start_ (n := 5) (S := fun w' => w'.cell? ⟨gb686, 0, none⟩ = some (.slice Ao63 t678.length co63) ∧ w'.cell? ⟨gb686, 1, none⟩ = some (.int .i64 t681) ∧ w'.cell? ⟨gb686, 2, none⟩ = some (.int .i64 t682) ∧ w'.cell? ⟨gb686, 3, none⟩ = some (.slice Ao66 t683.length co66) ∧ w'.cell? ⟨gb667, 0, none⟩ = some (.slice A0_0 l0_0.length c0_0) ∧ w'.cell? ⟨gb667, 1, none⟩ = some (.int .i64 a0_1) ∧ w'.cell? ⟨gb667, 2, none⟩ = some (.int .i64 a0_2) ∧ w'.cell? ⟨gb667, 3, none⟩ = some (.slice A0_3 l0_3.length c0_3)) (ds := []) #[false, false, false, false, false] (by kernel_rfl) rfl rfl ⟨(blk_cell BK686.out 0).trans rfl, (blk_cell BK686.out 1).trans rfl, (blk_cell BK686.out 2).trans rfl, (blk_cell BK686.out 3).trans rfl, (blk_cell BK667.out 0).trans rfl, (blk_cell BK667.out 1).trans rfl, (blk_cell BK667.out 2).trans rfl, (blk_cell BK667.out 3).trans rfl⟩ (fun hHeld => ?_)
        generalize w67.drew = w68 at HO671 HO676 HO680 HO685 BK667 BK686 HB hHeld ⊢
        refine take_ (i := 0) (N := some 22) (v := ?_) (a' := ?_) #[true, false, false, false, false] rfl rfl (by kernel_rfl) (fun _ _ _ h => h) (Or.inl ⟨by rfl, ?_⟩) hHeld ?_ ?_
        rotate_left
        · rintro w' ⟨s0, s1, s2, s3, s4, s5, s6, s7⟩
          go_simp
          with_reducible rfl
        rotate_left
        · simp only [Act.put, List.setIfInBounds_toArray, List.set_cons_zero, List.set_cons_succ, i64_w, i32_w]
          rfl
        refine take_ (i := 1) (N := some 23) (v := ?_) (a' := ?_) #[true, true, false, false, false] rfl rfl (by kernel_rfl) (fun _ _ _ h => h) (Or.inl ⟨by rfl, ?_⟩) hHeld ?_ ?_
        rotate_left
        · rintro w' ⟨s0, s1, s2, s3, s4, s5, s6, s7⟩
          go_simp
          with_reducible rfl
        rotate_left
        · simp only [Act.put, List.setIfInBounds_toArray, List.set_cons_zero, List.set_cons_succ, i64_w, i32_w]
          rfl
        refine one_ (i := 2) (N := some 24) #[true, true, true, false, false] rfl rfl (by kernel_rfl) (by decide) (fun K hK => ?_)
        refine goes_ Try.func52 (by kernel_rfl) rfl #[.agg #[.slice A0_0 l0_0.length c0_0, .int .i64 a0_1, .int .i64 a0_2, .slice A0_3 l0_3.length c0_3]] (by rfl) rfl rfl (by (try simp only [List.map_toArray, List.map_cons, List.map_nil]); first | done | rfl | (simp only [List.length_drop, List.length_take]; rfl)) ?_
        with_reducible refine (laws_toFleet.calls k _ _ l0_0 a0_1 a0_2 _ _ l0_3 t688 t691 t692 t693 _ ?side1 ?side2 ?side3 ?side4 A28.out).mono ?_
        (case side1 => repeat (first | exact (Kd.C_below HR0_0.out HB.out) | (with_reducible refine Kd.C_alloc ?_ _) | (with_reducible refine Kd.C_drewN ?_ _) | (with_reducible refine Kd.C_drew ?_)))
        (case side2 => exact HC0_0.out)
        (case side3 => repeat (first | exact (Kd.C_below HR0_3.out HB.out) | (with_reducible refine Kd.C_alloc ?_ _) | (with_reducible refine Kd.C_drewN ?_ _) | (with_reducible refine Kd.C_drew ?_)))
        (case side4 => exact HC0_3.out)
        rintro e w69 ⟨v689, v694, rfl, ho0, ho1, hb⟩
        refine ⟨_, rfl, ?_⟩
        have n0_ := Aside0.mk (Kd.R_mono (Kd.R_told (Kd.R_told (Kd.R_old (by (with_reducible repeat (first | apply Kd.R_alloc | apply Kd.R_drewN | apply Kd.R_drew)); exact HO671.out) hb) (Kd.R_base ho0)) (Kd.R_base ho1)) (fun _ h_ => h_.1))
        have n1_ := Aside0.mk (Kd.R_mono (Kd.R_told (Kd.R_told (Kd.R_old (by (with_reducible repeat (first | apply Kd.R_alloc | apply Kd.R_drewN | apply Kd.R_drew)); exact HO676.out) hb) (Kd.R_base ho0)) (Kd.R_base ho1)) (fun _ h_ => h_.1))
        have n2_ := Aside0.mk (Kd.R_mono (Kd.R_told (Kd.R_told (Kd.R_old (by (with_reducible repeat (first | apply Kd.R_alloc | apply Kd.R_drewN | apply Kd.R_drew)); exact HO680.out) hb) (Kd.R_base ho0)) (Kd.R_base ho1)) (fun _ h_ => h_.1))
        have n3_ := Aside0.mk (Kd.R_mono (Kd.R_told (Kd.R_told (Kd.R_old (by (with_reducible repeat (first | apply Kd.R_alloc | apply Kd.R_drewN | apply Kd.R_drew)); exact HO685.out) hb) (Kd.R_base ho0)) (Kd.R_base ho1)) (fun _ h_ => h_.1))
        have n4_ := Aside0.mk (Kd.R_lower (Kd.R_new' (Kd.R_new' (Kd.R_new' (Kd.R_new' ho0 (Kd.R_lt (by (with_reducible repeat (first | apply Kd.R_alloc | apply Kd.R_drewN | apply Kd.R_drew)); exact HO671.out))) (Kd.R_lt (by (with_reducible repeat (first | apply Kd.R_alloc | apply Kd.R_drewN | apply Kd.R_drew)); exact HO676.out))) (Kd.R_lt (by (with_reducible repeat (first | apply Kd.R_alloc | apply Kd.R_drewN | apply Kd.R_drew)); exact HO680.out))) (Kd.R_lt (by (with_reducible repeat (first | apply Kd.R_alloc | apply Kd.R_drewN | apply Kd.R_drew)); exact HO685.out))) (below_size (by repeat (first | (with_reducible first | exact HB.out | apply below_alloc | apply pw_below_drewN | apply below_drew1 | refine below_set ?_ GE667.out | refine below_set ?_ GE686.out) | exact HB.out))))
        have n5_ := Aside0.mk (Kd.R_lower (Kd.R_new' (Kd.R_new' (Kd.R_new' (Kd.R_new' ho1 (Kd.R_lt (by (with_reducible repeat (first | apply Kd.R_alloc | apply Kd.R_drewN | apply Kd.R_drew)); exact HO671.out))) (Kd.R_lt (by (with_reducible repeat (first | apply Kd.R_alloc | apply Kd.R_drewN | apply Kd.R_drew)); exact HO676.out))) (Kd.R_lt (by (with_reducible repeat (first | apply Kd.R_alloc | apply Kd.R_drewN | apply Kd.R_drew)); exact HO680.out))) (Kd.R_lt (by (with_reducible repeat (first | apply Kd.R_alloc | apply Kd.R_drewN | apply Kd.R_drew)); exact HO685.out))) (below_size (by repeat (first | (with_reducible first | exact HB.out | apply below_alloc | apply pw_below_drewN | apply below_drew1 | refine below_set ?_ GE667.out | refine below_set ?_ GE686.out) | exact HB.out))))
        have n6_ := Aside0.mk (blk_below (g := gb667) (o := .cells #[.slice A0_0 l0_0.length c0_0, .int .i64 a0_1, .int .i64 a0_2, .slice A0_3 l0_3.length c0_3] 79 (0, 0)) (by (with_reducible repeat (first | refine blk_drewN ?_ _ | refine blk_drew ?_ | refine blk_alloc ?_ _)); exact BK667.out) hb)
        have n7_ := Aside0.mk (blk_below (g := gb686) (o := .cells #[.slice Ao63 t678.length co63, .int .i64 t681, .int .i64 t682, .slice Ao66 t683.length co66] 71 (0, 0)) (by (with_reducible repeat (first | refine blk_drewN ?_ _ | refine blk_drew ?_ | refine blk_alloc ?_ _)); exact BK686.out) hb)
        have n8_ := Aside0.mk (below_step (by repeat (first | (with_reducible first | exact HB.out | apply below_alloc | apply pw_below_drewN | apply below_drew1 | refine below_set ?_ GE667.out | refine below_set ?_ GE686.out) | exact HB.out)) hb)
        clear HO671
        clear HO676
        clear HO680
        clear HO685
        clear BK667
        clear BK686
        clear HB
        have HO671 := n0_
        have HO676 := n1_
        have HO680 := n2_
        have HO685 := n3_
        have HO690 := n4_
        have HO695 := n5_
        have BK667 := n6_
        have BK686 := n7_
        have HB := n8_
        clear n0_ n1_ n2_ n3_ n4_ n5_ n6_ n7_ n8_
        (try clear hb)
        (try clear hb2)
        (try clear hk)
        (try clear hi)
        (try clear ho0)
        (try clear ho1)
        obtain ⟨Ao70, co70, eo70⟩ := Kd.R_slice HO690.out
        (first | subst eo70 | (injection eo70 with f1_ f2_ f3_; have f4_ := f1_.symm; have f5_ := f3_.symm; clear f1_ f2_ f3_; subst f4_; subst f5_))
        obtain ⟨Ao71, co71, eo71⟩ := Kd.R_slice HO695.out
        (first | subst eo71 | (injection eo71 with f1_ f2_ f3_; have f4_ := f1_.symm; have f5_ := f3_.symm; clear f1_ f2_ f3_; subst f4_; subst f5_))
        refine hK.out _ _ ⟨(blk_cell BK686.out 0).trans rfl, (blk_cell BK686.out 1).trans rfl, (blk_cell BK686.out 2).trans rfl, (blk_cell BK686.out 3).trans rfl, (blk_cell BK667.out 0).trans rfl, (blk_cell BK667.out 1).trans rfl, (blk_cell BK667.out 2).trans rfl, (blk_cell BK667.out 3).trans rfl⟩ (fun hHeld => ?_)
        clear hK K
        refine norm_ (a' := ?_) ?_ ?_
        rotate_left
        · show Act.put _ (some 24) _ = _
          simp only [Act.put, List.setIfInBounds_toArray, List.set_cons_zero, List.set_cons_succ, i64_w, i32_w]
          rfl
        refine one_ (i := 3) (N := some 25) #[true, true, true, true, false] rfl rfl (by kernel_rfl) (by decide) (fun K hK => ?_)
        refine goes_ Try.func54 (by kernel_rfl) rfl #[.agg #[.slice Ao63 t678.length co63, .int .i64 t681, .int .i64 t682, .slice Ao66 t683.length co66], .agg #[.slice Ao70 t688.length co70, .int .i64 t691, .int .i64 t692, .slice Ao71 t693.length co71]] (by rfl) rfl rfl (by (try simp only [List.map_toArray, List.map_cons, List.map_nil]); first | done | rfl | (simp only [List.length_drop, List.length_take]; rfl)) ?_
        with_reducible refine (laws_eqFleet.calls k _ _ t678 t681 t682 _ _ t683 _ _ t688 t691 t692 _ _ t693 false _ ?side1 ?side2 ?side3 ?side4 ?side5 ?side6 ?side7 ?side8 A29.out).mono ?_
        (case side1 => repeat (first | exact (Kd.R_reads' HO680.out).2.2 | (with_reducible refine Kd.C_alloc ?_ _) | (with_reducible refine Kd.C_drewN ?_ _) | (with_reducible refine Kd.C_drew ?_)))
        (case side2 => exact (Kd.R_reads' HO680.out).2.1)
        (case side3 => repeat (first | exact (Kd.R_reads' HO685.out).2.2 | (with_reducible refine Kd.C_alloc ?_ _) | (with_reducible refine Kd.C_drewN ?_ _) | (with_reducible refine Kd.C_drew ?_)))
        (case side4 => exact (Kd.R_reads' HO685.out).2.1)
        (case side5 => repeat (first | exact (Kd.R_reads' HO690.out).2.2 | (with_reducible refine Kd.C_alloc ?_ _) | (with_reducible refine Kd.C_drewN ?_ _) | (with_reducible refine Kd.C_drew ?_)))
        (case side6 => exact (Kd.R_reads' HO690.out).2.1)
        (case side7 => repeat (first | exact (Kd.R_reads' HO695.out).2.2 | (with_reducible refine Kd.C_alloc ?_ _) | (with_reducible refine Kd.C_drewN ?_ _) | (with_reducible refine Kd.C_drew ?_)))
        (case side8 => exact (Kd.R_reads' HO695.out).2.1)
        rintro e w72 ⟨rfl, hb⟩
        refine ⟨_, rfl, ?_⟩
        have n0_ := Aside0.mk (Kd.R_below (by (with_reducible repeat (first | apply Kd.R_alloc | apply Kd.R_drewN | apply Kd.R_drew)); exact HO671.out) hb)
        have n1_ := Aside0.mk (Kd.R_below (by (with_reducible repeat (first | apply Kd.R_alloc | apply Kd.R_drewN | apply Kd.R_drew)); exact HO676.out) hb)
        have n2_ := Aside0.mk (Kd.R_below (by (with_reducible repeat (first | apply Kd.R_alloc | apply Kd.R_drewN | apply Kd.R_drew)); exact HO680.out) hb)
        have n3_ := Aside0.mk (Kd.R_below (by (with_reducible repeat (first | apply Kd.R_alloc | apply Kd.R_drewN | apply Kd.R_drew)); exact HO685.out) hb)
        have n4_ := Aside0.mk (Kd.R_below (by (with_reducible repeat (first | apply Kd.R_alloc | apply Kd.R_drewN | apply Kd.R_drew)); exact HO690.out) hb)
        have n5_ := Aside0.mk (Kd.R_below (by (with_reducible repeat (first | apply Kd.R_alloc | apply Kd.R_drewN | apply Kd.R_drew)); exact HO695.out) hb)
        have n6_ := Aside0.mk (blk_below (g := gb667) (o := .cells #[.slice A0_0 l0_0.length c0_0, .int .i64 a0_1, .int .i64 a0_2, .slice A0_3 l0_3.length c0_3] 79 (0, 0)) (by (with_reducible repeat (first | refine blk_drewN ?_ _ | refine blk_drew ?_ | refine blk_alloc ?_ _)); exact BK667.out) hb)
        have n7_ := Aside0.mk (blk_below (g := gb686) (o := .cells #[.slice Ao63 t678.length co63, .int .i64 t681, .int .i64 t682, .slice Ao66 t683.length co66] 71 (0, 0)) (by (with_reducible repeat (first | refine blk_drewN ?_ _ | refine blk_drew ?_ | refine blk_alloc ?_ _)); exact BK686.out) hb)
        have n8_ := Aside0.mk (below_step (by repeat (first | (with_reducible first | exact HB.out | apply below_alloc | apply pw_below_drewN | apply below_drew1 | refine below_set ?_ GE667.out | refine below_set ?_ GE686.out) | exact HB.out)) hb)
        clear HO671
        clear HO676
        clear HO680
        clear HO685
        clear HO690
        clear HO695
        clear BK667
        clear BK686
        clear HB
        have HO671 := n0_
        have HO676 := n1_
        have HO680 := n2_
        have HO685 := n3_
        have HO690 := n4_
        have HO695 := n5_
        have BK667 := n6_
        have BK686 := n7_
        have HB := n8_
        clear n0_ n1_ n2_ n3_ n4_ n5_ n6_ n7_ n8_
        (try clear hb)
        (try clear hb2)
        (try clear hk)
        (try clear hi)
        refine hK.out _ _ ⟨(blk_cell BK686.out 0).trans rfl, (blk_cell BK686.out 1).trans rfl, (blk_cell BK686.out 2).trans rfl, (blk_cell BK686.out 3).trans rfl, (blk_cell BK667.out 0).trans rfl, (blk_cell BK667.out 1).trans rfl, (blk_cell BK667.out 2).trans rfl, (blk_cell BK667.out 3).trans rfl⟩ (fun hHeld => ?_)
        clear hK K
        refine norm_ (a' := ?_) ?_ ?_
        rotate_left
        · show Act.put _ (some 25) _ = _
          simp only [Act.put, List.setIfInBounds_toArray, List.set_cons_zero, List.set_cons_succ, i64_w, i32_w]
          rfl
        refine pure_ (i := 4) (N := some 26) (v := ?_) (a' := ?_) #[true, true, true, true, true] rfl rfl (by kernel_rfl) (fun _ _ _ h => h) (Or.inl ⟨by rfl, ?_⟩) ?_ ?_
        rotate_left
        · intro w'
          go_simp
          with_reducible rfl
        rotate_left
        · simp only [Act.put, List.setIfInBounds_toArray, List.set_cons_zero, List.set_cons_succ, i64_w, i32_w]
          rfl
        refine done_ (by kernel_rfl) ?_
        try go_wp2
        go_ret
        exact ⟨by first | rfl | (simp only [i64_w, i32_w]; done) | (simp only [i64_w, i32_w]; rfl) | (simp [errW_none, errW_some] <;> rfl) | (simp [*, errW_none, errW_some] <;> rfl), by repeat (first | (with_reducible first | exact HB.out | apply below_alloc | apply pw_below_drewN | apply below_drew1 | refine below_set ?_ GE667.out | refine below_set ?_ GE686.out) | exact HB.out)⟩

end Go.Proofs.Ytkjljfeneoaojaa.P

namespace Go.Proofs.Ytkjljfeneoaojaa.P
open Go.RowKit Go.Proofs.YtkjljfeneoaojaaW.PrintWords Go.Proofs.YtkjljfeneoaojaaW.PrintLast Go.Proofs.YtkjljfeneoaojaaW.PrintMore
attribute [local go_sem] max2_int min2_int max_two min_two max_three min_three max_four min_four   -- for this text's walks alone
set_option linter.unusedVariables false
set_option linter.unusedSimpArgs false
def ok2 (x : Int) : Prop := (Lit.int .i64 x).wf = true
def laws_FnExactHalted.Pure : Prop := ∀ (l0_0 : List Int) (a0_1 : Int) (a0_2 : Int) (l0_3 : List Int), l0_0.length ≤ maxLen → l0_0.length * 8 ≤ 140737488351232 → (∀ a ∈ l0_0, ok2 a) → (Lit.int .i64 a0_1).wf = true → (Lit.int .i64 a0_2).wf = true → l0_3.length ≤ maxLen → l0_3.length * 8 ≤ 140737488351232 → (∀ a ∈ l0_3, ok2 a) → ∃ k, laws_FnExactHalted.f k l0_0 a0_1 a0_2 l0_3 = some true
end Go.Proofs.Ytkjljfeneoaojaa.P

namespace Go.Proofs.Ytkjljfeneoaojaa.Pure
open Go Go.RowKit Go.Proofs.YtkjljfeneoaojaaW.PrintWords Go.Proofs.YtkjljfeneoaojaaW.PrintLast Go.Proofs.YtkjljfeneoaojaaW.PrintMore
theorem w64 {n : Int} (h0 : -9223372036854775808 ≤ n) (h1 : n < 9223372036854775808) : wrap64 n = n := by unfold wrap64; omega
theorem wf64 {n : Int} (h : (Lit.int .i64 n).wf = true) : -9223372036854775808 ≤ n ∧ n ≤ 9223372036854775807 := by
  simp [Lit.wf, IntKind.min, IntKind.max, IntKind.signed, IntKind.bits] at h
  omega
theorem u64w (n : Int) : IntKind.u64.wrap n = n % 18446744073709551616 := by simp [IntKind.wrap, IntKind.bits, IntKind.signed]
/-- One round more, where the tests are known. -/
theorem Ev.now' {α : Type} {g : Nat → Option α} {r : α} (h : ∀ k, g (k + 1) = some r) : Ev g r := ⟨1, fun k hk => by
  obtain ⟨m, rfl⟩ : ∃ m, k = m + 1 := ⟨k - 1, by omega⟩
  exact h m⟩
theorem Ev.all {α : Type} {g : Nat → Option α} {r : α} (h : ∀ k, g k = some r) : Ev g r := ⟨0, fun k _ => h k⟩
theorem Ev.ifp {α : Type} {c : Prop} [Decidable c] {g f : Nat → Option α} {r : α} (h : c) (hg : Ev g r) : Ev (fun k => if c then g k else f k) r := Ev.congr (fun _ => if_pos h) hg
theorem Ev.ifn {α : Type} {c : Prop} [Decidable c] {g f : Nat → Option α} {r : α} (h : ¬ c) (hf : Ev f r) : Ev (fun k => if c then g k else f k) r := Ev.congr (fun _ => if_neg h) hf
theorem Ev.ite {α : Type} {c : Prop} [Decidable c] {g f : Nat → Option α} {r q : α} (hg : c → Ev g r) (hf : ¬ c → Ev f q) : Ev (fun k => if c then g k else f k) (if c then r else q) := by
  by_cases h : c
  · rw [if_pos h]; exact Ev.ifp h (hg h)
  · rw [if_neg h]; exact Ev.ifn h (hf h)
/-- The bytes of a string. -/
def B (s : ByteArray) : List Nat := s.data.toList.map (·.toNat)
theorem dl (s : ByteArray) : s.data.toList.length = s.size := by rw [Array.length_toList]; rfl
theorem B_len (s : ByteArray) : (B s).length = s.size := by unfold B; rw [List.length_map]; exact dl s
theorem B_lt (s : ByteArray) : ∀ x ∈ B s, x < 256 := by
  intro x hx
  simp only [B, List.mem_map] at hx
  obtain ⟨u, _, rfl⟩ := hx
  exact u.toNat_lt
theorem bt_B (s : ByteArray) (i : Nat) : bt s (i : Int) = (((B s).getD i 0 : Nat) : Int) := by
  unfold bt B
  simp only [Int.toNat_natCast]
  split
  · rename_i h
    have h' : i < s.data.toList.length := by rw [dl]; omega
    simp only [List.getD_eq_getElem?_getD, List.getElem?_map, List.getElem?_eq_getElem h', Option.map_some, Option.getD_some]
    rfl
  · rename_i h
    have h' : s.data.toList.length ≤ i := by rw [dl]; omega
    simp only [List.getD_eq_getElem?_getD, List.getElem?_map, List.getElem?_eq_none h', Option.map_none, Option.getD_none]
    rfl
theorem B_append (s t : ByteArray) : B (s ++ t) = B s ++ B t := by simp [B]
theorem B_ext {s t : ByteArray} (h : B s = B t) : s = t := by
  have h2 : s.data.toList = t.data.toList := by
    unfold B at h
    exact List.map_inj_right (fun a b hab => UInt8.toNat_inj.1 hab) |>.1 h
  cases s; cases t
  simp only [ByteArray.mk.injEq]
  exact Array.toList_inj.1 h2
/-- A string of numbers' bytes. -/
theorem B_nums (l : List Int) (h : ∀ x ∈ l, 0 ≤ x ∧ x < 256) : B (strOfNums l) = l.map Int.toNat := by
  unfold B strOfNums
  simp only [List.map_map]
  refine List.map_congr_left fun x hx => ?_
  have := h x hx
  simp only [Function.comp]
  simp
  omega
theorem bx32 (a b : Nat) (ha : a < 4294967296) (hb : b < 4294967296) : Go.bits .xor .u32 (a : Int) (b : Int) = ((a ^^^ b : Nat) : Int) := by
  have hx : a ^^^ b < 2 ^ 32 := Nat.xor_lt_two_pow (by omega) (by omega)
  show IntKind.u32.wrap (((BitVec.ofInt 32 (a : Int)) ^^^ (BitVec.ofInt 32 (b : Int))).toNat : Int) = _
  rw [BitVec.ofInt_natCast, BitVec.ofInt_natCast, BitVec.toNat_xor, BitVec.toNat_ofNat, BitVec.toNat_ofNat, IntKind.wrap_u32,
    Nat.mod_eq_of_lt (show a < 2 ^ 32 by omega), Nat.mod_eq_of_lt (show b < 2 ^ 32 by omega)]
  omega
theorem band1 (a : Nat) (ha : a < 4294967296) : Go.bits .and .u32 (a : Int) 1 = ((a % 2 : Nat) : Int) := by
  have h : a &&& 1 = a % 2 := Nat.and_one_is_mod a
  have e : (1 : Int) = ((1 : Nat) : Int) := rfl
  rw [e]
  show IntKind.u32.wrap (((BitVec.ofInt 32 (a : Int)) &&& (BitVec.ofInt 32 ((1 : Nat) : Int))).toNat : Int) = _
  rw [BitVec.ofInt_natCast, BitVec.ofInt_natCast, BitVec.toNat_and, BitVec.toNat_ofNat, BitVec.toNat_ofNat, IntKind.wrap_u32,
    Nat.mod_eq_of_lt (show a < 2 ^ 32 by omega), Nat.mod_eq_of_lt (show 1 < 2 ^ 32 by omega), h]
  omega
end Go.Proofs.Ytkjljfeneoaojaa.Pure

namespace Go.Proofs.Ytkjljfeneoaojaa.Pure
open Go Go.RowKit Go.Proofs.YtkjljfeneoaojaaW.PrintWords Go.Proofs.YtkjljfeneoaojaaW.PrintLast Go.Proofs.YtkjljfeneoaojaaW.PrintMore
/-- What a loop makes: d rounds from round i on, each going on or leaving. -/
def run {σ α : Type} (step : σ → Nat → σ ⊕ α) (fin : σ → α) : Nat → Nat → σ → α
  | 0, _, s => fin s
  | d + 1, i, s => match step s i with
    | .inl s' => run step fin d (i + 1) s'
    | .inr a => a
theorem ev_for {σ α : Type} (L : Nat → σ → Int → Option α) (n : Nat) (step : σ → Nat → σ ⊕ α) (fin : σ → α) (Inv : σ → Nat → Prop)
    (hs : ∀ s i, i < n → Inv s i → (∀ s', step s i = .inl s' → Inv s' (i + 1) ∧ ∀ r, Ev (fun k => L k s' ((i + 1 : Nat) : Int)) r → Ev (fun k => L k s (i : Int)) r) ∧ (∀ a, step s i = .inr a → Ev (fun k => L k s (i : Int)) a))
    (he : ∀ s, Inv s n → Ev (fun k => L k s (n : Int)) (fin s)) : ∀ d i s, i + d = n → Inv s i → Ev (fun k => L k s (i : Int)) (run step fin d i s)
  | 0, i, s, hd, hi => by
    obtain rfl : i = n := by omega
    exact he s hi
  | d + 1, i, s, hd, hi => by
    obtain ⟨h1, h2⟩ := hs s i (by omega) hi
    unfold run
    cases h : step s i with
    | inl s' =>
      obtain ⟨h3, h4⟩ := h1 s' h
      exact h4 _ (ev_for L n step fin Inv hs he d (i + 1) s' (by omega) h3)
    | inr a => exact h2 a h
/-- A list that is filled, place by place. -/
theorem ev_fill {β : Type} (L : Nat → List β → Int → Option (List β)) (n : Nat) (z : β) (v : Nat → β)
    (hs : ∀ x i, i < n → x.length = n → ∀ r, Ev (fun k => L k (x.set i (v i)) ((i + 1 : Nat) : Int)) r → Ev (fun k => L k x (i : Int)) r)
    (he : ∀ x, x.length = n → Ev (fun k => L k x (n : Int)) x) : Ev (fun k => L k (List.replicate n z) 0) ((List.range n).map v) := by
  have key : ∀ d i, i + d = n → Ev (fun k => L k ((List.range i).map v ++ List.replicate d z) (i : Int)) ((List.range n).map v) := by
    intro d
    induction d with
    | zero =>
      intro i hi
      obtain rfl : i = n := by omega
      have := he ((List.range i).map v) (by simp)
      simpa using this
    | succ d ih =>
      intro i hi
      refine hs _ i (by omega) (by simp; omega) _ ?_
      have e : ((List.range i).map v ++ List.replicate (d + 1) z).set i (v i) = (List.range (i + 1)).map v ++ List.replicate d z := by
        rw [List.set_append_right _ _ (by simp), List.length_map, List.length_range, Nat.sub_self, List.replicate_succ, List.set_cons_zero, List.range_succ, List.map_append, List.append_assoc]
        rfl
      rw [e]
      exact ih (i + 1) (by omega)
  have := key n 0 (by omega)
  simpa using this
theorem map_range_get {α β : Type} (l : List α) (c : α → β) (z : α) : (List.range l.length).map (fun i => c (l.getD i z)) = l.map c := by
  apply List.ext_getElem
  · simp
  · intro i h1 h2
    simp at h1
    simp [List.getD_eq_getElem?_getD, List.getElem?_eq_getElem h1]
/-- A test of all places. -/
theorem ev_all {α : Type} (L : Nat → Int → Option α) (n : Nat) (p : Nat → Bool) (no yes : α)
    (hs : ∀ i, i < n → (p i = true → ∀ r, Ev (fun k => L k ((i + 1 : Nat) : Int)) r → Ev (fun k => L k (i : Int)) r) ∧ (p i = false → Ev (fun k => L k (i : Int)) no))
    (he : Ev (fun k => L k (n : Int)) yes) : Ev (fun k => L k 0) (if (List.range n).all p = true then yes else no) := by
  have key : ∀ d i, i + d = n → Ev (fun k => L k (i : Int)) (if (List.range' i d).all p = true then yes else no) := by
    intro d
    induction d with
    | zero =>
      intro i hi
      obtain rfl : i = n := by omega
      simpa using he
    | succ d ih =>
      intro i hi
      rw [List.range'_succ, List.all_cons]
      cases hp : p i with
      | false =>
        have h := (hs i (by omega)).2 hp
        simpa using h
      | true =>
        have h := (hs i (by omega)).1 hp _ (ih (i + 1) (by omega))
        rw [Bool.true_and]
        exact h
  have := key n 0 (by omega)
  rw [List.range_eq_range']
  exact this
theorem rd_get (l : List Int) (i : Nat) : rd l (i : Int) = l.getD i 0 := by simp [rd]
theorem wsucc (i : Nat) (h : i < 9223372036854775807) : wrap64 ((i : Int) + 1) = ((i + 1 : Nat) : Int) := by rw [w64] <;> omega
theorem wpred (i : Nat) (h : 0 < i) (h2 : i < 9223372036854775807) : wrap64 ((i : Int) - 1) = ((i - 1 : Nat) : Int) := by rw [w64] <;> omega
end Go.Proofs.Ytkjljfeneoaojaa.Pure

namespace Go.Proofs.Ytkjljfeneoaojaa.P
open Go.RowKit Go.Proofs.YtkjljfeneoaojaaW.PrintWords Go.Proofs.YtkjljfeneoaojaaW.PrintLast Go.Proofs.YtkjljfeneoaojaaW.PrintMore
attribute [local go_sem] max2_int min2_int max_two min_two max_three min_three max_four min_four   -- for this text's walks alone
set_option linter.unusedVariables false
set_option linter.unusedSimpArgs false

/-! ### impl_isTime: function 86 -/
def impl_isTime.f (a0 : Int) : Option (Bool) := (impl_within.f a0 0 1000000).bind fun t107 => (some t107)
set_option maxHeartbeats 8000000 in
set_option maxRecDepth 100000 in
theorem impl_isTime.calls (a0 : Int) (r : Bool) (w : World) (h : impl_isTime.f a0 = some r) :
    Calls Try.prog 86 #[.int .i64 a0] w fun e w' => e = .returned (.bool r) ∧ Drawn0 w w' := by
  have H : ((impl_within.f a0 0 1000000).bind fun t107 => (some t107)) = some r := h
  clear h
  replace H := Option.bind_eq_some_iff.mp H
  obtain ⟨t107, A20, H⟩ := H
  replace H : (some t107) = some r := H
  have A2 := Aside0.mk A20
  clear A20
  obtain rfl := Option.some.inj H
  go_enter Try.func86, Try.ntmps86
  go_wp2_with (first | ((with_reducible refine gate_callee (f := 71) rfl ?_); refine goesL_ (some 4) rfl rfl Try.func71 (by kernel_rfl) rfl #[.int .i64 a0, .int .i64 0, .int .i64 1000000] rfl (by (try simp only [List.map_toArray, List.map_cons, List.map_nil]); first | done | rfl | (simp only [List.length_drop, List.length_take]; rfl)) ?_; (with_reducible refine (impl_within.calls a0 0 1000000 t107 _ A2.out).mono ?_); rintro e w' ⟨rfl, ⟨nd, rfl⟩⟩; refine ⟨_, rfl, ?_⟩))
  go_ret
  exact ⟨by first | rfl | (simp; done) | (simp [*]; done), by repeat (first | exact Drawn0.refl _ | apply Drawn0.step)⟩

end Go.Proofs.Ytkjljfeneoaojaa.P

namespace Go.Proofs.Ytkjljfeneoaojaa.Pure
open Go.RowKit Go.Proofs.YtkjljfeneoaojaaW.PrintWords Go.Proofs.YtkjljfeneoaojaaW.PrintLast Go.Proofs.Ytkjljfeneoaojaa.P
theorem within_eq (a b c : Int) : impl_within.f a b c = some (decide (b ≤ a) && decide (a ≤ c)) := by
  unfold impl_within.f; split <;> simp_all
  omega
theorem is_eq (a b c : Int) : spec_l03Is.f a b c = some (decide (b ≤ a) && decide (a ≤ c)) := by
  unfold spec_l03Is.f; split <;> simp_all
  omega
theorem time_eq (a : Int) : impl_isTime.f a = some (decide (0 ≤ a) && decide (a ≤ 1000000)) := by
  unfold impl_isTime.f; rw [within_eq]; rfl
theorem ite_some {α : Type} (c : Prop) [Decidable c] (a b : α) : (if c then some a else some b) = some (if c then a else b) := by split <;> rfl
theorem ite_and (x y : Bool) : (if x = true then y else false) = (x && y) := by cases x <;> rfl
end Go.Proofs.Ytkjljfeneoaojaa.Pure

namespace Go.Proofs.Ytkjljfeneoaojaa.Pure
open Go Go.RowKit Go.Proofs.YtkjljfeneoaojaaW.PrintWords Go.Proofs.YtkjljfeneoaojaaW.PrintLast Go.Proofs.YtkjljfeneoaojaaW.PrintMore Go.Proofs.Ytkjljfeneoaojaa.P
def many (s : List Int) (x : Int) : Nat := s.countP (fun y => y == x)
theorem many_le (s : List Int) (x : Int) : many s x ≤ s.length := List.countP_le_length
theorem many_take (s : List Int) (x : Int) (i : Nat) (h : i < s.length) : many (s.take (i + 1)) x = many (s.take i) x + (if s.getD i 0 = x then 1 else 0) := by
  unfold many
  rw [List.take_succ_eq_append_getElem h, List.countP_append]
  simp [List.getD_eq_getElem?_getD, List.getElem?_eq_getElem h, List.countP_cons]
def waveB (w : List Int) (i : Nat) : Bool := decide (1 ≤ w.getD i 0) && decide (w.getD i 0 ≤ 100) && !(decide (0 < i) && decide (w.getD (i - 1) 0 ≥ w.getD i 0))
def sizesB (w : List Int) (a b : Int) (s : List Int) : Bool := decide (1 ≤ s.length) && decide (s.length ≤ 12) && (decide (1 ≤ w.length) && decide (w.length ≤ 10)) && (decide (0 ≤ a) && decide (a ≤ (w.length : Int) - 1)) && (decide (0 ≤ b) && decide (b ≤ 12))
def wavesB (w : List Int) : Bool := (List.range w.length).all (waveB w)
def statesB (s : List Int) : Bool := (List.range s.length).all (fun i => decide (0 ≤ s.getD i 0) && decide (s.getD i 0 ≤ 3))
def shareZ (w : List Int) (a : Int) (s : List Int) : Int := wrap64 (Int.tdiv (wrap64 ((wrap64 ((s.length : Int) * (rd w a))) + 99)) 100)
def fleetB (w : List Int) (a b : Int) (s : List Int) : Bool := sizesB w a b s && wavesB w && statesB s && decide (w.getD (w.length - 1) 0 = 100) && decide ((s.length : Int) - many s 0 ≤ shareZ w a s)
theorem count_ev (w : List Int) (a b : Int) (s : List Int) (x : Int) (h : s.length ≤ 35184372088832) : Ev (fun k => impl_Fleet_count.f k w a b s x) (many s x : Int) := by
  have h0 := ev_for (fun k (c : Int) i => impl_Fleet_count.l0 k x c s (s.length : Int) i) s.length (fun c i => .inl (if s.getD i 0 = x then c + 1 else c)) (fun c => c) (fun c i => c = (many (s.take i) x : Int))
    (fun c i hi hc => ⟨fun c' hc' => by
      simp only [Sum.inl.injEq] at hc'
      subst hc'
      have hm := many_le (s.take i) x
      have ht := many_take s x i hi
      have hl := List.length_take_le i s
      refine ⟨by rw [ht, hc]; split <;> simp, fun r hr => Ev.step (fun k => ?_) hr⟩
      simp only [impl_Fleet_count.l0]
      rw [if_pos (by omega), if_pos (by omega), if_pos (by omega), rd_get, wsucc i (by omega)]
      split
      · rw [w64 (by omega) (by omega)]
      · rfl, fun a ha => by simp at ha⟩)
    (fun c hc => Ev.now' fun k => by simp only [impl_Fleet_count.l0]; rw [if_neg (by omega)])
  have key : ∀ d i c, i + d = s.length → c = (many (s.take i) x : Int) → run (fun (c : Int) i => (.inl (if s.getD i 0 = x then c + 1 else c) : Int ⊕ Int)) (fun c => c) d i c = (many s x : Int) := by
    intro d
    induction d with
    | zero => intro i c hi hc; rw [hc, show i = s.length by omega, List.take_length]; rfl
    | succ d ih =>
      intro i c hi hc
      refine ih (i + 1) _ (by omega) ?_
      rw [many_take s x i (by omega), hc]
      split <;> simp
  have h1 := h0 s.length 0 0 (by omega) (by simp [many])
  rw [key s.length 0 0 (by omega) (by simp [many])] at h1
  exact Ev.congr (fun k => by unfold impl_Fleet_count.f; rfl) h1
theorem sMany_ev (w : List Int) (a b : Int) (s : List Int) (x : Int) (h : s.length ≤ 35184372088832) : Ev (fun k => spec_l21Many.f k w a b s x) (many s x : Int) := by
  have h0 := ev_for (fun k (c : Int) i => spec_l21Many.l0 k x c i w a b s) s.length (fun c i => .inl (if s.getD i 0 = x then c + 1 else c)) (fun c => c) (fun c i => c = (many (s.take i) x : Int))
    (fun c i hi hc => ⟨fun c' hc' => by
      simp only [Sum.inl.injEq] at hc'
      subst hc'
      have hm := many_le (s.take i) x
      have ht := many_take s x i hi
      have hl := List.length_take_le i s
      refine ⟨by rw [ht, hc]; split <;> simp, fun r hr => Ev.step (fun k => ?_) hr⟩
      simp only [spec_l21Many.l0]
      rw [if_pos (by omega), if_pos (by omega), rd_get, wsucc i (by omega)]
      split
      · rw [w64 (by omega) (by omega)]
      · rfl, fun a ha => by simp at ha⟩)
    (fun c hc => Ev.now' fun k => by simp only [spec_l21Many.l0]; rw [if_neg (by omega)])
  have key : ∀ d i c, i + d = s.length → c = (many (s.take i) x : Int) → run (fun (c : Int) i => (.inl (if s.getD i 0 = x then c + 1 else c) : Int ⊕ Int)) (fun c => c) d i c = (many s x : Int) := by
    intro d
    induction d with
    | zero => intro i c hi hc; rw [hc, show i = s.length by omega, List.take_length]; rfl
    | succ d ih =>
      intro i c hi hc
      refine ih (i + 1) _ (by omega) ?_
      rw [many_take s x i (by omega), hc]
      split <;> simp
  have h1 := h0 s.length 0 0 (by omega) (by simp [many])
  rw [key s.length 0 0 (by omega) (by simp [many])] at h1
  exact Ev.congr (fun k => by unfold spec_l21Many.f; rfl) h1
/-- The waves' test, in the program. -/
theorem iWaves {w : List Int} {a b : Int} {s : List Int} {r : Bool} (h : w.length ≤ 35184372088832)
    (hr : wavesB w = true → Ev (fun k => impl_isFleet.l0 k w (w.length : Int) (w.length : Int) w a b s) r) : Ev (fun k => impl_isFleet.l0 k w (w.length : Int) 0 w a b s) (if wavesB w = true then r else false) := by
  have key : ∀ d i, i + d = w.length → (∀ j, j < i → waveB w j = true) → Ev (fun k => impl_isFleet.l0 k w (w.length : Int) (i : Int) w a b s) (if wavesB w = true then r else false) := by
    intro d
    induction d with
    | zero =>
      intro i hi hb
      obtain rfl : i = w.length := by omega
      have hw : wavesB w = true := by unfold wavesB; rw [List.all_eq_true]; intro j hj; exact hb j (List.mem_range.1 hj)
      rw [if_pos hw]
      exact hr hw
    | succ d ih =>
      intro i hi hb
      have hin : i < w.length := by omega
      cases hwv : waveB w i with
      | true =>
        refine Ev.step (fun k => ?_) (ih (i + 1) (by omega) (fun j hj => by rcases Nat.lt_succ_iff_lt_or_eq.1 hj with h | rfl; exact hb j h; exact hwv))
        simp only [impl_isFleet.l0]
        rw [if_pos (by omega), if_pos (by omega), if_pos (by omega), rd_get, within_eq, Option.bind_some, wsucc i (by omega)]
        simp only [waveB, Bool.and_eq_true, Bool.not_eq_true', Bool.and_eq_false_iff, decide_eq_true_eq, decide_eq_false_iff_not] at hwv
        obtain ⟨⟨h1, h2⟩, h3⟩ := hwv
        rw [if_pos (by rw [Bool.and_eq_true, decide_eq_true_eq, decide_eq_true_eq]; exact ⟨h1, h2⟩)]
        by_cases hz : 0 < i
        · rw [if_pos (by omega), wpred i hz (by omega), if_pos (by omega), if_pos (by omega), rd_get, if_neg (by rcases h3 with h3 | h3 <;> omega)]
        · rw [if_neg (by omega)]
      | false =>
        have hw : ¬ wavesB w = true := by
          unfold wavesB
          rw [List.all_eq_true]
          intro hh
          have := hh i (List.mem_range.2 hin)
          rw [hwv] at this
          cases this
        rw [if_neg hw]
        refine Ev.now' fun k => ?_
        simp only [impl_isFleet.l0]
        rw [if_pos (by omega), if_pos (by omega), if_pos (by omega), rd_get, within_eq, Option.bind_some, wsucc i (by omega)]
        by_cases h12 : 1 ≤ w.getD i 0 ∧ w.getD i 0 ≤ 100
        · rw [if_pos (by rw [Bool.and_eq_true, decide_eq_true_eq, decide_eq_true_eq]; exact h12)]
          have h3 : 0 < i ∧ w.getD (i - 1) 0 ≥ w.getD i 0 := by
            simp only [waveB, h12.1, h12.2, decide_true, Bool.true_and, Bool.not_eq_false', Bool.and_eq_true, decide_eq_true_eq] at hwv
            exact hwv
          rw [if_pos (by omega), wpred i h3.1 (by omega), if_pos (by omega), if_pos (by omega), rd_get, if_pos h3.2]
        · rw [if_neg (by simp only [Bool.and_eq_true, decide_eq_true_eq]; exact h12)]
  exact key w.length 0 (by omega) (fun j hj => by omega)
theorem sWaves {w : List Int} (h : w.length ≤ 35184372088832) : Ev (fun k => spec_l21Waves.l0 k w 0) (wavesB w) := by
  have key : ∀ d i, i + d = w.length → (∀ j, j < i → waveB w j = true) → Ev (fun k => spec_l21Waves.l0 k w (i : Int)) (wavesB w) := by
    intro d
    induction d with
    | zero =>
      intro i hi hb
      obtain rfl : i = w.length := by omega
      have hw : wavesB w = true := by unfold wavesB; rw [List.all_eq_true]; intro j hj; exact hb j (List.mem_range.1 hj)
      rw [hw]
      refine Ev.now' fun k => ?_
      simp only [spec_l21Waves.l0]
      rw [if_neg (by omega)]
    | succ d ih =>
      intro i hi hb
      have hin : i < w.length := by omega
      cases hwv : waveB w i with
      | true =>
        refine Ev.step (fun k => ?_) (ih (i + 1) (by omega) (fun j hj => by rcases Nat.lt_succ_iff_lt_or_eq.1 hj with h | rfl; exact hb j h; exact hwv))
        simp only [spec_l21Waves.l0]
        rw [if_pos (by omega), if_pos (by omega), rd_get, is_eq, Option.bind_some, wsucc i (by omega)]
        simp only [waveB, Bool.and_eq_true, Bool.not_eq_true', Bool.and_eq_false_iff, decide_eq_true_eq, decide_eq_false_iff_not] at hwv
        obtain ⟨⟨h1, h2⟩, h3⟩ := hwv
        rw [if_pos (by rw [Bool.and_eq_true, decide_eq_true_eq, decide_eq_true_eq]; exact ⟨h1, h2⟩)]
        by_cases hz : 0 < i
        · rw [if_pos (by omega), wpred i hz (by omega), if_pos (by omega), if_pos (by omega), rd_get, if_neg (by rcases h3 with h3 | h3 <;> omega)]
        · rw [if_neg (by omega)]
      | false =>
        have hw : wavesB w = false := by
          rw [Bool.eq_false_iff]
          unfold wavesB
          rw [Ne, List.all_eq_true]
          intro hh
          have := hh i (List.mem_range.2 hin)
          rw [hwv] at this
          cases this
        rw [hw]
        refine Ev.now' fun k => ?_
        simp only [spec_l21Waves.l0]
        rw [if_pos (by omega), if_pos (by omega), rd_get, is_eq, Option.bind_some, wsucc i (by omega)]
        by_cases h12 : 1 ≤ w.getD i 0 ∧ w.getD i 0 ≤ 100
        · rw [if_pos (by rw [Bool.and_eq_true, decide_eq_true_eq, decide_eq_true_eq]; exact h12)]
          have h3 : 0 < i ∧ w.getD (i - 1) 0 ≥ w.getD i 0 := by
            simp only [waveB, h12.1, h12.2, decide_true, Bool.true_and, Bool.not_eq_false', Bool.and_eq_true, decide_eq_true_eq] at hwv
            exact hwv
          rw [if_pos (by omega), wpred i h3.1 (by omega), if_pos (by omega), if_pos (by omega), rd_get, if_pos h3.2]
        · rw [if_neg (by simp only [Bool.and_eq_true, decide_eq_true_eq]; exact h12)]
  exact key w.length 0 (by omega) (fun j hj => by omega)
theorem sl1_ev (_i n : Nat) (h : n ≤ 35184372088832) (h2 : 0 < n) : wrap64 ((n : Int) - 1) = ((n - 1 : Nat) : Int) := by rw [w64] <;> omega
/-- The states' test, in the program. -/
theorem iStates {s : List Int} (h : s.length ≤ 35184372088832) : Ev (fun k => slices_ContainsFunc_int64_int64_of_isFleet_1.f k s) (!statesB s) := by
  have key : ∀ d i, i + d = s.length → (∀ j, j < i → (decide (0 ≤ s.getD j 0) && decide (s.getD j 0 ≤ 3)) = true) → ∃ r : Int, Ev (fun k => slices_IndexFunc_int64_int64_of_isFleet_1.l0 k s (s.length : Int) (i : Int)) r ∧ decide (r ≥ 0) = !statesB s := by
    intro d
    induction d with
    | zero =>
      intro i hi hb
      obtain rfl : i = s.length := by omega
      refine ⟨-1, Ev.now' fun k => by simp only [slices_IndexFunc_int64_int64_of_isFleet_1.l0]; rw [if_neg (by omega)], ?_⟩
      have : statesB s = true := by unfold statesB; rw [List.all_eq_true]; intro j hj; exact hb j (List.mem_range.1 hj)
      rw [this]; rfl
    | succ d ih =>
      intro i hi hb
      cases hv : (decide (0 ≤ s.getD i 0) && decide (s.getD i 0 ≤ 3)) with
      | true =>
        obtain ⟨r, h1, h2⟩ := ih (i + 1) (by omega) (fun j hj => by rcases Nat.lt_succ_iff_lt_or_eq.1 hj with h | rfl; exact hb j h; exact hv)
        refine ⟨r, Ev.step (fun k => ?_) h1, h2⟩
        simp only [slices_IndexFunc_int64_int64_of_isFleet_1.l0]
        rw [if_pos (by omega), if_pos (by omega), if_pos (by omega), rd_get, wsucc i (by omega)]
        have e : impl_isFleet_1.f (s.getD i 0) = some false := by unfold impl_isFleet_1.f; rw [within_eq, hv]; rfl
        rw [e]
        rfl
      | false =>
        refine ⟨i, Ev.now' fun k => ?_, ?_⟩
        · simp only [slices_IndexFunc_int64_int64_of_isFleet_1.l0]
          rw [if_pos (by omega), if_pos (by omega), if_pos (by omega), rd_get]
          have e : impl_isFleet_1.f (s.getD i 0) = some true := by unfold impl_isFleet_1.f; rw [within_eq, hv]; rfl
          rw [e]
          rfl
        · have : statesB s = false := by
            rw [Bool.eq_false_iff]
            unfold statesB
            rw [Ne, List.all_eq_true]
            intro hh
            have := hh i (List.mem_range.2 (by omega))
            rw [hv] at this
            cases this
          rw [this, decide_eq_true (by omega)]
          rfl
  obtain ⟨r, h1, h2⟩ := key s.length 0 (by omega) (fun j hj => by omega)
  unfold slices_ContainsFunc_int64_int64_of_isFleet_1.f
  refine Ev.bind (a := r) (Ev.congr (fun k => by unfold slices_IndexFunc_int64_int64_of_isFleet_1.f; rfl) h1) ?_
  rw [h2]
  exact Ev.now _
theorem iShare (w : List Int) (a b : Int) (s : List Int) (h0 : 0 ≤ a) (h1 : a < w.length) : impl_Fleet_share.f w a b s = some (shareZ w a s) := by
  unfold impl_Fleet_share.f impl_size_int64.f shareZ
  rw [Option.bind_some, if_pos h0, if_pos h1]
theorem sShare (w : List Int) (a b : Int) (s : List Int) (h0 : 0 ≤ a) (h1 : a < w.length) : spec_l21Share.f w a b s = some (shareZ w a s) := by
  unfold spec_l21Share.f shareZ
  rw [if_pos h0, if_pos h1]
theorem sizesB_parts {w : List Int} {a b : Int} {s : List Int} (h : sizesB w a b s = true) : 1 ≤ s.length ∧ s.length ≤ 12 ∧ 1 ≤ w.length ∧ w.length ≤ 10 ∧ 0 ≤ a ∧ a ≤ (w.length : Int) - 1 ∧ 0 ≤ b ∧ b ≤ 12 := by
  simp only [sizesB, Bool.and_eq_true, decide_eq_true_eq] at h
  omega
theorem left_ev (w : List Int) (a b : Int) (s : List Int) (h : s.length ≤ 35184372088832) : Ev (fun k => impl_Fleet_left.f k w a b s) ((s.length : Int) - many s 0) := by
  unfold impl_Fleet_left.f impl_size_int64.f
  refine Ev.bind (Ev.now _) (Ev.bind (count_ev w a b s 0 h) ?_)
  have := many_le s 0
  rw [w64 (by omega) (by omega)]
  exact Ev.now _
theorem iFleet_ev (w : List Int) (a b : Int) (s : List Int) (hw : w.length ≤ 35184372088832) (hs : s.length ≤ 35184372088832) : Ev (fun k => impl_isFleet.f k w a b s) (fleetB w a b s) := by
  have e : ∀ k, impl_isFleet.f k w a b s = impl_isFleet.j0 k (!sizesB w a b s) w a b s := by
    intro k
    unfold impl_isFleet.f impl_size_int64.f sizesB
    simp only [within_eq, Option.bind_some]
    rw [w64 (by omega) (by omega)]
    rw [show decide ((1 : Int) ≤ (s.length : Int)) = decide (1 ≤ s.length) from decide_eq_decide.2 (by omega), show decide ((s.length : Int) ≤ 12) = decide (s.length ≤ 12) from decide_eq_decide.2 (by omega),
      show decide ((1 : Int) ≤ (w.length : Int)) = decide (1 ≤ w.length) from decide_eq_decide.2 (by omega), show decide ((w.length : Int) ≤ 10) = decide (w.length ≤ 10) from decide_eq_decide.2 (by omega)]
    generalize (decide (1 ≤ s.length) && decide (s.length ≤ 12)) = p1
    generalize (decide (1 ≤ w.length) && decide (w.length ≤ 10)) = p2
    generalize (decide (0 ≤ a) && decide (a ≤ (w.length : Int) - 1)) = p3
    generalize (decide (0 ≤ b) && decide (b ≤ 12)) = p4
    cases p1 <;> cases p2 <;> cases p3 <;> cases p4 <;> rfl
  refine Ev.congr e ?_
  cases hz : sizesB w a b s with
  | false =>
    refine Ev.now' fun k => ?_
    simp only [impl_isFleet.j0, fleetB, hz]
    rfl
  | true =>
    obtain ⟨z1, z2, z3, z4, z5, z6, z7, z8⟩ := sizesB_parts hz
    refine Ev.step (f := fun k => impl_isFleet.l0 k w (w.length : Int) 0 w a b s) (fun k => by simp only [impl_isFleet.j0]; rfl) ?_
    have hfin : wavesB w = true → Ev (fun k => impl_isFleet.l0 k w (w.length : Int) (w.length : Int) w a b s) (statesB s && decide (w.getD (w.length - 1) 0 = 100) && decide ((s.length : Int) - many s 0 ≤ shareZ w a s)) := by
      intro _
      refine Ev.step (f := fun k => (slices_ContainsFunc_int64_int64_of_isFleet_1.f k s).bind fun t419 => (if t419 = true then (some false) else (if w.getD (w.length - 1) 0 = 100 then ((impl_Fleet_left.f k w a b s).bind fun t421 => (some (decide (t421 ≤ shareZ w a s)))) else (some false)))) (fun k => ?_) (Ev.bind (iStates hs) ?_)
      · simp only [impl_isFleet.l0]
        rw [if_neg (by omega), sl1_ev 0 w.length (by omega) (by omega), if_pos (by omega), if_pos (by omega), rd_get, iShare w a b s z5 (by omega)]
        rfl
      · cases hst : statesB s with
        | false => exact Ev.ifp rfl (Ev.now _)
        | true =>
          refine Ev.ifn (by simp) ?_
          by_cases h100 : w.getD (w.length - 1) 0 = 100
          · refine Ev.ifp h100 ?_
            rw [decide_eq_true h100]
            exact Ev.bind (left_ev w a b s hs) (Ev.now _)
          · refine Ev.ifn h100 ?_
            rw [decide_eq_false h100]
            exact Ev.now _
    have := iWaves (a := a) (b := b) (s := s) hw hfin
    have e2 : fleetB w a b s = (if wavesB w = true then (statesB s && decide (w.getD (w.length - 1) 0 = 100) && decide ((s.length : Int) - many s 0 ≤ shareZ w a s)) else false) := by
      unfold fleetB
      rw [hz]
      cases wavesB w <;> simp [Bool.and_assoc]
    rw [e2]
    exact this
theorem sWaves_ev (w : List Int) (hw : w.length ≤ 35184372088832) : Ev (fun k => spec_l21Waves.f k w) (decide (1 ≤ w.length) && decide (w.length ≤ 10) && decide (w.getD (w.length - 1) 0 = 100) && wavesB w) := by
  unfold spec_l21Waves.f
  by_cases h1 : 1 ≤ w.length
  · refine Ev.ifn (by omega) ?_
    by_cases h2 : w.length ≤ 10
    · refine Ev.ifn (by omega) ?_
      rw [sl1_ev 0 w.length (by omega) (by omega)]
      refine Ev.ifp (by omega) (Ev.ifp (by omega) ?_)
      rw [rd_get]
      by_cases h100 : w.getD (w.length - 1) 0 = 100
      · have e : (w.getD (w.length - 1) 0 != 100) = false := by rw [h100]; rfl
        rw [e, decide_eq_true h1, decide_eq_true h2, decide_eq_true h100]
        refine Ev.step (f := fun k => spec_l21Waves.l0 k w 0) (fun k => by simp only [spec_l21Waves.j0]; rfl) ?_
        simpa using sWaves hw
      · have e : (w.getD (w.length - 1) 0 != 100) = true := by rw [bne_iff_ne]; exact h100
        rw [e, decide_eq_false h100]
        refine Ev.now' fun k => ?_
        simp only [spec_l21Waves.j0]
        simp
    · refine Ev.ifp (by omega) ?_
      rw [decide_eq_false h2]
      refine Ev.now' fun k => ?_
      simp only [spec_l21Waves.j0]
      simp
  · refine Ev.ifp (by omega) ?_
    rw [decide_eq_false h1]
    refine Ev.now' fun k => ?_
    simp only [spec_l21Waves.j0]
    simp
theorem sStates {w : List Int} {a b : Int} {s : List Int} {r : Bool} (h : s.length ≤ 35184372088832)
    (hr : Ev (fun k => spec_FleetRight.l0 k (s.length : Int) w a b s) r) : Ev (fun k => spec_FleetRight.l0 k 0 w a b s) (if statesB s = true then r else false) := by
  have h0 := ev_all (fun k i => spec_FleetRight.l0 k i w a b s) s.length (fun i => decide (0 ≤ s.getD i 0) && decide (s.getD i 0 ≤ 3)) false r (fun i hi => ⟨fun hp q hq => Ev.step (fun k => by
      simp only [spec_FleetRight.l0]
      rw [if_pos (by omega), if_pos (by omega), rd_get, is_eq, hp, wsucc i (by omega)]
      rfl) hq, fun hp => Ev.now' fun k => by
      simp only [spec_FleetRight.l0]
      rw [if_pos (by omega), if_pos (by omega), rd_get, is_eq, hp]
      rfl⟩) hr
  exact h0
theorem sFleet_ev (w : List Int) (a b : Int) (s : List Int) (hw : w.length ≤ 35184372088832) (hs : s.length ≤ 35184372088832) : Ev (fun k => spec_FleetRight.f k w a b s) (fleetB w a b s) := by
  have hno : Ev (fun k => spec_FleetRight.j0 k true w a b s) false := Ev.now' fun k => by simp only [spec_FleetRight.j0]; rfl
  unfold spec_FleetRight.f
  by_cases h1 : 1 ≤ s.length
  case neg =>
    refine Ev.ifp (by omega) ?_
    have : fleetB w a b s = false := by simp [fleetB, sizesB, h1]
    rw [this]; exact hno
  refine Ev.ifn (by omega) ?_
  by_cases h2 : s.length ≤ 12
  case neg =>
    refine Ev.ifp (by omega) ?_
    have : fleetB w a b s = false := by simp [fleetB, sizesB, h2]
    rw [this]; exact hno
  refine Ev.ifn (by omega) (Ev.bind (sWaves_ev w hw) ?_)
  cases hwv : (decide (1 ≤ w.length) && decide (w.length ≤ 10) && decide (w.getD (w.length - 1) 0 = 100) && wavesB w) with
  | false =>
    refine Ev.ifn (by simp) ?_
    have : fleetB w a b s = false := by
      unfold fleetB sizesB
      simp only [Bool.and_eq_false_iff] at hwv ⊢
      rcases hwv with ((h | h) | h) | h
      · exact .inl (.inl (.inl (.inl (.inl (.inl (.inr (.inl h)))))))
      · exact .inl (.inl (.inl (.inl (.inl (.inl (.inr (.inr h)))))))
      · exact .inl (.inr h)
      · exact .inl (.inl (.inl (.inr h)))
    rw [this]; exact hno
  | true =>
    simp only [Bool.and_eq_true, decide_eq_true_eq] at hwv
    obtain ⟨⟨⟨w1, w2⟩, w3⟩, w4⟩ := hwv
    refine Ev.ifp rfl ?_
    rw [sl1_ev 0 w.length (by omega) (by omega), is_eq]
    refine Ev.bind (Ev.now _) ?_
    by_cases ha : 0 ≤ a ∧ a ≤ ((w.length - 1 : Nat) : Int)
    case neg =>
      have e : (decide (0 ≤ a) && decide (a ≤ ((w.length - 1 : Nat) : Int))) = false := by rw [Bool.eq_false_iff, Ne, Bool.and_eq_true, decide_eq_true_eq, decide_eq_true_eq]; exact ha
      rw [e]
      refine Ev.ifn (by simp) ?_
      have : fleetB w a b s = false := by
        unfold fleetB sizesB
        have e2 : (decide (0 ≤ a) && decide (a ≤ (w.length : Int) - 1)) = false := by rw [Bool.eq_false_iff, Ne, Bool.and_eq_true, decide_eq_true_eq, decide_eq_true_eq]; omega
        rw [e2]
        simp
      rw [this]; exact hno
    have e : (decide (0 ≤ a) && decide (a ≤ ((w.length - 1 : Nat) : Int))) = true := by rw [Bool.and_eq_true, decide_eq_true_eq, decide_eq_true_eq]; exact ha
    rw [e]
    refine Ev.ifp rfl ?_
    rw [is_eq]
    refine Ev.bind (Ev.now _) ?_
    have e2 : (decide (0 ≤ a) && decide (a ≤ (w.length : Int) - 1)) = true := by rw [Bool.and_eq_true, decide_eq_true_eq, decide_eq_true_eq]; omega
    have esz : sizesB w a b s = (decide (0 ≤ b) && decide (b ≤ 12)) := by
      unfold sizesB
      rw [e2, decide_eq_true h1, decide_eq_true h2, decide_eq_true w1, decide_eq_true w2]
      simp
    cases hb : (decide (0 ≤ b) && decide (b ≤ 12)) with
    | false =>
      have : fleetB w a b s = false := by unfold fleetB; rw [esz, hb]; simp
      rw [this]; exact hno
    | true =>
      refine Ev.step (f := fun k => spec_FleetRight.l0 k 0 w a b s) (fun k => by simp only [spec_FleetRight.j0]; rfl) ?_
      have hfin : Ev (fun k => spec_FleetRight.l0 k (s.length : Int) w a b s) (decide ((s.length : Int) - many s 0 ≤ shareZ w a s)) := by
        refine Ev.step (f := fun k => (spec_l21Many.f k w a b s 0).bind fun t610 => some (decide ((wrap64 ((s.length : Int) - t610)) ≤ shareZ w a s))) (fun k => ?_) (Ev.bind (sMany_ev w a b s 0 hs) ?_)
        · simp only [spec_FleetRight.l0]
          rw [if_neg (by omega), sShare w a b s ha.1 (by omega)]
          rfl
        · have := many_le s 0
          rw [w64 (by omega) (by omega)]
          exact Ev.now _
      have h5 := sStates hs hfin
      have e5 : fleetB w a b s = (if statesB s = true then decide ((s.length : Int) - many s 0 ≤ shareZ w a s) else false) := by
        unfold fleetB
        rw [esz, hb, w4, decide_eq_true w3]
        cases statesB s <;> simp
      rw [e5]
      exact h5
end Go.Proofs.Ytkjljfeneoaojaa.Pure
