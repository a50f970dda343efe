/- What the law FnExactFleetNew needs, part 6 of 9: the Lean functions of the Go functions that it reaches, with the proofs that the calls come to what they say, and plain facts about them. Conditions: those that each theorem states. Written by a session and by its programs (after the kit's printer). -/
import Derived.Test.YthoibokhmkjkdaaXFnExactFleetNew1
import Derived.Test.YthoibokhmkjkdaaXFnExactFleetNew3
import Derived.Test.YthoibokhmkjkdaaXFnExactFleetNew4
namespace Go.Proofs.Ythoibokhmkjkdaa.P
open Go.RowKit Go.Proofs.YthoibokhmkjkdaaW.PrintWords Go.Proofs.YthoibokhmkjkdaaW.PrintLast Go.Proofs.YthoibokhmkjkdaaW.PrintMore Go.Proofs.YthoibokhmkjkdaaW.PrintSq
attribute [local go_sem] max2_int min2_int max_two min_two max_three min_three max_four min_four   -- for this text's walks alone
set_option linter.unusedVariables false
set_option linter.unusedSimpArgs false

/-! ### slices_Clone_int64_int64: function 77 -/
def slices_Clone_int64_int64.f (l0 : List Int) : Option (List Int) := (some (([] : List Int) : List Int)).bind fun y101 => (if y101.length + l0.length < 17592186044416 then (some (y101 ++ l0)) else (none))
set_option maxHeartbeats 8000000 in
set_option maxRecDepth 100000 in
theorem slices_Clone_int64_int64.calls (A0 : Option Addr) (c0 : Nat) (l0 : List Int) (r : List Int) (w : World) (hr0 : Kd.C (Kd.int .i64) w A0 l0.length l0) (hc0 : l0.length ≤ c0) (h : slices_Clone_int64_int64.f l0 = some r) :
    Calls Try.prog 77 #[.slice A0 l0.length c0] w fun e w' => ∃ v0_ : Value, e = .returned (v0_) ∧ Kd.R (Kd.int .i64) 2 w' w.heap.size (fun _ => True) v0_ r ∧ Below w.heap.size w w' := by
  rcases A0 with _ | a0
  · have e0 : l0 = [] := by
      rcases Nat.eq_zero_or_pos l0.length with h0 | h0
      · exact List.length_eq_zero_iff.1 h0
      · obtain ⟨ad, e, _⟩ := hr0.2.2 h0; cases e
    subst e0
    obtain rfl : r = [] := by have h' := h; simp [slices_Clone_int64_int64.f] at h'; first | exact h' | exact h'.symm
    have hnq := fun (w : World) (n c : Nat) => Lib.run_eql_slice_nil (P := Try.prog) w 22 2 none n c 0 0 Try.underlying22
    go_enter Try.func77, Try.ntmps77
    go_wp2
    go_ret
    exact ⟨_, rfl, Kd.R_nil _ _ _ _ _, Below.refl _ _⟩
  · have HR0 := Aside0.mk hr0
    have HC0 := Aside0.mk hc0
    clear hr0 hc0
    have HB := aK (Below.refl w.heap.size w)
    have H : ((some (([] : List Int) : List Int)).bind fun y101 => (if y101.length + l0.length < 17592186044416 then (some (y101 ++ l0)) else (none))) = some r := h
    clear h
    obtain ⟨y101, hy101⟩ : ∃ y_ : List Int, y_ = (([] : List Int)) := ⟨_, rfl⟩
    replace H : (if y101.length + l0.length < 17592186044416 then (some (y101 ++ l0)) else (none)) = some r := by first | (rw [hy101]; with_reducible exact H) | (have H2_ := (Option.bind_some _ _).symm.trans H; rw [hy101]; with_reducible exact H2_) | (have H2_ := (Option.bind_some _ _).symm.trans H; with_reducible exact H2_) | with_reducible exact H | (rw [hy101]; exact H) | exact H
    have Ny101 := Aside0.mk hy101
    clear hy101
    by_cases c2 : y101.length + l0.length < 17592186044416
    · rw [if_pos c2] at H
      have LMc2 := Aside0.mk c2
      clear c2
      obtain ⟨y104, hy104⟩ : ∃ y_ : List Int, y_ = (y101 ++ l0) := ⟨_, rfl⟩
      replace H : (some y104) = some r := by first | (rw [hy104]; with_reducible exact H) | (have H2_ := (Option.bind_some _ _).symm.trans H; rw [hy104]; with_reducible exact H2_) | (have H2_ := (Option.bind_some _ _).symm.trans H; with_reducible exact H2_) | with_reducible exact H | (rw [hy104]; exact H) | exact H
      have Ny104 := Aside0.mk hy104
      clear hy104
      obtain rfl := Option.some.inj H
      have hnq := fun (w : World) (n c : Nat) => Lib.run_eql_slice_nil (P := Try.prog) w 22 2 (some a0) n c 0 0 Try.underlying22
      go_enter Try.func77, Try.ntmps77
      go_wp2_with (first | ((with_reducible refine gate_dst (N := 5) rfl ?_); refine Kd.R_lit (Kd.int .i64) _ 2 ?hg (N := 5) ?hd (xs := ([] : List Int)) (inner := []) (ok := fun _ => True) (okp := fun _ => True) ?hr ?hp (fun _ hk => hk) trivial (Below.refl _ _) (Nat.le_refl _) (by simp) ?_; (case hd => rfl); (case hg => rfl); (case hr => first | (go_simp; done) | (go_simp; rfl)); (case hp => exact (Reps.none _ _)); intro v102 w3 ho4 hb hg_ hnew_; clear hg_ hnew_; (first | rw [← Ny101.out] at ho4 | (simp only [Int.reduceToNat] at ho4; rw [← Ny101.out] at ho4)); have HO103 := aK (QW ho4 (below_size (bF0 HB.out))); replace HB := aK (below_step (bF0 HB.out) hb); clear hb ho4) | ((with_reducible refine gate_builtin (b := .append) (xs := #[.tmp 5, .tmp 6]) rfl ?_); at_builtin; refine Kd.R_append_rows (Kd.int .i64) (w0 := w) w.heap.size rfl (.tmp 5) (.tmp 6) 22 2 (.int .i64 0) 8 rfl Try.underlying22 info2 rfl (by decide) (by omega) v102 y101 l0 _ _ _ (fun _ => True) (fun _ => False) rfl rfl ?aO ?aR (fun _ _ h => h) (fun _ h => h.elim) ?aF ?aB ?aS ?aL ?_; (case aR => exact cF (Kd.C_below HR0.out HB.out)); (case aB => exact (bF0 HB.out)); (case aF => exact (fun _ _ => trivial)); (case aO => exact (rF HO103.out)); (case aS => exact (below_size (bF0 HB.out))); (case aL => have := LMc2.out; omega); intro v105 w5 ho hb hg hat; rw [← Ny104.out] at ho; have n0_ := aK (hb); have n1_ := aK (ho); clear HB; clear HO103; have HB := n0_; have HO106 := n1_; clear n0_ n1_; clear ho hb hg hat))
      go_ret
      exact ⟨_, by first | rfl | (simp only [i64_w, i32_w]; done) | (simp only [i64_w, i32_w]; rfl) | (simp [errW_none, errW_some] <;> rfl) | (simp [*, errW_none, errW_some] <;> rfl), by (with_reducible repeat (first | apply Kd.R_alloc | apply Kd.R_drewN | apply Kd.R_drew)); exact HO106.out, by repeat (first | (with_reducible first | exact HB.out | apply below_alloc | apply pw_below_drewN | apply below_drew1) | exact HB.out)⟩
    · rw [if_neg c2] at H
      exact absurd H (by simp)

end Go.Proofs.Ythoibokhmkjkdaa.P

namespace Go.Proofs.Ythoibokhmkjkdaa.P
open Go.RowKit Go.Proofs.YthoibokhmkjkdaaW.PrintWords Go.Proofs.YthoibokhmkjkdaaW.PrintLast Go.Proofs.YthoibokhmkjkdaaW.PrintMore Go.Proofs.YthoibokhmkjkdaaW.PrintSq
attribute [local go_sem] max2_int min2_int max_two min_two max_three min_three max_four min_four   -- for this text's walks alone
set_option linter.unusedVariables false
set_option linter.unusedSimpArgs false

/-! ### impl_FleetNew: function 22 -/
def impl_FleetNew.f (k : Nat) (a0 : Int) (l1 : List Int) (a2 : Int) : Option (List Int × Int × Int × List Int × List Int × Int) := if (l1.length : Int) > 400 then (some (([] : List Int), 0, 0, ([] : List Int), ([] : List Int), 2)) else ((impl_within.f a0 1 12).bind fun t102 => (if t102 = true then ((slices_Clone_int64_int64.f l1).bind fun t103 => (if 0 ≤ a0 then (if (a0 : Int).toNat ≤ 35184372088832 then ((some (List.replicate (a0 : Int).toNat 0 : List Int)).bind fun y106 => ((impl_isFleet.f k t103 0 a2 y106).bind fun t110 => (if t110 = true then (some (t103, 0, a2, y106, ([] : List Int), 0)) else (some (([] : List Int), 0, 0, ([] : List Int), ([] : List Int), 1))))) else (none)) else (none))) else (some (([] : List Int), 0, 0, ([] : List Int), ([] : List Int), 1))))
theorem impl_FleetNew.mono : ∀ a0 a1 a2 k, LeO (impl_FleetNew.f k a0 a1 a2) (impl_FleetNew.f (k + 1) a0 a1 a2) := by
  intro a0 a1 a2 k
  unfold impl_FleetNew.f
  repeat' first
      | (with_reducible exact impl_isFleet.mono _ _ _ _ _)
      | (with_reducible exact LeO.refl _)
      | (with_reducible exact LeO.none _)
      | (with_reducible refine LeO.ite ?_ ?_)
      | (with_reducible refine LeO.bind ?_ (fun _ => ?_))
      | exact impl_isFleet.mono _ _ _ _ _
      | exact LeO.none _
      | refine LeO.ite ?_ ?_
      | refine LeO.bind ?_ (fun _ => ?_)
def impl_FleetNew.T5 : Bool × List (List Nat × List Nat) := (true, [([], []), ([0], [0]), ([], []), ([], []), ([3, 3], [3]), ([1, 2, 4], [1, 2, 4]), ([], []), ([6, 5, 1, 0, 1, 2, 3, 4, 5, 6], [5, 6])])
def impl_FleetNew.B5 : List Nat := [0, 1, 0, 0, 8, 31, 0, 127]
theorem impl_FleetNew.tab5 : rtab .any (opsOf Try.f22 5) = impl_FleetNew.T5 := by kernel_rfl
theorem impl_FleetNew.bits5 : waitsOk impl_FleetNew.T5.2 impl_FleetNew.B5 = true := by kernel_rfl
set_option maxHeartbeats 8000000 in
set_option maxRecDepth 100000 in
theorem impl_FleetNew.calls (k : Nat) (a0 : Int) (A1 : Option Addr) (c1 : Nat) (l1 : List Int) (a2 : Int) (r1 : List Int) (r2 : Int) (r3 : Int) (r4 : List Int) (r5 : List Int) (r6 : Int) (w : World) (hr1 : Kd.C (Kd.int .i64) w A1 l1.length l1) (hc1 : l1.length ≤ c1) (h : impl_FleetNew.f k a0 l1 a2 = some (r1, r2, r3, r4, r5, r6)) :
    Calls Try.prog 22 #[.int .i64 a0, .slice A1 l1.length c1, .int .i64 a2] w fun e w' => ∃ v0_ v3_ v4_ : Value, e = .returned (.agg #[v0_, .int .i64 r2, .int .i64 r3, v3_, v4_, .int .i64 r6]) ∧ Kd.R (Kd.int .i64) 2 w' w.heap.size (fun k_ => some k_ ≠ (v3_ : Value).ownBlock ∧ some k_ ≠ (v4_ : Value).ownBlock) v0_ r1 ∧ Kd.R (Kd.int .i64) 2 w' w.heap.size (fun k_ => some k_ ≠ (v0_ : Value).ownBlock ∧ some k_ ≠ (v4_ : Value).ownBlock) v3_ r4 ∧ Kd.R (Kd.int .i64) 2 w' w.heap.size (fun k_ => some k_ ≠ (v0_ : Value).ownBlock ∧ some k_ ≠ (v3_ : Value).ownBlock) v4_ r5 ∧ Below w.heap.size w w' := by
  have hu32 := Try.underlying32
  have hu27 := Try.underlying27
  have HR1 := Aside0.mk hr1
  have HC1 := Aside0.mk hc1
  clear hr1 hc1
  have HB := aK (Below.refl w.heap.size w)
  have H : (if (l1.length : Int) > 400 then (some (([] : List Int), 0, 0, ([] : List Int), ([] : List Int), 2)) else ((impl_within.f a0 1 12).bind fun t102 => (if t102 = true then ((slices_Clone_int64_int64.f l1).bind fun t103 => (if 0 ≤ a0 then (if (a0 : Int).toNat ≤ 35184372088832 then ((some (List.replicate (a0 : Int).toNat 0 : List Int)).bind fun y106 => ((impl_isFleet.f k t103 0 a2 y106).bind fun t110 => (if t110 = true then (some (t103, 0, a2, y106, ([] : List Int), 0)) else (some (([] : List Int), 0, 0, ([] : List Int), ([] : List Int), 1))))) else (none)) else (none))) else (some (([] : List Int), 0, 0, ([] : List Int), ([] : List Int), 1))))) = some (r1, r2, r3, r4, r5, r6) := h
  clear h
  by_cases c4 : (l1.length : Int) > 400
  · rw [if_pos c4] at H
    have c4b0 : decide (400 < (l1.length : Int)) = true := decide_eq_true c4
    have c4b1 : decide (400 < l1.length) = true := decide_eq_true (by omega)
    clear c4
    simp only [Option.some.injEq, Prod.mk.injEq] at H
    obtain ⟨rfl, rfl, rfl, rfl, rfl, rfl⟩ := H
    go_enter Try.func22, Try.ntmps22
    go_wp2_with (first | ((with_reducible refine gate_dst (N := 6) rfl ?_); refine boxE (N := 6) (cs := #[.slice none 0 0, .int .i64 0, .int .i64 0, .slice none 0 0, .slice none 0 0, .int .i64 0]) (t := 32) (h := ?_); intro gb101 hg w5 hbox hb; have BK101 := aK (hbox); have GW101 := aK ((by rw [hg]; exact (below_size (bF0 HB.out)) : w.heap.size ≤ gb101)); have GE101 := aK ((by rw [hg]; exact (below_size (bF0 HB.out)) : w.heap.size ≤ gb101)); replace HB := aK (below_step (bF0 HB.out) hb); clear hb hbox hg; obtain ⟨hcz6_0, hcz6_1, hcz6_2, hcz6_3, hcz6_4, hcz6_5⟩ := cells6 BK101.out; obtain ⟨hfz6_0, hfz6_1, hfz6_2, hfz6_3, hfz6_4, hfz6_5⟩ := frz6 BK101.out))
    refine bodyPost_ret (results_cell_row rfl _ _ gb101 32 #[.slice none 0 0, .int .i64 0, .int .i64 0, .slice none 0 0, .slice none 0 0, .int .i64 2] (0, 0) _ rfl (kP6 BK101.out) Try.underlying32 rfl (by kernel_rfl)) rfl ?_
    exact ⟨_, _, _, by first | rfl | (simp only [i64_w, i32_w]; done) | (simp only [i64_w, i32_w]; rfl) | (simp [errW_none, errW_some] <;> rfl) | (simp [*, errW_none, errW_some] <;> rfl), by first | exact Kd.R_nil _ _ _ _ _ | exact Kd.N_nil _ _ _ _ _ | exact Kd.V_nil _ _ _ _ _ | exact Kd.Q_nil _ _ _ _ _ | exact Kd.S_nil _ _ _ _ _, by first | exact Kd.R_nil _ _ _ _ _ | exact Kd.N_nil _ _ _ _ _ | exact Kd.V_nil _ _ _ _ _ | exact Kd.Q_nil _ _ _ _ _ | exact Kd.S_nil _ _ _ _ _, by first | exact Kd.R_nil _ _ _ _ _ | exact Kd.N_nil _ _ _ _ _ | exact Kd.V_nil _ _ _ _ _ | exact Kd.Q_nil _ _ _ _ _ | exact Kd.S_nil _ _ _ _ _, by repeat (first | (with_reducible first | exact HB.out | apply below_alloc | apply pw_below_drewN | apply below_drew1 | refine below_set ?_ GE101.out) | exact HB.out)⟩
  · rw [if_neg c4] at H
    have c4b0 : decide (400 < (l1.length : Int)) = false := decide_eq_false c4
    have c4b1 : decide (400 < l1.length) = false := decide_eq_false (by omega)
    clear c4
    replace H := Option.bind_eq_some_iff.mp H
    obtain ⟨t102, A70, H⟩ := H
    replace H : (if t102 = true then ((slices_Clone_int64_int64.f l1).bind fun t103 => (if 0 ≤ a0 then (if (a0 : Int).toNat ≤ 35184372088832 then ((some (List.replicate (a0 : Int).toNat 0 : List Int)).bind fun y106 => ((impl_isFleet.f k t103 0 a2 y106).bind fun t110 => (if t110 = true then (some (t103, 0, a2, y106, ([] : List Int), 0)) else (some (([] : List Int), 0, 0, ([] : List Int), ([] : List Int), 1))))) else (none)) else (none))) else (some (([] : List Int), 0, 0, ([] : List Int), ([] : List Int), 1))) = some (r1, r2, r3, r4, r5, r6) := H
    have A7 := Aside0.mk A70
    clear A70
    by_cases c8 : t102 = true
    · subst c8
      have H1 : ((slices_Clone_int64_int64.f l1).bind fun t103 => (if 0 ≤ a0 then (if (a0 : Int).toNat ≤ 35184372088832 then ((some (List.replicate (a0 : Int).toNat 0 : List Int)).bind fun y106 => ((impl_isFleet.f k t103 0 a2 y106).bind fun t110 => (if t110 = true then (some (t103, 0, a2, y106, ([] : List Int), 0)) else (some (([] : List Int), 0, 0, ([] : List Int), ([] : List Int), 1))))) else (none)) else (none))) = some (r1, r2, r3, r4, r5, r6) := by rw [if_pos rfl] at H; exact H
      clear H
      have H := H1
      clear H1
      replace H := Option.bind_eq_some_iff.mp H
      obtain ⟨t103, A90, H⟩ := H
      replace H : (if 0 ≤ a0 then (if (a0 : Int).toNat ≤ 35184372088832 then ((some (List.replicate (a0 : Int).toNat 0 : List Int)).bind fun y106 => ((impl_isFleet.f k t103 0 a2 y106).bind fun t110 => (if t110 = true then (some (t103, 0, a2, y106, ([] : List Int), 0)) else (some (([] : List Int), 0, 0, ([] : List Int), ([] : List Int), 1))))) else (none)) else (none)) = some (r1, r2, r3, r4, r5, r6) := H
      have A9 := Aside0.mk A90
      clear A90
      by_cases c10 : 0 ≤ a0
      · rw [if_pos c10] at H
        have c10b0 := eq_true c10
        have c10b1 : decide (0 ≤ a0) = true := decide_eq_true c10
        clear c10
        by_cases c11 : (a0 : Int).toNat ≤ 35184372088832
        · rw [if_pos c11] at H
          have c11b0 := eq_true c11
          have c11b1 : decide ((a0 : Int).toNat ≤ 35184372088832) = true := decide_eq_true c11
          clear c11
          obtain ⟨y106, hy106⟩ : ∃ y_ : List Int, y_ = (List.replicate (a0 : Int).toNat 0) := ⟨_, rfl⟩
          replace H : ((impl_isFleet.f k t103 0 a2 y106).bind fun t110 => (if t110 = true then (some (t103, 0, a2, y106, ([] : List Int), 0)) else (some (([] : List Int), 0, 0, ([] : List Int), ([] : List Int), 1)))) = some (r1, r2, r3, r4, r5, r6) := by first | (rw [hy106]; with_reducible exact H) | (have H2_ := (Option.bind_some _ _).symm.trans H; rw [hy106]; with_reducible exact H2_) | (have H2_ := (Option.bind_some _ _).symm.trans H; with_reducible exact H2_) | with_reducible exact H | (rw [hy106]; exact H) | exact H
          have Ny106 := Aside0.mk hy106
          clear hy106
          replace H := Option.bind_eq_some_iff.mp H
          obtain ⟨t110, A120, H⟩ := H
          replace H : (if t110 = true then (some (t103, 0, a2, y106, ([] : List Int), 0)) else (some (([] : List Int), 0, 0, ([] : List Int), ([] : List Int), 1))) = some (r1, r2, r3, r4, r5, r6) := H
          have A12 := Aside0.mk A120
          clear A120
          by_cases c13 : t110 = true
          · subst c13
            have H1 : (some (t103, 0, a2, y106, ([] : List Int), 0)) = some (r1, r2, r3, r4, r5, r6) := by rw [if_pos rfl] at H; exact H
            clear H
            have H := H1
            clear H1
            simp only [Option.some.injEq, Prod.mk.injEq] at H
            obtain ⟨rfl, rfl, rfl, rfl, rfl, rfl⟩ := H
            go_enter Try.func22, Try.ntmps22
            try go_wp2_with (first | ((with_reducible refine gate_dst (N := 6) rfl ?_); refine boxE (N := 6) (cs := #[.slice none 0 0, .int .i64 0, .int .i64 0, .slice none 0 0, .slice none 0 0, .int .i64 0]) (t := 32) (h := ?_); intro gb101 hg w14 hbox hb; have BK101 := aK (hbox); have GW101 := aK ((by rw [hg]; exact (below_size (bF0 HB.out)) : w.heap.size ≤ gb101)); have GE101 := aK ((by rw [hg]; exact (below_size (bF0 HB.out)) : w.heap.size ≤ gb101)); replace HB := aK (below_step (bF0 HB.out) hb); clear hb hbox hg) | ((with_reducible refine gate_callee (f := 76) rfl ?_); refine goesL_ (some 13) rfl rfl Try.func76 (by kernel_rfl) rfl #[.int .i64 a0, .int .i64 1, .int .i64 12] rfl lF ?_; (with_reducible refine (impl_within.calls a0 1 12 true _ A7.out).mono ?_); rintro e w' ⟨rfl, ⟨nd, rfl⟩⟩; refine ⟨_, rfl, ?_⟩; (try (rw [drewN_self w14]; generalize hq_ : World.drewN w14 _ = w14; have n0_ : Aside0 (w14.heap[gb101]? = some (.cells #[.slice none 0 0, .int .i64 0, .int .i64 0, .slice none 0 0, .slice none 0 0, .int .i64 0] 32 (0, 0))) := ⟨by rw [← hq_]; exact (kF BK101.out)⟩; have n1_ : Aside0 (Below w.heap.size w w14) := ⟨by rw [← hq_]; exact (bF1 HB.out GE101.out)⟩; clear BK101 HB hq_; have BK101 := n0_; have HB := n1_; clear n0_ n1_))))
            have n0_ := aK (blk_drew BK101.out)
            have n1_ := aK (below_drew1 HB.out)
            clear BK101
            clear HB
            have BK101 := n0_
            have HB := n1_
            clear n0_ n1_
            refine start_ (n := 8) (S := fun w' => True) (ds := []) #[false, false, false, false, false, false, false, false] (by kernel_rfl) rfl rfl trivial (fun hHeld => ?_); refine with_tabW impl_FleetNew.tab5 impl_FleetNew.bits5 (fun HT_ HW_ => ?_)
            generalize w14.drew = w15 at BK101 HB hHeld ⊢
            refine pure_ (i := 0) (N := some 16) (v := ?_) (a' := ?_) #[true, false, false, false, false, false, false, false] rfl rfl (any_of HT_.out (by kernel_rfl)) (fun _ _ _ h => h) (Or.inl ⟨by rfl, ?_⟩) ?_ ?_
            rotate_left
            · intro w'
              go_simp
              with_reducible rfl
            rotate_left
            · simp only [Act.put, List.setIfInBounds_toArray, List.set_cons_zero, List.set_cons_succ, i64_w, i32_w]
              rfl
            refine pure_ (i := 2) (N := some 18) (v := ?_) (a' := ?_) #[true, false, true, false, false, false, false, false] rfl rfl (any_of HT_.out (by kernel_rfl)) (fun _ _ _ h => h) (Or.inl ⟨by rfl, ?_⟩) ?_ ?_
            rotate_left
            · intro w'
              go_simp
              with_reducible rfl
            rotate_left
            · simp only [Act.put, List.setIfInBounds_toArray, List.set_cons_zero, List.set_cons_succ, i64_w, i32_w]
              rfl
            refine pure_ (i := 3) (N := some 19) (v := ?_) (a' := ?_) #[true, false, true, true, false, false, false, false] rfl rfl (any_of HT_.out (by kernel_rfl)) (fun _ _ _ h => h) (Or.inl ⟨by rfl, ?_⟩) ?_ ?_
            rotate_left
            · intro w'
              go_simp
              with_reducible rfl
            rotate_left
            · simp only [Act.put, List.setIfInBounds_toArray, List.set_cons_zero, List.set_cons_succ, i64_w, i32_w]
              rfl
            refine join_ (σ := Value × Value × Nat) 1 #[true, true, true, true, true, true, true, false] (fun s_ => [(17, s_.1), (20, s_.2.1), (7, .pointer (some ⟨s_.2.2, 0, none⟩)), (21, .agg #[s_.1, .int .i64 0, .int .i64 a2, s_.2.1])]) (fun s_ w' => (Kd.R (Kd.int .i64) 2 w' w.heap.size (fun k_ => some k_ ≠ (s_.2.1 : Value).ownBlock) s_.1 t103) ∧ (Kd.R (Kd.int .i64) 2 w' w.heap.size (fun k_ => some k_ ≠ (s_.1 : Value).ownBlock) s_.2.1 y106) ∧ (w'.heap[gb101]? = some (.cells #[.slice none 0 0, .int .i64 0, .int .i64 0, .slice none 0 0, .slice none 0 0, .int .i64 0] 32 (0, 0))) ∧ (w'.heap[s_.2.2]? = some (.cells #[.slice none 0 0, .int .i64 0, .int .i64 0, .slice none 0 0] 27 (0, 0))) ∧ (w.heap.size ≤ s_.2.2) ∧ (w.heap.size ≤ s_.2.2) ∧ (gb101 ≠ s_.2.2) ∧ (s_.2.2 ≠ gb101) ∧ (Below w.heap.size w w')) ?_ ?_
            rotate_left
            · intro hJ1_4_6
              refine join_ (σ := Value × Value) 2 #[true, true, true, true, true, true, false, false] (fun s_ => [(17, s_.1), (20, s_.2), (21, .agg #[s_.1, .int .i64 0, .int .i64 a2, s_.2])]) (fun s_ w' => (Kd.R (Kd.int .i64) 2 w' w.heap.size (fun k_ => some k_ ≠ (s_.2 : Value).ownBlock) s_.1 t103) ∧ (Kd.R (Kd.int .i64) 2 w' w.heap.size (fun k_ => some k_ ≠ (s_.1 : Value).ownBlock) s_.2 y106) ∧ (w'.heap[gb101]? = some (.cells #[.slice none 0 0, .int .i64 0, .int .i64 0, .slice none 0 0, .slice none 0 0, .int .i64 0] 32 (0, 0))) ∧ (Below w.heap.size w w')) ?_ ?_
              rotate_left
              · intro hJ1_4
                refine join_ (σ := Value × Nat) 3 #[true, true, true, true, false, false, true, false] (fun s_ => [(17, s_.1), (7, .pointer (some ⟨s_.2, 0, none⟩))]) (fun s_ w' => (Kd.R (Kd.int .i64) 2 w' w.heap.size (fun _ => True) s_.1 t103) ∧ (w'.heap[gb101]? = some (.cells #[.slice none 0 0, .int .i64 0, .int .i64 0, .slice none 0 0, .slice none 0 0, .int .i64 0] 32 (0, 0))) ∧ (w'.heap[s_.2]? = some (.cells #[.slice none 0 0, .int .i64 0, .int .i64 0, .slice none 0 0] 27 (0, 0))) ∧ (w.heap.size ≤ s_.2) ∧ (w.heap.size ≤ s_.2) ∧ (gb101 ≠ s_.2) ∧ (s_.2 ≠ gb101) ∧ (Below w.heap.size w w')) ?_ ?_
                rotate_left
                · intro hJ1_6
                  refine join_ (σ := Value × Nat) 3 #[true, false, true, true, true, false, true, false] (fun s_ => [(20, s_.1), (7, .pointer (some ⟨s_.2, 0, none⟩))]) (fun s_ w' => (Kd.R (Kd.int .i64) 2 w' w.heap.size (fun _ => True) s_.1 y106) ∧ (w'.heap[gb101]? = some (.cells #[.slice none 0 0, .int .i64 0, .int .i64 0, .slice none 0 0, .slice none 0 0, .int .i64 0] 32 (0, 0))) ∧ (w'.heap[s_.2]? = some (.cells #[.slice none 0 0, .int .i64 0, .int .i64 0, .slice none 0 0] 27 (0, 0))) ∧ (w.heap.size ≤ s_.2) ∧ (w.heap.size ≤ s_.2) ∧ (gb101 ≠ s_.2) ∧ (s_.2 ≠ gb101) ∧ (Below w.heap.size w w')) ?_ ?_
                  rotate_left
                  · intro hJ4_6
                    refine join_ (σ := Value) 4 #[true, true, true, true, false, false, false, false] (fun s_ => [(17, s_)]) (fun s_ w' => (Kd.R (Kd.int .i64) 2 w' w.heap.size (fun _ => True) s_ t103) ∧ (w'.heap[gb101]? = some (.cells #[.slice none 0 0, .int .i64 0, .int .i64 0, .slice none 0 0, .slice none 0 0, .int .i64 0] 32 (0, 0))) ∧ (Below w.heap.size w w')) ?_ ?_
                    rotate_left
                    · intro hJ1
                      refine join_ (σ := Value) 4 #[true, false, true, true, true, false, false, false] (fun s_ => [(20, s_)]) (fun s_ w' => (Kd.R (Kd.int .i64) 2 w' w.heap.size (fun _ => True) s_ y106) ∧ (w'.heap[gb101]? = some (.cells #[.slice none 0 0, .int .i64 0, .int .i64 0, .slice none 0 0, .slice none 0 0, .int .i64 0] 32 (0, 0))) ∧ (Below w.heap.size w w')) ?_ ?_
                      rotate_left
                      · intro hJ4
                        refine join_ (σ := Nat) 4 #[true, false, true, true, false, false, true, false] (fun s_ => [(7, .pointer (some ⟨s_, 0, none⟩))]) (fun s_ w' => (w'.heap[gb101]? = some (.cells #[.slice none 0 0, .int .i64 0, .int .i64 0, .slice none 0 0, .slice none 0 0, .int .i64 0] 32 (0, 0))) ∧ (w'.heap[s_]? = some (.cells #[.slice none 0 0, .int .i64 0, .int .i64 0, .slice none 0 0] 27 (0, 0))) ∧ (w.heap.size ≤ s_) ∧ (w.heap.size ≤ s_) ∧ (gb101 ≠ s_) ∧ (s_ ≠ gb101) ∧ (Below w.heap.size w w')) ?_ ?_
                        rotate_left
                        · intro hJ6
                          refine three_ (i := 1) (j := 4) (k := 6) (Ni := some 17) (Nj := some 20) (Nk := some 7) #[true, true, true, true, false, false, false, false] #[true, false, true, true, true, false, false, false] #[true, false, true, true, false, false, true, false] rfl rfl rfl rfl rfl rfl (three_of HT_.out (by kernel_rfl)) (by decide) (by decide) (by decide) (fun K hK => ?_) (fun K hK => ?_) (fun K hK => ?_)
                          · skip
                            refine goes_ Try.func77 (by kernel_rfl) rfl #[.slice A1 l1.length c1] (by rfl) rfl rfl lF ?_
                            with_reducible refine (slices_Clone_int64_int64.calls _ _ l1 t103 _ ?side1 ?side2 A9.out).mono ?_
                            (case side1 => exact cF (Kd.C_below HR1.out HB.out))
                            (case side2 => exact HC1.out)
                            rintro e w16 ⟨v104, rfl, ho0, hb⟩
                            refine ⟨_, rfl, ?_⟩
                            have n0_ := aK (QW ho0 (below_size (bF1 HB.out GE101.out)))
                            have n1_ := aK (kB BK101.out hb)
                            have n2_ := aK (below_step (bF1 HB.out GE101.out) hb)
                            clear BK101
                            clear HB
                            have HO105 := n0_
                            have BK101 := n1_
                            have HB := n2_
                            clear n0_ n1_ n2_
                            (try clear hb)
                            (try clear hb2)
                            (try clear hk)
                            (try clear hi)
                            (try clear ho0)
                            refine hK.out _ _ trivial (fun hHeld => ?_)
                            clear hK K
                            refine norm_ (a' := ?_) ?_ ?_
                            rotate_left
                            · show Act.put _ (some 17) _ = _
                              simp only [Act.put, List.setIfInBounds_toArray, List.set_cons_zero, List.set_cons_succ, i64_w, i32_w]
                              rfl
                            exact norm_ (by first | (simp only [putAll, Act.put, List.setIfInBounds_toArray, List.set_cons_zero, List.set_cons_succ]; done) | (simp only [putAll, Act.put, List.setIfInBounds_toArray, List.set_cons_zero, List.set_cons_succ]; rfl)) (hJ1 (v104) _ ⟨(rF HO105.out), (kF BK101.out), (bF1 HB.out GE101.out)⟩)
                          · skip
                            refine Kd.R_make_step (Kd.int .i64) _ 2 (by rfl) (N := 20) rfl 22 _ _ rfl a0 rfl rfl Try.underlying22 (.int .i64 0) 8 info2 rfl (by decide) (by omega) 0 (ok := fun _ => True) (okp := fun _ => True) rfl (fun _ hk => hk) trivial (of_decide_eq_true (by first | (with_reducible assumption) | assumption)) (Nat.le_trans (Nat.mul_le_mul_right _ (of_decide_eq_true (by first | (with_reducible assumption) | assumption) : a0.toNat ≤ 35184372088832)) (by omega)) (Below.refl _ _) (Nat.le_refl _) ?_
                            intro v107 w16 ho17 hb hg_ hnew_
                            clear hg_ hnew_
                            (first | rw [← Ny106.out] at ho17 | (simp only [Int.reduceToNat] at ho17; rw [← Ny106.out] at ho17))
                            have n0_ := aK (QW ho17 (below_size (bF1 HB.out GE101.out)))
                            have n1_ := aK (kB BK101.out hb)
                            have n2_ := aK (below_step (bF1 HB.out GE101.out) hb)
                            clear BK101
                            clear HB
                            have HO108 := n0_
                            have BK101 := n1_
                            have HB := n2_
                            clear n0_ n1_ n2_
                            clear hb ho17
                            refine hK.out _ _ trivial (fun hHeld => ?_)
                            clear hK K
                            refine norm_ (a' := ?_) ?_ ?_
                            rotate_left
                            · show Act.put _ (some 20) _ = _
                              simp only [Act.put, List.setIfInBounds_toArray, List.set_cons_zero, List.set_cons_succ, i64_w, i32_w]
                              rfl
                            exact norm_ (by first | (simp only [putAll, Act.put, List.setIfInBounds_toArray, List.set_cons_zero, List.set_cons_succ]; done) | (simp only [putAll, Act.put, List.setIfInBounds_toArray, List.set_cons_zero, List.set_cons_succ]; rfl)) (hJ4 (v107) _ ⟨(rF HO108.out), (kF BK101.out), (bF1 HB.out GE101.out)⟩)
                          · skip
                            refine box_step ?hg (N := 7) ?hd (cs := #[.slice none 0 0, .int .i64 0, .int .i64 0, .slice none 0 0]) (t := 27) ?hr ?_; (case hd => rfl); (case hg => rfl); (case hr => first | (go_simp; done) | (go_simp; rfl))
                            intro gb109 hg w16 hbox hb
                            have n0_ := aK (kB BK101.out hb)
                            have n1_ := aK (below_step (bF1 HB.out GE101.out) hb)
                            have n2_ := aK (hbox)
                            have n3_ := aK ((by rw [hg]; exact (below_size (bF1 HB.out GE101.out)) : w.heap.size ≤ gb109))
                            have n4_ := aK ((by rw [hg]; exact (below_size (bF1 HB.out GE101.out)) : w.heap.size ≤ gb109))
                            have n5_ := aK ((by rw [hg]; exact Nat.ne_of_lt (blk_lt (g := gb101) (o := .cells #[.slice none 0 0, .int .i64 0, .int .i64 0, .slice none 0 0, .slice none 0 0, .int .i64 0] 32 (0, 0)) (kF BK101.out)) : gb101 ≠ gb109))
                            have n6_ := aK ((by rw [hg]; exact Nat.ne_of_gt (blk_lt (g := gb101) (o := .cells #[.slice none 0 0, .int .i64 0, .int .i64 0, .slice none 0 0, .slice none 0 0, .int .i64 0] 32 (0, 0)) (kF BK101.out)) : gb109 ≠ gb101))
                            clear BK101
                            clear HB
                            have BK101 := n0_
                            have HB := n1_
                            have BK109 := n2_
                            have GW109 := n3_
                            have GE109 := n4_
                            have NB101_109 := n5_
                            have NB109_101 := n6_
                            clear n0_ n1_ n2_ n3_ n4_ n5_ n6_
                            clear hb hbox hg
                            refine hK.out _ _ trivial (fun hHeld => ?_)
                            clear hK K
                            refine norm_ (a' := ?_) ?_ ?_
                            rotate_left
                            · show Act.put _ (some 7) _ = _
                              simp only [Act.put, List.setIfInBounds_toArray, List.set_cons_zero, List.set_cons_succ, i64_w, i32_w]
                              rfl
                            exact norm_ (by first | (simp only [putAll, Act.put, List.setIfInBounds_toArray, List.set_cons_zero, List.set_cons_succ]; done) | (simp only [putAll, Act.put, List.setIfInBounds_toArray, List.set_cons_zero, List.set_cons_succ]; rfl)) (hJ6 (gb109) _ ⟨(kF BK101.out), (kF BK109.out), GW109.out, GE109.out, NB101_109.out, NB109_101.out, (bF2 HB.out GE101.out GE109.out)⟩)
                        · skip
                          rintro gb109 w17 ⟨h0_, h1_, h2_, h3_, h4_, h5_, h6_⟩
                          have n0_ : Aside0 (w17.heap[gb101]? = some (.cells #[.slice none 0 0, .int .i64 0, .int .i64 0, .slice none 0 0, .slice none 0 0, .int .i64 0] 32 (0, 0))) := ⟨h0_⟩
                          have n1_ : Aside0 (w17.heap[gb109]? = some (.cells #[.slice none 0 0, .int .i64 0, .int .i64 0, .slice none 0 0] 27 (0, 0))) := ⟨h1_⟩
                          have n2_ : Aside0 (w.heap.size ≤ gb109) := ⟨h2_⟩
                          have n3_ : Aside0 (w.heap.size ≤ gb109) := ⟨h3_⟩
                          have n4_ : Aside0 (gb101 ≠ gb109) := ⟨h4_⟩
                          have n5_ : Aside0 (gb109 ≠ gb101) := ⟨h5_⟩
                          have n6_ : Aside0 (Below w.heap.size w w17) := ⟨h6_⟩
                          clear BK101
                          clear HB
                          clear h0_ h1_ h2_ h3_ h4_ h5_ h6_
                          have BK101 := n0_
                          have BK109 := n1_
                          have GW109 := n2_
                          have GE109 := n3_
                          have NB101_109 := n4_
                          have NB109_101 := n5_
                          have HB := n6_
                          clear n0_ n1_ n2_ n3_ n4_ n5_ n6_
                          have hHeld := trivial
                          refine norm_ (a' := ?_) ?_ ?_
                          rotate_left
                          · simp only [putAll, Act.put, List.setIfInBounds_toArray, List.set_cons_zero, List.set_cons_succ]
                            rfl
                          refine two_ (i := 1) (j := 4) (Ni := some 17) (Nj := some 20) #[true, true, true, true, false, false, true, false] #[true, false, true, true, true, false, true, false] rfl rfl rfl rfl (two_of HT_.out (by kernel_rfl)) (by decide) (by decide) (fun K hK => ?_) (fun K hK => ?_)
                          · skip
                            refine goes_ Try.func77 (by kernel_rfl) rfl #[.slice A1 l1.length c1] (by rfl) rfl rfl lF ?_
                            with_reducible refine (slices_Clone_int64_int64.calls _ _ l1 t103 _ ?side1 ?side2 A9.out).mono ?_
                            (case side1 => exact cF (Kd.C_below HR1.out HB.out))
                            (case side2 => exact HC1.out)
                            rintro e w18 ⟨v104, rfl, ho0, hb⟩
                            refine ⟨_, rfl, ?_⟩
                            have n0_ := aK (QW ho0 (below_size (bF2 HB.out GE101.out GE109.out)))
                            have n1_ := aK (kB BK101.out hb)
                            have n2_ := aK (kB BK109.out hb)
                            have n3_ := aK (below_step (bF2 HB.out GE101.out GE109.out) hb)
                            clear BK101
                            clear BK109
                            clear HB
                            have HO105 := n0_
                            have BK101 := n1_
                            have BK109 := n2_
                            have HB := n3_
                            clear n0_ n1_ n2_ n3_
                            (try clear hb)
                            (try clear hb2)
                            (try clear hk)
                            (try clear hi)
                            (try clear ho0)
                            refine hK.out _ _ trivial (fun hHeld => ?_)
                            clear hK K
                            refine norm_ (a' := ?_) ?_ ?_
                            rotate_left
                            · show Act.put _ (some 17) _ = _
                              simp only [Act.put, List.setIfInBounds_toArray, List.set_cons_zero, List.set_cons_succ, i64_w, i32_w]
                              rfl
                            exact norm_ (by first | (simp only [putAll, Act.put, List.setIfInBounds_toArray, List.set_cons_zero, List.set_cons_succ]; done) | (simp only [putAll, Act.put, List.setIfInBounds_toArray, List.set_cons_zero, List.set_cons_succ]; rfl)) (hJ1_6 (v104, gb109) _ ⟨(rF HO105.out), (kF BK101.out), (kF BK109.out), GW109.out, GE109.out, NB101_109.out, NB109_101.out, (bF2 HB.out GE101.out GE109.out)⟩)
                          · skip
                            refine Kd.R_make_step (Kd.int .i64) _ 2 (by rfl) (N := 20) rfl 22 _ _ rfl a0 rfl rfl Try.underlying22 (.int .i64 0) 8 info2 rfl (by decide) (by omega) 0 (ok := fun _ => True) (okp := fun _ => True) rfl (fun _ hk => hk) trivial (of_decide_eq_true (by first | (with_reducible assumption) | assumption)) (Nat.le_trans (Nat.mul_le_mul_right _ (of_decide_eq_true (by first | (with_reducible assumption) | assumption) : a0.toNat ≤ 35184372088832)) (by omega)) (Below.refl _ _) (Nat.le_refl _) ?_
                            intro v107 w18 ho19 hb hg_ hnew_
                            clear hg_ hnew_
                            (first | rw [← Ny106.out] at ho19 | (simp only [Int.reduceToNat] at ho19; rw [← Ny106.out] at ho19))
                            have n0_ := aK (QW ho19 (below_size (bF2 HB.out GE101.out GE109.out)))
                            have n1_ := aK (kB BK101.out hb)
                            have n2_ := aK (kB BK109.out hb)
                            have n3_ := aK (below_step (bF2 HB.out GE101.out GE109.out) hb)
                            clear BK101
                            clear BK109
                            clear HB
                            have HO108 := n0_
                            have BK101 := n1_
                            have BK109 := n2_
                            have HB := n3_
                            clear n0_ n1_ n2_ n3_
                            clear hb ho19
                            refine hK.out _ _ trivial (fun hHeld => ?_)
                            clear hK K
                            refine norm_ (a' := ?_) ?_ ?_
                            rotate_left
                            · show Act.put _ (some 20) _ = _
                              simp only [Act.put, List.setIfInBounds_toArray, List.set_cons_zero, List.set_cons_succ, i64_w, i32_w]
                              rfl
                            exact norm_ (by first | (simp only [putAll, Act.put, List.setIfInBounds_toArray, List.set_cons_zero, List.set_cons_succ]; done) | (simp only [putAll, Act.put, List.setIfInBounds_toArray, List.set_cons_zero, List.set_cons_succ]; rfl)) (hJ4_6 (v107, gb109) _ ⟨(rF HO108.out), (kF BK101.out), (kF BK109.out), GW109.out, GE109.out, NB101_109.out, NB109_101.out, (bF2 HB.out GE101.out GE109.out)⟩)
                      · skip
                        rintro v107 w18 ⟨h0_, h1_, h2_⟩
                        have n0_ : Aside0 (Kd.R (Kd.int .i64) 2 w18 w.heap.size (fun _ => True) v107 y106) := ⟨h0_⟩
                        have n1_ : Aside0 (w18.heap[gb101]? = some (.cells #[.slice none 0 0, .int .i64 0, .int .i64 0, .slice none 0 0, .slice none 0 0, .int .i64 0] 32 (0, 0))) := ⟨h1_⟩
                        have n2_ : Aside0 (Below w.heap.size w w18) := ⟨h2_⟩
                        clear BK101
                        clear HB
                        clear h0_ h1_ h2_
                        have HO108 := n0_
                        have BK101 := n1_
                        have HB := n2_
                        clear n0_ n1_ n2_
                        have hHeld := trivial
                        refine norm_ (a' := ?_) ?_ ?_
                        rotate_left
                        · simp only [putAll, Act.put, List.setIfInBounds_toArray, List.set_cons_zero, List.set_cons_succ]
                          rfl
                        refine two_ (i := 1) (j := 6) (Ni := some 17) (Nj := some 7) #[true, true, true, true, true, false, false, false] #[true, false, true, true, true, false, true, false] rfl rfl rfl rfl (two_of HT_.out (by kernel_rfl)) (by decide) (by decide) (fun K hK => ?_) (fun K hK => ?_)
                        · skip
                          refine goes_ Try.func77 (by kernel_rfl) rfl #[.slice A1 l1.length c1] (by rfl) rfl rfl lF ?_
                          with_reducible refine (slices_Clone_int64_int64.calls _ _ l1 t103 _ ?side1 ?side2 A9.out).mono ?_
                          (case side1 => exact cF (Kd.C_below HR1.out HB.out))
                          (case side2 => exact HC1.out)
                          rintro e w19 ⟨v104, rfl, ho0, hb⟩
                          refine ⟨_, rfl, ?_⟩
                          have n0_ := aK (Kd.R_elder' (rF HO108.out) (QB ho0) hb)
                          have n1_ := aK (QW (QN ho0 (rL (HO108.out))) (below_size (bF1 HB.out GE101.out)))
                          have n2_ := aK (kB BK101.out hb)
                          have n3_ := aK (below_step (bF1 HB.out GE101.out) hb)
                          clear HO108
                          clear BK101
                          clear HB
                          have HO108 := n0_
                          have HO105 := n1_
                          have BK101 := n2_
                          have HB := n3_
                          clear n0_ n1_ n2_ n3_
                          (try clear hb)
                          (try clear hb2)
                          (try clear hk)
                          (try clear hi)
                          (try clear ho0)
                          obtain ⟨Ao20, co20, eo20⟩ := Kd.R_slice HO108.out
                          (first | subst eo20 | (injection eo20 with f1_ f2_ f3_; have f4_ := f1_.symm; have f5_ := f3_.symm; clear f1_ f2_ f3_; subst f4_; subst f5_))
                          obtain ⟨Ao21, co21, eo21⟩ := Kd.R_slice HO105.out
                          (first | subst eo21 | (injection eo21 with f1_ f2_ f3_; have f4_ := f1_.symm; have f5_ := f3_.symm; clear f1_ f2_ f3_; subst f4_; subst f5_))
                          refine hK.out _ _ trivial (fun hHeld => ?_)
                          clear hK K
                          refine norm_ (a' := ?_) ?_ ?_
                          rotate_left
                          · show Act.put _ (some 17) _ = _
                            simp only [Act.put, List.setIfInBounds_toArray, List.set_cons_zero, List.set_cons_succ, i64_w, i32_w]
                            rfl
                          refine pure_ (i := 5) (N := some 21) (v := ?_) (a' := ?_) #[true, true, true, true, true, true, false, false] rfl rfl (any_of HT_.out (by kernel_rfl)) (fun _ _ _ h => h) (Or.inl ⟨by rfl, ?_⟩) ?_ ?_
                          rotate_left
                          · intro w'
                            go_simp
                            with_reducible rfl
                          rotate_left
                          · simp only [Act.put, List.setIfInBounds_toArray, List.set_cons_zero, List.set_cons_succ, i64_w, i32_w]
                            rfl
                          exact norm_ (by first | (simp only [putAll, Act.put, List.setIfInBounds_toArray, List.set_cons_zero, List.set_cons_succ]; done) | (simp only [putAll, Act.put, List.setIfInBounds_toArray, List.set_cons_zero, List.set_cons_succ]; rfl)) (hJ1_4 (.slice Ao21 t103.length co21, .slice Ao20 y106.length co20) _ ⟨(by (with_reducible repeat (first | apply Kd.R_alloc | apply Kd.R_drewN | apply Kd.R_drew)); exact QM HO105.out (fun _ hk => hk.2)), (by (with_reducible repeat (first | apply Kd.R_alloc | apply Kd.R_drewN | apply Kd.R_drew)); exact QM HO108.out (fun _ hk => hk.2)), (kF BK101.out), (bF1 HB.out GE101.out)⟩)
                        · skip
                          refine box_step ?hg (N := 7) ?hd (cs := #[.slice none 0 0, .int .i64 0, .int .i64 0, .slice none 0 0]) (t := 27) ?hr ?_; (case hd => rfl); (case hg => rfl); (case hr => first | (go_simp; done) | (go_simp; rfl))
                          intro gb109 hg w19 hbox hb
                          have n0_ := aK (rB HO108.out hb)
                          have n1_ := aK (kB BK101.out hb)
                          have n2_ := aK (below_step (bF1 HB.out GE101.out) hb)
                          have n3_ := aK (hbox)
                          have n4_ := aK ((by rw [hg]; exact (below_size (bF1 HB.out GE101.out)) : w.heap.size ≤ gb109))
                          have n5_ := aK ((by rw [hg]; exact (below_size (bF1 HB.out GE101.out)) : w.heap.size ≤ gb109))
                          have n6_ := aK ((by rw [hg]; exact Nat.ne_of_lt (blk_lt (g := gb101) (o := .cells #[.slice none 0 0, .int .i64 0, .int .i64 0, .slice none 0 0, .slice none 0 0, .int .i64 0] 32 (0, 0)) (kF BK101.out)) : gb101 ≠ gb109))
                          have n7_ := aK ((by rw [hg]; exact Nat.ne_of_gt (blk_lt (g := gb101) (o := .cells #[.slice none 0 0, .int .i64 0, .int .i64 0, .slice none 0 0, .slice none 0 0, .int .i64 0] 32 (0, 0)) (kF BK101.out)) : gb109 ≠ gb101))
                          clear HO108
                          clear BK101
                          clear HB
                          have HO108 := n0_
                          have BK101 := n1_
                          have HB := n2_
                          have BK109 := n3_
                          have GW109 := n4_
                          have GE109 := n5_
                          have NB101_109 := n6_
                          have NB109_101 := n7_
                          clear n0_ n1_ n2_ n3_ n4_ n5_ n6_ n7_
                          clear hb hbox hg
                          refine hK.out _ _ trivial (fun hHeld => ?_)
                          clear hK K
                          refine norm_ (a' := ?_) ?_ ?_
                          rotate_left
                          · show Act.put _ (some 7) _ = _
                            simp only [Act.put, List.setIfInBounds_toArray, List.set_cons_zero, List.set_cons_succ, i64_w, i32_w]
                            rfl
                          exact norm_ (by first | (simp only [putAll, Act.put, List.setIfInBounds_toArray, List.set_cons_zero, List.set_cons_succ]; done) | (simp only [putAll, Act.put, List.setIfInBounds_toArray, List.set_cons_zero, List.set_cons_succ]; rfl)) (hJ4_6 (v107, gb109) _ ⟨(rF HO108.out), (kF BK101.out), (kF BK109.out), GW109.out, GE109.out, NB101_109.out, NB109_101.out, (bF2 HB.out GE101.out GE109.out)⟩)
                    · skip
                      rintro v104 w17 ⟨h0_, h1_, h2_⟩
                      have n0_ : Aside0 (Kd.R (Kd.int .i64) 2 w17 w.heap.size (fun _ => True) v104 t103) := ⟨h0_⟩
                      have n1_ : Aside0 (w17.heap[gb101]? = some (.cells #[.slice none 0 0, .int .i64 0, .int .i64 0, .slice none 0 0, .slice none 0 0, .int .i64 0] 32 (0, 0))) := ⟨h1_⟩
                      have n2_ : Aside0 (Below w.heap.size w w17) := ⟨h2_⟩
                      clear BK101
                      clear HB
                      clear h0_ h1_ h2_
                      have HO105 := n0_
                      have BK101 := n1_
                      have HB := n2_
                      clear n0_ n1_ n2_
                      have hHeld := trivial
                      refine norm_ (a' := ?_) ?_ ?_
                      rotate_left
                      · simp only [putAll, Act.put, List.setIfInBounds_toArray, List.set_cons_zero, List.set_cons_succ]
                        rfl
                      refine two_ (i := 4) (j := 6) (Ni := some 20) (Nj := some 7) #[true, true, true, true, true, false, false, false] #[true, true, true, true, false, false, true, false] rfl rfl rfl rfl (two_of HT_.out (by kernel_rfl)) (by decide) (by decide) (fun K hK => ?_) (fun K hK => ?_)
                      · skip
                        refine Kd.R_make_step (Kd.int .i64) _ 2 (by rfl) (N := 20) rfl 22 _ _ rfl a0 rfl rfl Try.underlying22 (.int .i64 0) 8 info2 rfl (by decide) (by omega) 0 (ok := fun _ => True) (okp := fun _ => True) rfl (fun _ hk => hk) trivial (of_decide_eq_true (by first | (with_reducible assumption) | assumption)) (Nat.le_trans (Nat.mul_le_mul_right _ (of_decide_eq_true (by first | (with_reducible assumption) | assumption) : a0.toNat ≤ 35184372088832)) (by omega)) (Below.refl _ _) (Nat.le_refl _) ?_
                        intro v107 w18 ho19 hb hg_ hnew_
                        clear hg_ hnew_
                        (first | rw [← Ny106.out] at ho19 | (simp only [Int.reduceToNat] at ho19; rw [← Ny106.out] at ho19))
                        have n0_ := aK (Kd.R_elder' (rF HO105.out) (QB ho19) hb)
                        have n1_ := aK (QW (QN ho19 (rL (HO105.out))) (below_size (bF1 HB.out GE101.out)))
                        have n2_ := aK (kB BK101.out hb)
                        have n3_ := aK (below_step (bF1 HB.out GE101.out) hb)
                        clear HO105
                        clear BK101
                        clear HB
                        have HO105 := n0_
                        have HO108 := n1_
                        have BK101 := n2_
                        have HB := n3_
                        clear n0_ n1_ n2_ n3_
                        clear hb ho19
                        obtain ⟨Ao20, co20, eo20⟩ := Kd.R_slice HO108.out
                        (first | subst eo20 | (injection eo20 with f1_ f2_ f3_; have f4_ := f1_.symm; have f5_ := f3_.symm; clear f1_ f2_ f3_; subst f4_; subst f5_))
                        obtain ⟨Ao21, co21, eo21⟩ := Kd.R_slice HO105.out
                        (first | subst eo21 | (injection eo21 with f1_ f2_ f3_; have f4_ := f1_.symm; have f5_ := f3_.symm; clear f1_ f2_ f3_; subst f4_; subst f5_))
                        refine hK.out _ _ trivial (fun hHeld => ?_)
                        clear hK K
                        refine norm_ (a' := ?_) ?_ ?_
                        rotate_left
                        · show Act.put _ (some 20) _ = _
                          simp only [Act.put, List.setIfInBounds_toArray, List.set_cons_zero, List.set_cons_succ, i64_w, i32_w]
                          rfl
                        refine pure_ (i := 5) (N := some 21) (v := ?_) (a' := ?_) #[true, true, true, true, true, true, false, false] rfl rfl (any_of HT_.out (by kernel_rfl)) (fun _ _ _ h => h) (Or.inl ⟨by rfl, ?_⟩) ?_ ?_
                        rotate_left
                        · intro w'
                          go_simp
                          with_reducible rfl
                        rotate_left
                        · simp only [Act.put, List.setIfInBounds_toArray, List.set_cons_zero, List.set_cons_succ, i64_w, i32_w]
                          rfl
                        exact norm_ (by first | (simp only [putAll, Act.put, List.setIfInBounds_toArray, List.set_cons_zero, List.set_cons_succ]; done) | (simp only [putAll, Act.put, List.setIfInBounds_toArray, List.set_cons_zero, List.set_cons_succ]; rfl)) (hJ1_4 (.slice Ao21 t103.length co21, .slice Ao20 y106.length co20) _ ⟨(by (with_reducible repeat (first | apply Kd.R_alloc | apply Kd.R_drewN | apply Kd.R_drew)); exact QM HO105.out (fun _ hk => hk.2)), (by (with_reducible repeat (first | apply Kd.R_alloc | apply Kd.R_drewN | apply Kd.R_drew)); exact QM HO108.out (fun _ hk => hk.2)), (kF BK101.out), (bF1 HB.out GE101.out)⟩)
                      · skip
                        refine box_step ?hg (N := 7) ?hd (cs := #[.slice none 0 0, .int .i64 0, .int .i64 0, .slice none 0 0]) (t := 27) ?hr ?_; (case hd => rfl); (case hg => rfl); (case hr => first | (go_simp; done) | (go_simp; rfl))
                        intro gb109 hg w18 hbox hb
                        have n0_ := aK (rB HO105.out hb)
                        have n1_ := aK (kB BK101.out hb)
                        have n2_ := aK (below_step (bF1 HB.out GE101.out) hb)
                        have n3_ := aK (hbox)
                        have n4_ := aK ((by rw [hg]; exact (below_size (bF1 HB.out GE101.out)) : w.heap.size ≤ gb109))
                        have n5_ := aK ((by rw [hg]; exact (below_size (bF1 HB.out GE101.out)) : w.heap.size ≤ gb109))
                        have n6_ := aK ((by rw [hg]; exact Nat.ne_of_lt (blk_lt (g := gb101) (o := .cells #[.slice none 0 0, .int .i64 0, .int .i64 0, .slice none 0 0, .slice none 0 0, .int .i64 0] 32 (0, 0)) (kF BK101.out)) : gb101 ≠ gb109))
                        have n7_ := aK ((by rw [hg]; exact Nat.ne_of_gt (blk_lt (g := gb101) (o := .cells #[.slice none 0 0, .int .i64 0, .int .i64 0, .slice none 0 0, .slice none 0 0, .int .i64 0] 32 (0, 0)) (kF BK101.out)) : gb109 ≠ gb101))
                        clear HO105
                        clear BK101
                        clear HB
                        have HO105 := n0_
                        have BK101 := n1_
                        have HB := n2_
                        have BK109 := n3_
                        have GW109 := n4_
                        have GE109 := n5_
                        have NB101_109 := n6_
                        have NB109_101 := n7_
                        clear n0_ n1_ n2_ n3_ n4_ n5_ n6_ n7_
                        clear hb hbox hg
                        refine hK.out _ _ trivial (fun hHeld => ?_)
                        clear hK K
                        refine norm_ (a' := ?_) ?_ ?_
                        rotate_left
                        · show Act.put _ (some 7) _ = _
                          simp only [Act.put, List.setIfInBounds_toArray, List.set_cons_zero, List.set_cons_succ, i64_w, i32_w]
                          rfl
                        exact norm_ (by first | (simp only [putAll, Act.put, List.setIfInBounds_toArray, List.set_cons_zero, List.set_cons_succ]; done) | (simp only [putAll, Act.put, List.setIfInBounds_toArray, List.set_cons_zero, List.set_cons_succ]; rfl)) (hJ1_6 (v104, gb109) _ ⟨(rF HO105.out), (kF BK101.out), (kF BK109.out), GW109.out, GE109.out, NB101_109.out, NB109_101.out, (bF2 HB.out GE101.out GE109.out)⟩)
                  · skip
                    rintro ⟨v107, gb109⟩ w19 ⟨h0_, h1_, h2_, h3_, h4_, h5_, h6_, h7_⟩
                    have n0_ : Aside0 (Kd.R (Kd.int .i64) 2 w19 w.heap.size (fun _ => True) v107 y106) := ⟨h0_⟩
                    have n1_ : Aside0 (w19.heap[gb101]? = some (.cells #[.slice none 0 0, .int .i64 0, .int .i64 0, .slice none 0 0, .slice none 0 0, .int .i64 0] 32 (0, 0))) := ⟨h1_⟩
                    have n2_ : Aside0 (w19.heap[gb109]? = some (.cells #[.slice none 0 0, .int .i64 0, .int .i64 0, .slice none 0 0] 27 (0, 0))) := ⟨h2_⟩
                    have n3_ : Aside0 (w.heap.size ≤ gb109) := ⟨h3_⟩
                    have n4_ : Aside0 (w.heap.size ≤ gb109) := ⟨h4_⟩
                    have n5_ : Aside0 (gb101 ≠ gb109) := ⟨h5_⟩
                    have n6_ : Aside0 (gb109 ≠ gb101) := ⟨h6_⟩
                    have n7_ : Aside0 (Below w.heap.size w w19) := ⟨h7_⟩
                    clear BK101
                    clear HB
                    clear h0_ h1_ h2_ h3_ h4_ h5_ h6_ h7_
                    have HO108 := n0_
                    have BK101 := n1_
                    have BK109 := n2_
                    have GW109 := n3_
                    have GE109 := n4_
                    have NB101_109 := n5_
                    have NB109_101 := n6_
                    have HB := n7_
                    clear n0_ n1_ n2_ n3_ n4_ n5_ n6_ n7_
                    have hHeld := trivial
                    refine norm_ (a' := ?_) ?_ ?_
                    rotate_left
                    · simp only [putAll, Act.put, List.setIfInBounds_toArray, List.set_cons_zero, List.set_cons_succ]
                      rfl
                    refine one_ (i := 1) (N := some 17) #[true, true, true, true, true, false, true, false] rfl rfl (one_of HT_.out (by kernel_rfl)) (by decide) (fun K hK => ?_)
                    refine goes_ Try.func77 (by kernel_rfl) rfl #[.slice A1 l1.length c1] (by rfl) rfl rfl lF ?_
                    with_reducible refine (slices_Clone_int64_int64.calls _ _ l1 t103 _ ?side1 ?side2 A9.out).mono ?_
                    (case side1 => exact cF (Kd.C_below HR1.out HB.out))
                    (case side2 => exact HC1.out)
                    rintro e w20 ⟨v104, rfl, ho0, hb⟩
                    refine ⟨_, rfl, ?_⟩
                    have n0_ := aK (Kd.R_elder' (rF HO108.out) (QB ho0) hb)
                    have n1_ := aK (QW (QN ho0 (rL (HO108.out))) (below_size (bF2 HB.out GE101.out GE109.out)))
                    have n2_ := aK (kB BK101.out hb)
                    have n3_ := aK (kB BK109.out hb)
                    have n4_ := aK (below_step (bF2 HB.out GE101.out GE109.out) hb)
                    clear HO108
                    clear BK101
                    clear BK109
                    clear HB
                    have HO108 := n0_
                    have HO105 := n1_
                    have BK101 := n2_
                    have BK109 := n3_
                    have HB := n4_
                    clear n0_ n1_ n2_ n3_ n4_
                    (try clear hb)
                    (try clear hb2)
                    (try clear hk)
                    (try clear hi)
                    (try clear ho0)
                    obtain ⟨Ao21, co21, eo21⟩ := Kd.R_slice HO108.out
                    (first | subst eo21 | (injection eo21 with f1_ f2_ f3_; have f4_ := f1_.symm; have f5_ := f3_.symm; clear f1_ f2_ f3_; subst f4_; subst f5_))
                    obtain ⟨Ao22, co22, eo22⟩ := Kd.R_slice HO105.out
                    (first | subst eo22 | (injection eo22 with f1_ f2_ f3_; have f4_ := f1_.symm; have f5_ := f3_.symm; clear f1_ f2_ f3_; subst f4_; subst f5_))
                    refine hK.out _ _ trivial (fun hHeld => ?_)
                    clear hK K
                    refine norm_ (a' := ?_) ?_ ?_
                    rotate_left
                    · show Act.put _ (some 17) _ = _
                      simp only [Act.put, List.setIfInBounds_toArray, List.set_cons_zero, List.set_cons_succ, i64_w, i32_w]
                      rfl
                    refine pure_ (i := 5) (N := some 21) (v := ?_) (a' := ?_) #[true, true, true, true, true, true, true, false] rfl rfl (any_of HT_.out (by kernel_rfl)) (fun _ _ _ h => h) (Or.inl ⟨by rfl, ?_⟩) ?_ ?_
                    rotate_left
                    · intro w'
                      go_simp
                      with_reducible rfl
                    rotate_left
                    · simp only [Act.put, List.setIfInBounds_toArray, List.set_cons_zero, List.set_cons_succ, i64_w, i32_w]
                      rfl
                    exact norm_ (by first | (simp only [putAll, Act.put, List.setIfInBounds_toArray, List.set_cons_zero, List.set_cons_succ]; done) | (simp only [putAll, Act.put, List.setIfInBounds_toArray, List.set_cons_zero, List.set_cons_succ]; rfl)) (hJ1_4_6 (.slice Ao22 t103.length co22, .slice Ao21 y106.length co21, gb109) _ ⟨(by (with_reducible repeat (first | apply Kd.R_alloc | apply Kd.R_drewN | apply Kd.R_drew)); exact QM HO105.out (fun _ hk => hk.2)), (by (with_reducible repeat (first | apply Kd.R_alloc | apply Kd.R_drewN | apply Kd.R_drew)); exact QM HO108.out (fun _ hk => hk.2)), (kF BK101.out), (kF BK109.out), GW109.out, GE109.out, NB101_109.out, NB109_101.out, (bF2 HB.out GE101.out GE109.out)⟩)
                · skip
                  rintro ⟨v104, gb109⟩ w18 ⟨h0_, h1_, h2_, h3_, h4_, h5_, h6_, h7_⟩
                  have n0_ : Aside0 (Kd.R (Kd.int .i64) 2 w18 w.heap.size (fun _ => True) v104 t103) := ⟨h0_⟩
                  have n1_ : Aside0 (w18.heap[gb101]? = some (.cells #[.slice none 0 0, .int .i64 0, .int .i64 0, .slice none 0 0, .slice none 0 0, .int .i64 0] 32 (0, 0))) := ⟨h1_⟩
                  have n2_ : Aside0 (w18.heap[gb109]? = some (.cells #[.slice none 0 0, .int .i64 0, .int .i64 0, .slice none 0 0] 27 (0, 0))) := ⟨h2_⟩
                  have n3_ : Aside0 (w.heap.size ≤ gb109) := ⟨h3_⟩
                  have n4_ : Aside0 (w.heap.size ≤ gb109) := ⟨h4_⟩
                  have n5_ : Aside0 (gb101 ≠ gb109) := ⟨h5_⟩
                  have n6_ : Aside0 (gb109 ≠ gb101) := ⟨h6_⟩
                  have n7_ : Aside0 (Below w.heap.size w w18) := ⟨h7_⟩
                  clear BK101
                  clear HB
                  clear h0_ h1_ h2_ h3_ h4_ h5_ h6_ h7_
                  have HO105 := n0_
                  have BK101 := n1_
                  have BK109 := n2_
                  have GW109 := n3_
                  have GE109 := n4_
                  have NB101_109 := n5_
                  have NB109_101 := n6_
                  have HB := n7_
                  clear n0_ n1_ n2_ n3_ n4_ n5_ n6_ n7_
                  have hHeld := trivial
                  refine norm_ (a' := ?_) ?_ ?_
                  rotate_left
                  · simp only [putAll, Act.put, List.setIfInBounds_toArray, List.set_cons_zero, List.set_cons_succ]
                    rfl
                  refine one_ (i := 4) (N := some 20) #[true, true, true, true, true, false, true, false] rfl rfl (one_of HT_.out (by kernel_rfl)) (by decide) (fun K hK => ?_)
                  refine Kd.R_make_step (Kd.int .i64) _ 2 (by rfl) (N := 20) rfl 22 _ _ rfl a0 rfl rfl Try.underlying22 (.int .i64 0) 8 info2 rfl (by decide) (by omega) 0 (ok := fun _ => True) (okp := fun _ => True) rfl (fun _ hk => hk) trivial (of_decide_eq_true (by first | (with_reducible assumption) | assumption)) (Nat.le_trans (Nat.mul_le_mul_right _ (of_decide_eq_true (by first | (with_reducible assumption) | assumption) : a0.toNat ≤ 35184372088832)) (by omega)) (Below.refl _ _) (Nat.le_refl _) ?_
                  intro v107 w19 ho20 hb hg_ hnew_
                  clear hg_ hnew_
                  (first | rw [← Ny106.out] at ho20 | (simp only [Int.reduceToNat] at ho20; rw [← Ny106.out] at ho20))
                  have n0_ := aK (Kd.R_elder' (rF HO105.out) (QB ho20) hb)
                  have n1_ := aK (QW (QN ho20 (rL (HO105.out))) (below_size (bF2 HB.out GE101.out GE109.out)))
                  have n2_ := aK (kB BK101.out hb)
                  have n3_ := aK (kB BK109.out hb)
                  have n4_ := aK (below_step (bF2 HB.out GE101.out GE109.out) hb)
                  clear HO105
                  clear BK101
                  clear BK109
                  clear HB
                  have HO105 := n0_
                  have HO108 := n1_
                  have BK101 := n2_
                  have BK109 := n3_
                  have HB := n4_
                  clear n0_ n1_ n2_ n3_ n4_
                  clear hb ho20
                  obtain ⟨Ao21, co21, eo21⟩ := Kd.R_slice HO108.out
                  (first | subst eo21 | (injection eo21 with f1_ f2_ f3_; have f4_ := f1_.symm; have f5_ := f3_.symm; clear f1_ f2_ f3_; subst f4_; subst f5_))
                  obtain ⟨Ao22, co22, eo22⟩ := Kd.R_slice HO105.out
                  (first | subst eo22 | (injection eo22 with f1_ f2_ f3_; have f4_ := f1_.symm; have f5_ := f3_.symm; clear f1_ f2_ f3_; subst f4_; subst f5_))
                  refine hK.out _ _ trivial (fun hHeld => ?_)
                  clear hK K
                  refine norm_ (a' := ?_) ?_ ?_
                  rotate_left
                  · show Act.put _ (some 20) _ = _
                    simp only [Act.put, List.setIfInBounds_toArray, List.set_cons_zero, List.set_cons_succ, i64_w, i32_w]
                    rfl
                  refine pure_ (i := 5) (N := some 21) (v := ?_) (a' := ?_) #[true, true, true, true, true, true, true, false] rfl rfl (any_of HT_.out (by kernel_rfl)) (fun _ _ _ h => h) (Or.inl ⟨by rfl, ?_⟩) ?_ ?_
                  rotate_left
                  · intro w'
                    go_simp
                    with_reducible rfl
                  rotate_left
                  · simp only [Act.put, List.setIfInBounds_toArray, List.set_cons_zero, List.set_cons_succ, i64_w, i32_w]
                    rfl
                  exact norm_ (by first | (simp only [putAll, Act.put, List.setIfInBounds_toArray, List.set_cons_zero, List.set_cons_succ]; done) | (simp only [putAll, Act.put, List.setIfInBounds_toArray, List.set_cons_zero, List.set_cons_succ]; rfl)) (hJ1_4_6 (.slice Ao22 t103.length co22, .slice Ao21 y106.length co21, gb109) _ ⟨(by (with_reducible repeat (first | apply Kd.R_alloc | apply Kd.R_drewN | apply Kd.R_drew)); exact QM HO105.out (fun _ hk => hk.2)), (by (with_reducible repeat (first | apply Kd.R_alloc | apply Kd.R_drewN | apply Kd.R_drew)); exact QM HO108.out (fun _ hk => hk.2)), (kF BK101.out), (kF BK109.out), GW109.out, GE109.out, NB101_109.out, NB109_101.out, (bF2 HB.out GE101.out GE109.out)⟩)
              · skip
                rintro ⟨v104, v107⟩ w21 ⟨h0_, h1_, h2_, h3_⟩
                have n0_ : Aside0 (Kd.R (Kd.int .i64) 2 w21 w.heap.size (fun k_ => some k_ ≠ (v107 : Value).ownBlock) v104 t103) := ⟨h0_⟩
                have n1_ : Aside0 (Kd.R (Kd.int .i64) 2 w21 w.heap.size (fun k_ => some k_ ≠ (v104 : Value).ownBlock) v107 y106) := ⟨h1_⟩
                have n2_ : Aside0 (w21.heap[gb101]? = some (.cells #[.slice none 0 0, .int .i64 0, .int .i64 0, .slice none 0 0, .slice none 0 0, .int .i64 0] 32 (0, 0))) := ⟨h2_⟩
                have n3_ : Aside0 (Below w.heap.size w w21) := ⟨h3_⟩
                clear BK101
                clear HB
                clear h0_ h1_ h2_ h3_
                have HO105 := n0_
                have HO108 := n1_
                have BK101 := n2_
                have HB := n3_
                clear n0_ n1_ n2_ n3_
                have hHeld := trivial
                obtain ⟨Ao22, co22, eo22⟩ := Kd.R_slice HO108.out
                (first | subst eo22 | (injection eo22 with f1_ f2_ f3_; have f4_ := f1_.symm; have f5_ := f3_.symm; clear f1_ f2_ f3_; subst f4_; subst f5_))
                obtain ⟨Ao23, co23, eo23⟩ := Kd.R_slice HO105.out
                (first | subst eo23 | (injection eo23 with f1_ f2_ f3_; have f4_ := f1_.symm; have f5_ := f3_.symm; clear f1_ f2_ f3_; subst f4_; subst f5_))
                refine norm_ (a' := ?_) ?_ ?_
                rotate_left
                · simp only [putAll, Act.put, List.setIfInBounds_toArray, List.set_cons_zero, List.set_cons_succ]
                  rfl
                refine one_ (i := 6) (N := some 7) #[true, true, true, true, true, true, true, false] rfl rfl (one_of HT_.out (by kernel_rfl)) (by decide) (fun K hK => ?_)
                refine box_step ?hg (N := 7) ?hd (cs := #[.slice none 0 0, .int .i64 0, .int .i64 0, .slice none 0 0]) (t := 27) ?hr ?_; (case hd => rfl); (case hg => rfl); (case hr => first | (go_simp; done) | (go_simp; rfl))
                intro gb109 hg w24 hbox hb
                have n0_ := aK (rB HO105.out hb)
                have n1_ := aK (rB HO108.out hb)
                have n2_ := aK (kB BK101.out hb)
                have n3_ := aK (below_step (bF1 HB.out GE101.out) hb)
                have n4_ := aK (hbox)
                have n5_ := aK ((by rw [hg]; exact (below_size (bF1 HB.out GE101.out)) : w.heap.size ≤ gb109))
                have n6_ := aK ((by rw [hg]; exact (below_size (bF1 HB.out GE101.out)) : w.heap.size ≤ gb109))
                have n7_ := aK ((by rw [hg]; exact Nat.ne_of_lt (blk_lt (g := gb101) (o := .cells #[.slice none 0 0, .int .i64 0, .int .i64 0, .slice none 0 0, .slice none 0 0, .int .i64 0] 32 (0, 0)) (kF BK101.out)) : gb101 ≠ gb109))
                have n8_ := aK ((by rw [hg]; exact Nat.ne_of_gt (blk_lt (g := gb101) (o := .cells #[.slice none 0 0, .int .i64 0, .int .i64 0, .slice none 0 0, .slice none 0 0, .int .i64 0] 32 (0, 0)) (kF BK101.out)) : gb109 ≠ gb101))
                clear HO105
                clear HO108
                clear BK101
                clear HB
                have HO105 := n0_
                have HO108 := n1_
                have BK101 := n2_
                have HB := n3_
                have BK109 := n4_
                have GW109 := n5_
                have GE109 := n6_
                have NB101_109 := n7_
                have NB109_101 := n8_
                clear n0_ n1_ n2_ n3_ n4_ n5_ n6_ n7_ n8_
                clear hb hbox hg
                refine hK.out _ _ trivial (fun hHeld => ?_)
                clear hK K
                refine norm_ (a' := ?_) ?_ ?_
                rotate_left
                · show Act.put _ (some 7) _ = _
                  simp only [Act.put, List.setIfInBounds_toArray, List.set_cons_zero, List.set_cons_succ, i64_w, i32_w]
                  rfl
                exact norm_ (by first | (simp only [putAll, Act.put, List.setIfInBounds_toArray, List.set_cons_zero, List.set_cons_succ]; done) | (simp only [putAll, Act.put, List.setIfInBounds_toArray, List.set_cons_zero, List.set_cons_succ]; rfl)) (hJ1_4_6 (.slice Ao23 t103.length co23, .slice Ao22 y106.length co22, gb109) _ ⟨(rF HO105.out), (rF HO108.out), (kF BK101.out), (kF BK109.out), GW109.out, GE109.out, NB101_109.out, NB109_101.out, (bF2 HB.out GE101.out GE109.out)⟩)
            rintro ⟨v104, v107, gb109⟩ w22 ⟨h0_, h1_, h2_, h3_, h4_, h5_, h6_, h7_, h8_⟩
            have n0_ : Aside0 (Kd.R (Kd.int .i64) 2 w22 w.heap.size (fun k_ => some k_ ≠ (v107 : Value).ownBlock) v104 t103) := ⟨h0_⟩
            have n1_ : Aside0 (Kd.R (Kd.int .i64) 2 w22 w.heap.size (fun k_ => some k_ ≠ (v104 : Value).ownBlock) v107 y106) := ⟨h1_⟩
            have n2_ : Aside0 (w22.heap[gb101]? = some (.cells #[.slice none 0 0, .int .i64 0, .int .i64 0, .slice none 0 0, .slice none 0 0, .int .i64 0] 32 (0, 0))) := ⟨h2_⟩
            have n3_ : Aside0 (w22.heap[gb109]? = some (.cells #[.slice none 0 0, .int .i64 0, .int .i64 0, .slice none 0 0] 27 (0, 0))) := ⟨h3_⟩
            have n4_ : Aside0 (w.heap.size ≤ gb109) := ⟨h4_⟩
            have n5_ : Aside0 (w.heap.size ≤ gb109) := ⟨h5_⟩
            have n6_ : Aside0 (gb101 ≠ gb109) := ⟨h6_⟩
            have n7_ : Aside0 (gb109 ≠ gb101) := ⟨h7_⟩
            have n8_ : Aside0 (Below w.heap.size w w22) := ⟨h8_⟩
            clear BK101
            clear HB
            clear h0_ h1_ h2_ h3_ h4_ h5_ h6_ h7_ h8_
            have HO105 := n0_
            have HO108 := n1_
            have BK101 := n2_
            have BK109 := n3_
            have GW109 := n4_
            have GE109 := n5_
            have NB101_109 := n6_
            have NB109_101 := n7_
            have HB := n8_
            clear n0_ n1_ n2_ n3_ n4_ n5_ n6_ n7_ n8_
            have hHeld := trivial
            obtain ⟨Ao23, co23, eo23⟩ := Kd.R_slice HO108.out
            (first | subst eo23 | (injection eo23 with f1_ f2_ f3_; have f4_ := f1_.symm; have f5_ := f3_.symm; clear f1_ f2_ f3_; subst f4_; subst f5_))
            obtain ⟨Ao24, co24, eo24⟩ := Kd.R_slice HO105.out
            (first | subst eo24 | (injection eo24 with f1_ f2_ f3_; have f4_ := f1_.symm; have f5_ := f3_.symm; clear f1_ f2_ f3_; subst f4_; subst f5_))
            refine norm_ (a' := ?_) ?_ ?_
            rotate_left
            · simp only [putAll, Act.put, List.setIfInBounds_toArray, List.set_cons_zero, List.set_cons_succ]
              rfl
            refine one_ (i := 7) (N := none) #[true, true, true, true, true, true, true, true] rfl rfl (one_of HT_.out (by kernel_rfl)) (by decide) (fun K hK => ?_)
            have hs25 : w22.cell? ⟨gb109, 0, none⟩ = some (.slice none 0 0) := (blk_cell BK109.out 0).trans rfl
            have hfs25 := blk_frozen BK109.out 0
            have hns25_0 := NB101_109.out
            have hms25_0 := NB109_101.out
            have hs26 : w22.cell? ⟨gb109, 1, none⟩ = some (.int .i64 0) := (blk_cell BK109.out 1).trans rfl
            have hfs26 := blk_frozen BK109.out 1
            have hns26_0 := NB101_109.out
            have hms26_0 := NB109_101.out
            have hs27 : w22.cell? ⟨gb109, 2, none⟩ = some (.int .i64 0) := (blk_cell BK109.out 2).trans rfl
            have hfs27 := blk_frozen BK109.out 2
            have hns27_0 := NB101_109.out
            have hms27_0 := NB109_101.out
            have hs28 : w22.cell? ⟨gb109, 3, none⟩ = some (.slice none 0 0) := (blk_cell BK109.out 3).trans rfl
            have hfs28 := blk_frozen BK109.out 3
            have hns28_0 := NB101_109.out
            have hms28_0 := NB109_101.out
            refine skip_ (w1 := ?_) (by rfl) rfl ?_ ?_
            rotate_left
            · go_simp
              rfl
            refine hK.out _ _ trivial (fun hHeld => ?_)
            clear hK K
            refine done_ (done_of HT_.out (by kernel_rfl)) ?_
            have hnb29 := NB109_101.out
            have hnc29 := NB101_109.out
            have hcz30_0 : w22.cell? ⟨gb109, 0, none⟩ = some (.slice none 0 0) := (blk_cell BK109.out 0).trans rfl
            have hcz30_1 : w22.cell? ⟨gb109, 1, none⟩ = some (.int .i64 0) := (blk_cell BK109.out 1).trans rfl
            have hcz30_2 : w22.cell? ⟨gb109, 2, none⟩ = some (.int .i64 0) := (blk_cell BK109.out 2).trans rfl
            have hcz30_3 : w22.cell? ⟨gb109, 3, none⟩ = some (.slice none 0 0) := (blk_cell BK109.out 3).trans rfl
            have hfz30_0 := blk_frozen BK109.out 0
            have hfz30_1 := blk_frozen BK109.out 1
            have hfz30_2 := blk_frozen BK109.out 2
            have hfz30_3 := blk_frozen BK109.out 3
            try go_wp2_with (first | ((with_reducible refine gate_callee (f := 72) rfl ?_); refine goesL_ (some 23) rfl rfl Try.func72 (by kernel_rfl) rfl #[.agg #[.slice Ao24 t103.length co24, .int .i64 0, .int .i64 a2, .slice Ao23 y106.length co23]] rfl lF ?_; (with_reducible refine (impl_isFleet.calls k _ _ t103 0 a2 _ _ y106 true _ ?side1 ?side2 ?side3 ?side4 A12.out).mono ?_); (case side1 => refine (Kd.R_reads' (e := 2) (base := w.heap.size) (ok := fun k_ => NO Ao23 y106 co23 k_) (n := t103.length) (c := co24) ?_).2.2; exact (rF (far4 HO105.out BK109.out))); (case side2 => exact (Kd.R_reads' HO105.out).2.1); (case side3 => refine (Kd.R_reads' (e := 2) (base := w.heap.size) (ok := fun k_ => NO Ao24 t103 co24 k_) (n := y106.length) (c := co23) ?_).2.2; exact (rF (far4 HO108.out BK109.out))); (case side4 => exact (Kd.R_reads' HO108.out).2.1); rintro e w31 ⟨rfl, hb⟩; refine ⟨_, rfl, ?_⟩; replace HO105 := aK (Kd.R_below (rF (far4 HO105.out BK109.out)) hb); replace HO108 := aK (Kd.R_below (rF (far4 HO108.out BK109.out)) hb); replace BK101 := aK (kY1 BK101.out NB101_109.out hb); replace BK109 := aK (blk_below (g := gb109) (o := .cells #[.slice Ao24 t103.length co24, .int .i64 0, .int .i64 a2, .slice Ao23 y106.length co23] 27 (0, 0)) (kP4 BK109.out) hb); replace HB := aK (below_step (bF2 HB.out GE101.out GE109.out) hb); (try clear hb); (try clear hb2); (try clear hk); (try clear hi); obtain ⟨hcz32_0, hcz32_1, hcz32_2, hcz32_3⟩ := cells4 BK109.out; obtain ⟨hfz32_0, hfz32_1, hfz32_2, hfz32_3⟩ := frz4 BK109.out; obtain ⟨hcz33_0, hcz33_1, hcz33_2, hcz33_3, hcz33_4, hcz33_5⟩ := cells6 BK101.out; obtain ⟨hfz33_0, hfz33_1, hfz33_2, hfz33_3, hfz33_4, hfz33_5⟩ := frz6 BK101.out))
            refine bodyPost_ret (results_cell_row rfl _ _ gb101 32 #[.slice Ao24 t103.length co24, .int .i64 0, .int .i64 a2, .slice Ao23 y106.length co23, .slice none 0 0, .int .i64 0] (0, 0) _ rfl (kP6 BK101.out) Try.underlying32 rfl (by kernel_rfl)) rfl ?_
            exact ⟨_, _, _, by first | rfl | (simp only [i64_w, i32_w]; done) | (simp only [i64_w, i32_w]; rfl) | (simp [errW_none, errW_some] <;> rfl) | (simp [*, errW_none, errW_some] <;> rfl), by (with_reducible repeat (first | apply Kd.R_alloc | apply Kd.R_drewN | apply Kd.R_drew)); exact QM (Kd.R_far (p := ⟨gb101, 5, none⟩) (Kd.R_far (p := ⟨gb101, 4, none⟩) (Kd.R_far (p := ⟨gb101, 3, none⟩) (Kd.R_far (p := ⟨gb101, 2, none⟩) (Kd.R_far (p := ⟨gb101, 1, none⟩) (Kd.R_far (p := ⟨gb101, 0, none⟩) (Kd.R_types HO105.out BK101.out (by decide)) (fun _ hk => hk.2) (.slice Ao24 t103.length co24)) (fun _ hk => hk.2) (.int .i64 0)) (fun _ hk => hk.2) (.int .i64 a2)) (fun _ hk => hk.2) (.slice Ao23 y106.length co23)) (fun _ hk => hk.2) (.slice none 0 0)) (fun _ hk => hk.2) (.int .i64 0)) (fun _ hk => ⟨hk.1, (by simp [Value.ownBlock])⟩), by (with_reducible repeat (first | apply Kd.R_alloc | apply Kd.R_drewN | apply Kd.R_drew)); exact QM (Kd.R_far (p := ⟨gb101, 5, none⟩) (Kd.R_far (p := ⟨gb101, 4, none⟩) (Kd.R_far (p := ⟨gb101, 3, none⟩) (Kd.R_far (p := ⟨gb101, 2, none⟩) (Kd.R_far (p := ⟨gb101, 1, none⟩) (Kd.R_far (p := ⟨gb101, 0, none⟩) (Kd.R_types HO108.out BK101.out (by decide)) (fun _ hk => hk.2) (.slice Ao24 t103.length co24)) (fun _ hk => hk.2) (.int .i64 0)) (fun _ hk => hk.2) (.int .i64 a2)) (fun _ hk => hk.2) (.slice Ao23 y106.length co23)) (fun _ hk => hk.2) (.slice none 0 0)) (fun _ hk => hk.2) (.int .i64 0)) (fun _ hk => ⟨hk.1, (by simp [Value.ownBlock])⟩), by first | exact Kd.R_nil _ _ _ _ _ | exact Kd.N_nil _ _ _ _ _ | exact Kd.V_nil _ _ _ _ _ | exact Kd.Q_nil _ _ _ _ _ | exact Kd.S_nil _ _ _ _ _, by repeat (first | (with_reducible first | exact HB.out | apply below_alloc | apply pw_below_drewN | apply below_drew1 | refine below_set ?_ GE101.out | refine below_set ?_ GE109.out) | exact HB.out)⟩
          · replace c13 := Bool.eq_false_iff.mpr c13
            subst c13
            have H1 : (some (([] : List Int), 0, 0, ([] : List Int), ([] : List Int), 1)) = some (r1, r2, r3, r4, r5, r6) := by rw [if_neg (show ¬ (false = true) by decide)] at H; exact H
            clear H
            have H := H1
            clear H1
            simp only [Option.some.injEq, Prod.mk.injEq] at H
            obtain ⟨rfl, rfl, rfl, rfl, rfl, rfl⟩ := H
            go_enter Try.func22, Try.ntmps22
            try go_wp2_with (first | ((with_reducible refine gate_dst (N := 6) rfl ?_); refine boxE (N := 6) (cs := #[.slice none 0 0, .int .i64 0, .int .i64 0, .slice none 0 0, .slice none 0 0, .int .i64 0]) (t := 32) (h := ?_); intro gb101 hg w34 hbox hb; have BK101 := aK (hbox); have GW101 := aK ((by rw [hg]; exact (below_size (bF0 HB.out)) : w.heap.size ≤ gb101)); have GE101 := aK ((by rw [hg]; exact (below_size (bF0 HB.out)) : w.heap.size ≤ gb101)); replace HB := aK (below_step (bF0 HB.out) hb); clear hb hbox hg) | ((with_reducible refine gate_callee (f := 76) rfl ?_); refine goesL_ (some 13) rfl rfl Try.func76 (by kernel_rfl) rfl #[.int .i64 a0, .int .i64 1, .int .i64 12] rfl lF ?_; (with_reducible refine (impl_within.calls a0 1 12 true _ A7.out).mono ?_); rintro e w' ⟨rfl, ⟨nd, rfl⟩⟩; refine ⟨_, rfl, ?_⟩; (try (rw [drewN_self w34]; generalize hq_ : World.drewN w34 _ = w34; have n0_ : Aside0 (w34.heap[gb101]? = some (.cells #[.slice none 0 0, .int .i64 0, .int .i64 0, .slice none 0 0, .slice none 0 0, .int .i64 0] 32 (0, 0))) := ⟨by rw [← hq_]; exact (kF BK101.out)⟩; have n1_ : Aside0 (Below w.heap.size w w34) := ⟨by rw [← hq_]; exact (bF1 HB.out GE101.out)⟩; clear BK101 HB hq_; have BK101 := n0_; have HB := n1_; clear n0_ n1_))))
            have n0_ := aK (blk_drew BK101.out)
            have n1_ := aK (below_drew1 HB.out)
            clear BK101
            clear HB
            have BK101 := n0_
            have HB := n1_
            clear n0_ n1_
            refine start_ (n := 8) (S := fun w' => True) (ds := []) #[false, false, false, false, false, false, false, false] (by kernel_rfl) rfl rfl trivial (fun hHeld => ?_); refine with_tabW impl_FleetNew.tab5 impl_FleetNew.bits5 (fun HT_ HW_ => ?_)
            generalize w34.drew = w35 at BK101 HB hHeld ⊢
            refine pure_ (i := 0) (N := some 16) (v := ?_) (a' := ?_) #[true, false, false, false, false, false, false, false] rfl rfl (any_of HT_.out (by kernel_rfl)) (fun _ _ _ h => h) (Or.inl ⟨by rfl, ?_⟩) ?_ ?_
            rotate_left
            · intro w'
              go_simp
              with_reducible rfl
            rotate_left
            · simp only [Act.put, List.setIfInBounds_toArray, List.set_cons_zero, List.set_cons_succ, i64_w, i32_w]
              rfl
            refine pure_ (i := 2) (N := some 18) (v := ?_) (a' := ?_) #[true, false, true, false, false, false, false, false] rfl rfl (any_of HT_.out (by kernel_rfl)) (fun _ _ _ h => h) (Or.inl ⟨by rfl, ?_⟩) ?_ ?_
            rotate_left
            · intro w'
              go_simp
              with_reducible rfl
            rotate_left
            · simp only [Act.put, List.setIfInBounds_toArray, List.set_cons_zero, List.set_cons_succ, i64_w, i32_w]
              rfl
            refine pure_ (i := 3) (N := some 19) (v := ?_) (a' := ?_) #[true, false, true, true, false, false, false, false] rfl rfl (any_of HT_.out (by kernel_rfl)) (fun _ _ _ h => h) (Or.inl ⟨by rfl, ?_⟩) ?_ ?_
            rotate_left
            · intro w'
              go_simp
              with_reducible rfl
            rotate_left
            · simp only [Act.put, List.setIfInBounds_toArray, List.set_cons_zero, List.set_cons_succ, i64_w, i32_w]
              rfl
            refine join_ (σ := Value × Value × Nat) 1 #[true, true, true, true, true, true, true, false] (fun s_ => [(17, s_.1), (20, s_.2.1), (7, .pointer (some ⟨s_.2.2, 0, none⟩)), (21, .agg #[s_.1, .int .i64 0, .int .i64 a2, s_.2.1])]) (fun s_ w' => (Kd.R (Kd.int .i64) 2 w' w.heap.size (fun k_ => some k_ ≠ (s_.2.1 : Value).ownBlock) s_.1 t103) ∧ (Kd.R (Kd.int .i64) 2 w' w.heap.size (fun k_ => some k_ ≠ (s_.1 : Value).ownBlock) s_.2.1 y106) ∧ (w'.heap[gb101]? = some (.cells #[.slice none 0 0, .int .i64 0, .int .i64 0, .slice none 0 0, .slice none 0 0, .int .i64 0] 32 (0, 0))) ∧ (w'.heap[s_.2.2]? = some (.cells #[.slice none 0 0, .int .i64 0, .int .i64 0, .slice none 0 0] 27 (0, 0))) ∧ (w.heap.size ≤ s_.2.2) ∧ (w.heap.size ≤ s_.2.2) ∧ (gb101 ≠ s_.2.2) ∧ (s_.2.2 ≠ gb101) ∧ (Below w.heap.size w w')) ?_ ?_
            rotate_left
            · intro hJ1_4_6
              refine join_ (σ := Value × Value) 2 #[true, true, true, true, true, true, false, false] (fun s_ => [(17, s_.1), (20, s_.2), (21, .agg #[s_.1, .int .i64 0, .int .i64 a2, s_.2])]) (fun s_ w' => (Kd.R (Kd.int .i64) 2 w' w.heap.size (fun k_ => some k_ ≠ (s_.2 : Value).ownBlock) s_.1 t103) ∧ (Kd.R (Kd.int .i64) 2 w' w.heap.size (fun k_ => some k_ ≠ (s_.1 : Value).ownBlock) s_.2 y106) ∧ (w'.heap[gb101]? = some (.cells #[.slice none 0 0, .int .i64 0, .int .i64 0, .slice none 0 0, .slice none 0 0, .int .i64 0] 32 (0, 0))) ∧ (Below w.heap.size w w')) ?_ ?_
              rotate_left
              · intro hJ1_4
                refine join_ (σ := Value × Nat) 3 #[true, true, true, true, false, false, true, false] (fun s_ => [(17, s_.1), (7, .pointer (some ⟨s_.2, 0, none⟩))]) (fun s_ w' => (Kd.R (Kd.int .i64) 2 w' w.heap.size (fun _ => True) s_.1 t103) ∧ (w'.heap[gb101]? = some (.cells #[.slice none 0 0, .int .i64 0, .int .i64 0, .slice none 0 0, .slice none 0 0, .int .i64 0] 32 (0, 0))) ∧ (w'.heap[s_.2]? = some (.cells #[.slice none 0 0, .int .i64 0, .int .i64 0, .slice none 0 0] 27 (0, 0))) ∧ (w.heap.size ≤ s_.2) ∧ (w.heap.size ≤ s_.2) ∧ (gb101 ≠ s_.2) ∧ (s_.2 ≠ gb101) ∧ (Below w.heap.size w w')) ?_ ?_
                rotate_left
                · intro hJ1_6
                  refine join_ (σ := Value × Nat) 3 #[true, false, true, true, true, false, true, false] (fun s_ => [(20, s_.1), (7, .pointer (some ⟨s_.2, 0, none⟩))]) (fun s_ w' => (Kd.R (Kd.int .i64) 2 w' w.heap.size (fun _ => True) s_.1 y106) ∧ (w'.heap[gb101]? = some (.cells #[.slice none 0 0, .int .i64 0, .int .i64 0, .slice none 0 0, .slice none 0 0, .int .i64 0] 32 (0, 0))) ∧ (w'.heap[s_.2]? = some (.cells #[.slice none 0 0, .int .i64 0, .int .i64 0, .slice none 0 0] 27 (0, 0))) ∧ (w.heap.size ≤ s_.2) ∧ (w.heap.size ≤ s_.2) ∧ (gb101 ≠ s_.2) ∧ (s_.2 ≠ gb101) ∧ (Below w.heap.size w w')) ?_ ?_
                  rotate_left
                  · intro hJ4_6
                    refine join_ (σ := Value) 4 #[true, true, true, true, false, false, false, false] (fun s_ => [(17, s_)]) (fun s_ w' => (Kd.R (Kd.int .i64) 2 w' w.heap.size (fun _ => True) s_ t103) ∧ (w'.heap[gb101]? = some (.cells #[.slice none 0 0, .int .i64 0, .int .i64 0, .slice none 0 0, .slice none 0 0, .int .i64 0] 32 (0, 0))) ∧ (Below w.heap.size w w')) ?_ ?_
                    rotate_left
                    · intro hJ1
                      refine join_ (σ := Value) 4 #[true, false, true, true, true, false, false, false] (fun s_ => [(20, s_)]) (fun s_ w' => (Kd.R (Kd.int .i64) 2 w' w.heap.size (fun _ => True) s_ y106) ∧ (w'.heap[gb101]? = some (.cells #[.slice none 0 0, .int .i64 0, .int .i64 0, .slice none 0 0, .slice none 0 0, .int .i64 0] 32 (0, 0))) ∧ (Below w.heap.size w w')) ?_ ?_
                      rotate_left
                      · intro hJ4
                        refine join_ (σ := Nat) 4 #[true, false, true, true, false, false, true, false] (fun s_ => [(7, .pointer (some ⟨s_, 0, none⟩))]) (fun s_ w' => (w'.heap[gb101]? = some (.cells #[.slice none 0 0, .int .i64 0, .int .i64 0, .slice none 0 0, .slice none 0 0, .int .i64 0] 32 (0, 0))) ∧ (w'.heap[s_]? = some (.cells #[.slice none 0 0, .int .i64 0, .int .i64 0, .slice none 0 0] 27 (0, 0))) ∧ (w.heap.size ≤ s_) ∧ (w.heap.size ≤ s_) ∧ (gb101 ≠ s_) ∧ (s_ ≠ gb101) ∧ (Below w.heap.size w w')) ?_ ?_
                        rotate_left
                        · intro hJ6
                          refine three_ (i := 1) (j := 4) (k := 6) (Ni := some 17) (Nj := some 20) (Nk := some 7) #[true, true, true, true, false, false, false, false] #[true, false, true, true, true, false, false, false] #[true, false, true, true, false, false, true, false] rfl rfl rfl rfl rfl rfl (three_of HT_.out (by kernel_rfl)) (by decide) (by decide) (by decide) (fun K hK => ?_) (fun K hK => ?_) (fun K hK => ?_)
                          · skip
                            refine goes_ Try.func77 (by kernel_rfl) rfl #[.slice A1 l1.length c1] (by rfl) rfl rfl lF ?_
                            with_reducible refine (slices_Clone_int64_int64.calls _ _ l1 t103 _ ?side1 ?side2 A9.out).mono ?_
                            (case side1 => exact cF (Kd.C_below HR1.out HB.out))
                            (case side2 => exact HC1.out)
                            rintro e w36 ⟨v104, rfl, ho0, hb⟩
                            refine ⟨_, rfl, ?_⟩
                            have n0_ := aK (QW ho0 (below_size (bF1 HB.out GE101.out)))
                            have n1_ := aK (kB BK101.out hb)
                            have n2_ := aK (below_step (bF1 HB.out GE101.out) hb)
                            clear BK101
                            clear HB
                            have HO105 := n0_
                            have BK101 := n1_
                            have HB := n2_
                            clear n0_ n1_ n2_
                            (try clear hb)
                            (try clear hb2)
                            (try clear hk)
                            (try clear hi)
                            (try clear ho0)
                            refine hK.out _ _ trivial (fun hHeld => ?_)
                            clear hK K
                            refine norm_ (a' := ?_) ?_ ?_
                            rotate_left
                            · show Act.put _ (some 17) _ = _
                              simp only [Act.put, List.setIfInBounds_toArray, List.set_cons_zero, List.set_cons_succ, i64_w, i32_w]
                              rfl
                            exact norm_ (by first | (simp only [putAll, Act.put, List.setIfInBounds_toArray, List.set_cons_zero, List.set_cons_succ]; done) | (simp only [putAll, Act.put, List.setIfInBounds_toArray, List.set_cons_zero, List.set_cons_succ]; rfl)) (hJ1 (v104) _ ⟨(rF HO105.out), (kF BK101.out), (bF1 HB.out GE101.out)⟩)
                          · skip
                            refine Kd.R_make_step (Kd.int .i64) _ 2 (by rfl) (N := 20) rfl 22 _ _ rfl a0 rfl rfl Try.underlying22 (.int .i64 0) 8 info2 rfl (by decide) (by omega) 0 (ok := fun _ => True) (okp := fun _ => True) rfl (fun _ hk => hk) trivial (of_decide_eq_true (by first | (with_reducible assumption) | assumption)) (Nat.le_trans (Nat.mul_le_mul_right _ (of_decide_eq_true (by first | (with_reducible assumption) | assumption) : a0.toNat ≤ 35184372088832)) (by omega)) (Below.refl _ _) (Nat.le_refl _) ?_
                            intro v107 w36 ho37 hb hg_ hnew_
                            clear hg_ hnew_
                            (first | rw [← Ny106.out] at ho37 | (simp only [Int.reduceToNat] at ho37; rw [← Ny106.out] at ho37))
                            have n0_ := aK (QW ho37 (below_size (bF1 HB.out GE101.out)))
                            have n1_ := aK (kB BK101.out hb)
                            have n2_ := aK (below_step (bF1 HB.out GE101.out) hb)
                            clear BK101
                            clear HB
                            have HO108 := n0_
                            have BK101 := n1_
                            have HB := n2_
                            clear n0_ n1_ n2_
                            clear hb ho37
                            refine hK.out _ _ trivial (fun hHeld => ?_)
                            clear hK K
                            refine norm_ (a' := ?_) ?_ ?_
                            rotate_left
                            · show Act.put _ (some 20) _ = _
                              simp only [Act.put, List.setIfInBounds_toArray, List.set_cons_zero, List.set_cons_succ, i64_w, i32_w]
                              rfl
                            exact norm_ (by first | (simp only [putAll, Act.put, List.setIfInBounds_toArray, List.set_cons_zero, List.set_cons_succ]; done) | (simp only [putAll, Act.put, List.setIfInBounds_toArray, List.set_cons_zero, List.set_cons_succ]; rfl)) (hJ4 (v107) _ ⟨(rF HO108.out), (kF BK101.out), (bF1 HB.out GE101.out)⟩)
                          · skip
                            refine box_step ?hg (N := 7) ?hd (cs := #[.slice none 0 0, .int .i64 0, .int .i64 0, .slice none 0 0]) (t := 27) ?hr ?_; (case hd => rfl); (case hg => rfl); (case hr => first | (go_simp; done) | (go_simp; rfl))
                            intro gb109 hg w36 hbox hb
                            have n0_ := aK (kB BK101.out hb)
                            have n1_ := aK (below_step (bF1 HB.out GE101.out) hb)
                            have n2_ := aK (hbox)
                            have n3_ := aK ((by rw [hg]; exact (below_size (bF1 HB.out GE101.out)) : w.heap.size ≤ gb109))
                            have n4_ := aK ((by rw [hg]; exact (below_size (bF1 HB.out GE101.out)) : w.heap.size ≤ gb109))
                            have n5_ := aK ((by rw [hg]; exact Nat.ne_of_lt (blk_lt (g := gb101) (o := .cells #[.slice none 0 0, .int .i64 0, .int .i64 0, .slice none 0 0, .slice none 0 0, .int .i64 0] 32 (0, 0)) (kF BK101.out)) : gb101 ≠ gb109))
                            have n6_ := aK ((by rw [hg]; exact Nat.ne_of_gt (blk_lt (g := gb101) (o := .cells #[.slice none 0 0, .int .i64 0, .int .i64 0, .slice none 0 0, .slice none 0 0, .int .i64 0] 32 (0, 0)) (kF BK101.out)) : gb109 ≠ gb101))
                            clear BK101
                            clear HB
                            have BK101 := n0_
                            have HB := n1_
                            have BK109 := n2_
                            have GW109 := n3_
                            have GE109 := n4_
                            have NB101_109 := n5_
                            have NB109_101 := n6_
                            clear n0_ n1_ n2_ n3_ n4_ n5_ n6_
                            clear hb hbox hg
                            refine hK.out _ _ trivial (fun hHeld => ?_)
                            clear hK K
                            refine norm_ (a' := ?_) ?_ ?_
                            rotate_left
                            · show Act.put _ (some 7) _ = _
                              simp only [Act.put, List.setIfInBounds_toArray, List.set_cons_zero, List.set_cons_succ, i64_w, i32_w]
                              rfl
                            exact norm_ (by first | (simp only [putAll, Act.put, List.setIfInBounds_toArray, List.set_cons_zero, List.set_cons_succ]; done) | (simp only [putAll, Act.put, List.setIfInBounds_toArray, List.set_cons_zero, List.set_cons_succ]; rfl)) (hJ6 (gb109) _ ⟨(kF BK101.out), (kF BK109.out), GW109.out, GE109.out, NB101_109.out, NB109_101.out, (bF2 HB.out GE101.out GE109.out)⟩)
                        · skip
                          rintro gb109 w37 ⟨h0_, h1_, h2_, h3_, h4_, h5_, h6_⟩
                          have n0_ : Aside0 (w37.heap[gb101]? = some (.cells #[.slice none 0 0, .int .i64 0, .int .i64 0, .slice none 0 0, .slice none 0 0, .int .i64 0] 32 (0, 0))) := ⟨h0_⟩
                          have n1_ : Aside0 (w37.heap[gb109]? = some (.cells #[.slice none 0 0, .int .i64 0, .int .i64 0, .slice none 0 0] 27 (0, 0))) := ⟨h1_⟩
                          have n2_ : Aside0 (w.heap.size ≤ gb109) := ⟨h2_⟩
                          have n3_ : Aside0 (w.heap.size ≤ gb109) := ⟨h3_⟩
                          have n4_ : Aside0 (gb101 ≠ gb109) := ⟨h4_⟩
                          have n5_ : Aside0 (gb109 ≠ gb101) := ⟨h5_⟩
                          have n6_ : Aside0 (Below w.heap.size w w37) := ⟨h6_⟩
                          clear BK101
                          clear HB
                          clear h0_ h1_ h2_ h3_ h4_ h5_ h6_
                          have BK101 := n0_
                          have BK109 := n1_
                          have GW109 := n2_
                          have GE109 := n3_
                          have NB101_109 := n4_
                          have NB109_101 := n5_
                          have HB := n6_
                          clear n0_ n1_ n2_ n3_ n4_ n5_ n6_
                          have hHeld := trivial
                          refine norm_ (a' := ?_) ?_ ?_
                          rotate_left
                          · simp only [putAll, Act.put, List.setIfInBounds_toArray, List.set_cons_zero, List.set_cons_succ]
                            rfl
                          refine two_ (i := 1) (j := 4) (Ni := some 17) (Nj := some 20) #[true, true, true, true, false, false, true, false] #[true, false, true, true, true, false, true, false] rfl rfl rfl rfl (two_of HT_.out (by kernel_rfl)) (by decide) (by decide) (fun K hK => ?_) (fun K hK => ?_)
                          · skip
                            refine goes_ Try.func77 (by kernel_rfl) rfl #[.slice A1 l1.length c1] (by rfl) rfl rfl lF ?_
                            with_reducible refine (slices_Clone_int64_int64.calls _ _ l1 t103 _ ?side1 ?side2 A9.out).mono ?_
                            (case side1 => exact cF (Kd.C_below HR1.out HB.out))
                            (case side2 => exact HC1.out)
                            rintro e w38 ⟨v104, rfl, ho0, hb⟩
                            refine ⟨_, rfl, ?_⟩
                            have n0_ := aK (QW ho0 (below_size (bF2 HB.out GE101.out GE109.out)))
                            have n1_ := aK (kB BK101.out hb)
                            have n2_ := aK (kB BK109.out hb)
                            have n3_ := aK (below_step (bF2 HB.out GE101.out GE109.out) hb)
                            clear BK101
                            clear BK109
                            clear HB
                            have HO105 := n0_
                            have BK101 := n1_
                            have BK109 := n2_
                            have HB := n3_
                            clear n0_ n1_ n2_ n3_
                            (try clear hb)
                            (try clear hb2)
                            (try clear hk)
                            (try clear hi)
                            (try clear ho0)
                            refine hK.out _ _ trivial (fun hHeld => ?_)
                            clear hK K
                            refine norm_ (a' := ?_) ?_ ?_
                            rotate_left
                            · show Act.put _ (some 17) _ = _
                              simp only [Act.put, List.setIfInBounds_toArray, List.set_cons_zero, List.set_cons_succ, i64_w, i32_w]
                              rfl
                            exact norm_ (by first | (simp only [putAll, Act.put, List.setIfInBounds_toArray, List.set_cons_zero, List.set_cons_succ]; done) | (simp only [putAll, Act.put, List.setIfInBounds_toArray, List.set_cons_zero, List.set_cons_succ]; rfl)) (hJ1_6 (v104, gb109) _ ⟨(rF HO105.out), (kF BK101.out), (kF BK109.out), GW109.out, GE109.out, NB101_109.out, NB109_101.out, (bF2 HB.out GE101.out GE109.out)⟩)
                          · skip
                            refine Kd.R_make_step (Kd.int .i64) _ 2 (by rfl) (N := 20) rfl 22 _ _ rfl a0 rfl rfl Try.underlying22 (.int .i64 0) 8 info2 rfl (by decide) (by omega) 0 (ok := fun _ => True) (okp := fun _ => True) rfl (fun _ hk => hk) trivial (of_decide_eq_true (by first | (with_reducible assumption) | assumption)) (Nat.le_trans (Nat.mul_le_mul_right _ (of_decide_eq_true (by first | (with_reducible assumption) | assumption) : a0.toNat ≤ 35184372088832)) (by omega)) (Below.refl _ _) (Nat.le_refl _) ?_
                            intro v107 w38 ho39 hb hg_ hnew_
                            clear hg_ hnew_
                            (first | rw [← Ny106.out] at ho39 | (simp only [Int.reduceToNat] at ho39; rw [← Ny106.out] at ho39))
                            have n0_ := aK (QW ho39 (below_size (bF2 HB.out GE101.out GE109.out)))
                            have n1_ := aK (kB BK101.out hb)
                            have n2_ := aK (kB BK109.out hb)
                            have n3_ := aK (below_step (bF2 HB.out GE101.out GE109.out) hb)
                            clear BK101
                            clear BK109
                            clear HB
                            have HO108 := n0_
                            have BK101 := n1_
                            have BK109 := n2_
                            have HB := n3_
                            clear n0_ n1_ n2_ n3_
                            clear hb ho39
                            refine hK.out _ _ trivial (fun hHeld => ?_)
                            clear hK K
                            refine norm_ (a' := ?_) ?_ ?_
                            rotate_left
                            · show Act.put _ (some 20) _ = _
                              simp only [Act.put, List.setIfInBounds_toArray, List.set_cons_zero, List.set_cons_succ, i64_w, i32_w]
                              rfl
                            exact norm_ (by first | (simp only [putAll, Act.put, List.setIfInBounds_toArray, List.set_cons_zero, List.set_cons_succ]; done) | (simp only [putAll, Act.put, List.setIfInBounds_toArray, List.set_cons_zero, List.set_cons_succ]; rfl)) (hJ4_6 (v107, gb109) _ ⟨(rF HO108.out), (kF BK101.out), (kF BK109.out), GW109.out, GE109.out, NB101_109.out, NB109_101.out, (bF2 HB.out GE101.out GE109.out)⟩)
                      · skip
                        rintro v107 w38 ⟨h0_, h1_, h2_⟩
                        have n0_ : Aside0 (Kd.R (Kd.int .i64) 2 w38 w.heap.size (fun _ => True) v107 y106) := ⟨h0_⟩
                        have n1_ : Aside0 (w38.heap[gb101]? = some (.cells #[.slice none 0 0, .int .i64 0, .int .i64 0, .slice none 0 0, .slice none 0 0, .int .i64 0] 32 (0, 0))) := ⟨h1_⟩
                        have n2_ : Aside0 (Below w.heap.size w w38) := ⟨h2_⟩
                        clear BK101
                        clear HB
                        clear h0_ h1_ h2_
                        have HO108 := n0_
                        have BK101 := n1_
                        have HB := n2_
                        clear n0_ n1_ n2_
                        have hHeld := trivial
                        refine norm_ (a' := ?_) ?_ ?_
                        rotate_left
                        · simp only [putAll, Act.put, List.setIfInBounds_toArray, List.set_cons_zero, List.set_cons_succ]
                          rfl
                        refine two_ (i := 1) (j := 6) (Ni := some 17) (Nj := some 7) #[true, true, true, true, true, false, false, false] #[true, false, true, true, true, false, true, false] rfl rfl rfl rfl (two_of HT_.out (by kernel_rfl)) (by decide) (by decide) (fun K hK => ?_) (fun K hK => ?_)
                        · skip
                          refine goes_ Try.func77 (by kernel_rfl) rfl #[.slice A1 l1.length c1] (by rfl) rfl rfl lF ?_
                          with_reducible refine (slices_Clone_int64_int64.calls _ _ l1 t103 _ ?side1 ?side2 A9.out).mono ?_
                          (case side1 => exact cF (Kd.C_below HR1.out HB.out))
                          (case side2 => exact HC1.out)
                          rintro e w39 ⟨v104, rfl, ho0, hb⟩
                          refine ⟨_, rfl, ?_⟩
                          have n0_ := aK (Kd.R_elder' (rF HO108.out) (QB ho0) hb)
                          have n1_ := aK (QW (QN ho0 (rL (HO108.out))) (below_size (bF1 HB.out GE101.out)))
                          have n2_ := aK (kB BK101.out hb)
                          have n3_ := aK (below_step (bF1 HB.out GE101.out) hb)
                          clear HO108
                          clear BK101
                          clear HB
                          have HO108 := n0_
                          have HO105 := n1_
                          have BK101 := n2_
                          have HB := n3_
                          clear n0_ n1_ n2_ n3_
                          (try clear hb)
                          (try clear hb2)
                          (try clear hk)
                          (try clear hi)
                          (try clear ho0)
                          obtain ⟨Ao40, co40, eo40⟩ := Kd.R_slice HO108.out
                          (first | subst eo40 | (injection eo40 with f1_ f2_ f3_; have f4_ := f1_.symm; have f5_ := f3_.symm; clear f1_ f2_ f3_; subst f4_; subst f5_))
                          obtain ⟨Ao41, co41, eo41⟩ := Kd.R_slice HO105.out
                          (first | subst eo41 | (injection eo41 with f1_ f2_ f3_; have f4_ := f1_.symm; have f5_ := f3_.symm; clear f1_ f2_ f3_; subst f4_; subst f5_))
                          refine hK.out _ _ trivial (fun hHeld => ?_)
                          clear hK K
                          refine norm_ (a' := ?_) ?_ ?_
                          rotate_left
                          · show Act.put _ (some 17) _ = _
                            simp only [Act.put, List.setIfInBounds_toArray, List.set_cons_zero, List.set_cons_succ, i64_w, i32_w]
                            rfl
                          refine pure_ (i := 5) (N := some 21) (v := ?_) (a' := ?_) #[true, true, true, true, true, true, false, false] rfl rfl (any_of HT_.out (by kernel_rfl)) (fun _ _ _ h => h) (Or.inl ⟨by rfl, ?_⟩) ?_ ?_
                          rotate_left
                          · intro w'
                            go_simp
                            with_reducible rfl
                          rotate_left
                          · simp only [Act.put, List.setIfInBounds_toArray, List.set_cons_zero, List.set_cons_succ, i64_w, i32_w]
                            rfl
                          exact norm_ (by first | (simp only [putAll, Act.put, List.setIfInBounds_toArray, List.set_cons_zero, List.set_cons_succ]; done) | (simp only [putAll, Act.put, List.setIfInBounds_toArray, List.set_cons_zero, List.set_cons_succ]; rfl)) (hJ1_4 (.slice Ao41 t103.length co41, .slice Ao40 y106.length co40) _ ⟨(by (with_reducible repeat (first | apply Kd.R_alloc | apply Kd.R_drewN | apply Kd.R_drew)); exact QM HO105.out (fun _ hk => hk.2)), (by (with_reducible repeat (first | apply Kd.R_alloc | apply Kd.R_drewN | apply Kd.R_drew)); exact QM HO108.out (fun _ hk => hk.2)), (kF BK101.out), (bF1 HB.out GE101.out)⟩)
                        · skip
                          refine box_step ?hg (N := 7) ?hd (cs := #[.slice none 0 0, .int .i64 0, .int .i64 0, .slice none 0 0]) (t := 27) ?hr ?_; (case hd => rfl); (case hg => rfl); (case hr => first | (go_simp; done) | (go_simp; rfl))
                          intro gb109 hg w39 hbox hb
                          have n0_ := aK (rB HO108.out hb)
                          have n1_ := aK (kB BK101.out hb)
                          have n2_ := aK (below_step (bF1 HB.out GE101.out) hb)
                          have n3_ := aK (hbox)
                          have n4_ := aK ((by rw [hg]; exact (below_size (bF1 HB.out GE101.out)) : w.heap.size ≤ gb109))
                          have n5_ := aK ((by rw [hg]; exact (below_size (bF1 HB.out GE101.out)) : w.heap.size ≤ gb109))
                          have n6_ := aK ((by rw [hg]; exact Nat.ne_of_lt (blk_lt (g := gb101) (o := .cells #[.slice none 0 0, .int .i64 0, .int .i64 0, .slice none 0 0, .slice none 0 0, .int .i64 0] 32 (0, 0)) (kF BK101.out)) : gb101 ≠ gb109))
                          have n7_ := aK ((by rw [hg]; exact Nat.ne_of_gt (blk_lt (g := gb101) (o := .cells #[.slice none 0 0, .int .i64 0, .int .i64 0, .slice none 0 0, .slice none 0 0, .int .i64 0] 32 (0, 0)) (kF BK101.out)) : gb109 ≠ gb101))
                          clear HO108
                          clear BK101
                          clear HB
                          have HO108 := n0_
                          have BK101 := n1_
                          have HB := n2_
                          have BK109 := n3_
                          have GW109 := n4_
                          have GE109 := n5_
                          have NB101_109 := n6_
                          have NB109_101 := n7_
                          clear n0_ n1_ n2_ n3_ n4_ n5_ n6_ n7_
                          clear hb hbox hg
                          refine hK.out _ _ trivial (fun hHeld => ?_)
                          clear hK K
                          refine norm_ (a' := ?_) ?_ ?_
                          rotate_left
                          · show Act.put _ (some 7) _ = _
                            simp only [Act.put, List.setIfInBounds_toArray, List.set_cons_zero, List.set_cons_succ, i64_w, i32_w]
                            rfl
                          exact norm_ (by first | (simp only [putAll, Act.put, List.setIfInBounds_toArray, List.set_cons_zero, List.set_cons_succ]; done) | (simp only [putAll, Act.put, List.setIfInBounds_toArray, List.set_cons_zero, List.set_cons_succ]; rfl)) (hJ4_6 (v107, gb109) _ ⟨(rF HO108.out), (kF BK101.out), (kF BK109.out), GW109.out, GE109.out, NB101_109.out, NB109_101.out, (bF2 HB.out GE101.out GE109.out)⟩)
                    · skip
                      rintro v104 w37 ⟨h0_, h1_, h2_⟩
                      have n0_ : Aside0 (Kd.R (Kd.int .i64) 2 w37 w.heap.size (fun _ => True) v104 t103) := ⟨h0_⟩
                      have n1_ : Aside0 (w37.heap[gb101]? = some (.cells #[.slice none 0 0, .int .i64 0, .int .i64 0, .slice none 0 0, .slice none 0 0, .int .i64 0] 32 (0, 0))) := ⟨h1_⟩
                      have n2_ : Aside0 (Below w.heap.size w w37) := ⟨h2_⟩
                      clear BK101
                      clear HB
                      clear h0_ h1_ h2_
                      have HO105 := n0_
                      have BK101 := n1_
                      have HB := n2_
                      clear n0_ n1_ n2_
                      have hHeld := trivial
                      refine norm_ (a' := ?_) ?_ ?_
                      rotate_left
                      · simp only [putAll, Act.put, List.setIfInBounds_toArray, List.set_cons_zero, List.set_cons_succ]
                        rfl
                      refine two_ (i := 4) (j := 6) (Ni := some 20) (Nj := some 7) #[true, true, true, true, true, false, false, false] #[true, true, true, true, false, false, true, false] rfl rfl rfl rfl (two_of HT_.out (by kernel_rfl)) (by decide) (by decide) (fun K hK => ?_) (fun K hK => ?_)
                      · skip
                        refine Kd.R_make_step (Kd.int .i64) _ 2 (by rfl) (N := 20) rfl 22 _ _ rfl a0 rfl rfl Try.underlying22 (.int .i64 0) 8 info2 rfl (by decide) (by omega) 0 (ok := fun _ => True) (okp := fun _ => True) rfl (fun _ hk => hk) trivial (of_decide_eq_true (by first | (with_reducible assumption) | assumption)) (Nat.le_trans (Nat.mul_le_mul_right _ (of_decide_eq_true (by first | (with_reducible assumption) | assumption) : a0.toNat ≤ 35184372088832)) (by omega)) (Below.refl _ _) (Nat.le_refl _) ?_
                        intro v107 w38 ho39 hb hg_ hnew_
                        clear hg_ hnew_
                        (first | rw [← Ny106.out] at ho39 | (simp only [Int.reduceToNat] at ho39; rw [← Ny106.out] at ho39))
                        have n0_ := aK (Kd.R_elder' (rF HO105.out) (QB ho39) hb)
                        have n1_ := aK (QW (QN ho39 (rL (HO105.out))) (below_size (bF1 HB.out GE101.out)))
                        have n2_ := aK (kB BK101.out hb)
                        have n3_ := aK (below_step (bF1 HB.out GE101.out) hb)
                        clear HO105
                        clear BK101
                        clear HB
                        have HO105 := n0_
                        have HO108 := n1_
                        have BK101 := n2_
                        have HB := n3_
                        clear n0_ n1_ n2_ n3_
                        clear hb ho39
                        obtain ⟨Ao40, co40, eo40⟩ := Kd.R_slice HO108.out
                        (first | subst eo40 | (injection eo40 with f1_ f2_ f3_; have f4_ := f1_.symm; have f5_ := f3_.symm; clear f1_ f2_ f3_; subst f4_; subst f5_))
                        obtain ⟨Ao41, co41, eo41⟩ := Kd.R_slice HO105.out
                        (first | subst eo41 | (injection eo41 with f1_ f2_ f3_; have f4_ := f1_.symm; have f5_ := f3_.symm; clear f1_ f2_ f3_; subst f4_; subst f5_))
                        refine hK.out _ _ trivial (fun hHeld => ?_)
                        clear hK K
                        refine norm_ (a' := ?_) ?_ ?_
                        rotate_left
                        · show Act.put _ (some 20) _ = _
                          simp only [Act.put, List.setIfInBounds_toArray, List.set_cons_zero, List.set_cons_succ, i64_w, i32_w]
                          rfl
                        refine pure_ (i := 5) (N := some 21) (v := ?_) (a' := ?_) #[true, true, true, true, true, true, false, false] rfl rfl (any_of HT_.out (by kernel_rfl)) (fun _ _ _ h => h) (Or.inl ⟨by rfl, ?_⟩) ?_ ?_
                        rotate_left
                        · intro w'
                          go_simp
                          with_reducible rfl
                        rotate_left
                        · simp only [Act.put, List.setIfInBounds_toArray, List.set_cons_zero, List.set_cons_succ, i64_w, i32_w]
                          rfl
                        exact norm_ (by first | (simp only [putAll, Act.put, List.setIfInBounds_toArray, List.set_cons_zero, List.set_cons_succ]; done) | (simp only [putAll, Act.put, List.setIfInBounds_toArray, List.set_cons_zero, List.set_cons_succ]; rfl)) (hJ1_4 (.slice Ao41 t103.length co41, .slice Ao40 y106.length co40) _ ⟨(by (with_reducible repeat (first | apply Kd.R_alloc | apply Kd.R_drewN | apply Kd.R_drew)); exact QM HO105.out (fun _ hk => hk.2)), (by (with_reducible repeat (first | apply Kd.R_alloc | apply Kd.R_drewN | apply Kd.R_drew)); exact QM HO108.out (fun _ hk => hk.2)), (kF BK101.out), (bF1 HB.out GE101.out)⟩)
                      · skip
                        refine box_step ?hg (N := 7) ?hd (cs := #[.slice none 0 0, .int .i64 0, .int .i64 0, .slice none 0 0]) (t := 27) ?hr ?_; (case hd => rfl); (case hg => rfl); (case hr => first | (go_simp; done) | (go_simp; rfl))
                        intro gb109 hg w38 hbox hb
                        have n0_ := aK (rB HO105.out hb)
                        have n1_ := aK (kB BK101.out hb)
                        have n2_ := aK (below_step (bF1 HB.out GE101.out) hb)
                        have n3_ := aK (hbox)
                        have n4_ := aK ((by rw [hg]; exact (below_size (bF1 HB.out GE101.out)) : w.heap.size ≤ gb109))
                        have n5_ := aK ((by rw [hg]; exact (below_size (bF1 HB.out GE101.out)) : w.heap.size ≤ gb109))
                        have n6_ := aK ((by rw [hg]; exact Nat.ne_of_lt (blk_lt (g := gb101) (o := .cells #[.slice none 0 0, .int .i64 0, .int .i64 0, .slice none 0 0, .slice none 0 0, .int .i64 0] 32 (0, 0)) (kF BK101.out)) : gb101 ≠ gb109))
                        have n7_ := aK ((by rw [hg]; exact Nat.ne_of_gt (blk_lt (g := gb101) (o := .cells #[.slice none 0 0, .int .i64 0, .int .i64 0, .slice none 0 0, .slice none 0 0, .int .i64 0] 32 (0, 0)) (kF BK101.out)) : gb109 ≠ gb101))
                        clear HO105
                        clear BK101
                        clear HB
                        have HO105 := n0_
                        have BK101 := n1_
                        have HB := n2_
                        have BK109 := n3_
                        have GW109 := n4_
                        have GE109 := n5_
                        have NB101_109 := n6_
                        have NB109_101 := n7_
                        clear n0_ n1_ n2_ n3_ n4_ n5_ n6_ n7_
                        clear hb hbox hg
                        refine hK.out _ _ trivial (fun hHeld => ?_)
                        clear hK K
                        refine norm_ (a' := ?_) ?_ ?_
                        rotate_left
                        · show Act.put _ (some 7) _ = _
                          simp only [Act.put, List.setIfInBounds_toArray, List.set_cons_zero, List.set_cons_succ, i64_w, i32_w]
                          rfl
                        exact norm_ (by first | (simp only [putAll, Act.put, List.setIfInBounds_toArray, List.set_cons_zero, List.set_cons_succ]; done) | (simp only [putAll, Act.put, List.setIfInBounds_toArray, List.set_cons_zero, List.set_cons_succ]; rfl)) (hJ1_6 (v104, gb109) _ ⟨(rF HO105.out), (kF BK101.out), (kF BK109.out), GW109.out, GE109.out, NB101_109.out, NB109_101.out, (bF2 HB.out GE101.out GE109.out)⟩)
                  · skip
                    rintro ⟨v107, gb109⟩ w39 ⟨h0_, h1_, h2_, h3_, h4_, h5_, h6_, h7_⟩
                    have n0_ : Aside0 (Kd.R (Kd.int .i64) 2 w39 w.heap.size (fun _ => True) v107 y106) := ⟨h0_⟩
                    have n1_ : Aside0 (w39.heap[gb101]? = some (.cells #[.slice none 0 0, .int .i64 0, .int .i64 0, .slice none 0 0, .slice none 0 0, .int .i64 0] 32 (0, 0))) := ⟨h1_⟩
                    have n2_ : Aside0 (w39.heap[gb109]? = some (.cells #[.slice none 0 0, .int .i64 0, .int .i64 0, .slice none 0 0] 27 (0, 0))) := ⟨h2_⟩
                    have n3_ : Aside0 (w.heap.size ≤ gb109) := ⟨h3_⟩
                    have n4_ : Aside0 (w.heap.size ≤ gb109) := ⟨h4_⟩
                    have n5_ : Aside0 (gb101 ≠ gb109) := ⟨h5_⟩
                    have n6_ : Aside0 (gb109 ≠ gb101) := ⟨h6_⟩
                    have n7_ : Aside0 (Below w.heap.size w w39) := ⟨h7_⟩
                    clear BK101
                    clear HB
                    clear h0_ h1_ h2_ h3_ h4_ h5_ h6_ h7_
                    have HO108 := n0_
                    have BK101 := n1_
                    have BK109 := n2_
                    have GW109 := n3_
                    have GE109 := n4_
                    have NB101_109 := n5_
                    have NB109_101 := n6_
                    have HB := n7_
                    clear n0_ n1_ n2_ n3_ n4_ n5_ n6_ n7_
                    have hHeld := trivial
                    refine norm_ (a' := ?_) ?_ ?_
                    rotate_left
                    · simp only [putAll, Act.put, List.setIfInBounds_toArray, List.set_cons_zero, List.set_cons_succ]
                      rfl
                    refine one_ (i := 1) (N := some 17) #[true, true, true, true, true, false, true, false] rfl rfl (one_of HT_.out (by kernel_rfl)) (by decide) (fun K hK => ?_)
                    refine goes_ Try.func77 (by kernel_rfl) rfl #[.slice A1 l1.length c1] (by rfl) rfl rfl lF ?_
                    with_reducible refine (slices_Clone_int64_int64.calls _ _ l1 t103 _ ?side1 ?side2 A9.out).mono ?_
                    (case side1 => exact cF (Kd.C_below HR1.out HB.out))
                    (case side2 => exact HC1.out)
                    rintro e w40 ⟨v104, rfl, ho0, hb⟩
                    refine ⟨_, rfl, ?_⟩
                    have n0_ := aK (Kd.R_elder' (rF HO108.out) (QB ho0) hb)
                    have n1_ := aK (QW (QN ho0 (rL (HO108.out))) (below_size (bF2 HB.out GE101.out GE109.out)))
                    have n2_ := aK (kB BK101.out hb)
                    have n3_ := aK (kB BK109.out hb)
                    have n4_ := aK (below_step (bF2 HB.out GE101.out GE109.out) hb)
                    clear HO108
                    clear BK101
                    clear BK109
                    clear HB
                    have HO108 := n0_
                    have HO105 := n1_
                    have BK101 := n2_
                    have BK109 := n3_
                    have HB := n4_
                    clear n0_ n1_ n2_ n3_ n4_
                    (try clear hb)
                    (try clear hb2)
                    (try clear hk)
                    (try clear hi)
                    (try clear ho0)
                    obtain ⟨Ao41, co41, eo41⟩ := Kd.R_slice HO108.out
                    (first | subst eo41 | (injection eo41 with f1_ f2_ f3_; have f4_ := f1_.symm; have f5_ := f3_.symm; clear f1_ f2_ f3_; subst f4_; subst f5_))
                    obtain ⟨Ao42, co42, eo42⟩ := Kd.R_slice HO105.out
                    (first | subst eo42 | (injection eo42 with f1_ f2_ f3_; have f4_ := f1_.symm; have f5_ := f3_.symm; clear f1_ f2_ f3_; subst f4_; subst f5_))
                    refine hK.out _ _ trivial (fun hHeld => ?_)
                    clear hK K
                    refine norm_ (a' := ?_) ?_ ?_
                    rotate_left
                    · show Act.put _ (some 17) _ = _
                      simp only [Act.put, List.setIfInBounds_toArray, List.set_cons_zero, List.set_cons_succ, i64_w, i32_w]
                      rfl
                    refine pure_ (i := 5) (N := some 21) (v := ?_) (a' := ?_) #[true, true, true, true, true, true, true, false] rfl rfl (any_of HT_.out (by kernel_rfl)) (fun _ _ _ h => h) (Or.inl ⟨by rfl, ?_⟩) ?_ ?_
                    rotate_left
                    · intro w'
                      go_simp
                      with_reducible rfl
                    rotate_left
                    · simp only [Act.put, List.setIfInBounds_toArray, List.set_cons_zero, List.set_cons_succ, i64_w, i32_w]
                      rfl
                    exact norm_ (by first | (simp only [putAll, Act.put, List.setIfInBounds_toArray, List.set_cons_zero, List.set_cons_succ]; done) | (simp only [putAll, Act.put, List.setIfInBounds_toArray, List.set_cons_zero, List.set_cons_succ]; rfl)) (hJ1_4_6 (.slice Ao42 t103.length co42, .slice Ao41 y106.length co41, gb109) _ ⟨(by (with_reducible repeat (first | apply Kd.R_alloc | apply Kd.R_drewN | apply Kd.R_drew)); exact QM HO105.out (fun _ hk => hk.2)), (by (with_reducible repeat (first | apply Kd.R_alloc | apply Kd.R_drewN | apply Kd.R_drew)); exact QM HO108.out (fun _ hk => hk.2)), (kF BK101.out), (kF BK109.out), GW109.out, GE109.out, NB101_109.out, NB109_101.out, (bF2 HB.out GE101.out GE109.out)⟩)
                · skip
                  rintro ⟨v104, gb109⟩ w38 ⟨h0_, h1_, h2_, h3_, h4_, h5_, h6_, h7_⟩
                  have n0_ : Aside0 (Kd.R (Kd.int .i64) 2 w38 w.heap.size (fun _ => True) v104 t103) := ⟨h0_⟩
                  have n1_ : Aside0 (w38.heap[gb101]? = some (.cells #[.slice none 0 0, .int .i64 0, .int .i64 0, .slice none 0 0, .slice none 0 0, .int .i64 0] 32 (0, 0))) := ⟨h1_⟩
                  have n2_ : Aside0 (w38.heap[gb109]? = some (.cells #[.slice none 0 0, .int .i64 0, .int .i64 0, .slice none 0 0] 27 (0, 0))) := ⟨h2_⟩
                  have n3_ : Aside0 (w.heap.size ≤ gb109) := ⟨h3_⟩
                  have n4_ : Aside0 (w.heap.size ≤ gb109) := ⟨h4_⟩
                  have n5_ : Aside0 (gb101 ≠ gb109) := ⟨h5_⟩
                  have n6_ : Aside0 (gb109 ≠ gb101) := ⟨h6_⟩
                  have n7_ : Aside0 (Below w.heap.size w w38) := ⟨h7_⟩
                  clear BK101
                  clear HB
                  clear h0_ h1_ h2_ h3_ h4_ h5_ h6_ h7_
                  have HO105 := n0_
                  have BK101 := n1_
                  have BK109 := n2_
                  have GW109 := n3_
                  have GE109 := n4_
                  have NB101_109 := n5_
                  have NB109_101 := n6_
                  have HB := n7_
                  clear n0_ n1_ n2_ n3_ n4_ n5_ n6_ n7_
                  have hHeld := trivial
                  refine norm_ (a' := ?_) ?_ ?_
                  rotate_left
                  · simp only [putAll, Act.put, List.setIfInBounds_toArray, List.set_cons_zero, List.set_cons_succ]
                    rfl
                  refine one_ (i := 4) (N := some 20) #[true, true, true, true, true, false, true, false] rfl rfl (one_of HT_.out (by kernel_rfl)) (by decide) (fun K hK => ?_)
                  refine Kd.R_make_step (Kd.int .i64) _ 2 (by rfl) (N := 20) rfl 22 _ _ rfl a0 rfl rfl Try.underlying22 (.int .i64 0) 8 info2 rfl (by decide) (by omega) 0 (ok := fun _ => True) (okp := fun _ => True) rfl (fun _ hk => hk) trivial (of_decide_eq_true (by first | (with_reducible assumption) | assumption)) (Nat.le_trans (Nat.mul_le_mul_right _ (of_decide_eq_true (by first | (with_reducible assumption) | assumption) : a0.toNat ≤ 35184372088832)) (by omega)) (Below.refl _ _) (Nat.le_refl _) ?_
                  intro v107 w39 ho40 hb hg_ hnew_
                  clear hg_ hnew_
                  (first | rw [← Ny106.out] at ho40 | (simp only [Int.reduceToNat] at ho40; rw [← Ny106.out] at ho40))
                  have n0_ := aK (Kd.R_elder' (rF HO105.out) (QB ho40) hb)
                  have n1_ := aK (QW (QN ho40 (rL (HO105.out))) (below_size (bF2 HB.out GE101.out GE109.out)))
                  have n2_ := aK (kB BK101.out hb)
                  have n3_ := aK (kB BK109.out hb)
                  have n4_ := aK (below_step (bF2 HB.out GE101.out GE109.out) hb)
                  clear HO105
                  clear BK101
                  clear BK109
                  clear HB
                  have HO105 := n0_
                  have HO108 := n1_
                  have BK101 := n2_
                  have BK109 := n3_
                  have HB := n4_
                  clear n0_ n1_ n2_ n3_ n4_
                  clear hb ho40
                  obtain ⟨Ao41, co41, eo41⟩ := Kd.R_slice HO108.out
                  (first | subst eo41 | (injection eo41 with f1_ f2_ f3_; have f4_ := f1_.symm; have f5_ := f3_.symm; clear f1_ f2_ f3_; subst f4_; subst f5_))
                  obtain ⟨Ao42, co42, eo42⟩ := Kd.R_slice HO105.out
                  (first | subst eo42 | (injection eo42 with f1_ f2_ f3_; have f4_ := f1_.symm; have f5_ := f3_.symm; clear f1_ f2_ f3_; subst f4_; subst f5_))
                  refine hK.out _ _ trivial (fun hHeld => ?_)
                  clear hK K
                  refine norm_ (a' := ?_) ?_ ?_
                  rotate_left
                  · show Act.put _ (some 20) _ = _
                    simp only [Act.put, List.setIfInBounds_toArray, List.set_cons_zero, List.set_cons_succ, i64_w, i32_w]
                    rfl
                  refine pure_ (i := 5) (N := some 21) (v := ?_) (a' := ?_) #[true, true, true, true, true, true, true, false] rfl rfl (any_of HT_.out (by kernel_rfl)) (fun _ _ _ h => h) (Or.inl ⟨by rfl, ?_⟩) ?_ ?_
                  rotate_left
                  · intro w'
                    go_simp
                    with_reducible rfl
                  rotate_left
                  · simp only [Act.put, List.setIfInBounds_toArray, List.set_cons_zero, List.set_cons_succ, i64_w, i32_w]
                    rfl
                  exact norm_ (by first | (simp only [putAll, Act.put, List.setIfInBounds_toArray, List.set_cons_zero, List.set_cons_succ]; done) | (simp only [putAll, Act.put, List.setIfInBounds_toArray, List.set_cons_zero, List.set_cons_succ]; rfl)) (hJ1_4_6 (.slice Ao42 t103.length co42, .slice Ao41 y106.length co41, gb109) _ ⟨(by (with_reducible repeat (first | apply Kd.R_alloc | apply Kd.R_drewN | apply Kd.R_drew)); exact QM HO105.out (fun _ hk => hk.2)), (by (with_reducible repeat (first | apply Kd.R_alloc | apply Kd.R_drewN | apply Kd.R_drew)); exact QM HO108.out (fun _ hk => hk.2)), (kF BK101.out), (kF BK109.out), GW109.out, GE109.out, NB101_109.out, NB109_101.out, (bF2 HB.out GE101.out GE109.out)⟩)
              · skip
                rintro ⟨v104, v107⟩ w41 ⟨h0_, h1_, h2_, h3_⟩
                have n0_ : Aside0 (Kd.R (Kd.int .i64) 2 w41 w.heap.size (fun k_ => some k_ ≠ (v107 : Value).ownBlock) v104 t103) := ⟨h0_⟩
                have n1_ : Aside0 (Kd.R (Kd.int .i64) 2 w41 w.heap.size (fun k_ => some k_ ≠ (v104 : Value).ownBlock) v107 y106) := ⟨h1_⟩
                have n2_ : Aside0 (w41.heap[gb101]? = some (.cells #[.slice none 0 0, .int .i64 0, .int .i64 0, .slice none 0 0, .slice none 0 0, .int .i64 0] 32 (0, 0))) := ⟨h2_⟩
                have n3_ : Aside0 (Below w.heap.size w w41) := ⟨h3_⟩
                clear BK101
                clear HB
                clear h0_ h1_ h2_ h3_
                have HO105 := n0_
                have HO108 := n1_
                have BK101 := n2_
                have HB := n3_
                clear n0_ n1_ n2_ n3_
                have hHeld := trivial
                obtain ⟨Ao42, co42, eo42⟩ := Kd.R_slice HO108.out
                (first | subst eo42 | (injection eo42 with f1_ f2_ f3_; have f4_ := f1_.symm; have f5_ := f3_.symm; clear f1_ f2_ f3_; subst f4_; subst f5_))
                obtain ⟨Ao43, co43, eo43⟩ := Kd.R_slice HO105.out
                (first | subst eo43 | (injection eo43 with f1_ f2_ f3_; have f4_ := f1_.symm; have f5_ := f3_.symm; clear f1_ f2_ f3_; subst f4_; subst f5_))
                refine norm_ (a' := ?_) ?_ ?_
                rotate_left
                · simp only [putAll, Act.put, List.setIfInBounds_toArray, List.set_cons_zero, List.set_cons_succ]
                  rfl
                refine one_ (i := 6) (N := some 7) #[true, true, true, true, true, true, true, false] rfl rfl (one_of HT_.out (by kernel_rfl)) (by decide) (fun K hK => ?_)
                refine box_step ?hg (N := 7) ?hd (cs := #[.slice none 0 0, .int .i64 0, .int .i64 0, .slice none 0 0]) (t := 27) ?hr ?_; (case hd => rfl); (case hg => rfl); (case hr => first | (go_simp; done) | (go_simp; rfl))
                intro gb109 hg w44 hbox hb
                have n0_ := aK (rB HO105.out hb)
                have n1_ := aK (rB HO108.out hb)
                have n2_ := aK (kB BK101.out hb)
                have n3_ := aK (below_step (bF1 HB.out GE101.out) hb)
                have n4_ := aK (hbox)
                have n5_ := aK ((by rw [hg]; exact (below_size (bF1 HB.out GE101.out)) : w.heap.size ≤ gb109))
                have n6_ := aK ((by rw [hg]; exact (below_size (bF1 HB.out GE101.out)) : w.heap.size ≤ gb109))
                have n7_ := aK ((by rw [hg]; exact Nat.ne_of_lt (blk_lt (g := gb101) (o := .cells #[.slice none 0 0, .int .i64 0, .int .i64 0, .slice none 0 0, .slice none 0 0, .int .i64 0] 32 (0, 0)) (kF BK101.out)) : gb101 ≠ gb109))
                have n8_ := aK ((by rw [hg]; exact Nat.ne_of_gt (blk_lt (g := gb101) (o := .cells #[.slice none 0 0, .int .i64 0, .int .i64 0, .slice none 0 0, .slice none 0 0, .int .i64 0] 32 (0, 0)) (kF BK101.out)) : gb109 ≠ gb101))
                clear HO105
                clear HO108
                clear BK101
                clear HB
                have HO105 := n0_
                have HO108 := n1_
                have BK101 := n2_
                have HB := n3_
                have BK109 := n4_
                have GW109 := n5_
                have GE109 := n6_
                have NB101_109 := n7_
                have NB109_101 := n8_
                clear n0_ n1_ n2_ n3_ n4_ n5_ n6_ n7_ n8_
                clear hb hbox hg
                refine hK.out _ _ trivial (fun hHeld => ?_)
                clear hK K
                refine norm_ (a' := ?_) ?_ ?_
                rotate_left
                · show Act.put _ (some 7) _ = _
                  simp only [Act.put, List.setIfInBounds_toArray, List.set_cons_zero, List.set_cons_succ, i64_w, i32_w]
                  rfl
                exact norm_ (by first | (simp only [putAll, Act.put, List.setIfInBounds_toArray, List.set_cons_zero, List.set_cons_succ]; done) | (simp only [putAll, Act.put, List.setIfInBounds_toArray, List.set_cons_zero, List.set_cons_succ]; rfl)) (hJ1_4_6 (.slice Ao43 t103.length co43, .slice Ao42 y106.length co42, gb109) _ ⟨(rF HO105.out), (rF HO108.out), (kF BK101.out), (kF BK109.out), GW109.out, GE109.out, NB101_109.out, NB109_101.out, (bF2 HB.out GE101.out GE109.out)⟩)
            rintro ⟨v104, v107, gb109⟩ w42 ⟨h0_, h1_, h2_, h3_, h4_, h5_, h6_, h7_, h8_⟩
            have n0_ : Aside0 (Kd.R (Kd.int .i64) 2 w42 w.heap.size (fun k_ => some k_ ≠ (v107 : Value).ownBlock) v104 t103) := ⟨h0_⟩
            have n1_ : Aside0 (Kd.R (Kd.int .i64) 2 w42 w.heap.size (fun k_ => some k_ ≠ (v104 : Value).ownBlock) v107 y106) := ⟨h1_⟩
            have n2_ : Aside0 (w42.heap[gb101]? = some (.cells #[.slice none 0 0, .int .i64 0, .int .i64 0, .slice none 0 0, .slice none 0 0, .int .i64 0] 32 (0, 0))) := ⟨h2_⟩
            have n3_ : Aside0 (w42.heap[gb109]? = some (.cells #[.slice none 0 0, .int .i64 0, .int .i64 0, .slice none 0 0] 27 (0, 0))) := ⟨h3_⟩
            have n4_ : Aside0 (w.heap.size ≤ gb109) := ⟨h4_⟩
            have n5_ : Aside0 (w.heap.size ≤ gb109) := ⟨h5_⟩
            have n6_ : Aside0 (gb101 ≠ gb109) := ⟨h6_⟩
            have n7_ : Aside0 (gb109 ≠ gb101) := ⟨h7_⟩
            have n8_ : Aside0 (Below w.heap.size w w42) := ⟨h8_⟩
            clear BK101
            clear HB
            clear h0_ h1_ h2_ h3_ h4_ h5_ h6_ h7_ h8_
            have HO105 := n0_
            have HO108 := n1_
            have BK101 := n2_
            have BK109 := n3_
            have GW109 := n4_
            have GE109 := n5_
            have NB101_109 := n6_
            have NB109_101 := n7_
            have HB := n8_
            clear n0_ n1_ n2_ n3_ n4_ n5_ n6_ n7_ n8_
            have hHeld := trivial
            obtain ⟨Ao43, co43, eo43⟩ := Kd.R_slice HO108.out
            (first | subst eo43 | (injection eo43 with f1_ f2_ f3_; have f4_ := f1_.symm; have f5_ := f3_.symm; clear f1_ f2_ f3_; subst f4_; subst f5_))
            obtain ⟨Ao44, co44, eo44⟩ := Kd.R_slice HO105.out
            (first | subst eo44 | (injection eo44 with f1_ f2_ f3_; have f4_ := f1_.symm; have f5_ := f3_.symm; clear f1_ f2_ f3_; subst f4_; subst f5_))
            refine norm_ (a' := ?_) ?_ ?_
            rotate_left
            · simp only [putAll, Act.put, List.setIfInBounds_toArray, List.set_cons_zero, List.set_cons_succ]
              rfl
            refine one_ (i := 7) (N := none) #[true, true, true, true, true, true, true, true] rfl rfl (one_of HT_.out (by kernel_rfl)) (by decide) (fun K hK => ?_)
            have hs45 : w42.cell? ⟨gb109, 0, none⟩ = some (.slice none 0 0) := (blk_cell BK109.out 0).trans rfl
            have hfs45 := blk_frozen BK109.out 0
            have hns45_0 := NB101_109.out
            have hms45_0 := NB109_101.out
            have hs46 : w42.cell? ⟨gb109, 1, none⟩ = some (.int .i64 0) := (blk_cell BK109.out 1).trans rfl
            have hfs46 := blk_frozen BK109.out 1
            have hns46_0 := NB101_109.out
            have hms46_0 := NB109_101.out
            have hs47 : w42.cell? ⟨gb109, 2, none⟩ = some (.int .i64 0) := (blk_cell BK109.out 2).trans rfl
            have hfs47 := blk_frozen BK109.out 2
            have hns47_0 := NB101_109.out
            have hms47_0 := NB109_101.out
            have hs48 : w42.cell? ⟨gb109, 3, none⟩ = some (.slice none 0 0) := (blk_cell BK109.out 3).trans rfl
            have hfs48 := blk_frozen BK109.out 3
            have hns48_0 := NB101_109.out
            have hms48_0 := NB109_101.out
            refine skip_ (w1 := ?_) (by rfl) rfl ?_ ?_
            rotate_left
            · go_simp
              rfl
            refine hK.out _ _ trivial (fun hHeld => ?_)
            clear hK K
            refine done_ (done_of HT_.out (by kernel_rfl)) ?_
            have hnb49 := NB109_101.out
            have hnc49 := NB101_109.out
            have hcz50_0 : w42.cell? ⟨gb109, 0, none⟩ = some (.slice none 0 0) := (blk_cell BK109.out 0).trans rfl
            have hcz50_1 : w42.cell? ⟨gb109, 1, none⟩ = some (.int .i64 0) := (blk_cell BK109.out 1).trans rfl
            have hcz50_2 : w42.cell? ⟨gb109, 2, none⟩ = some (.int .i64 0) := (blk_cell BK109.out 2).trans rfl
            have hcz50_3 : w42.cell? ⟨gb109, 3, none⟩ = some (.slice none 0 0) := (blk_cell BK109.out 3).trans rfl
            have hfz50_0 := blk_frozen BK109.out 0
            have hfz50_1 := blk_frozen BK109.out 1
            have hfz50_2 := blk_frozen BK109.out 2
            have hfz50_3 := blk_frozen BK109.out 3
            try go_wp2_with (first | ((with_reducible refine gate_callee (f := 72) rfl ?_); refine goesL_ (some 23) rfl rfl Try.func72 (by kernel_rfl) rfl #[.agg #[.slice Ao44 t103.length co44, .int .i64 0, .int .i64 a2, .slice Ao43 y106.length co43]] rfl lF ?_; (with_reducible refine (impl_isFleet.calls k _ _ t103 0 a2 _ _ y106 false _ ?side1 ?side2 ?side3 ?side4 A12.out).mono ?_); (case side1 => refine (Kd.R_reads' (e := 2) (base := w.heap.size) (ok := fun k_ => NO Ao43 y106 co43 k_) (n := t103.length) (c := co44) ?_).2.2; exact (rF (far4 HO105.out BK109.out))); (case side2 => exact (Kd.R_reads' HO105.out).2.1); (case side3 => refine (Kd.R_reads' (e := 2) (base := w.heap.size) (ok := fun k_ => NO Ao44 t103 co44 k_) (n := y106.length) (c := co43) ?_).2.2; exact (rF (far4 HO108.out BK109.out))); (case side4 => exact (Kd.R_reads' HO108.out).2.1); rintro e w51 ⟨rfl, hb⟩; refine ⟨_, rfl, ?_⟩; replace HO105 := aK (Kd.R_below (rF (far4 HO105.out BK109.out)) hb); replace HO108 := aK (Kd.R_below (rF (far4 HO108.out BK109.out)) hb); replace BK101 := aK (kY1 BK101.out NB101_109.out hb); replace BK109 := aK (blk_below (g := gb109) (o := .cells #[.slice Ao44 t103.length co44, .int .i64 0, .int .i64 a2, .slice Ao43 y106.length co43] 27 (0, 0)) (kP4 BK109.out) hb); replace HB := aK (below_step (bF2 HB.out GE101.out GE109.out) hb); (try clear hb); (try clear hb2); (try clear hk); (try clear hi); obtain ⟨hcz52_0, hcz52_1, hcz52_2, hcz52_3, hcz52_4, hcz52_5⟩ := cells6 BK101.out; obtain ⟨hfz52_0, hfz52_1, hfz52_2, hfz52_3, hfz52_4, hfz52_5⟩ := frz6 BK101.out))
            refine bodyPost_ret (results_cell_row rfl _ _ gb101 32 #[.slice none 0 0, .int .i64 0, .int .i64 0, .slice none 0 0, .slice none 0 0, .int .i64 1] (0, 0) _ rfl (kP6 BK101.out) Try.underlying32 rfl (by kernel_rfl)) rfl ?_
            exact ⟨_, _, _, by first | rfl | (simp only [i64_w, i32_w]; done) | (simp only [i64_w, i32_w]; rfl) | (simp [errW_none, errW_some] <;> rfl) | (simp [*, errW_none, errW_some] <;> rfl), by first | exact Kd.R_nil _ _ _ _ _ | exact Kd.N_nil _ _ _ _ _ | exact Kd.V_nil _ _ _ _ _ | exact Kd.Q_nil _ _ _ _ _ | exact Kd.S_nil _ _ _ _ _, by first | exact Kd.R_nil _ _ _ _ _ | exact Kd.N_nil _ _ _ _ _ | exact Kd.V_nil _ _ _ _ _ | exact Kd.Q_nil _ _ _ _ _ | exact Kd.S_nil _ _ _ _ _, by first | exact Kd.R_nil _ _ _ _ _ | exact Kd.N_nil _ _ _ _ _ | exact Kd.V_nil _ _ _ _ _ | exact Kd.Q_nil _ _ _ _ _ | exact Kd.S_nil _ _ _ _ _, by repeat (first | (with_reducible first | exact HB.out | apply below_alloc | apply pw_below_drewN | apply below_drew1 | refine below_set ?_ GE101.out | refine below_set ?_ GE109.out) | exact HB.out)⟩
        · rw [if_neg c11] at H
          exact absurd H (by simp)
      · rw [if_neg c10] at H
        exact absurd H (by simp)
    · replace c8 := Bool.eq_false_iff.mpr c8
      subst c8
      have H1 : (some (([] : List Int), 0, 0, ([] : List Int), ([] : List Int), 1)) = some (r1, r2, r3, r4, r5, r6) := by rw [if_neg (show ¬ (false = true) by decide)] at H; exact H
      clear H
      have H := H1
      clear H1
      simp only [Option.some.injEq, Prod.mk.injEq] at H
      obtain ⟨rfl, rfl, rfl, rfl, rfl, rfl⟩ := H
      go_enter Try.func22, Try.ntmps22
      go_wp2_with (first | ((with_reducible refine gate_dst (N := 6) rfl ?_); refine boxE (N := 6) (cs := #[.slice none 0 0, .int .i64 0, .int .i64 0, .slice none 0 0, .slice none 0 0, .int .i64 0]) (t := 32) (h := ?_); intro gb101 hg w53 hbox hb; have BK101 := aK (hbox); have GW101 := aK ((by rw [hg]; exact (below_size (bF0 HB.out)) : w.heap.size ≤ gb101)); have GE101 := aK ((by rw [hg]; exact (below_size (bF0 HB.out)) : w.heap.size ≤ gb101)); replace HB := aK (below_step (bF0 HB.out) hb); clear hb hbox hg) | ((with_reducible refine gate_callee (f := 76) rfl ?_); refine goesL_ (some 13) rfl rfl Try.func76 (by kernel_rfl) rfl #[.int .i64 a0, .int .i64 1, .int .i64 12] rfl lF ?_; (with_reducible refine (impl_within.calls a0 1 12 false _ A7.out).mono ?_); rintro e w' ⟨rfl, ⟨nd, rfl⟩⟩; refine ⟨_, rfl, ?_⟩; (try (rw [drewN_self w53]; generalize hq_ : World.drewN w53 _ = w53; have n0_ : Aside0 (w53.heap[gb101]? = some (.cells #[.slice none 0 0, .int .i64 0, .int .i64 0, .slice none 0 0, .slice none 0 0, .int .i64 0] 32 (0, 0))) := ⟨by rw [← hq_]; exact (kF BK101.out)⟩; have n1_ : Aside0 (Below w.heap.size w w53) := ⟨by rw [← hq_]; exact (bF1 HB.out GE101.out)⟩; clear BK101 HB hq_; have BK101 := n0_; have HB := n1_; clear n0_ n1_)); obtain ⟨hcz54_0, hcz54_1, hcz54_2, hcz54_3, hcz54_4, hcz54_5⟩ := cells6 BK101.out; obtain ⟨hfz54_0, hfz54_1, hfz54_2, hfz54_3, hfz54_4, hfz54_5⟩ := frz6 BK101.out))
      refine bodyPost_ret (results_cell_row rfl _ _ gb101 32 #[.slice none 0 0, .int .i64 0, .int .i64 0, .slice none 0 0, .slice none 0 0, .int .i64 1] (0, 0) _ rfl (kP6 BK101.out) Try.underlying32 rfl (by kernel_rfl)) rfl ?_
      exact ⟨_, _, _, by first | rfl | (simp only [i64_w, i32_w]; done) | (simp only [i64_w, i32_w]; rfl) | (simp [errW_none, errW_some] <;> rfl) | (simp [*, errW_none, errW_some] <;> rfl), by first | exact Kd.R_nil _ _ _ _ _ | exact Kd.N_nil _ _ _ _ _ | exact Kd.V_nil _ _ _ _ _ | exact Kd.Q_nil _ _ _ _ _ | exact Kd.S_nil _ _ _ _ _, by first | exact Kd.R_nil _ _ _ _ _ | exact Kd.N_nil _ _ _ _ _ | exact Kd.V_nil _ _ _ _ _ | exact Kd.Q_nil _ _ _ _ _ | exact Kd.S_nil _ _ _ _ _, by first | exact Kd.R_nil _ _ _ _ _ | exact Kd.N_nil _ _ _ _ _ | exact Kd.V_nil _ _ _ _ _ | exact Kd.Q_nil _ _ _ _ _ | exact Kd.S_nil _ _ _ _ _, by repeat (first | (with_reducible first | exact HB.out | apply below_alloc | apply pw_below_drewN | apply below_drew1 | refine below_set ?_ GE101.out) | exact HB.out)⟩

end Go.Proofs.Ythoibokhmkjkdaa.P

namespace Go.Proofs.Ythoibokhmkjkdaa.P
open Go.RowKit Go.Proofs.YthoibokhmkjkdaaW.PrintWords Go.Proofs.YthoibokhmkjkdaaW.PrintLast Go.Proofs.YthoibokhmkjkdaaW.PrintMore
attribute [local go_sem] max2_int min2_int max_two min_two max_three min_three max_four min_four   -- for this text's walks alone
set_option linter.unusedVariables false
set_option linter.unusedSimpArgs false

/-! ### laws_eqInt64S: function 24 -/
def laws_eqInt64S.l0 : Nat → List Int → List Int → Int → Option (Bool)
  | 0, _, _, _ => none
  | k + 1, x0, x1, x5 => if x5 < (x0.length : Int) then (if 0 ≤ x5 then (if x5 < (x1.length : Int) then (if (rd x0 x5) = (rd x1 x5) then (laws_eqInt64S.l0 k x0 x1 (wrap64 (x5 + 1))) else (some false)) else (none)) else (none)) else (some true)
def laws_eqInt64S.f (k : Nat) (l0 : List Int) (l1 : List Int) : Option (Bool) := if (l0.length : Int) = (l1.length : Int) then (laws_eqInt64S.l0 k l0 l1 0) else (some false)
theorem laws_eqInt64S.mono_l : ∀ k, (∀ y0 y1 y2, LeO (laws_eqInt64S.l0 k y0 y1 y2) (laws_eqInt64S.l0 (k + 1) y0 y1 y2))
  | 0 => fun _ _ _ r h => by simp [laws_eqInt64S.l0] at h
  | k + 1 => by
    have ih0 := laws_eqInt64S.mono_l k
    · intro y0 y1 y2
      unfold laws_eqInt64S.l0
      repeat' first
      | (with_reducible exact ih0 _ _ _)
      | (with_reducible exact LeO.refl _)
      | (with_reducible exact LeO.none _)
      | (with_reducible refine LeO.ite ?_ ?_)
      | (with_reducible refine LeO.bind ?_ (fun _ => ?_))
      | exact ih0 _ _ _
      | exact LeO.none _
      | refine LeO.ite ?_ ?_
      | refine LeO.bind ?_ (fun _ => ?_)
theorem laws_eqInt64S.mono : ∀ a0 a1 k, LeO (laws_eqInt64S.f k a0 a1) (laws_eqInt64S.f (k + 1) a0 a1) := by
  intro a0 a1 k
  have ih0 := laws_eqInt64S.mono_l k
  unfold laws_eqInt64S.f
  repeat' first
      | (with_reducible exact ih0 _ _ _)
      | (with_reducible exact LeO.refl _)
      | (with_reducible exact LeO.none _)
      | (with_reducible refine LeO.ite ?_ ?_)
      | (with_reducible refine LeO.bind ?_ (fun _ => ?_))
      | exact ih0 _ _ _
      | exact LeO.none _
      | refine LeO.ite ?_ ?_
      | refine LeO.bind ?_ (fun _ => ?_)
set_option maxHeartbeats 8000000 in
set_option maxRecDepth 100000 in
theorem laws_eqInt64S.calls (k : Nat) (A0 : Option Addr) (c0 : Nat) (l0 : List Int) (A1 : Option Addr) (c1 : Nat) (l1 : List Int) (r : Bool) (w : World) (hr0 : Kd.C (Kd.int .i64) w A0 l0.length l0) (hc0 : l0.length ≤ c0) (hr1 : Kd.C (Kd.int .i64) w A1 l1.length l1) (hc1 : l1.length ≤ c1) (h : laws_eqInt64S.f k l0 l1 = some r) :
    Calls Try.prog 24 #[.slice A0 l0.length c0, .slice A1 l1.length c1] w fun e w' => e = .returned (.bool r) ∧ Drawn0 w w' := by
  have HR0 := Aside0.mk hr0
  have HC0 := Aside0.mk hc0
  clear hr0 hc0
  have HR1 := Aside0.mk hr1
  have HC1 := Aside0.mk hc1
  clear hr1 hc1
  have H : (if (l0.length : Int) = (l1.length : Int) then (laws_eqInt64S.l0 k l0 l1 0) else (some false)) = some r := h
  clear h
  by_cases c3 : (l0.length : Int) = (l1.length : Int)
  · rw [if_pos c3] at H
    have c3b0 : ((l0.length : Int) == (l1.length : Int)) = true := beq_iff_eq.mpr c3
    have c3b1 : ((l0.length : Int) != (l1.length : Int)) = false := bne_eq_false_iff_eq.mpr c3
    have c3b2 : (l0.length == l1.length) = true := by first | simpa using c3 | (simp at c3 ⊢; omega)
    clear c3
    have H' := Aside0.mk H
    clear H
    go_enter Try.func24, Try.ntmps24
    go_wp2
    repeat (go_quiet (fail); try go_wp2)
    go_loopg [5] k (fun kq v5 w' => ∃ (x5_1 : Int), v5 = .int .i64 x5_1 ∧ Aside0 (laws_eqInt64S.l0 kq l0 l1 x5_1 = some r) ∧ Aside0 (kq ≤ k) ∧ Drawn0 w w')
    case atStart => exact ⟨(0), (by first | rfl | (simp; done) | (simp [*]; done) | (simp only [Value.bool.injEq]; rw [Bool.eq_iff_iff]; simp; done)), H', ⟨Nat.le_refl _⟩, by repeat (first | exact Drawn0.refl _ | apply Drawn0.step)⟩
    case round =>
      clear H'
      try clear c1
      try clear c2
      try clear p2
      try clear c3
      try clear c3b0
      try clear c3b1
      try clear c3b2
      obtain ⟨x5_1, rfl, HA, HK1, ⟨m1, rfl⟩⟩ := hrel
      cases gk with
      | zero => exact absurd HA.out (by simp [laws_eqInt64S.l0])
      | succ k1 =>
        have H := HA.out
        clear HA
        simp only [laws_eqInt64S.l0] at H
        by_cases c4 : x5_1 < (l0.length : Int)
        · rw [if_pos c4] at H
          have c4b0 : decide (x5_1 < (l0.length : Int)) = true := decide_eq_true c4
          clear c4
          by_cases c5 : 0 ≤ x5_1
          · rw [if_pos c5] at H
            have c5b0 : decide (0 ≤ x5_1) = true := decide_eq_true c5
            clear c5
            by_cases c6 : x5_1 < (l1.length : Int)
            · rw [if_pos c6] at H
              have c6b0 : decide (x5_1 < (l1.length : Int)) = true := decide_eq_true c6
              clear c6
              by_cases c7 : (rd l0 x5_1) = (rd l1 x5_1)
              · rw [if_pos c7] at H
                have c7b0 : ((rd l0 x5_1) == (rd l1 x5_1)) = true := beq_iff_eq.mpr c7
                have c7b1 : ((rd l0 x5_1) != (rd l1 x5_1)) = false := bne_eq_false_iff_eq.mpr c7
                clear c7
                have H' := Aside0.mk H
                clear H
                have p101 : 0 ≤ (x5_1 : Int) := of_decide_eq_true (by first | (with_reducible assumption) | assumption)
                have q101 : x5_1 < (l0.length : Int) := of_decide_eq_true (by first | (with_reducible assumption) | assumption)
                obtain ⟨ad101, e101, hx101_0⟩ := Kd.at_int HR0.out x5_1 p101 q101
                cases e101
                replace p101 := eq_true p101
                replace q101 := eq_true q101
                have p102 : 0 ≤ (x5_1 : Int) := of_decide_eq_true (by first | (with_reducible assumption) | assumption)
                have q102 : x5_1 < (l1.length : Int) := of_decide_eq_true (by first | (with_reducible assumption) | assumption)
                obtain ⟨ad102, e102, hx102_0⟩ := Kd.at_int HR1.out x5_1 p102 q102
                cases e102
                replace p102 := eq_true p102
                replace q102 := eq_true q102
                go_wp2
                repeat (go_quiet (fail); try go_wp2)
                go_roundg k1
                case measure => have := HK1.out; omega
                case rel => exact ⟨(wrap64 (x5_1 + 1)), (by first | rfl | (simp; done) | (simp [*]; done) | (simp only [Value.bool.injEq]; rw [Bool.eq_iff_iff]; simp; done)), H', ⟨by have := HK1.out; omega⟩, by repeat (first | exact Drawn0.refl _ | apply Drawn0.step)⟩
              · rw [if_neg c7] at H
                have c7b0 : ((rd l0 x5_1) == (rd l1 x5_1)) = false := beq_eq_false_iff_ne.mpr c7
                have c7b1 : ((rd l0 x5_1) != (rd l1 x5_1)) = true := bne_iff_ne.mpr c7
                obtain rfl := Option.some.inj H
                have p101 : 0 ≤ (x5_1 : Int) := of_decide_eq_true (by first | (with_reducible assumption) | assumption)
                have q101 : x5_1 < (l0.length : Int) := of_decide_eq_true (by first | (with_reducible assumption) | assumption)
                obtain ⟨ad101, e101, hx101_0⟩ := Kd.at_int HR0.out x5_1 p101 q101
                cases e101
                replace p101 := eq_true p101
                replace q101 := eq_true q101
                have p102 : 0 ≤ (x5_1 : Int) := of_decide_eq_true (by first | (with_reducible assumption) | assumption)
                have q102 : x5_1 < (l1.length : Int) := of_decide_eq_true (by first | (with_reducible assumption) | assumption)
                obtain ⟨ad102, e102, hx102_0⟩ := Kd.at_int HR1.out x5_1 p102 q102
                cases e102
                replace p102 := eq_true p102
                replace q102 := eq_true q102
                go_wp2
                repeat (go_quiet (fail); try go_wp2)
                go_ret
                exact ⟨by first | rfl | (simp; done) | (simp [*]; done), by repeat (first | exact Drawn0.refl _ | apply Drawn0.step)⟩
            · rw [if_neg c6] at H
              exact absurd H (by simp)
          · rw [if_neg c5] at H
            exact absurd H (by simp)
        · rw [if_neg c4] at H
          have c4b0 : decide (x5_1 < (l0.length : Int)) = false := decide_eq_false c4
          clear c4
          obtain rfl := Option.some.inj H
          go_wp2
          repeat (go_quiet (fail); try go_wp2)
          go_ret
          exact ⟨by first | rfl | (simp; done) | (simp [*]; done), by repeat (first | exact Drawn0.refl _ | apply Drawn0.step)⟩
  · rw [if_neg c3] at H
    have c3b0 : ((l0.length : Int) == (l1.length : Int)) = false := beq_eq_false_iff_ne.mpr c3
    have c3b1 : ((l0.length : Int) != (l1.length : Int)) = true := bne_iff_ne.mpr c3
    have c3b2 : (l0.length == l1.length) = false := by first | simpa using c3 | (simp at c3 ⊢; omega)
    obtain rfl := Option.some.inj H
    go_enter Try.func24, Try.ntmps24
    go_wp2
    repeat (go_quiet (fail); try go_wp2)
    go_ret
    exact ⟨by first | rfl | (simp; done) | (simp [*]; done), by repeat (first | exact Drawn0.refl _ | apply Drawn0.step)⟩

end Go.Proofs.Ythoibokhmkjkdaa.P
