/- What the law FnExactImageText needs, part 3 of 3: the Lean functions of the Go functions that it reaches, with the proofs that the calls come to what they say, and plain facts about them; the last theorem is the law. Conditions: those that each theorem states. Written by a session and by its programs (after the kit's printer). -/
import Derived.Laws.BitsLemmas
import Derived.Test.YthoibokhmkjkdaaRows
import Derived.WalkKit
import Derived.ProofKit
import Derived.OpenShut
import Derived.ShutString
import Derived.ChangeOld
import Derived.Below
import Derived.SizedLaws
import Derived.Test.YthoibokhmkjkdaaXFnExactImageText0
import Derived.Test.YthoibokhmkjkdaaXFnExactImageText1
namespace Go.Proofs.Ythoibokhmkjkdaa.P
open Go.RowKit Go.Proofs.YthoibokhmkjkdaaW.PrintWords Go.Proofs.YthoibokhmkjkdaaW.PrintLast Go.Proofs.YthoibokhmkjkdaaW.PrintMore Go.Proofs.YthoibokhmkjkdaaW.PrintSq
attribute [local go_sem] max2_int min2_int max_two min_two max_three min_three max_four min_four   -- for this text's walks alone
set_option linter.unusedVariables false
set_option linter.unusedSimpArgs false

/-! ### laws_FnExactImageText: function 6 -/
def laws_FnExactImageText.f (k : Nat) (l0 : List ByteArray) : Option (Bool) := (laws_szStringS.f k l0 1048576).bind fun t101 => (if t101 < 0 then (some true) else ((laws_toStringS.f k l0).bind fun t102 => ((spec_ImageText.f k t102).bind fun t105 => ((laws_toStringS.f k l0).bind fun t106 => ((impl_ImageText.f k t106).bind fun t109 => (if t109.toList = t105.toList then ((laws_toStringS.f k l0).bind fun t110 => ((laws_eqStringS.f k t106 t110).bind fun t113 => (if t113 = true then (some true) else (some false)))) else (some false)))))))
theorem laws_FnExactImageText.mono : ∀ a0 k, LeO (laws_FnExactImageText.f k a0) (laws_FnExactImageText.f (k + 1) a0) := by
  intro a0 k
  unfold laws_FnExactImageText.f
  repeat' first
      | (with_reducible exact impl_ImageText.mono _ _)
      | (with_reducible exact laws_eqStringS.mono _ _ _)
      | (with_reducible exact laws_szStringS.mono _ _ _)
      | (with_reducible exact laws_toStringS.mono _ _)
      | (with_reducible exact spec_ImageText.mono _ _)
      | (with_reducible exact LeO.refl _)
      | (with_reducible exact LeO.none _)
      | (with_reducible refine LeO.ite ?_ ?_)
      | (with_reducible refine LeO.bind ?_ (fun _ => ?_))
      | exact impl_ImageText.mono _ _
      | exact laws_eqStringS.mono _ _ _
      | exact laws_szStringS.mono _ _ _
      | exact laws_toStringS.mono _ _
      | exact spec_ImageText.mono _ _
      | exact LeO.none _
      | refine LeO.ite ?_ ?_
      | refine LeO.bind ?_ (fun _ => ?_)
set_option maxHeartbeats 8000000 in
set_option maxRecDepth 100000 in
theorem laws_FnExactImageText.calls (k : Nat) (A0 : Option Addr) (c0 : Nat) (l0 : List ByteArray) (r : Bool) (w : World) (hr0 : Kd.C Kd.string w A0 l0.length l0) (hc0 : l0.length ≤ c0) (h : laws_FnExactImageText.f k l0 = some r) :
    Calls Try.prog 6 #[.slice A0 l0.length c0] w fun e w' => e = .returned (.bool r) ∧ Below w.heap.size w w' := by
  have HR0 := Aside0.mk hr0
  have HC0 := Aside0.mk hc0
  clear hr0 hc0
  have HB := aK (Below.refl w.heap.size w)
  have H : ((laws_szStringS.f k l0 1048576).bind fun t101 => (if t101 < 0 then (some true) else ((laws_toStringS.f k l0).bind fun t102 => ((spec_ImageText.f k t102).bind fun t105 => ((laws_toStringS.f k l0).bind fun t106 => ((impl_ImageText.f k t106).bind fun t109 => (if t109.toList = t105.toList then ((laws_toStringS.f k l0).bind fun t110 => ((laws_eqStringS.f k t106 t110).bind fun t113 => (if t113 = true then (some true) else (some false)))) else (some false)))))))) = some r := h
  clear h
  replace H := Option.bind_eq_some_iff.mp H
  obtain ⟨t101, A20, H⟩ := H
  replace H : (if t101 < 0 then (some true) else ((laws_toStringS.f k l0).bind fun t102 => ((spec_ImageText.f k t102).bind fun t105 => ((laws_toStringS.f k l0).bind fun t106 => ((impl_ImageText.f k t106).bind fun t109 => (if t109.toList = t105.toList then ((laws_toStringS.f k l0).bind fun t110 => ((laws_eqStringS.f k t106 t110).bind fun t113 => (if t113 = true then (some true) else (some false)))) else (some false))))))) = some r := H
  have A2 := Aside0.mk A20
  clear A20
  by_cases c3 : t101 < 0
  · rw [if_pos c3] at H
    have c3b0 : decide (t101 < 0) = true := decide_eq_true c3
    clear c3
    obtain rfl := Option.some.inj H
    go_enter Try.func6, Try.ntmps6
    go_wp2_with (first | ((with_reducible refine gate_callee (f := 31) rfl ?_); refine goesL_ (some 9) rfl rfl Try.func31 (by kernel_rfl) rfl #[.slice A0 l0.length c0, .int .i64 1048576] rfl lF ?_; (with_reducible refine (laws_szStringS.calls k _ _ l0 1048576 t101 _ ?side1 ?side2 A2.out).mono ?_); (case side1 => repeat (first | exact HR0.out | (with_reducible refine Kd.C_alloc ?_ _) | (with_reducible refine Kd.C_drewN ?_ _) | (with_reducible refine Kd.C_drew ?_))); (case side2 => exact HC0.out); rintro e w' ⟨rfl, ⟨nd, rfl⟩⟩; refine ⟨_, rfl, ?_⟩))
    go_ret
    exact ⟨by first | rfl | (simp only [i64_w, i32_w]; done) | (simp only [i64_w, i32_w]; rfl) | (simp [errW_none, errW_some] <;> rfl) | (simp [*, errW_none, errW_some] <;> rfl), by repeat (first | (with_reducible first | exact HB.out | apply below_alloc | apply pw_below_drewN | apply below_drew1) | exact HB.out)⟩
  · rw [if_neg c3] at H
    have c3b0 : decide (t101 < 0) = false := decide_eq_false c3
    clear c3
    replace H := Option.bind_eq_some_iff.mp H
    obtain ⟨t102, A40, H⟩ := H
    replace H : ((spec_ImageText.f k t102).bind fun t105 => ((laws_toStringS.f k l0).bind fun t106 => ((impl_ImageText.f k t106).bind fun t109 => (if t109.toList = t105.toList then ((laws_toStringS.f k l0).bind fun t110 => ((laws_eqStringS.f k t106 t110).bind fun t113 => (if t113 = true then (some true) else (some false)))) else (some false))))) = some r := H
    have A4 := Aside0.mk A40
    clear A40
    replace H := Option.bind_eq_some_iff.mp H
    obtain ⟨t105, A50, H⟩ := H
    replace H : ((laws_toStringS.f k l0).bind fun t106 => ((impl_ImageText.f k t106).bind fun t109 => (if t109.toList = t105.toList then ((laws_toStringS.f k l0).bind fun t110 => ((laws_eqStringS.f k t106 t110).bind fun t113 => (if t113 = true then (some true) else (some false)))) else (some false)))) = some r := H
    have A5 := Aside0.mk A50
    clear A50
    replace H := Option.bind_eq_some_iff.mp H
    obtain ⟨t106, A60, H⟩ := H
    replace H : ((impl_ImageText.f k t106).bind fun t109 => (if t109.toList = t105.toList then ((laws_toStringS.f k l0).bind fun t110 => ((laws_eqStringS.f k t106 t110).bind fun t113 => (if t113 = true then (some true) else (some false)))) else (some false))) = some r := H
    have A6 := Aside0.mk A60
    clear A60
    replace H := Option.bind_eq_some_iff.mp H
    obtain ⟨t109, A70, H⟩ := H
    replace H : (if t109.toList = t105.toList then ((laws_toStringS.f k l0).bind fun t110 => ((laws_eqStringS.f k t106 t110).bind fun t113 => (if t113 = true then (some true) else (some false)))) else (some false)) = some r := H
    have A7 := Aside0.mk A70
    clear A70
    by_cases c8 : t109.toList = t105.toList
    · rw [if_pos c8] at H
      have c8b0 : (t109.toList == t105.toList) = true := beq_iff_eq.mpr c8
      have c8b1 : (t109.toList != t105.toList) = false := bne_eq_false_iff_eq.mpr c8
      clear c8
      replace H := Option.bind_eq_some_iff.mp H
      obtain ⟨t110, A90, H⟩ := H
      replace H : ((laws_eqStringS.f k t106 t110).bind fun t113 => (if t113 = true then (some true) else (some false))) = some r := H
      have A9 := Aside0.mk A90
      clear A90
      replace H := Option.bind_eq_some_iff.mp H
      obtain ⟨t113, A100, H⟩ := H
      replace H : (if t113 = true then (some true) else (some false)) = some r := H
      have A10 := Aside0.mk A100
      clear A100
      by_cases c11 : t113 = true
      · subst c11
        have H1 : (some true) = some r := by rw [if_pos rfl] at H; exact H
        clear H
        have H := H1
        clear H1
        obtain rfl := Option.some.inj H
        go_enter Try.func6, Try.ntmps6
        go_wp2_with (first | ((with_reducible refine gate_callee (f := 31) rfl ?_); refine goesL_ (some 9) rfl rfl Try.func31 (by kernel_rfl) rfl #[.slice A0 l0.length c0, .int .i64 1048576] rfl lF ?_; (with_reducible refine (laws_szStringS.calls k _ _ l0 1048576 t101 _ ?side1 ?side2 A2.out).mono ?_); (case side1 => repeat (first | exact HR0.out | (with_reducible refine Kd.C_alloc ?_ _) | (with_reducible refine Kd.C_drewN ?_ _) | (with_reducible refine Kd.C_drew ?_))); (case side2 => exact HC0.out); rintro e w' ⟨rfl, ⟨nd, rfl⟩⟩; refine ⟨_, rfl, ?_⟩) | ((with_reducible refine gate_callee (f := 33) rfl ?_); refine goesL_ (some 13) rfl rfl Try.func33 (by kernel_rfl) rfl #[.slice A0 l0.length c0] rfl lF ?_; (with_reducible refine (laws_toStringS.calls k _ _ l0 t102 _ ?side1 ?side2 A4.out).mono ?_); (case side1 => repeat (first | exact HR0.out | (with_reducible refine Kd.C_alloc ?_ _) | (with_reducible refine Kd.C_drewN ?_ _) | (with_reducible refine Kd.C_drew ?_))); (case side2 => exact HC0.out); rintro e w12 ⟨v103, rfl, ho0, hb⟩; refine ⟨_, rfl, ?_⟩; have HO104 := aK (QW ho0 (below_size (bF0 HB.out))); replace HB := aK (below_step (bF0 HB.out) hb); (try clear hb); (try clear hb2); (try clear hk); (try clear hi); (try clear ho0); obtain ⟨Ao13, co13, eo13⟩ := Kd.R_slice HO104.out; subst eo13) | ((with_reducible refine gate_callee (f := 32) rfl ?_); refine goesL_ (some 14) rfl rfl Try.func32 (by kernel_rfl) rfl #[.slice Ao13 t102.length co13] rfl lF ?_; (with_reducible refine (spec_ImageText.calls k _ _ t102 t105 _ ?side1 ?side2 A5.out).mono ?_); (case side1 => exact cF (Kd.R_reads' HO104.out).2.2); (case side2 => exact (Kd.R_reads' HO104.out).2.1); rintro e w14 ⟨rfl, hb⟩; refine ⟨_, rfl, ?_⟩; replace HO104 := aK (rB HO104.out hb); replace HB := aK (below_step (bF0 HB.out) hb); (try clear hb); (try clear hb2); (try clear hk); (try clear hi)) | ((with_reducible refine gate_callee (f := 33) rfl ?_); refine goesL_ (some 16) rfl rfl Try.func33 (by kernel_rfl) rfl #[.slice A0 l0.length c0] rfl lF ?_; (with_reducible refine (laws_toStringS.calls k _ _ l0 t106 _ ?side1 ?side2 A6.out).mono ?_); (case side1 => exact cF (Kd.C_below HR0.out HB.out)); (case side2 => exact HC0.out); rintro e w15 ⟨v107, rfl, ho0, hb⟩; refine ⟨_, rfl, ?_⟩; have HO108 := aK (QW (QN ho0 (rL (HO104.out))) (below_size (bF0 HB.out))); replace HO104 := aK (Kd.R_elder' (rF HO104.out) (QB ho0) hb); replace HB := aK (below_step (bF0 HB.out) hb); (try clear hb); (try clear hb2); (try clear hk); (try clear hi); (try clear ho0); obtain ⟨Ao16, co16, eo16⟩ := Kd.R_slice HO108.out; subst eo16) | ((with_reducible refine gate_callee (f := 34) rfl ?_); refine goesL_ (some 18) rfl rfl Try.func34 (by kernel_rfl) rfl #[.slice Ao16 t106.length co16] rfl lF ?_; (with_reducible refine (impl_ImageText.calls k _ _ t106 t109 _ ?side1 ?side2 A7.out).mono ?_); (case side1 => exact cF (Kd.R_reads' HO108.out).2.2); (case side2 => exact (Kd.R_reads' HO108.out).2.1); rintro e w' ⟨rfl, ⟨nd, rfl⟩⟩; refine ⟨_, rfl, ?_⟩) | ((with_reducible refine gate_callee (f := 33) rfl ?_); refine goesL_ (some 24) rfl rfl Try.func33 (by kernel_rfl) rfl #[.slice A0 l0.length c0] rfl lF ?_; (with_reducible refine (laws_toStringS.calls k _ _ l0 t110 _ ?side1 ?side2 A9.out).mono ?_); (case side1 => repeat (first | exact (Kd.C_below HR0.out (bF0 HB.out)) | (with_reducible refine Kd.C_alloc ?_ _) | (with_reducible refine Kd.C_drewN ?_ _) | (with_reducible refine Kd.C_drew ?_))); (case side2 => exact HC0.out); rintro e w17 ⟨v111, rfl, ho0, hb⟩; refine ⟨_, rfl, ?_⟩; have HO112 := aK (QW (QN (QN ho0 (rL (HO104.out))) (rL (HO108.out))) (below_size (bF0 HB.out))); replace HO104 := aK (Kd.R_elder' (rF HO104.out) (QB ho0) hb); replace HO108 := aK (Kd.R_elder' (rF HO108.out) (QB ho0) hb); replace HB := aK (below_step (bF0 HB.out) hb); (try clear hb); (try clear hb2); (try clear hk); (try clear hi); (try clear ho0); obtain ⟨Ao18, co18, eo18⟩ := Kd.R_slice HO112.out; subst eo18) | ((with_reducible refine gate_callee (f := 35) rfl ?_); refine goesL_ (some 25) rfl rfl Try.func35 (by kernel_rfl) rfl #[.slice Ao16 t106.length co16, .slice Ao18 t110.length co18] rfl lF ?_; (with_reducible refine (laws_eqStringS.calls k _ _ t106 _ _ t110 true _ ?side1 ?side2 ?side3 ?side4 A10.out).mono ?_); (case side1 => exact cF (Kd.R_reads' HO108.out).2.2); (case side2 => exact (Kd.R_reads' HO108.out).2.1); (case side3 => exact cF (Kd.R_reads' HO112.out).2.2); (case side4 => exact (Kd.R_reads' HO112.out).2.1); rintro e w' ⟨rfl, ⟨nd, rfl⟩⟩; refine ⟨_, rfl, ?_⟩))
        go_ret
        exact ⟨by first | rfl | (simp only [i64_w, i32_w]; done) | (simp only [i64_w, i32_w]; rfl) | (simp [errW_none, errW_some] <;> rfl) | (simp [*, errW_none, errW_some] <;> rfl), by repeat (first | (with_reducible first | exact HB.out | apply below_alloc | apply pw_below_drewN | apply below_drew1) | exact HB.out)⟩
      · replace c11 := Bool.eq_false_iff.mpr c11
        subst c11
        have H1 : (some false) = some r := by rw [if_neg (show ¬ (false = true) by decide)] at H; exact H
        clear H
        have H := H1
        clear H1
        obtain rfl := Option.some.inj H
        go_enter Try.func6, Try.ntmps6
        go_wp2_with (first | ((with_reducible refine gate_callee (f := 31) rfl ?_); refine goesL_ (some 9) rfl rfl Try.func31 (by kernel_rfl) rfl #[.slice A0 l0.length c0, .int .i64 1048576] rfl lF ?_; (with_reducible refine (laws_szStringS.calls k _ _ l0 1048576 t101 _ ?side1 ?side2 A2.out).mono ?_); (case side1 => repeat (first | exact HR0.out | (with_reducible refine Kd.C_alloc ?_ _) | (with_reducible refine Kd.C_drewN ?_ _) | (with_reducible refine Kd.C_drew ?_))); (case side2 => exact HC0.out); rintro e w' ⟨rfl, ⟨nd, rfl⟩⟩; refine ⟨_, rfl, ?_⟩) | ((with_reducible refine gate_callee (f := 33) rfl ?_); refine goesL_ (some 13) rfl rfl Try.func33 (by kernel_rfl) rfl #[.slice A0 l0.length c0] rfl lF ?_; (with_reducible refine (laws_toStringS.calls k _ _ l0 t102 _ ?side1 ?side2 A4.out).mono ?_); (case side1 => repeat (first | exact HR0.out | (with_reducible refine Kd.C_alloc ?_ _) | (with_reducible refine Kd.C_drewN ?_ _) | (with_reducible refine Kd.C_drew ?_))); (case side2 => exact HC0.out); rintro e w19 ⟨v103, rfl, ho0, hb⟩; refine ⟨_, rfl, ?_⟩; have HO104 := aK (QW ho0 (below_size (bF0 HB.out))); replace HB := aK (below_step (bF0 HB.out) hb); (try clear hb); (try clear hb2); (try clear hk); (try clear hi); (try clear ho0); obtain ⟨Ao20, co20, eo20⟩ := Kd.R_slice HO104.out; subst eo20) | ((with_reducible refine gate_callee (f := 32) rfl ?_); refine goesL_ (some 14) rfl rfl Try.func32 (by kernel_rfl) rfl #[.slice Ao20 t102.length co20] rfl lF ?_; (with_reducible refine (spec_ImageText.calls k _ _ t102 t105 _ ?side1 ?side2 A5.out).mono ?_); (case side1 => exact cF (Kd.R_reads' HO104.out).2.2); (case side2 => exact (Kd.R_reads' HO104.out).2.1); rintro e w21 ⟨rfl, hb⟩; refine ⟨_, rfl, ?_⟩; replace HO104 := aK (rB HO104.out hb); replace HB := aK (below_step (bF0 HB.out) hb); (try clear hb); (try clear hb2); (try clear hk); (try clear hi)) | ((with_reducible refine gate_callee (f := 33) rfl ?_); refine goesL_ (some 16) rfl rfl Try.func33 (by kernel_rfl) rfl #[.slice A0 l0.length c0] rfl lF ?_; (with_reducible refine (laws_toStringS.calls k _ _ l0 t106 _ ?side1 ?side2 A6.out).mono ?_); (case side1 => exact cF (Kd.C_below HR0.out HB.out)); (case side2 => exact HC0.out); rintro e w22 ⟨v107, rfl, ho0, hb⟩; refine ⟨_, rfl, ?_⟩; have HO108 := aK (QW (QN ho0 (rL (HO104.out))) (below_size (bF0 HB.out))); replace HO104 := aK (Kd.R_elder' (rF HO104.out) (QB ho0) hb); replace HB := aK (below_step (bF0 HB.out) hb); (try clear hb); (try clear hb2); (try clear hk); (try clear hi); (try clear ho0); obtain ⟨Ao23, co23, eo23⟩ := Kd.R_slice HO108.out; subst eo23) | ((with_reducible refine gate_callee (f := 34) rfl ?_); refine goesL_ (some 18) rfl rfl Try.func34 (by kernel_rfl) rfl #[.slice Ao23 t106.length co23] rfl lF ?_; (with_reducible refine (impl_ImageText.calls k _ _ t106 t109 _ ?side1 ?side2 A7.out).mono ?_); (case side1 => exact cF (Kd.R_reads' HO108.out).2.2); (case side2 => exact (Kd.R_reads' HO108.out).2.1); rintro e w' ⟨rfl, ⟨nd, rfl⟩⟩; refine ⟨_, rfl, ?_⟩) | ((with_reducible refine gate_callee (f := 33) rfl ?_); refine goesL_ (some 24) rfl rfl Try.func33 (by kernel_rfl) rfl #[.slice A0 l0.length c0] rfl lF ?_; (with_reducible refine (laws_toStringS.calls k _ _ l0 t110 _ ?side1 ?side2 A9.out).mono ?_); (case side1 => repeat (first | exact (Kd.C_below HR0.out (bF0 HB.out)) | (with_reducible refine Kd.C_alloc ?_ _) | (with_reducible refine Kd.C_drewN ?_ _) | (with_reducible refine Kd.C_drew ?_))); (case side2 => exact HC0.out); rintro e w24 ⟨v111, rfl, ho0, hb⟩; refine ⟨_, rfl, ?_⟩; have HO112 := aK (QW (QN (QN ho0 (rL (HO104.out))) (rL (HO108.out))) (below_size (bF0 HB.out))); replace HO104 := aK (Kd.R_elder' (rF HO104.out) (QB ho0) hb); replace HO108 := aK (Kd.R_elder' (rF HO108.out) (QB ho0) hb); replace HB := aK (below_step (bF0 HB.out) hb); (try clear hb); (try clear hb2); (try clear hk); (try clear hi); (try clear ho0); obtain ⟨Ao25, co25, eo25⟩ := Kd.R_slice HO112.out; subst eo25) | ((with_reducible refine gate_callee (f := 35) rfl ?_); refine goesL_ (some 25) rfl rfl Try.func35 (by kernel_rfl) rfl #[.slice Ao23 t106.length co23, .slice Ao25 t110.length co25] rfl lF ?_; (with_reducible refine (laws_eqStringS.calls k _ _ t106 _ _ t110 false _ ?side1 ?side2 ?side3 ?side4 A10.out).mono ?_); (case side1 => exact cF (Kd.R_reads' HO108.out).2.2); (case side2 => exact (Kd.R_reads' HO108.out).2.1); (case side3 => exact cF (Kd.R_reads' HO112.out).2.2); (case side4 => exact (Kd.R_reads' HO112.out).2.1); rintro e w' ⟨rfl, ⟨nd, rfl⟩⟩; refine ⟨_, rfl, ?_⟩))
        go_ret
        exact ⟨by first | rfl | (simp only [i64_w, i32_w]; done) | (simp only [i64_w, i32_w]; rfl) | (simp [errW_none, errW_some] <;> rfl) | (simp [*, errW_none, errW_some] <;> rfl), by repeat (first | (with_reducible first | exact HB.out | apply below_alloc | apply pw_below_drewN | apply below_drew1) | exact HB.out)⟩
    · rw [if_neg c8] at H
      have c8b0 : (t109.toList == t105.toList) = false := beq_eq_false_iff_ne.mpr c8
      have c8b1 : (t109.toList != t105.toList) = true := bne_iff_ne.mpr c8
      obtain rfl := Option.some.inj H
      go_enter Try.func6, Try.ntmps6
      go_wp2_with (first | ((with_reducible refine gate_callee (f := 31) rfl ?_); refine goesL_ (some 9) rfl rfl Try.func31 (by kernel_rfl) rfl #[.slice A0 l0.length c0, .int .i64 1048576] rfl lF ?_; (with_reducible refine (laws_szStringS.calls k _ _ l0 1048576 t101 _ ?side1 ?side2 A2.out).mono ?_); (case side1 => repeat (first | exact HR0.out | (with_reducible refine Kd.C_alloc ?_ _) | (with_reducible refine Kd.C_drewN ?_ _) | (with_reducible refine Kd.C_drew ?_))); (case side2 => exact HC0.out); rintro e w' ⟨rfl, ⟨nd, rfl⟩⟩; refine ⟨_, rfl, ?_⟩) | ((with_reducible refine gate_callee (f := 33) rfl ?_); refine goesL_ (some 13) rfl rfl Try.func33 (by kernel_rfl) rfl #[.slice A0 l0.length c0] rfl lF ?_; (with_reducible refine (laws_toStringS.calls k _ _ l0 t102 _ ?side1 ?side2 A4.out).mono ?_); (case side1 => repeat (first | exact HR0.out | (with_reducible refine Kd.C_alloc ?_ _) | (with_reducible refine Kd.C_drewN ?_ _) | (with_reducible refine Kd.C_drew ?_))); (case side2 => exact HC0.out); rintro e w26 ⟨v103, rfl, ho0, hb⟩; refine ⟨_, rfl, ?_⟩; have HO104 := aK (QW ho0 (below_size (bF0 HB.out))); replace HB := aK (below_step (bF0 HB.out) hb); (try clear hb); (try clear hb2); (try clear hk); (try clear hi); (try clear ho0); obtain ⟨Ao27, co27, eo27⟩ := Kd.R_slice HO104.out; subst eo27) | ((with_reducible refine gate_callee (f := 32) rfl ?_); refine goesL_ (some 14) rfl rfl Try.func32 (by kernel_rfl) rfl #[.slice Ao27 t102.length co27] rfl lF ?_; (with_reducible refine (spec_ImageText.calls k _ _ t102 t105 _ ?side1 ?side2 A5.out).mono ?_); (case side1 => exact cF (Kd.R_reads' HO104.out).2.2); (case side2 => exact (Kd.R_reads' HO104.out).2.1); rintro e w28 ⟨rfl, hb⟩; refine ⟨_, rfl, ?_⟩; replace HO104 := aK (rB HO104.out hb); replace HB := aK (below_step (bF0 HB.out) hb); (try clear hb); (try clear hb2); (try clear hk); (try clear hi)) | ((with_reducible refine gate_callee (f := 33) rfl ?_); refine goesL_ (some 16) rfl rfl Try.func33 (by kernel_rfl) rfl #[.slice A0 l0.length c0] rfl lF ?_; (with_reducible refine (laws_toStringS.calls k _ _ l0 t106 _ ?side1 ?side2 A6.out).mono ?_); (case side1 => exact cF (Kd.C_below HR0.out HB.out)); (case side2 => exact HC0.out); rintro e w29 ⟨v107, rfl, ho0, hb⟩; refine ⟨_, rfl, ?_⟩; have HO108 := aK (QW (QN ho0 (rL (HO104.out))) (below_size (bF0 HB.out))); replace HO104 := aK (Kd.R_elder' (rF HO104.out) (QB ho0) hb); replace HB := aK (below_step (bF0 HB.out) hb); (try clear hb); (try clear hb2); (try clear hk); (try clear hi); (try clear ho0); obtain ⟨Ao30, co30, eo30⟩ := Kd.R_slice HO108.out; subst eo30) | ((with_reducible refine gate_callee (f := 34) rfl ?_); refine goesL_ (some 18) rfl rfl Try.func34 (by kernel_rfl) rfl #[.slice Ao30 t106.length co30] rfl lF ?_; (with_reducible refine (impl_ImageText.calls k _ _ t106 t109 _ ?side1 ?side2 A7.out).mono ?_); (case side1 => exact cF (Kd.R_reads' HO108.out).2.2); (case side2 => exact (Kd.R_reads' HO108.out).2.1); rintro e w' ⟨rfl, ⟨nd, rfl⟩⟩; refine ⟨_, rfl, ?_⟩))
      go_ret
      exact ⟨by first | rfl | (simp only [i64_w, i32_w]; done) | (simp only [i64_w, i32_w]; rfl) | (simp [errW_none, errW_some] <;> rfl) | (simp [*, errW_none, errW_some] <;> rfl), by repeat (first | (with_reducible first | exact HB.out | apply below_alloc | apply pw_below_drewN | apply below_drew1) | exact HB.out)⟩

end Go.Proofs.Ythoibokhmkjkdaa.P

namespace Go.Proofs.Ythoibokhmkjkdaa.P
open Go.RowKit Go.Proofs.YthoibokhmkjkdaaW.PrintWords Go.Proofs.YthoibokhmkjkdaaW.PrintLast Go.Proofs.YthoibokhmkjkdaaW.PrintMore
attribute [local go_sem] max2_int min2_int max_two min_two max_three min_three max_four min_four   -- for this text's walks alone
set_option linter.unusedVariables false
set_option linter.unusedSimpArgs false
def ok9 (x : ByteArray) : Prop := x.size ≤ 140737488351232
def laws_FnExactImageText.Pure : Prop := ∀ (l0 : List ByteArray), l0.length ≤ maxLen → l0.length * 16 ≤ 140737488351232 → (∀ a ∈ l0, ok9 a) → ∃ k, laws_FnExactImageText.f k l0 = some true
end Go.Proofs.Ythoibokhmkjkdaa.P

namespace Go.Proofs.Ythoibokhmkjkdaa.Pure
open Go Go.RowKit Go.Proofs.YthoibokhmkjkdaaW.PrintWords Go.Proofs.YthoibokhmkjkdaaW.PrintLast Go.Proofs.YthoibokhmkjkdaaW.PrintMore
theorem w64 {n : Int} (h0 : -9223372036854775808 ≤ n) (h1 : n < 9223372036854775808) : wrap64 n = n := by unfold wrap64; omega
theorem wf64 {n : Int} (h : (Lit.int .i64 n).wf = true) : -9223372036854775808 ≤ n ∧ n ≤ 9223372036854775807 := by
  simp [Lit.wf, IntKind.min, IntKind.max, IntKind.signed, IntKind.bits] at h
  omega
theorem u64w (n : Int) : IntKind.u64.wrap n = n % 18446744073709551616 := by simp [IntKind.wrap, IntKind.bits, IntKind.signed]
/-- One round more, where the tests are known. -/
theorem Ev.now' {α : Type} {g : Nat → Option α} {r : α} (h : ∀ k, g (k + 1) = some r) : Ev g r := ⟨1, fun k hk => by
  obtain ⟨m, rfl⟩ : ∃ m, k = m + 1 := ⟨k - 1, by omega⟩
  exact h m⟩
theorem Ev.all {α : Type} {g : Nat → Option α} {r : α} (h : ∀ k, g k = some r) : Ev g r := ⟨0, fun k _ => h k⟩
theorem Ev.ifp {α : Type} {c : Prop} [Decidable c] {g f : Nat → Option α} {r : α} (h : c) (hg : Ev g r) : Ev (fun k => if c then g k else f k) r := Ev.congr (fun _ => if_pos h) hg
theorem Ev.ifn {α : Type} {c : Prop} [Decidable c] {g f : Nat → Option α} {r : α} (h : ¬ c) (hf : Ev f r) : Ev (fun k => if c then g k else f k) r := Ev.congr (fun _ => if_neg h) hf
theorem Ev.ite {α : Type} {c : Prop} [Decidable c] {g f : Nat → Option α} {r q : α} (hg : c → Ev g r) (hf : ¬ c → Ev f q) : Ev (fun k => if c then g k else f k) (if c then r else q) := by
  by_cases h : c
  · rw [if_pos h]; exact Ev.ifp h (hg h)
  · rw [if_neg h]; exact Ev.ifn h (hf h)
/-- The bytes of a string. -/
def B (s : ByteArray) : List Nat := s.data.toList.map (·.toNat)
theorem dl (s : ByteArray) : s.data.toList.length = s.size := by rw [Array.length_toList]; rfl
theorem B_len (s : ByteArray) : (B s).length = s.size := by unfold B; rw [List.length_map]; exact dl s
theorem B_lt (s : ByteArray) : ∀ x ∈ B s, x < 256 := by
  intro x hx
  simp only [B, List.mem_map] at hx
  obtain ⟨u, _, rfl⟩ := hx
  exact u.toNat_lt
theorem bt_B (s : ByteArray) (i : Nat) : bt s (i : Int) = (((B s).getD i 0 : Nat) : Int) := by
  unfold bt B
  simp only [Int.toNat_natCast]
  split
  · rename_i h
    have h' : i < s.data.toList.length := by rw [dl]; omega
    simp only [List.getD_eq_getElem?_getD, List.getElem?_map, List.getElem?_eq_getElem h', Option.map_some, Option.getD_some]
    rfl
  · rename_i h
    have h' : s.data.toList.length ≤ i := by rw [dl]; omega
    simp only [List.getD_eq_getElem?_getD, List.getElem?_map, List.getElem?_eq_none h', Option.map_none, Option.getD_none]
    rfl
theorem B_append (s t : ByteArray) : B (s ++ t) = B s ++ B t := by simp [B]
theorem B_ext {s t : ByteArray} (h : B s = B t) : s = t := by
  have h2 : s.data.toList = t.data.toList := by
    unfold B at h
    exact List.map_inj_right (fun a b hab => UInt8.toNat_inj.1 hab) |>.1 h
  cases s; cases t
  simp only [ByteArray.mk.injEq]
  exact Array.toList_inj.1 h2
/-- A string of numbers' bytes. -/
theorem B_nums (l : List Int) (h : ∀ x ∈ l, 0 ≤ x ∧ x < 256) : B (strOfNums l) = l.map Int.toNat := by
  unfold B strOfNums
  simp only [List.map_map]
  refine List.map_congr_left fun x hx => ?_
  have := h x hx
  simp only [Function.comp]
  simp
  omega
theorem bx32 (a b : Nat) (ha : a < 4294967296) (hb : b < 4294967296) : Go.bits .xor .u32 (a : Int) (b : Int) = ((a ^^^ b : Nat) : Int) := by
  have hx : a ^^^ b < 2 ^ 32 := Nat.xor_lt_two_pow (by omega) (by omega)
  show IntKind.u32.wrap (((BitVec.ofInt 32 (a : Int)) ^^^ (BitVec.ofInt 32 (b : Int))).toNat : Int) = _
  rw [BitVec.ofInt_natCast, BitVec.ofInt_natCast, BitVec.toNat_xor, BitVec.toNat_ofNat, BitVec.toNat_ofNat, IntKind.wrap_u32,
    Nat.mod_eq_of_lt (show a < 2 ^ 32 by omega), Nat.mod_eq_of_lt (show b < 2 ^ 32 by omega)]
  omega
theorem band1 (a : Nat) (ha : a < 4294967296) : Go.bits .and .u32 (a : Int) 1 = ((a % 2 : Nat) : Int) := by
  have h : a &&& 1 = a % 2 := Nat.and_one_is_mod a
  have e : (1 : Int) = ((1 : Nat) : Int) := rfl
  rw [e]
  show IntKind.u32.wrap (((BitVec.ofInt 32 (a : Int)) &&& (BitVec.ofInt 32 ((1 : Nat) : Int))).toNat : Int) = _
  rw [BitVec.ofInt_natCast, BitVec.ofInt_natCast, BitVec.toNat_and, BitVec.toNat_ofNat, BitVec.toNat_ofNat, IntKind.wrap_u32,
    Nat.mod_eq_of_lt (show a < 2 ^ 32 by omega), Nat.mod_eq_of_lt (show 1 < 2 ^ 32 by omega), h]
  omega
end Go.Proofs.Ythoibokhmkjkdaa.Pure

namespace Go.Proofs.Ythoibokhmkjkdaa.Pure
open Go Go.RowKit Go.Proofs.YthoibokhmkjkdaaW.PrintWords Go.Proofs.YthoibokhmkjkdaaW.PrintLast Go.Proofs.YthoibokhmkjkdaaW.PrintMore
/-- What a loop makes: d rounds from round i on, each going on or leaving. -/
def run {σ α : Type} (step : σ → Nat → σ ⊕ α) (fin : σ → α) : Nat → Nat → σ → α
  | 0, _, s => fin s
  | d + 1, i, s => match step s i with
    | .inl s' => run step fin d (i + 1) s'
    | .inr a => a
theorem ev_for {σ α : Type} (L : Nat → σ → Int → Option α) (n : Nat) (step : σ → Nat → σ ⊕ α) (fin : σ → α) (Inv : σ → Nat → Prop)
    (hs : ∀ s i, i < n → Inv s i → (∀ s', step s i = .inl s' → Inv s' (i + 1) ∧ ∀ r, Ev (fun k => L k s' ((i + 1 : Nat) : Int)) r → Ev (fun k => L k s (i : Int)) r) ∧ (∀ a, step s i = .inr a → Ev (fun k => L k s (i : Int)) a))
    (he : ∀ s, Inv s n → Ev (fun k => L k s (n : Int)) (fin s)) : ∀ d i s, i + d = n → Inv s i → Ev (fun k => L k s (i : Int)) (run step fin d i s)
  | 0, i, s, hd, hi => by
    obtain rfl : i = n := by omega
    exact he s hi
  | d + 1, i, s, hd, hi => by
    obtain ⟨h1, h2⟩ := hs s i (by omega) hi
    unfold run
    cases h : step s i with
    | inl s' =>
      obtain ⟨h3, h4⟩ := h1 s' h
      exact h4 _ (ev_for L n step fin Inv hs he d (i + 1) s' (by omega) h3)
    | inr a => exact h2 a h
/-- A list that is filled, place by place. -/
theorem ev_fill {β : Type} (L : Nat → List β → Int → Option (List β)) (n : Nat) (z : β) (v : Nat → β)
    (hs : ∀ x i, i < n → x.length = n → ∀ r, Ev (fun k => L k (x.set i (v i)) ((i + 1 : Nat) : Int)) r → Ev (fun k => L k x (i : Int)) r)
    (he : ∀ x, x.length = n → Ev (fun k => L k x (n : Int)) x) : Ev (fun k => L k (List.replicate n z) 0) ((List.range n).map v) := by
  have key : ∀ d i, i + d = n → Ev (fun k => L k ((List.range i).map v ++ List.replicate d z) (i : Int)) ((List.range n).map v) := by
    intro d
    induction d with
    | zero =>
      intro i hi
      obtain rfl : i = n := by omega
      have := he ((List.range i).map v) (by simp)
      simpa using this
    | succ d ih =>
      intro i hi
      refine hs _ i (by omega) (by simp; omega) _ ?_
      have e : ((List.range i).map v ++ List.replicate (d + 1) z).set i (v i) = (List.range (i + 1)).map v ++ List.replicate d z := by
        rw [List.set_append_right _ _ (by simp), List.length_map, List.length_range, Nat.sub_self, List.replicate_succ, List.set_cons_zero, List.range_succ, List.map_append, List.append_assoc]
        rfl
      rw [e]
      exact ih (i + 1) (by omega)
  have := key n 0 (by omega)
  simpa using this
theorem map_range_get {α β : Type} (l : List α) (c : α → β) (z : α) : (List.range l.length).map (fun i => c (l.getD i z)) = l.map c := by
  apply List.ext_getElem
  · simp
  · intro i h1 h2
    simp at h1
    simp [List.getD_eq_getElem?_getD, List.getElem?_eq_getElem h1]
/-- A test of all places. -/
theorem ev_all {α : Type} (L : Nat → Int → Option α) (n : Nat) (p : Nat → Bool) (no yes : α)
    (hs : ∀ i, i < n → (p i = true → ∀ r, Ev (fun k => L k ((i + 1 : Nat) : Int)) r → Ev (fun k => L k (i : Int)) r) ∧ (p i = false → Ev (fun k => L k (i : Int)) no))
    (he : Ev (fun k => L k (n : Int)) yes) : Ev (fun k => L k 0) (if (List.range n).all p = true then yes else no) := by
  have key : ∀ d i, i + d = n → Ev (fun k => L k (i : Int)) (if (List.range' i d).all p = true then yes else no) := by
    intro d
    induction d with
    | zero =>
      intro i hi
      obtain rfl : i = n := by omega
      simpa using he
    | succ d ih =>
      intro i hi
      rw [List.range'_succ, List.all_cons]
      cases hp : p i with
      | false =>
        have h := (hs i (by omega)).2 hp
        simpa using h
      | true =>
        have h := (hs i (by omega)).1 hp _ (ih (i + 1) (by omega))
        rw [Bool.true_and]
        exact h
  have := key n 0 (by omega)
  rw [List.range_eq_range']
  exact this
theorem rd_get (l : List Int) (i : Nat) : rd l (i : Int) = l.getD i 0 := by simp [rd]
theorem wsucc (i : Nat) (h : i < 9223372036854775807) : wrap64 ((i : Int) + 1) = ((i + 1 : Nat) : Int) := by rw [w64] <;> omega
theorem wpred (i : Nat) (h : 0 < i) (h2 : i < 9223372036854775807) : wrap64 ((i : Int) - 1) = ((i - 1 : Nat) : Int) := by rw [w64] <;> omega
end Go.Proofs.Ythoibokhmkjkdaa.Pure

namespace Go.Proofs.Ythoibokhmkjkdaa.Pure
open Go Go.RowKit Go.Proofs.YthoibokhmkjkdaaW.PrintWords Go.Proofs.YthoibokhmkjkdaaW.PrintLast Go.Proofs.YthoibokhmkjkdaaW.PrintMore Go.Proofs.Ythoibokhmkjkdaa.P
def sameB (s : ByteArray) : Bool := (List.range' 1 7).all (fun j => decide (bt s (j : Int) = bt s 0))
/-- The letter of a block, or zero. -/
def letter (s : ByteArray) : Int := if s.size = 8 ∧ 97 ≤ bt s 0 ∧ bt s 0 ≤ 122 ∧ sameB s = true then bt s 0 else 0
theorem sLetter (s : ByteArray) : Ev (fun k => spec_l17Letter.f k s) (letter s) := by
  have hno : Ev (fun k => spec_l17Letter.j0 k s true) 0 := Ev.now' fun k => by simp only [spec_l17Letter.j0]; rfl
  unfold spec_l17Letter.f letter
  by_cases h8 : s.size = 8
  · refine Ev.ifp (by omega) (Ev.ifp (by omega) ?_)
    by_cases h1 : bt s 0 < 97
    · rw [if_neg (by omega)]
      exact Ev.ifp h1 hno
    refine Ev.ifn h1 ?_
    by_cases h2 : bt s 0 > 122
    · rw [if_neg (by omega), decide_eq_true h2]
      exact hno
    rw [decide_eq_false h2]
    refine Ev.step (f := fun k => spec_l17Letter.l0 k s 1) (fun k => by simp only [spec_l17Letter.j0]; rfl) ?_
    have key : ∀ d (i : Nat), i + d = 8 → 1 ≤ i → Ev (fun k => spec_l17Letter.l0 k s (i : Int)) (if (List.range' i d).all (fun j => decide (bt s (j : Int) = bt s 0)) = true then bt s 0 else 0) := by
      intro d
      induction d with
      | zero =>
        intro i hi _
        refine Ev.now' fun k => ?_
        simp only [spec_l17Letter.l0]
        rw [if_neg (by omega), if_pos (by omega)]
        rfl
      | succ d ih =>
        intro i hi h0
        rw [List.range'_succ, List.all_cons]
        by_cases hp : bt s (i : Int) = bt s 0
        · rw [decide_eq_true hp, Bool.true_and]
          refine Ev.step (fun k => ?_) (ih (i + 1) (by omega) (by omega))
          simp only [spec_l17Letter.l0]
          rw [if_pos (by omega), if_pos (by omega), if_pos (by omega), if_pos (by omega), if_pos hp, wsucc i (by omega)]
        · rw [decide_eq_false hp, Bool.false_and, if_neg (by simp)]
          refine Ev.now' fun k => ?_
          simp only [spec_l17Letter.l0]
          rw [if_pos (by omega), if_pos (by omega), if_pos (by omega), if_pos (by omega), if_neg hp]
    have h := key 7 1 (by omega) (by omega)
    have e : (if s.size = 8 ∧ 97 ≤ bt s 0 ∧ bt s 0 ≤ 122 ∧ sameB s = true then bt s 0 else 0) = (if (List.range' 1 7).all (fun j => decide (bt s (j : Int) = bt s 0)) = true then bt s 0 else 0) := by
      unfold sameB
      by_cases hq : (List.range' 1 7).all (fun j => decide (bt s (j : Int) = bt s 0)) = true
      · rw [if_pos hq, if_pos ⟨h8, by omega, by omega, hq⟩]
      · rw [if_neg hq, if_neg (fun h => hq h.2.2.2)]
    rw [e]
    exact h
  · rw [if_neg (fun h => h8 h.1)]
    exact Ev.ifn (by omega) hno
theorem iLetter (s : ByteArray) : impl_letterOf.f s = some (if letter s = 0 then ⟨#[]⟩ else strOfNums [letter s]) := by
  by_cases hp : s.size = 8 ∧ 97 ≤ bt s 0 ∧ bt s 0 ≤ 122
  · obtain ⟨h8, h1, h2⟩ := hp
    have hL : letter s = if sameB s = true then bt s 0 else 0 := by
      unfold letter
      by_cases hq : sameB s = true
      · rw [if_pos hq, if_pos ⟨h8, h1, h2, hq⟩]
      · rw [if_neg hq, if_neg (fun h => hq h.2.2.2)]
    unfold impl_letterOf.f
    rw [hL, if_pos (by omega), if_pos (by omega), if_neg (by omega), if_neg (by omega), if_pos (by omega), if_pos (by omega)]
    clear hL
    obtain ⟨⟨l⟩⟩ := s
    have hl : l.length = 8 := h8
    match l, hl, h1 with
    | [c0, c1, c2, c3, c4, c5, c6, c7], _, h1 =>
      have hx : (ByteArray.mk ⟨[c0, c1, c2, c3, c4, c5, c6, c7]⟩).extract 0 1 = ⟨#[c0]⟩ := rfl
      have hb : bt (ByteArray.mk ⟨[c0, c1, c2, c3, c4, c5, c6, c7]⟩) 0 = (c0.toNat : Int) := rfl
      have hs : strOfNums [(c0.toNat : Int)] = ⟨#[c0]⟩ := by simp [strOfNums]
      have hc : strings_Count.f (ByteArray.mk ⟨[c0, c1, c2, c3, c4, c5, c6, c7]⟩) ⟨#[c0]⟩ = some ((List.count c0 [c0, c1, c2, c3, c4, c5, c6, c7] : Nat) : Int) := rfl
      have hsame : sameB (ByteArray.mk ⟨[c0, c1, c2, c3, c4, c5, c6, c7]⟩) = true ↔ ∀ b ∈ [c0, c1, c2, c3, c4, c5, c6, c7], c0 = b := by
        have e : ∀ a b : UInt8, ((a.toNat : Int) = (b.toNat : Int)) ↔ b = a := fun a b => ⟨fun h => UInt8.toNat_inj.1 (by omega), fun h => by rw [h]⟩
        have h7 : sameB (ByteArray.mk ⟨[c0, c1, c2, c3, c4, c5, c6, c7]⟩) = (decide ((c1.toNat : Int) = c0.toNat) && (decide ((c2.toNat : Int) = c0.toNat) && (decide ((c3.toNat : Int) = c0.toNat) && (decide ((c4.toNat : Int) = c0.toNat) && (decide ((c5.toNat : Int) = c0.toNat) && (decide ((c6.toNat : Int) = c0.toNat) && (decide ((c7.toNat : Int) = c0.toNat) && true))))))) := rfl
        rw [h7]
        simp [e]
      rw [hx, hc, Option.bind_some, hb]
      by_cases hq : ∀ b ∈ [c0, c1, c2, c3, c4, c5, c6, c7], c0 = b
      · rw [if_pos (hsame.2 hq), List.count_eq_length.2 hq, if_pos (show ((List.length [c0, c1, c2, c3, c4, c5, c6, c7] : Nat) : Int) = 8 from rfl), if_neg (by rw [hb] at h1; omega), hs]
      · have hn : ¬ ((List.count c0 [c0, c1, c2, c3, c4, c5, c6, c7] : Nat) : Int) = 8 := by
          intro h
          exact hq (List.count_eq_length.1 (by simp only [List.length_cons, List.length_nil]; omega))
        rw [if_neg (fun h => hq (hsame.1 h)), if_neg hn, if_pos rfl]
  · have hz : letter s = 0 := by
      unfold letter
      rw [if_neg (fun h => hp ⟨h.1, h.2.1, h.2.2.1⟩)]
    rw [hz, if_pos rfl]
    unfold impl_letterOf.f
    by_cases h8 : s.size = 8
    · rw [if_pos (by omega), if_pos (by omega)]
      by_cases h1 : bt s 0 < 97
      · rw [if_pos h1]
      rw [if_neg h1, if_pos (by omega)]
    · rw [if_neg (by omega)]
end Go.Proofs.Ythoibokhmkjkdaa.Pure

namespace Go.Proofs.Ythoibokhmkjkdaa.Pure
open Go Go.RowKit Go.Proofs.YthoibokhmkjkdaaW.PrintWords Go.Proofs.YthoibokhmkjkdaaW.PrintLast Go.Proofs.YthoibokhmkjkdaaW.PrintMore Go.Proofs.Ythoibokhmkjkdaa.P
theorem rdOf_get (l : List ByteArray) (i : Nat) : rdOf ByteArray.empty l (i : Int) = l.getD i ByteArray.empty := by simp [rdOf]
theorem toStringS_ev (l : List ByteArray) (h : l.length ≤ 17592186044416) : Ev (fun k => laws_toStringS.f k l) l := by
  have h0 := ev_fill (fun k x i => laws_toStringS.l0 k l x i) l.length (⟨#[]⟩ : ByteArray) (fun i => l.getD i ByteArray.empty) (fun x i hi hx r hr => Ev.step (fun k => by
      simp only [laws_toStringS.l0]
      rw [if_pos (by omega), if_pos (by omega), if_pos (by omega), Int.toNat_natCast, rdOf_get, wsucc i (by omega)]) hr)
    (fun x hx => Ev.now' fun k => by simp only [laws_toStringS.l0]; rw [if_neg (by omega)])
  have e : (List.range l.length).map (fun i => l.getD i ByteArray.empty) = l := by
    have := map_range_get l (fun x => x) ByteArray.empty
    simpa using this
  rw [e] at h0
  refine Ev.congr (fun k => ?_) h0
  unfold laws_toStringS.f
  rw [if_pos (by omega), if_pos (by omega), Int.toNat_natCast]
theorem eqStringS_ev (l : List ByteArray) (h : l.length ≤ 17592186044416) : Ev (fun k => laws_eqStringS.f k l l) true := by
  have h0 := ev_all (fun k i => laws_eqStringS.l0 k l l i) l.length (fun _ => true) false true (fun i hi => ⟨fun hp r hr => Ev.step (fun k => by
      simp only [laws_eqStringS.l0]
      rw [if_pos (by omega), if_pos (by omega), if_pos (by omega), if_pos trivial, wsucc i (by omega)]) hr, fun hp => by simp at hp⟩)
    (Ev.now' fun k => by simp only [laws_eqStringS.l0]; rw [if_neg (by omega)])
  rw [if_pos (by simp)] at h0
  refine Ev.congr (fun k => ?_) h0
  unfold laws_eqStringS.f
  rw [if_pos rfl]
theorem szStringS_ev (l : List ByteArray) (a : Int) (h : l.length ≤ 17592186044416) : ∃ t, Ev (fun k => laws_szStringS.f k l a) t := by
  have key : ∀ d (i : Nat) (x : Int), i + d = l.length → ∃ t, Ev (fun k => laws_szStringS.l0 k l x (i : Int)) t := by
    intro d
    induction d with
    | zero => intro i x hi; exact ⟨x, Ev.now' fun k => by simp only [laws_szStringS.l0]; rw [if_neg (by omega)]⟩
    | succ d ih =>
      intro i x hi
      by_cases hn : wrap64 (x - ((l.getD i ByteArray.empty).size : Int)) < 0
      · exact ⟨-1, Ev.now' fun k => by simp only [laws_szStringS.l0]; rw [if_pos (by omega), if_pos (by omega), rdOf_get, if_pos hn]⟩
      · obtain ⟨t, ht⟩ := ih (i + 1) (wrap64 (x - ((l.getD i ByteArray.empty).size : Int))) (by omega)
        exact ⟨t, Ev.step (fun k => by simp only [laws_szStringS.l0]; rw [if_pos (by omega), if_pos (by omega), rdOf_get, if_neg hn, wsucc i (by omega)]) ht⟩
  by_cases hn : wrap64 (a - (l.length : Int)) < 0
  · exact ⟨-1, Ev.all fun k => by unfold laws_szStringS.f; rw [if_pos hn]⟩
  · obtain ⟨t, ht⟩ := key l.length 0 (wrap64 (a - (l.length : Int))) (by omega)
    exact ⟨t, Ev.congr (fun k => by unfold laws_szStringS.f; rw [if_neg hn]; rfl) ht⟩
end Go.Proofs.Ythoibokhmkjkdaa.Pure

namespace Go.Proofs.Ythoibokhmkjkdaa.Pure
open Go Go.RowKit Go.Proofs.YthoibokhmkjkdaaW.PrintWords Go.Proofs.YthoibokhmkjkdaaW.PrintLast Go.Proofs.YthoibokhmkjkdaaW.PrintMore
/-- The first place from i on, of d places, with a property, or -1. -/
def firstFrom (p : Nat → Bool) : Nat → Nat → Int
  | 0, _ => -1
  | d + 1, i => if p i = true then (i : Int) else firstFrom p d (i + 1)
theorem firstFrom_any (p : Nat → Bool) : ∀ d i, decide (firstFrom p d i ≥ 0) = (List.range' i d).any p
  | 0, i => by simp [firstFrom]
  | d + 1, i => by
    rw [List.range'_succ, List.any_cons]
    unfold firstFrom
    cases h : p i with
    | true => simp
    | false => simpa using firstFrom_any p d (i + 1)
theorem ev_index (L : Nat → Int → Option Int) (n : Nat) (p : Nat → Bool)
    (hs : ∀ i, i < n → (p i = false → ∀ r, Ev (fun k => L k ((i + 1 : Nat) : Int)) r → Ev (fun k => L k (i : Int)) r) ∧ (p i = true → Ev (fun k => L k (i : Int)) (i : Int)))
    (he : Ev (fun k => L k (n : Int)) (-1)) : Ev (fun k => L k 0) (firstFrom p n 0) := by
  have key : ∀ d i, i + d = n → Ev (fun k => L k (i : Int)) (firstFrom p d i) := by
    intro d
    induction d with
    | zero => intro i hi; obtain rfl : i = n := by omega
              exact he
    | succ d ih =>
      intro i hi
      unfold firstFrom
      cases hp : p i with
      | true => exact (hs i (by omega)).2 hp
      | false => exact (hs i (by omega)).1 hp _ (ih (i + 1) (by omega))
  exact key n 0 (by omega)
theorem firstFrom_any0 (p : Nat → Bool) (n : Nat) : decide (firstFrom p n 0 ≥ 0) = (List.range n).any p := by rw [firstFrom_any, List.range_eq_range']
theorem not_all_any (p : Nat → Bool) (n : Nat) : (List.range n).any (fun i => !p i) = !(List.range n).all p := by
  rw [Bool.eq_iff_iff]
  simp [List.any_eq_true]
end Go.Proofs.Ythoibokhmkjkdaa.Pure

namespace Go.Proofs.Ythoibokhmkjkdaa.P
open Go.RowKit Go.Proofs.YthoibokhmkjkdaaW.PrintWords Go.Proofs.YthoibokhmkjkdaaW.PrintLast Go.Proofs.YthoibokhmkjkdaaW.PrintMore Go.Proofs.YthoibokhmkjkdaaW.PrintSq
attribute [local go_sem] max2_int min2_int max_two min_two max_three min_three max_four min_four   -- for this text's walks alone
set_option linter.unusedVariables false
set_option linter.unusedSimpArgs false

/-! ### impl_isTime: function 139 -/
def impl_isTime.f (a0 : Int) : Option (Bool) := (impl_within.f a0 0 1000000).bind fun t101 => (some t101)
set_option maxHeartbeats 8000000 in
set_option maxRecDepth 100000 in
theorem impl_isTime.calls (a0 : Int) (r : Bool) (w : World) (h : impl_isTime.f a0 = some r) :
    Calls Try.prog 139 #[.int .i64 a0] w fun e w' => e = .returned (.bool r) ∧ Drawn0 w w' := by
  have H : ((impl_within.f a0 0 1000000).bind fun t101 => (some t101)) = some r := h
  clear h
  replace H := Option.bind_eq_some_iff.mp H
  obtain ⟨t101, A20, H⟩ := H
  replace H : (some t101) = some r := H
  have A2 := Aside0.mk A20
  clear A20
  obtain rfl := Option.some.inj H
  go_enter Try.func139, Try.ntmps139
  go_wp2_with (first | ((with_reducible refine gate_callee (f := 76) rfl ?_); refine goesL_ (some 4) rfl rfl Try.func76 (by kernel_rfl) rfl #[.int .i64 a0, .int .i64 0, .int .i64 1000000] rfl lF ?_; (with_reducible refine (impl_within.calls a0 0 1000000 t101 _ A2.out).mono ?_); rintro e w' ⟨rfl, ⟨nd, rfl⟩⟩; refine ⟨_, rfl, ?_⟩))
  go_ret
  exact ⟨by first | rfl | (simp; done) | (simp [*]; done), by repeat (first | exact Drawn0.refl _ | apply Drawn0.step)⟩

end Go.Proofs.Ythoibokhmkjkdaa.P

namespace Go.Proofs.Ythoibokhmkjkdaa.P
open Go.RowKit Go.Proofs.YthoibokhmkjkdaaW.PrintWords Go.Proofs.YthoibokhmkjkdaaW.PrintLast Go.Proofs.YthoibokhmkjkdaaW.PrintMore
attribute [local go_sem] max2_int min2_int max_two min_two max_three min_three max_four min_four   -- for this text's walks alone
set_option linter.unusedVariables false
set_option linter.unusedSimpArgs false

/-! ### spec_l03Is: function 75 -/
def spec_l03Is.f (a0 : Int) (a1 : Int) (a2 : Int) : Option (Bool) := if a0 ≥ a1 then (some (decide (a0 ≤ a2))) else (some false)
set_option maxHeartbeats 8000000 in
set_option maxRecDepth 100000 in
theorem spec_l03Is.calls (a0 : Int) (a1 : Int) (a2 : Int) (r : Bool) (w : World) (h : spec_l03Is.f a0 a1 a2 = some r) :
    Calls Try.prog 75 #[.int .i64 a0, .int .i64 a1, .int .i64 a2] w fun e w' => e = .returned (.bool r) ∧ Drawn0 w w' := by
  have H : (if a0 ≥ a1 then (some (decide (a0 ≤ a2))) else (some false)) = some r := h
  clear h
  by_cases c4 : a0 ≥ a1
  · rw [if_pos c4] at H
    have c4b0 : decide (a1 ≤ a0) = true := decide_eq_true c4
    clear c4
    obtain rfl := Option.some.inj H
    go_enter Try.func75, Try.ntmps75
    go_wp2
    go_ret
    exact ⟨by first | rfl | (simp; done) | (simp [*]; done), by repeat (first | exact Drawn0.refl _ | apply Drawn0.step)⟩
  · rw [if_neg c4] at H
    have c4b0 : decide (a1 ≤ a0) = false := decide_eq_false c4
    clear c4
    obtain rfl := Option.some.inj H
    go_enter Try.func75, Try.ntmps75
    go_wp2
    go_ret
    exact ⟨by first | rfl | (simp; done) | (simp [*]; done), by repeat (first | exact Drawn0.refl _ | apply Drawn0.step)⟩

end Go.Proofs.Ythoibokhmkjkdaa.P

namespace Go.Proofs.Ythoibokhmkjkdaa.Pure
open Go.RowKit Go.Proofs.YthoibokhmkjkdaaW.PrintWords Go.Proofs.YthoibokhmkjkdaaW.PrintLast Go.Proofs.Ythoibokhmkjkdaa.P
theorem within_eq (a b c : Int) : impl_within.f a b c = some (decide (b ≤ a) && decide (a ≤ c)) := by
  unfold impl_within.f; split <;> simp_all
  omega
theorem is_eq (a b c : Int) : spec_l03Is.f a b c = some (decide (b ≤ a) && decide (a ≤ c)) := by
  unfold spec_l03Is.f; split <;> simp_all
  omega
theorem time_eq (a : Int) : impl_isTime.f a = some (decide (0 ≤ a) && decide (a ≤ 1000000)) := by
  unfold impl_isTime.f; rw [within_eq]; rfl
theorem ite_some {α : Type} (c : Prop) [Decidable c] (a b : α) : (if c then some a else some b) = some (if c then a else b) := by split <;> rfl
theorem ite_and (x y : Bool) : (if x = true then y else false) = (x && y) := by cases x <;> rfl
end Go.Proofs.Ythoibokhmkjkdaa.Pure

namespace Go.Proofs.Ythoibokhmkjkdaa.Pure
open Go Go.RowKit Go.Proofs.YthoibokhmkjkdaaW.PrintWords Go.Proofs.YthoibokhmkjkdaaW.PrintLast Go.Proofs.Ythoibokhmkjkdaa.P
def eightB (l : List ByteArray) : Bool := (List.range l.length).all (fun i => decide ((l.getD i ByteArray.empty).size = 8))
def imgB (l : List ByteArray) : Bool := decide (1 ≤ l.length) && decide (l.length ≤ 8) && eightB l
def lettersB (l : List ByteArray) : Bool := (List.range l.length).all (fun i => !decide (letter (l.getD i ByteArray.empty) = 0))
def imgText (l : List ByteArray) : ByteArray := if imgB l = true then (if lettersB l = true then strOfNums ((List.range l.length).map (fun i => letter (l.getD i ByteArray.empty))) else ⟨#[]⟩) else ⟨#[]⟩
theorem strOf_append (a b : List Int) : strOfNums (a ++ b) = strOfNums a ++ strOfNums b := by
  refine B_ext ?_
  rw [B_append]
  simp [B, strOfNums]
theorem strOf_nil : strOfNums [] = ⟨#[]⟩ := rfl
theorem iIsImage (l : List ByteArray) (h : l.length ≤ 17592186044416) : Ev (fun k => impl_isImage.f k l) (imgB l) := by
  unfold impl_isImage.f impl_size_string.f impl_isBlocks.f imgB
  simp only [within_eq, Option.bind_some]
  rw [show decide ((1 : Int) ≤ (l.length : Int)) = decide (1 ≤ l.length) from decide_eq_decide.2 (by omega), show decide ((l.length : Int) ≤ 8) = decide (l.length ≤ 8) from decide_eq_decide.2 (by omega)]
  cases (decide (1 ≤ l.length) && decide (l.length ≤ 8)) with
  | false => exact Ev.ifn (by simp) (Ev.now _)
  | true =>
    have h0 := ev_index (fun k i => slices_IndexFunc_string_string_of_isImage_1.l0 k l (l.length : Int) i) l.length (fun i => !decide ((l.getD i ByteArray.empty).size = 8)) (fun i hi => ⟨fun hp q hq => Ev.step (fun k => by
        simp only [slices_IndexFunc_string_string_of_isImage_1.l0, impl_isImage_1.f]
        rw [if_pos (by omega), if_pos (by omega), if_pos (by omega), rdOf_get, Option.bind_some, if_neg (by simp at hp ⊢; omega), wsucc i (by omega)]) hq, fun hp => Ev.now' fun k => by
        simp only [slices_IndexFunc_string_string_of_isImage_1.l0, impl_isImage_1.f]
        rw [if_pos (by omega), if_pos (by omega), if_pos (by omega), rdOf_get, Option.bind_some, if_pos (by simp at hp ⊢; omega)]⟩) (Ev.now' fun k => by simp only [slices_IndexFunc_string_string_of_isImage_1.l0]; rw [if_neg (by omega)])
    have h1 : Ev (fun k => slices_ContainsFunc_string_string_of_isImage_1.f k l) (!eightB l) := by
      unfold slices_ContainsFunc_string_string_of_isImage_1.f eightB
      refine Ev.bind (Ev.congr (fun k => by unfold slices_IndexFunc_string_string_of_isImage_1.f; rfl) h0) ?_
      rw [firstFrom_any0, not_all_any]
      exact Ev.now _
    refine Ev.ifp rfl (Ev.bind h1 ?_)
    rw [Bool.not_not, Bool.true_and]
    exact Ev.now _
theorem sIsImage (l : List ByteArray) (h : l.length ≤ 17592186044416) : Ev (fun k => spec_ImageRight.f k l) (imgB l) := by
  have hno : Ev (fun k => spec_ImageRight.j0 k l true) false := Ev.now' fun k => by simp only [spec_ImageRight.j0]; rfl
  unfold spec_ImageRight.f imgB
  by_cases h1 : 1 ≤ l.length
  · refine Ev.ifn (by omega) ?_
    by_cases h2 : l.length ≤ 8
    · rw [decide_eq_true h1, decide_eq_true h2, decide_eq_false (by omega), Bool.true_and, Bool.true_and]
      refine Ev.step (f := fun k => spec_ImageRight.l0 k l 0) (fun k => by simp only [spec_ImageRight.j0]; rfl) ?_
      have h0 := ev_all (fun k i => spec_ImageRight.l0 k l i) l.length (fun i => decide ((l.getD i ByteArray.empty).size = 8)) false true (fun i hi => ⟨fun hp r hr => Ev.step (fun k => by
          simp only [spec_ImageRight.l0]
          rw [if_pos (by omega), if_pos (by omega), rdOf_get, if_pos (by have := of_decide_eq_true hp; omega), wsucc i (by omega)]) hr, fun hp => Ev.now' fun k => by
          simp only [spec_ImageRight.l0]
          rw [if_pos (by omega), if_pos (by omega), rdOf_get, if_neg (by have := of_decide_eq_false hp; omega)]⟩)
        (Ev.now' fun k => by simp only [spec_ImageRight.l0]; rw [if_neg (by omega)])
      have e : eightB l = (if (List.range l.length).all (fun i => decide ((l.getD i ByteArray.empty).size = 8)) = true then true else false) := by
        unfold eightB; generalize (List.range l.length).all _ = q; cases q <;> rfl
      rw [e]
      exact h0
    · rw [decide_eq_false h2, decide_eq_true (by omega), Bool.and_false, Bool.false_and]
      exact hno
  · rw [decide_eq_false h1, Bool.false_and, Bool.false_and]
    exact Ev.ifp (by omega) hno
theorem strOf_size (l : List Int) : (strOfNums l).size = l.length := by
  rw [← B_len]
  simp [B, strOfNums]
theorem sLoop (l : List ByteArray) (h8 : l.length ≤ 8) (hi : imgB l = true) : ∀ d (i : Nat) (acc : List Int), i + d = l.length → acc.length ≤ i → Ev (fun k => spec_ImageText.l0 k l acc (i : Int)) (if (List.range' i d).all (fun i => !decide (letter (l.getD i ByteArray.empty) = 0)) = true then strOfNums (acc ++ (List.range' i d).map (fun i => letter (l.getD i ByteArray.empty))) else ⟨#[]⟩)
  | 0, i, acc, hd, ha => by
    refine Ev.step (f := fun k => spec_ImageText.j1 k l acc (i : Int) false) (fun k => ?_) (Ev.now' fun k => ?_)
    · simp only [spec_ImageText.l0]
      rw [if_neg (by omega)]
    · simp only [spec_ImageText.j1]
      simp
  | d + 1, i, acc, hd, ha => by
    refine Ev.step (f := fun k => (spec_ImageRight.f k l).bind fun t => spec_ImageText.j1 k l acc (i : Int) t) (fun k => ?_) (Ev.bind (sIsImage l (by omega)) ?_)
    · simp only [spec_ImageText.l0]
      rw [if_pos (by omega)]
    rw [hi]
    refine Ev.step (f := fun k => (spec_l17Letter.f k (l.getD i ByteArray.empty)).bind fun t => if t = 0 then some ⟨#[]⟩ else spec_ImageText.l0 k l (acc ++ [t]) ((i + 1 : Nat) : Int)) (fun k => ?_) (Ev.bind (sLetter _) ?_)
    · simp only [spec_ImageText.j1]
      rw [if_pos trivial, if_pos (by omega), if_pos (by omega), rdOf_get, wsucc i (by omega)]
      simp only [if_pos (show acc.length < 140737488355328 by omega)]
    rw [List.range'_succ, List.all_cons, List.map_cons]
    by_cases hz : letter (l.getD i ByteArray.empty) = 0
    · rw [hz]
      exact Ev.now _
    · refine Ev.ifn hz ?_
      rw [decide_eq_false hz, Bool.not_false, Bool.true_and]
      have ih := sLoop l h8 hi d (i + 1) (acc ++ [letter (l.getD i ByteArray.empty)]) (by omega) (by simp; omega)
      rw [List.append_assoc] at ih
      exact ih
theorem iLoop (l : List ByteArray) (h8 : l.length ≤ 8) : ∀ d (i : Nat) (acc : List Int), i + d = l.length → acc.length ≤ i → Ev (fun k => impl_imageText.l0 k (strOfNums acc) l (l.length : Int) (i : Int)) (if (List.range' i d).all (fun i => !decide (letter (l.getD i ByteArray.empty) = 0)) = true then strOfNums (acc ++ (List.range' i d).map (fun i => letter (l.getD i ByteArray.empty))) else ⟨#[]⟩)
  | 0, i, acc, hd, ha => by
    refine Ev.now' fun k => ?_
    simp only [impl_imageText.l0]
    rw [if_neg (by omega)]
    simp
  | d + 1, i, acc, hd, ha => by
    rw [List.range'_succ, List.all_cons, List.map_cons]
    by_cases hz : letter (l.getD i ByteArray.empty) = 0
    · rw [hz]
      refine Ev.now' fun k => ?_
      simp only [impl_imageText.l0]
      rw [if_pos (by omega), if_pos (by omega), if_pos (by omega), rdOf_get, iLetter, hz, if_pos rfl, Option.bind_some, if_pos (show (⟨#[]⟩ : ByteArray).toList = [] by rw [ByteArray.toList_eq]), if_neg (by simp)]
    · rw [decide_eq_false hz, Bool.not_false, Bool.true_and]
      have ih := iLoop l h8 d (i + 1) (acc ++ [letter (l.getD i ByteArray.empty)]) (by omega) (by simp; omega)
      rw [List.append_assoc, strOf_append] at ih
      refine Ev.step (fun k => ?_) ih
      simp only [impl_imageText.l0]
      have hne : ¬ (strOfNums [letter (l.getD i ByteArray.empty)]).toList = [] := by
        rw [ByteArray.toList_eq]
        simp [strOfNums]
      have hs1 := strOf_size acc
      have hs2 := strOf_size [letter (l.getD i ByteArray.empty)]
      rw [if_pos (by omega), if_pos (by omega), if_pos (by omega), rdOf_get, iLetter, if_neg hz, Option.bind_some, if_neg hne, if_pos (by rw [hs1, hs2]; simp; omega), wsucc i (by omega)]
theorem imgText_range (l : List ByteArray) (hi : imgB l = true) : imgText l = (if (List.range' 0 l.length).all (fun i => !decide (letter (l.getD i ByteArray.empty) = 0)) = true then strOfNums ([] ++ (List.range' 0 l.length).map (fun i => letter (l.getD i ByteArray.empty))) else ⟨#[]⟩) := by
  unfold imgText lettersB
  rw [if_pos hi, List.range_eq_range', List.nil_append]
theorem imgB_len {l : List ByteArray} (hi : imgB l = true) : l.length ≤ 8 := by
  simp only [imgB, Bool.and_eq_true, decide_eq_true_eq] at hi
  exact hi.1.2
theorem iImageText (l : List ByteArray) (h : l.length ≤ 17592186044416) : Ev (fun k => impl_ImageText.f k l) (imgText l) := by
  unfold impl_ImageText.f
  refine Ev.bind (iIsImage l h) ?_
  by_cases hi : imgB l = true
  · rw [imgText_range l hi]
    refine Ev.ifp hi (Ev.bind ?_ (Ev.now _))
    have h0 := iLoop l (imgB_len hi) l.length 0 [] (by omega) (by simp)
    exact Ev.congr (fun k => by unfold impl_imageText.f; rfl) h0
  · have e : imgText l = ⟨#[]⟩ := by unfold imgText; rw [if_neg hi]
    rw [e]
    exact Ev.ifn hi (Ev.now _)
theorem sImageText (l : List ByteArray) (h : l.length ≤ 17592186044416) : Ev (fun k => spec_ImageText.f k l) (imgText l) := by
  by_cases hi : imgB l = true
  · rw [imgText_range l hi]
    have h0 := sLoop l (imgB_len hi) hi l.length 0 [] (by omega) (by simp)
    exact Ev.congr (fun k => by unfold spec_ImageText.f; rfl) h0
  · have e : imgText l = ⟨#[]⟩ := by unfold imgText; rw [if_neg hi]
    rw [e]
    have hno : Ev (fun k => spec_ImageText.j1 k l [] 0 false) (⟨#[]⟩ : ByteArray) := Ev.now' fun k => by simp only [spec_ImageText.j1]; rfl
    refine Ev.congr (fun k => by unfold spec_ImageText.f; rfl) ?_
    by_cases h0 : (0 : Int) < (l.length : Int)
    · refine Ev.step (f := fun k => (spec_ImageRight.f k l).bind fun t => spec_ImageText.j1 k l [] 0 t) (fun k => ?_) (Ev.bind (sIsImage l h) ?_)
      · simp only [spec_ImageText.l0]
        rw [if_pos h0]
      · rw [Bool.eq_false_iff.2 hi]
        exact hno
    · refine Ev.step (f := fun k => spec_ImageText.j1 k l [] 0 false) (fun k => ?_) hno
      simp only [spec_ImageText.l0]
      rw [if_neg h0]
theorem FnExactImageText : laws_FnExactImageText.Pure := by
  intro l hm hy _
  refine Ev.rounds ?_
  unfold laws_FnExactImageText.f
  have hl : l.length ≤ 17592186044416 := by omega
  obtain ⟨z, hz⟩ := szStringS_ev l 1048576 hl
  refine Ev.bind hz ?_
  by_cases hneg : z < 0
  · exact Ev.ifp hneg (Ev.now _)
  · exact Ev.ifn hneg (Ev.bind (toStringS_ev l hl) (Ev.bind (sImageText l hl) (Ev.bind (toStringS_ev l hl) (Ev.bind (iImageText l hl) (Ev.ifp rfl (Ev.bind (toStringS_ev l hl) (Ev.bind (eqStringS_ev l hl) (Ev.ifp rfl (Ev.now _)))))))))
end Go.Proofs.Ythoibokhmkjkdaa.Pure

namespace Go.Proofs.Ythoibokhmkjkdaa.fnExactImageText
open Go.ChangeShapes Go.WideShapes Go.ChangeAt Go.RowKit Go.Proofs.YthoibokhmkjkdaaO Go.Proofs.YthoibokhmkjkdaaW.PrintWords Go.Proofs.Ythoibokhmkjkdaa.P
open Go.ChangeMaps (open_string shut_string)
set_option linter.unusedVariables false
theorem own : ownKnob Try.prog.godebug = none := by kernel_rfl
theorem laidOut : laidOutB Try.prog = true := by kernel_rfl
theorem o9 : Opens Try.prog 9 Kd.string (fun s => s.size ≤ 140737488351232) := opens_string Try.underlying9 (by kernel_rfl : Try.prog.cellsOf 9 = 1)
set_option maxRecDepth 100000 in
theorem lifted (os : Os) (started : os.Started) (H : Type) (enc : TypeId × Value → H) :
    ReturnsInHanded {} Try.checked os 6 .any (Rows.fnExactImageTextSpec.pre6 enc Try.prog Try.f6 Rows.fnExactImageTextRow.domain false) (Rows.fnExactImageTextSpec.post enc Try.prog Try.f6 false true false false) := by
  refine returnsInHanded_of_change_sized (C := Try.checked) own started (by kernel_rfl) Try.func6
    (ChangeSpec.witness6 (enc := enc) (C := Try.checked) false ⟨#[], #[.slice none 0 0], []⟩ 8 (by kernel_rfl) (by kernel_rfl) (by kernel_rfl) (by kernel_rfl)) ?_
  intro W base args ds gs before hval0 hW hcnd hsz0 _
  have hsz : (DataW.weightsEach Try.prog (Try.f6.params.toList ++ Rows.fnExactImageTextSpec.plain.varTypes Try.prog) (ds ++ gs)).all (· ≤ reachBytes) = true := hsz0
  have hval : ∀ (j : Nat) t v, Try.f6.params[j]? = some t → args[j]? = some v → Value.okWide Try.prog W .any base t v := hval0
  have hW' := hW
  obtain ⟨p, q, hA0, hV, rfl, hfz, hnd⟩ := hW
  have hA : DataW.TrodAll enc Try.prog W 0 (fun _ => true) true Try.f6.params.toList args.toList ds p := hA0
  rw [Try.params6] at hA hval hsz
  obtain ⟨v0, vs0, d0, ds0, p0, q0, hargs, rfl, rfl, h0, r0⟩ := trodAll_cons hA
  obtain ⟨rfl, rfl, rfl⟩ := trodAll_nil r0
  obtain rfl : args = #[v0] := by cases args; simp_all
  obtain ⟨rfl, rfl⟩ := trodVars_none hV
  have lt0 := trod_lt_all h0
  have k0 := h0
  have z0 := weights_arg hsz (j := 0) (t := 47) rfl rfl
  obtain ⟨A0, c0, l0, rfl, lc0, g0, m0, y0, w0⟩ := arg_slice Try.underlying47 (by kernel_rfl : Try.prog.bytesOf 9 = 16) (hval 0 47 v0 rfl rfl) h0 z0 (o9 : Opens Try.prog 9 _ ok9)
  clear hA0 hval0 hsz0 hsz
  obtain ⟨k, h⟩ := Pure.FnExactImageText l0 m0 y0 w0
  refine (laws_FnExactImageText.calls k _ _ l0 true W g0 lc0 h).mono fun e W' ⟨he, bel0⟩ => ?_
  have bel : Below W.heap.size W W' := bel0
  subst he
  exact ⟨_, rfl, _, _, _, [], _, [], hW', trodAll_mk1 (shut_bool Try.underlying4 _), (trodAll_cons_mk (Below.trod laidOut (by kernel_rfl) (of_decide_eq_true (by kernel_rfl)) k0 bel lt0) trodAll_mk0), rfl, bel.frame _, fun h => by cases h⟩
theorem over : Rows.fnExactImageTextRow.holds Try.pinned (OpenSpec.ofChange Rows.fnExactImageTextSpec) :=
  OpenClaim.holds_of_wide 6 Try.f6 rfl rfl rfl rfl rfl rfl rfl ⟨rfl, rfl, rfl, rfl, rfl⟩ rfl rfl rfl rfl rfl (by kernel_rfl) Try.func6 (by kernel_rfl)
    (of_decide_eq_true (by kernel_rfl)) (by unfold Func.isWrapper; first | (rw [if_pos (by decide +kernel)]; kernel_rfl) | (rw [if_neg (by decide +kernel)]; exact ⟨rfl, rfl⟩))
    (fun os started H enc _ => lifted os started H enc)
theorem proved : Rows.FnExactImageTextSaid := over
#print axioms proved
end Go.Proofs.Ythoibokhmkjkdaa.fnExactImageText
namespace Go.Proofs.Ythoibokhmkjkdaa
/-- The row, under a short name, for the claim. -/
theorem fnExactImageText_holds : Rows.FnExactImageTextSaid := fnExactImageText.proved
end Go.Proofs.Ythoibokhmkjkdaa
