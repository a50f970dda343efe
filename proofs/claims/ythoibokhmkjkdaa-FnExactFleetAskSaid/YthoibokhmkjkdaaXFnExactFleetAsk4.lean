/- What the law FnExactFleetAsk needs, part 5 of 9: the Lean functions of the Go functions that it reaches, with the proofs that the calls come to what they say, and plain facts about them. Conditions: those that each theorem states. Written by a session and by its programs (after the kit's printer). -/
import Derived.Test.YthoibokhmkjkdaaXFnExactFleetAsk1
import Derived.Test.YthoibokhmkjkdaaXFnExactFleetAsk2
import Derived.Test.YthoibokhmkjkdaaXFnExactFleetAsk3
namespace Go.Proofs.Ythoibokhmkjkdaa.P
open Go.RowKit Go.Proofs.YthoibokhmkjkdaaW.PrintWords Go.Proofs.YthoibokhmkjkdaaW.PrintLast Go.Proofs.YthoibokhmkjkdaaW.PrintMore Go.Proofs.YthoibokhmkjkdaaW.PrintSq
attribute [local go_sem] max2_int min2_int max_two min_two max_three min_three max_four min_four   -- for this text's walks alone
set_option linter.unusedVariables false
set_option linter.unusedSimpArgs false

/-! ### spec_FleetAsk: function 44 -/
mutual
def spec_FleetAsk.l0 : Nat → Int → Int → List Int → Int → Int → List Int → List Int → Int → Int → List Int → List Int → Int → Option (List Int × Int × Int × List Int × List Int × Int)
  | 0, _, _, _, _, _, _, _, _, _, _, _, _ => none
  | k + 1, x4, x5, x102000, x102001, x102002, x102003, x138000, x138001, x138002, x138003, x138004, x138005 => if x5 < (x102003.length : Int) then (spec_FleetAsk.j1 k x4 x5 (decide (x4 > 0)) x102000 x102001 x102002 x102003 x138000 x138001 x138002 x138003 x138004 x138005) else (spec_FleetAsk.j1 k x4 x5 false x102000 x102001 x102002 x102003 x138000 x138001 x138002 x138003 x138004 x138005)
def spec_FleetAsk.j1 : Nat → Int → Int → Bool → List Int → Int → Int → List Int → List Int → Int → Int → List Int → List Int → Int → Option (List Int × Int × Int × List Int × List Int × Int)
  | 0, _, _, _, _, _, _, _, _, _, _, _, _, _ => none
  | k + 1, x4, x5, x33, x102000, x102001, x102002, x102003, x138000, x138001, x138002, x138003, x138004, x138005 => if x33 = true then (if 0 ≤ x5 then (if x5 < (x102003.length : Int) then (if (rd x102003 x5) = 0 then (if x5 < (x138003.length : Int) then (if x138004.length < 17592186044416 then (spec_FleetAsk.l0 k (wrap64 (x4 - 1)) (wrap64 (x5 + 1)) x102000 x102001 x102002 x102003 x138000 x138001 x138002 (x138003.set (x5 : Int).toNat 1) (x138004 ++ [x5]) x138005) else (none)) else (none)) else (spec_FleetAsk.l0 k x4 (wrap64 (x5 + 1)) x102000 x102001 x102002 x102003 x138000 x138001 x138002 x138003 x138004 x138005)) else (none)) else (none)) else (some (x138000, x138001, x138002, x138003, x138004, x138005))
end
def spec_FleetAsk.f (k : Nat) (l0_0 : List Int) (a0_1 : Int) (a0_2 : Int) (l0_3 : List Int) : Option (List Int × Int × Int × List Int × List Int × Int) := (spec_FleetRight.f k l0_0 a0_1 a0_2 l0_3).bind fun t103 => (if t103 = true then ((spec_Halted.f k l0_0 a0_1 a0_2 l0_3).bind fun t116 => (if t116 = true then ((spec_l21Ill.f 10).bind fun bt117 => (some (bt117.1, bt117.2.1, bt117.2.2.1, bt117.2.2.2.1, bt117.2.2.2.2.1, bt117.2.2.2.2.2))) else ((spec_l21Copy.f l0_0 a0_1 a0_2 l0_3).bind fun bt129 => ((spec_l21Share.f l0_0 a0_1 a0_2 l0_3).bind fun t138 => ((spec_l21Many.f k l0_0 a0_1 a0_2 l0_3 0).bind fun t139 => (spec_FleetAsk.l0 k (wrap64 ((wrap64 (t138 - (l0_3.length : Int))) + t139)) 0 l0_0 a0_1 a0_2 l0_3 bt129.1 bt129.2.1 bt129.2.2.1 bt129.2.2.2 ([] : List Int) 0)))))) else ((spec_l21Ill.f 1).bind fun bt104 => (some (bt104.1, bt104.2.1, bt104.2.2.1, bt104.2.2.2.1, bt104.2.2.2.2.1, bt104.2.2.2.2.2))))
theorem spec_FleetAsk.mono_l : ∀ k, (∀ y0 y1 y2 y3 y4 y5 y6 y7 y8 y9 y10 y11, LeO (spec_FleetAsk.l0 k y0 y1 y2 y3 y4 y5 y6 y7 y8 y9 y10 y11) (spec_FleetAsk.l0 (k + 1) y0 y1 y2 y3 y4 y5 y6 y7 y8 y9 y10 y11)) ∧ (∀ y0 y1 y2 y3 y4 y5 y6 y7 y8 y9 y10 y11 y12, LeO (spec_FleetAsk.j1 k y0 y1 y2 y3 y4 y5 y6 y7 y8 y9 y10 y11 y12) (spec_FleetAsk.j1 (k + 1) y0 y1 y2 y3 y4 y5 y6 y7 y8 y9 y10 y11 y12))
  | 0 => ⟨fun _ _ _ _ _ _ _ _ _ _ _ _ r h => by simp [spec_FleetAsk.l0] at h, fun _ _ _ _ _ _ _ _ _ _ _ _ _ r h => by simp [spec_FleetAsk.j1] at h⟩
  | k + 1 => by
    obtain ⟨ih0, ih1⟩ := spec_FleetAsk.mono_l k
    refine ⟨?_, ?_⟩
    · intro y0 y1 y2 y3 y4 y5 y6 y7 y8 y9 y10 y11
      unfold spec_FleetAsk.l0
      repeat' first
      | (with_reducible exact ih0 _ _ _ _ _ _ _ _ _ _ _ _)
      | (with_reducible exact ih1 _ _ _ _ _ _ _ _ _ _ _ _ _)
      | (with_reducible exact spec_FleetRight.mono _ _ _ _ _)
      | (with_reducible exact spec_Halted.mono _ _ _ _ _)
      | (with_reducible exact spec_l21Many.mono _ _ _ _ _ _)
      | (with_reducible exact LeO.refl _)
      | (with_reducible exact LeO.none _)
      | (with_reducible refine LeO.ite ?_ ?_)
      | (with_reducible refine LeO.bind ?_ (fun _ => ?_))
      | exact ih0 _ _ _ _ _ _ _ _ _ _ _ _
      | exact ih1 _ _ _ _ _ _ _ _ _ _ _ _ _
      | exact spec_FleetRight.mono _ _ _ _ _
      | exact spec_Halted.mono _ _ _ _ _
      | exact spec_l21Many.mono _ _ _ _ _ _
      | exact LeO.none _
      | refine LeO.ite ?_ ?_
      | refine LeO.bind ?_ (fun _ => ?_)
    · intro y0 y1 y2 y3 y4 y5 y6 y7 y8 y9 y10 y11 y12
      unfold spec_FleetAsk.j1
      repeat' first
      | (with_reducible exact ih0 _ _ _ _ _ _ _ _ _ _ _ _)
      | (with_reducible exact ih1 _ _ _ _ _ _ _ _ _ _ _ _ _)
      | (with_reducible exact spec_FleetRight.mono _ _ _ _ _)
      | (with_reducible exact spec_Halted.mono _ _ _ _ _)
      | (with_reducible exact spec_l21Many.mono _ _ _ _ _ _)
      | (with_reducible exact LeO.refl _)
      | (with_reducible exact LeO.none _)
      | (with_reducible refine LeO.ite ?_ ?_)
      | (with_reducible refine LeO.bind ?_ (fun _ => ?_))
      | exact ih0 _ _ _ _ _ _ _ _ _ _ _ _
      | exact ih1 _ _ _ _ _ _ _ _ _ _ _ _ _
      | exact spec_FleetRight.mono _ _ _ _ _
      | exact spec_Halted.mono _ _ _ _ _
      | exact spec_l21Many.mono _ _ _ _ _ _
      | exact LeO.none _
      | refine LeO.ite ?_ ?_
      | refine LeO.bind ?_ (fun _ => ?_)
theorem spec_FleetAsk.mono : ∀ a0 a1 a2 a3 k, LeO (spec_FleetAsk.f k a0 a1 a2 a3) (spec_FleetAsk.f (k + 1) a0 a1 a2 a3) := by
  intro a0 a1 a2 a3 k
  obtain ⟨ih0, ih1⟩ := spec_FleetAsk.mono_l k
  unfold spec_FleetAsk.f
  repeat' first
      | (with_reducible exact ih0 _ _ _ _ _ _ _ _ _ _ _ _)
      | (with_reducible exact ih1 _ _ _ _ _ _ _ _ _ _ _ _ _)
      | (with_reducible exact spec_FleetRight.mono _ _ _ _ _)
      | (with_reducible exact spec_Halted.mono _ _ _ _ _)
      | (with_reducible exact spec_l21Many.mono _ _ _ _ _ _)
      | (with_reducible exact LeO.refl _)
      | (with_reducible exact LeO.none _)
      | (with_reducible refine LeO.ite ?_ ?_)
      | (with_reducible refine LeO.bind ?_ (fun _ => ?_))
      | exact ih0 _ _ _ _ _ _ _ _ _ _ _ _
      | exact ih1 _ _ _ _ _ _ _ _ _ _ _ _ _
      | exact spec_FleetRight.mono _ _ _ _ _
      | exact spec_Halted.mono _ _ _ _ _
      | exact spec_l21Many.mono _ _ _ _ _ _
      | exact LeO.none _
      | refine LeO.ite ?_ ?_
      | refine LeO.bind ?_ (fun _ => ?_)
def spec_FleetAsk.T6 : Bool × List (List Nat × List Nat) := (true, [([], []), ([0], [0]), ([], []), ([2], [2]), ([3], [3]), ([1, 4], [1, 4]), ([], []), ([6, 1], [6]), ([5, 7], [5, 7]), ([8, 7, 0, 1, 2, 3, 4, 5, 6, 7, 8], [8])])
def spec_FleetAsk.B6 : List Nat := [0, 1, 0, 4, 12, 31, 0, 67, 255, 511]
theorem spec_FleetAsk.tab6 : rtab .any (opsOf Try.f44 6) = spec_FleetAsk.T6 := by kernel_rfl
theorem spec_FleetAsk.bits6 : waitsOk spec_FleetAsk.T6.2 spec_FleetAsk.B6 = true := by kernel_rfl
set_option maxHeartbeats 8000000 in
set_option maxRecDepth 100000 in
theorem spec_FleetAsk.calls (k : Nat) (A0_0 : Option Addr) (c0_0 : Nat) (l0_0 : List Int) (a0_1 : Int) (a0_2 : Int) (A0_3 : Option Addr) (c0_3 : Nat) (l0_3 : List Int) (r1 : List Int) (r2 : Int) (r3 : Int) (r4 : List Int) (r5 : List Int) (r6 : Int) (w : World) (hr0_0 : Kd.C (Kd.int .i64) w A0_0 l0_0.length l0_0) (hc0_0 : l0_0.length ≤ c0_0) (hr0_3 : Kd.C (Kd.int .i64) w A0_3 l0_3.length l0_3) (hc0_3 : l0_3.length ≤ c0_3) (h : spec_FleetAsk.f k l0_0 a0_1 a0_2 l0_3 = some (r1, r2, r3, r4, r5, r6)) :
    Calls Try.prog 44 #[.agg #[.slice A0_0 l0_0.length c0_0, .int .i64 a0_1, .int .i64 a0_2, .slice A0_3 l0_3.length c0_3]] w fun e w' => ∃ v0_ v3_ v4_ : Value, e = .returned (.agg #[v0_, .int .i64 r2, .int .i64 r3, v3_, v4_, .int .i64 r6]) ∧ Kd.R (Kd.int .i64) 2 w' w.heap.size (fun k_ => some k_ ≠ (v3_ : Value).ownBlock ∧ some k_ ≠ (v4_ : Value).ownBlock) v0_ r1 ∧ Kd.R (Kd.int .i64) 2 w' w.heap.size (fun k_ => some k_ ≠ (v0_ : Value).ownBlock ∧ some k_ ≠ (v4_ : Value).ownBlock) v3_ r4 ∧ Kd.R (Kd.int .i64) 2 w' w.heap.size (fun k_ => some k_ ≠ (v0_ : Value).ownBlock ∧ some k_ ≠ (v3_ : Value).ownBlock) v4_ r5 ∧ Below w.heap.size w w' := by
  have hu27 := Try.underlying27
  have hu32 := Try.underlying32
  have HR0_0 := Aside0.mk hr0_0
  have HC0_0 := Aside0.mk hc0_0
  clear hr0_0 hc0_0
  have HR0_3 := Aside0.mk hr0_3
  have HC0_3 := Aside0.mk hc0_3
  clear hr0_3 hc0_3
  have HB := aK (Below.refl w.heap.size w)
  have H : ((spec_FleetRight.f k l0_0 a0_1 a0_2 l0_3).bind fun t103 => (if t103 = true then ((spec_Halted.f k l0_0 a0_1 a0_2 l0_3).bind fun t116 => (if t116 = true then ((spec_l21Ill.f 10).bind fun bt117 => (some (bt117.1, bt117.2.1, bt117.2.2.1, bt117.2.2.2.1, bt117.2.2.2.2.1, bt117.2.2.2.2.2))) else ((spec_l21Copy.f l0_0 a0_1 a0_2 l0_3).bind fun bt129 => ((spec_l21Share.f l0_0 a0_1 a0_2 l0_3).bind fun t138 => ((spec_l21Many.f k l0_0 a0_1 a0_2 l0_3 0).bind fun t139 => (spec_FleetAsk.l0 k (wrap64 ((wrap64 (t138 - (l0_3.length : Int))) + t139)) 0 l0_0 a0_1 a0_2 l0_3 bt129.1 bt129.2.1 bt129.2.2.1 bt129.2.2.2 ([] : List Int) 0)))))) else ((spec_l21Ill.f 1).bind fun bt104 => (some (bt104.1, bt104.2.1, bt104.2.2.1, bt104.2.2.2.1, bt104.2.2.2.2.1, bt104.2.2.2.2.2))))) = some (r1, r2, r3, r4, r5, r6) := h
  clear h
  replace H := Option.bind_eq_some_iff.mp H
  obtain ⟨t103, A20, H⟩ := H
  replace H : (if t103 = true then ((spec_Halted.f k l0_0 a0_1 a0_2 l0_3).bind fun t116 => (if t116 = true then ((spec_l21Ill.f 10).bind fun bt117 => (some (bt117.1, bt117.2.1, bt117.2.2.1, bt117.2.2.2.1, bt117.2.2.2.2.1, bt117.2.2.2.2.2))) else ((spec_l21Copy.f l0_0 a0_1 a0_2 l0_3).bind fun bt129 => ((spec_l21Share.f l0_0 a0_1 a0_2 l0_3).bind fun t138 => ((spec_l21Many.f k l0_0 a0_1 a0_2 l0_3 0).bind fun t139 => (spec_FleetAsk.l0 k (wrap64 ((wrap64 (t138 - (l0_3.length : Int))) + t139)) 0 l0_0 a0_1 a0_2 l0_3 bt129.1 bt129.2.1 bt129.2.2.1 bt129.2.2.2 ([] : List Int) 0)))))) else ((spec_l21Ill.f 1).bind fun bt104 => (some (bt104.1, bt104.2.1, bt104.2.2.1, bt104.2.2.2.1, bt104.2.2.2.2.1, bt104.2.2.2.2.2)))) = some (r1, r2, r3, r4, r5, r6) := H
  have A2 := Aside0.mk A20
  clear A20
  by_cases c3 : t103 = true
  · subst c3
    have H1 : ((spec_Halted.f k l0_0 a0_1 a0_2 l0_3).bind fun t116 => (if t116 = true then ((spec_l21Ill.f 10).bind fun bt117 => (some (bt117.1, bt117.2.1, bt117.2.2.1, bt117.2.2.2.1, bt117.2.2.2.2.1, bt117.2.2.2.2.2))) else ((spec_l21Copy.f l0_0 a0_1 a0_2 l0_3).bind fun bt129 => ((spec_l21Share.f l0_0 a0_1 a0_2 l0_3).bind fun t138 => ((spec_l21Many.f k l0_0 a0_1 a0_2 l0_3 0).bind fun t139 => (spec_FleetAsk.l0 k (wrap64 ((wrap64 (t138 - (l0_3.length : Int))) + t139)) 0 l0_0 a0_1 a0_2 l0_3 bt129.1 bt129.2.1 bt129.2.2.1 bt129.2.2.2 ([] : List Int) 0)))))) = some (r1, r2, r3, r4, r5, r6) := by rw [if_pos rfl] at H; exact H
    clear H
    have H := H1
    clear H1
    replace H := Option.bind_eq_some_iff.mp H
    obtain ⟨t116, A40, H⟩ := H
    replace H : (if t116 = true then ((spec_l21Ill.f 10).bind fun bt117 => (some (bt117.1, bt117.2.1, bt117.2.2.1, bt117.2.2.2.1, bt117.2.2.2.2.1, bt117.2.2.2.2.2))) else ((spec_l21Copy.f l0_0 a0_1 a0_2 l0_3).bind fun bt129 => ((spec_l21Share.f l0_0 a0_1 a0_2 l0_3).bind fun t138 => ((spec_l21Many.f k l0_0 a0_1 a0_2 l0_3 0).bind fun t139 => (spec_FleetAsk.l0 k (wrap64 ((wrap64 (t138 - (l0_3.length : Int))) + t139)) 0 l0_0 a0_1 a0_2 l0_3 bt129.1 bt129.2.1 bt129.2.2.1 bt129.2.2.2 ([] : List Int) 0))))) = some (r1, r2, r3, r4, r5, r6) := H
    have A4 := Aside0.mk A40
    clear A40
    by_cases c5 : t116 = true
    · subst c5
      have H1 : ((spec_l21Ill.f 10).bind fun bt117 => (some (bt117.1, bt117.2.1, bt117.2.2.1, bt117.2.2.2.1, bt117.2.2.2.2.1, bt117.2.2.2.2.2))) = some (r1, r2, r3, r4, r5, r6) := by rw [if_pos rfl] at H; exact H
      clear H
      have H := H1
      clear H1
      replace H := Option.bind_eq_some_iff.mp H
      obtain ⟨⟨t117, t120, t121, t122, t125, t128⟩, A60, H⟩ := H
      replace H : (some (t117, t120, t121, t122, t125, t128)) = some (r1, r2, r3, r4, r5, r6) := H
      have A6 := Aside0.mk A60
      clear A60
      simp only [Option.some.injEq, Prod.mk.injEq] at H
      obtain ⟨rfl, rfl, rfl, rfl, rfl, rfl⟩ := H
      go_enter Try.func44, Try.ntmps44
      go_wp2_with (first | ((with_reducible refine gate_dst (N := 1) rfl ?_); refine boxE (N := 1) (cs := #[.slice A0_0 l0_0.length c0_0, .int .i64 a0_1, .int .i64 a0_2, .slice A0_3 l0_3.length c0_3]) (t := 27) (h := ?_); intro gb101 hg w7 hbox hb; have BK101 := aK (hbox); have GW101 := aK ((by rw [hg]; exact (below_size (bF0 HB.out)) : w.heap.size ≤ gb101)); have GE101 := aK ((by rw [hg]; exact (below_size (bF0 HB.out)) : w.heap.size ≤ gb101)); replace HB := aK (below_step (bF0 HB.out) hb); clear hb hbox hg) | ((with_reducible refine gate_dst (N := 2) rfl ?_); refine boxE (N := 2) (cs := #[.slice none 0 0, .int .i64 0, .int .i64 0, .slice none 0 0, .slice none 0 0, .int .i64 0]) (t := 32) (h := ?_); intro gb102 hg w8 hbox hb; have BK102 := aK (hbox); have GW102 := aK ((by rw [hg]; exact (below_size (bF1 HB.out GE101.out)) : w.heap.size ≤ gb102)); have GE102 := aK ((by rw [hg]; exact (below_size (bF1 HB.out GE101.out)) : w.heap.size ≤ gb102)); replace HB := aK (below_step (bF1 HB.out GE101.out) hb); have NB101_102 := aK ((by rw [hg]; exact Nat.ne_of_lt (blk_lt (g := gb101) (o := .cells #[.slice A0_0 l0_0.length c0_0, .int .i64 a0_1, .int .i64 a0_2, .slice A0_3 l0_3.length c0_3] 27 (0, 0)) (kF BK101.out)) : gb101 ≠ gb102)); have NB102_101 := aK ((by rw [hg]; exact Nat.ne_of_gt (blk_lt (g := gb101) (o := .cells #[.slice A0_0 l0_0.length c0_0, .int .i64 a0_1, .int .i64 a0_2, .slice A0_3 l0_3.length c0_3] 27 (0, 0)) (kF BK101.out)) : gb102 ≠ gb101)); replace BK101 := aK (kB BK101.out hb); clear hb hbox hg; have hnb9 := NB101_102.out; have hnc9 := NB102_101.out; obtain ⟨hcz10_0, hcz10_1, hcz10_2, hcz10_3⟩ := cells4 BK101.out; obtain ⟨hfz10_0, hfz10_1, hfz10_2⟩ := frz3 BK101.out; have hfz10_3 := blk_frozen BK101.out 3) | ((with_reducible refine gate_callee (f := 59) rfl ?_); refine goesL_ (some 7) rfl rfl Try.func59 (by kernel_rfl) rfl #[.agg #[.slice A0_0 l0_0.length c0_0, .int .i64 a0_1, .int .i64 a0_2, .slice A0_3 l0_3.length c0_3]] rfl lF ?_; (with_reducible refine (spec_FleetRight.calls k _ _ l0_0 a0_1 a0_2 _ _ l0_3 true _ ?side1 ?side2 ?side3 ?side4 A2.out).mono ?_); (case side1 => exact cF (Kd.C_below HR0_0.out HB.out)); (case side2 => exact HC0_0.out); (case side3 => exact cF (Kd.C_below HR0_3.out HB.out)); (case side4 => exact HC0_3.out); rintro e w11 ⟨rfl, hb⟩; refine ⟨_, rfl, ?_⟩; replace BK101 := aK (kB BK101.out hb); replace BK102 := aK (kB BK102.out hb); replace HB := aK (below_step (bF2 HB.out GE101.out GE102.out) hb); (try clear hb); (try clear hb2); (try clear hk); (try clear hi); obtain ⟨hcz12_0, hcz12_1, hcz12_2, hcz12_3⟩ := cells4 BK101.out; obtain ⟨hfz12_0, hfz12_1, hfz12_2⟩ := frz3 BK101.out; have hfz12_3 := blk_frozen BK101.out 3) | ((with_reducible refine gate_callee (f := 57) rfl ?_); refine goesL_ (some 11) rfl rfl Try.func57 (by kernel_rfl) rfl #[.agg #[.slice A0_0 l0_0.length c0_0, .int .i64 a0_1, .int .i64 a0_2, .slice A0_3 l0_3.length c0_3]] rfl lF ?_; (with_reducible refine (spec_Halted.calls k _ _ l0_0 a0_1 a0_2 _ _ l0_3 true _ ?side1 ?side2 ?side3 ?side4 A4.out).mono ?_); (case side1 => exact cF (Kd.C_below HR0_0.out HB.out)); (case side2 => exact HC0_0.out); (case side3 => exact cF (Kd.C_below HR0_3.out HB.out)); (case side4 => exact HC0_3.out); rintro e w13 ⟨rfl, hb⟩; refine ⟨_, rfl, ?_⟩; replace BK101 := aK (kB BK101.out hb); replace BK102 := aK (kB BK102.out hb); replace HB := aK (below_step (bF2 HB.out GE101.out GE102.out) hb); (try clear hb); (try clear hb2); (try clear hk); (try clear hi)) | ((with_reducible refine gate_callee (f := 74) rfl ?_); refine goesL_ (some 12) rfl rfl Try.func74 (by kernel_rfl) rfl #[.int .i64 10] rfl lF ?_; (with_reducible refine (spec_l21Ill.calls 10 t117 t120 t121 t122 t125 t128 _ A6.out).mono ?_); rintro e w14 ⟨v118, v123, v126, rfl, ho0, ho1, ho2, hb⟩; refine ⟨_, rfl, ?_⟩; have HO119 := aK (QW ho0 (below_size (bF2 HB.out GE101.out GE102.out))); have HO124 := aK (QW ho1 (below_size (bF2 HB.out GE101.out GE102.out))); have HO127 := aK (QW ho2 (below_size (bF2 HB.out GE101.out GE102.out))); replace BK101 := aK (kB BK101.out hb); replace BK102 := aK (kB BK102.out hb); replace HB := aK (below_step (bF2 HB.out GE101.out GE102.out) hb); (try clear hb); (try clear hb2); (try clear hk); (try clear hi); (try clear ho0); (try clear ho1); (try clear ho2); obtain ⟨Ao15, co15, eo15⟩ := Kd.R_slice HO119.out; subst eo15; obtain ⟨hcz16_0, hcz16_1, hcz16_2, hcz16_3, hcz16_4, hcz16_5⟩ := cells6 BK102.out; obtain ⟨hfz16_0, hfz16_1, hfz16_2, hfz16_3, hfz16_4, hfz16_5⟩ := frz6 BK102.out; obtain ⟨Ao17, co17, eo17⟩ := Kd.R_slice HO124.out; subst eo17; obtain ⟨Ao18, co18, eo18⟩ := Kd.R_slice HO127.out; subst eo18))
      refine bodyPost_ret (results_cell_row rfl _ _ gb102 32 #[.slice Ao15 t117.length co15, .int .i64 t120, .int .i64 t121, .slice Ao17 t122.length co17, .slice Ao18 t125.length co18, .int .i64 t128] (0, 0) _ rfl (kP6 BK102.out) Try.underlying32 rfl (by kernel_rfl)) rfl ?_
      exact ⟨_, _, _, by first | rfl | (simp only [i64_w, i32_w]; done) | (simp only [i64_w, i32_w]; rfl) | (simp [errW_none, errW_some] <;> rfl) | (simp [*, errW_none, errW_some] <;> rfl), by (with_reducible repeat (first | apply Kd.R_alloc | apply Kd.R_drewN | apply Kd.R_drew)); exact QM (Kd.R_far (p := ⟨gb102, 5, none⟩) (Kd.R_far (p := ⟨gb102, 4, none⟩) (Kd.R_far (p := ⟨gb102, 3, none⟩) (Kd.R_far (p := ⟨gb102, 2, none⟩) (Kd.R_far (p := ⟨gb102, 1, none⟩) (Kd.R_far (p := ⟨gb102, 0, none⟩) (Kd.R_types HO119.out BK102.out (by decide)) (fun _ hk => hk.2) (.slice Ao15 t117.length co15)) (fun _ hk => hk.2) (.int .i64 t120)) (fun _ hk => hk.2) (.int .i64 t121)) (fun _ hk => hk.2) (.slice Ao17 t122.length co17)) (fun _ hk => hk.2) (.slice Ao18 t125.length co18)) (fun _ hk => hk.2) (.int .i64 t128)) (fun _ hk => ⟨hk.1.1, hk.1.2⟩), by (with_reducible repeat (first | apply Kd.R_alloc | apply Kd.R_drewN | apply Kd.R_drew)); exact QM (Kd.R_far (p := ⟨gb102, 5, none⟩) (Kd.R_far (p := ⟨gb102, 4, none⟩) (Kd.R_far (p := ⟨gb102, 3, none⟩) (Kd.R_far (p := ⟨gb102, 2, none⟩) (Kd.R_far (p := ⟨gb102, 1, none⟩) (Kd.R_far (p := ⟨gb102, 0, none⟩) (Kd.R_types HO124.out BK102.out (by decide)) (fun _ hk => hk.2) (.slice Ao15 t117.length co15)) (fun _ hk => hk.2) (.int .i64 t120)) (fun _ hk => hk.2) (.int .i64 t121)) (fun _ hk => hk.2) (.slice Ao17 t122.length co17)) (fun _ hk => hk.2) (.slice Ao18 t125.length co18)) (fun _ hk => hk.2) (.int .i64 t128)) (fun _ hk => ⟨hk.1.1, hk.1.2⟩), by (with_reducible repeat (first | apply Kd.R_alloc | apply Kd.R_drewN | apply Kd.R_drew)); exact QM (Kd.R_far (p := ⟨gb102, 5, none⟩) (Kd.R_far (p := ⟨gb102, 4, none⟩) (Kd.R_far (p := ⟨gb102, 3, none⟩) (Kd.R_far (p := ⟨gb102, 2, none⟩) (Kd.R_far (p := ⟨gb102, 1, none⟩) (Kd.R_far (p := ⟨gb102, 0, none⟩) (Kd.R_types HO127.out BK102.out (by decide)) (fun _ hk => hk.2) (.slice Ao15 t117.length co15)) (fun _ hk => hk.2) (.int .i64 t120)) (fun _ hk => hk.2) (.int .i64 t121)) (fun _ hk => hk.2) (.slice Ao17 t122.length co17)) (fun _ hk => hk.2) (.slice Ao18 t125.length co18)) (fun _ hk => hk.2) (.int .i64 t128)) (fun _ hk => ⟨hk.1.1, hk.1.2⟩), by repeat (first | (with_reducible first | exact HB.out | apply below_alloc | apply pw_below_drewN | apply below_drew1 | refine below_set ?_ GE101.out | refine below_set ?_ GE102.out) | exact HB.out)⟩
    · replace c5 := Bool.eq_false_iff.mpr c5
      subst c5
      have H1 : ((spec_l21Copy.f l0_0 a0_1 a0_2 l0_3).bind fun bt129 => ((spec_l21Share.f l0_0 a0_1 a0_2 l0_3).bind fun t138 => ((spec_l21Many.f k l0_0 a0_1 a0_2 l0_3 0).bind fun t139 => (spec_FleetAsk.l0 k (wrap64 ((wrap64 (t138 - (l0_3.length : Int))) + t139)) 0 l0_0 a0_1 a0_2 l0_3 bt129.1 bt129.2.1 bt129.2.2.1 bt129.2.2.2 ([] : List Int) 0)))) = some (r1, r2, r3, r4, r5, r6) := by rw [if_neg (show ¬ (false = true) by decide)] at H; exact H
      clear H
      have H := H1
      clear H1
      replace H := Option.bind_eq_some_iff.mp H
      obtain ⟨⟨t129, t132, t133, t134⟩, A190, H⟩ := H
      replace H : ((spec_l21Share.f l0_0 a0_1 a0_2 l0_3).bind fun t138 => ((spec_l21Many.f k l0_0 a0_1 a0_2 l0_3 0).bind fun t139 => (spec_FleetAsk.l0 k (wrap64 ((wrap64 (t138 - (l0_3.length : Int))) + t139)) 0 l0_0 a0_1 a0_2 l0_3 t129 t132 t133 t134 ([] : List Int) 0))) = some (r1, r2, r3, r4, r5, r6) := H
      have A19 := Aside0.mk A190
      clear A190
      replace H := Option.bind_eq_some_iff.mp H
      obtain ⟨t138, A200, H⟩ := H
      replace H : ((spec_l21Many.f k l0_0 a0_1 a0_2 l0_3 0).bind fun t139 => (spec_FleetAsk.l0 k (wrap64 ((wrap64 (t138 - (l0_3.length : Int))) + t139)) 0 l0_0 a0_1 a0_2 l0_3 t129 t132 t133 t134 ([] : List Int) 0)) = some (r1, r2, r3, r4, r5, r6) := H
      have A20 := Aside0.mk A200
      clear A200
      replace H := Option.bind_eq_some_iff.mp H
      obtain ⟨t139, A210, H⟩ := H
      replace H : (spec_FleetAsk.l0 k (wrap64 ((wrap64 (t138 - (l0_3.length : Int))) + t139)) 0 l0_0 a0_1 a0_2 l0_3 t129 t132 t133 t134 ([] : List Int) 0) = some (r1, r2, r3, r4, r5, r6) := H
      have A21 := Aside0.mk A210
      clear A210
      have H' := Aside0.mk H
      clear H
      go_enter Try.func44, Try.ntmps44
      try go_wp2_with (first | ((with_reducible refine gate_dst (N := 1) rfl ?_); refine boxE (N := 1) (cs := #[.slice A0_0 l0_0.length c0_0, .int .i64 a0_1, .int .i64 a0_2, .slice A0_3 l0_3.length c0_3]) (t := 27) (h := ?_); intro gb101 hg w22 hbox hb; have BK101 := aK (hbox); have GW101 := aK ((by rw [hg]; exact (below_size (bF0 HB.out)) : w.heap.size ≤ gb101)); have GE101 := aK ((by rw [hg]; exact (below_size (bF0 HB.out)) : w.heap.size ≤ gb101)); replace HB := aK (below_step (bF0 HB.out) hb); clear hb hbox hg) | ((with_reducible refine gate_dst (N := 2) rfl ?_); refine boxE (N := 2) (cs := #[.slice none 0 0, .int .i64 0, .int .i64 0, .slice none 0 0, .slice none 0 0, .int .i64 0]) (t := 32) (h := ?_); intro gb102 hg w23 hbox hb; have BK102 := aK (hbox); have GW102 := aK ((by rw [hg]; exact (below_size (bF1 HB.out GE101.out)) : w.heap.size ≤ gb102)); have GE102 := aK ((by rw [hg]; exact (below_size (bF1 HB.out GE101.out)) : w.heap.size ≤ gb102)); replace HB := aK (below_step (bF1 HB.out GE101.out) hb); have NB101_102 := aK ((by rw [hg]; exact Nat.ne_of_lt (blk_lt (g := gb101) (o := .cells #[.slice A0_0 l0_0.length c0_0, .int .i64 a0_1, .int .i64 a0_2, .slice A0_3 l0_3.length c0_3] 27 (0, 0)) (kF BK101.out)) : gb101 ≠ gb102)); have NB102_101 := aK ((by rw [hg]; exact Nat.ne_of_gt (blk_lt (g := gb101) (o := .cells #[.slice A0_0 l0_0.length c0_0, .int .i64 a0_1, .int .i64 a0_2, .slice A0_3 l0_3.length c0_3] 27 (0, 0)) (kF BK101.out)) : gb102 ≠ gb101)); replace BK101 := aK (kB BK101.out hb); clear hb hbox hg; have hnb24 := NB101_102.out; have hnc24 := NB102_101.out; obtain ⟨hcz25_0, hcz25_1, hcz25_2, hcz25_3⟩ := cells4 BK101.out; obtain ⟨hfz25_0, hfz25_1, hfz25_2⟩ := frz3 BK101.out; have hfz25_3 := blk_frozen BK101.out 3) | ((with_reducible refine gate_callee (f := 59) rfl ?_); refine goesL_ (some 7) rfl rfl Try.func59 (by kernel_rfl) rfl #[.agg #[.slice A0_0 l0_0.length c0_0, .int .i64 a0_1, .int .i64 a0_2, .slice A0_3 l0_3.length c0_3]] rfl lF ?_; (with_reducible refine (spec_FleetRight.calls k _ _ l0_0 a0_1 a0_2 _ _ l0_3 true _ ?side1 ?side2 ?side3 ?side4 A2.out).mono ?_); (case side1 => exact cF (Kd.C_below HR0_0.out HB.out)); (case side2 => exact HC0_0.out); (case side3 => exact cF (Kd.C_below HR0_3.out HB.out)); (case side4 => exact HC0_3.out); rintro e w26 ⟨rfl, hb⟩; refine ⟨_, rfl, ?_⟩; replace BK101 := aK (kB BK101.out hb); replace BK102 := aK (kB BK102.out hb); replace HB := aK (below_step (bF2 HB.out GE101.out GE102.out) hb); (try clear hb); (try clear hb2); (try clear hk); (try clear hi); obtain ⟨hcz27_0, hcz27_1, hcz27_2, hcz27_3⟩ := cells4 BK101.out; obtain ⟨hfz27_0, hfz27_1, hfz27_2⟩ := frz3 BK101.out; have hfz27_3 := blk_frozen BK101.out 3) | ((with_reducible refine gate_callee (f := 57) rfl ?_); refine goesL_ (some 11) rfl rfl Try.func57 (by kernel_rfl) rfl #[.agg #[.slice A0_0 l0_0.length c0_0, .int .i64 a0_1, .int .i64 a0_2, .slice A0_3 l0_3.length c0_3]] rfl lF ?_; (with_reducible refine (spec_Halted.calls k _ _ l0_0 a0_1 a0_2 _ _ l0_3 false _ ?side1 ?side2 ?side3 ?side4 A4.out).mono ?_); (case side1 => exact cF (Kd.C_below HR0_0.out HB.out)); (case side2 => exact HC0_0.out); (case side3 => exact cF (Kd.C_below HR0_3.out HB.out)); (case side4 => exact HC0_3.out); rintro e w28 ⟨rfl, hb⟩; refine ⟨_, rfl, ?_⟩; replace BK101 := aK (kB BK101.out hb); replace BK102 := aK (kB BK102.out hb); replace HB := aK (below_step (bF2 HB.out GE101.out GE102.out) hb); (try clear hb); (try clear hb2); (try clear hk); (try clear hi); obtain ⟨hcz29_0, hcz29_1, hcz29_2, hcz29_3⟩ := cells4 BK101.out; obtain ⟨hfz29_0, hfz29_1, hfz29_2⟩ := frz3 BK101.out; have hfz29_3 := blk_frozen BK101.out 3) | ((with_reducible refine gate_callee (f := 91) rfl ?_); refine goesL_ (some 14) rfl rfl Try.func91 (by kernel_rfl) rfl #[.agg #[.slice A0_0 l0_0.length c0_0, .int .i64 a0_1, .int .i64 a0_2, .slice A0_3 l0_3.length c0_3]] rfl lF ?_; (with_reducible refine (spec_l21Copy.calls _ _ l0_0 a0_1 a0_2 _ _ l0_3 t129 t132 t133 t134 _ ?side1 ?side2 ?side3 ?side4 A19.out).mono ?_); (case side1 => exact cF (Kd.C_below HR0_0.out HB.out)); (case side2 => exact HC0_0.out); (case side3 => exact cF (Kd.C_below HR0_3.out HB.out)); (case side4 => exact HC0_3.out); rintro e w30 ⟨v130, v135, rfl, ho0, ho1, hb⟩; refine ⟨_, rfl, ?_⟩; have HO131 := aK (QW ho0 (below_size (bF2 HB.out GE101.out GE102.out))); have HO136 := aK (QW ho1 (below_size (bF2 HB.out GE101.out GE102.out))); replace BK101 := aK (kB BK101.out hb); replace BK102 := aK (kB BK102.out hb); replace HB := aK (below_step (bF2 HB.out GE101.out GE102.out) hb); (try clear hb); (try clear hb2); (try clear hk); (try clear hi); (try clear ho0); (try clear ho1); obtain ⟨Ao31, co31, eo31⟩ := Kd.R_slice HO136.out; subst eo31; obtain ⟨Ao32, co32, eo32⟩ := Kd.R_slice HO131.out; subst eo32) | ((with_reducible refine gate_dst (N := 3) rfl ?_); refine boxE (N := 3) (cs := #[.slice none 0 0, .int .i64 0, .int .i64 0, .slice none 0 0, .slice none 0 0, .int .i64 0]) (t := 32) (h := ?_); intro gb137 hg w33 hbox hb; replace HO131 := aK (rB HO131.out hb); replace HO136 := aK (rB HO136.out hb); have BK137 := aK (hbox); have GW137 := aK ((by rw [hg]; exact (below_size (bF2 HB.out GE101.out GE102.out)) : w.heap.size ≤ gb137)); have GE137 := aK ((by rw [hg]; exact (below_size (bF2 HB.out GE101.out GE102.out)) : w.heap.size ≤ gb137)); replace HB := aK (below_step (bF2 HB.out GE101.out GE102.out) hb); have NB101_137 := aK ((by rw [hg]; exact Nat.ne_of_lt (blk_lt (g := gb101) (o := .cells #[.slice A0_0 l0_0.length c0_0, .int .i64 a0_1, .int .i64 a0_2, .slice A0_3 l0_3.length c0_3] 27 (0, 0)) (kF BK101.out)) : gb101 ≠ gb137)); have NB137_101 := aK ((by rw [hg]; exact Nat.ne_of_gt (blk_lt (g := gb101) (o := .cells #[.slice A0_0 l0_0.length c0_0, .int .i64 a0_1, .int .i64 a0_2, .slice A0_3 l0_3.length c0_3] 27 (0, 0)) (kF BK101.out)) : gb137 ≠ gb101)); replace BK101 := aK (kB BK101.out hb); have NB102_137 := aK ((by rw [hg]; exact Nat.ne_of_lt (blk_lt (g := gb102) (o := .cells #[.slice none 0 0, .int .i64 0, .int .i64 0, .slice none 0 0, .slice none 0 0, .int .i64 0] 32 (0, 0)) (kF BK102.out)) : gb102 ≠ gb137)); have NB137_102 := aK ((by rw [hg]; exact Nat.ne_of_gt (blk_lt (g := gb102) (o := .cells #[.slice none 0 0, .int .i64 0, .int .i64 0, .slice none 0 0, .slice none 0 0, .int .i64 0] 32 (0, 0)) (kF BK102.out)) : gb137 ≠ gb102)); replace BK102 := aK (kB BK102.out hb); clear hb hbox hg; have hnb34 := NB137_101.out; have hnc34 := NB101_137.out; have hnb35 := NB137_102.out; have hnc35 := NB102_137.out; obtain ⟨hcz36_0, hcz36_1, hcz36_2, hcz36_3, hcz36_4, hcz36_5⟩ := cells6 BK137.out; obtain ⟨hfz36_0, hfz36_1, hfz36_2, hfz36_3, hfz36_4, hfz36_5⟩ := frz6 BK137.out))
      have n0_ : Aside0 (Kd.R (Kd.int .i64) 2 ((((((w33.setCell ⟨gb137, 0, none⟩ (.slice Ao32 t129.length co32)).setCell ⟨gb137, 1, none⟩ (.int .i64 t132)).setCell ⟨gb137, 2, none⟩ (.int .i64 t133)).setCell ⟨gb137, 3, none⟩ (.slice Ao31 t134.length co31)).setCell ⟨gb137, 4, none⟩ (.slice none 0 0)).setCell ⟨gb137, 5, none⟩ (.int .i64 0)) w.heap.size (fun k_ => NO Ao31 t134 co31 k_) (.slice Ao32 t129.length co32) t129) := ⟨by (with_reducible repeat (first | apply Kd.R_alloc | apply Kd.R_drewN | apply Kd.R_drew)); exact far6 HO131.out BK137.out⟩
      have n1_ : Aside0 (Kd.R (Kd.int .i64) 2 ((((((w33.setCell ⟨gb137, 0, none⟩ (.slice Ao32 t129.length co32)).setCell ⟨gb137, 1, none⟩ (.int .i64 t132)).setCell ⟨gb137, 2, none⟩ (.int .i64 t133)).setCell ⟨gb137, 3, none⟩ (.slice Ao31 t134.length co31)).setCell ⟨gb137, 4, none⟩ (.slice none 0 0)).setCell ⟨gb137, 5, none⟩ (.int .i64 0)) w.heap.size (fun k_ => NO Ao32 t129 co32 k_) (.slice Ao31 t134.length co31) t134) := ⟨by (with_reducible repeat (first | apply Kd.R_alloc | apply Kd.R_drewN | apply Kd.R_drew)); exact far6 HO136.out BK137.out⟩
      have n2_ : Aside0 (((((((w33.setCell ⟨gb137, 0, none⟩ (.slice Ao32 t129.length co32)).setCell ⟨gb137, 1, none⟩ (.int .i64 t132)).setCell ⟨gb137, 2, none⟩ (.int .i64 t133)).setCell ⟨gb137, 3, none⟩ (.slice Ao31 t134.length co31)).setCell ⟨gb137, 4, none⟩ (.slice none 0 0)).setCell ⟨gb137, 5, none⟩ (.int .i64 0)).heap[gb101]? = some (.cells #[.slice A0_0 l0_0.length c0_0, .int .i64 a0_1, .int .i64 a0_2, .slice A0_3 l0_3.length c0_3] 27 (0, 0))) := ⟨by (with_reducible repeat (first | refine blk_drewN ?_ _ | refine blk_drew ?_ | refine blk_alloc ?_ _)); refine blk_far ?_ NB101_137.out _; (with_reducible repeat (first | refine blk_drewN ?_ _ | refine blk_drew ?_ | refine blk_alloc ?_ _)); refine blk_far ?_ NB101_137.out _; (with_reducible repeat (first | refine blk_drewN ?_ _ | refine blk_drew ?_ | refine blk_alloc ?_ _)); refine blk_far ?_ NB101_137.out _; (with_reducible repeat (first | refine blk_drewN ?_ _ | refine blk_drew ?_ | refine blk_alloc ?_ _)); refine blk_far ?_ NB101_137.out _; (with_reducible repeat (first | refine blk_drewN ?_ _ | refine blk_drew ?_ | refine blk_alloc ?_ _)); refine blk_far ?_ NB101_137.out _; (with_reducible repeat (first | refine blk_drewN ?_ _ | refine blk_drew ?_ | refine blk_alloc ?_ _)); refine blk_far ?_ NB101_137.out _; (with_reducible repeat (first | refine blk_drewN ?_ _ | refine blk_drew ?_ | refine blk_alloc ?_ _)); exact BK101.out⟩
      have n3_ : Aside0 (((((((w33.setCell ⟨gb137, 0, none⟩ (.slice Ao32 t129.length co32)).setCell ⟨gb137, 1, none⟩ (.int .i64 t132)).setCell ⟨gb137, 2, none⟩ (.int .i64 t133)).setCell ⟨gb137, 3, none⟩ (.slice Ao31 t134.length co31)).setCell ⟨gb137, 4, none⟩ (.slice none 0 0)).setCell ⟨gb137, 5, none⟩ (.int .i64 0)).heap[gb102]? = some (.cells #[.slice none 0 0, .int .i64 0, .int .i64 0, .slice none 0 0, .slice none 0 0, .int .i64 0] 32 (0, 0))) := ⟨by (with_reducible repeat (first | refine blk_drewN ?_ _ | refine blk_drew ?_ | refine blk_alloc ?_ _)); refine blk_far ?_ NB102_137.out _; (with_reducible repeat (first | refine blk_drewN ?_ _ | refine blk_drew ?_ | refine blk_alloc ?_ _)); refine blk_far ?_ NB102_137.out _; (with_reducible repeat (first | refine blk_drewN ?_ _ | refine blk_drew ?_ | refine blk_alloc ?_ _)); refine blk_far ?_ NB102_137.out _; (with_reducible repeat (first | refine blk_drewN ?_ _ | refine blk_drew ?_ | refine blk_alloc ?_ _)); refine blk_far ?_ NB102_137.out _; (with_reducible repeat (first | refine blk_drewN ?_ _ | refine blk_drew ?_ | refine blk_alloc ?_ _)); refine blk_far ?_ NB102_137.out _; (with_reducible repeat (first | refine blk_drewN ?_ _ | refine blk_drew ?_ | refine blk_alloc ?_ _)); refine blk_far ?_ NB102_137.out _; (with_reducible repeat (first | refine blk_drewN ?_ _ | refine blk_drew ?_ | refine blk_alloc ?_ _)); exact BK102.out⟩
      have n4_ : Aside0 (((((((w33.setCell ⟨gb137, 0, none⟩ (.slice Ao32 t129.length co32)).setCell ⟨gb137, 1, none⟩ (.int .i64 t132)).setCell ⟨gb137, 2, none⟩ (.int .i64 t133)).setCell ⟨gb137, 3, none⟩ (.slice Ao31 t134.length co31)).setCell ⟨gb137, 4, none⟩ (.slice none 0 0)).setCell ⟨gb137, 5, none⟩ (.int .i64 0)).heap[gb137]? = some (.cells #[.slice Ao32 t129.length co32, .int .i64 t132, .int .i64 t133, .slice Ao31 t134.length co31, .slice none 0 0, .int .i64 0] 32 (0, 0))) := ⟨by (with_reducible repeat (first | refine blk_drewN ?_ _ | refine blk_drew ?_ | refine blk_alloc ?_ _)); refine blk_put (cs := #[.slice Ao32 t129.length co32, .int .i64 t132, .int .i64 t133, .slice Ao31 t134.length co31, .slice none 0 0, .int .i64 0]) ?_ 5 _ rfl; (with_reducible repeat (first | refine blk_drewN ?_ _ | refine blk_drew ?_ | refine blk_alloc ?_ _)); refine blk_put (cs := #[.slice Ao32 t129.length co32, .int .i64 t132, .int .i64 t133, .slice Ao31 t134.length co31, .slice none 0 0, .int .i64 0]) ?_ 4 _ rfl; (with_reducible repeat (first | refine blk_drewN ?_ _ | refine blk_drew ?_ | refine blk_alloc ?_ _)); refine blk_put (cs := #[.slice Ao32 t129.length co32, .int .i64 t132, .int .i64 t133, .slice none 0 0, .slice none 0 0, .int .i64 0]) ?_ 3 _ rfl; (with_reducible repeat (first | refine blk_drewN ?_ _ | refine blk_drew ?_ | refine blk_alloc ?_ _)); refine blk_put (cs := #[.slice Ao32 t129.length co32, .int .i64 t132, .int .i64 0, .slice none 0 0, .slice none 0 0, .int .i64 0]) ?_ 2 _ rfl; (with_reducible repeat (first | refine blk_drewN ?_ _ | refine blk_drew ?_ | refine blk_alloc ?_ _)); refine blk_put (cs := #[.slice Ao32 t129.length co32, .int .i64 0, .int .i64 0, .slice none 0 0, .slice none 0 0, .int .i64 0]) ?_ 1 _ rfl; (with_reducible repeat (first | refine blk_drewN ?_ _ | refine blk_drew ?_ | refine blk_alloc ?_ _)); refine blk_put (cs := #[.slice none 0 0, .int .i64 0, .int .i64 0, .slice none 0 0, .slice none 0 0, .int .i64 0]) ?_ 0 _ rfl; (with_reducible repeat (first | refine blk_drewN ?_ _ | refine blk_drew ?_ | refine blk_alloc ?_ _)); exact BK137.out⟩
      have n5_ : Aside0 (Below w.heap.size w ((((((w33.setCell ⟨gb137, 0, none⟩ (.slice Ao32 t129.length co32)).setCell ⟨gb137, 1, none⟩ (.int .i64 t132)).setCell ⟨gb137, 2, none⟩ (.int .i64 t133)).setCell ⟨gb137, 3, none⟩ (.slice Ao31 t134.length co31)).setCell ⟨gb137, 4, none⟩ (.slice none 0 0)).setCell ⟨gb137, 5, none⟩ (.int .i64 0))) := ⟨by repeat (first | (with_reducible first | exact HB.out | apply below_alloc | apply pw_below_drewN | apply below_drew1 | refine below_set ?_ GE101.out | refine below_set ?_ GE102.out | refine below_set ?_ GE137.out) | exact HB.out)⟩
      (try clear HO131)
      (try clear HO136)
      (try clear BK101)
      (try clear BK102)
      (try clear BK137)
      (try clear HB)
      generalize ((((((w33.setCell ⟨gb137, 0, none⟩ (.slice Ao32 t129.length co32)).setCell ⟨gb137, 1, none⟩ (.int .i64 t132)).setCell ⟨gb137, 2, none⟩ (.int .i64 t133)).setCell ⟨gb137, 3, none⟩ (.slice Ao31 t134.length co31)).setCell ⟨gb137, 4, none⟩ (.slice none 0 0)).setCell ⟨gb137, 5, none⟩ (.int .i64 0)) = w37 at n0_ n1_ n2_ n3_ n4_ n5_ ⊢
      have HO131 := n0_
      have HO136 := n1_
      have BK101 := n2_
      have BK102 := n3_
      have BK137 := n4_
      have HB := n5_
      clear n0_ n1_ n2_ n3_ n4_ n5_
      have n0_ := aK (Kd.R_drew HO131.out)
      have n1_ := aK (Kd.R_drew HO136.out)
      have n2_ := aK (blk_drew BK101.out)
      have n3_ := aK (blk_drew BK102.out)
      have n4_ := aK (blk_drew BK137.out)
      have n5_ := aK (below_drew1 HB.out)
      clear HO131
      clear HO136
      clear BK101
      clear BK102
      clear BK137
      clear HB
      have HO131 := n0_
      have HO136 := n1_
      have BK101 := n2_
      have BK102 := n3_
      have BK137 := n4_
      have HB := n5_
      clear n0_ n1_ n2_ n3_ n4_ n5_
      refine start_ (n := 10) (S := fun w' => w'.cell? ⟨gb101, 0, none⟩ = some (.slice A0_0 l0_0.length c0_0) ∧ w'.cell? ⟨gb101, 1, none⟩ = some (.int .i64 a0_1) ∧ w'.cell? ⟨gb101, 2, none⟩ = some (.int .i64 a0_2) ∧ w'.cell? ⟨gb101, 3, none⟩ = some (.slice A0_3 l0_3.length c0_3)) (ds := []) #[false, false, false, false, false, false, false, false, false, false] (by kernel_rfl) rfl rfl ⟨(blk_cell BK101.out 0).trans rfl, (blk_cell BK101.out 1).trans rfl, (blk_cell BK101.out 2).trans rfl, (blk_cell BK101.out 3).trans rfl⟩ (fun hHeld => ?_); refine with_tabW spec_FleetAsk.tab6 spec_FleetAsk.bits6 (fun HT_ HW_ => ?_)
      generalize w37.drew = w38 at HO131 HO136 BK101 BK102 BK137 HB hHeld ⊢
      refine pure_ (i := 2) (N := some 18) (v := ?_) (a' := ?_) #[false, false, true, false, false, false, false, false, false, false] rfl rfl (any_of HT_.out (by kernel_rfl)) (fun _ _ _ h => h) (Or.inl ⟨by rfl, ?_⟩) ?_ ?_
      rotate_left
      · intro w'
        go_simp
        with_reducible rfl
      rotate_left
      · simp only [Act.put, List.setIfInBounds_toArray, List.set_cons_zero, List.set_cons_succ, i64_w, i32_w]
        rfl
      refine take_ (i := 0) (N := some 16) (v := ?_) (a' := ?_) #[true, false, true, false, false, false, false, false, false, false] rfl rfl (take_ofW HT_.out HW_.out (by kernel_rfl)) (fun _ _ _ h => h) (Or.inl ⟨by rfl, ?_⟩) hHeld ?_ ?_
      rotate_left
      · rintro w' ⟨s0, s1, s2, s3⟩
        go_simp
        with_reducible rfl
      rotate_left
      · simp only [Act.put, List.setIfInBounds_toArray, List.set_cons_zero, List.set_cons_succ, i64_w, i32_w]
        rfl
      refine take_ (i := 3) (N := some 19) (v := ?_) (a' := ?_) #[true, false, true, true, false, false, false, false, false, false] rfl rfl (take_ofW HT_.out HW_.out (by kernel_rfl)) (fun _ _ _ h => h) (Or.inl ⟨by rfl, ?_⟩) hHeld ?_ ?_
      rotate_left
      · rintro w' ⟨s0, s1, s2, s3⟩
        go_simp
        with_reducible rfl
      rotate_left
      · simp only [Act.put, List.setIfInBounds_toArray, List.set_cons_zero, List.set_cons_succ, i64_w, i32_w]
        rfl
      refine pure_ (i := 4) (N := some 20) (v := ?_) (a' := ?_) #[true, false, true, true, true, false, false, false, false, false] rfl rfl (any_of HT_.out (by kernel_rfl)) (fun _ _ _ h => h) (Or.inl ⟨by rfl, ?_⟩) ?_ ?_
      rotate_left
      · intro w'
        go_simp
        with_reducible rfl
      rotate_left
      · simp only [Act.put, List.setIfInBounds_toArray, List.set_cons_zero, List.set_cons_succ, i64_w, i32_w]
        rfl
      refine take_ (i := 6) (N := some 22) (v := ?_) (a' := ?_) #[true, false, true, true, true, false, true, false, false, false] rfl rfl (take_ofW HT_.out HW_.out (by kernel_rfl)) (fun _ _ _ h => h) (Or.inl ⟨by rfl, ?_⟩) hHeld ?_ ?_
      rotate_left
      · rintro w' ⟨s0, s1, s2, s3⟩
        go_simp
        with_reducible rfl
      rotate_left
      · simp only [Act.put, List.setIfInBounds_toArray, List.set_cons_zero, List.set_cons_succ, i64_w, i32_w]
        rfl
      refine one_ (i := 1) (N := some 17) #[true, true, true, true, true, false, true, false, false, false] rfl rfl (one_of HT_.out (by kernel_rfl)) (by decide) (fun K hK => ?_)
      refine goes_ Try.func71 (by kernel_rfl) rfl #[.agg #[.slice A0_0 l0_0.length c0_0, .int .i64 a0_1, .int .i64 a0_2, .slice A0_3 l0_3.length c0_3]] (by rfl) rfl rfl lF ?_
      with_reducible refine (spec_l21Share.calls _ _ l0_0 a0_1 a0_2 _ _ l0_3 t138 _ ?side1 ?side2 ?side3 ?side4 A20.out).mono ?_
      (case side1 => exact cF (Kd.C_below HR0_0.out HB.out))
      (case side2 => exact HC0_0.out)
      (case side3 => exact cF (Kd.C_below HR0_3.out HB.out))
      (case side4 => exact HC0_3.out)
      rintro e w39 ⟨rfl, hb⟩
      refine ⟨_, rfl, ?_⟩
      have n0_ := aK (rB HO131.out hb)
      have n1_ := aK (rB HO136.out hb)
      have n2_ := aK (kB BK101.out hb)
      have n3_ := aK (kB BK102.out hb)
      have n4_ := aK (kB BK137.out hb)
      have n5_ := aK (below_step (bF3 HB.out GE101.out GE102.out GE137.out) hb)
      clear HO131
      clear HO136
      clear BK101
      clear BK102
      clear BK137
      clear HB
      have HO131 := n0_
      have HO136 := n1_
      have BK101 := n2_
      have BK102 := n3_
      have BK137 := n4_
      have HB := n5_
      clear n0_ n1_ n2_ n3_ n4_ n5_
      (try clear hb)
      (try clear hb2)
      (try clear hk)
      (try clear hi)
      refine hK.out _ _ ⟨(blk_cell BK101.out 0).trans rfl, (blk_cell BK101.out 1).trans rfl, (blk_cell BK101.out 2).trans rfl, (blk_cell BK101.out 3).trans rfl⟩ (fun hHeld => ?_)
      clear hK K
      refine norm_ (a' := ?_) ?_ ?_
      rotate_left
      · show Act.put _ (some 17) _ = _
        simp only [Act.put, List.setIfInBounds_toArray, List.set_cons_zero, List.set_cons_succ, i64_w, i32_w]
        rfl
      refine pure_ (i := 5) (N := some 21) (v := ?_) (a' := ?_) #[true, true, true, true, true, true, true, false, false, false] rfl rfl (any_of HT_.out (by kernel_rfl)) (fun _ _ _ h => h) (Or.inl ⟨by rfl, ?_⟩) ?_ ?_
      rotate_left
      · intro w'
        go_simp
        with_reducible rfl
      rotate_left
      · simp only [Act.put, List.setIfInBounds_toArray, List.set_cons_zero, List.set_cons_succ, i64_w, i32_w]
        rfl
      refine one_ (i := 7) (N := some 23) #[true, true, true, true, true, true, true, true, false, false] rfl rfl (one_of HT_.out (by kernel_rfl)) (by decide) (fun K hK => ?_)
      refine goes_ Try.func100 (by kernel_rfl) rfl #[.agg #[.slice A0_0 l0_0.length c0_0, .int .i64 a0_1, .int .i64 a0_2, .slice A0_3 l0_3.length c0_3], .int .i64 0] (by rfl) rfl rfl lF ?_
      with_reducible refine (spec_l21Many.calls k _ _ l0_0 a0_1 a0_2 _ _ l0_3 0 t139 _ ?side1 ?side2 ?side3 ?side4 A21.out).mono ?_
      (case side1 => exact cF (Kd.C_below HR0_0.out HB.out))
      (case side2 => exact HC0_0.out)
      (case side3 => exact cF (Kd.C_below HR0_3.out HB.out))
      (case side4 => exact HC0_3.out)
      rintro e w40 ⟨rfl, hb⟩
      refine ⟨_, rfl, ?_⟩
      have n0_ := aK (rB HO131.out hb)
      have n1_ := aK (rB HO136.out hb)
      have n2_ := aK (kB BK101.out hb)
      have n3_ := aK (kB BK102.out hb)
      have n4_ := aK (kB BK137.out hb)
      have n5_ := aK (below_step (bF3 HB.out GE101.out GE102.out GE137.out) hb)
      clear HO131
      clear HO136
      clear BK101
      clear BK102
      clear BK137
      clear HB
      have HO131 := n0_
      have HO136 := n1_
      have BK101 := n2_
      have BK102 := n3_
      have BK137 := n4_
      have HB := n5_
      clear n0_ n1_ n2_ n3_ n4_ n5_
      (try clear hb)
      (try clear hb2)
      (try clear hk)
      (try clear hi)
      refine hK.out _ _ ⟨(blk_cell BK101.out 0).trans rfl, (blk_cell BK101.out 1).trans rfl, (blk_cell BK101.out 2).trans rfl, (blk_cell BK101.out 3).trans rfl⟩ (fun hHeld => ?_)
      clear hK K
      refine norm_ (a' := ?_) ?_ ?_
      rotate_left
      · show Act.put _ (some 23) _ = _
        simp only [Act.put, List.setIfInBounds_toArray, List.set_cons_zero, List.set_cons_succ, i64_w, i32_w]
        rfl
      refine pure_ (i := 8) (N := some 24) (v := ?_) (a' := ?_) #[true, true, true, true, true, true, true, true, true, false] rfl rfl (any_of HT_.out (by kernel_rfl)) (fun _ _ _ h => h) (Or.inl ⟨by rfl, ?_⟩) ?_ ?_
      rotate_left
      · intro w'
        go_simp
        with_reducible rfl
      rotate_left
      · simp only [Act.put, List.setIfInBounds_toArray, List.set_cons_zero, List.set_cons_succ, i64_w, i32_w]
        rfl
      refine pure_ (i := 9) (N := some 4) (v := ?_) (a' := ?_) #[true, true, true, true, true, true, true, true, true, true] rfl rfl (any_of HT_.out (by kernel_rfl)) (fun _ _ _ h => h) (Or.inl ⟨by rfl, ?_⟩) ?_ ?_
      rotate_left
      · intro w'
        go_simp
        with_reducible rfl
      rotate_left
      · simp only [Act.put, List.setIfInBounds_toArray, List.set_cons_zero, List.set_cons_succ, i64_w, i32_w]
        rfl
      refine done_ (done_of HT_.out (by kernel_rfl)) ?_
      try go_wp2
      go_loopg [4, 5] k (fun kq v4 v5 w' => ∃ (x4_1 : Int) (x5_1 : Int) (x138000_1 : List Int) (x138003_1 : List Int) (x138004_1 : List Int) (u138000 : Value) (u138003 : Value) (u138004 : Value), v4 = .int .i64 x4_1 ∧ v5 = .int .i64 x5_1 ∧ Aside0 (spec_FleetAsk.l0 kq x4_1 x5_1 l0_0 a0_1 a0_2 l0_3 x138000_1 t132 t133 x138003_1 x138004_1 0 = some (r1, r2, r3, r4, r5, r6)) ∧ Aside0 (kq ≤ k) ∧ Aside0 (Kd.R (Kd.int .i64) 2 w' w.heap.size (fun k_ => some k_ ≠ (u138003 : Value).ownBlock ∧ some k_ ≠ (u138004 : Value).ownBlock) u138000 x138000_1) ∧ Aside0 (Kd.R (Kd.int .i64) 2 w' w.heap.size (fun k_ => some k_ ≠ (u138000 : Value).ownBlock ∧ some k_ ≠ (u138004 : Value).ownBlock) u138003 x138003_1) ∧ Aside0 (Kd.R (Kd.int .i64) 2 w' w.heap.size (fun k_ => some k_ ≠ (u138000 : Value).ownBlock ∧ some k_ ≠ (u138003 : Value).ownBlock) u138004 x138004_1) ∧ Aside0 (w'.heap[gb101]? = some (.cells #[(.slice A0_0 l0_0.length c0_0), .int .i64 a0_1, .int .i64 a0_2, (.slice A0_3 l0_3.length c0_3)] 27 (0, 0))) ∧ Aside0 (w'.heap[gb102]? = some (.cells #[(.slice none 0 0), .int .i64 0, .int .i64 0, (.slice none 0 0), (.slice none 0 0), .int .i64 0] 32 (0, 0))) ∧ Aside0 (w'.heap[gb137]? = some (.cells #[u138000, .int .i64 t132, .int .i64 t133, u138003, u138004, .int .i64 0] 32 (0, 0))) ∧ Aside0 (Below w.heap.size w w'))
      case atStart => exact ⟨(wrap64 ((wrap64 (t138 - (l0_3.length : Int))) + t139)), (0), (t129), (t134), (([] : List Int)), (.slice Ao32 t129.length co32), (.slice Ao31 t134.length co31), (.slice none 0 0), (by first | rfl | (simp; done) | (simp [*]; done) | (simp only [Value.bool.injEq]; rw [Bool.eq_iff_iff]; simp; done)), (by first | rfl | (simp; done) | (simp [*]; done) | (simp only [Value.bool.injEq]; rw [Bool.eq_iff_iff]; simp; done)), H', ⟨Nat.le_refl _⟩, ⟨by (with_reducible repeat (first | apply Kd.R_alloc | apply Kd.R_drewN | apply Kd.R_drew)); exact QM HO131.out (fun _ hk => ⟨hk, (by simp [Value.ownBlock])⟩)⟩, ⟨by (with_reducible repeat (first | apply Kd.R_alloc | apply Kd.R_drewN | apply Kd.R_drew)); exact QM HO136.out (fun _ hk => ⟨hk, (by simp [Value.ownBlock])⟩)⟩, ⟨by first | exact Kd.R_nil _ _ _ _ _ | exact Kd.N_nil _ _ _ _ _ | exact Kd.V_nil _ _ _ _ _ | exact Kd.Q_nil _ _ _ _ _ | exact Kd.S_nil _ _ _ _ _⟩, ⟨by (with_reducible repeat (first | refine blk_drewN ?_ _ | refine blk_drew ?_ | refine blk_alloc ?_ _)); exact BK101.out⟩, ⟨by (with_reducible repeat (first | refine blk_drewN ?_ _ | refine blk_drew ?_ | refine blk_alloc ?_ _)); exact BK102.out⟩, ⟨by (with_reducible repeat (first | refine blk_drewN ?_ _ | refine blk_drew ?_ | refine blk_alloc ?_ _)); exact BK137.out⟩, ⟨by repeat (first | (with_reducible first | exact HB.out | apply below_alloc | apply pw_below_drewN | apply below_drew1 | refine below_set ?_ GE101.out | refine below_set ?_ GE102.out | refine below_set ?_ GE137.out) | exact HB.out)⟩⟩
      case round =>
        clear H'
        try clear c1
        try clear c2
        try clear p2
        try clear c3
        try clear c4
        try clear c5
        try clear p6
        try clear c7
        try clear c9
        try clear c10
        try clear c24
        try clear c34
        try clear c35
        try clear hcz10_0
        try clear hcz10_1
        try clear hcz10_2
        try clear hcz10_3
        try clear hcz12_0
        try clear hcz12_1
        try clear hcz12_2
        try clear hcz12_3
        try clear hcz16_0
        try clear hcz16_1
        try clear hcz16_2
        try clear hcz16_3
        try clear hcz16_4
        try clear hcz16_5
        try clear hcz25_0
        try clear hcz25_1
        try clear hcz25_2
        try clear hcz25_3
        try clear hcz27_0
        try clear hcz27_1
        try clear hcz27_2
        try clear hcz27_3
        try clear hcz29_0
        try clear hcz29_1
        try clear hcz29_2
        try clear hcz29_3
        try clear hcz36_0
        try clear hcz36_1
        try clear hcz36_2
        try clear hcz36_3
        try clear hcz36_4
        try clear hcz36_5
        try clear hfz10_0
        try clear hfz10_1
        try clear hfz10_2
        try clear hfz10_3
        try clear hfz12_0
        try clear hfz12_1
        try clear hfz12_2
        try clear hfz12_3
        try clear hfz16_0
        try clear hfz16_1
        try clear hfz16_2
        try clear hfz16_3
        try clear hfz16_4
        try clear hfz16_5
        try clear hfz25_0
        try clear hfz25_1
        try clear hfz25_2
        try clear hfz25_3
        try clear hfz27_0
        try clear hfz27_1
        try clear hfz27_2
        try clear hfz27_3
        try clear hfz29_0
        try clear hfz29_1
        try clear hfz29_2
        try clear hfz29_3
        try clear hfz36_0
        try clear hfz36_1
        try clear hfz36_2
        try clear hfz36_3
        try clear hfz36_4
        try clear hfz36_5
        obtain ⟨x4_1, x5_1, x138000_1, x138003_1, x138004_1, u138000, u138003, u138004, rfl, rfl, HA, HK1, HO_138000, HO_138003, HO_138004, BK101, BK102, BK137, HB⟩ := hrel
        cases gk with
        | zero => exact absurd HA.out (by simp [spec_FleetAsk.l0])
        | succ k1 =>
          have H := HA.out
          clear HA
          simp only [spec_FleetAsk.l0] at H
          have HC41 := Aside0.mk H
          clear H
          go_upto_region 8 with (fail)
          go_cut [33] (fun v33 wc => ∃ (kq : Nat) (x33_40 : Bool), v33 = .bool x33_40 ∧ Aside0 (spec_FleetAsk.j1 kq x4_1 x5_1 x33_40 l0_0 a0_1 a0_2 l0_3 x138000_1 t132 t133 x138003_1 x138004_1 0 = some (r1, r2, r3, r4, r5, r6)) ∧ Aside0 (kq ≤ k1) ∧ Aside0 (Kd.R (Kd.int .i64) 2 wc w.heap.size (fun k_ => some k_ ≠ (u138003 : Value).ownBlock ∧ some k_ ≠ (u138004 : Value).ownBlock) u138000 x138000_1) ∧ Aside0 (Kd.R (Kd.int .i64) 2 wc w.heap.size (fun k_ => some k_ ≠ (u138000 : Value).ownBlock ∧ some k_ ≠ (u138004 : Value).ownBlock) u138003 x138003_1) ∧ Aside0 (Kd.R (Kd.int .i64) 2 wc w.heap.size (fun k_ => some k_ ≠ (u138000 : Value).ownBlock ∧ some k_ ≠ (u138003 : Value).ownBlock) u138004 x138004_1) ∧ Aside0 (wc.heap[gb101]? = some (.cells #[(.slice A0_0 l0_0.length c0_0), .int .i64 a0_1, .int .i64 a0_2, (.slice A0_3 l0_3.length c0_3)] 27 (0, 0))) ∧ Aside0 (wc.heap[gb102]? = some (.cells #[(.slice none 0 0), .int .i64 0, .int .i64 0, (.slice none 0 0), (.slice none 0 0), .int .i64 0] 32 (0, 0))) ∧ Aside0 (wc.heap[gb137]? = some (.cells #[u138000, .int .i64 t132, .int .i64 t133, u138003, u138004, .int .i64 0] 32 (0, 0))) ∧ Aside0 (Below w.heap.size w wc))
          case first =>
            have H := HC41.out
            clear HC41
            by_cases c42 : x5_1 < (l0_3.length : Int)
            · rw [if_pos c42] at H
              have c42b0 : decide (x5_1 < (l0_3.length : Int)) = true := decide_eq_true c42
              clear c42
              (first | rw [c42b0] | (simp only [i64_w, i32_w]; rw [c42b0]) | skip)
              have H' := Aside0.mk H
              clear H
              have hnb43 := NB101_102.out
              have hnc43 := NB102_101.out
              have hnb44 := NB101_137.out
              have hnc44 := NB137_101.out
              have hcz45_0 : wr.cell? ⟨gb101, 0, none⟩ = some (.slice A0_0 l0_0.length c0_0) := (blk_cell BK101.out 0).trans rfl
              have hcz45_1 : wr.cell? ⟨gb101, 1, none⟩ = some (.int .i64 a0_1) := (blk_cell BK101.out 1).trans rfl
              have hcz45_2 : wr.cell? ⟨gb101, 2, none⟩ = some (.int .i64 a0_2) := (blk_cell BK101.out 2).trans rfl
              have hcz45_3 : wr.cell? ⟨gb101, 3, none⟩ = some (.slice A0_3 l0_3.length c0_3) := (blk_cell BK101.out 3).trans rfl
              have hfz45_0 := blk_frozen BK101.out 0
              have hfz45_1 := blk_frozen BK101.out 1
              have hfz45_2 := blk_frozen BK101.out 2
              have hfz45_3 := blk_frozen BK101.out 3
              go_wp2
              go_meet
              case rel => exact ⟨_, (decide (x4_1 > 0)), (by first | rfl | (simp; done) | (simp [*]; done) | (simp only [Value.bool.injEq]; rw [Bool.eq_iff_iff]; simp; done)), H', ⟨by have := HK1.out; first | omega | exact Nat.le_refl _⟩, ⟨by (with_reducible repeat (first | apply Kd.R_alloc | apply Kd.R_drewN | apply Kd.R_drew)); exact HO_138000.out⟩, ⟨by (with_reducible repeat (first | apply Kd.R_alloc | apply Kd.R_drewN | apply Kd.R_drew)); exact HO_138003.out⟩, ⟨by (with_reducible repeat (first | apply Kd.R_alloc | apply Kd.R_drewN | apply Kd.R_drew)); exact HO_138004.out⟩, ⟨by (with_reducible repeat (first | refine blk_drewN ?_ _ | refine blk_drew ?_ | refine blk_alloc ?_ _)); exact BK101.out⟩, ⟨by (with_reducible repeat (first | refine blk_drewN ?_ _ | refine blk_drew ?_ | refine blk_alloc ?_ _)); exact BK102.out⟩, ⟨by (with_reducible repeat (first | refine blk_drewN ?_ _ | refine blk_drew ?_ | refine blk_alloc ?_ _)); exact BK137.out⟩, ⟨by repeat (first | (with_reducible first | exact HB.out | apply below_alloc | apply pw_below_drewN | apply below_drew1 | refine below_set ?_ GE101.out | refine below_set ?_ GE102.out | refine below_set ?_ GE137.out) | exact HB.out)⟩⟩
            · rw [if_neg c42] at H
              have c42b0 : decide (x5_1 < (l0_3.length : Int)) = false := decide_eq_false c42
              clear c42
              (first | rw [c42b0] | (simp only [i64_w, i32_w]; rw [c42b0]) | skip)
              have H' := Aside0.mk H
              clear H
              have hnb46 := NB101_102.out
              have hnc46 := NB102_101.out
              have hnb47 := NB101_137.out
              have hnc47 := NB137_101.out
              have hcz48_0 : wr.cell? ⟨gb101, 0, none⟩ = some (.slice A0_0 l0_0.length c0_0) := (blk_cell BK101.out 0).trans rfl
              have hcz48_1 : wr.cell? ⟨gb101, 1, none⟩ = some (.int .i64 a0_1) := (blk_cell BK101.out 1).trans rfl
              have hcz48_2 : wr.cell? ⟨gb101, 2, none⟩ = some (.int .i64 a0_2) := (blk_cell BK101.out 2).trans rfl
              have hcz48_3 : wr.cell? ⟨gb101, 3, none⟩ = some (.slice A0_3 l0_3.length c0_3) := (blk_cell BK101.out 3).trans rfl
              have hfz48_0 := blk_frozen BK101.out 0
              have hfz48_1 := blk_frozen BK101.out 1
              have hfz48_2 := blk_frozen BK101.out 2
              have hfz48_3 := blk_frozen BK101.out 3
              go_wp2
              go_meet
              case rel => exact ⟨_, (false), (by first | rfl | (simp; done) | (simp [*]; done) | (simp only [Value.bool.injEq]; rw [Bool.eq_iff_iff]; simp; done)), H', ⟨by have := HK1.out; first | omega | exact Nat.le_refl _⟩, ⟨by (with_reducible repeat (first | apply Kd.R_alloc | apply Kd.R_drewN | apply Kd.R_drew)); exact HO_138000.out⟩, ⟨by (with_reducible repeat (first | apply Kd.R_alloc | apply Kd.R_drewN | apply Kd.R_drew)); exact HO_138003.out⟩, ⟨by (with_reducible repeat (first | apply Kd.R_alloc | apply Kd.R_drewN | apply Kd.R_drew)); exact HO_138004.out⟩, ⟨by (with_reducible repeat (first | refine blk_drewN ?_ _ | refine blk_drew ?_ | refine blk_alloc ?_ _)); exact BK101.out⟩, ⟨by (with_reducible repeat (first | refine blk_drewN ?_ _ | refine blk_drew ?_ | refine blk_alloc ?_ _)); exact BK102.out⟩, ⟨by (with_reducible repeat (first | refine blk_drewN ?_ _ | refine blk_drew ?_ | refine blk_alloc ?_ _)); exact BK137.out⟩, ⟨by repeat (first | (with_reducible first | exact HB.out | apply below_alloc | apply pw_below_drewN | apply below_drew1 | refine below_set ?_ GE101.out | refine below_set ?_ GE102.out | refine below_set ?_ GE137.out) | exact HB.out)⟩⟩
          case rest =>
            clear HC41
            try clear c1
            try clear c2
            try clear p2
            try clear c3
            try clear c4
            try clear c5
            try clear p6
            try clear c7
            try clear c9
            try clear c10
            try clear c24
            try clear c34
            try clear c35
            try clear c42
            try clear c42b0
            try clear c43
            try clear c44
            try clear c46
            try clear c47
            try clear hcz10_0
            try clear hcz10_1
            try clear hcz10_2
            try clear hcz10_3
            try clear hcz12_0
            try clear hcz12_1
            try clear hcz12_2
            try clear hcz12_3
            try clear hcz16_0
            try clear hcz16_1
            try clear hcz16_2
            try clear hcz16_3
            try clear hcz16_4
            try clear hcz16_5
            try clear hcz25_0
            try clear hcz25_1
            try clear hcz25_2
            try clear hcz25_3
            try clear hcz27_0
            try clear hcz27_1
            try clear hcz27_2
            try clear hcz27_3
            try clear hcz29_0
            try clear hcz29_1
            try clear hcz29_2
            try clear hcz29_3
            try clear hcz36_0
            try clear hcz36_1
            try clear hcz36_2
            try clear hcz36_3
            try clear hcz36_4
            try clear hcz36_5
            try clear hcz45_0
            try clear hcz45_1
            try clear hcz45_2
            try clear hcz45_3
            try clear hcz48_0
            try clear hcz48_1
            try clear hcz48_2
            try clear hcz48_3
            try clear hfz10_0
            try clear hfz10_1
            try clear hfz10_2
            try clear hfz10_3
            try clear hfz12_0
            try clear hfz12_1
            try clear hfz12_2
            try clear hfz12_3
            try clear hfz16_0
            try clear hfz16_1
            try clear hfz16_2
            try clear hfz16_3
            try clear hfz16_4
            try clear hfz16_5
            try clear hfz25_0
            try clear hfz25_1
            try clear hfz25_2
            try clear hfz25_3
            try clear hfz27_0
            try clear hfz27_1
            try clear hfz27_2
            try clear hfz27_3
            try clear hfz29_0
            try clear hfz29_1
            try clear hfz29_2
            try clear hfz29_3
            try clear hfz36_0
            try clear hfz36_1
            try clear hfz36_2
            try clear hfz36_3
            try clear hfz36_4
            try clear hfz36_5
            try clear hfz45_0
            try clear hfz45_1
            try clear hfz45_2
            try clear hfz45_3
            try clear hfz48_0
            try clear hfz48_1
            try clear hfz48_2
            try clear hfz48_3
            try clear p2
            try clear p6
            obtain ⟨kq, x33_40, rfl, HA, HJ40, HO_138000, HO_138003, HO_138004, BK101, BK102, BK137, HB⟩ := hcut
            cases kq with
            | zero => exact absurd HA.out (by simp [spec_FleetAsk.j1])
            | succ kj40 =>
              have H := HA.out
              clear HA
              simp only [spec_FleetAsk.j1] at H
              by_cases c49 : x33_40 = true
              · subst c49
                have H1 : (if 0 ≤ x5_1 then (if x5_1 < (l0_3.length : Int) then (if (rd l0_3 x5_1) = 0 then (if x5_1 < (x138003_1.length : Int) then (if x138004_1.length < 17592186044416 then (spec_FleetAsk.l0 kj40 (wrap64 (x4_1 - 1)) (wrap64 (x5_1 + 1)) l0_0 a0_1 a0_2 l0_3 x138000_1 t132 t133 (x138003_1.set (x5_1 : Int).toNat 1) (x138004_1 ++ [x5_1]) 0) else (none)) else (none)) else (spec_FleetAsk.l0 kj40 x4_1 (wrap64 (x5_1 + 1)) l0_0 a0_1 a0_2 l0_3 x138000_1 t132 t133 x138003_1 x138004_1 0)) else (none)) else (none)) = some (r1, r2, r3, r4, r5, r6) := by rw [if_pos rfl] at H; exact H
                clear H
                have H := H1
                clear H1
                by_cases c50 : 0 ≤ x5_1
                · rw [if_pos c50] at H
                  have c50b0 : decide (0 ≤ x5_1) = true := decide_eq_true c50
                  clear c50
                  by_cases c51 : x5_1 < (l0_3.length : Int)
                  · rw [if_pos c51] at H
                    have c51b0 : decide (x5_1 < (l0_3.length : Int)) = true := decide_eq_true c51
                    clear c51
                    by_cases c52 : (rd l0_3 x5_1) = 0
                    · rw [if_pos c52] at H
                      have c52b0 : ((rd l0_3 x5_1) == 0) = true := beq_iff_eq.mpr c52
                      have c52b1 : ((rd l0_3 x5_1) != 0) = false := bne_eq_false_iff_eq.mpr c52
                      clear c52
                      by_cases c53 : x5_1 < (x138003_1.length : Int)
                      · rw [if_pos c53] at H
                        have c53b0 : decide (x5_1 < (x138003_1.length : Int)) = true := decide_eq_true c53
                        clear c53
                        obtain ⟨y141, hy141⟩ : ∃ y_ : List Int, y_ = (x138003_1.set (x5_1 : Int).toNat 1) := ⟨_, rfl⟩
                        replace H : (if x138004_1.length < 17592186044416 then (spec_FleetAsk.l0 kj40 (wrap64 (x4_1 - 1)) (wrap64 (x5_1 + 1)) l0_0 a0_1 a0_2 l0_3 x138000_1 t132 t133 y141 (x138004_1 ++ [x5_1]) 0) else (none)) = some (r1, r2, r3, r4, r5, r6) := by first | (rw [hy141]; with_reducible exact H) | (have H2_ := (Option.bind_some _ _).symm.trans H; rw [hy141]; with_reducible exact H2_) | (have H2_ := (Option.bind_some _ _).symm.trans H; with_reducible exact H2_) | with_reducible exact H | (rw [hy141]; exact H) | exact H
                        have Ny141 := Aside0.mk hy141
                        clear hy141
                        by_cases c55 : x138004_1.length < 17592186044416
                        · rw [if_pos c55] at H
                          have LMc55 := Aside0.mk c55
                          clear c55
                          obtain ⟨y142, hy142⟩ : ∃ y_ : List Int, y_ = (x138004_1 ++ [x5_1]) := ⟨_, rfl⟩
                          replace H : (spec_FleetAsk.l0 kj40 (wrap64 (x4_1 - 1)) (wrap64 (x5_1 + 1)) l0_0 a0_1 a0_2 l0_3 x138000_1 t132 t133 y141 y142 0) = some (r1, r2, r3, r4, r5, r6) := by first | (rw [hy142]; with_reducible exact H) | (have H2_ := (Option.bind_some _ _).symm.trans H; rw [hy142]; with_reducible exact H2_) | (have H2_ := (Option.bind_some _ _).symm.trans H; with_reducible exact H2_) | with_reducible exact H | (rw [hy142]; exact H) | exact H
                          have Ny142 := Aside0.mk hy142
                          clear hy142
                          have H' := Aside0.mk H
                          clear H
                          have hnb56 := NB101_102.out
                          have hnc56 := NB102_101.out
                          have hnb57 := NB101_137.out
                          have hnc57 := NB137_101.out
                          have hcz58_0 : wc.cell? ⟨gb101, 0, none⟩ = some (.slice A0_0 l0_0.length c0_0) := (blk_cell BK101.out 0).trans rfl
                          have hcz58_1 : wc.cell? ⟨gb101, 1, none⟩ = some (.int .i64 a0_1) := (blk_cell BK101.out 1).trans rfl
                          have hcz58_2 : wc.cell? ⟨gb101, 2, none⟩ = some (.int .i64 a0_2) := (blk_cell BK101.out 2).trans rfl
                          have hcz58_3 : wc.cell? ⟨gb101, 3, none⟩ = some (.slice A0_3 l0_3.length c0_3) := (blk_cell BK101.out 3).trans rfl
                          have hfz58_0 := blk_frozen BK101.out 0
                          have hfz58_1 := blk_frozen BK101.out 1
                          have hfz58_2 := blk_frozen BK101.out 2
                          have hfz58_3 := blk_frozen BK101.out 3
                          have p140 : 0 ≤ (x5_1 : Int) := of_decide_eq_true (by first | (with_reducible assumption) | assumption)
                          have q140 : x5_1 < (l0_3.length : Int) := of_decide_eq_true (by first | (with_reducible assumption) | assumption)
                          obtain ⟨ad140, e140, hx140_0⟩ := Kd.at_int HR0_3.out x5_1 p140 q140
                          cases e140
                          replace hx140_0 := (HB.out.cell (World.block_lt_of_cell? w _ hx140_0)).trans hx140_0
                          replace p140 := eq_true p140
                          replace q140 := eq_true q140
                          have hnb59 := NB137_102.out
                          have hnc59 := NB102_137.out
                          have hcz60_0 : wc.cell? ⟨gb137, 0, none⟩ = some (u138000) := (blk_cell BK137.out 0).trans rfl
                          have hcz60_1 : wc.cell? ⟨gb137, 1, none⟩ = some (.int .i64 t132) := (blk_cell BK137.out 1).trans rfl
                          have hcz60_2 : wc.cell? ⟨gb137, 2, none⟩ = some (.int .i64 t133) := (blk_cell BK137.out 2).trans rfl
                          have hcz60_3 : wc.cell? ⟨gb137, 3, none⟩ = some (u138003) := (blk_cell BK137.out 3).trans rfl
                          have hcz60_4 : wc.cell? ⟨gb137, 4, none⟩ = some (u138004) := (blk_cell BK137.out 4).trans rfl
                          have hcz60_5 : wc.cell? ⟨gb137, 5, none⟩ = some (.int .i64 0) := (blk_cell BK137.out 5).trans rfl
                          have hfz60_0 := blk_frozen BK137.out 0
                          have hfz60_1 := blk_frozen BK137.out 1
                          have hfz60_2 := blk_frozen BK137.out 2
                          have hfz60_3 := blk_frozen BK137.out 3
                          have hfz60_4 := blk_frozen BK137.out 4
                          have hfz60_5 := blk_frozen BK137.out 5
                          have p54 : 0 ≤ (x5_1 : Int) := of_decide_eq_true (by first | (with_reducible assumption) | assumption)
                          have q54 : (x5_1 : Int) < ((x138003_1.length : Int) : Int) := of_decide_eq_true (by first | (with_reducible assumption) | assumption)
                          obtain ⟨go54, co54, eo54, gb54, gl54, cl54, HG54⟩ := Kd.R_form HO_138003.out (by omega)
                          (first | cases eo54 | (injection eo54 with ea_ en_ ec_; (first | subst ea_ | (injection ea_ with ea_; subst ea_)); subst ec_; clear en_))
                          have GB54 := Aside0.mk gb54
                          have GG54 := Aside0.mk HG54
                          clear gb54 gl54 HG54
                          obtain ⟨hx54_0, hf54_0⟩ := Kd.R_celln 0 HO_138003.out (x5_1 : Int) p54 q54
                          replace p54 := eq_true p54
                          replace q54 := eq_true q54
                          have HP61 := Kd.R_putg HO_138003.out (x5_1 : Int) 1
                          go_wp2_with (first | ((with_reducible refine gate_store (t := 2) (p := 46) rfl ?_); refine store_event (t := 2) (p := 46) (v := ?vo_w62) (w1 := (wc.setCell ⟨go54, (x5_1 : Int).toNat, none⟩ (.int .i64 1))) ?hg ?ho ?hn ?hr ?_; (case ho => rfl); (case hg => rfl); (case hn => rfl); (case hr => first | (go_simp; done) | (go_simp; rfl)); intro w62 hw; have hg : wc.grownBy w62 (some go54) := (by rw [hw]; exact HP61.2); have hp_ : Kd.R (Kd.int .i64) 2 w62 w.heap.size (fun k_ => some k_ ≠ (u138000 : Value).ownBlock ∧ some k_ ≠ (u138004 : Value).ownBlock) (.slice (some ⟨go54, 0, none⟩) x138003_1.length co54) y141 := (by rw [hw, Ny141.out]; exact HP61.1); clear HP61; replace HO_138000 := aK (Kd.R_after (v := (.slice (some ⟨go54, 0, none⟩) x138003_1.length co54)) (v1 := (.slice (some ⟨go54, 0, none⟩) x138003_1.length co54)) (ok := (fun k_ => some k_ ≠ (u138004 : Value).ownBlock)) (by (with_reducible repeat (first | apply Kd.R_alloc | apply Kd.R_drewN | apply Kd.R_drew)); exact QM HO_138000.out (fun _ hk => ⟨hk.2, hk.1⟩)) hg (.inl rfl)); replace HO_138004 := aK (Kd.R_after (v := (.slice (some ⟨go54, 0, none⟩) x138003_1.length co54)) (v1 := (.slice (some ⟨go54, 0, none⟩) x138003_1.length co54)) (ok := (fun k_ => some k_ ≠ (u138000 : Value).ownBlock)) (rF HO_138004.out) hg (.inl rfl)); replace BK101 := aK (blk_grown (g := gb101) (o := .cells #[.slice A0_0 l0_0.length c0_0, .int .i64 a0_1, .int .i64 a0_2, .slice (some ad140) l0_3.length c0_3] 27 (0, 0)) (kF BK101.out) hg (QE HO_138003.out BK101.out (by decide))); replace BK102 := aK (blk_grown (g := gb102) (o := .cells #[.slice none 0 0, .int .i64 0, .int .i64 0, .slice none 0 0, .slice none 0 0, .int .i64 0] 32 (0, 0)) (kF BK102.out) hg (QE HO_138003.out BK102.out (by decide))); replace BK137 := aK (blk_grown (g := gb137) (o := .cells #[u138000, .int .i64 t132, .int .i64 t133, .slice (some ⟨go54, 0, none⟩) x138003_1.length co54, u138004, .int .i64 0] 32 (0, 0)) (kF BK137.out) hg (QE HO_138003.out BK137.out (by decide))); replace HO_138003 := aK (hp_); replace HB := aK ((by rw [hw]; exact below_set (HB.out) GB54.out : Below w.heap.size w w62)); clear hg hw hp_; obtain ⟨hcz63_0, hcz63_1, hcz63_2, hcz63_3, hcz63_4, hcz63_5⟩ := cells6 BK137.out; obtain ⟨hfz63_0, hfz63_1, hfz63_2, hfz63_3, hfz63_4⟩ := frz5 BK137.out; have hfz63_5 := blk_frozen BK137.out 5) | ((with_reducible refine gate_builtin (b := .append) (xs := #[.tmp 48, .tmp 50]) rfl ?_); at_builtin; refine Kd.R_append (Kd.int .i64) (w0 := w) w.heap.size rfl (.tmp 48) (.tmp 50) 22 2 (.int .i64 0) 8 rfl Try.underlying22 info2 rfl (by decide) (by omega) u138004 x138004_1 x5_1 [.int .i64 x5_1] (fun k_ => some k_ ≠ (u138000 : Value).ownBlock ∧ some k_ ≠ (.slice (some ⟨go54, 0, none⟩) x138003_1.length co54 : Value).ownBlock) (fun _ => False) rfl rfl ?aP (fun _ hk => hk.elim) ?aF ?aO ?aB ?aS ?aL ?_; (case aP => exact rfl); (case aB => exact (bF3 HB.out GE101.out GE102.out GE137.out)); (case aF => exact (fun k_ hk => ⟨Kd.fresh' (rL (HO_138000.out)) k_ hk, Kd.fresh' (rL (HO_138003.out)) k_ hk⟩)); (case aO => exact (rF HO_138004.out)); (case aS => exact (below_size (bF3 HB.out GE101.out GE102.out GE137.out))); (case aL => have := LMc55.out; omega); intro v143 w64 ho hb hg hat; rw [← Ny142.out] at ho; have n0_ := aK (Kd.R_after (ok := (fun k_ => some k_ ≠ (.slice (some ⟨go54, 0, none⟩) x138003_1.length co54 : Value).ownBlock)) (by (with_reducible repeat (first | apply Kd.R_alloc | apply Kd.R_drewN | apply Kd.R_drew)); exact QM HO_138000.out (fun _ hk => ⟨hk.2, hk.1⟩)) hg hat); have n1_ := aK (Kd.R_after (ok := (fun k_ => some k_ ≠ (u138000 : Value).ownBlock)) (rF HO_138003.out) hg hat); have n2_ := aK (blk_grown (g := gb101) (o := .cells #[.slice A0_0 l0_0.length c0_0, .int .i64 a0_1, .int .i64 a0_2, .slice (some ad140) l0_3.length c0_3] 27 (0, 0)) (kF BK101.out) hg (QE HO_138004.out BK101.out (by decide))); have n3_ := aK (blk_grown (g := gb102) (o := .cells #[.slice none 0 0, .int .i64 0, .int .i64 0, .slice none 0 0, .slice none 0 0, .int .i64 0] 32 (0, 0)) (kF BK102.out) hg (QE HO_138004.out BK102.out (by decide))); have n4_ := aK (blk_grown (g := gb137) (o := .cells #[u138000, .int .i64 t132, .int .i64 t133, .slice (some ⟨go54, 0, none⟩) x138003_1.length co54, u138004, .int .i64 0] 32 (0, 0)) (kF BK137.out) hg (QE HO_138004.out BK137.out (by decide))); have n5_ := aK (hb); have n6_ := aK (ho); clear HO_138000; clear HO_138003; clear BK101; clear BK102; clear BK137; clear HB; clear HO_138004; have HO_138000 := n0_; have HO_138003 := n1_; have BK101 := n2_; have BK102 := n3_; have BK137 := n4_; have HB := n5_; have HO144 := n6_; clear n0_ n1_ n2_ n3_ n4_ n5_ n6_; clear ho hb hg hat; obtain ⟨Ao65, co65, eo65⟩ := Kd.R_slice HO144.out; subst eo65; obtain ⟨hcz66_0, hcz66_1, hcz66_2, hcz66_3, hcz66_4, hcz66_5⟩ := cells6 BK137.out; obtain ⟨hfz66_0, hfz66_1, hfz66_2, hfz66_3, hfz66_4, hfz66_5⟩ := frz6 BK137.out))
                          go_roundg kj40
                          case measure => have := HK1.out; have := HJ40.out; omega
                          case rel => exact ⟨(wrap64 (x4_1 - 1)), (wrap64 (x5_1 + 1)), (x138000_1), (y141), (y142), (u138000), (.slice (some ⟨go54, 0, none⟩) x138003_1.length co54), (.slice Ao65 y142.length co65), (by first | rfl | (simp; done) | (simp [*]; done) | (simp only [Value.bool.injEq]; rw [Bool.eq_iff_iff]; simp; done)), (by first | rfl | (simp; done) | (simp [*]; done) | (simp only [Value.bool.injEq]; rw [Bool.eq_iff_iff]; simp; done)), H', ⟨by have := HK1.out; have := HJ40.out; omega⟩, ⟨by (with_reducible repeat (first | apply Kd.R_alloc | apply Kd.R_drewN | apply Kd.R_drew)); exact QM (Kd.R_far (p := ⟨gb137, 4, none⟩) (Kd.R_types HO_138000.out BK137.out (by decide)) (fun _ hk => hk.2) (.slice Ao65 y142.length co65)) (fun _ hk => ⟨hk.1.1, hk.1.2⟩)⟩, ⟨by (with_reducible repeat (first | apply Kd.R_alloc | apply Kd.R_drewN | apply Kd.R_drew)); exact QM (Kd.R_far (p := ⟨gb137, 4, none⟩) (Kd.R_types HO_138003.out BK137.out (by decide)) (fun _ hk => hk.2) (.slice Ao65 y142.length co65)) (fun _ hk => ⟨hk.1.1, hk.1.2⟩)⟩, ⟨by (with_reducible repeat (first | apply Kd.R_alloc | apply Kd.R_drewN | apply Kd.R_drew)); exact QM (Kd.R_far (p := ⟨gb137, 4, none⟩) (Kd.R_types HO144.out BK137.out (by decide)) (fun _ hk => hk.2) (.slice Ao65 y142.length co65)) (fun _ hk => ⟨hk.1.1, hk.1.2⟩)⟩, ⟨by (with_reducible repeat (first | refine blk_drewN ?_ _ | refine blk_drew ?_ | refine blk_alloc ?_ _)); refine blk_far ?_ NB101_137.out _; (with_reducible repeat (first | refine blk_drewN ?_ _ | refine blk_drew ?_ | refine blk_alloc ?_ _)); exact BK101.out⟩, ⟨by (with_reducible repeat (first | refine blk_drewN ?_ _ | refine blk_drew ?_ | refine blk_alloc ?_ _)); refine blk_far ?_ NB102_137.out _; (with_reducible repeat (first | refine blk_drewN ?_ _ | refine blk_drew ?_ | refine blk_alloc ?_ _)); exact BK102.out⟩, ⟨by (with_reducible repeat (first | refine blk_drewN ?_ _ | refine blk_drew ?_ | refine blk_alloc ?_ _)); refine blk_put (cs := #[u138000, .int .i64 t132, .int .i64 t133, .slice (some ⟨go54, 0, none⟩) x138003_1.length co54, u138004, .int .i64 0]) ?_ 4 _ rfl; (with_reducible repeat (first | refine blk_drewN ?_ _ | refine blk_drew ?_ | refine blk_alloc ?_ _)); exact BK137.out⟩, ⟨by repeat (first | (with_reducible first | exact HB.out | apply below_alloc | apply pw_below_drewN | apply below_drew1 | refine below_set ?_ GE101.out | refine below_set ?_ GE102.out | refine below_set ?_ GE137.out) | exact HB.out)⟩⟩
                        · rw [if_neg c55] at H
                          exact absurd H (by simp)
                      · rw [if_neg c53] at H
                        exact absurd H (by simp)
                    · rw [if_neg c52] at H
                      have c52b0 : ((rd l0_3 x5_1) == 0) = false := beq_eq_false_iff_ne.mpr c52
                      have c52b1 : ((rd l0_3 x5_1) != 0) = true := bne_iff_ne.mpr c52
                      have H' := Aside0.mk H
                      clear H
                      have hnb67 := NB101_102.out
                      have hnc67 := NB102_101.out
                      have hnb68 := NB101_137.out
                      have hnc68 := NB137_101.out
                      have hcz69_0 : wc.cell? ⟨gb101, 0, none⟩ = some (.slice A0_0 l0_0.length c0_0) := (blk_cell BK101.out 0).trans rfl
                      have hcz69_1 : wc.cell? ⟨gb101, 1, none⟩ = some (.int .i64 a0_1) := (blk_cell BK101.out 1).trans rfl
                      have hcz69_2 : wc.cell? ⟨gb101, 2, none⟩ = some (.int .i64 a0_2) := (blk_cell BK101.out 2).trans rfl
                      have hcz69_3 : wc.cell? ⟨gb101, 3, none⟩ = some (.slice A0_3 l0_3.length c0_3) := (blk_cell BK101.out 3).trans rfl
                      have hfz69_0 := blk_frozen BK101.out 0
                      have hfz69_1 := blk_frozen BK101.out 1
                      have hfz69_2 := blk_frozen BK101.out 2
                      have hfz69_3 := blk_frozen BK101.out 3
                      have p140 : 0 ≤ (x5_1 : Int) := of_decide_eq_true (by first | (with_reducible assumption) | assumption)
                      have q140 : x5_1 < (l0_3.length : Int) := of_decide_eq_true (by first | (with_reducible assumption) | assumption)
                      obtain ⟨ad140, e140, hx140_0⟩ := Kd.at_int HR0_3.out x5_1 p140 q140
                      cases e140
                      replace hx140_0 := (HB.out.cell (World.block_lt_of_cell? w _ hx140_0)).trans hx140_0
                      replace p140 := eq_true p140
                      replace q140 := eq_true q140
                      go_wp2
                      go_roundg kj40
                      case measure => have := HK1.out; have := HJ40.out; omega
                      case rel => exact ⟨(x4_1), (wrap64 (x5_1 + 1)), (x138000_1), (x138003_1), (x138004_1), (u138000), (u138003), (u138004), (by first | rfl | (simp; done) | (simp [*]; done) | (simp only [Value.bool.injEq]; rw [Bool.eq_iff_iff]; simp; done)), (by first | rfl | (simp; done) | (simp [*]; done) | (simp only [Value.bool.injEq]; rw [Bool.eq_iff_iff]; simp; done)), H', ⟨by have := HK1.out; have := HJ40.out; omega⟩, ⟨by (with_reducible repeat (first | apply Kd.R_alloc | apply Kd.R_drewN | apply Kd.R_drew)); exact HO_138000.out⟩, ⟨by (with_reducible repeat (first | apply Kd.R_alloc | apply Kd.R_drewN | apply Kd.R_drew)); exact HO_138003.out⟩, ⟨by (with_reducible repeat (first | apply Kd.R_alloc | apply Kd.R_drewN | apply Kd.R_drew)); exact HO_138004.out⟩, ⟨by (with_reducible repeat (first | refine blk_drewN ?_ _ | refine blk_drew ?_ | refine blk_alloc ?_ _)); exact BK101.out⟩, ⟨by (with_reducible repeat (first | refine blk_drewN ?_ _ | refine blk_drew ?_ | refine blk_alloc ?_ _)); exact BK102.out⟩, ⟨by (with_reducible repeat (first | refine blk_drewN ?_ _ | refine blk_drew ?_ | refine blk_alloc ?_ _)); exact BK137.out⟩, ⟨by repeat (first | (with_reducible first | exact HB.out | apply below_alloc | apply pw_below_drewN | apply below_drew1 | refine below_set ?_ GE101.out | refine below_set ?_ GE102.out | refine below_set ?_ GE137.out) | exact HB.out)⟩⟩
                  · rw [if_neg c51] at H
                    exact absurd H (by simp)
                · rw [if_neg c50] at H
                  exact absurd H (by simp)
              · replace c49 := Bool.eq_false_iff.mpr c49
                subst c49
                have H1 : (some (x138000_1, t132, t133, x138003_1, x138004_1, 0)) = some (r1, r2, r3, r4, r5, r6) := by rw [if_neg (show ¬ (false = true) by decide)] at H; exact H
                clear H
                have H := H1
                clear H1
                simp only [Option.some.injEq, Prod.mk.injEq] at H
                obtain ⟨rfl, rfl, rfl, rfl, rfl, rfl⟩ := H
                have hnb70 := NB137_101.out
                have hnc70 := NB101_137.out
                have hnb71 := NB137_102.out
                have hnc71 := NB102_137.out
                have hcz72_0 : wc.cell? ⟨gb137, 0, none⟩ = some (u138000) := (blk_cell BK137.out 0).trans rfl
                have hcz72_1 : wc.cell? ⟨gb137, 1, none⟩ = some (.int .i64 t132) := (blk_cell BK137.out 1).trans rfl
                have hcz72_2 : wc.cell? ⟨gb137, 2, none⟩ = some (.int .i64 t133) := (blk_cell BK137.out 2).trans rfl
                have hcz72_3 : wc.cell? ⟨gb137, 3, none⟩ = some (u138003) := (blk_cell BK137.out 3).trans rfl
                have hcz72_4 : wc.cell? ⟨gb137, 4, none⟩ = some (u138004) := (blk_cell BK137.out 4).trans rfl
                have hcz72_5 : wc.cell? ⟨gb137, 5, none⟩ = some (.int .i64 0) := (blk_cell BK137.out 5).trans rfl
                have hfz72_0 := blk_frozen BK137.out 0
                have hfz72_1 := blk_frozen BK137.out 1
                have hfz72_2 := blk_frozen BK137.out 2
                have hfz72_3 := blk_frozen BK137.out 3
                have hfz72_4 := blk_frozen BK137.out 4
                have hfz72_5 := blk_frozen BK137.out 5
                obtain ⟨Ao73, co73, eo73⟩ := Kd.R_slice HO_138000.out
                subst eo73
                have hnb74 := NB102_101.out
                have hnc74 := NB101_102.out
                have hcz75_0 : wc.cell? ⟨gb102, 0, none⟩ = some (.slice none 0 0) := (blk_cell BK102.out 0).trans rfl
                have hcz75_1 : wc.cell? ⟨gb102, 1, none⟩ = some (.int .i64 0) := (blk_cell BK102.out 1).trans rfl
                have hcz75_2 : wc.cell? ⟨gb102, 2, none⟩ = some (.int .i64 0) := (blk_cell BK102.out 2).trans rfl
                have hcz75_3 : wc.cell? ⟨gb102, 3, none⟩ = some (.slice none 0 0) := (blk_cell BK102.out 3).trans rfl
                have hcz75_4 : wc.cell? ⟨gb102, 4, none⟩ = some (.slice none 0 0) := (blk_cell BK102.out 4).trans rfl
                have hcz75_5 : wc.cell? ⟨gb102, 5, none⟩ = some (.int .i64 0) := (blk_cell BK102.out 5).trans rfl
                have hfz75_0 := blk_frozen BK102.out 0
                have hfz75_1 := blk_frozen BK102.out 1
                have hfz75_2 := blk_frozen BK102.out 2
                have hfz75_3 := blk_frozen BK102.out 3
                have hfz75_4 := blk_frozen BK102.out 4
                have hfz75_5 := blk_frozen BK102.out 5
                obtain ⟨Ao76, co76, eo76⟩ := Kd.R_slice HO_138003.out
                subst eo76
                obtain ⟨Ao77, co77, eo77⟩ := Kd.R_slice HO_138004.out
                subst eo77
                go_wp2
                refine bodyPost_ret (results_cell_row rfl _ _ gb102 32 #[.slice Ao73 x138000_1.length co73, .int .i64 t132, .int .i64 t133, .slice Ao76 x138003_1.length co76, .slice Ao77 x138004_1.length co77, .int .i64 0] (0, 0) _ rfl (kP6 BK102.out) Try.underlying32 rfl (by kernel_rfl)) rfl ?_
                exact ⟨_, _, _, by first | rfl | (simp only [i64_w, i32_w]; done) | (simp only [i64_w, i32_w]; rfl) | (simp [errW_none, errW_some] <;> rfl) | (simp [*, errW_none, errW_some] <;> rfl), by (with_reducible repeat (first | apply Kd.R_alloc | apply Kd.R_drewN | apply Kd.R_drew)); exact QM (Kd.R_far (p := ⟨gb102, 5, none⟩) (Kd.R_far (p := ⟨gb102, 4, none⟩) (Kd.R_far (p := ⟨gb102, 3, none⟩) (Kd.R_far (p := ⟨gb102, 2, none⟩) (Kd.R_far (p := ⟨gb102, 1, none⟩) (Kd.R_far (p := ⟨gb102, 0, none⟩) (Kd.R_types HO_138000.out BK102.out (by decide)) (fun _ hk => hk.2) (.slice Ao73 x138000_1.length co73)) (fun _ hk => hk.2) (.int .i64 t132)) (fun _ hk => hk.2) (.int .i64 t133)) (fun _ hk => hk.2) (.slice Ao76 x138003_1.length co76)) (fun _ hk => hk.2) (.slice Ao77 x138004_1.length co77)) (fun _ hk => hk.2) (.int .i64 0)) (fun _ hk => ⟨hk.1.1, hk.1.2⟩), by (with_reducible repeat (first | apply Kd.R_alloc | apply Kd.R_drewN | apply Kd.R_drew)); exact QM (Kd.R_far (p := ⟨gb102, 5, none⟩) (Kd.R_far (p := ⟨gb102, 4, none⟩) (Kd.R_far (p := ⟨gb102, 3, none⟩) (Kd.R_far (p := ⟨gb102, 2, none⟩) (Kd.R_far (p := ⟨gb102, 1, none⟩) (Kd.R_far (p := ⟨gb102, 0, none⟩) (Kd.R_types HO_138003.out BK102.out (by decide)) (fun _ hk => hk.2) (.slice Ao73 x138000_1.length co73)) (fun _ hk => hk.2) (.int .i64 t132)) (fun _ hk => hk.2) (.int .i64 t133)) (fun _ hk => hk.2) (.slice Ao76 x138003_1.length co76)) (fun _ hk => hk.2) (.slice Ao77 x138004_1.length co77)) (fun _ hk => hk.2) (.int .i64 0)) (fun _ hk => ⟨hk.1.1, hk.1.2⟩), by (with_reducible repeat (first | apply Kd.R_alloc | apply Kd.R_drewN | apply Kd.R_drew)); exact QM (Kd.R_far (p := ⟨gb102, 5, none⟩) (Kd.R_far (p := ⟨gb102, 4, none⟩) (Kd.R_far (p := ⟨gb102, 3, none⟩) (Kd.R_far (p := ⟨gb102, 2, none⟩) (Kd.R_far (p := ⟨gb102, 1, none⟩) (Kd.R_far (p := ⟨gb102, 0, none⟩) (Kd.R_types HO_138004.out BK102.out (by decide)) (fun _ hk => hk.2) (.slice Ao73 x138000_1.length co73)) (fun _ hk => hk.2) (.int .i64 t132)) (fun _ hk => hk.2) (.int .i64 t133)) (fun _ hk => hk.2) (.slice Ao76 x138003_1.length co76)) (fun _ hk => hk.2) (.slice Ao77 x138004_1.length co77)) (fun _ hk => hk.2) (.int .i64 0)) (fun _ hk => ⟨hk.1.1, hk.1.2⟩), by repeat (first | (with_reducible first | exact HB.out | apply below_alloc | apply pw_below_drewN | apply below_drew1 | refine below_set ?_ GE101.out | refine below_set ?_ GE102.out | refine below_set ?_ GE137.out) | exact HB.out)⟩
  · replace c3 := Bool.eq_false_iff.mpr c3
    subst c3
    have H1 : ((spec_l21Ill.f 1).bind fun bt104 => (some (bt104.1, bt104.2.1, bt104.2.2.1, bt104.2.2.2.1, bt104.2.2.2.2.1, bt104.2.2.2.2.2))) = some (r1, r2, r3, r4, r5, r6) := by rw [if_neg (show ¬ (false = true) by decide)] at H; exact H
    clear H
    have H := H1
    clear H1
    replace H := Option.bind_eq_some_iff.mp H
    obtain ⟨⟨t104, t107, t108, t109, t112, t115⟩, A780, H⟩ := H
    replace H : (some (t104, t107, t108, t109, t112, t115)) = some (r1, r2, r3, r4, r5, r6) := H
    have A78 := Aside0.mk A780
    clear A780
    simp only [Option.some.injEq, Prod.mk.injEq] at H
    obtain ⟨rfl, rfl, rfl, rfl, rfl, rfl⟩ := H
    go_enter Try.func44, Try.ntmps44
    go_wp2_with (first | ((with_reducible refine gate_dst (N := 1) rfl ?_); refine boxE (N := 1) (cs := #[.slice A0_0 l0_0.length c0_0, .int .i64 a0_1, .int .i64 a0_2, .slice A0_3 l0_3.length c0_3]) (t := 27) (h := ?_); intro gb101 hg w79 hbox hb; have BK101 := aK (hbox); have GW101 := aK ((by rw [hg]; exact (below_size (bF0 HB.out)) : w.heap.size ≤ gb101)); have GE101 := aK ((by rw [hg]; exact (below_size (bF0 HB.out)) : w.heap.size ≤ gb101)); replace HB := aK (below_step (bF0 HB.out) hb); clear hb hbox hg) | ((with_reducible refine gate_dst (N := 2) rfl ?_); refine boxE (N := 2) (cs := #[.slice none 0 0, .int .i64 0, .int .i64 0, .slice none 0 0, .slice none 0 0, .int .i64 0]) (t := 32) (h := ?_); intro gb102 hg w80 hbox hb; have BK102 := aK (hbox); have GW102 := aK ((by rw [hg]; exact (below_size (bF1 HB.out GE101.out)) : w.heap.size ≤ gb102)); have GE102 := aK ((by rw [hg]; exact (below_size (bF1 HB.out GE101.out)) : w.heap.size ≤ gb102)); replace HB := aK (below_step (bF1 HB.out GE101.out) hb); have NB101_102 := aK ((by rw [hg]; exact Nat.ne_of_lt (blk_lt (g := gb101) (o := .cells #[.slice A0_0 l0_0.length c0_0, .int .i64 a0_1, .int .i64 a0_2, .slice A0_3 l0_3.length c0_3] 27 (0, 0)) (kF BK101.out)) : gb101 ≠ gb102)); have NB102_101 := aK ((by rw [hg]; exact Nat.ne_of_gt (blk_lt (g := gb101) (o := .cells #[.slice A0_0 l0_0.length c0_0, .int .i64 a0_1, .int .i64 a0_2, .slice A0_3 l0_3.length c0_3] 27 (0, 0)) (kF BK101.out)) : gb102 ≠ gb101)); replace BK101 := aK (kB BK101.out hb); clear hb hbox hg; have hnb81 := NB101_102.out; have hnc81 := NB102_101.out; obtain ⟨hcz82_0, hcz82_1, hcz82_2, hcz82_3⟩ := cells4 BK101.out; obtain ⟨hfz82_0, hfz82_1, hfz82_2⟩ := frz3 BK101.out; have hfz82_3 := blk_frozen BK101.out 3) | ((with_reducible refine gate_callee (f := 59) rfl ?_); refine goesL_ (some 7) rfl rfl Try.func59 (by kernel_rfl) rfl #[.agg #[.slice A0_0 l0_0.length c0_0, .int .i64 a0_1, .int .i64 a0_2, .slice A0_3 l0_3.length c0_3]] rfl lF ?_; (with_reducible refine (spec_FleetRight.calls k _ _ l0_0 a0_1 a0_2 _ _ l0_3 false _ ?side1 ?side2 ?side3 ?side4 A2.out).mono ?_); (case side1 => exact cF (Kd.C_below HR0_0.out HB.out)); (case side2 => exact HC0_0.out); (case side3 => exact cF (Kd.C_below HR0_3.out HB.out)); (case side4 => exact HC0_3.out); rintro e w83 ⟨rfl, hb⟩; refine ⟨_, rfl, ?_⟩; replace BK101 := aK (kB BK101.out hb); replace BK102 := aK (kB BK102.out hb); replace HB := aK (below_step (bF2 HB.out GE101.out GE102.out) hb); (try clear hb); (try clear hb2); (try clear hk); (try clear hi)) | ((with_reducible refine gate_callee (f := 74) rfl ?_); refine goesL_ (some 9) rfl rfl Try.func74 (by kernel_rfl) rfl #[.int .i64 1] rfl lF ?_; (with_reducible refine (spec_l21Ill.calls 1 t104 t107 t108 t109 t112 t115 _ A78.out).mono ?_); rintro e w84 ⟨v105, v110, v113, rfl, ho0, ho1, ho2, hb⟩; refine ⟨_, rfl, ?_⟩; have HO106 := aK (QW ho0 (below_size (bF2 HB.out GE101.out GE102.out))); have HO111 := aK (QW ho1 (below_size (bF2 HB.out GE101.out GE102.out))); have HO114 := aK (QW ho2 (below_size (bF2 HB.out GE101.out GE102.out))); replace BK101 := aK (kB BK101.out hb); replace BK102 := aK (kB BK102.out hb); replace HB := aK (below_step (bF2 HB.out GE101.out GE102.out) hb); (try clear hb); (try clear hb2); (try clear hk); (try clear hi); (try clear ho0); (try clear ho1); (try clear ho2); obtain ⟨Ao85, co85, eo85⟩ := Kd.R_slice HO106.out; subst eo85; obtain ⟨hcz86_0, hcz86_1, hcz86_2, hcz86_3, hcz86_4, hcz86_5⟩ := cells6 BK102.out; obtain ⟨hfz86_0, hfz86_1, hfz86_2, hfz86_3, hfz86_4, hfz86_5⟩ := frz6 BK102.out; obtain ⟨Ao87, co87, eo87⟩ := Kd.R_slice HO111.out; subst eo87; obtain ⟨Ao88, co88, eo88⟩ := Kd.R_slice HO114.out; subst eo88))
    refine bodyPost_ret (results_cell_row rfl _ _ gb102 32 #[.slice Ao85 t104.length co85, .int .i64 t107, .int .i64 t108, .slice Ao87 t109.length co87, .slice Ao88 t112.length co88, .int .i64 t115] (0, 0) _ rfl (kP6 BK102.out) Try.underlying32 rfl (by kernel_rfl)) rfl ?_
    exact ⟨_, _, _, by first | rfl | (simp only [i64_w, i32_w]; done) | (simp only [i64_w, i32_w]; rfl) | (simp [errW_none, errW_some] <;> rfl) | (simp [*, errW_none, errW_some] <;> rfl), by (with_reducible repeat (first | apply Kd.R_alloc | apply Kd.R_drewN | apply Kd.R_drew)); exact QM (Kd.R_far (p := ⟨gb102, 5, none⟩) (Kd.R_far (p := ⟨gb102, 4, none⟩) (Kd.R_far (p := ⟨gb102, 3, none⟩) (Kd.R_far (p := ⟨gb102, 2, none⟩) (Kd.R_far (p := ⟨gb102, 1, none⟩) (Kd.R_far (p := ⟨gb102, 0, none⟩) (Kd.R_types HO106.out BK102.out (by decide)) (fun _ hk => hk.2) (.slice Ao85 t104.length co85)) (fun _ hk => hk.2) (.int .i64 t107)) (fun _ hk => hk.2) (.int .i64 t108)) (fun _ hk => hk.2) (.slice Ao87 t109.length co87)) (fun _ hk => hk.2) (.slice Ao88 t112.length co88)) (fun _ hk => hk.2) (.int .i64 t115)) (fun _ hk => ⟨hk.1.1, hk.1.2⟩), by (with_reducible repeat (first | apply Kd.R_alloc | apply Kd.R_drewN | apply Kd.R_drew)); exact QM (Kd.R_far (p := ⟨gb102, 5, none⟩) (Kd.R_far (p := ⟨gb102, 4, none⟩) (Kd.R_far (p := ⟨gb102, 3, none⟩) (Kd.R_far (p := ⟨gb102, 2, none⟩) (Kd.R_far (p := ⟨gb102, 1, none⟩) (Kd.R_far (p := ⟨gb102, 0, none⟩) (Kd.R_types HO111.out BK102.out (by decide)) (fun _ hk => hk.2) (.slice Ao85 t104.length co85)) (fun _ hk => hk.2) (.int .i64 t107)) (fun _ hk => hk.2) (.int .i64 t108)) (fun _ hk => hk.2) (.slice Ao87 t109.length co87)) (fun _ hk => hk.2) (.slice Ao88 t112.length co88)) (fun _ hk => hk.2) (.int .i64 t115)) (fun _ hk => ⟨hk.1.1, hk.1.2⟩), by (with_reducible repeat (first | apply Kd.R_alloc | apply Kd.R_drewN | apply Kd.R_drew)); exact QM (Kd.R_far (p := ⟨gb102, 5, none⟩) (Kd.R_far (p := ⟨gb102, 4, none⟩) (Kd.R_far (p := ⟨gb102, 3, none⟩) (Kd.R_far (p := ⟨gb102, 2, none⟩) (Kd.R_far (p := ⟨gb102, 1, none⟩) (Kd.R_far (p := ⟨gb102, 0, none⟩) (Kd.R_types HO114.out BK102.out (by decide)) (fun _ hk => hk.2) (.slice Ao85 t104.length co85)) (fun _ hk => hk.2) (.int .i64 t107)) (fun _ hk => hk.2) (.int .i64 t108)) (fun _ hk => hk.2) (.slice Ao87 t109.length co87)) (fun _ hk => hk.2) (.slice Ao88 t112.length co88)) (fun _ hk => hk.2) (.int .i64 t115)) (fun _ hk => ⟨hk.1.1, hk.1.2⟩), by repeat (first | (with_reducible first | exact HB.out | apply below_alloc | apply pw_below_drewN | apply below_drew1 | refine below_set ?_ GE101.out | refine below_set ?_ GE102.out) | exact HB.out)⟩

end Go.Proofs.Ythoibokhmkjkdaa.P

namespace Go.Proofs.Ythoibokhmkjkdaa.P
open Go.RowKit Go.Proofs.YthoibokhmkjkdaaW.PrintWords Go.Proofs.YthoibokhmkjkdaaW.PrintLast Go.Proofs.YthoibokhmkjkdaaW.PrintMore
attribute [local go_sem] max2_int min2_int max_two min_two max_three min_three max_four min_four   -- for this text's walks alone
set_option linter.unusedVariables false
set_option linter.unusedSimpArgs false

/-! ### impl_size_int64: function 92 -/
def impl_size_int64.f (l0 : List Int) : Option (Int) := some (l0.length : Int)
set_option maxHeartbeats 8000000 in
set_option maxRecDepth 100000 in
theorem impl_size_int64.calls (A0 : Option Addr) (c0 : Nat) (l0 : List Int) (r : Int) (w : World) (hr0 : Kd.C (Kd.int .i64) w A0 l0.length l0) (hc0 : l0.length ≤ c0) (h : impl_size_int64.f l0 = some r) :
    Calls Try.prog 92 #[.slice A0 l0.length c0] w fun e w' => e = .returned (.int .i64 r) ∧ Drawn0 w w' := by
  have HR0 := Aside0.mk hr0
  have HC0 := Aside0.mk hc0
  clear hr0 hc0
  have H : (some (l0.length : Int)) = some r := h
  clear h
  obtain rfl := Option.some.inj H
  go_enter Try.func92, Try.ntmps92
  go_wp2
  go_ret
  exact ⟨by first | rfl | (simp; done) | (simp [*]; done), by repeat (first | exact Drawn0.refl _ | apply Drawn0.step)⟩

end Go.Proofs.Ythoibokhmkjkdaa.P

namespace Go.Proofs.Ythoibokhmkjkdaa.P
open Go.RowKit Go.Proofs.YthoibokhmkjkdaaW.PrintWords Go.Proofs.YthoibokhmkjkdaaW.PrintLast Go.Proofs.YthoibokhmkjkdaaW.PrintMore Go.Proofs.YthoibokhmkjkdaaW.PrintSq
attribute [local go_sem] max2_int min2_int max_two min_two max_three min_three max_four min_four   -- for this text's walks alone
set_option linter.unusedVariables false
set_option linter.unusedSimpArgs false

/-! ### impl_Fleet_share: function 73 -/
def impl_Fleet_share.f (l0_0 : List Int) (a0_1 : Int) (a0_2 : Int) (l0_3 : List Int) : Option (Int) := (impl_size_int64.f l0_3).bind fun t102 => (if 0 ≤ a0_1 then (if a0_1 < (l0_0.length : Int) then (some (wrap64 (Int.tdiv (wrap64 ((wrap64 (t102 * (rd l0_0 a0_1))) + 99)) 100))) else (none)) else (none))
set_option maxHeartbeats 8000000 in
set_option maxRecDepth 100000 in
theorem impl_Fleet_share.calls (A0_0 : Option Addr) (c0_0 : Nat) (l0_0 : List Int) (a0_1 : Int) (a0_2 : Int) (A0_3 : Option Addr) (c0_3 : Nat) (l0_3 : List Int) (r : Int) (w : World) (hr0_0 : Kd.C (Kd.int .i64) w A0_0 l0_0.length l0_0) (hc0_0 : l0_0.length ≤ c0_0) (hr0_3 : Kd.C (Kd.int .i64) w A0_3 l0_3.length l0_3) (hc0_3 : l0_3.length ≤ c0_3) (h : impl_Fleet_share.f l0_0 a0_1 a0_2 l0_3 = some r) :
    Calls Try.prog 73 #[.agg #[.slice A0_0 l0_0.length c0_0, .int .i64 a0_1, .int .i64 a0_2, .slice A0_3 l0_3.length c0_3]] w fun e w' => e = .returned (.int .i64 r) ∧ Below w.heap.size w w' := by
  have hu27 := Try.underlying27
  have HR0_0 := Aside0.mk hr0_0
  have HC0_0 := Aside0.mk hc0_0
  clear hr0_0 hc0_0
  have HR0_3 := Aside0.mk hr0_3
  have HC0_3 := Aside0.mk hc0_3
  clear hr0_3 hc0_3
  have HB := aK (Below.refl w.heap.size w)
  have H : ((impl_size_int64.f l0_3).bind fun t102 => (if 0 ≤ a0_1 then (if a0_1 < (l0_0.length : Int) then (some (wrap64 (Int.tdiv (wrap64 ((wrap64 (t102 * (rd l0_0 a0_1))) + 99)) 100))) else (none)) else (none))) = some r := h
  clear h
  replace H := Option.bind_eq_some_iff.mp H
  obtain ⟨t102, A20, H⟩ := H
  replace H : (if 0 ≤ a0_1 then (if a0_1 < (l0_0.length : Int) then (some (wrap64 (Int.tdiv (wrap64 ((wrap64 (t102 * (rd l0_0 a0_1))) + 99)) 100))) else (none)) else (none)) = some r := H
  have A2 := Aside0.mk A20
  clear A20
  by_cases c3 : 0 ≤ a0_1
  · rw [if_pos c3] at H
    have c3b0 : decide (0 ≤ a0_1) = true := decide_eq_true c3
    clear c3
    by_cases c4 : a0_1 < (l0_0.length : Int)
    · rw [if_pos c4] at H
      have c4b0 : decide (a0_1 < (l0_0.length : Int)) = true := decide_eq_true c4
      clear c4
      obtain rfl := Option.some.inj H
      go_enter Try.func73, Try.ntmps73
      go_wp2_with (first | ((with_reducible refine gate_dst (N := 1) rfl ?_); refine boxE (N := 1) (cs := #[.slice A0_0 l0_0.length c0_0, .int .i64 a0_1, .int .i64 a0_2, .slice A0_3 l0_3.length c0_3]) (t := 27) (h := ?_); intro gb101 hg w5 hbox hb; have BK101 := aK (hbox); have GW101 := aK ((by rw [hg]; exact (below_size (bF0 HB.out)) : w.heap.size ≤ gb101)); have GE101 := aK ((by rw [hg]; exact (below_size (bF0 HB.out)) : w.heap.size ≤ gb101)); replace HB := aK (below_step (bF0 HB.out) hb); clear hb hbox hg; obtain ⟨hcz6_0, hcz6_1, hcz6_2, hcz6_3⟩ := cells4 BK101.out; obtain ⟨hfz6_0, hfz6_1, hfz6_2⟩ := frz3 BK101.out; have hfz6_3 := blk_frozen BK101.out 3) | (go_at_call 92; (with_reducible refine (impl_size_int64.calls _ _ l0_3 t102 _ ?side1 ?side2 A2.out).mono ?_); (case side1 => exact cF (Kd.C_below HR0_3.out HB.out)); (case side2 => exact HC0_3.out); rintro e w' ⟨rfl, ⟨nd, rfl⟩⟩; (try exact dF); have p103 : 0 ≤ (a0_1 : Int) := of_decide_eq_true (by first | (with_reducible assumption) | assumption); have q103 : a0_1 < (l0_0.length : Int) := of_decide_eq_true (by first | (with_reducible assumption) | assumption); obtain ⟨ad103, e103, hx103_0⟩ := Kd.at_int HR0_0.out a0_1 p103 q103; cases e103; replace hx103_0 := (HB.out.cell (World.block_lt_of_cell? w _ hx103_0)).trans hx103_0; replace p103 := eq_true p103; replace q103 := eq_true q103))
      repeat (go_quiet (first | ((with_reducible refine gate_dst (N := 1) rfl ?_); refine boxE (N := 1) (cs := #[.slice A0_0 l0_0.length c0_0, .int .i64 a0_1, .int .i64 a0_2, .slice A0_3 l0_3.length c0_3]) (t := 27) (h := ?_); intro gb101 hg w5 hbox hb; have BK101 := aK (hbox); have GW101 := aK ((by rw [hg]; exact (below_size (bF0 HB.out)) : w.heap.size ≤ gb101)); have GE101 := aK ((by rw [hg]; exact (below_size (bF0 HB.out)) : w.heap.size ≤ gb101)); replace HB := aK (below_step (bF0 HB.out) hb); clear hb hbox hg; obtain ⟨hcz6_0, hcz6_1, hcz6_2, hcz6_3⟩ := cells4 BK101.out; obtain ⟨hfz6_0, hfz6_1, hfz6_2⟩ := frz3 BK101.out; have hfz6_3 := blk_frozen BK101.out 3) | (go_at_call 92; (with_reducible refine (impl_size_int64.calls _ _ l0_3 t102 _ ?side1 ?side2 A2.out).mono ?_); (case side1 => exact cF (Kd.C_below HR0_3.out HB.out)); (case side2 => exact HC0_3.out); rintro e w' ⟨rfl, ⟨nd, rfl⟩⟩; (try exact dF); have p103 : 0 ≤ (a0_1 : Int) := of_decide_eq_true (by first | (with_reducible assumption) | assumption); have q103 : a0_1 < (l0_0.length : Int) := of_decide_eq_true (by first | (with_reducible assumption) | assumption); obtain ⟨ad103, e103, hx103_0⟩ := Kd.at_int HR0_0.out a0_1 p103 q103; cases e103; replace hx103_0 := (HB.out.cell (World.block_lt_of_cell? w _ hx103_0)).trans hx103_0; replace p103 := eq_true p103; replace q103 := eq_true q103)); try go_wp2_with (first | ((with_reducible refine gate_dst (N := 1) rfl ?_); refine boxE (N := 1) (cs := #[.slice A0_0 l0_0.length c0_0, .int .i64 a0_1, .int .i64 a0_2, .slice A0_3 l0_3.length c0_3]) (t := 27) (h := ?_); intro gb101 hg w5 hbox hb; have BK101 := aK (hbox); have GW101 := aK ((by rw [hg]; exact (below_size (bF0 HB.out)) : w.heap.size ≤ gb101)); have GE101 := aK ((by rw [hg]; exact (below_size (bF0 HB.out)) : w.heap.size ≤ gb101)); replace HB := aK (below_step (bF0 HB.out) hb); clear hb hbox hg; obtain ⟨hcz6_0, hcz6_1, hcz6_2, hcz6_3⟩ := cells4 BK101.out; obtain ⟨hfz6_0, hfz6_1, hfz6_2⟩ := frz3 BK101.out; have hfz6_3 := blk_frozen BK101.out 3) | (go_at_call 92; (with_reducible refine (impl_size_int64.calls _ _ l0_3 t102 _ ?side1 ?side2 A2.out).mono ?_); (case side1 => exact cF (Kd.C_below HR0_3.out HB.out)); (case side2 => exact HC0_3.out); rintro e w' ⟨rfl, ⟨nd, rfl⟩⟩; (try exact dF); have p103 : 0 ≤ (a0_1 : Int) := of_decide_eq_true (by first | (with_reducible assumption) | assumption); have q103 : a0_1 < (l0_0.length : Int) := of_decide_eq_true (by first | (with_reducible assumption) | assumption); obtain ⟨ad103, e103, hx103_0⟩ := Kd.at_int HR0_0.out a0_1 p103 q103; cases e103; replace hx103_0 := (HB.out.cell (World.block_lt_of_cell? w _ hx103_0)).trans hx103_0; replace p103 := eq_true p103; replace q103 := eq_true q103)))
      go_ret
      exact ⟨by first | rfl | (simp only [i64_w, i32_w]; done) | (simp only [i64_w, i32_w]; rfl) | (simp [errW_none, errW_some] <;> rfl) | (simp [*, errW_none, errW_some] <;> rfl), by repeat (first | (with_reducible first | exact HB.out | apply below_alloc | apply pw_below_drewN | apply below_drew1 | refine below_set ?_ GE101.out) | exact HB.out)⟩
    · rw [if_neg c4] at H
      exact absurd H (by simp)
  · rw [if_neg c3] at H
    exact absurd H (by simp)

end Go.Proofs.Ythoibokhmkjkdaa.P

namespace Go.Proofs.Ythoibokhmkjkdaa.P
open Go.RowKit Go.Proofs.YthoibokhmkjkdaaW.PrintWords Go.Proofs.YthoibokhmkjkdaaW.PrintLast Go.Proofs.YthoibokhmkjkdaaW.PrintMore
attribute [local go_sem] max2_int min2_int max_two min_two max_three min_three max_four min_four   -- for this text's walks alone
set_option linter.unusedVariables false
set_option linter.unusedSimpArgs false

/-! ### impl_within: function 76 -/
def impl_within.f (a0 : Int) (a1 : Int) (a2 : Int) : Option (Bool) := if a0 ≥ a1 then (some (decide (a0 ≤ a2))) else (some false)
set_option maxHeartbeats 8000000 in
set_option maxRecDepth 100000 in
theorem impl_within.calls (a0 : Int) (a1 : Int) (a2 : Int) (r : Bool) (w : World) (h : impl_within.f a0 a1 a2 = some r) :
    Calls Try.prog 76 #[.int .i64 a0, .int .i64 a1, .int .i64 a2] w fun e w' => e = .returned (.bool r) ∧ Drawn0 w w' := by
  have H : (if a0 ≥ a1 then (some (decide (a0 ≤ a2))) else (some false)) = some r := h
  clear h
  by_cases c4 : a0 ≥ a1
  · rw [if_pos c4] at H
    have c4b0 : decide (a1 ≤ a0) = true := decide_eq_true c4
    clear c4
    obtain rfl := Option.some.inj H
    go_enter Try.func76, Try.ntmps76
    go_wp2
    go_ret
    exact ⟨by first | rfl | (simp; done) | (simp [*]; done), by repeat (first | exact Drawn0.refl _ | apply Drawn0.step)⟩
  · rw [if_neg c4] at H
    have c4b0 : decide (a1 ≤ a0) = false := decide_eq_false c4
    clear c4
    obtain rfl := Option.some.inj H
    go_enter Try.func76, Try.ntmps76
    go_wp2
    go_ret
    exact ⟨by first | rfl | (simp; done) | (simp [*]; done), by repeat (first | exact Drawn0.refl _ | apply Drawn0.step)⟩

end Go.Proofs.Ythoibokhmkjkdaa.P

namespace Go.Proofs.Ythoibokhmkjkdaa.P
open Go.RowKit Go.Proofs.YthoibokhmkjkdaaW.PrintWords Go.Proofs.YthoibokhmkjkdaaW.PrintLast Go.Proofs.YthoibokhmkjkdaaW.PrintMore Go.Proofs.YthoibokhmkjkdaaW.PrintSq
attribute [local go_sem] max2_int min2_int max_two min_two max_three min_three max_four min_four   -- for this text's walks alone
set_option linter.unusedVariables false
set_option linter.unusedSimpArgs false

/-! ### impl_Fleet_count: function 152 -/
def impl_Fleet_count.l0 : Nat → Int → Int → List Int → Int → Int → Option (Int)
  | 0, _, _, _, _, _ => none
  | k + 1, x1, x5, x9, x10, x11 => if x11 < x10 then (if 0 ≤ x11 then (if x11 < (x9.length : Int) then (if (rd x9 x11) = x1 then (impl_Fleet_count.l0 k x1 (wrap64 (x5 + 1)) x9 x10 (wrap64 (x11 + 1))) else (impl_Fleet_count.l0 k x1 x5 x9 x10 (wrap64 (x11 + 1)))) else (none)) else (none)) else (some x5)
def impl_Fleet_count.f (k : Nat) (l0_0 : List Int) (a0_1 : Int) (a0_2 : Int) (l0_3 : List Int) (a1 : Int) : Option (Int) := impl_Fleet_count.l0 k a1 0 l0_3 (l0_3.length : Int) 0
theorem impl_Fleet_count.mono_l : ∀ k, (∀ y0 y1 y2 y3 y4, LeO (impl_Fleet_count.l0 k y0 y1 y2 y3 y4) (impl_Fleet_count.l0 (k + 1) y0 y1 y2 y3 y4))
  | 0 => fun _ _ _ _ _ r h => by simp [impl_Fleet_count.l0] at h
  | k + 1 => by
    have ih0 := impl_Fleet_count.mono_l k
    · intro y0 y1 y2 y3 y4
      unfold impl_Fleet_count.l0
      repeat' first
      | (with_reducible exact ih0 _ _ _ _ _)
      | (with_reducible exact LeO.refl _)
      | (with_reducible exact LeO.none _)
      | (with_reducible refine LeO.ite ?_ ?_)
      | (with_reducible refine LeO.bind ?_ (fun _ => ?_))
      | exact ih0 _ _ _ _ _
      | exact LeO.none _
      | refine LeO.ite ?_ ?_
      | refine LeO.bind ?_ (fun _ => ?_)
theorem impl_Fleet_count.mono : ∀ a0 a1 a2 a3 a4 k, LeO (impl_Fleet_count.f k a0 a1 a2 a3 a4) (impl_Fleet_count.f (k + 1) a0 a1 a2 a3 a4) := by
  intro a0 a1 a2 a3 a4 k
  have ih0 := impl_Fleet_count.mono_l k
  unfold impl_Fleet_count.f
  repeat' first
      | (with_reducible exact ih0 _ _ _ _ _)
      | (with_reducible exact LeO.refl _)
      | (with_reducible exact LeO.none _)
      | (with_reducible refine LeO.ite ?_ ?_)
      | (with_reducible refine LeO.bind ?_ (fun _ => ?_))
      | exact ih0 _ _ _ _ _
      | exact LeO.none _
      | refine LeO.ite ?_ ?_
      | refine LeO.bind ?_ (fun _ => ?_)
set_option maxHeartbeats 8000000 in
set_option maxRecDepth 100000 in
theorem impl_Fleet_count.calls (k : Nat) (A0_0 : Option Addr) (c0_0 : Nat) (l0_0 : List Int) (a0_1 : Int) (a0_2 : Int) (A0_3 : Option Addr) (c0_3 : Nat) (l0_3 : List Int) (a1 : Int) (r : Int) (w : World) (hr0_0 : Kd.C (Kd.int .i64) w A0_0 l0_0.length l0_0) (hc0_0 : l0_0.length ≤ c0_0) (hr0_3 : Kd.C (Kd.int .i64) w A0_3 l0_3.length l0_3) (hc0_3 : l0_3.length ≤ c0_3) (h : impl_Fleet_count.f k l0_0 a0_1 a0_2 l0_3 a1 = some r) :
    Calls Try.prog 152 #[.agg #[.slice A0_0 l0_0.length c0_0, .int .i64 a0_1, .int .i64 a0_2, .slice A0_3 l0_3.length c0_3], .int .i64 a1] w fun e w' => e = .returned (.int .i64 r) ∧ Below w.heap.size w w' := by
  have hu27 := Try.underlying27
  have HR0_0 := Aside0.mk hr0_0
  have HC0_0 := Aside0.mk hc0_0
  clear hr0_0 hc0_0
  have HR0_3 := Aside0.mk hr0_3
  have HC0_3 := Aside0.mk hc0_3
  clear hr0_3 hc0_3
  have HB := aK (Below.refl w.heap.size w)
  have H : (impl_Fleet_count.l0 k a1 0 l0_3 (l0_3.length : Int) 0) = some r := h
  clear h
  have H' := Aside0.mk H
  clear H
  go_enter Try.func152, Try.ntmps152
  go_wp2_with (first | ((with_reducible refine gate_dst (N := 2) rfl ?_); refine boxE (N := 2) (cs := #[.slice A0_0 l0_0.length c0_0, .int .i64 a0_1, .int .i64 a0_2, .slice A0_3 l0_3.length c0_3]) (t := 27) (h := ?_); intro gb101 hg w3 hbox hb; have BK101 := aK (hbox); have GW101 := aK ((by rw [hg]; exact (below_size (bF0 HB.out)) : w.heap.size ≤ gb101)); have GE101 := aK ((by rw [hg]; exact (below_size (bF0 HB.out)) : w.heap.size ≤ gb101)); replace HB := aK (below_step (bF0 HB.out) hb); clear hb hbox hg; obtain ⟨hcz4_0, hcz4_1, hcz4_2, hcz4_3⟩ := cells4 BK101.out; obtain ⟨hfz4_0, hfz4_1, hfz4_2, hfz4_3⟩ := frz4 BK101.out))
  go_loopg [5, 11] k (fun kq v5 v11 w' => ∃ (x5_1 : Int) (x11_1 : Int), v5 = .int .i64 x5_1 ∧ v11 = .int .i64 x11_1 ∧ Aside0 (impl_Fleet_count.l0 kq a1 x5_1 l0_3 (l0_3.length : Int) x11_1 = some r) ∧ Aside0 (kq ≤ k) ∧ Aside0 (w'.heap[gb101]? = some (.cells #[(.slice A0_0 l0_0.length c0_0), .int .i64 a0_1, .int .i64 a0_2, (.slice A0_3 l0_3.length c0_3)] 27 (0, 0))) ∧ Aside0 (Below w.heap.size w w'))
  case atStart => exact ⟨(0), (0), (by first | rfl | (simp; done) | (simp [*]; done) | (simp only [Value.bool.injEq]; rw [Bool.eq_iff_iff]; simp; done)), (by first | rfl | (simp; done) | (simp [*]; done) | (simp only [Value.bool.injEq]; rw [Bool.eq_iff_iff]; simp; done)), H', ⟨Nat.le_refl _⟩, ⟨by (with_reducible repeat (first | refine blk_drewN ?_ _ | refine blk_drew ?_ | refine blk_alloc ?_ _)); exact BK101.out⟩, ⟨by repeat (first | (with_reducible first | exact HB.out | apply below_alloc | apply pw_below_drewN | apply below_drew1 | refine below_set ?_ GE101.out) | exact HB.out)⟩⟩
  case round =>
    clear H'
    try clear c1
    try clear p2
    try clear hcz4_0
    try clear hcz4_1
    try clear hcz4_2
    try clear hcz4_3
    try clear hfz4_0
    try clear hfz4_1
    try clear hfz4_2
    try clear hfz4_3
    obtain ⟨x5_1, x11_1, rfl, rfl, HA, HK1, BK101, HB⟩ := hrel
    cases gk with
    | zero => exact absurd HA.out (by simp [impl_Fleet_count.l0])
    | succ k1 =>
      have H := HA.out
      clear HA
      simp only [impl_Fleet_count.l0] at H
      by_cases c5 : x11_1 < (l0_3.length : Int)
      · rw [if_pos c5] at H
        have c5b0 : decide (x11_1 < (l0_3.length : Int)) = true := decide_eq_true c5
        clear c5
        by_cases c6 : 0 ≤ x11_1
        · rw [if_pos c6] at H
          have c6b0 : decide (0 ≤ x11_1) = true := decide_eq_true c6
          clear c6
          by_cases c7 : x11_1 < (l0_3.length : Int)
          · rw [if_pos c7] at H
            have c7b0 : decide (x11_1 < (l0_3.length : Int)) = true := decide_eq_true c7
            clear c7
            by_cases c8 : (rd l0_3 x11_1) = a1
            · rw [if_pos c8] at H
              have c8b0 : ((rd l0_3 x11_1) == a1) = true := beq_iff_eq.mpr c8
              have c8b1 : ((rd l0_3 x11_1) != a1) = false := bne_eq_false_iff_eq.mpr c8
              clear c8
              have H' := Aside0.mk H
              clear H
              have p102 : 0 ≤ (x11_1 : Int) := of_decide_eq_true (by first | (with_reducible assumption) | assumption)
              have q102 : x11_1 < (l0_3.length : Int) := of_decide_eq_true (by first | (with_reducible assumption) | assumption)
              obtain ⟨ad102, e102, hx102_0⟩ := Kd.at_int HR0_3.out x11_1 p102 q102
              cases e102
              replace hx102_0 := (HB.out.cell (World.block_lt_of_cell? w _ hx102_0)).trans hx102_0
              replace p102 := eq_true p102
              replace q102 := eq_true q102
              go_wp2
              go_roundg k1
              case measure => have := HK1.out; omega
              case rel => exact ⟨(wrap64 (x5_1 + 1)), (wrap64 (x11_1 + 1)), (by first | rfl | (simp; done) | (simp [*]; done) | (simp only [Value.bool.injEq]; rw [Bool.eq_iff_iff]; simp; done)), (by first | rfl | (simp; done) | (simp [*]; done) | (simp only [Value.bool.injEq]; rw [Bool.eq_iff_iff]; simp; done)), H', ⟨by have := HK1.out; omega⟩, ⟨by (with_reducible repeat (first | refine blk_drewN ?_ _ | refine blk_drew ?_ | refine blk_alloc ?_ _)); exact BK101.out⟩, ⟨by repeat (first | (with_reducible first | exact HB.out | apply below_alloc | apply pw_below_drewN | apply below_drew1 | refine below_set ?_ GE101.out) | exact HB.out)⟩⟩
            · rw [if_neg c8] at H
              have c8b0 : ((rd l0_3 x11_1) == a1) = false := beq_eq_false_iff_ne.mpr c8
              have c8b1 : ((rd l0_3 x11_1) != a1) = true := bne_iff_ne.mpr c8
              have H' := Aside0.mk H
              clear H
              have p102 : 0 ≤ (x11_1 : Int) := of_decide_eq_true (by first | (with_reducible assumption) | assumption)
              have q102 : x11_1 < (l0_3.length : Int) := of_decide_eq_true (by first | (with_reducible assumption) | assumption)
              obtain ⟨ad102, e102, hx102_0⟩ := Kd.at_int HR0_3.out x11_1 p102 q102
              cases e102
              replace hx102_0 := (HB.out.cell (World.block_lt_of_cell? w _ hx102_0)).trans hx102_0
              replace p102 := eq_true p102
              replace q102 := eq_true q102
              go_wp2
              go_roundg k1
              case measure => have := HK1.out; omega
              case rel => exact ⟨(x5_1), (wrap64 (x11_1 + 1)), (by first | rfl | (simp; done) | (simp [*]; done) | (simp only [Value.bool.injEq]; rw [Bool.eq_iff_iff]; simp; done)), (by first | rfl | (simp; done) | (simp [*]; done) | (simp only [Value.bool.injEq]; rw [Bool.eq_iff_iff]; simp; done)), H', ⟨by have := HK1.out; omega⟩, ⟨by (with_reducible repeat (first | refine blk_drewN ?_ _ | refine blk_drew ?_ | refine blk_alloc ?_ _)); exact BK101.out⟩, ⟨by repeat (first | (with_reducible first | exact HB.out | apply below_alloc | apply pw_below_drewN | apply below_drew1 | refine below_set ?_ GE101.out) | exact HB.out)⟩⟩
          · rw [if_neg c7] at H
            exact absurd H (by simp)
        · rw [if_neg c6] at H
          exact absurd H (by simp)
      · rw [if_neg c5] at H
        have c5b0 : decide (x11_1 < (l0_3.length : Int)) = false := decide_eq_false c5
        clear c5
        obtain rfl := Option.some.inj H
        go_wp2
        go_ret
        exact ⟨by first | rfl | (simp only [i64_w, i32_w]; done) | (simp only [i64_w, i32_w]; rfl) | (simp [errW_none, errW_some] <;> rfl) | (simp [*, errW_none, errW_some] <;> rfl), by repeat (first | (with_reducible first | exact HB.out | apply below_alloc | apply pw_below_drewN | apply below_drew1 | refine below_set ?_ GE101.out) | exact HB.out)⟩

end Go.Proofs.Ythoibokhmkjkdaa.P

namespace Go.Proofs.Ythoibokhmkjkdaa.P
open Go.RowKit Go.Proofs.YthoibokhmkjkdaaW.PrintWords Go.Proofs.YthoibokhmkjkdaaW.PrintLast Go.Proofs.YthoibokhmkjkdaaW.PrintMore Go.Proofs.YthoibokhmkjkdaaW.PrintSq
attribute [local go_sem] max2_int min2_int max_two min_two max_three min_three max_four min_four   -- for this text's walks alone
set_option linter.unusedVariables false
set_option linter.unusedSimpArgs false

/-! ### impl_Fleet_left: function 102 -/
def impl_Fleet_left.f (k : Nat) (l0_0 : List Int) (a0_1 : Int) (a0_2 : Int) (l0_3 : List Int) : Option (Int) := (impl_size_int64.f l0_3).bind fun t102 => ((impl_Fleet_count.f k l0_0 a0_1 a0_2 l0_3 0).bind fun t103 => (some (wrap64 (t102 - t103))))
theorem impl_Fleet_left.mono : ∀ a0 a1 a2 a3 k, LeO (impl_Fleet_left.f k a0 a1 a2 a3) (impl_Fleet_left.f (k + 1) a0 a1 a2 a3) := by
  intro a0 a1 a2 a3 k
  unfold impl_Fleet_left.f
  repeat' first
      | (with_reducible exact impl_Fleet_count.mono _ _ _ _ _ _)
      | (with_reducible exact LeO.refl _)
      | (with_reducible exact LeO.none _)
      | (with_reducible refine LeO.ite ?_ ?_)
      | (with_reducible refine LeO.bind ?_ (fun _ => ?_))
      | exact impl_Fleet_count.mono _ _ _ _ _ _
      | exact LeO.none _
      | refine LeO.ite ?_ ?_
      | refine LeO.bind ?_ (fun _ => ?_)
set_option maxHeartbeats 8000000 in
set_option maxRecDepth 100000 in
theorem impl_Fleet_left.calls (k : Nat) (A0_0 : Option Addr) (c0_0 : Nat) (l0_0 : List Int) (a0_1 : Int) (a0_2 : Int) (A0_3 : Option Addr) (c0_3 : Nat) (l0_3 : List Int) (r : Int) (w : World) (hr0_0 : Kd.C (Kd.int .i64) w A0_0 l0_0.length l0_0) (hc0_0 : l0_0.length ≤ c0_0) (hr0_3 : Kd.C (Kd.int .i64) w A0_3 l0_3.length l0_3) (hc0_3 : l0_3.length ≤ c0_3) (h : impl_Fleet_left.f k l0_0 a0_1 a0_2 l0_3 = some r) :
    Calls Try.prog 102 #[.agg #[.slice A0_0 l0_0.length c0_0, .int .i64 a0_1, .int .i64 a0_2, .slice A0_3 l0_3.length c0_3]] w fun e w' => e = .returned (.int .i64 r) ∧ Below w.heap.size w w' := by
  have hu27 := Try.underlying27
  have HR0_0 := Aside0.mk hr0_0
  have HC0_0 := Aside0.mk hc0_0
  clear hr0_0 hc0_0
  have HR0_3 := Aside0.mk hr0_3
  have HC0_3 := Aside0.mk hc0_3
  clear hr0_3 hc0_3
  have HB := aK (Below.refl w.heap.size w)
  have H : ((impl_size_int64.f l0_3).bind fun t102 => ((impl_Fleet_count.f k l0_0 a0_1 a0_2 l0_3 0).bind fun t103 => (some (wrap64 (t102 - t103))))) = some r := h
  clear h
  replace H := Option.bind_eq_some_iff.mp H
  obtain ⟨t102, A20, H⟩ := H
  replace H : ((impl_Fleet_count.f k l0_0 a0_1 a0_2 l0_3 0).bind fun t103 => (some (wrap64 (t102 - t103)))) = some r := H
  have A2 := Aside0.mk A20
  clear A20
  replace H := Option.bind_eq_some_iff.mp H
  obtain ⟨t103, A30, H⟩ := H
  replace H : (some (wrap64 (t102 - t103))) = some r := H
  have A3 := Aside0.mk A30
  clear A30
  obtain rfl := Option.some.inj H
  go_enter Try.func102, Try.ntmps102
  try go_wp2_with (first | ((with_reducible refine gate_dst (N := 1) rfl ?_); refine boxE (N := 1) (cs := #[.slice A0_0 l0_0.length c0_0, .int .i64 a0_1, .int .i64 a0_2, .slice A0_3 l0_3.length c0_3]) (t := 27) (h := ?_); intro gb101 hg w4 hbox hb; have BK101 := aK (hbox); have GW101 := aK ((by rw [hg]; exact (below_size (bF0 HB.out)) : w.heap.size ≤ gb101)); have GE101 := aK ((by rw [hg]; exact (below_size (bF0 HB.out)) : w.heap.size ≤ gb101)); replace HB := aK (below_step (bF0 HB.out) hb); clear hb hbox hg))
  have n0_ := aK (blk_drew BK101.out)
  have n1_ := aK (below_drew1 HB.out)
  clear BK101
  clear HB
  have BK101 := n0_
  have HB := n1_
  clear n0_ n1_
  refine start_ (n := 7) (S := fun w' => w'.cell? ⟨gb101, 0, none⟩ = some (.slice A0_0 l0_0.length c0_0) ∧ w'.cell? ⟨gb101, 1, none⟩ = some (.int .i64 a0_1) ∧ w'.cell? ⟨gb101, 2, none⟩ = some (.int .i64 a0_2) ∧ w'.cell? ⟨gb101, 3, none⟩ = some (.slice A0_3 l0_3.length c0_3)) (ds := []) #[false, false, false, false, false, false, false] (by kernel_rfl) rfl rfl ⟨(blk_cell BK101.out 0).trans rfl, (blk_cell BK101.out 1).trans rfl, (blk_cell BK101.out 2).trans rfl, (blk_cell BK101.out 3).trans rfl⟩ (fun hHeld => ?_)
  generalize w4.drew = w5 at BK101 HB hHeld ⊢
  refine pure_ (i := 0) (N := some 3) (v := ?_) (a' := ?_) #[true, false, false, false, false, false, false] rfl rfl (by kernel_rfl) (fun _ _ _ h => h) (Or.inl ⟨by rfl, ?_⟩) ?_ ?_
  rotate_left
  · intro w'
    go_simp
    with_reducible rfl
  rotate_left
  · simp only [Act.put, List.setIfInBounds_toArray, List.set_cons_zero, List.set_cons_succ, i64_w, i32_w]
    rfl
  refine take_ (i := 1) (N := some 4) (v := ?_) (a' := ?_) #[true, true, false, false, false, false, false] rfl rfl (by kernel_rfl) (fun _ _ _ h => h) (Or.inl ⟨by rfl, ?_⟩) hHeld ?_ ?_
  rotate_left
  · rintro w' ⟨s0, s1, s2, s3⟩
    go_simp
    with_reducible rfl
  rotate_left
  · simp only [Act.put, List.setIfInBounds_toArray, List.set_cons_zero, List.set_cons_succ, i64_w, i32_w]
    rfl
  refine take_ (i := 3) (N := some 6) (v := ?_) (a' := ?_) #[true, true, false, true, false, false, false] rfl rfl (by kernel_rfl) (fun _ _ _ h => h) (Or.inl ⟨by rfl, ?_⟩) hHeld ?_ ?_
  rotate_left
  · rintro w' ⟨s0, s1, s2, s3⟩
    go_simp
    with_reducible rfl
  rotate_left
  · simp only [Act.put, List.setIfInBounds_toArray, List.set_cons_zero, List.set_cons_succ, i64_w, i32_w]
    rfl
  refine one_ (i := 2) (N := some 5) #[true, true, true, true, false, false, false] rfl rfl (by kernel_rfl) (by decide) (fun K hK => ?_)
  refine goes_ Try.func92 (by kernel_rfl) rfl #[.slice A0_3 l0_3.length c0_3] (by rfl) rfl rfl lF ?_
  with_reducible refine (impl_size_int64.calls _ _ l0_3 t102 _ ?side1 ?side2 A2.out).mono ?_
  (case side1 => exact cF (Kd.C_below HR0_3.out HB.out))
  (case side2 => exact HC0_3.out)
  rintro e w' ⟨rfl, ⟨nd, rfl⟩⟩
  refine ⟨_, rfl, ?_⟩
  refine hK.out _ _ ⟨(blk_cell BK101.out 0).trans rfl, (blk_cell BK101.out 1).trans rfl, (blk_cell BK101.out 2).trans rfl, (blk_cell BK101.out 3).trans rfl⟩ (fun hHeld => ?_)
  clear hK K
  refine norm_ (a' := ?_) ?_ ?_
  rotate_left
  · show Act.put _ (some 5) _ = _
    simp only [Act.put, List.setIfInBounds_toArray, List.set_cons_zero, List.set_cons_succ, i64_w, i32_w]
    rfl
  refine one_ (i := 4) (N := some 7) #[true, true, true, true, true, false, false] rfl rfl (by kernel_rfl) (by decide) (fun K hK => ?_)
  refine goes_ Try.func152 (by kernel_rfl) rfl #[.agg #[.slice A0_0 l0_0.length c0_0, .int .i64 a0_1, .int .i64 a0_2, .slice A0_3 l0_3.length c0_3], .int .i64 0] (by rfl) rfl rfl lF ?_
  with_reducible refine (impl_Fleet_count.calls k _ _ l0_0 a0_1 a0_2 _ _ l0_3 0 t103 _ ?side1 ?side2 ?side3 ?side4 A3.out).mono ?_
  (case side1 => repeat (first | exact (Kd.C_below HR0_0.out (bF1 HB.out GE101.out)) | (with_reducible refine Kd.C_alloc ?_ _) | (with_reducible refine Kd.C_drewN ?_ _) | (with_reducible refine Kd.C_drew ?_)))
  (case side2 => exact HC0_0.out)
  (case side3 => repeat (first | exact (Kd.C_below HR0_3.out (bF1 HB.out GE101.out)) | (with_reducible refine Kd.C_alloc ?_ _) | (with_reducible refine Kd.C_drewN ?_ _) | (with_reducible refine Kd.C_drew ?_)))
  (case side4 => exact HC0_3.out)
  rintro e w6 ⟨rfl, hb⟩
  refine ⟨_, rfl, ?_⟩
  have n0_ := aK (kB BK101.out hb)
  have n1_ := aK (below_step (bF1 HB.out GE101.out) hb)
  clear BK101
  clear HB
  have BK101 := n0_
  have HB := n1_
  clear n0_ n1_
  (try clear hb)
  (try clear hb2)
  (try clear hk)
  (try clear hi)
  refine hK.out _ _ ⟨(blk_cell BK101.out 0).trans rfl, (blk_cell BK101.out 1).trans rfl, (blk_cell BK101.out 2).trans rfl, (blk_cell BK101.out 3).trans rfl⟩ (fun hHeld => ?_)
  clear hK K
  refine norm_ (a' := ?_) ?_ ?_
  rotate_left
  · show Act.put _ (some 7) _ = _
    simp only [Act.put, List.setIfInBounds_toArray, List.set_cons_zero, List.set_cons_succ, i64_w, i32_w]
    rfl
  refine pure_ (i := 5) (N := some 8) (v := ?_) (a' := ?_) #[true, true, true, true, true, true, false] rfl rfl (by kernel_rfl) (fun _ _ _ h => h) (Or.inl ⟨by rfl, ?_⟩) ?_ ?_
  rotate_left
  · intro w'
    go_simp
    with_reducible rfl
  rotate_left
  · simp only [Act.put, List.setIfInBounds_toArray, List.set_cons_zero, List.set_cons_succ, i64_w, i32_w]
    rfl
  refine pure_ (i := 6) (N := some 2) (v := ?_) (a' := ?_) #[true, true, true, true, true, true, true] rfl rfl (by kernel_rfl) (fun _ _ _ h => h) (Or.inl ⟨by rfl, ?_⟩) ?_ ?_
  rotate_left
  · intro w'
    go_simp
    with_reducible rfl
  rotate_left
  · simp only [Act.put, List.setIfInBounds_toArray, List.set_cons_zero, List.set_cons_succ, i64_w, i32_w]
    rfl
  refine done_ (by kernel_rfl) ?_
  try go_wp2
  go_ret
  exact ⟨by first | rfl | (simp only [i64_w, i32_w]; done) | (simp only [i64_w, i32_w]; rfl) | (simp [errW_none, errW_some] <;> rfl) | (simp [*, errW_none, errW_some] <;> rfl), by repeat (first | (with_reducible first | exact HB.out | apply below_alloc | apply pw_below_drewN | apply below_drew1 | refine below_set ?_ GE101.out) | exact HB.out)⟩

end Go.Proofs.Ythoibokhmkjkdaa.P

namespace Go.Proofs.Ythoibokhmkjkdaa.P
open Go.RowKit Go.Proofs.YthoibokhmkjkdaaW.PrintWords Go.Proofs.YthoibokhmkjkdaaW.PrintLast Go.Proofs.YthoibokhmkjkdaaW.PrintMore Go.Proofs.YthoibokhmkjkdaaW.PrintSq
attribute [local go_sem] max2_int min2_int max_two min_two max_three min_three max_four min_four   -- for this text's walks alone
set_option linter.unusedVariables false
set_option linter.unusedSimpArgs false

/-! ### impl_isFleet_1: function 130 -/
def impl_isFleet_1.f (a0 : Int) : Option (Bool) := (impl_within.f a0 0 3).bind fun t101 => (some (!t101))
set_option maxHeartbeats 8000000 in
set_option maxRecDepth 100000 in
theorem impl_isFleet_1.calls (a0 : Int) (r : Bool) (w : World) (h : impl_isFleet_1.f a0 = some r) :
    Calls Try.prog 130 #[.int .i64 a0] w fun e w' => e = .returned (.bool r) ∧ Drawn0 w w' := by
  have H : ((impl_within.f a0 0 3).bind fun t101 => (some (!t101))) = some r := h
  clear h
  replace H := Option.bind_eq_some_iff.mp H
  obtain ⟨t101, A20, H⟩ := H
  replace H : (some (!t101)) = some r := H
  have A2 := Aside0.mk A20
  clear A20
  obtain rfl := Option.some.inj H
  go_enter Try.func130, Try.ntmps130
  go_wp2_with (first | ((with_reducible refine gate_callee (f := 76) rfl ?_); refine goesL_ (some 4) rfl rfl Try.func76 (by kernel_rfl) rfl #[.int .i64 a0, .int .i64 0, .int .i64 3] rfl lF ?_; (with_reducible refine (impl_within.calls a0 0 3 t101 _ A2.out).mono ?_); rintro e w' ⟨rfl, ⟨nd, rfl⟩⟩; refine ⟨_, rfl, ?_⟩))
  go_ret
  exact ⟨by first | rfl | (simp; done) | (simp [*]; done), by repeat (first | exact Drawn0.refl _ | apply Drawn0.step)⟩

end Go.Proofs.Ythoibokhmkjkdaa.P

namespace Go.Proofs.Ythoibokhmkjkdaa.P
open Go.RowKit Go.Proofs.YthoibokhmkjkdaaW.PrintWords Go.Proofs.YthoibokhmkjkdaaW.PrintLast Go.Proofs.YthoibokhmkjkdaaW.PrintMore
attribute [local go_sem] max2_int min2_int max_two min_two max_three min_three max_four min_four   -- for this text's walks alone
set_option linter.unusedVariables false
set_option linter.unusedSimpArgs false

/-! ### slices_IndexFunc_int64_int64_of_isFleet_1: function 170 -/
def slices_IndexFunc_int64_int64_of_isFleet_1.l0 : Nat → List Int → Int → Int → Option (Int)
  | 0, _, _, _ => none
  | k + 1, x0, x7, x8 => if x8 < x7 then (if 0 ≤ x8 then (if x8 < (x0.length : Int) then ((impl_isFleet_1.f (rd x0 x8)).bind fun t102 => (if t102 = true then (some x8) else (slices_IndexFunc_int64_int64_of_isFleet_1.l0 k x0 x7 (wrap64 (x8 + 1))))) else (none)) else (none)) else (some (-1))
def slices_IndexFunc_int64_int64_of_isFleet_1.f (k : Nat) (l0 : List Int) : Option (Int) := slices_IndexFunc_int64_int64_of_isFleet_1.l0 k l0 (l0.length : Int) 0
theorem slices_IndexFunc_int64_int64_of_isFleet_1.mono_l : ∀ k, (∀ y0 y1 y2, LeO (slices_IndexFunc_int64_int64_of_isFleet_1.l0 k y0 y1 y2) (slices_IndexFunc_int64_int64_of_isFleet_1.l0 (k + 1) y0 y1 y2))
  | 0 => fun _ _ _ r h => by simp [slices_IndexFunc_int64_int64_of_isFleet_1.l0] at h
  | k + 1 => by
    have ih0 := slices_IndexFunc_int64_int64_of_isFleet_1.mono_l k
    · intro y0 y1 y2
      unfold slices_IndexFunc_int64_int64_of_isFleet_1.l0
      repeat' first
      | (with_reducible exact ih0 _ _ _)
      | (with_reducible exact LeO.refl _)
      | (with_reducible exact LeO.none _)
      | (with_reducible refine LeO.ite ?_ ?_)
      | (with_reducible refine LeO.bind ?_ (fun _ => ?_))
      | exact ih0 _ _ _
      | exact LeO.none _
      | refine LeO.ite ?_ ?_
      | refine LeO.bind ?_ (fun _ => ?_)
theorem slices_IndexFunc_int64_int64_of_isFleet_1.mono : ∀ a0 k, LeO (slices_IndexFunc_int64_int64_of_isFleet_1.f k a0) (slices_IndexFunc_int64_int64_of_isFleet_1.f (k + 1) a0) := by
  intro a0 k
  have ih0 := slices_IndexFunc_int64_int64_of_isFleet_1.mono_l k
  unfold slices_IndexFunc_int64_int64_of_isFleet_1.f
  repeat' first
      | (with_reducible exact ih0 _ _ _)
      | (with_reducible exact LeO.refl _)
      | (with_reducible exact LeO.none _)
      | (with_reducible refine LeO.ite ?_ ?_)
      | (with_reducible refine LeO.bind ?_ (fun _ => ?_))
      | exact ih0 _ _ _
      | exact LeO.none _
      | refine LeO.ite ?_ ?_
      | refine LeO.bind ?_ (fun _ => ?_)
set_option maxHeartbeats 8000000 in
set_option maxRecDepth 100000 in
theorem slices_IndexFunc_int64_int64_of_isFleet_1.calls (k : Nat) (A0 : Option Addr) (c0 : Nat) (l0 : List Int) (r : Int) (w : World) (hr0 : Kd.C (Kd.int .i64) w A0 l0.length l0) (hc0 : l0.length ≤ c0) (h : slices_IndexFunc_int64_int64_of_isFleet_1.f k l0 = some r) :
    Calls Try.prog 170 #[.slice A0 l0.length c0, .func (.func 130) #[] #[]] w fun e w' => e = .returned (.int .i64 r) ∧ Drawn0 w w' := by
  have HR0 := Aside0.mk hr0
  have HC0 := Aside0.mk hc0
  clear hr0 hc0
  have H : (slices_IndexFunc_int64_int64_of_isFleet_1.l0 k l0 (l0.length : Int) 0) = some r := h
  clear h
  have H' := Aside0.mk H
  clear H
  go_enter Try.func170, Try.ntmps170
  go_wp2
  go_loopg [8] k (fun kq v8 w' => ∃ (x8_1 : Int), v8 = .int .i64 x8_1 ∧ Aside0 (slices_IndexFunc_int64_int64_of_isFleet_1.l0 kq l0 (l0.length : Int) x8_1 = some r) ∧ Aside0 (kq ≤ k) ∧ Drawn0 w w')
  case atStart => exact ⟨(0), (by first | rfl | (simp; done) | (simp [*]; done) | (simp only [Value.bool.injEq]; rw [Bool.eq_iff_iff]; simp; done)), H', ⟨Nat.le_refl _⟩, by repeat (first | exact Drawn0.refl _ | apply Drawn0.step)⟩
  case round =>
    clear H'
    try clear c1
    obtain ⟨x8_1, rfl, HA, HK1, ⟨m1, rfl⟩⟩ := hrel
    cases gk with
    | zero => exact absurd HA.out (by simp [slices_IndexFunc_int64_int64_of_isFleet_1.l0])
    | succ k1 =>
      have H := HA.out
      clear HA
      simp only [slices_IndexFunc_int64_int64_of_isFleet_1.l0] at H
      by_cases c2 : x8_1 < (l0.length : Int)
      · rw [if_pos c2] at H
        have c2b0 : decide (x8_1 < (l0.length : Int)) = true := decide_eq_true c2
        clear c2
        by_cases c3 : 0 ≤ x8_1
        · rw [if_pos c3] at H
          have c3b0 : decide (0 ≤ x8_1) = true := decide_eq_true c3
          clear c3
          by_cases c4 : x8_1 < (l0.length : Int)
          · rw [if_pos c4] at H
            have c4b0 : decide (x8_1 < (l0.length : Int)) = true := decide_eq_true c4
            clear c4
            replace H := Option.bind_eq_some_iff.mp H
            obtain ⟨t102, A50, H⟩ := H
            replace H : (if t102 = true then (some x8_1) else (slices_IndexFunc_int64_int64_of_isFleet_1.l0 k1 l0 (l0.length : Int) (wrap64 (x8_1 + 1)))) = some r := H
            have A5 := Aside0.mk A50
            clear A50
            by_cases c6 : t102 = true
            · subst c6
              have H1 : (some x8_1) = some r := by rw [if_pos rfl] at H; exact H
              clear H
              have H := H1
              clear H1
              obtain rfl := Option.some.inj H
              have p101 : 0 ≤ (x8_1 : Int) := of_decide_eq_true (by first | (with_reducible assumption) | assumption)
              have q101 : x8_1 < (l0.length : Int) := of_decide_eq_true (by first | (with_reducible assumption) | assumption)
              obtain ⟨ad101, e101, hx101_0⟩ := Kd.at_int HR0.out x8_1 p101 q101
              cases e101
              replace p101 := eq_true p101
              replace q101 := eq_true q101
              go_wp2_with (first | (go_at_call 130; (with_reducible refine (impl_isFleet_1.calls (rd l0 x8_1) true _ A5.out).mono ?_); rintro e w' ⟨rfl, ⟨nd, rfl⟩⟩))
              go_ret
              exact ⟨by first | rfl | (simp; done) | (simp [*]; done), by repeat (first | exact Drawn0.refl _ | apply Drawn0.step)⟩
            · replace c6 := Bool.eq_false_iff.mpr c6
              subst c6
              have H1 : (slices_IndexFunc_int64_int64_of_isFleet_1.l0 k1 l0 (l0.length : Int) (wrap64 (x8_1 + 1))) = some r := by rw [if_neg (show ¬ (false = true) by decide)] at H; exact H
              clear H
              have H := H1
              clear H1
              have H' := Aside0.mk H
              clear H
              have p101 : 0 ≤ (x8_1 : Int) := of_decide_eq_true (by first | (with_reducible assumption) | assumption)
              have q101 : x8_1 < (l0.length : Int) := of_decide_eq_true (by first | (with_reducible assumption) | assumption)
              obtain ⟨ad101, e101, hx101_0⟩ := Kd.at_int HR0.out x8_1 p101 q101
              cases e101
              replace p101 := eq_true p101
              replace q101 := eq_true q101
              go_wp2_with (first | (go_at_call 130; (with_reducible refine (impl_isFleet_1.calls (rd l0 x8_1) false _ A5.out).mono ?_); rintro e w' ⟨rfl, ⟨nd, rfl⟩⟩))
              go_roundg k1
              case measure => have := HK1.out; omega
              case rel => exact ⟨(wrap64 (x8_1 + 1)), (by first | rfl | (simp; done) | (simp [*]; done) | (simp only [Value.bool.injEq]; rw [Bool.eq_iff_iff]; simp; done)), H', ⟨by have := HK1.out; omega⟩, by repeat (first | exact Drawn0.refl _ | apply Drawn0.step)⟩
          · rw [if_neg c4] at H
            exact absurd H (by simp)
        · rw [if_neg c3] at H
          exact absurd H (by simp)
      · rw [if_neg c2] at H
        have c2b0 : decide (x8_1 < (l0.length : Int)) = false := decide_eq_false c2
        clear c2
        obtain rfl := Option.some.inj H
        go_wp2
        go_ret
        exact ⟨by first | rfl | (simp; done) | (simp [*]; done), by repeat (first | exact Drawn0.refl _ | apply Drawn0.step)⟩

end Go.Proofs.Ythoibokhmkjkdaa.P

namespace Go.Proofs.Ythoibokhmkjkdaa.P
open Go.RowKit Go.Proofs.YthoibokhmkjkdaaW.PrintWords Go.Proofs.YthoibokhmkjkdaaW.PrintLast Go.Proofs.YthoibokhmkjkdaaW.PrintMore Go.Proofs.YthoibokhmkjkdaaW.PrintSq
attribute [local go_sem] max2_int min2_int max_two min_two max_three min_three max_four min_four   -- for this text's walks alone
set_option linter.unusedVariables false
set_option linter.unusedSimpArgs false

/-! ### slices_ContainsFunc_int64_int64_of_isFleet_1: function 129 -/
def slices_ContainsFunc_int64_int64_of_isFleet_1.f (k : Nat) (l0 : List Int) : Option (Bool) := (slices_IndexFunc_int64_int64_of_isFleet_1.f k l0).bind fun t101 => (some (decide (t101 ≥ 0)))
theorem slices_ContainsFunc_int64_int64_of_isFleet_1.mono : ∀ a0 k, LeO (slices_ContainsFunc_int64_int64_of_isFleet_1.f k a0) (slices_ContainsFunc_int64_int64_of_isFleet_1.f (k + 1) a0) := by
  intro a0 k
  unfold slices_ContainsFunc_int64_int64_of_isFleet_1.f
  repeat' first
      | (with_reducible exact slices_IndexFunc_int64_int64_of_isFleet_1.mono _ _)
      | (with_reducible exact LeO.refl _)
      | (with_reducible exact LeO.none _)
      | (with_reducible refine LeO.ite ?_ ?_)
      | (with_reducible refine LeO.bind ?_ (fun _ => ?_))
      | exact slices_IndexFunc_int64_int64_of_isFleet_1.mono _ _
      | exact LeO.none _
      | refine LeO.ite ?_ ?_
      | refine LeO.bind ?_ (fun _ => ?_)
set_option maxHeartbeats 8000000 in
set_option maxRecDepth 100000 in
theorem slices_ContainsFunc_int64_int64_of_isFleet_1.calls (k : Nat) (A0 : Option Addr) (c0 : Nat) (l0 : List Int) (r : Bool) (w : World) (hr0 : Kd.C (Kd.int .i64) w A0 l0.length l0) (hc0 : l0.length ≤ c0) (h : slices_ContainsFunc_int64_int64_of_isFleet_1.f k l0 = some r) :
    Calls Try.prog 129 #[.slice A0 l0.length c0, .func (.func 130) #[] #[]] w fun e w' => e = .returned (.bool r) ∧ Drawn0 w w' := by
  have HR0 := Aside0.mk hr0
  have HC0 := Aside0.mk hc0
  clear hr0 hc0
  have H : ((slices_IndexFunc_int64_int64_of_isFleet_1.f k l0).bind fun t101 => (some (decide (t101 ≥ 0)))) = some r := h
  clear h
  replace H := Option.bind_eq_some_iff.mp H
  obtain ⟨t101, A20, H⟩ := H
  replace H : (some (decide (t101 ≥ 0))) = some r := H
  have A2 := Aside0.mk A20
  clear A20
  obtain rfl := Option.some.inj H
  go_enter Try.func129, Try.ntmps129
  go_wp2_with (first | ((with_reducible refine gate_callee (f := 170) rfl ?_); refine goesL_ (some 7) rfl rfl Try.func170 (by kernel_rfl) rfl #[.slice A0 l0.length c0, .func (.func 130) #[] #[]] rfl lF ?_; (with_reducible refine (slices_IndexFunc_int64_int64_of_isFleet_1.calls k _ _ l0 t101 _ ?side1 ?side2 A2.out).mono ?_); (case side1 => repeat (first | exact HR0.out | (with_reducible refine Kd.C_alloc ?_ _) | (with_reducible refine Kd.C_drewN ?_ _) | (with_reducible refine Kd.C_drew ?_))); (case side2 => exact HC0.out); rintro e w' ⟨rfl, ⟨nd, rfl⟩⟩; refine ⟨_, rfl, ?_⟩))
  go_ret
  exact ⟨by first | rfl | (simp; done) | (simp [*]; done), by repeat (first | exact Drawn0.refl _ | apply Drawn0.step)⟩

end Go.Proofs.Ythoibokhmkjkdaa.P
