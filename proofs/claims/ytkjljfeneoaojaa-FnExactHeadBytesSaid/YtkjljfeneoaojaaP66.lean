/- Below: Go functions as Lean functions (.f), each with the proof (.calls) that the call comes to just what its Lean function says; conditions: those that each theorem states. Written by a program of this session, after the kit's printer. -/
import Derived.Test.YtkjljfeneoaojaaP0
import Derived.Test.YtkjljfeneoaojaaP91
namespace Go.Proofs.Ytkjljfeneoaojaa.P
open Go.RowKit Go.Proofs.YtkjljfeneoaojaaW.PrintWords Go.Proofs.YtkjljfeneoaojaaW.PrintLast Go.Proofs.YtkjljfeneoaojaaW.PrintMore
attribute [local go_sem] max2_int min2_int max_two min_two max_three min_three max_four min_four   -- for this text's walks alone
set_option linter.unusedVariables false
set_option linter.unusedSimpArgs false

/-! ### impl_seal: function 66 -/
def impl_seal.f (k : Nat) (a0 : ByteArray) : Option (ByteArray) := (impl_crcMore.f k 0 a0).bind fun t286 => ((some (([(t286) % 256, (t286 / 256) % 256, (t286 / 65536) % 256, (t286 / 16777216) % 256] : List Int) : List Int)).bind fun y287 => (if a0.size + (strOfNums y287).size ≤ 9223372036854775807 then (some (a0 ++ (strOfNums y287))) else (none)))
theorem impl_seal.mono : ∀ a0 k, LeO (impl_seal.f k a0) (impl_seal.f (k + 1) a0) := by
  intro a0 k
  unfold impl_seal.f
  repeat' first
      | (with_reducible exact impl_crcMore.mono _ _ _)
      | (with_reducible exact LeO.refl _)
      | (with_reducible exact LeO.none _)
      | (with_reducible refine LeO.ite ?_ ?_)
      | (with_reducible refine LeO.bind ?_ (fun _ => ?_))
      | exact impl_crcMore.mono _ _ _
      | exact LeO.none _
      | refine LeO.ite ?_ ?_
      | refine LeO.bind ?_ (fun _ => ?_)
set_option maxHeartbeats 8000000 in
set_option maxRecDepth 100000 in
theorem impl_seal.calls (k : Nat) (a0 : ByteArray) (r : ByteArray) (w : World) (h : impl_seal.f k a0 = some r) :
    Calls Try.prog 66 #[.string a0] w fun e w' => e = .returned (.string r) ∧ Below w.heap.size w w' := by
  have HB := Aside0.mk (Below.refl w.heap.size w)
  have H : ((impl_crcMore.f k 0 a0).bind fun t286 => ((some (([(t286) % 256, (t286 / 256) % 256, (t286 / 65536) % 256, (t286 / 16777216) % 256] : List Int) : List Int)).bind fun y287 => (if a0.size + (strOfNums y287).size ≤ 9223372036854775807 then (some (a0 ++ (strOfNums y287))) else (none)))) = some r := h
  clear h
  replace H := Option.bind_eq_some_iff.mp H
  obtain ⟨t286, A20, H⟩ := H
  replace H : ((some (([(t286) % 256, (t286 / 256) % 256, (t286 / 65536) % 256, (t286 / 16777216) % 256] : List Int) : List Int)).bind fun y287 => (if a0.size + (strOfNums y287).size ≤ 9223372036854775807 then (some (a0 ++ (strOfNums y287))) else (none))) = some r := H
  have A2 := Aside0.mk A20
  clear A20
  obtain ⟨y287, hy287⟩ : ∃ y_ : List Int, y_ = (([(t286) % 256, (t286 / 256) % 256, (t286 / 65536) % 256, (t286 / 16777216) % 256] : List Int)) := ⟨_, rfl⟩
  replace H : (if a0.size + (strOfNums y287).size ≤ 9223372036854775807 then (some (a0 ++ (strOfNums y287))) else (none)) = some r := by first | (rw [hy287]; with_reducible exact H) | (have H2_ := (Option.bind_some _ _).symm.trans H; rw [hy287]; with_reducible exact H2_) | (have H2_ := (Option.bind_some _ _).symm.trans H; with_reducible exact H2_) | with_reducible exact H | (rw [hy287]; exact H) | exact H
  have Ny287 := Aside0.mk hy287
  clear hy287
  by_cases c3 : a0.size + (strOfNums y287).size ≤ 9223372036854775807
  · rw [if_pos c3] at H
    have c3b0 := eq_true c3
    have c3b1 : decide (a0.size + (strOfNums y287).size ≤ 9223372036854775807) = true := decide_eq_true c3
    try have c3b2 : (9223372036854775807 < a0.size + (strOfNums y287).size) = False := eq_false (Nat.not_lt.2 c3)
    obtain rfl := Option.some.inj H
    go_enter Try.func66, Try.ntmps66
    go_wp2_with (first | ((with_reducible refine gate_callee (f := 91) rfl ?_); refine goesL_ (some 5) rfl rfl Try.func91 (by kernel_rfl) rfl #[.int .u32 0, .string a0] rfl (by (try simp only [List.map_toArray, List.map_cons, List.map_nil]); first | done | rfl | (simp only [List.length_drop, List.length_take]; rfl)) ?_; (with_reducible refine (impl_crcMore.calls k 0 a0 t286 _ A2.out).mono ?_); rintro e w' ⟨rfl, ⟨nd, rfl⟩⟩; refine ⟨_, rfl, ?_⟩) | ((with_reducible refine gate_dst (N := 18) rfl ?_); refine Kd.R_lit (Kd.int .u8) _ 5 ?hg (N := 18) ?hd (xs := ([(t286) % 256, (t286 / 256) % 256, (t286 / 65536) % 256, (t286 / 16777216) % 256] : List Int)) (inner := [.int .u8 ((t286) % 256), .int .u8 ((t286 / 256) % 256), .int .u8 ((t286 / 65536) % 256), .int .u8 ((t286 / 16777216) % 256)]) (ok := fun _ => True) (okp := fun _ => True) ?hr ?hp (fun _ hk => hk) trivial (Below.refl _ _) (Nat.le_refl _) (by simp) ?_; (case hd => rfl); (case hg => rfl); (case hr => first | (go_simp; done) | (go_simp; rfl)); (case hp => exact (Reps.one (show Kd.M (Kd.int .u8) _ _ _ ((t286) % 256) [.int .u8 ((t286) % 256)] from rfl) (Reps.one (show Kd.M (Kd.int .u8) _ _ _ ((t286 / 256) % 256) [.int .u8 ((t286 / 256) % 256)] from rfl) (Reps.one (show Kd.M (Kd.int .u8) _ _ _ ((t286 / 65536) % 256) [.int .u8 ((t286 / 65536) % 256)] from rfl) (Reps.one (show Kd.M (Kd.int .u8) _ _ _ ((t286 / 16777216) % 256) [.int .u8 ((t286 / 16777216) % 256)] from rfl) (Reps.none _ _)))))); intro v288 w4 ho5 hb hg_ hnew_; clear hg_ hnew_; (first | rw [← Ny287.out] at ho5 | (simp only [Int.reduceToNat] at ho5; rw [← Ny287.out] at ho5)); have n0_ := Aside0.mk (Kd.R_lower ho5 (below_size (by repeat (first | (with_reducible first | exact HB.out | apply below_alloc | apply pw_below_drewN | apply below_drew1) | exact HB.out)))); have n1_ := Aside0.mk (below_step (by repeat (first | (with_reducible first | exact HB.out | apply below_alloc | apply pw_below_drewN | apply below_drew1) | exact HB.out)) hb); clear HB; have HO289 := n0_; have HB := n1_; clear n0_ n1_; clear hb ho5; have hcv6 := own_string (P := Try.prog) Try.underlying66 Try.underlying5 Try.underlying9 (Kd.own_of_R HO289.out)))
    go_ret
    exact ⟨by first | rfl | (simp only [i64_w, i32_w]; done) | (simp only [i64_w, i32_w]; rfl) | (simp [errW_none, errW_some] <;> rfl) | (simp [*, errW_none, errW_some] <;> rfl), by repeat (first | (with_reducible first | exact HB.out | apply below_alloc | apply pw_below_drewN | apply below_drew1) | exact HB.out)⟩
  · rw [if_neg c3] at H
    exact absurd H (by simp)

end Go.Proofs.Ytkjljfeneoaojaa.P
