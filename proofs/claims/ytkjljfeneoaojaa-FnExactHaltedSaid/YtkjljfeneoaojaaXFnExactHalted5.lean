/- What the law FnExactHalted needs, part 6 of 6: the Lean functions of the Go functions that it reaches, with the proofs that the calls come to what they say, and plain facts about them; the last theorem is the law. Conditions: those that each theorem states. Written by a session and by its programs (after the kit's printer). -/
import Derived.Test.YtkjljfeneoaojaaRows
import Derived.WalkKit
import Derived.ProofKit
import Derived.OpenShut
import Derived.ShutString
import Derived.ChangeOld
import Derived.Below
import Derived.SizedLaws
import Derived.Test.YtkjljfeneoaojaaXFnExactHalted0
import Derived.Test.YtkjljfeneoaojaaXFnExactHalted2
import Derived.Test.YtkjljfeneoaojaaXFnExactHalted4
namespace Go.Proofs.Ytkjljfeneoaojaa.Pure
open Go Go.RowKit Go.Proofs.YtkjljfeneoaojaaW.PrintWords Go.Proofs.YtkjljfeneoaojaaW.PrintLast Go.Proofs.YtkjljfeneoaojaaW.PrintMore Go.Proofs.Ytkjljfeneoaojaa.P
theorem toInt64S_ev (l : List Int) (h : l.length ≤ 35184372088832) : Ev (fun k => laws_toInt64S.f k l) l := by
  have h0 := ev_fill (fun k x i => laws_toInt64S.l0 k l x i) l.length 0 (fun i => l.getD i 0) (fun x i hi hx r hr => Ev.step (fun k => by
      simp only [laws_toInt64S.l0]
      rw [if_pos (by omega), if_pos (by omega), if_pos (by omega), Int.toNat_natCast, rd_get, wsucc i (by omega)]) hr)
    (fun x hx => Ev.now' fun k => by simp only [laws_toInt64S.l0]; rw [if_neg (by omega)])
  have e : (List.range l.length).map (fun i => l.getD i 0) = l := by
    have := map_range_get l (fun x => x) 0
    simpa using this
  rw [e] at h0
  refine Ev.congr (fun k => ?_) h0
  unfold laws_toInt64S.f
  rw [if_pos (by omega), if_pos (by omega), Int.toNat_natCast]
theorem eqInt64S_ev (l m : List Int) (h : l.length ≤ 35184372088832) : Ev (fun k => laws_eqInt64S.f k l m) (decide (l = m)) := by
  by_cases hl : l.length = m.length
  · have h0 := ev_all (fun k i => laws_eqInt64S.l0 k l m i) l.length (fun i => decide (l.getD i 0 = m.getD i 0)) false true (fun i hi => ⟨fun hp r hr => Ev.step (fun k => by
        simp only [laws_eqInt64S.l0]
        rw [if_pos (by omega), if_pos (by omega), if_pos (by omega), rd_get, rd_get, if_pos (by simpa using hp), wsucc i (by omega)]) hr, fun hp => Ev.now' fun k => by
        simp only [laws_eqInt64S.l0]
        rw [if_pos (by omega), if_pos (by omega), if_pos (by omega), rd_get, rd_get, if_neg (by simpa using hp)]⟩)
      (Ev.now' fun k => by simp only [laws_eqInt64S.l0]; rw [if_neg (by omega)])
    have e : (if (List.range l.length).all (fun i => decide (l.getD i 0 = m.getD i 0)) = true then true else false) = decide (l = m) := by
      rw [Bool.eq_iff_iff]
      simp only [ite_eq_left_iff, decide_eq_true_eq, List.all_eq_true, List.mem_range]
      constructor
      · intro hh
        have hh' : ∀ i, i < l.length → l.getD i 0 = m.getD i 0 := by
          intro i hi
          rcases Classical.em (∀ x < l.length, l.getD x 0 = m.getD x 0) with h1 | h1
          · exact h1 i hi
          · exact absurd (hh h1) (by simp)
        apply List.ext_getElem hl
        intro i h1 h2
        have := hh' i h1
        simpa [List.getD_eq_getElem?_getD, h1, h2] using this
      · rintro rfl
        intro h1
        exact absurd (fun x _ => rfl) h1
    rw [e] at h0
    refine Ev.congr (fun k => ?_) h0
    unfold laws_eqInt64S.f
    rw [if_pos (by omega)]
  · have e : decide (l = m) = false := decide_eq_false (fun hh => hl (by rw [hh]))
    rw [e]
    exact Ev.all fun k => by unfold laws_eqInt64S.f; rw [if_neg (by omega)]
end Go.Proofs.Ytkjljfeneoaojaa.Pure

namespace Go.Proofs.Ytkjljfeneoaojaa.Pure
open Go Go.RowKit Go.Proofs.YtkjljfeneoaojaaW.PrintWords Go.Proofs.YtkjljfeneoaojaaW.PrintLast Go.Proofs.YtkjljfeneoaojaaW.PrintMore Go.Proofs.Ytkjljfeneoaojaa.P
theorem toFleet_ev (w : List Int) (a b : Int) (s : List Int) (hw : w.length ≤ 35184372088832) (hs : s.length ≤ 35184372088832) : Ev (fun k => laws_toFleet.f k w a b s) (w, a, b, s) := by
  unfold laws_toFleet.f
  exact Ev.bind (toInt64S_ev w hw) (Ev.bind (toInt64S_ev s hs) (Ev.now _))
theorem eqFleet_ev (w : List Int) (a b : Int) (s : List Int) (hw : w.length ≤ 35184372088832) (hs : s.length ≤ 35184372088832) : Ev (fun k => laws_eqFleet.f k w a b s w a b s) true := by
  unfold laws_eqFleet.f
  have h1 := eqInt64S_ev w w hw
  have h2 := eqInt64S_ev s s hs
  rw [decide_eq_true rfl] at h1 h2
  exact Ev.bind h1 (Ev.ifp rfl (Ev.ifp rfl (Ev.ifp rfl (Ev.bind h2 (Ev.ifp rfl (Ev.now _))))))
theorem szFleet_some (w : List Int) (a b : Int) (s : List Int) (z : Int) : ∃ t, laws_szFleet.f w a b s z = some t := by
  unfold laws_szFleet.f laws_szInt64S.f
  repeat' (first | exact ⟨_, rfl⟩ | split | simp only [Option.bind_some])
end Go.Proofs.Ytkjljfeneoaojaa.Pure

namespace Go.Proofs.Ytkjljfeneoaojaa.Pure
open Go.RowKit Go.Proofs.YtkjljfeneoaojaaW.PrintWords Go.Proofs.YtkjljfeneoaojaaW.PrintLast Go.Proofs.Ytkjljfeneoaojaa.P
theorem sHalted_ev (w : List Int) (a b : Int) (s : List Int) (hw : w.length ≤ 35184372088832) (hs : s.length ≤ 35184372088832) : Ev (fun k => spec_Halted.f k w a b s) (fleetB w a b s && decide ((many s 3 : Int) > b)) := by
  unfold spec_Halted.f
  refine Ev.bind (sFleet_ev w a b s hw hs) ?_
  cases fleetB w a b s with
  | false => exact Ev.ifn (by simp) (Ev.now _)
  | true => exact Ev.ifp rfl (Ev.bind (sMany_ev w a b s 3 hs) (Ev.now _))
theorem iHalted_ev (w : List Int) (a b : Int) (s : List Int) (hw : w.length ≤ 35184372088832) (hs : s.length ≤ 35184372088832) : Ev (fun k => impl_Halted.f k w a b s) (fleetB w a b s && decide ((many s 3 : Int) > b)) := by
  unfold impl_Halted.f
  refine Ev.bind (iFleet_ev w a b s hw hs) ?_
  cases fleetB w a b s with
  | false => exact Ev.ifn (by simp) (Ev.now _)
  | true => exact Ev.ifp rfl (Ev.bind (by unfold impl_Fleet_halted.f; exact Ev.bind (count_ev w a b s 3 hs) (Ev.now _)) (Ev.now _))
theorem FnExactHalted : laws_FnExactHalted.Pure := by
  intro w a b s hm1 hy1 _ _ _ hm2 hy2 _
  refine Ev.rounds ?_
  unfold laws_FnExactHalted.f
  obtain ⟨z, hz⟩ := szFleet_some w a b s 1048576
  simp only [hz, Option.bind_some]
  have hw : w.length ≤ 35184372088832 := by omega
  have hs : s.length ≤ 35184372088832 := by omega
  by_cases hneg : z < 0
  · exact Ev.ifp hneg (Ev.now _)
  · refine Ev.ifn hneg (Ev.bind (toFleet_ev w a b s hw hs) (Ev.bind (sHalted_ev w a b s hw hs) (Ev.bind (toFleet_ev w a b s hw hs) (Ev.bind (iHalted_ev w a b s hw hs) (Ev.ifn (by simp) (Ev.bind (toFleet_ev w a b s hw hs) (Ev.bind (eqFleet_ev w a b s hw hs) (Ev.ifp rfl (Ev.now _)))))))))
end Go.Proofs.Ytkjljfeneoaojaa.Pure

namespace Go.Proofs.Ytkjljfeneoaojaa.fnExactHalted
open Go.ChangeShapes Go.WideShapes Go.ChangeAt Go.RowKit Go.Proofs.YtkjljfeneoaojaaO Go.Proofs.YtkjljfeneoaojaaW.PrintWords Go.Proofs.Ytkjljfeneoaojaa.P
open Go.ChangeMaps (open_string shut_string)
set_option linter.unusedVariables false
theorem own : ownKnob Try.prog.godebug = none := by kernel_rfl
theorem laidOut : laidOutB Try.prog = true := by kernel_rfl
theorem o2 : Opens Try.prog 2 (Kd.int .i64) (fun n => (Lit.int .i64 n).wf = true) := opens_int Try.underlying2 (by kernel_rfl : Try.prog.cellsOf 2 = 1)
theorem o68 : Opens Try.prog 68 (Kd.slice 2 (Kd.int .i64)) (fun l => (l.length ≤ maxLen ∧ l.length * 8 ≤ 140737488351232 ∧ ∀ a ∈ l, ok2 a)) := opens_slice Try.underlying68 (by kernel_rfl : Try.prog.cellsOf 68 = 1) (o2 : Opens Try.prog 2 _ ok2) (by kernel_rfl : Try.prog.bytesOf 2 = 8)
theorem q79 : Opens Try.prog 79 (Kd.iso (Kd.pair (Kd.slice 2 (Kd.int .i64)) (Kd.pair (Kd.int .i64) (Kd.pair (Kd.int .i64) (Kd.slice 2 (Kd.int .i64))))) (fun x => x)) (fun x => ((x.1.length ≤ maxLen ∧ x.1.length * 8 ≤ 140737488351232 ∧ ∀ a ∈ x.1, ok2 a) ∧ (Lit.int .i64 x.2.1).wf = true ∧ (Lit.int .i64 x.2.2.1).wf = true ∧ (x.2.2.2.length ≤ maxLen ∧ x.2.2.2.length * 8 ≤ 140737488351232 ∧ ∀ a ∈ x.2.2.2, ok2 a))) := opens_struct (l := [(68, 0), (2, 1), (2, 2), (68, 3)]) (d := (Kd.pair (Kd.slice 2 (Kd.int .i64)) (Kd.pair (Kd.int .i64) (Kd.pair (Kd.int .i64) (Kd.slice 2 (Kd.int .i64)))))) (ok := fun x => ((x.1.length ≤ maxLen ∧ x.1.length * 8 ≤ 140737488351232 ∧ ∀ a ∈ x.1, ok2 a) ∧ (Lit.int .i64 x.2.1).wf = true ∧ (Lit.int .i64 x.2.2.1).wf = true ∧ (x.2.2.2.length ≤ maxLen ∧ x.2.2.2.length * 8 ≤ 140737488351232 ∧ ∀ a ∈ x.2.2.2, ok2 a))) (f := fun x => x) (fun x => x) (fun _ => rfl) Try.underlying79 (by kernel_rfl : Try.prog.cellsOf 79 = 4) rfl (opensL_cons rfl o68 (opensL_cons rfl o2 (opensL_cons rfl o2 (opensL_one o68))))
set_option maxRecDepth 100000 in
theorem lifted (os : Os) (started : os.Started) (H : Type) (enc : TypeId × Value → H) :
    ReturnsInHanded {} Try.checked os 14 .any (Rows.fnExactHaltedSpec.pre6 enc Try.prog Try.f14 Rows.fnExactHaltedRow.domain false) (Rows.fnExactHaltedSpec.post enc Try.prog Try.f14 false true false false) := by
  refine returnsInHanded_of_change_sized (C := Try.checked) own started (by kernel_rfl) Try.func14
    (ChangeSpec.witness6 (enc := enc) (C := Try.checked) false ⟨#[], #[.agg #[.slice none 0 0, .int .i64 0, .int .i64 0, .slice none 0 0]], []⟩ 8 (by kernel_rfl) (by kernel_rfl) (by kernel_rfl) (by kernel_rfl)) ?_
  intro W base args ds gs before hval0 hW hcnd hsz0 _
  have hsz : (DataW.weightsEach Try.prog (Try.f14.params.toList ++ Rows.fnExactHaltedSpec.plain.varTypes Try.prog) (ds ++ gs)).all (· ≤ reachBytes) = true := hsz0
  have hval : ∀ (j : Nat) t v, Try.f14.params[j]? = some t → args[j]? = some v → Value.okWide Try.prog W .any base t v := hval0
  have hW' := hW
  obtain ⟨p, q, hA0, hV, rfl, hfz, hnd⟩ := hW
  have hA : DataW.TrodAll enc Try.prog W 0 (fun _ => true) true Try.f14.params.toList args.toList ds p := hA0
  rw [Try.params14] at hA hval hsz
  obtain ⟨v0, vs0, d0, ds0, p0, q0, hargs, rfl, rfl, h0, r0⟩ := trodAll_cons hA
  obtain ⟨rfl, rfl, rfl⟩ := trodAll_nil r0
  obtain rfl : args = #[v0] := by cases args; simp_all
  obtain ⟨rfl, rfl⟩ := trodVars_none hV
  have lt0 := trod_lt_all h0
  have k0 := h0
  have z0 := weights_arg hsz (j := 0) (t := 79) rfl rfl
  obtain ⟨x0, cs0, rfl, hk0, ok0_⟩ := arg_struct Try.underlying79 (hval 0 79 v0 rfl rfl) h0 z0 q79
  generalize hc0 : cs0.toList = ct0 at hk0
  obtain ⟨_, _, rfl, ⟨A0_, c0_, rfl, l0_, g0_⟩, ⟨_, _, rfl, rfl, ⟨_, _, rfl, rfl, ⟨A1_, c1_, rfl, l1_, g1_⟩⟩⟩⟩ := hk0
  obtain rfl : cs0 = #[.slice A0_ x0.1.length c0_, .int .i64 x0.2.1, .int .i64 x0.2.2.1, .slice A1_ x0.2.2.2.length c1_] := Array.ext' hc0
  clear hA0 hval0 hsz0 hsz
  obtain ⟨k, h⟩ := Pure.FnExactHalted x0.1 x0.2.1 x0.2.2.1 x0.2.2.2 ok0_.1.1 ok0_.1.2.1 ok0_.1.2.2 ok0_.2.1 ok0_.2.2.1 ok0_.2.2.2.1 ok0_.2.2.2.2.1 ok0_.2.2.2.2.2
  refine (laws_FnExactHalted.calls k _ _ x0.1 x0.2.1 x0.2.2.1 _ _ x0.2.2.2 true W g0_ l0_ g1_ l1_ h).mono fun e W' ⟨he, bel0⟩ => ?_
  have bel : Below W.heap.size W W' := bel0
  subst he
  exact ⟨_, rfl, _, _, _, [], _, [], hW', trodAll_mk1 (shut_bool Try.underlying4 _), (trodAll_cons_mk (Below.trod laidOut (by kernel_rfl) (of_decide_eq_true (by kernel_rfl)) k0 bel lt0) trodAll_mk0), rfl, bel.frame _, fun h => by cases h⟩
theorem over : Rows.fnExactHaltedRow.holds Try.pinned (OpenSpec.ofChange Rows.fnExactHaltedSpec) :=
  OpenClaim.holds_of_wide 14 Try.f14 rfl rfl rfl rfl rfl rfl rfl ⟨rfl, rfl, rfl, rfl, rfl⟩ rfl rfl rfl rfl rfl (by kernel_rfl) Try.func14 (by kernel_rfl)
    (of_decide_eq_true (by kernel_rfl)) (by unfold Func.isWrapper; first | (rw [if_pos (by decide +kernel)]; kernel_rfl) | (rw [if_neg (by decide +kernel)]; exact ⟨rfl, rfl⟩))
    (fun os started H enc _ => lifted os started H enc)
theorem proved : Rows.FnExactHaltedSaid := over
#print axioms proved
end Go.Proofs.Ytkjljfeneoaojaa.fnExactHalted
namespace Go.Proofs.Ytkjljfeneoaojaa
/-- The row, under a short name, for the claim. -/
theorem fnExactHalted_holds : Rows.FnExactHaltedSaid := fnExactHalted.proved
end Go.Proofs.Ytkjljfeneoaojaa
