/- The law FnExactTrustBytes: called with any arguments it returns true, and its arguments read as they did. Conditions: none beyond the row's own. Written by a program of this session. -/
import Derived.Test.YtkjljfeneoaojaaRows
import Derived.Test.YtkjljfeneoaojaaOpen
import Derived.Test.YtkjljfeneoaojaaQFnExactTrustBytes
import Derived.Test.YtkjljfeneoaojaaPureFnExactTrustBytes
import Derived.WalkKit
import Derived.ProofKit
import Derived.OpenShut
import Derived.ShutString
import Derived.ChangeOld
import Derived.Below
import Derived.SizedLaws
namespace Go.Proofs.Ytkjljfeneoaojaa.fnExactTrustBytes
open Go.ChangeShapes Go.WideShapes Go.ChangeAt Go.RowKit Go.Proofs.YtkjljfeneoaojaaO Go.Proofs.YtkjljfeneoaojaaW.PrintWords Go.Proofs.Ytkjljfeneoaojaa.P
open Go.ChangeMaps (open_string shut_string)
set_option linter.unusedVariables false
theorem own : ownKnob Try.prog.godebug = none := by kernel_rfl
theorem laidOut : laidOutB Try.prog = true := by kernel_rfl
theorem o2 : Opens Try.prog 2 (Kd.int .i64) (fun n => (Lit.int .i64 n).wf = true) := opens_int Try.underlying2 (by kernel_rfl : Try.prog.cellsOf 2 = 1)
theorem q23 : Opens Try.prog 23 (Kd.iso (Kd.pair (Kd.int .i64) (Kd.int .i64)) (fun x => x)) (fun x => ((Lit.int .i64 x.1).wf = true ∧ (Lit.int .i64 x.2).wf = true)) := opens_struct (l := [(2, 0), (2, 1)]) (d := (Kd.pair (Kd.int .i64) (Kd.int .i64))) (ok := fun x => ((Lit.int .i64 x.1).wf = true ∧ (Lit.int .i64 x.2).wf = true)) (f := fun x => x) (fun x => x) (fun _ => rfl) Try.underlying23 (by kernel_rfl : Try.prog.cellsOf 23 = 2) rfl (opensL_cons rfl o2 (opensL_one o2))
set_option maxRecDepth 100000 in
theorem lifted (os : Os) (started : os.Started) (H : Type) (enc : TypeId × Value → H) :
    ReturnsInHanded {} Try.checked os 9 .any (Rows.fnExactTrustBytesSpec.pre6 enc Try.prog Try.f9 Rows.fnExactTrustBytesRow.domain false) (Rows.fnExactTrustBytesSpec.post enc Try.prog Try.f9 false true false false) := by
  refine returnsInHanded_of_change_sized (C := Try.checked) own started (by kernel_rfl) Try.func9
    (ChangeSpec.witness6 (enc := enc) (C := Try.checked) false ⟨#[], #[.agg #[.int .i64 0, .int .i64 0]], []⟩ 8 (by kernel_rfl) (by kernel_rfl) (by kernel_rfl) (by kernel_rfl)) ?_
  intro W base args ds gs before hval0 hW hcnd hsz0 _
  have hsz : (DataW.weightsEach Try.prog (Try.f9.params.toList ++ Rows.fnExactTrustBytesSpec.plain.varTypes Try.prog) (ds ++ gs)).all (· ≤ reachBytes) = true := hsz0
  have hval : ∀ (j : Nat) t v, Try.f9.params[j]? = some t → args[j]? = some v → Value.okWide Try.prog W .any base t v := hval0
  have hW' := hW
  obtain ⟨p, q, hA0, hV, rfl, hfz, hnd⟩ := hW
  have hA : DataW.TrodAll enc Try.prog W 0 (fun _ => true) true Try.f9.params.toList args.toList ds p := hA0
  rw [Try.params9] at hA hval hsz
  obtain ⟨v0, vs0, d0, ds0, p0, q0, hargs, rfl, rfl, h0, r0⟩ := trodAll_cons hA
  obtain ⟨rfl, rfl, rfl⟩ := trodAll_nil r0
  obtain rfl : args = #[v0] := by cases args; simp_all
  obtain ⟨rfl, rfl⟩ := trodVars_none hV
  have lt0 := trod_lt_all h0
  have k0 := h0
  have z0 := weights_arg hsz (j := 0) (t := 23) rfl rfl
  obtain ⟨x0, cs0, rfl, hk0, ok0_⟩ := arg_struct Try.underlying23 (hval 0 23 v0 rfl rfl) h0 z0 q23
  generalize hc0 : cs0.toList = ct0 at hk0
  obtain ⟨_, _, rfl, rfl, rfl⟩ := hk0
  obtain rfl : cs0 = #[.int .i64 x0.1, .int .i64 x0.2] := Array.ext' hc0
  clear hA0 hval0 hsz0 hsz
  obtain ⟨k, h⟩ := Pure.FnExactTrustBytes x0.1 x0.2 ok0_.1 ok0_.2
  refine (laws_FnExactTrustBytes.calls k x0.1 x0.2 true W h).mono fun e W' ⟨he, bel0⟩ => ?_
  have bel : Below W.heap.size W W' := bel0
  subst he
  exact ⟨_, rfl, _, _, _, [], _, [], hW', trodAll_mk1 (shut_bool Try.underlying4 _), (trodAll_cons_mk (Below.trod laidOut (by kernel_rfl) (of_decide_eq_true (by kernel_rfl)) k0 bel lt0) trodAll_mk0), rfl, bel.frame _, fun h => by cases h⟩
theorem over : Rows.fnExactTrustBytesRow.holds Try.pinned (OpenSpec.ofChange Rows.fnExactTrustBytesSpec) :=
  OpenClaim.holds_of_wide 9 Try.f9 rfl rfl rfl rfl rfl rfl rfl ⟨rfl, rfl, rfl, rfl, rfl⟩ rfl rfl rfl rfl rfl (by kernel_rfl) Try.func9 (by kernel_rfl)
    (of_decide_eq_true (by kernel_rfl)) (by unfold Func.isWrapper; first | (rw [if_pos (by decide +kernel)]; kernel_rfl) | (rw [if_neg (by decide +kernel)]; exact ⟨rfl, rfl⟩))
    (fun os started H enc _ => lifted os started H enc)
theorem proved : Rows.FnExactTrustBytesSaid := over
#print axioms proved
end Go.Proofs.Ytkjljfeneoaojaa.fnExactTrustBytes
namespace Go.Proofs.Ytkjljfeneoaojaa
/-- The row, under a short name, for the claim. -/
theorem fnExactTrustBytes_holds : Rows.FnExactTrustBytesSaid := fnExactTrustBytes.proved
end Go.Proofs.Ytkjljfeneoaojaa
