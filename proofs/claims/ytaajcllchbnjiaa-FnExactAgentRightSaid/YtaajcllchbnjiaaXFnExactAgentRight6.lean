/- What the law FnExactAgentRight needs, part 7 of 8: the Lean functions of the Go functions that it reaches, with the proofs that the calls come to what they say, and plain facts about them. Conditions: those that each theorem states. Written by a session and by its programs (after the kit's printer). -/
import Derived.Test.YtaajcllchbnjiaaXFnExactAgentRight5
namespace Go.Proofs.YtaajcllchbnjiaaE
open Go Go.RowKit
set_option linter.unusedVariables false
def impl_stepsCode_1 (a1 : G45) (a2 : Int) : Option (Bool) :=
  Option.bind (impl_isStep a1 a2) fun v3 =>
  some (!v3)
def impl_stepsCode_1.sig : Sig := { ps := [.val true T45 (ros T45), .rptr (.int .i64)], rs := [.val false [.v .bool]], ntmps := 8 }
def impl_stepsCode_1.con (k : Nat) : Con := impl_stepsCode_1.sig.con (fun x => impl_stepsCode_1 x.1 x.2)
def impl_stepsCode_1.C (k : Nat) : Ctx := { ti := TAB, con := conL [(61, impl_isStep.con k)] }
theorem impl_stepsCode_1.cok (k : Nat) : CtxOk Try.prog (impl_stepsCode_1.C k) := ctx_ok TABok ⟨impl_isStep.ok k, trivial⟩
theorem impl_stepsCode_1.ev (k : Nat) (x : Prod' impl_stepsCode_1.sig.ins) : impl_stepsCode_1.sig.ev (impl_stepsCode_1.C k) .auto Try.f60.results.toList (cB Try.f60) x = impl_stepsCode_1 x.1 x.2 := by kernel_rfl
theorem impl_stepsCode_1.ok (k : Nat) : ConOk Try.prog 60 (impl_stepsCode_1.con k) := sig_ok (p := .auto) (impl_stepsCode_1.cok k) Try.func60 (by kernel_rfl) (show Try.f60.body = some (cB Try.f60) by kernel_rfl) (by kernel_rfl) (by kernel_rfl) (plan_of (L := []) (by kernel_rfl) trivial) (fun x y h => (impl_stepsCode_1.ev k x).trans h)
def slices_IndexFunc_impl_Step_stepsCode_1.l0 : Nat → List G45 → Int → Int → Int → Option (Int ⊕ (Int × Int))
  | 0, _, _, _, _ => none
  | j + 1, a1, a2, a3, a4 =>
    bif decide (a3 < a2) then
      Option.bind (at? a1 a3) fun v5 =>
      Option.bind (impl_stepsCode_1 v5 a4) fun v6 =>
      bif v6 then
        some (.inr (a3, a4))
      else
      slices_IndexFunc_impl_Step_stepsCode_1.l0 j a1 a2 (IntKind.wrap .i64 (a3 + 1)) a4
    else
    some (.inl a4)
def slices_IndexFunc_impl_Step_stepsCode_1 (k : Nat) (a1 : List G45) (a2 : Int) : Option (Int × Int) :=
  Option.bind (slices_IndexFunc_impl_Step_stepsCode_1.l0 k a1 ((a1.length) : Int) 0 a2) fun
    | .inl y3 =>
      some ((-1), y3)
    | .inr y4 =>
      some (y4.1, y4.2)
def slices_IndexFunc_impl_Step_stepsCode_1.sig : Sig := { ps := [.val false (.sl T45) (ros (.sl T45)), .fn 60 [(2, (.int .i64), (kept (.int .i64)))]], rs := [.val false [.v (.int .i64)]], ntmps := 19 }
def slices_IndexFunc_impl_Step_stepsCode_1.con (k : Nat) : Con := slices_IndexFunc_impl_Step_stepsCode_1.sig.con (fun x => slices_IndexFunc_impl_Step_stepsCode_1 k x.1 x.2)
def slices_IndexFunc_impl_Step_stepsCode_1.C (k : Nat) : Ctx := { ti := TAB, con := conL [(60, impl_stepsCode_1.con k)] }
theorem slices_IndexFunc_impl_Step_stepsCode_1.cok (k : Nat) : CtxOk Try.prog (slices_IndexFunc_impl_Step_stepsCode_1.C k) := ctx_ok TABok ⟨impl_stepsCode_1.ok k, trivial⟩
def slices_IndexFunc_impl_Step_stepsCode_1.l0.ish : Shape := { tmps := [(0, .one (.bor T45)), (1, .fn 60 [.ptr 0 0]), (7, .one (.v (.int .i64))), (8, .one (.v (.int .i64)))], slots := [(0, .box 2 [.v (.int .i64)])], nb := 1 }
def slices_IndexFunc_impl_Step_stepsCode_1.l0.outs : List (Ex × Shape) := [(.exit 0, { tmps := [], slots := [(0, .box 2 [.v (.int .i64)])], nb := 1 }), (.ret, { tmps := [(4, .one (.v (.int .i64)))], slots := [(0, .box 2 [.v (.int .i64)])], nb := 1 })]
def slices_IndexFunc_impl_Step_stepsCode_1.l0.F (k j : Nat) (x : Prod' slices_IndexFunc_impl_Step_stepsCode_1.l0.ish.tys) : Option (Outs slices_IndexFunc_impl_Step_stepsCode_1.l0.outs) := slices_IndexFunc_impl_Step_stepsCode_1.l0 j x.1 x.2.1 x.2.2.1 x.2.2.2
def slices_IndexFunc_impl_Step_stepsCode_1.l0.s (k : Nat) : Summ := { n := 19, ish := slices_IndexFunc_impl_Step_stepsCode_1.l0.ish, outs := slices_IndexFunc_impl_Step_stepsCode_1.l0.outs, f := slices_IndexFunc_impl_Step_stepsCode_1.l0.F k k }
theorem slices_IndexFunc_impl_Step_stepsCode_1.l0.ev (k j : Nat) (x : Prod' slices_IndexFunc_impl_Step_stepsCode_1.l0.ish.tys) : V (slices_IndexFunc_impl_Step_stepsCode_1.C k) .auto (cO (cO (cR (cL (cR (cB Try.f69)))))) (mk slices_IndexFunc_impl_Step_stepsCode_1.l0.ish 19 x) (fun e st' => match e with | .nrm => (rd slices_IndexFunc_impl_Step_stepsCode_1.l0.ish st').bind (slices_IndexFunc_impl_Step_stepsCode_1.l0.F k j) | e => rdOut e st' slices_IndexFunc_impl_Step_stepsCode_1.l0.outs) = slices_IndexFunc_impl_Step_stepsCode_1.l0.F k (j + 1) x := by kernel_rfl
theorem slices_IndexFunc_impl_Step_stepsCode_1.l0.ok (k : Nat) : SumOk Try.prog (slices_IndexFunc_impl_Step_stepsCode_1.C k) (.loop (cO (cO (cR (cL (cR (cB Try.f69))))))) (slices_IndexFunc_impl_Step_stepsCode_1.l0.s k) := sum_ok (by kernel_rfl) (sum_loop (p := .auto) (F := slices_IndexFunc_impl_Step_stepsCode_1.l0.F k) (slices_IndexFunc_impl_Step_stepsCode_1.cok k) (by kernel_rfl) (plan_of (L := []) (by kernel_rfl) trivial) (fun _ => rfl) (fun j x y h => (slices_IndexFunc_impl_Step_stepsCode_1.l0.ev k j x).trans h) k rfl)
theorem slices_IndexFunc_impl_Step_stepsCode_1.ev (k : Nat) (x : Prod' slices_IndexFunc_impl_Step_stepsCode_1.sig.ins) : slices_IndexFunc_impl_Step_stepsCode_1.sig.ev (slices_IndexFunc_impl_Step_stepsCode_1.C k) (.two .auto (.two (.two .auto (.one (.sum (slices_IndexFunc_impl_Step_stepsCode_1.l0.s k)))) .auto)) Try.f69.results.toList (cB Try.f69) x = slices_IndexFunc_impl_Step_stepsCode_1 k x.1 x.2 := by kernel_rfl
theorem slices_IndexFunc_impl_Step_stepsCode_1.ok (k : Nat) : ConOk Try.prog 69 (slices_IndexFunc_impl_Step_stepsCode_1.con k) := sig_ok (p := (.two .auto (.two (.two .auto (.one (.sum (slices_IndexFunc_impl_Step_stepsCode_1.l0.s k)))) .auto))) (slices_IndexFunc_impl_Step_stepsCode_1.cok k) Try.func69 (by kernel_rfl) (show Try.f69.body = some (cB Try.f69) by kernel_rfl) (by kernel_rfl) (by kernel_rfl) (plan_of (L := [(slices_IndexFunc_impl_Step_stepsCode_1.l0.s k, cO (cR (cL (cR (cB Try.f69)))))]) (by kernel_rfl) ⟨slices_IndexFunc_impl_Step_stepsCode_1.l0.ok k, trivial⟩) (fun x y h => (slices_IndexFunc_impl_Step_stepsCode_1.ev k x).trans h)
def slices_ContainsFunc_impl_Step_stepsCode_1 (k : Nat) (a1 : List G45) (a2 : Int) : Option (Bool × Int) :=
  Option.bind (slices_IndexFunc_impl_Step_stepsCode_1 k a1 a2) fun v3 =>
  some (decide (0 ≤ v3.1), v3.2)
def slices_ContainsFunc_impl_Step_stepsCode_1.sig : Sig := { ps := [.val false (.sl T45) (ros (.sl T45)), .fn 60 [(2, (.int .i64), (kept (.int .i64)))]], rs := [.val false [.v .bool]], ntmps := 9 }
def slices_ContainsFunc_impl_Step_stepsCode_1.con (k : Nat) : Con := slices_ContainsFunc_impl_Step_stepsCode_1.sig.con (fun x => slices_ContainsFunc_impl_Step_stepsCode_1 k x.1 x.2)
def slices_ContainsFunc_impl_Step_stepsCode_1.C (k : Nat) : Ctx := { ti := TAB, con := conL [(69, slices_IndexFunc_impl_Step_stepsCode_1.con k)] }
theorem slices_ContainsFunc_impl_Step_stepsCode_1.cok (k : Nat) : CtxOk Try.prog (slices_ContainsFunc_impl_Step_stepsCode_1.C k) := ctx_ok TABok ⟨slices_IndexFunc_impl_Step_stepsCode_1.ok k, trivial⟩
theorem slices_ContainsFunc_impl_Step_stepsCode_1.ev (k : Nat) (x : Prod' slices_ContainsFunc_impl_Step_stepsCode_1.sig.ins) : slices_ContainsFunc_impl_Step_stepsCode_1.sig.ev (slices_ContainsFunc_impl_Step_stepsCode_1.C k) .auto Try.f59.results.toList (cB Try.f59) x = slices_ContainsFunc_impl_Step_stepsCode_1 k x.1 x.2 := by kernel_rfl
theorem slices_ContainsFunc_impl_Step_stepsCode_1.ok (k : Nat) : ConOk Try.prog 59 (slices_ContainsFunc_impl_Step_stepsCode_1.con k) := sig_ok (p := .auto) (slices_ContainsFunc_impl_Step_stepsCode_1.cok k) Try.func59 (by kernel_rfl) (show Try.f59.body = some (cB Try.f59) by kernel_rfl) (by kernel_rfl) (by kernel_rfl) (plan_of (L := []) (by kernel_rfl) trivial) (fun x y h => (slices_ContainsFunc_impl_Step_stepsCode_1.ev k x).trans h)
def impl_touches_1 (a1 : G45) (a2 : Int) : Option (Bool) :=
  some ((a1.1 != 5) && (a1.2.1 == a2))
def impl_touches_1.sig : Sig := { ps := [.val true T45 (ros T45), .rptr (.int .i64)], rs := [.val false [.v .bool]], ntmps := 13 }
def impl_touches_1.con (k : Nat) : Con := impl_touches_1.sig.con (fun x => impl_touches_1 x.1 x.2)
def impl_touches_1.C (k : Nat) : Ctx := { ti := TAB, con := conL [] }
theorem impl_touches_1.cok (k : Nat) : CtxOk Try.prog (impl_touches_1.C k) := ctx_ok TABok trivial
theorem impl_touches_1.ev (k : Nat) (x : Prod' impl_touches_1.sig.ins) : impl_touches_1.sig.ev (impl_touches_1.C k) .auto Try.f71.results.toList (cB Try.f71) x = impl_touches_1 x.1 x.2 := by kernel_rfl
theorem impl_touches_1.ok (k : Nat) : ConOk Try.prog 71 (impl_touches_1.con k) := sig_ok (p := .auto) (impl_touches_1.cok k) Try.func71 (by kernel_rfl) (show Try.f71.body = some (cB Try.f71) by kernel_rfl) (by kernel_rfl) (by kernel_rfl) (plan_of (L := []) (by kernel_rfl) trivial) (fun x y h => (impl_touches_1.ev k x).trans h)
def slices_IndexFunc_impl_Step_touches_1.l0 : Nat → List G45 → Int → Int → Int → Option (Int ⊕ (Int × Int))
  | 0, _, _, _, _ => none
  | j + 1, a1, a2, a3, a4 =>
    bif decide (a3 < a2) then
      Option.bind (at? a1 a3) fun v5 =>
      Option.bind (impl_touches_1 v5 a4) fun v6 =>
      bif v6 then
        some (.inr (a3, a4))
      else
      slices_IndexFunc_impl_Step_touches_1.l0 j a1 a2 (IntKind.wrap .i64 (a3 + 1)) a4
    else
    some (.inl a4)
def slices_IndexFunc_impl_Step_touches_1 (k : Nat) (a1 : List G45) (a2 : Int) : Option (Int × Int) :=
  Option.bind (slices_IndexFunc_impl_Step_touches_1.l0 k a1 ((a1.length) : Int) 0 a2) fun
    | .inl y3 =>
      some ((-1), y3)
    | .inr y4 =>
      some (y4.1, y4.2)
def slices_IndexFunc_impl_Step_touches_1.sig : Sig := { ps := [.val false (.sl T45) (ros (.sl T45)), .fn 71 [(2, (.int .i64), (kept (.int .i64)))]], rs := [.val false [.v (.int .i64)]], ntmps := 19 }
def slices_IndexFunc_impl_Step_touches_1.con (k : Nat) : Con := slices_IndexFunc_impl_Step_touches_1.sig.con (fun x => slices_IndexFunc_impl_Step_touches_1 k x.1 x.2)
def slices_IndexFunc_impl_Step_touches_1.C (k : Nat) : Ctx := { ti := TAB, con := conL [(71, impl_touches_1.con k)] }
theorem slices_IndexFunc_impl_Step_touches_1.cok (k : Nat) : CtxOk Try.prog (slices_IndexFunc_impl_Step_touches_1.C k) := ctx_ok TABok ⟨impl_touches_1.ok k, trivial⟩
def slices_IndexFunc_impl_Step_touches_1.l0.ish : Shape := { tmps := [(0, .one (.bor T45)), (1, .fn 71 [.ptr 0 0]), (7, .one (.v (.int .i64))), (8, .one (.v (.int .i64)))], slots := [(0, .box 2 [.v (.int .i64)])], nb := 1 }
def slices_IndexFunc_impl_Step_touches_1.l0.outs : List (Ex × Shape) := [(.exit 0, { tmps := [], slots := [(0, .box 2 [.v (.int .i64)])], nb := 1 }), (.ret, { tmps := [(4, .one (.v (.int .i64)))], slots := [(0, .box 2 [.v (.int .i64)])], nb := 1 })]
def slices_IndexFunc_impl_Step_touches_1.l0.F (k j : Nat) (x : Prod' slices_IndexFunc_impl_Step_touches_1.l0.ish.tys) : Option (Outs slices_IndexFunc_impl_Step_touches_1.l0.outs) := slices_IndexFunc_impl_Step_touches_1.l0 j x.1 x.2.1 x.2.2.1 x.2.2.2
def slices_IndexFunc_impl_Step_touches_1.l0.s (k : Nat) : Summ := { n := 19, ish := slices_IndexFunc_impl_Step_touches_1.l0.ish, outs := slices_IndexFunc_impl_Step_touches_1.l0.outs, f := slices_IndexFunc_impl_Step_touches_1.l0.F k k }
theorem slices_IndexFunc_impl_Step_touches_1.l0.ev (k j : Nat) (x : Prod' slices_IndexFunc_impl_Step_touches_1.l0.ish.tys) : V (slices_IndexFunc_impl_Step_touches_1.C k) .auto (cO (cO (cR (cL (cR (cB Try.f69)))))) (mk slices_IndexFunc_impl_Step_touches_1.l0.ish 19 x) (fun e st' => match e with | .nrm => (rd slices_IndexFunc_impl_Step_touches_1.l0.ish st').bind (slices_IndexFunc_impl_Step_touches_1.l0.F k j) | e => rdOut e st' slices_IndexFunc_impl_Step_touches_1.l0.outs) = slices_IndexFunc_impl_Step_touches_1.l0.F k (j + 1) x := by kernel_rfl
theorem slices_IndexFunc_impl_Step_touches_1.l0.ok (k : Nat) : SumOk Try.prog (slices_IndexFunc_impl_Step_touches_1.C k) (.loop (cO (cO (cR (cL (cR (cB Try.f69))))))) (slices_IndexFunc_impl_Step_touches_1.l0.s k) := sum_ok (by kernel_rfl) (sum_loop (p := .auto) (F := slices_IndexFunc_impl_Step_touches_1.l0.F k) (slices_IndexFunc_impl_Step_touches_1.cok k) (by kernel_rfl) (plan_of (L := []) (by kernel_rfl) trivial) (fun _ => rfl) (fun j x y h => (slices_IndexFunc_impl_Step_touches_1.l0.ev k j x).trans h) k rfl)
theorem slices_IndexFunc_impl_Step_touches_1.ev (k : Nat) (x : Prod' slices_IndexFunc_impl_Step_touches_1.sig.ins) : slices_IndexFunc_impl_Step_touches_1.sig.ev (slices_IndexFunc_impl_Step_touches_1.C k) (.two .auto (.two (.two .auto (.one (.sum (slices_IndexFunc_impl_Step_touches_1.l0.s k)))) .auto)) Try.f69.results.toList (cB Try.f69) x = slices_IndexFunc_impl_Step_touches_1 k x.1 x.2 := by kernel_rfl
theorem slices_IndexFunc_impl_Step_touches_1.ok (k : Nat) : ConOk Try.prog 69 (slices_IndexFunc_impl_Step_touches_1.con k) := sig_ok (p := (.two .auto (.two (.two .auto (.one (.sum (slices_IndexFunc_impl_Step_touches_1.l0.s k)))) .auto))) (slices_IndexFunc_impl_Step_touches_1.cok k) Try.func69 (by kernel_rfl) (show Try.f69.body = some (cB Try.f69) by kernel_rfl) (by kernel_rfl) (by kernel_rfl) (plan_of (L := [(slices_IndexFunc_impl_Step_touches_1.l0.s k, cO (cR (cL (cR (cB Try.f69)))))]) (by kernel_rfl) ⟨slices_IndexFunc_impl_Step_touches_1.l0.ok k, trivial⟩) (fun x y h => (slices_IndexFunc_impl_Step_touches_1.ev k x).trans h)
def impl_touches (k : Nat) (a1 : List G45) (a2 : Int) : Option (Int) :=
  Option.bind (slices_IndexFunc_impl_Step_touches_1 k a1 a2) fun v3 =>
  some v3.1
def impl_touches.sig : Sig := { ps := [.val false (.sl T45) (ros (.sl T45)), .val false (.int .i64) (ros (.int .i64))], rs := [.val false [.v (.int .i64)]], ntmps := 8 }
def impl_touches.con (k : Nat) : Con := impl_touches.sig.con (fun x => impl_touches k x.1 x.2)
def impl_touches.C (k : Nat) : Ctx := { ti := TAB, con := conL [(69, slices_IndexFunc_impl_Step_touches_1.con k)] }
theorem impl_touches.cok (k : Nat) : CtxOk Try.prog (impl_touches.C k) := ctx_ok TABok ⟨slices_IndexFunc_impl_Step_touches_1.ok k, trivial⟩
theorem impl_touches.ev (k : Nat) (x : Prod' impl_touches.sig.ins) : impl_touches.sig.ev (impl_touches.C k) .auto Try.f62.results.toList (cB Try.f62) x = impl_touches k x.1 x.2 := by kernel_rfl
theorem impl_touches.ok (k : Nat) : ConOk Try.prog 62 (impl_touches.con k) := sig_ok (p := .auto) (impl_touches.cok k) Try.func62 (by kernel_rfl) (show Try.f62.body = some (cB Try.f62) by kernel_rfl) (by kernel_rfl) (by kernel_rfl) (plan_of (L := []) (by kernel_rfl) trivial) (fun x y h => (impl_touches.ev k x).trans h)
def impl_stepsCode.l0 (k : Nat) : Nat → List G45 → Int → Bool → List G45 → Int → Int → Option (Bool ⊕ Int)
  | 0, _, _, _, _, _, _ => none
  | j + 1, a1, a2, a3, a4, a5, a6 =>
    bif decide (a6 < a5) then
      Option.bind (at? a4 a6) fun v7 =>
      let e8 := IntKind.wrap .i64 (a6 + 1)
      bif v7.1 != 5 then
        Option.bind (impl_touches k a1 v7.2.1) fun v9 =>
        bif decide (v9 < a6) then
          some (.inr 12)
        else
        impl_stepsCode.l0 k j a1 a2 a3 a4 a5 e8
      else
      impl_stepsCode.l0 k j a1 v7.2.2.1 (a3 && (decide (a2 < v7.2.2.1))) a4 a5 e8
    else
    some (.inl a3)
def impl_stepsCode (k : Nat) (a1 : List G45) (a2 : Int) : Option (Int) :=
  Option.bind (impl_isBlocks a2) fun v3 =>
  bif (!v3) || (decide (20 < ((a1.length) : Int))) then
    some 1
  else
  Option.bind (slices_ContainsFunc_impl_Step_stepsCode_1 k a1 a2) fun v4 =>
  bif v4.1 then
    some 1
  else
  Option.bind (impl_stepsCode.l0 k k a1 (-1) true a1 ((a1.length) : Int) 0) fun
    | .inl y5 =>
      bif !y5 then
        some 8
      else
      some 0
    | .inr y6 =>
      some y6
def impl_stepsCode.sig : Sig := { ps := [.val false (.sl T45) (ros (.sl T45)), .val false (.int .i64) (ros (.int .i64))], rs := [.val false [.v (.int .i64)]], ntmps := 50 }
def impl_stepsCode.con (k : Nat) : Con := impl_stepsCode.sig.con (fun x => impl_stepsCode k x.1 x.2)
def impl_stepsCode.C (k : Nat) : Ctx := { ti := TAB, con := conL [(58, impl_isBlocks.con k), (59, slices_ContainsFunc_impl_Step_stepsCode_1.con k), (62, impl_touches.con k)] }
theorem impl_stepsCode.cok (k : Nat) : CtxOk Try.prog (impl_stepsCode.C k) := ctx_ok TABok ⟨impl_isBlocks.ok k, slices_ContainsFunc_impl_Step_stepsCode_1.ok k, impl_touches.ok k, trivial⟩
def impl_stepsCode.l0.ish : Shape := { tmps := [(0, .one (.bor T45)), (5, .one (.v (.int .i64))), (6, .one (.v .bool)), (22, .one (.bor T45)), (23, .one (.v (.int .i64))), (24, .one (.v (.int .i64)))], slots := [], nb := 1 }
def impl_stepsCode.l0.outs : List (Ex × Shape) := [(.exit 0, { tmps := [(6, .one (.v .bool))], slots := [], nb := 1 }), (.ret, { tmps := [(4, .one (.v (.int .i64)))], slots := [], nb := 1 })]
def impl_stepsCode.l0.F (k j : Nat) (x : Prod' impl_stepsCode.l0.ish.tys) : Option (Outs impl_stepsCode.l0.outs) := impl_stepsCode.l0 k j x.1 x.2.1 x.2.2.1 x.2.2.2.1 x.2.2.2.2.1 x.2.2.2.2.2
def impl_stepsCode.l0.s (k : Nat) : Summ := { n := 50, ish := impl_stepsCode.l0.ish, outs := impl_stepsCode.l0.outs, f := impl_stepsCode.l0.F k k }
theorem impl_stepsCode.l0.ev (k j : Nat) (x : Prod' impl_stepsCode.l0.ish.tys) : V (impl_stepsCode.C k) .auto (cO (cO (cR (cL (cR (cR (cR (cR (cB Try.f43))))))))) (mk impl_stepsCode.l0.ish 50 x) (fun e st' => match e with | .nrm => (rd impl_stepsCode.l0.ish st').bind (impl_stepsCode.l0.F k j) | e => rdOut e st' impl_stepsCode.l0.outs) = impl_stepsCode.l0.F k (j + 1) x := by kernel_rfl
theorem impl_stepsCode.l0.ok (k : Nat) : SumOk Try.prog (impl_stepsCode.C k) (.loop (cO (cO (cR (cL (cR (cR (cR (cR (cB Try.f43)))))))))) (impl_stepsCode.l0.s k) := sum_ok (by kernel_rfl) (sum_loop (p := .auto) (F := impl_stepsCode.l0.F k) (impl_stepsCode.cok k) (by kernel_rfl) (plan_of (L := []) (by kernel_rfl) trivial) (fun _ => rfl) (fun j x y h => (impl_stepsCode.l0.ev k j x).trans h) k rfl)
theorem impl_stepsCode.ev (k : Nat) (x : Prod' impl_stepsCode.sig.ins) : impl_stepsCode.sig.ev (impl_stepsCode.C k) (.two .auto (.two .auto (.two .auto (.two .auto (.two (.two .auto (.one (.sum (impl_stepsCode.l0.s k)))) .auto))))) Try.f43.results.toList (cB Try.f43) x = impl_stepsCode k x.1 x.2 := by kernel_rfl
theorem impl_stepsCode.ok (k : Nat) : ConOk Try.prog 43 (impl_stepsCode.con k) := sig_ok (p := (.two .auto (.two .auto (.two .auto (.two .auto (.two (.two .auto (.one (.sum (impl_stepsCode.l0.s k)))) .auto)))))) (impl_stepsCode.cok k) Try.func43 (by kernel_rfl) (show Try.f43.body = some (cB Try.f43) by kernel_rfl) (by kernel_rfl) (by kernel_rfl) (plan_of (L := [(impl_stepsCode.l0.s k, cO (cR (cL (cR (cR (cR (cR (cB Try.f43))))))))]) (by kernel_rfl) ⟨impl_stepsCode.l0.ok k, trivial⟩) (fun x y h => (impl_stepsCode.ev k x).trans h)
def impl_isPackage (k : Nat) (a1 : G24) : Option (Bool) :=
  Option.bind (impl_stepsCode k a1.2.2 a1.1) fun v2 =>
  some ((v2 == 0) && (((a1.2.1.length) : Int) == 32))
def impl_isPackage.sig : Sig := { ps := [.val true T24 (ros T24)], rs := [.val false [.v .bool]], ntmps := 15 }
def impl_isPackage.con (k : Nat) : Con := impl_isPackage.sig.con (fun x => impl_isPackage k x)
def impl_isPackage.C (k : Nat) : Ctx := { ti := TAB, con := conL [(43, impl_stepsCode.con k)], rob := true }
theorem impl_isPackage.cok (k : Nat) : CtxOk Try.prog (impl_isPackage.C k) := ctx_ok TABok ⟨impl_stepsCode.ok k, trivial⟩
theorem impl_isPackage.ev (k : Nat) (x : Prod' impl_isPackage.sig.ins) : impl_isPackage.sig.ev (impl_isPackage.C k) .auto Try.f25.results.toList (cB Try.f25) x = impl_isPackage k x := by kernel_rfl
theorem impl_isPackage.ok (k : Nat) : ConOk Try.prog 25 (impl_isPackage.con k) := sig_ok (p := .auto) (impl_isPackage.cok k) Try.func25 (by kernel_rfl) (show Try.f25.body = some (cB Try.f25) by kernel_rfl) (by kernel_rfl) (by kernel_rfl) (plan_of (L := []) (by kernel_rfl) trivial) (fun x y h => (impl_isPackage.ev k x).trans h)
def impl_slotsOf.l0 : Nat → Int → List G70 → Int → Int → Option (Int)
  | 0, _, _, _, _ => none
  | j + 1, a1, a2, a3, a4 =>
    bif decide (a4 < a3) then
      Option.bind (at? a2 a4) fun v5 =>
      let e6 := IntKind.wrap .i64 (a4 + 1)
      bif v5.1 == 1 then
        impl_slotsOf.l0 j (IntKind.wrap .i64 (a1 + 1)) a2 a3 e6
      else
      impl_slotsOf.l0 j a1 a2 a3 e6
    else
    some a1
def impl_slotsOf (k : Nat) (a1 : List G70) : Option (Int) :=
  Option.bind (impl_slotsOf.l0 k 0 a1 ((a1.length) : Int) 0) fun y2 =>
  some y2
def impl_slotsOf.sig : Sig := { ps := [.val false (.sl T70) (ros (.sl T70))], rs := [.val false [.v (.int .i64)]], ntmps := 19 }
def impl_slotsOf.con (k : Nat) : Con := impl_slotsOf.sig.con (fun x => impl_slotsOf k x)
def impl_slotsOf.C (k : Nat) : Ctx := { ti := TAB, con := conL [] }
theorem impl_slotsOf.cok (k : Nat) : CtxOk Try.prog (impl_slotsOf.C k) := ctx_ok TABok trivial
def impl_slotsOf.l0.ish : Shape := { tmps := [(3, .one (.v (.int .i64))), (6, .one (.bor T70)), (7, .one (.v (.int .i64))), (8, .one (.v (.int .i64)))], slots := [], nb := 0 }
def impl_slotsOf.l0.outs : List (Ex × Shape) := [(.exit 0, { tmps := [(3, .one (.v (.int .i64)))], slots := [], nb := 0 })]
def impl_slotsOf.l0.F (k j : Nat) (x : Prod' impl_slotsOf.l0.ish.tys) : Option (Outs impl_slotsOf.l0.outs) := impl_slotsOf.l0 j x.1 x.2.1 x.2.2.1 x.2.2.2
def impl_slotsOf.l0.s (k : Nat) : Summ := { n := 19, ish := impl_slotsOf.l0.ish, outs := impl_slotsOf.l0.outs, f := impl_slotsOf.l0.F k k }
theorem impl_slotsOf.l0.ev (k j : Nat) (x : Prod' impl_slotsOf.l0.ish.tys) : V (impl_slotsOf.C k) .auto (cO (cO (cR (cL (cR (cR (cB Try.f26))))))) (mk impl_slotsOf.l0.ish 19 x) (fun e st' => match e with | .nrm => (rd impl_slotsOf.l0.ish st').bind (impl_slotsOf.l0.F k j) | e => rdOut e st' impl_slotsOf.l0.outs) = impl_slotsOf.l0.F k (j + 1) x := by kernel_rfl
theorem impl_slotsOf.l0.ok (k : Nat) : SumOk Try.prog (impl_slotsOf.C k) (.loop (cO (cO (cR (cL (cR (cR (cB Try.f26)))))))) (impl_slotsOf.l0.s k) := sum_ok (by kernel_rfl) (sum_loop (p := .auto) (F := impl_slotsOf.l0.F k) (impl_slotsOf.cok k) (by kernel_rfl) (plan_of (L := []) (by kernel_rfl) trivial) (fun _ => rfl) (fun j x y h => (impl_slotsOf.l0.ev k j x).trans h) k rfl)
theorem impl_slotsOf.ev (k : Nat) (x : Prod' impl_slotsOf.sig.ins) : impl_slotsOf.sig.ev (impl_slotsOf.C k) (.two .auto (.two .auto (.two (.two .auto (.one (.sum (impl_slotsOf.l0.s k)))) .auto))) Try.f26.results.toList (cB Try.f26) x = impl_slotsOf k x := by kernel_rfl
theorem impl_slotsOf.ok (k : Nat) : ConOk Try.prog 26 (impl_slotsOf.con k) := sig_ok (p := (.two .auto (.two .auto (.two (.two .auto (.one (.sum (impl_slotsOf.l0.s k)))) .auto)))) (impl_slotsOf.cok k) Try.func26 (by kernel_rfl) (show Try.f26.body = some (cB Try.f26) by kernel_rfl) (by kernel_rfl) (by kernel_rfl) (plan_of (L := [(impl_slotsOf.l0.s k, cO (cR (cL (cR (cR (cB Try.f26))))))]) (by kernel_rfl) ⟨impl_slotsOf.l0.ok k, trivial⟩) (fun x y h => (impl_slotsOf.ev k x).trans h)
def impl_writes_1 (a1 : G45) : Option (Bool) :=
  some (a1.1 == 5)
def impl_writes_1.sig : Sig := { ps := [.val true T45 (ros T45)], rs := [.val false [.v .bool]], ntmps := 6 }
def impl_writes_1.con (k : Nat) : Con := impl_writes_1.sig.con (fun x => impl_writes_1 x)
def impl_writes_1.C (k : Nat) : Ctx := { ti := TAB, con := conL [] }
theorem impl_writes_1.cok (k : Nat) : CtxOk Try.prog (impl_writes_1.C k) := ctx_ok TABok trivial
theorem impl_writes_1.ev (k : Nat) (x : Prod' impl_writes_1.sig.ins) : impl_writes_1.sig.ev (impl_writes_1.C k) .auto Try.f65.results.toList (cB Try.f65) x = impl_writes_1 x := by kernel_rfl
theorem impl_writes_1.ok (k : Nat) : ConOk Try.prog 65 (impl_writes_1.con k) := sig_ok (p := .auto) (impl_writes_1.cok k) Try.func65 (by kernel_rfl) (show Try.f65.body = some (cB Try.f65) by kernel_rfl) (by kernel_rfl) (by kernel_rfl) (plan_of (L := []) (by kernel_rfl) trivial) (fun x y h => (impl_writes_1.ev k x).trans h)
def slices_IndexFunc_impl_Step_writes_1.l0 : Nat → List G45 → Int → Int → Option (Unit ⊕ Int)
  | 0, _, _, _ => none
  | j + 1, a1, a2, a3 =>
    bif decide (a3 < a2) then
      Option.bind (at? a1 a3) fun v4 =>
      Option.bind (impl_writes_1 v4) fun v5 =>
      bif v5 then
        some (.inr a3)
      else
      slices_IndexFunc_impl_Step_writes_1.l0 j a1 a2 (IntKind.wrap .i64 (a3 + 1))
    else
    some (.inl ())
def slices_IndexFunc_impl_Step_writes_1 (k : Nat) (a1 : List G45) : Option (Int) :=
  Option.bind (slices_IndexFunc_impl_Step_writes_1.l0 k a1 ((a1.length) : Int) 0) fun
    | .inl y2 =>
      some (-1)
    | .inr y3 =>
      some y3
def slices_IndexFunc_impl_Step_writes_1.sig : Sig := { ps := [.val false (.sl T45) (ros (.sl T45)), .fn 65 []], rs := [.val false [.v (.int .i64)]], ntmps := 19 }
def slices_IndexFunc_impl_Step_writes_1.con (k : Nat) : Con := slices_IndexFunc_impl_Step_writes_1.sig.con (fun x => slices_IndexFunc_impl_Step_writes_1 k x)
def slices_IndexFunc_impl_Step_writes_1.C (k : Nat) : Ctx := { ti := TAB, con := conL [(65, impl_writes_1.con k)] }
theorem slices_IndexFunc_impl_Step_writes_1.cok (k : Nat) : CtxOk Try.prog (slices_IndexFunc_impl_Step_writes_1.C k) := ctx_ok TABok ⟨impl_writes_1.ok k, trivial⟩
def slices_IndexFunc_impl_Step_writes_1.l0.ish : Shape := { tmps := [(0, .one (.bor T45)), (1, .fn 65 []), (7, .one (.v (.int .i64))), (8, .one (.v (.int .i64)))], slots := [], nb := 0 }
def slices_IndexFunc_impl_Step_writes_1.l0.outs : List (Ex × Shape) := [(.exit 0, { tmps := [], slots := [], nb := 0 }), (.ret, { tmps := [(4, .one (.v (.int .i64)))], slots := [], nb := 0 })]
def slices_IndexFunc_impl_Step_writes_1.l0.F (k j : Nat) (x : Prod' slices_IndexFunc_impl_Step_writes_1.l0.ish.tys) : Option (Outs slices_IndexFunc_impl_Step_writes_1.l0.outs) := slices_IndexFunc_impl_Step_writes_1.l0 j x.1 x.2.1 x.2.2
def slices_IndexFunc_impl_Step_writes_1.l0.s (k : Nat) : Summ := { n := 19, ish := slices_IndexFunc_impl_Step_writes_1.l0.ish, outs := slices_IndexFunc_impl_Step_writes_1.l0.outs, f := slices_IndexFunc_impl_Step_writes_1.l0.F k k }
theorem slices_IndexFunc_impl_Step_writes_1.l0.ev (k j : Nat) (x : Prod' slices_IndexFunc_impl_Step_writes_1.l0.ish.tys) : V (slices_IndexFunc_impl_Step_writes_1.C k) .auto (cO (cO (cR (cL (cR (cB Try.f69)))))) (mk slices_IndexFunc_impl_Step_writes_1.l0.ish 19 x) (fun e st' => match e with | .nrm => (rd slices_IndexFunc_impl_Step_writes_1.l0.ish st').bind (slices_IndexFunc_impl_Step_writes_1.l0.F k j) | e => rdOut e st' slices_IndexFunc_impl_Step_writes_1.l0.outs) = slices_IndexFunc_impl_Step_writes_1.l0.F k (j + 1) x := by kernel_rfl
theorem slices_IndexFunc_impl_Step_writes_1.l0.ok (k : Nat) : SumOk Try.prog (slices_IndexFunc_impl_Step_writes_1.C k) (.loop (cO (cO (cR (cL (cR (cB Try.f69))))))) (slices_IndexFunc_impl_Step_writes_1.l0.s k) := sum_ok (by kernel_rfl) (sum_loop (p := .auto) (F := slices_IndexFunc_impl_Step_writes_1.l0.F k) (slices_IndexFunc_impl_Step_writes_1.cok k) (by kernel_rfl) (plan_of (L := []) (by kernel_rfl) trivial) (fun _ => rfl) (fun j x y h => (slices_IndexFunc_impl_Step_writes_1.l0.ev k j x).trans h) k rfl)
theorem slices_IndexFunc_impl_Step_writes_1.ev (k : Nat) (x : Prod' slices_IndexFunc_impl_Step_writes_1.sig.ins) : slices_IndexFunc_impl_Step_writes_1.sig.ev (slices_IndexFunc_impl_Step_writes_1.C k) (.two .auto (.two (.two .auto (.one (.sum (slices_IndexFunc_impl_Step_writes_1.l0.s k)))) .auto)) Try.f69.results.toList (cB Try.f69) x = slices_IndexFunc_impl_Step_writes_1 k x := by kernel_rfl
theorem slices_IndexFunc_impl_Step_writes_1.ok (k : Nat) : ConOk Try.prog 69 (slices_IndexFunc_impl_Step_writes_1.con k) := sig_ok (p := (.two .auto (.two (.two .auto (.one (.sum (slices_IndexFunc_impl_Step_writes_1.l0.s k)))) .auto))) (slices_IndexFunc_impl_Step_writes_1.cok k) Try.func69 (by kernel_rfl) (show Try.f69.body = some (cB Try.f69) by kernel_rfl) (by kernel_rfl) (by kernel_rfl) (plan_of (L := [(slices_IndexFunc_impl_Step_writes_1.l0.s k, cO (cR (cL (cR (cB Try.f69)))))]) (by kernel_rfl) ⟨slices_IndexFunc_impl_Step_writes_1.l0.ok k, trivial⟩) (fun x y h => (slices_IndexFunc_impl_Step_writes_1.ev k x).trans h)
def slices_DeleteFunc_impl_Step_writes_1.l0 : Nat → Int → Int → List G45 → Option ((Int × List G45))
  | 0, _, _, _ => none
  | j + 1, a1, a2, a3 =>
    bif decide (a2 < ((a3.length) : Int)) then
      Option.bind (at? a3 a2) fun v4 =>
      Option.bind (at? a3 a2) fun v5 =>
      Option.bind (impl_writes_1 v5) fun v6 =>
      let e7 := IntKind.wrap .i64 (a2 + 1)
      bif !v6 then
        Option.bind (at? a3 a1) fun v8 =>
        Option.bind (at? a3 a1) fun v9 =>
        slices_DeleteFunc_impl_Step_writes_1.l0 j (IntKind.wrap .i64 (a1 + 1)) e7 (List.set a3 (Int.toNat a1) v5)
      else
      slices_DeleteFunc_impl_Step_writes_1.l0 j a1 e7 a3
    else
    some (a1, a3)
def slices_DeleteFunc_impl_Step_writes_1 (k : Nat) (a1 : List G45) : Option (List G45) :=
  Option.bind (slices_IndexFunc_impl_Step_writes_1 k a1) fun v2 =>
  bif v2 == (-1) then
    some a1
  else
  Option.bind (slices_DeleteFunc_impl_Step_writes_1.l0 k v2 (IntKind.wrap .i64 (v2 + 1)) a1) fun y3 =>
  Option.bind (tail? y3.1 (y3.2.length)) fun v4 =>
  Option.bind (cut? (List.take (Int.toNat y3.1) y3.2 ++ List.replicate (List.length y3.2 - Int.toNat y3.1) (0, (0, (0, [])))) 0 y3.1) fun v5 =>
  some v5
def slices_DeleteFunc_impl_Step_writes_1.sig : Sig := { ps := [.mv 52 T45, .fn 65 []], rs := [.val false [.v (.sl T45)]], ntmps := 42 }
def slices_DeleteFunc_impl_Step_writes_1.con (k : Nat) : Con := slices_DeleteFunc_impl_Step_writes_1.sig.con (fun x => slices_DeleteFunc_impl_Step_writes_1 k x)
def slices_DeleteFunc_impl_Step_writes_1.C (k : Nat) : Ctx := { ti := TAB, con := conL [(65, impl_writes_1.con k), (69, slices_IndexFunc_impl_Step_writes_1.con k)], tl := true }
theorem slices_DeleteFunc_impl_Step_writes_1.cok (k : Nat) : CtxOk Try.prog (slices_DeleteFunc_impl_Step_writes_1.C k) := ctx_ok TABok ⟨impl_writes_1.ok k, slices_IndexFunc_impl_Step_writes_1.ok k, trivial⟩
def slices_DeleteFunc_impl_Step_writes_1.l0.ish : Shape := { tmps := [(0, .one (.own 1)), (1, .fn 65 []), (5, .one (.v (.int .i64))), (6, .one (.v (.int .i64)))], slots := [(1, .arr false 52 T45)], nb := 2 }
def slices_DeleteFunc_impl_Step_writes_1.l0.outs : List (Ex × Shape) := [(.exit 0, { tmps := [(0, .one (.own 2)), (5, .one (.v (.int .i64)))], slots := [(2, .arr false 52 T45)], nb := 3 })]
def slices_DeleteFunc_impl_Step_writes_1.l0.F (k j : Nat) (x : Prod' slices_DeleteFunc_impl_Step_writes_1.l0.ish.tys) : Option (Outs slices_DeleteFunc_impl_Step_writes_1.l0.outs) := slices_DeleteFunc_impl_Step_writes_1.l0 j x.1 x.2.1 x.2.2
def slices_DeleteFunc_impl_Step_writes_1.l0.s (k : Nat) : Summ := { n := 42, ish := slices_DeleteFunc_impl_Step_writes_1.l0.ish, outs := slices_DeleteFunc_impl_Step_writes_1.l0.outs, f := slices_DeleteFunc_impl_Step_writes_1.l0.F k k }
theorem slices_DeleteFunc_impl_Step_writes_1.l0.ev (k j : Nat) (x : Prod' slices_DeleteFunc_impl_Step_writes_1.l0.ish.tys) : V (slices_DeleteFunc_impl_Step_writes_1.C k) .auto (cO (cO (cR (cL (cR (cR (cR (cB Try.f63)))))))) (mk slices_DeleteFunc_impl_Step_writes_1.l0.ish 42 x) (fun e st' => match e with | .nrm => (rd slices_DeleteFunc_impl_Step_writes_1.l0.ish st').bind (slices_DeleteFunc_impl_Step_writes_1.l0.F k j) | e => rdOut e st' slices_DeleteFunc_impl_Step_writes_1.l0.outs) = slices_DeleteFunc_impl_Step_writes_1.l0.F k (j + 1) x := by kernel_rfl
theorem slices_DeleteFunc_impl_Step_writes_1.l0.ok (k : Nat) : SumOk Try.prog (slices_DeleteFunc_impl_Step_writes_1.C k) (.loop (cO (cO (cR (cL (cR (cR (cR (cB Try.f63))))))))) (slices_DeleteFunc_impl_Step_writes_1.l0.s k) := sum_ok (by kernel_rfl) (sum_loop (p := .auto) (F := slices_DeleteFunc_impl_Step_writes_1.l0.F k) (slices_DeleteFunc_impl_Step_writes_1.cok k) (by kernel_rfl) (plan_of (L := []) (by kernel_rfl) trivial) (fun _ => rfl) (fun j x y h => (slices_DeleteFunc_impl_Step_writes_1.l0.ev k j x).trans h) k rfl)
theorem slices_DeleteFunc_impl_Step_writes_1.ev (k : Nat) (x : Prod' slices_DeleteFunc_impl_Step_writes_1.sig.ins) : slices_DeleteFunc_impl_Step_writes_1.sig.ev (slices_DeleteFunc_impl_Step_writes_1.C k) (.two .auto (.two .auto (.two .auto (.two (.two .auto (.one (.sum (slices_DeleteFunc_impl_Step_writes_1.l0.s k)))) .auto)))) Try.f63.results.toList (cB Try.f63) x = slices_DeleteFunc_impl_Step_writes_1 k x := by kernel_rfl
theorem slices_DeleteFunc_impl_Step_writes_1.ok (k : Nat) : ConOk Try.prog 63 (slices_DeleteFunc_impl_Step_writes_1.con k) := sig_ok (p := (.two .auto (.two .auto (.two .auto (.two (.two .auto (.one (.sum (slices_DeleteFunc_impl_Step_writes_1.l0.s k)))) .auto))))) (slices_DeleteFunc_impl_Step_writes_1.cok k) Try.func63 (by kernel_rfl) (show Try.f63.body = some (cB Try.f63) by kernel_rfl) (by kernel_rfl) (by kernel_rfl) (plan_of (L := [(slices_DeleteFunc_impl_Step_writes_1.l0.s k, cO (cR (cL (cR (cR (cR (cB Try.f63)))))))]) (by kernel_rfl) ⟨slices_DeleteFunc_impl_Step_writes_1.l0.ok k, trivial⟩) (fun x y h => (slices_DeleteFunc_impl_Step_writes_1.ev k x).trans h)
/-- A copy of a row. -/
def slices_Clone_impl_Step (a : List G45) : Option (List G45) := Option.bind (app? 40 [] a) fun y => some y
def slices_Clone_impl_Step.sig : Sig := { ps := [.val false (.sl T45) (ros (.sl T45))], rs := [.val false [.own 52 T45]], ntmps := 8 }
def slices_Clone_impl_Step.con (k : Nat) : Con := slices_Clone_impl_Step.sig.con (fun x => slices_Clone_impl_Step x)
theorem slices_Clone_impl_Step.ok (k : Nat) : ConOk Try.prog 64 (slices_Clone_impl_Step.con k) :=
  clone_wp (e := 52) (C := { ti := TAB, con := conL [] }) (s := slices_Clone_impl_Step.sig) (G := fun x => slices_Clone_impl_Step x) (ctx_ok TABok trivial) Try.func64 (by kernel_rfl) rfl (by kernel_rfl) (by kernel_rfl) (by kernel_rfl) rfl rfl rfl rfl rfl rfl (by kernel_rfl) (by kernel_rfl)
    (fun x => ⟨_, _, .inl rfl⟩) (fun x y h => Eq.trans (b := slices_Clone_impl_Step x) (by kernel_rfl) h) (fun x y h hl => by
      have e : x = ([] : List G45) := hl T45 x (.inl (by kernel_rfl))
      subst e
      exact Eq.trans (b := slices_Clone_impl_Step []) (by kernel_rfl) h)
def impl_writes (k : Nat) (a1 : List G45) : Option (List G45) :=
  Option.bind (slices_Clone_impl_Step a1) fun v2 =>
  Option.bind (slices_DeleteFunc_impl_Step_writes_1 k v2) fun v3 =>
  some v3
def impl_writes.sig : Sig := { ps := [.val false (.sl T45) (ros (.sl T45))], rs := [.val false [.v (.sl T45)]], ntmps := 6 }
def impl_writes.con (k : Nat) : Con := impl_writes.sig.con (fun x => impl_writes k x)
def impl_writes.C (k : Nat) : Ctx := { ti := TAB, con := conL [(63, slices_DeleteFunc_impl_Step_writes_1.con k), (64, slices_Clone_impl_Step.con k)] }
theorem impl_writes.cok (k : Nat) : CtxOk Try.prog (impl_writes.C k) := ctx_ok TABok ⟨slices_DeleteFunc_impl_Step_writes_1.ok k, slices_Clone_impl_Step.ok k, trivial⟩
theorem impl_writes.ev (k : Nat) (x : Prod' impl_writes.sig.ins) : impl_writes.sig.ev (impl_writes.C k) .auto Try.f44.results.toList (cB Try.f44) x = impl_writes k x := by kernel_rfl
theorem impl_writes.ok (k : Nat) : ConOk Try.prog 44 (impl_writes.con k) := sig_ok (p := .auto) (impl_writes.cok k) Try.func44 (by kernel_rfl) (show Try.f44.body = some (cB Try.f44) by kernel_rfl) (by kernel_rfl) (by kernel_rfl) (plan_of (L := []) (by kernel_rfl) trivial) (fun x y h => (impl_writes.ev k x).trans h)
def impl_reads (a1 : G45) (a2 : Int) : Option (Bool) :=
  some (((a1.1 == 3) || (a1.1 == 4)) && (a1.2.2.1 == a2))
def impl_reads.sig : Sig := { ps := [.val true T45 (ros T45), .val false (.int .i64) (ros (.int .i64))], rs := [.val false [.v .bool]], ntmps := 19 }
def impl_reads.con (k : Nat) : Con := impl_reads.sig.con (fun x => impl_reads x.1 x.2)
def impl_reads.C (k : Nat) : Ctx := { ti := TAB, con := conL [] }
theorem impl_reads.cok (k : Nat) : CtxOk Try.prog (impl_reads.C k) := ctx_ok TABok trivial
theorem impl_reads.ev (k : Nat) (x : Prod' impl_reads.sig.ins) : impl_reads.sig.ev (impl_reads.C k) .auto Try.f49.results.toList (cB Try.f49) x = impl_reads x.1 x.2 := by kernel_rfl
theorem impl_reads.ok (k : Nat) : ConOk Try.prog 49 (impl_reads.con k) := sig_ok (p := .auto) (impl_reads.cok k) Try.func49 (by kernel_rfl) (show Try.f49.body = some (cB Try.f49) by kernel_rfl) (by kernel_rfl) (by kernel_rfl) (plan_of (L := []) (by kernel_rfl) trivial) (fun x y h => (impl_reads.ev k x).trans h)
def impl_planOf_1_1 (a1 : Int) (a2 : Int) (a3 : List G45) (a4 : Int) : Option (Bool) :=
  bif a1 != a2 then
    Option.bind (at? a3 a1) fun v5 =>
    Option.bind (impl_reads v5 a4) fun v6 =>
    some v6
  else
  some false
def impl_planOf_1_1.sig : Sig := { ps := [.val false (.int .i64) (ros (.int .i64)), .rptr (.int .i64), .rptr (.sl T45), .rptr (.int .i64)], rs := [.val false [.v .bool]], ntmps := 17 }
def impl_planOf_1_1.con (k : Nat) : Con := impl_planOf_1_1.sig.con (fun x => impl_planOf_1_1 x.1 x.2.1 x.2.2.1 x.2.2.2)
def impl_planOf_1_1.C (k : Nat) : Ctx := { ti := TAB, con := conL [(49, impl_reads.con k)] }
theorem impl_planOf_1_1.cok (k : Nat) : CtxOk Try.prog (impl_planOf_1_1.C k) := ctx_ok TABok ⟨impl_reads.ok k, trivial⟩
theorem impl_planOf_1_1.ev (k : Nat) (x : Prod' impl_planOf_1_1.sig.ins) : impl_planOf_1_1.sig.ev (impl_planOf_1_1.C k) .auto Try.f48.results.toList (cB Try.f48) x = impl_planOf_1_1 x.1 x.2.1 x.2.2.1 x.2.2.2 := by kernel_rfl
theorem impl_planOf_1_1.ok (k : Nat) : ConOk Try.prog 48 (impl_planOf_1_1.con k) := sig_ok (p := .auto) (impl_planOf_1_1.cok k) Try.func48 (by kernel_rfl) (show Try.f48.body = some (cB Try.f48) by kernel_rfl) (by kernel_rfl) (by kernel_rfl) (plan_of (L := []) (by kernel_rfl) trivial) (fun x y h => (impl_planOf_1_1.ev k x).trans h)
def slices_IndexFunc_int_planOf_1_1.l0 : Nat → List Int → List G45 → Int → Int → Int → Int → Option ((Int × Int) ⊕ (Int × Int × Int))
  | 0, _, _, _, _, _, _ => none
  | j + 1, a1, a2, a3, a4, a5, a6 =>
    bif decide (a4 < a3) then
      Option.bind (at? a1 a4) fun v7 =>
      Option.bind (impl_planOf_1_1 v7 a5 a2 a6) fun v8 =>
      bif v8 then
        some (.inr (a4, a5, a6))
      else
      slices_IndexFunc_int_planOf_1_1.l0 j a1 a2 a3 (IntKind.wrap .i64 (a4 + 1)) a5 a6
    else
    some (.inl (a5, a6))
def slices_IndexFunc_int_planOf_1_1 (k : Nat) (a1 : List Int) (a2 : Int) (a3 : List G45) (a4 : Int) : Option (Int × Int × Int) :=
  Option.bind (slices_IndexFunc_int_planOf_1_1.l0 k a1 a3 ((a1.length) : Int) 0 a2 a4) fun
    | .inl y5 =>
      some ((-1), y5.1, y5.2)
    | .inr y6 =>
      some (y6.1, y6.2.1, y6.2.2)
def slices_IndexFunc_int_planOf_1_1.sig : Sig := { ps := [.val false (.sl (.int .i64)) (ros (.sl (.int .i64))), .fn 48 [(3, (.int .i64), (kept (.int .i64))), (4000000, (.sl T45), [.ro]), (2, (.int .i64), (kept (.int .i64)))]], rs := [.val false [.v (.int .i64)]], ntmps := 19 }
def slices_IndexFunc_int_planOf_1_1.con (k : Nat) : Con := slices_IndexFunc_int_planOf_1_1.sig.con (fun x => slices_IndexFunc_int_planOf_1_1 k x.1 x.2.1 x.2.2.1 x.2.2.2)
def slices_IndexFunc_int_planOf_1_1.C (k : Nat) : Ctx := { ti := TAB, con := conL [(48, impl_planOf_1_1.con k)] }
theorem slices_IndexFunc_int_planOf_1_1.cok (k : Nat) : CtxOk Try.prog (slices_IndexFunc_int_planOf_1_1.C k) := ctx_ok TABok ⟨impl_planOf_1_1.ok k, trivial⟩
def slices_IndexFunc_int_planOf_1_1.l0.ish : Shape := { tmps := [(0, .one (.bor (.int .i64))), (1, .fn 48 [.ptr 0 0, .rp (.sl T45), .ptr 1 0]), (7, .one (.v (.int .i64))), (8, .one (.v (.int .i64)))], slots := [(0, .box 3 [.v (.int .i64)]), (1, .box 2 [.v (.int .i64)])], nb := 2 }
def slices_IndexFunc_int_planOf_1_1.l0.outs : List (Ex × Shape) := [(.exit 0, { tmps := [], slots := [(0, .box 3 [.v (.int .i64)]), (1, .box 2 [.v (.int .i64)])], nb := 2 }), (.ret, { tmps := [(4, .one (.v (.int .i64)))], slots := [(0, .box 3 [.v (.int .i64)]), (1, .box 2 [.v (.int .i64)])], nb := 2 })]
def slices_IndexFunc_int_planOf_1_1.l0.F (k j : Nat) (x : Prod' slices_IndexFunc_int_planOf_1_1.l0.ish.tys) : Option (Outs slices_IndexFunc_int_planOf_1_1.l0.outs) := slices_IndexFunc_int_planOf_1_1.l0 j x.1 x.2.1 x.2.2.1 x.2.2.2.1 x.2.2.2.2.1 x.2.2.2.2.2
def slices_IndexFunc_int_planOf_1_1.l0.s (k : Nat) : Summ := { n := 19, ish := slices_IndexFunc_int_planOf_1_1.l0.ish, outs := slices_IndexFunc_int_planOf_1_1.l0.outs, f := slices_IndexFunc_int_planOf_1_1.l0.F k k }
theorem slices_IndexFunc_int_planOf_1_1.l0.ev (k j : Nat) (x : Prod' slices_IndexFunc_int_planOf_1_1.l0.ish.tys) : V (slices_IndexFunc_int_planOf_1_1.C k) .auto (cO (cO (cR (cL (cR (cB Try.f45)))))) (mk slices_IndexFunc_int_planOf_1_1.l0.ish 19 x) (fun e st' => match e with | .nrm => (rd slices_IndexFunc_int_planOf_1_1.l0.ish st').bind (slices_IndexFunc_int_planOf_1_1.l0.F k j) | e => rdOut e st' slices_IndexFunc_int_planOf_1_1.l0.outs) = slices_IndexFunc_int_planOf_1_1.l0.F k (j + 1) x := by kernel_rfl
theorem slices_IndexFunc_int_planOf_1_1.l0.ok (k : Nat) : SumOk Try.prog (slices_IndexFunc_int_planOf_1_1.C k) (.loop (cO (cO (cR (cL (cR (cB Try.f45))))))) (slices_IndexFunc_int_planOf_1_1.l0.s k) := sum_ok (by kernel_rfl) (sum_loop (p := .auto) (F := slices_IndexFunc_int_planOf_1_1.l0.F k) (slices_IndexFunc_int_planOf_1_1.cok k) (by kernel_rfl) (plan_of (L := []) (by kernel_rfl) trivial) (fun _ => rfl) (fun j x y h => (slices_IndexFunc_int_planOf_1_1.l0.ev k j x).trans h) k rfl)
theorem slices_IndexFunc_int_planOf_1_1.ev (k : Nat) (x : Prod' slices_IndexFunc_int_planOf_1_1.sig.ins) : slices_IndexFunc_int_planOf_1_1.sig.ev (slices_IndexFunc_int_planOf_1_1.C k) (.two .auto (.two (.two .auto (.one (.sum (slices_IndexFunc_int_planOf_1_1.l0.s k)))) .auto)) Try.f45.results.toList (cB Try.f45) x = slices_IndexFunc_int_planOf_1_1 k x.1 x.2.1 x.2.2.1 x.2.2.2 := by kernel_rfl
theorem slices_IndexFunc_int_planOf_1_1.ok (k : Nat) : ConOk Try.prog 45 (slices_IndexFunc_int_planOf_1_1.con k) := sig_ok (p := (.two .auto (.two (.two .auto (.one (.sum (slices_IndexFunc_int_planOf_1_1.l0.s k)))) .auto))) (slices_IndexFunc_int_planOf_1_1.cok k) Try.func45 (by kernel_rfl) (show Try.f45.body = some (cB Try.f45) by kernel_rfl) (by kernel_rfl) (by kernel_rfl) (plan_of (L := [(slices_IndexFunc_int_planOf_1_1.l0.s k, cO (cR (cL (cR (cB Try.f45)))))]) (by kernel_rfl) ⟨slices_IndexFunc_int_planOf_1_1.l0.ok k, trivial⟩) (fun x y h => (slices_IndexFunc_int_planOf_1_1.ev k x).trans h)
def slices_ContainsFunc_int_planOf_1_1 (k : Nat) (a1 : List Int) (a2 : Int) (a3 : List G45) (a4 : Int) : Option (Bool × Int × Int) :=
  Option.bind (slices_IndexFunc_int_planOf_1_1 k a1 a2 a3 a4) fun v5 =>
  some (decide (0 ≤ v5.1), v5.2.1, v5.2.2)
def slices_ContainsFunc_int_planOf_1_1.sig : Sig := { ps := [.val false (.sl (.int .i64)) (ros (.sl (.int .i64))), .fn 48 [(3, (.int .i64), (kept (.int .i64))), (4000000, (.sl T45), [.ro]), (2, (.int .i64), (kept (.int .i64)))]], rs := [.val false [.v .bool]], ntmps := 9 }
def slices_ContainsFunc_int_planOf_1_1.con (k : Nat) : Con := slices_ContainsFunc_int_planOf_1_1.sig.con (fun x => slices_ContainsFunc_int_planOf_1_1 k x.1 x.2.1 x.2.2.1 x.2.2.2)
def slices_ContainsFunc_int_planOf_1_1.C (k : Nat) : Ctx := { ti := TAB, con := conL [(45, slices_IndexFunc_int_planOf_1_1.con k)] }
theorem slices_ContainsFunc_int_planOf_1_1.cok (k : Nat) : CtxOk Try.prog (slices_ContainsFunc_int_planOf_1_1.C k) := ctx_ok TABok ⟨slices_IndexFunc_int_planOf_1_1.ok k, trivial⟩
theorem slices_ContainsFunc_int_planOf_1_1.ev (k : Nat) (x : Prod' slices_ContainsFunc_int_planOf_1_1.sig.ins) : slices_ContainsFunc_int_planOf_1_1.sig.ev (slices_ContainsFunc_int_planOf_1_1.C k) .auto Try.f47.results.toList (cB Try.f47) x = slices_ContainsFunc_int_planOf_1_1 k x.1 x.2.1 x.2.2.1 x.2.2.2 := by kernel_rfl
theorem slices_ContainsFunc_int_planOf_1_1.ok (k : Nat) : ConOk Try.prog 47 (slices_ContainsFunc_int_planOf_1_1.con k) := sig_ok (p := .auto) (slices_ContainsFunc_int_planOf_1_1.cok k) Try.func47 (by kernel_rfl) (show Try.f47.body = some (cB Try.f47) by kernel_rfl) (by kernel_rfl) (by kernel_rfl) (plan_of (L := []) (by kernel_rfl) trivial) (fun x y h => (slices_ContainsFunc_int_planOf_1_1.ev k x).trans h)
def impl_planOf_1 (k : Nat) (a1 : Int) (a2 : List G45) (a3 : List Int) (a4 : List Int) : Option (Bool × List Int) :=
  Option.bind (at? a2 a1) fun v5 =>
  bif hasK v5.2.1 a3 then
    some (true, a3)
  else
  Option.bind (slices_ContainsFunc_int_planOf_1_1 k a4 a1 a2 v5.2.1) fun v6 =>
  some (!v6.1, a3)
def impl_planOf_1.sig : Sig := { ps := [.val false (.int .i64) (ros (.int .i64)), .rptr (.sl T45), .ref 73 (.sl (.int .i64)) [.own 1000073], .rptr (.sl (.int .i64))], rs := [.val false [.v .bool]], ntmps := 21 }
def impl_planOf_1.con (k : Nat) : Con := impl_planOf_1.sig.con (fun x => impl_planOf_1 k x.1 x.2.1 x.2.2.1 x.2.2.2)
def impl_planOf_1.C (k : Nat) : Ctx := { ti := TAB, con := conL [(47, slices_ContainsFunc_int_planOf_1_1.con k)] }
theorem impl_planOf_1.cok (k : Nat) : CtxOk Try.prog (impl_planOf_1.C k) := ctx_ok TABok ⟨slices_ContainsFunc_int_planOf_1_1.ok k, trivial⟩
theorem impl_planOf_1.ev (k : Nat) (x : Prod' impl_planOf_1.sig.ins) : impl_planOf_1.sig.ev (impl_planOf_1.C k) .auto Try.f46.results.toList (cB Try.f46) x = impl_planOf_1 k x.1 x.2.1 x.2.2.1 x.2.2.2 := by kernel_rfl
theorem impl_planOf_1.ok (k : Nat) : ConOk Try.prog 46 (impl_planOf_1.con k) := sig_ok (p := .auto) (impl_planOf_1.cok k) Try.func46 (by kernel_rfl) (show Try.f46.body = some (cB Try.f46) by kernel_rfl) (by kernel_rfl) (by kernel_rfl) (plan_of (L := []) (by kernel_rfl) trivial) (fun x y h => (impl_planOf_1.ev k x).trans h)
def slices_IndexFunc_int_planOf_1.l0 (k : Nat) : Nat → List Int → List Int → Int → Int → List G45 → List Int → Option ((List G45 × List Int) ⊕ (Int × List G45 × List Int))
  | 0, _, _, _, _, _, _ => none
  | j + 1, a1, a2, a3, a4, a5, a6 =>
    bif decide (a4 < a3) then
      Option.bind (at? a1 a4) fun v7 =>
      Option.bind (impl_planOf_1 k v7 a5 a6 a2) fun v8 =>
      bif v8.1 then
        some (.inr (a4, a5, v8.2))
      else
      slices_IndexFunc_int_planOf_1.l0 k j a1 a2 a3 (IntKind.wrap .i64 (a4 + 1)) a5 v8.2
    else
    some (.inl (a5, a6))
def slices_IndexFunc_int_planOf_1 (k : Nat) (a1 : List Int) (a2 : List G45) (a3 : List Int) (a4 : List Int) : Option (Int × List G45 × List Int) :=
  Option.bind (slices_IndexFunc_int_planOf_1.l0 k k a1 a4 ((a1.length) : Int) 0 a2 a3) fun
    | .inl y5 =>
      some ((-1), y5.1, y5.2)
    | .inr y6 =>
      some (y6.1, y6.2.1, y6.2.2)
def slices_IndexFunc_int_planOf_1.sig : Sig := { ps := [.val false (.sl (.int .i64)) (ros (.sl (.int .i64))), .fn 46 [(29, (.sl T45), (kept (.sl T45))), (73, (.sl (.int .i64)), [.own 1000073]), (4000000, (.sl (.int .i64)), [.ro])]], rs := [.val false [.v (.int .i64)]], ntmps := 19 }
def slices_IndexFunc_int_planOf_1.con (k : Nat) : Con := slices_IndexFunc_int_planOf_1.sig.con (fun x => slices_IndexFunc_int_planOf_1 k x.1 x.2.1 x.2.2.1 x.2.2.2)
def slices_IndexFunc_int_planOf_1.C (k : Nat) : Ctx := { ti := TAB, con := conL [(46, impl_planOf_1.con k)] }
theorem slices_IndexFunc_int_planOf_1.cok (k : Nat) : CtxOk Try.prog (slices_IndexFunc_int_planOf_1.C k) := ctx_ok TABok ⟨impl_planOf_1.ok k, trivial⟩
def slices_IndexFunc_int_planOf_1.l0.ish : Shape := { tmps := [(0, .one (.bor (.int .i64))), (1, .fn 46 [.ptr 0 0, .ptr 1 0, .rp (.sl (.int .i64))]), (7, .one (.v (.int .i64))), (8, .one (.v (.int .i64)))], slots := [(0, .box 29 [.v (.sl T45)]), (1, .box 73 [.own 3]), (3, .arr false 1000073 (.int .i64))], nb := 4 }
def slices_IndexFunc_int_planOf_1.l0.outs : List (Ex × Shape) := [(.exit 0, { tmps := [], slots := [(0, .box 29 [.v (.sl T45)]), (1, .box 73 [.own 4]), (4, .arr false 1000073 (.int .i64))], nb := 5 }), (.ret, { tmps := [(4, .one (.v (.int .i64)))], slots := [(0, .box 29 [.v (.sl T45)]), (1, .box 73 [.own 4]), (4, .arr false 1000073 (.int .i64))], nb := 5 })]
def slices_IndexFunc_int_planOf_1.l0.F (k j : Nat) (x : Prod' slices_IndexFunc_int_planOf_1.l0.ish.tys) : Option (Outs slices_IndexFunc_int_planOf_1.l0.outs) := slices_IndexFunc_int_planOf_1.l0 k j x.1 x.2.1 x.2.2.1 x.2.2.2.1 x.2.2.2.2.1 x.2.2.2.2.2
def slices_IndexFunc_int_planOf_1.l0.s (k : Nat) : Summ := { n := 19, ish := slices_IndexFunc_int_planOf_1.l0.ish, outs := slices_IndexFunc_int_planOf_1.l0.outs, f := slices_IndexFunc_int_planOf_1.l0.F k k }
theorem slices_IndexFunc_int_planOf_1.l0.ev (k j : Nat) (x : Prod' slices_IndexFunc_int_planOf_1.l0.ish.tys) : V (slices_IndexFunc_int_planOf_1.C k) .auto (cO (cO (cR (cL (cR (cB Try.f45)))))) (mk slices_IndexFunc_int_planOf_1.l0.ish 19 x) (fun e st' => match e with | .nrm => (rd slices_IndexFunc_int_planOf_1.l0.ish st').bind (slices_IndexFunc_int_planOf_1.l0.F k j) | e => rdOut e st' slices_IndexFunc_int_planOf_1.l0.outs) = slices_IndexFunc_int_planOf_1.l0.F k (j + 1) x := by kernel_rfl
theorem slices_IndexFunc_int_planOf_1.l0.ok (k : Nat) : SumOk Try.prog (slices_IndexFunc_int_planOf_1.C k) (.loop (cO (cO (cR (cL (cR (cB Try.f45))))))) (slices_IndexFunc_int_planOf_1.l0.s k) := sum_ok (by kernel_rfl) (sum_loop (p := .auto) (F := slices_IndexFunc_int_planOf_1.l0.F k) (slices_IndexFunc_int_planOf_1.cok k) (by kernel_rfl) (plan_of (L := []) (by kernel_rfl) trivial) (fun _ => rfl) (fun j x y h => (slices_IndexFunc_int_planOf_1.l0.ev k j x).trans h) k rfl)
theorem slices_IndexFunc_int_planOf_1.ev (k : Nat) (x : Prod' slices_IndexFunc_int_planOf_1.sig.ins) : slices_IndexFunc_int_planOf_1.sig.ev (slices_IndexFunc_int_planOf_1.C k) (.two .auto (.two (.two .auto (.one (.sum (slices_IndexFunc_int_planOf_1.l0.s k)))) .auto)) Try.f45.results.toList (cB Try.f45) x = slices_IndexFunc_int_planOf_1 k x.1 x.2.1 x.2.2.1 x.2.2.2 := by kernel_rfl
theorem slices_IndexFunc_int_planOf_1.ok (k : Nat) : ConOk Try.prog 45 (slices_IndexFunc_int_planOf_1.con k) := sig_ok (p := (.two .auto (.two (.two .auto (.one (.sum (slices_IndexFunc_int_planOf_1.l0.s k)))) .auto))) (slices_IndexFunc_int_planOf_1.cok k) Try.func45 (by kernel_rfl) (show Try.f45.body = some (cB Try.f45) by kernel_rfl) (by kernel_rfl) (by kernel_rfl) (plan_of (L := [(slices_IndexFunc_int_planOf_1.l0.s k, cO (cR (cL (cR (cB Try.f45)))))]) (by kernel_rfl) ⟨slices_IndexFunc_int_planOf_1.l0.ok k, trivial⟩) (fun x y h => (slices_IndexFunc_int_planOf_1.ev k x).trans h)
/-- slices.Delete of a row of numbers that is given away. -/
def slices_Delete_int (l : List Int) (i j : Int) : Option (List Int) := if 0 ≤ i ∧ i ≤ j ∧ j ≤ (l.length : Int) then some (l.take i.toNat ++ l.drop j.toNat) else none
def slices_Delete_int.con (k : Nat) : Con := { ms := [.mv, .val [.ro], .val [.ro]], f := fun xs => match xs with
  | [.mv e (.int .i64) l, .val false [.leaf (.int .i64 i)], .val false [.leaf (.int .i64 j)]] => bif Nat.beq e 3 then .opt (List Int) (slices_Delete_int l i j) fun r => ⟨[.val false [.own e (.int .i64) r]], []⟩ else .fail
  | _ => .fail }
theorem slices_Delete_int.drew (w : World) (q : Nat) : (w.drewN q).heap = w.heap ∧ (w.drewN q).os = w.os ∧ (w.drewN q).tape = w.tape ∧ (w.drewN q).output = w.output := ⟨rfl, rfl, rfl, rfl⟩
theorem slices_Delete_int.ok (k : Nat) : ConOk Try.prog 50 (slices_Delete_int.con k) := by
  refine ⟨(enter_of Try.func50 (by kernel_rfl) (show Try.f50.body = some (cB Try.f50) by kernel_rfl)), ?_⟩
  intro xs rr hrr w vs F L M hF hnd hargs
  unfold slices_Delete_int.con at hrr
  dsimp only at hrr
  split at hrr
  · rename_i e l i j
    cases he : Nat.beq e 3 with
    | false => rw [he] at hrr; cases hrr
    | true =>
    rw [he] at hrr
    have hm : isMap e = false := by rw [Nat.eq_of_beq_eq_true he]; rfl
    replace hrr : (slices_Delete_int l i j).map (fun r => (⟨[.val false [.own e (.int .i64) r]], []⟩ : RR)) = some rr := hrr
    unfold slices_Delete_int at hrr
    split at hrr
    · rename_i hij
      obtain ⟨h0, h1, h2⟩ := hij
      cases hrr
      match vs, hargs with
      | [v1, v2, v3], ⟨_, _, _, _, hL, hM, ⟨rfl, rfl, hrow⟩, _, _, _, _, hL2, hM2, ⟨rfl, hv2, hn2⟩, _, _, _, _, hL3, hM3, ⟨rfl, hv3, hn3⟩, hn4, hn5⟩ =>
      have hv2 : v2 = .int .i64 i := hv2
      have hv3 : v3 = .int .i64 j := hv3
      subst hv2
      subst hv3
      subst hn2
      subst hn3
      subst hn4
      subst hn5
      subst hL3
      subst hM3
      subst hL2
      subst hM2
      subst hL
      subst hM
      obtain ⟨a, rfl⟩ : ∃ a : Nat, i = (a : Int) := ⟨i.toNat, by omega⟩
      obtain ⟨b, rfl⟩ : ∃ b : Nat, j = (b : Int) := ⟨j.toNat, by omega⟩
      rw [Int.toNat_natCast, Int.toNat_natCast]
      rcases hrow.slice hm with ⟨rfl, rfl⟩ | ⟨g, cap, cs, fr, rfl, hh, hun, hfz, hlc, hcs, hcells⟩
      · have hb0 : b = 0 := by
          have : (([] : List Int).length : Int) = 0 := rfl
          have h2 : (b : Int) ≤ (([] : List Int).length : Int) := h2
          omega
        have ha0 : a = 0 := by omega
        subst hb0
        subst ha0
        refine (Try.slices_Delete_int_empty none 0 w).mono ?_
        rintro e' w' ⟨rfl, rfl⟩
        refine ⟨_, rfl, ⟨rfl, rfl, rfl, Nat.le_refl _, fun _ _ _ => rfl⟩, [], [.row (.slice none 0 0)], ?_, List.nodup_nil, rfl, rfl, RowS.ok (.inl ⟨rfl, rfl⟩) hm, rfl⟩
        intro c hc q hq
        rw [List.mem_singleton.1 hc] at hq
        cases hq
      · have hsz : (Ty.int IntKind.i64).sz = 1 := rfl
        rw [hsz, Nat.mul_one] at hcs
        have hab : a ≤ b := by omega
        have hbl : b ≤ l.length := by omega
        obtain ⟨rfl, hcapm⟩ := hfz rfl
        have hcell : ∀ q, q < l.length → w.cell? ⟨g, 0 + q, none⟩ = some (.int .i64 (l.getD q 0)) := by
          intro q hq
          have h3 := hcells q l[q] (List.getElem?_eq_getElem hq)
          have h3 : (cs.toList.drop (q * 1)).take 1 = [.int .i64 l[q]] := h3
          rw [Nat.mul_one] at h3
          have h4 : cs.toList[q]? = some (.int .i64 l[q]) := by
            have := congrArg (fun z => z[0]?) h3
            simpa using this
          rw [cell_of_row w g (0 + q) cs e (0, 0) hh, Nat.zero_add, ← Array.getElem?_toList, h4, List.getD_eq_getElem?_getD, List.getElem?_eq_getElem hq]
          rfl
        refine (Try.slices_Delete_int_cells g 0 l.length cap a b l w (Nat.le_refl _) hlc (by unfold maxLen at hcapm; omega) hab hbl hcell (fun q hq => by
          simp only [World.frozen?, hh]
          simp)).mono ?_
        rintro e' w' ⟨rfl, q, rfl⟩
        rw [List.take_of_length_le (Nat.le_refl l.length)]
        obtain ⟨d1, d2, d3, d4⟩ := slices_Delete_int.drew w q
        generalize hvs : ((l.take a ++ l.drop b ++ List.replicate (b - a) (0 : Int)).map (Value.int .i64)) = us
        have hul : us.length = l.length := by rw [← hvs]; simp; omega
        obtain ⟨r1, r2, r3, r4⟩ := setCells_rest g us 0 (w.drewN q)
        have hh' : (w.drewN q).heap[g]? = some (.cells cs e (0, 0)) := by rw [d1]; exact hh
        have hblk := setCells_blk g us 0 cs (w.drewN q) hh' (by omega)
        have hgl : g < w.heap.size := (Array.getElem?_eq_some_iff.1 hh).1
        have hres : (l.take a ++ l.drop b).length = l.length - (b - a) := by simp; omega
        refine ⟨_, rfl, ⟨r1.trans d2, r2.trans d3, r3.trans d4, by rw [r4, d1]; exact Nat.le_refl _, fun x hx hn => ?_⟩, [], [.row (.slice (some ⟨g, 0, none⟩) (l.length - (b - a)) cap)], ?_, ?_, rfl, rfl, RowS.ok (.inr ⟨g, cap, _, (0, 0), by rw [hres], hblk, .inl rfl, fun _ => ⟨rfl, hcapm⟩, by rw [hres]; omega, ?_, ?_⟩) hm, rfl⟩
        · rw [setCells_far g us 0 (w.drewN q) x (fun ex => hn (by subst ex; exact List.mem_singleton.2 rfl)), d1]
        · intro c hc x hx
          rw [List.mem_singleton.1 hc] at hx
          cases hx
          exact ⟨.inl (List.mem_singleton.2 rfl), by rw [r4, d1]; exact hgl⟩
        · exact List.nodup_cons.2 ⟨(fun h => nomatch h), List.nodup_nil⟩
        · rw [List.size_toArray, overL_length _ _ _ (by simp; omega), Array.length_toList, hcs, hsz, Nat.mul_one]
        · intro x y hx
          show ((overL cs.toList 0 us).toArray.toList.drop (x * 1)).take 1 = [.int .i64 y]
          have hxl := (List.getElem?_eq_some_iff.1 hx).1
          have hus : us[x]? = some (.int .i64 y) := by
            rw [← hvs, List.getElem?_map, List.getElem?_append_left hxl, hx]
            rfl
          rw [Nat.mul_one, List.toList_toArray]
          apply List.ext_getElem?
          intro m
          rw [List.getElem?_take, List.getElem?_drop, get_overL _ _ _ (by simp; omega)]
          cases m with
          | zero =>
            rw [if_pos (by omega), if_neg (by omega), if_pos (by omega), Nat.add_zero, Nat.sub_zero, hus]
            rfl
          | succ m => rw [if_neg (by omega)]; rfl
    · cases hrr
  · cases hrr
def impl_planOf.l0 : Nat → Int → Int → List Int → Option ((List Int))
  | 0, _, _, _ => none
  | j + 1, a1, a2, a3 =>
    bif decide (a2 < a1) then
      Option.bind (at? a3 a2) fun v4 =>
      Option.bind (at? a3 a2) fun v5 =>
      impl_planOf.l0 j a1 (IntKind.wrap .i64 (a2 + 1)) (List.set a3 (Int.toNat a2) a2)
    else
    some a3
def impl_planOf.l1 (k : Nat) : Nat → List G45 → List G70 → List Int → List Int → Option ((List G45 × List G70 × List Int × List Int))
  | 0, _, _, _, _ => none
  | j + 1, a1, a2, a3, a4 =>
    bif decide (0 < ((a3.length) : Int)) then
      Option.bind (slices_IndexFunc_int_planOf_1 k a3 a1 a4 a3) fun v5 =>
      bif decide (v5.1 < 0) then
        Option.bind (at? a3 0) fun v6 =>
        Option.bind (at? a3 0) fun v7 =>
        let e8 := at? v5.2.1 v7
        Option.bind (e8) fun v9 =>
        Option.bind (app? 32 a2 [(1, (v7, (v9.2.1, ((v5.2.2.length) : Int))))]) fun v10 =>
        Option.bind (e8) fun v11 =>
        impl_planOf.l1 k j v5.2.1 v10 a3 (addK v11.2.1 v5.2.2)
      else
      let e12 := at? a3 v5.1
      Option.bind (e12) fun v13 =>
      Option.bind (e12) fun v14 =>
      Option.bind (at? v5.2.1 v14) fun v15 =>
      Option.bind (app? 32 a2 [(2, (v14, (v15.2.1, 0)))]) fun v16 =>
      Option.bind (slices_Delete_int a3 v5.1 (IntKind.wrap .i64 (v5.1 + 1))) fun v17 =>
      impl_planOf.l1 k j v5.2.1 v16 v17 v5.2.2
    else
    some (a1, a2, a3, a4)
def impl_planOf (k : Nat) (a1 : List G45) : Option (List G70) :=
  Option.bind (impl_writes k a1) fun v2 =>
  Option.bind (make? 8 ((v2.length) : Int) ((v2.length) : Int) 0) fun v3 =>
  Option.bind (impl_planOf.l0 k ((v3.length) : Int) 0 v3) fun y4 =>
  Option.bind (impl_planOf.l1 k k v2 [] y4 []) fun y5 =>
  some y5.2.1
def impl_planOf.sig : Sig := { ps := [.val false (.sl T45) (ros (.sl T45))], rs := [.val false [.own 70 T70]], ntmps := 76 }
def impl_planOf.con (k : Nat) : Con := impl_planOf.sig.con (fun x => impl_planOf k x)
def impl_planOf.C (k : Nat) : Ctx := { ti := TAB, con := conL [(44, impl_writes.con k), (45, slices_IndexFunc_int_planOf_1.con k), (50, slices_Delete_int.con k)] }
theorem impl_planOf.cok (k : Nat) : CtxOk Try.prog (impl_planOf.C k) := ctx_ok TABok ⟨impl_writes.ok k, slices_IndexFunc_int_planOf_1.ok k, slices_Delete_int.ok k, trivial⟩
def impl_planOf.l0.ish : Shape := { tmps := [(4, .one (.ptr 2 0)), (17, .one (.v (.int .i64))), (18, .one (.v (.int .i64)))], slots := [(2, .box 72 [.own 3]), (3, .arr false 3 (.int .i64))], nb := 4 }
def impl_planOf.l0.outs : List (Ex × Shape) := [(.exit 0, { tmps := [], slots := [(2, .box 72 [.own 4]), (4, .arr false 3 (.int .i64))], nb := 5 })]
def impl_planOf.l0.F (k j : Nat) (x : Prod' impl_planOf.l0.ish.tys) : Option (Outs impl_planOf.l0.outs) := impl_planOf.l0 j x.1 x.2.1 x.2.2
def impl_planOf.l0.s (k : Nat) : Summ := { n := 76, ish := impl_planOf.l0.ish, outs := impl_planOf.l0.outs, f := impl_planOf.l0.F k k }
theorem impl_planOf.l0.ev (k j : Nat) (x : Prod' impl_planOf.l0.ish.tys) : V (impl_planOf.C k) .auto (cO (cO (cR (cL (cR (cR (cR (cB Try.f27)))))))) (mk impl_planOf.l0.ish 76 x) (fun e st' => match e with | .nrm => (rd impl_planOf.l0.ish st').bind (impl_planOf.l0.F k j) | e => rdOut e st' impl_planOf.l0.outs) = impl_planOf.l0.F k (j + 1) x := by kernel_rfl
theorem impl_planOf.l0.ok (k : Nat) : SumOk Try.prog (impl_planOf.C k) (.loop (cO (cO (cR (cL (cR (cR (cR (cB Try.f27))))))))) (impl_planOf.l0.s k) := sum_ok (by kernel_rfl) (sum_loop (p := .auto) (F := impl_planOf.l0.F k) (impl_planOf.cok k) (by kernel_rfl) (plan_of (L := []) (by kernel_rfl) trivial) (fun _ => rfl) (fun j x y h => (impl_planOf.l0.ev k j x).trans h) k rfl)
def impl_planOf.l1.ish : Shape := { tmps := [(3, .one (.ptr 0 0)), (4, .one (.ptr 2 0)), (6, .one (.ptr 6 0)), (7, .one (.own 7))], slots := [(0, .box 29 [.v (.sl T45)]), (2, .box 72 [.own 8]), (6, .box 73 [.own 9]), (7, .arr false 70 T70), (8, .arr false 3 (.int .i64)), (9, .arr false 1000073 (.int .i64))], nb := 10 }
def impl_planOf.l1.outs : List (Ex × Shape) := [(.exit 2, { tmps := [(7, .one (.own 10))], slots := [(0, .box 29 [.v (.sl T45)]), (2, .box 72 [.own 11]), (6, .box 73 [.own 12]), (10, .arr false 70 T70), (11, .arr false 3 (.int .i64)), (12, .arr false 1000073 (.int .i64))], nb := 13 })]
def impl_planOf.l1.F (k j : Nat) (x : Prod' impl_planOf.l1.ish.tys) : Option (Outs impl_planOf.l1.outs) := impl_planOf.l1 k j x.1 x.2.1 x.2.2.1 x.2.2.2
def impl_planOf.l1.s (k : Nat) : Summ := { n := 76, ish := impl_planOf.l1.ish, outs := impl_planOf.l1.outs, f := impl_planOf.l1.F k k }
theorem impl_planOf.l1.ev (k j : Nat) (x : Prod' impl_planOf.l1.ish.tys) : V (impl_planOf.C k) .auto (cO (cO (cL (cR (cR (cR (cR (cR (cR (cB Try.f27)))))))))) (mk impl_planOf.l1.ish 76 x) (fun e st' => match e with | .nrm => (rd impl_planOf.l1.ish st').bind (impl_planOf.l1.F k j) | e => rdOut e st' impl_planOf.l1.outs) = impl_planOf.l1.F k (j + 1) x := by kernel_rfl
theorem impl_planOf.l1.ok (k : Nat) : SumOk Try.prog (impl_planOf.C k) (.loop (cO (cO (cL (cR (cR (cR (cR (cR (cR (cB Try.f27))))))))))) (impl_planOf.l1.s k) := sum_ok (by kernel_rfl) (sum_loop (p := .auto) (F := impl_planOf.l1.F k) (impl_planOf.cok k) (by kernel_rfl) (plan_of (L := []) (by kernel_rfl) trivial) (fun _ => rfl) (fun j x y h => (impl_planOf.l1.ev k j x).trans h) k rfl)
theorem impl_planOf.ev (k : Nat) (x : Prod' impl_planOf.sig.ins) : impl_planOf.sig.ev (impl_planOf.C k) (.two .auto (.two .auto (.two .auto (.two (.two .auto (.one (.sum (impl_planOf.l0.s k)))) (.two .auto (.two .auto (.two (.one (.sum (impl_planOf.l1.s k))) .auto))))))) Try.f27.results.toList (cB Try.f27) x = impl_planOf k x := by kernel_rfl
theorem impl_planOf.ok (k : Nat) : ConOk Try.prog 27 (impl_planOf.con k) := sig_ok (p := (.two .auto (.two .auto (.two .auto (.two (.two .auto (.one (.sum (impl_planOf.l0.s k)))) (.two .auto (.two .auto (.two (.one (.sum (impl_planOf.l1.s k))) .auto)))))))) (impl_planOf.cok k) Try.func27 (by kernel_rfl) (show Try.f27.body = some (cB Try.f27) by kernel_rfl) (by kernel_rfl) (by kernel_rfl) (plan_of (L := [(impl_planOf.l0.s k, cO (cR (cL (cR (cR (cR (cB Try.f27))))))), (impl_planOf.l1.s k, cO (cL (cR (cR (cR (cR (cR (cR (cB Try.f27)))))))))]) (by kernel_rfl) ⟨impl_planOf.l0.ok k, impl_planOf.l1.ok k, trivial⟩) (fun x y h => (impl_planOf.ev k x).trans h)
end Go.Proofs.YtaajcllchbnjiaaE

namespace Go.Proofs.YtaajcllchbnjiaaE
open Go Go.RowKit
set_option linter.unusedVariables false
def impl_isAgent (k : Nat) (a1 : G26) : Option (Bool) :=
  Option.bind (impl_isPackage k a1.1) fun v2 =>
  bif v2 && (decide (0 < ((a1.1.2.2.length) : Int))) then
    Option.bind (impl_planOf k a1.1.2.2) fun v3 =>
    Option.bind (impl_slotsOf k v3) fun v4 =>
    some (decide (v4 ≤ 4))
  else
  some false
def impl_isAgent.sig : Sig := { ps := [.val true T26 (ros T26)], rs := [.val false [.v .bool]], ntmps := 21 }
def impl_isAgent.con (k : Nat) : Con := impl_isAgent.sig.con (fun x => impl_isAgent k x)
def impl_isAgent.C (k : Nat) : Ctx := { ti := TAB, con := conL [(25, impl_isPackage.con k), (26, impl_slotsOf.con k), (27, impl_planOf.con k)], rob := true }
theorem impl_isAgent.cok (k : Nat) : CtxOk Try.prog (impl_isAgent.C k) := ctx_ok TABok ⟨impl_isPackage.ok k, impl_slotsOf.ok k, impl_planOf.ok k, trivial⟩
theorem impl_isAgent.ev (k : Nat) (x : Prod' impl_isAgent.sig.ins) : impl_isAgent.sig.ev (impl_isAgent.C k) .auto Try.f18.results.toList (cB Try.f18) x = impl_isAgent k x := by kernel_rfl
theorem impl_isAgent.ok (k : Nat) : ConOk Try.prog 18 (impl_isAgent.con k) := sig_ok (p := .auto) (impl_isAgent.cok k) Try.func18 (by kernel_rfl) (show Try.f18.body = some (cB Try.f18) by kernel_rfl) (by kernel_rfl) (by kernel_rfl) (plan_of (L := []) (by kernel_rfl) trivial) (fun x y h => (impl_isAgent.ev k x).trans h)
def impl_AgentRight (k : Nat) (a1 : G26) : Option (Bool) :=
  Option.bind (impl_isAgent k a1) fun v2 =>
  some v2
def impl_AgentRight.sig : Sig := { ps := [.val true T26 (ros T26)], rs := [.val false [.v .bool]], ntmps := 5 }
def impl_AgentRight.con (k : Nat) : Con := impl_AgentRight.sig.con (fun x => impl_AgentRight k x)
def impl_AgentRight.C (k : Nat) : Ctx := { ti := TAB, con := conL [(18, impl_isAgent.con k)], rob := true }
theorem impl_AgentRight.cok (k : Nat) : CtxOk Try.prog (impl_AgentRight.C k) := ctx_ok TABok ⟨impl_isAgent.ok k, trivial⟩
theorem impl_AgentRight.ev (k : Nat) (x : Prod' impl_AgentRight.sig.ins) : impl_AgentRight.sig.ev (impl_AgentRight.C k) .auto Try.f8.results.toList (cB Try.f8) x = impl_AgentRight k x := by kernel_rfl
theorem impl_AgentRight.ok (k : Nat) : ConOk Try.prog 8 (impl_AgentRight.con k) := sig_ok (p := .auto) (impl_AgentRight.cok k) Try.func8 (by kernel_rfl) (show Try.f8.body = some (cB Try.f8) by kernel_rfl) (by kernel_rfl) (by kernel_rfl) (plan_of (L := []) (by kernel_rfl) trivial) (fun x y h => (impl_AgentRight.ev k x).trans h)
def laws_eqStep (a1 : G45) (a2 : G45) : Option (Bool) :=
  bif a1.1 != a2.1 then
    some false
  else
  bif a1.2.1 != a2.2.1 then
    some false
  else
  bif a1.2.2.1 != a2.2.2.1 then
    some false
  else
  bif !(a1.2.2.2 == a2.2.2.2) then
    some false
  else
  some true
def laws_eqStep.sig : Sig := { ps := [.val true T45 (ros T45), .val true T45 (ros T45)], rs := [.val false [.v .bool]], ntmps := 25 }
def laws_eqStep.con (k : Nat) : Con := laws_eqStep.sig.con (fun x => laws_eqStep x.1 x.2)
def laws_eqStep.C (k : Nat) : Ctx := { ti := TAB, con := conL [] }
theorem laws_eqStep.cok (k : Nat) : CtxOk Try.prog (laws_eqStep.C k) := ctx_ok TABok trivial
theorem laws_eqStep.ev (k : Nat) (x : Prod' laws_eqStep.sig.ins) : laws_eqStep.sig.ev (laws_eqStep.C k) .auto Try.f54.results.toList (cB Try.f54) x = laws_eqStep x.1 x.2 := by kernel_rfl
theorem laws_eqStep.ok (k : Nat) : ConOk Try.prog 54 (laws_eqStep.con k) := sig_ok (p := .auto) (laws_eqStep.cok k) Try.func54 (by kernel_rfl) (show Try.f54.body = some (cB Try.f54) by kernel_rfl) (by kernel_rfl) (by kernel_rfl) (plan_of (L := []) (by kernel_rfl) trivial) (fun x y h => (laws_eqStep.ev k x).trans h)
def laws_eqStepS.l0 : Nat → List G45 → List G45 → Int → Option (Unit ⊕ Bool)
  | 0, _, _, _ => none
  | j + 1, a1, a2, a3 =>
    bif decide (a3 < ((a1.length) : Int)) then
      Option.bind (at? a1 a3) fun v4 =>
      Option.bind (at? a2 a3) fun v5 =>
      Option.bind (laws_eqStep v4 v5) fun v6 =>
      bif !v6 then
        some (.inr false)
      else
      laws_eqStepS.l0 j a1 a2 (IntKind.wrap .i64 (a3 + 1))
    else
    some (.inl ())
def laws_eqStepS (k : Nat) (a1 : List G45) (a2 : List G45) : Option (Bool) :=
  bif ((a1.length) : Int) != ((a2.length) : Int) then
    some false
  else
  Option.bind (laws_eqStepS.l0 k a1 a2 0) fun
    | .inl y3 =>
      some true
    | .inr y4 =>
      some y4
def laws_eqStepS.sig : Sig := { ps := [.val false (.sl T45) (ros (.sl T45)), .val false (.sl T45) (ros (.sl T45))], rs := [.val false [.v .bool]], ntmps := 27 }
def laws_eqStepS.con (k : Nat) : Con := laws_eqStepS.sig.con (fun x => laws_eqStepS k x.1 x.2)
def laws_eqStepS.C (k : Nat) : Ctx := { ti := TAB, con := conL [(54, laws_eqStep.con k)] }
theorem laws_eqStepS.cok (k : Nat) : CtxOk Try.prog (laws_eqStepS.C k) := ctx_ok TABok ⟨laws_eqStep.ok k, trivial⟩
def laws_eqStepS.l0.ish : Shape := { tmps := [(0, .one (.bor T45)), (1, .one (.bor T45)), (5, .one (.v (.int .i64)))], slots := [], nb := 0 }
def laws_eqStepS.l0.outs : List (Ex × Shape) := [(.exit 0, { tmps := [], slots := [], nb := 0 }), (.ret, { tmps := [(4, .one (.v .bool))], slots := [], nb := 0 })]
def laws_eqStepS.l0.F (k j : Nat) (x : Prod' laws_eqStepS.l0.ish.tys) : Option (Outs laws_eqStepS.l0.outs) := laws_eqStepS.l0 j x.1 x.2.1 x.2.2
def laws_eqStepS.l0.s (k : Nat) : Summ := { n := 27, ish := laws_eqStepS.l0.ish, outs := laws_eqStepS.l0.outs, f := laws_eqStepS.l0.F k k }
theorem laws_eqStepS.l0.ev (k j : Nat) (x : Prod' laws_eqStepS.l0.ish.tys) : V (laws_eqStepS.C k) .auto (cO (cO (cR (cL (cR (cR (cB Try.f33))))))) (mk laws_eqStepS.l0.ish 27 x) (fun e st' => match e with | .nrm => (rd laws_eqStepS.l0.ish st').bind (laws_eqStepS.l0.F k j) | e => rdOut e st' laws_eqStepS.l0.outs) = laws_eqStepS.l0.F k (j + 1) x := by kernel_rfl
theorem laws_eqStepS.l0.ok (k : Nat) : SumOk Try.prog (laws_eqStepS.C k) (.loop (cO (cO (cR (cL (cR (cR (cB Try.f33)))))))) (laws_eqStepS.l0.s k) := sum_ok (by kernel_rfl) (sum_loop (p := .auto) (F := laws_eqStepS.l0.F k) (laws_eqStepS.cok k) (by kernel_rfl) (plan_of (L := []) (by kernel_rfl) trivial) (fun _ => rfl) (fun j x y h => (laws_eqStepS.l0.ev k j x).trans h) k rfl)
theorem laws_eqStepS.ev (k : Nat) (x : Prod' laws_eqStepS.sig.ins) : laws_eqStepS.sig.ev (laws_eqStepS.C k) (.two .auto (.two .auto (.two (.two .auto (.one (.sum (laws_eqStepS.l0.s k)))) .auto))) Try.f33.results.toList (cB Try.f33) x = laws_eqStepS k x.1 x.2 := by kernel_rfl
theorem laws_eqStepS.ok (k : Nat) : ConOk Try.prog 33 (laws_eqStepS.con k) := sig_ok (p := (.two .auto (.two .auto (.two (.two .auto (.one (.sum (laws_eqStepS.l0.s k)))) .auto)))) (laws_eqStepS.cok k) Try.func33 (by kernel_rfl) (show Try.f33.body = some (cB Try.f33) by kernel_rfl) (by kernel_rfl) (by kernel_rfl) (plan_of (L := [(laws_eqStepS.l0.s k, cO (cR (cL (cR (cR (cB Try.f33))))))]) (by kernel_rfl) ⟨laws_eqStepS.l0.ok k, trivial⟩) (fun x y h => (laws_eqStepS.ev k x).trans h)
def laws_eqPackage (k : Nat) (a1 : G24) (a2 : G24) : Option (Bool) :=
  bif a1.1 != a2.1 then
    some false
  else
  bif !(a1.2.1 == a2.2.1) then
    some false
  else
  Option.bind (laws_eqStepS k a1.2.2 a2.2.2) fun v3 =>
  bif !v3 then
    some false
  else
  some true
def laws_eqPackage.sig : Sig := { ps := [.val true T24 (ros T24), .val true T24 (ros T24)], rs := [.val false [.v .bool]], ntmps := 21 }
def laws_eqPackage.con (k : Nat) : Con := laws_eqPackage.sig.con (fun x => laws_eqPackage k x.1 x.2)
def laws_eqPackage.C (k : Nat) : Ctx := { ti := TAB, con := conL [(33, laws_eqStepS.con k)], rob := true }
theorem laws_eqPackage.cok (k : Nat) : CtxOk Try.prog (laws_eqPackage.C k) := ctx_ok TABok ⟨laws_eqStepS.ok k, trivial⟩
theorem laws_eqPackage.ev (k : Nat) (x : Prod' laws_eqPackage.sig.ins) : laws_eqPackage.sig.ev (laws_eqPackage.C k) .auto Try.f14.results.toList (cB Try.f14) x = laws_eqPackage k x.1 x.2 := by kernel_rfl
theorem laws_eqPackage.ok (k : Nat) : ConOk Try.prog 14 (laws_eqPackage.con k) := sig_ok (p := .auto) (laws_eqPackage.cok k) Try.func14 (by kernel_rfl) (show Try.f14.body = some (cB Try.f14) by kernel_rfl) (by kernel_rfl) (by kernel_rfl) (plan_of (L := []) (by kernel_rfl) trivial) (fun x y h => (laws_eqPackage.ev k x).trans h)
def laws_eqAgent (k : Nat) (a1 : G26) (a2 : G26) : Option (Bool) :=
  Option.bind (laws_eqPackage k a1.1 a2.1) fun v3 =>
  bif !v3 then
    some false
  else
  bif !(a1.2 == a2.2) then
    some false
  else
  some true
def laws_eqAgent.sig : Sig := { ps := [.val true T26 (ros T26), .val true T26 (ros T26)], rs := [.val false [.v .bool]], ntmps := 16 }
def laws_eqAgent.con (k : Nat) : Con := laws_eqAgent.sig.con (fun x => laws_eqAgent k x.1 x.2)
def laws_eqAgent.C (k : Nat) : Ctx := { ti := TAB, con := conL [(14, laws_eqPackage.con k)], rob := true }
theorem laws_eqAgent.cok (k : Nat) : CtxOk Try.prog (laws_eqAgent.C k) := ctx_ok TABok ⟨laws_eqPackage.ok k, trivial⟩
theorem laws_eqAgent.ev (k : Nat) (x : Prod' laws_eqAgent.sig.ins) : laws_eqAgent.sig.ev (laws_eqAgent.C k) .auto Try.f9.results.toList (cB Try.f9) x = laws_eqAgent k x.1 x.2 := by kernel_rfl
theorem laws_eqAgent.ok (k : Nat) : ConOk Try.prog 9 (laws_eqAgent.con k) := sig_ok (p := .auto) (laws_eqAgent.cok k) Try.func9 (by kernel_rfl) (show Try.f9.body = some (cB Try.f9) by kernel_rfl) (by kernel_rfl) (by kernel_rfl) (plan_of (L := []) (by kernel_rfl) trivial) (fun x y h => (laws_eqAgent.ev k x).trans h)
def laws_FnExactAgentRight (k : Nat) (a1 : G26) : Option (Bool) :=
  Option.bind (laws_szAgent k a1 1048576) fun v2 =>
  bif decide (v2 < 0) then
    some true
  else
  Option.bind (laws_toAgent k a1) fun v3 =>
  Option.bind (spec_AgentRight k ((v3.1, (v3.2.1, v3.2.2.1)), v3.2.2.2)) fun v4 =>
  Option.bind (laws_toAgent k a1) fun v5 =>
  let e6 := ((v5.1, (v5.2.1, v5.2.2.1)), v5.2.2.2)
  Option.bind (impl_AgentRight k e6) fun v7 =>
  bif !(v7 == v4) then
    some false
  else
  Option.bind (laws_toAgent k a1) fun v8 =>
  Option.bind (laws_eqAgent k e6 ((v8.1, (v8.2.1, v8.2.2.1)), v8.2.2.2)) fun v9 =>
  bif !v9 then
    some false
  else
  some true
def laws_FnExactAgentRight.sig : Sig := { ps := [.val true T26 (ros T26)], rs := [.val false [.v .bool]], ntmps := 27 }
def laws_FnExactAgentRight.con (k : Nat) : Con := laws_FnExactAgentRight.sig.con (fun x => laws_FnExactAgentRight k x)
def laws_FnExactAgentRight.C (k : Nat) : Ctx := { ti := TAB, con := conL [(5, laws_szAgent.con k), (6, spec_AgentRight.con k), (7, laws_toAgent.con k), (8, impl_AgentRight.con k), (9, laws_eqAgent.con k)], rob := true }
theorem laws_FnExactAgentRight.cok (k : Nat) : CtxOk Try.prog (laws_FnExactAgentRight.C k) := ctx_ok TABok ⟨laws_szAgent.ok k, spec_AgentRight.ok k, laws_toAgent.ok k, impl_AgentRight.ok k, laws_eqAgent.ok k, trivial⟩
theorem laws_FnExactAgentRight.ev (k : Nat) (x : Prod' laws_FnExactAgentRight.sig.ins) : laws_FnExactAgentRight.sig.ev (laws_FnExactAgentRight.C k) .auto Try.f3.results.toList (cB Try.f3) x = laws_FnExactAgentRight k x := by kernel_rfl
theorem laws_FnExactAgentRight.ok (k : Nat) : ConOk Try.prog 3 (laws_FnExactAgentRight.con k) := sig_ok (p := .auto) (laws_FnExactAgentRight.cok k) Try.func3 (by kernel_rfl) (show Try.f3.body = some (cB Try.f3) by kernel_rfl) (by kernel_rfl) (by kernel_rfl) (plan_of (L := []) (by kernel_rfl) trivial) (fun x y h => (laws_FnExactAgentRight.ev k x).trans h)
def spec_l01Fold (a1 : Int) : Option (Int) :=
  bif decide (a1 < 0) then
    some (IntKind.wrap .u64 ((IntKind.wrap .u64 (2 * (IntKind.wrap .u64 (IntKind.wrap .i64 (0 - (IntKind.wrap .i64 (a1 + 1))))))) + 1))
  else
  some (IntKind.wrap .u64 (2 * (IntKind.wrap .u64 a1)))
def spec_l01Fold.sig : Sig := { ps := [.val false (.int .i64) (ros (.int .i64))], rs := [.val false [.v (.int .u64)]], ntmps := 14 }
def spec_l01Fold.con (k : Nat) : Con := spec_l01Fold.sig.con (fun x => spec_l01Fold x)
def spec_l01Fold.C (k : Nat) : Ctx := { ti := TAB, con := conL [] }
theorem spec_l01Fold.cok (k : Nat) : CtxOk Try.prog (spec_l01Fold.C k) := ctx_ok TABok trivial
theorem spec_l01Fold.ev (k : Nat) (x : Prod' spec_l01Fold.sig.ins) : spec_l01Fold.sig.ev (spec_l01Fold.C k) .auto Try.f57.results.toList (cB Try.f57) x = spec_l01Fold x := by kernel_rfl
theorem spec_l01Fold.ok (k : Nat) : ConOk Try.prog 57 (spec_l01Fold.con k) := sig_ok (p := .auto) (spec_l01Fold.cok k) Try.func57 (by kernel_rfl) (show Try.f57.body = some (cB Try.f57) by kernel_rfl) (by kernel_rfl) (by kernel_rfl) (plan_of (L := []) (by kernel_rfl) trivial) (fun x y h => (spec_l01Fold.ev k x).trans h)
def spec_PutNum.l0 : Nat → Int → List Int → Option ((Int × List Int))
  | 0, _, _ => none
  | j + 1, a1, a2 =>
    bif decide (128 ≤ a1) then
      Option.bind (nz? 128) fun v3 =>
      Option.bind (app? 1 a2 [(IntKind.wrap .u8 (IntKind.wrap .u64 ((Int.tmod a1 128) + 128)))]) fun v4 =>
      Option.bind (nz? 128) fun v5 =>
      spec_PutNum.l0 j (IntKind.wrap .u64 (Int.tdiv a1 128)) v4
    else
    some (a1, a2)
def spec_PutNum (k : Nat) (a1 : Int) : Option (Str) :=
  Option.bind (spec_l01Fold a1) fun v2 =>
  Option.bind (spec_PutNum.l0 k v2 []) fun y3 =>
  Option.bind (app? 1 y3.2 [(IntKind.wrap .u8 y3.1)]) fun v4 =>
  some (listByte v4)
def spec_PutNum.sig : Sig := { ps := [.val false (.int .i64) (ros (.int .i64))], rs := [.val false [.v .str]], ntmps := 25 }
def spec_PutNum.con (k : Nat) : Con := spec_PutNum.sig.con (fun x => spec_PutNum k x)
def spec_PutNum.C (k : Nat) : Ctx := { ti := TAB, con := conL [(57, spec_l01Fold.con k)] }
theorem spec_PutNum.cok (k : Nat) : CtxOk Try.prog (spec_PutNum.C k) := ctx_ok TABok ⟨spec_l01Fold.ok k, trivial⟩
def spec_PutNum.l0.ish : Shape := { tmps := [(3, .one (.v (.int .u64))), (4, .one (.own 1))], slots := [(1, .arr false 5 (.int .u8))], nb := 2 }
def spec_PutNum.l0.outs : List (Ex × Shape) := [(.exit 0, { tmps := [(3, .one (.v (.int .u64))), (4, .one (.own 2))], slots := [(2, .arr false 5 (.int .u8))], nb := 3 })]
def spec_PutNum.l0.F (k j : Nat) (x : Prod' spec_PutNum.l0.ish.tys) : Option (Outs spec_PutNum.l0.outs) := spec_PutNum.l0 j x.1 x.2
def spec_PutNum.l0.s (k : Nat) : Summ := { n := 25, ish := spec_PutNum.l0.ish, outs := spec_PutNum.l0.outs, f := spec_PutNum.l0.F k k }
theorem spec_PutNum.l0.ev (k j : Nat) (x : Prod' spec_PutNum.l0.ish.tys) : V (spec_PutNum.C k) .auto (cO (cO (cL (cR (cR (cR (cB Try.f39))))))) (mk spec_PutNum.l0.ish 25 x) (fun e st' => match e with | .nrm => (rd spec_PutNum.l0.ish st').bind (spec_PutNum.l0.F k j) | e => rdOut e st' spec_PutNum.l0.outs) = spec_PutNum.l0.F k (j + 1) x := by kernel_rfl
theorem spec_PutNum.l0.ok (k : Nat) : SumOk Try.prog (spec_PutNum.C k) (.loop (cO (cO (cL (cR (cR (cR (cB Try.f39)))))))) (spec_PutNum.l0.s k) := sum_ok (by kernel_rfl) (sum_loop (p := .auto) (F := spec_PutNum.l0.F k) (spec_PutNum.cok k) (by kernel_rfl) (plan_of (L := []) (by kernel_rfl) trivial) (fun _ => rfl) (fun j x y h => (spec_PutNum.l0.ev k j x).trans h) k rfl)
theorem spec_PutNum.ev (k : Nat) (x : Prod' spec_PutNum.sig.ins) : spec_PutNum.sig.ev (spec_PutNum.C k) (.two .auto (.two .auto (.two .auto (.two (.one (.sum (spec_PutNum.l0.s k))) .auto)))) Try.f39.results.toList (cB Try.f39) x = spec_PutNum k x := by kernel_rfl
theorem spec_PutNum.ok (k : Nat) : ConOk Try.prog 39 (spec_PutNum.con k) := sig_ok (p := (.two .auto (.two .auto (.two .auto (.two (.one (.sum (spec_PutNum.l0.s k))) .auto))))) (spec_PutNum.cok k) Try.func39 (by kernel_rfl) (show Try.f39.body = some (cB Try.f39) by kernel_rfl) (by kernel_rfl) (by kernel_rfl) (plan_of (L := [(spec_PutNum.l0.s k, cO (cL (cR (cR (cR (cB Try.f39))))))]) (by kernel_rfl) ⟨spec_PutNum.l0.ok k, trivial⟩) (fun x y h => (spec_PutNum.ev k x).trans h)
def spec_PutText (k : Nat) (a1 : Str) : Option (Str) :=
  bif decide (8000 < ((a1.length) : Int)) then
    some ([])
  else
  Option.bind (spec_PutNum k ((a1.length) : Int)) fun v2 =>
  Option.bind (cat? v2 a1) fun v3 =>
  some v3
def spec_PutText.sig : Sig := { ps := [.val false .str (ros .str)], rs := [.val false [.v .str]], ntmps := 11 }
def spec_PutText.con (k : Nat) : Con := spec_PutText.sig.con (fun x => spec_PutText k x)
def spec_PutText.C (k : Nat) : Ctx := { ti := TAB, con := conL [(39, spec_PutNum.con k)] }
theorem spec_PutText.cok (k : Nat) : CtxOk Try.prog (spec_PutText.C k) := ctx_ok TABok ⟨spec_PutNum.ok k, trivial⟩
theorem spec_PutText.ev (k : Nat) (x : Prod' spec_PutText.sig.ins) : spec_PutText.sig.ev (spec_PutText.C k) .auto Try.f20.results.toList (cB Try.f20) x = spec_PutText k x := by kernel_rfl
theorem spec_PutText.ok (k : Nat) : ConOk Try.prog 20 (spec_PutText.con k) := sig_ok (p := .auto) (spec_PutText.cok k) Try.func20 (by kernel_rfl) (show Try.f20.body = some (cB Try.f20) by kernel_rfl) (by kernel_rfl) (by kernel_rfl) (plan_of (L := []) (by kernel_rfl) trivial) (fun x y h => (spec_PutText.ev k x).trans h)
def spec_l01Four (a1 : Int) : Option (Str) :=
  Option.bind (nneg? 8) fun v2 =>
  Option.bind (nneg? 16) fun v3 =>
  Option.bind (nneg? 24) fun v4 =>
  some (listByte [(IntKind.wrap .u8 a1), (IntKind.wrap .u8 (shr .i64 a1 8)), (IntKind.wrap .u8 (shr .i64 a1 16)), (IntKind.wrap .u8 (shr .i64 a1 24))])
def spec_l01Four.sig : Sig := { ps := [.val false (.int .i64) (ros (.int .i64))], rs := [.val false [.v .str]], ntmps := 16 }
def spec_l01Four.con (k : Nat) : Con := spec_l01Four.sig.con (fun x => spec_l01Four x)
def spec_l01Four.C (k : Nat) : Ctx := { ti := TAB, con := conL [] }
theorem spec_l01Four.cok (k : Nat) : CtxOk Try.prog (spec_l01Four.C k) := ctx_ok TABok trivial
theorem spec_l01Four.ev (k : Nat) (x : Prod' spec_l01Four.sig.ins) : spec_l01Four.sig.ev (spec_l01Four.C k) .auto Try.f40.results.toList (cB Try.f40) x = spec_l01Four x := by kernel_rfl
theorem spec_l01Four.ok (k : Nat) : ConOk Try.prog 40 (spec_l01Four.con k) := sig_ok (p := .auto) (spec_l01Four.cok k) Try.func40 (by kernel_rfl) (show Try.f40.body = some (cB Try.f40) by kernel_rfl) (by kernel_rfl) (by kernel_rfl) (plan_of (L := []) (by kernel_rfl) trivial) (fun x y h => (spec_l01Four.ev k x).trans h)
def spec_l01Crc.l0 : Nat → Int → Int → Option (Int)
  | 0, _, _ => none
  | j + 1, a1, a2 =>
    bif decide (a2 < 8) then
      let e3 := IntKind.wrap .i64 (a2 + 1)
      bif (intBits .and .u32 a1 1) == 1 then
        Option.bind (nneg? 1) fun v4 =>
        spec_l01Crc.l0 j (intBits .xor .u32 (shr .u32 a1 1) 3988292384) e3
      else
      Option.bind (nneg? 1) fun v5 =>
      spec_l01Crc.l0 j (shr .u32 a1 1) e3
    else
    some a1
def spec_l01Crc.l1 (k : Nat) : Nat → Str → Int → Int → Option (Int)
  | 0, _, _, _ => none
  | j + 1, a1, a2, a3 =>
    bif decide (a3 < ((a1.length) : Int)) then
      Option.bind (at? a1 a3) fun v4 =>
      Option.bind (spec_l01Crc.l0 k (intBits .xor .u32 a2 (IntKind.wrap .u32 (v4.toNat : Int))) 0) fun y5 =>
      spec_l01Crc.l1 k j a1 y5 (IntKind.wrap .i64 (a3 + 1))
    else
    some a2
def spec_l01Crc (k : Nat) (a1 : Int) (a2 : Str) : Option (Int) :=
  Option.bind (spec_l01Crc.l1 k k a2 (intBits .xor .u32 (IntKind.wrap .u32 a1) 4294967295) 0) fun y3 =>
  some (IntKind.wrap .i64 (intBits .xor .u32 y3 4294967295))
def spec_l01Crc.sig : Sig := { ps := [.val false (.int .i64) (ros (.int .i64)), .val false .str (ros .str)], rs := [.val false [.v (.int .i64)]], ntmps := 38 }
def spec_l01Crc.con (k : Nat) : Con := spec_l01Crc.sig.con (fun x => spec_l01Crc k x.1 x.2)
def spec_l01Crc.C (k : Nat) : Ctx := { ti := TAB, con := conL [] }
theorem spec_l01Crc.cok (k : Nat) : CtxOk Try.prog (spec_l01Crc.C k) := ctx_ok TABok trivial
def spec_l01Crc.l0.ish : Shape := { tmps := [(5, .one (.v (.int .u32))), (7, .one (.v (.int .i64)))], slots := [], nb := 0 }
def spec_l01Crc.l0.outs : List (Ex × Shape) := [(.exit 2, { tmps := [(5, .one (.v (.int .u32)))], slots := [], nb := 0 })]
def spec_l01Crc.l0.F (k j : Nat) (x : Prod' spec_l01Crc.l0.ish.tys) : Option (Outs spec_l01Crc.l0.outs) := spec_l01Crc.l0 j x.1 x.2
def spec_l01Crc.l0.s (k : Nat) : Summ := { n := 38, ish := spec_l01Crc.l0.ish, outs := spec_l01Crc.l0.outs, f := spec_l01Crc.l0.F k k }
theorem spec_l01Crc.l0.ev (k j : Nat) (x : Prod' spec_l01Crc.l0.ish.tys) : V (spec_l01Crc.C k) .auto (cO (cO (cR (cR (cO (cL (cR (cO (cO (cR (cL (cR (cR (cB Try.f41)))))))))))))) (mk spec_l01Crc.l0.ish 38 x) (fun e st' => match e with | .nrm => (rd spec_l01Crc.l0.ish st').bind (spec_l01Crc.l0.F k j) | e => rdOut e st' spec_l01Crc.l0.outs) = spec_l01Crc.l0.F k (j + 1) x := by kernel_rfl
theorem spec_l01Crc.l0.ok (k : Nat) : SumOk Try.prog (spec_l01Crc.C k) (.loop (cO (cO (cR (cR (cO (cL (cR (cO (cO (cR (cL (cR (cR (cB Try.f41))))))))))))))) (spec_l01Crc.l0.s k) := sum_ok (by kernel_rfl) (sum_loop (p := .auto) (F := spec_l01Crc.l0.F k) (spec_l01Crc.cok k) (by kernel_rfl) (plan_of (L := []) (by kernel_rfl) trivial) (fun _ => rfl) (fun j x y h => (spec_l01Crc.l0.ev k j x).trans h) k rfl)
def spec_l01Crc.l1.ish : Shape := { tmps := [(1, .one (.v .str)), (5, .one (.v (.int .u32))), (6, .one (.v (.int .i64)))], slots := [], nb := 0 }
def spec_l01Crc.l1.outs : List (Ex × Shape) := [(.exit 0, { tmps := [(5, .one (.v (.int .u32)))], slots := [], nb := 0 })]
def spec_l01Crc.l1.F (k j : Nat) (x : Prod' spec_l01Crc.l1.ish.tys) : Option (Outs spec_l01Crc.l1.outs) := spec_l01Crc.l1 k j x.1 x.2.1 x.2.2
def spec_l01Crc.l1.s (k : Nat) : Summ := { n := 38, ish := spec_l01Crc.l1.ish, outs := spec_l01Crc.l1.outs, f := spec_l01Crc.l1.F k k }
theorem spec_l01Crc.l1.ev (k j : Nat) (x : Prod' spec_l01Crc.l1.ish.tys) : V (spec_l01Crc.C k) (.two .auto (.two (.one (.two .auto (.two .auto (.one (.sum (spec_l01Crc.l0.s k)))))) .auto)) (cO (cO (cR (cL (cR (cR (cB Try.f41))))))) (mk spec_l01Crc.l1.ish 38 x) (fun e st' => match e with | .nrm => (rd spec_l01Crc.l1.ish st').bind (spec_l01Crc.l1.F k j) | e => rdOut e st' spec_l01Crc.l1.outs) = spec_l01Crc.l1.F k (j + 1) x := by kernel_rfl
theorem spec_l01Crc.l1.ok (k : Nat) : SumOk Try.prog (spec_l01Crc.C k) (.loop (cO (cO (cR (cL (cR (cR (cB Try.f41)))))))) (spec_l01Crc.l1.s k) := sum_ok (by kernel_rfl) (sum_loop (p := (.two .auto (.two (.one (.two .auto (.two .auto (.one (.sum (spec_l01Crc.l0.s k)))))) .auto))) (F := spec_l01Crc.l1.F k) (spec_l01Crc.cok k) (by kernel_rfl) (plan_of (L := [(spec_l01Crc.l0.s k, cO (cR (cR (cO (cL (cR (cO (cO (cR (cL (cR (cR (cB Try.f41)))))))))))))]) (by kernel_rfl) ⟨spec_l01Crc.l0.ok k, trivial⟩) (fun _ => rfl) (fun j x y h => (spec_l01Crc.l1.ev k j x).trans h) k rfl)
theorem spec_l01Crc.ev (k : Nat) (x : Prod' spec_l01Crc.sig.ins) : spec_l01Crc.sig.ev (spec_l01Crc.C k) (.two .auto (.two .auto (.two (.two .auto (.one (.sum (spec_l01Crc.l1.s k)))) .auto))) Try.f41.results.toList (cB Try.f41) x = spec_l01Crc k x.1 x.2 := by kernel_rfl
theorem spec_l01Crc.ok (k : Nat) : ConOk Try.prog 41 (spec_l01Crc.con k) := sig_ok (p := (.two .auto (.two .auto (.two (.two .auto (.one (.sum (spec_l01Crc.l1.s k)))) .auto)))) (spec_l01Crc.cok k) Try.func41 (by kernel_rfl) (show Try.f41.body = some (cB Try.f41) by kernel_rfl) (by kernel_rfl) (by kernel_rfl) (plan_of (L := [(spec_l01Crc.l1.s k, cO (cR (cL (cR (cR (cB Try.f41))))))]) (by kernel_rfl) ⟨spec_l01Crc.l1.ok k, trivial⟩) (fun x y h => (spec_l01Crc.ev k x).trans h)
def spec_Seal (k : Nat) (a1 : Str) : Option (Str) :=
  bif decide (7996 < ((a1.length) : Int)) then
    some ([])
  else
  Option.bind (spec_l01Crc k 0 a1) fun v2 =>
  Option.bind (spec_l01Four v2) fun v3 =>
  Option.bind (cat? a1 v3) fun v4 =>
  some v4
def spec_Seal.sig : Sig := { ps := [.val false .str (ros .str)], rs := [.val false [.v .str]], ntmps := 11 }
def spec_Seal.con (k : Nat) : Con := spec_Seal.sig.con (fun x => spec_Seal k x)
def spec_Seal.C (k : Nat) : Ctx := { ti := TAB, con := conL [(40, spec_l01Four.con k), (41, spec_l01Crc.con k)] }
theorem spec_Seal.cok (k : Nat) : CtxOk Try.prog (spec_Seal.C k) := ctx_ok TABok ⟨spec_l01Four.ok k, spec_l01Crc.ok k, trivial⟩
theorem spec_Seal.ev (k : Nat) (x : Prod' spec_Seal.sig.ins) : spec_Seal.sig.ev (spec_Seal.C k) .auto Try.f22.results.toList (cB Try.f22) x = spec_Seal k x := by kernel_rfl
theorem spec_Seal.ok (k : Nat) : ConOk Try.prog 22 (spec_Seal.con k) := sig_ok (p := .auto) (spec_Seal.cok k) Try.func22 (by kernel_rfl) (show Try.f22.body = some (cB Try.f22) by kernel_rfl) (by kernel_rfl) (by kernel_rfl) (plan_of (L := []) (by kernel_rfl) trivial) (fun x y h => (spec_Seal.ev k x).trans h)
def spec_HeadBytes (k : Nat) (a1 : G45) : Option (Str) :=
  Option.bind (spec_HeadRight a1) fun v2 =>
  bif !v2 then
    some ([])
  else
  Option.bind (spec_PutNum k a1.1) fun v3 =>
  Option.bind (spec_PutNum k a1.2.1) fun v4 =>
  Option.bind (cat? v3 v4) fun v5 =>
  Option.bind (spec_PutNum k a1.2.2.1) fun v6 =>
  Option.bind (cat? v5 v6) fun v7 =>
  Option.bind (spec_PutText k a1.2.2.2) fun v8 =>
  Option.bind (cat? v7 v8) fun v9 =>
  Option.bind (spec_Seal k v9) fun v10 =>
  some v10
def spec_HeadBytes.sig : Sig := { ps := [.val true T45 (ros T45)], rs := [.val false [.v .str]], ntmps := 22 }
def spec_HeadBytes.con (k : Nat) : Con := spec_HeadBytes.sig.con (fun x => spec_HeadBytes k x)
def spec_HeadBytes.C (k : Nat) : Ctx := { ti := TAB, con := conL [(16, spec_HeadRight.con k), (20, spec_PutText.con k), (22, spec_Seal.con k), (39, spec_PutNum.con k)] }
theorem spec_HeadBytes.cok (k : Nat) : CtxOk Try.prog (spec_HeadBytes.C k) := ctx_ok TABok ⟨spec_HeadRight.ok k, spec_PutText.ok k, spec_Seal.ok k, spec_PutNum.ok k, trivial⟩
theorem spec_HeadBytes.ev (k : Nat) (x : Prod' spec_HeadBytes.sig.ins) : spec_HeadBytes.sig.ev (spec_HeadBytes.C k) .auto Try.f21.results.toList (cB Try.f21) x = spec_HeadBytes k x := by kernel_rfl
theorem spec_HeadBytes.ok (k : Nat) : ConOk Try.prog 21 (spec_HeadBytes.con k) := sig_ok (p := .auto) (spec_HeadBytes.cok k) Try.func21 (by kernel_rfl) (show Try.f21.body = some (cB Try.f21) by kernel_rfl) (by kernel_rfl) (by kernel_rfl) (plan_of (L := []) (by kernel_rfl) trivial) (fun x y h => (spec_HeadBytes.ev k x).trans h)
def spec_l06Bytes (k : Nat) (a1 : G45) : Option (Str) :=
  Option.bind (spec_PutNum k a1.1) fun v2 =>
  Option.bind (spec_PutNum k a1.2.1) fun v3 =>
  Option.bind (cat? v2 v3) fun v4 =>
  Option.bind (spec_PutNum k a1.2.2.1) fun v5 =>
  Option.bind (cat? v4 v5) fun v6 =>
  Option.bind (spec_PutText k a1.2.2.2) fun v7 =>
  Option.bind (cat? v6 v7) fun v8 =>
  some v8
def spec_l06Bytes.sig : Sig := { ps := [.val true T45 (ros T45)], rs := [.val false [.v .str]], ntmps := 18 }
def spec_l06Bytes.con (k : Nat) : Con := spec_l06Bytes.sig.con (fun x => spec_l06Bytes k x)
def spec_l06Bytes.C (k : Nat) : Ctx := { ti := TAB, con := conL [(20, spec_PutText.con k), (39, spec_PutNum.con k)] }
theorem spec_l06Bytes.cok (k : Nat) : CtxOk Try.prog (spec_l06Bytes.C k) := ctx_ok TABok ⟨spec_PutText.ok k, spec_PutNum.ok k, trivial⟩
theorem spec_l06Bytes.ev (k : Nat) (x : Prod' spec_l06Bytes.sig.ins) : spec_l06Bytes.sig.ev (spec_l06Bytes.C k) .auto Try.f23.results.toList (cB Try.f23) x = spec_l06Bytes k x := by kernel_rfl
theorem spec_l06Bytes.ok (k : Nat) : ConOk Try.prog 23 (spec_l06Bytes.con k) := sig_ok (p := .auto) (spec_l06Bytes.cok k) Try.func23 (by kernel_rfl) (show Try.f23.body = some (cB Try.f23) by kernel_rfl) (by kernel_rfl) (by kernel_rfl) (plan_of (L := []) (by kernel_rfl) trivial) (fun x y h => (spec_l06Bytes.ev k x).trans h)
def spec_StreamOf.l0 (k : Nat) : Nat → Int → Str → List G45 → Str → Int → Option (Str)
  | 0, _, _, _, _, _ => none
  | j + 1, a1, a2, a3, a4, a5 =>
    bif decide (a5 < ((a3.length) : Int)) then
      Option.bind (at? a3 a5) fun v6 =>
      Option.bind (spec_l06Bytes k v6) fun v7 =>
      Option.bind (spec_Seal k v7) fun v8 =>
      Option.bind (spec_PutText k v8) fun v9 =>
      Option.bind (cat? a4 v9) fun v10 =>
      spec_StreamOf.l0 k j a1 a2 a3 v10 (IntKind.wrap .i64 (a5 + 1))
    else
    some a4
def spec_StreamOf (k : Nat) (a1 : G24) : Option (Str) :=
  Option.bind (spec_PackageRight k a1) fun v2 =>
  bif !v2 then
    some ([])
  else
  Option.bind (spec_l18Head k a1) fun v3 =>
  Option.bind (spec_HeadRight v3) fun v4 =>
  bif !v4 then
    some ([])
  else
  Option.bind (spec_l18Head k a1) fun v5 =>
  Option.bind (spec_HeadBytes k v5) fun v6 =>
  Option.bind (spec_PutText k v6) fun v7 =>
  Option.bind (spec_StreamOf.l0 k k a1.1 a1.2.1 a1.2.2 v7 0) fun y8 =>
  some y8
def spec_StreamOf.sig : Sig := { ps := [.val true T24 (ros T24)], rs := [.val false [.v .str]], ntmps := 36 }
def spec_StreamOf.con (k : Nat) : Con := spec_StreamOf.sig.con (fun x => spec_StreamOf k x)
def spec_StreamOf.C (k : Nat) : Ctx := { ti := TAB, con := conL [(15, spec_PackageRight.con k), (16, spec_HeadRight.con k), (17, spec_l18Head.con k), (20, spec_PutText.con k), (21, spec_HeadBytes.con k), (22, spec_Seal.con k), (23, spec_l06Bytes.con k)], rob := true }
theorem spec_StreamOf.cok (k : Nat) : CtxOk Try.prog (spec_StreamOf.C k) := ctx_ok TABok ⟨spec_PackageRight.ok k, spec_HeadRight.ok k, spec_l18Head.ok k, spec_PutText.ok k, spec_HeadBytes.ok k, spec_Seal.ok k, spec_l06Bytes.ok k, trivial⟩
def spec_StreamOf.l0.ish : Shape := { tmps := [(1, .eptr [.v (.int .i64), .v .str, .bor T45]), (3, .one (.v .str)), (4, .one (.v (.int .i64)))], slots := [], nb := 0 }
def spec_StreamOf.l0.outs : List (Ex × Shape) := [(.exit 0, { tmps := [(3, .one (.v .str))], slots := [], nb := 0 })]
def spec_StreamOf.l0.F (k j : Nat) (x : Prod' spec_StreamOf.l0.ish.tys) : Option (Outs spec_StreamOf.l0.outs) := spec_StreamOf.l0 k j x.1 x.2.1 x.2.2.1 x.2.2.2.1 x.2.2.2.2
def spec_StreamOf.l0.s (k : Nat) : Summ := { n := 36, ish := spec_StreamOf.l0.ish, outs := spec_StreamOf.l0.outs, f := spec_StreamOf.l0.F k k }
theorem spec_StreamOf.l0.ev (k j : Nat) (x : Prod' spec_StreamOf.l0.ish.tys) : V (spec_StreamOf.C k) .auto (cO (cO (cR (cL (cR (cR (cR (cB Try.f11)))))))) (mk spec_StreamOf.l0.ish 36 x) (fun e st' => match e with | .nrm => (rd spec_StreamOf.l0.ish st').bind (spec_StreamOf.l0.F k j) | e => rdOut e st' spec_StreamOf.l0.outs) = spec_StreamOf.l0.F k (j + 1) x := by kernel_rfl
theorem spec_StreamOf.l0.ok (k : Nat) : SumOk Try.prog (spec_StreamOf.C k) (.loop (cO (cO (cR (cL (cR (cR (cR (cB Try.f11))))))))) (spec_StreamOf.l0.s k) := sum_ok (by kernel_rfl) (sum_loop (p := .auto) (F := spec_StreamOf.l0.F k) (spec_StreamOf.cok k) (by kernel_rfl) (plan_of (L := []) (by kernel_rfl) trivial) (fun _ => rfl) (fun j x y h => (spec_StreamOf.l0.ev k j x).trans h) k rfl)
theorem spec_StreamOf.ev (k : Nat) (x : Prod' spec_StreamOf.sig.ins) : spec_StreamOf.sig.ev (spec_StreamOf.C k) (.two .auto (.two .auto (.two .auto (.two (.two .auto (.one (.sum (spec_StreamOf.l0.s k)))) .auto)))) Try.f11.results.toList (cB Try.f11) x = spec_StreamOf k x := by kernel_rfl
theorem spec_StreamOf.ok (k : Nat) : ConOk Try.prog 11 (spec_StreamOf.con k) := sig_ok (p := (.two .auto (.two .auto (.two .auto (.two (.two .auto (.one (.sum (spec_StreamOf.l0.s k)))) .auto))))) (spec_StreamOf.cok k) Try.func11 (by kernel_rfl) (show Try.f11.body = some (cB Try.f11) by kernel_rfl) (by kernel_rfl) (by kernel_rfl) (plan_of (L := [(spec_StreamOf.l0.s k, cO (cR (cL (cR (cR (cR (cB Try.f11)))))))]) (by kernel_rfl) ⟨spec_StreamOf.l0.ok k, trivial⟩) (fun x y h => (spec_StreamOf.ev k x).trans h)
def impl_putNum.j0 (a1 : Int) (a2 : Int) : Option (Int) :=
  bif decide (a1 < 0) then
    some (intBits .xor .u64 (IntKind.max .u64) a2)
  else
  some a2
def impl_putNum.l1 : Nat → Int → List Int → Option ((Int × List Int))
  | 0, _, _ => none
  | j + 1, a1, a2 =>
    bif decide (127 < a1) then
      Option.bind (app? 1 a2 [(intBits .or .u8 (IntKind.wrap .u8 a1) 128)]) fun v3 =>
      Option.bind (nneg? 7) fun v4 =>
      impl_putNum.l1 j (shr .u64 a1 7) v3
    else
    some (a1, a2)
def impl_putNum (k : Nat) (a1 : Int) : Option (Str) :=
  Option.bind (nneg? 1) fun v2 =>
  Option.bind (impl_putNum.j0 a1 (shl .u64 (IntKind.wrap .u64 a1) 1)) fun y3 =>
  Option.bind (impl_putNum.l1 k y3 []) fun y4 =>
  Option.bind (app? 1 y4.2 [(IntKind.wrap .u8 y4.1)]) fun v5 =>
  some (listByte v5)
def impl_putNum.sig : Sig := { ps := [.val false (.int .i64) (ros (.int .i64))], rs := [.val false [.v .str]], ntmps := 28 }
def impl_putNum.con (k : Nat) : Con := impl_putNum.sig.con (fun x => impl_putNum k x)
def impl_putNum.C (k : Nat) : Ctx := { ti := TAB, con := conL [] }
theorem impl_putNum.cok (k : Nat) : CtxOk Try.prog (impl_putNum.C k) := ctx_ok TABok trivial
def impl_putNum.j0.ish : Shape := { tmps := [(0, .one (.v (.int .i64))), (3, .one (.v (.int .u64)))], slots := [], nb := 0 }
def impl_putNum.j0.outs : List (Ex × Shape) := [(.nrm, { tmps := [(3, .one (.v (.int .u64)))], slots := [], nb := 0 })]
def impl_putNum.j0.F (k : Nat) (x : Prod' impl_putNum.j0.ish.tys) : Option (Outs impl_putNum.j0.outs) := impl_putNum.j0 x.1 x.2
def impl_putNum.j0.s (k : Nat) : Summ := { n := 28, ish := impl_putNum.j0.ish, outs := impl_putNum.j0.outs, f := impl_putNum.j0.F k }
theorem impl_putNum.j0.ev (k : Nat) (x : Prod' impl_putNum.j0.ish.tys) : V (impl_putNum.C k) .auto (cL (cR (cR (cB Try.f51)))) (mk impl_putNum.j0.ish 28 x) (fun e st' => rdOut e st' impl_putNum.j0.outs) = impl_putNum.j0.F k x := by kernel_rfl
theorem impl_putNum.j0.ok (k : Nat) : SumOk Try.prog (impl_putNum.C k) (cL (cR (cR (cB Try.f51)))) (impl_putNum.j0.s k) := sum_ok (by kernel_rfl) (sum_code (p := .auto) (impl_putNum.cok k) (by kernel_rfl) (plan_of (L := []) (by kernel_rfl) trivial) (fun x y h => (impl_putNum.j0.ev k x).trans h))
def impl_putNum.l1.ish : Shape := { tmps := [(3, .one (.v (.int .u64))), (4, .one (.own 0))], slots := [(0, .arr false 5 (.int .u8))], nb := 1 }
def impl_putNum.l1.outs : List (Ex × Shape) := [(.exit 0, { tmps := [(3, .one (.v (.int .u64))), (4, .one (.own 1))], slots := [(1, .arr false 5 (.int .u8))], nb := 2 })]
def impl_putNum.l1.F (k j : Nat) (x : Prod' impl_putNum.l1.ish.tys) : Option (Outs impl_putNum.l1.outs) := impl_putNum.l1 j x.1 x.2
def impl_putNum.l1.s (k : Nat) : Summ := { n := 28, ish := impl_putNum.l1.ish, outs := impl_putNum.l1.outs, f := impl_putNum.l1.F k k }
theorem impl_putNum.l1.ev (k j : Nat) (x : Prod' impl_putNum.l1.ish.tys) : V (impl_putNum.C k) .auto (cO (cO (cL (cR (cR (cR (cR (cB Try.f51)))))))) (mk impl_putNum.l1.ish 28 x) (fun e st' => match e with | .nrm => (rd impl_putNum.l1.ish st').bind (impl_putNum.l1.F k j) | e => rdOut e st' impl_putNum.l1.outs) = impl_putNum.l1.F k (j + 1) x := by kernel_rfl
theorem impl_putNum.l1.ok (k : Nat) : SumOk Try.prog (impl_putNum.C k) (.loop (cO (cO (cL (cR (cR (cR (cR (cB Try.f51))))))))) (impl_putNum.l1.s k) := sum_ok (by kernel_rfl) (sum_loop (p := .auto) (F := impl_putNum.l1.F k) (impl_putNum.cok k) (by kernel_rfl) (plan_of (L := []) (by kernel_rfl) trivial) (fun _ => rfl) (fun j x y h => (impl_putNum.l1.ev k j x).trans h) k rfl)
theorem impl_putNum.ev (k : Nat) (x : Prod' impl_putNum.sig.ins) : impl_putNum.sig.ev (impl_putNum.C k) (.two .auto (.two .auto (.two (.sum (impl_putNum.j0.s k)) (.two .auto (.two (.one (.sum (impl_putNum.l1.s k))) .auto))))) Try.f51.results.toList (cB Try.f51) x = impl_putNum k x := by kernel_rfl
theorem impl_putNum.ok (k : Nat) : ConOk Try.prog 51 (impl_putNum.con k) := sig_ok (p := (.two .auto (.two .auto (.two (.sum (impl_putNum.j0.s k)) (.two .auto (.two (.one (.sum (impl_putNum.l1.s k))) .auto)))))) (impl_putNum.cok k) Try.func51 (by kernel_rfl) (show Try.f51.body = some (cB Try.f51) by kernel_rfl) (by kernel_rfl) (by kernel_rfl) (plan_of (L := [(impl_putNum.j0.s k, cL (cR (cR (cB Try.f51)))), (impl_putNum.l1.s k, cO (cL (cR (cR (cR (cR (cB Try.f51)))))))]) (by kernel_rfl) ⟨impl_putNum.j0.ok k, impl_putNum.l1.ok k, trivial⟩) (fun x y h => (impl_putNum.ev k x).trans h)
def impl_putText (k : Nat) (a1 : Str) : Option (Str) :=
  Option.bind (impl_putNum k ((a1.length) : Int)) fun v2 =>
  Option.bind (cat? v2 a1) fun v3 =>
  some v3
def impl_putText.sig : Sig := { ps := [.val false .str (ros .str)], rs := [.val false [.v .str]], ntmps := 8 }
def impl_putText.con (k : Nat) : Con := impl_putText.sig.con (fun x => impl_putText k x)
def impl_putText.C (k : Nat) : Ctx := { ti := TAB, con := conL [(51, impl_putNum.con k)] }
theorem impl_putText.cok (k : Nat) : CtxOk Try.prog (impl_putText.C k) := ctx_ok TABok ⟨impl_putNum.ok k, trivial⟩
theorem impl_putText.ev (k : Nat) (x : Prod' impl_putText.sig.ins) : impl_putText.sig.ev (impl_putText.C k) .auto Try.f28.results.toList (cB Try.f28) x = impl_putText k x := by kernel_rfl
theorem impl_putText.ok (k : Nat) : ConOk Try.prog 28 (impl_putText.con k) := sig_ok (p := .auto) (impl_putText.cok k) Try.func28 (by kernel_rfl) (show Try.f28.body = some (cB Try.f28) by kernel_rfl) (by kernel_rfl) (by kernel_rfl) (plan_of (L := []) (by kernel_rfl) trivial) (fun x y h => (impl_putText.ev k x).trans h)
def impl_crcMore.l0 : Nat → Str → Int → Int → Int → Option (Int)
  | 0, _, _, _, _ => none
  | j + 1, a1, a2, a3, a4 =>
    bif decide (a4 < 8) then
      Option.bind (at? a1 a3) fun v5 =>
      Option.bind (nneg? a4) fun v6 =>
      Option.bind (nneg? 1) fun v7 =>
      let e8 := IntKind.wrap .i64 (a4 + 1)
      bif (intBits .and .u32 (intBits .xor .u32 a2 (shr .u32 (IntKind.wrap .u32 (v5.toNat : Int)) a4)) 1) == 1 then
        impl_crcMore.l0 j a1 (intBits .xor .u32 (shr .u32 a2 1) 3988292384) a3 e8
      else
      impl_crcMore.l0 j a1 (shr .u32 a2 1) a3 e8
    else
    some a2
def impl_crcMore.l1 (k : Nat) : Nat → Str → Int → Int → Int → Option (Int)
  | 0, _, _, _, _ => none
  | j + 1, a1, a2, a3, a4 =>
    bif decide (a4 < a3) then
      Option.bind (impl_crcMore.l0 k a1 a2 a4 0) fun y5 =>
      impl_crcMore.l1 k j a1 y5 a3 (IntKind.wrap .i64 (a4 + 1))
    else
    some a2
def impl_crcMore (k : Nat) (a1 : Int) (a2 : Str) : Option (Int) :=
  Option.bind (impl_crcMore.l1 k k a2 (intBits .xor .u32 (IntKind.max .u32) a1) ((a2.length) : Int) 0) fun y3 =>
  some (intBits .xor .u32 (IntKind.max .u32) y3)
def impl_crcMore.sig : Sig := { ps := [.val false (.int .u32) (ros (.int .u32)), .val false .str (ros .str)], rs := [.val false [.v (.int .u32)]], ntmps := 38 }
def impl_crcMore.con (k : Nat) : Con := impl_crcMore.sig.con (fun x => impl_crcMore k x.1 x.2)
def impl_crcMore.C (k : Nat) : Ctx := { ti := TAB, con := conL [] }
theorem impl_crcMore.cok (k : Nat) : CtxOk Try.prog (impl_crcMore.C k) := ctx_ok TABok trivial
def impl_crcMore.l0.ish : Shape := { tmps := [(1, .one (.v .str)), (5, .one (.v (.int .u32))), (6, .one (.v (.int .i64))), (16, .one (.v (.int .i64)))], slots := [], nb := 0 }
def impl_crcMore.l0.outs : List (Ex × Shape) := [(.exit 2, { tmps := [(5, .one (.v (.int .u32)))], slots := [], nb := 0 })]
def impl_crcMore.l0.F (k j : Nat) (x : Prod' impl_crcMore.l0.ish.tys) : Option (Outs impl_crcMore.l0.outs) := impl_crcMore.l0 j x.1 x.2.1 x.2.2.1 x.2.2.2
def impl_crcMore.l0.s (k : Nat) : Summ := { n := 38, ish := impl_crcMore.l0.ish, outs := impl_crcMore.l0.outs, f := impl_crcMore.l0.F k k }
theorem impl_crcMore.l0.ev (k j : Nat) (x : Prod' impl_crcMore.l0.ish.tys) : V (impl_crcMore.C k) .auto (cO (cO (cR (cR (cO (cL (cR (cR (cO (cO (cR (cL (cR (cR (cB Try.f53))))))))))))))) (mk impl_crcMore.l0.ish 38 x) (fun e st' => match e with | .nrm => (rd impl_crcMore.l0.ish st').bind (impl_crcMore.l0.F k j) | e => rdOut e st' impl_crcMore.l0.outs) = impl_crcMore.l0.F k (j + 1) x := by kernel_rfl
theorem impl_crcMore.l0.ok (k : Nat) : SumOk Try.prog (impl_crcMore.C k) (.loop (cO (cO (cR (cR (cO (cL (cR (cR (cO (cO (cR (cL (cR (cR (cB Try.f53)))))))))))))))) (impl_crcMore.l0.s k) := sum_ok (by kernel_rfl) (sum_loop (p := .auto) (F := impl_crcMore.l0.F k) (impl_crcMore.cok k) (by kernel_rfl) (plan_of (L := []) (by kernel_rfl) trivial) (fun _ => rfl) (fun j x y h => (impl_crcMore.l0.ev k j x).trans h) k rfl)
def impl_crcMore.l1.ish : Shape := { tmps := [(1, .one (.v .str)), (5, .one (.v (.int .u32))), (12, .one (.v (.int .i64))), (13, .one (.v (.int .i64)))], slots := [], nb := 0 }
def impl_crcMore.l1.outs : List (Ex × Shape) := [(.exit 0, { tmps := [(5, .one (.v (.int .u32)))], slots := [], nb := 0 })]
def impl_crcMore.l1.F (k j : Nat) (x : Prod' impl_crcMore.l1.ish.tys) : Option (Outs impl_crcMore.l1.outs) := impl_crcMore.l1 k j x.1 x.2.1 x.2.2.1 x.2.2.2
def impl_crcMore.l1.s (k : Nat) : Summ := { n := 38, ish := impl_crcMore.l1.ish, outs := impl_crcMore.l1.outs, f := impl_crcMore.l1.F k k }
theorem impl_crcMore.l1.ev (k j : Nat) (x : Prod' impl_crcMore.l1.ish.tys) : V (impl_crcMore.C k) (.two .auto (.two .auto (.two (.one (.two .auto (.two .auto (.one (.sum (impl_crcMore.l0.s k)))))) .auto))) (cO (cO (cR (cL (cR (cR (cB Try.f53))))))) (mk impl_crcMore.l1.ish 38 x) (fun e st' => match e with | .nrm => (rd impl_crcMore.l1.ish st').bind (impl_crcMore.l1.F k j) | e => rdOut e st' impl_crcMore.l1.outs) = impl_crcMore.l1.F k (j + 1) x := by kernel_rfl
theorem impl_crcMore.l1.ok (k : Nat) : SumOk Try.prog (impl_crcMore.C k) (.loop (cO (cO (cR (cL (cR (cR (cB Try.f53)))))))) (impl_crcMore.l1.s k) := sum_ok (by kernel_rfl) (sum_loop (p := (.two .auto (.two .auto (.two (.one (.two .auto (.two .auto (.one (.sum (impl_crcMore.l0.s k)))))) .auto)))) (F := impl_crcMore.l1.F k) (impl_crcMore.cok k) (by kernel_rfl) (plan_of (L := [(impl_crcMore.l0.s k, cO (cR (cR (cO (cL (cR (cR (cO (cO (cR (cL (cR (cR (cB Try.f53))))))))))))))]) (by kernel_rfl) ⟨impl_crcMore.l0.ok k, trivial⟩) (fun _ => rfl) (fun j x y h => (impl_crcMore.l1.ev k j x).trans h) k rfl)
theorem impl_crcMore.ev (k : Nat) (x : Prod' impl_crcMore.sig.ins) : impl_crcMore.sig.ev (impl_crcMore.C k) (.two .auto (.two .auto (.two (.two .auto (.one (.sum (impl_crcMore.l1.s k)))) .auto))) Try.f53.results.toList (cB Try.f53) x = impl_crcMore k x.1 x.2 := by kernel_rfl
theorem impl_crcMore.ok (k : Nat) : ConOk Try.prog 53 (impl_crcMore.con k) := sig_ok (p := (.two .auto (.two .auto (.two (.two .auto (.one (.sum (impl_crcMore.l1.s k)))) .auto)))) (impl_crcMore.cok k) Try.func53 (by kernel_rfl) (show Try.f53.body = some (cB Try.f53) by kernel_rfl) (by kernel_rfl) (by kernel_rfl) (plan_of (L := [(impl_crcMore.l1.s k, cO (cR (cL (cR (cR (cB Try.f53))))))]) (by kernel_rfl) ⟨impl_crcMore.l1.ok k, trivial⟩) (fun x y h => (impl_crcMore.ev k x).trans h)
def impl_seal (k : Nat) (a1 : Str) : Option (Str) :=
  Option.bind (impl_crcMore k 0 a1) fun v2 =>
  Option.bind (nneg? 8) fun v3 =>
  Option.bind (nneg? 16) fun v4 =>
  Option.bind (nneg? 24) fun v5 =>
  Option.bind (cat? a1 (listByte [(IntKind.wrap .u8 v2), (IntKind.wrap .u8 (shr .u32 v2 8)), (IntKind.wrap .u8 (shr .u32 v2 16)), (IntKind.wrap .u8 (shr .u32 v2 24))])) fun v6 =>
  some v6
def impl_seal.sig : Sig := { ps := [.val false .str (ros .str)], rs := [.val false [.v .str]], ntmps := 21 }
def impl_seal.con (k : Nat) : Con := impl_seal.sig.con (fun x => impl_seal k x)
def impl_seal.C (k : Nat) : Ctx := { ti := TAB, con := conL [(53, impl_crcMore.con k)] }
theorem impl_seal.cok (k : Nat) : CtxOk Try.prog (impl_seal.C k) := ctx_ok TABok ⟨impl_crcMore.ok k, trivial⟩
theorem impl_seal.ev (k : Nat) (x : Prod' impl_seal.sig.ins) : impl_seal.sig.ev (impl_seal.C k) .auto Try.f31.results.toList (cB Try.f31) x = impl_seal k x := by kernel_rfl
theorem impl_seal.ok (k : Nat) : ConOk Try.prog 31 (impl_seal.con k) := sig_ok (p := .auto) (impl_seal.cok k) Try.func31 (by kernel_rfl) (show Try.f31.body = some (cB Try.f31) by kernel_rfl) (by kernel_rfl) (by kernel_rfl) (plan_of (L := []) (by kernel_rfl) trivial) (fun x y h => (impl_seal.ev k x).trans h)
def impl_putNums.l0 (k : Nat) : Nat → Str → List Int → Int → Int → Option (Str)
  | 0, _, _, _, _ => none
  | j + 1, a1, a2, a3, a4 =>
    bif decide (a4 < a3) then
      Option.bind (at? a2 a4) fun v5 =>
      Option.bind (impl_putNum k v5) fun v6 =>
      Option.bind (cat? a1 v6) fun v7 =>
      impl_putNums.l0 k j v7 a2 a3 (IntKind.wrap .i64 (a4 + 1))
    else
    some a1
def impl_putNums (k : Nat) (a1 : List Int) : Option (Str) :=
  Option.bind (impl_putNums.l0 k k [] a1 ((a1.length) : Int) 0) fun y2 =>
  some y2
def impl_putNums.sig : Sig := { ps := [.val false (.sl (.int .i64)) (ros (.sl (.int .i64)))], rs := [.val false [.v .str]], ntmps := 18 }
def impl_putNums.con (k : Nat) : Con := impl_putNums.sig.con (fun x => impl_putNums k x)
def impl_putNums.C (k : Nat) : Ctx := { ti := TAB, con := conL [(51, impl_putNum.con k)] }
theorem impl_putNums.cok (k : Nat) : CtxOk Try.prog (impl_putNums.C k) := ctx_ok TABok ⟨impl_putNum.ok k, trivial⟩
def impl_putNums.l0.ish : Shape := { tmps := [(3, .one (.v .str)), (6, .one (.bor (.int .i64))), (7, .one (.v (.int .i64))), (8, .one (.v (.int .i64)))], slots := [], nb := 0 }
def impl_putNums.l0.outs : List (Ex × Shape) := [(.exit 0, { tmps := [(3, .one (.v .str))], slots := [], nb := 0 })]
def impl_putNums.l0.F (k j : Nat) (x : Prod' impl_putNums.l0.ish.tys) : Option (Outs impl_putNums.l0.outs) := impl_putNums.l0 k j x.1 x.2.1 x.2.2.1 x.2.2.2
def impl_putNums.l0.s (k : Nat) : Summ := { n := 18, ish := impl_putNums.l0.ish, outs := impl_putNums.l0.outs, f := impl_putNums.l0.F k k }
theorem impl_putNums.l0.ev (k j : Nat) (x : Prod' impl_putNums.l0.ish.tys) : V (impl_putNums.C k) .auto (cO (cO (cR (cL (cR (cR (cB Try.f52))))))) (mk impl_putNums.l0.ish 18 x) (fun e st' => match e with | .nrm => (rd impl_putNums.l0.ish st').bind (impl_putNums.l0.F k j) | e => rdOut e st' impl_putNums.l0.outs) = impl_putNums.l0.F k (j + 1) x := by kernel_rfl
theorem impl_putNums.l0.ok (k : Nat) : SumOk Try.prog (impl_putNums.C k) (.loop (cO (cO (cR (cL (cR (cR (cB Try.f52)))))))) (impl_putNums.l0.s k) := sum_ok (by kernel_rfl) (sum_loop (p := .auto) (F := impl_putNums.l0.F k) (impl_putNums.cok k) (by kernel_rfl) (plan_of (L := []) (by kernel_rfl) trivial) (fun _ => rfl) (fun j x y h => (impl_putNums.l0.ev k j x).trans h) k rfl)
theorem impl_putNums.ev (k : Nat) (x : Prod' impl_putNums.sig.ins) : impl_putNums.sig.ev (impl_putNums.C k) (.two .auto (.two .auto (.two (.two .auto (.one (.sum (impl_putNums.l0.s k)))) .auto))) Try.f52.results.toList (cB Try.f52) x = impl_putNums k x := by kernel_rfl
theorem impl_putNums.ok (k : Nat) : ConOk Try.prog 52 (impl_putNums.con k) := sig_ok (p := (.two .auto (.two .auto (.two (.two .auto (.one (.sum (impl_putNums.l0.s k)))) .auto)))) (impl_putNums.cok k) Try.func52 (by kernel_rfl) (show Try.f52.body = some (cB Try.f52) by kernel_rfl) (by kernel_rfl) (by kernel_rfl) (plan_of (L := [(impl_putNums.l0.s k, cO (cR (cL (cR (cR (cB Try.f52))))))]) (by kernel_rfl) ⟨impl_putNums.l0.ok k, trivial⟩) (fun x y h => (impl_putNums.ev k x).trans h)
def impl_headBytes (k : Nat) (a1 : G45) : Option (Str) :=
  Option.bind (impl_putNums k [a1.1, a1.2.1, a1.2.2.1]) fun v2 =>
  Option.bind (impl_putText k a1.2.2.2) fun v3 =>
  Option.bind (cat? v2 v3) fun v4 =>
  Option.bind (impl_seal k v4) fun v5 =>
  some v5
def impl_headBytes.sig : Sig := { ps := [.val true T45 (ros T45)], rs := [.val false [.v .str]], ntmps := 16 }
def impl_headBytes.con (k : Nat) : Con := impl_headBytes.sig.con (fun x => impl_headBytes k x)
def impl_headBytes.C (k : Nat) : Ctx := { ti := TAB, con := conL [(28, impl_putText.con k), (31, impl_seal.con k), (52, impl_putNums.con k)] }
theorem impl_headBytes.cok (k : Nat) : CtxOk Try.prog (impl_headBytes.C k) := ctx_ok TABok ⟨impl_putText.ok k, impl_seal.ok k, impl_putNums.ok k, trivial⟩
theorem impl_headBytes.ev (k : Nat) (x : Prod' impl_headBytes.sig.ins) : impl_headBytes.sig.ev (impl_headBytes.C k) .auto Try.f29.results.toList (cB Try.f29) x = impl_headBytes k x := by kernel_rfl
theorem impl_headBytes.ok (k : Nat) : ConOk Try.prog 29 (impl_headBytes.con k) := sig_ok (p := .auto) (impl_headBytes.cok k) Try.func29 (by kernel_rfl) (show Try.f29.body = some (cB Try.f29) by kernel_rfl) (by kernel_rfl) (by kernel_rfl) (plan_of (L := []) (by kernel_rfl) trivial) (fun x y h => (impl_headBytes.ev k x).trans h)
def impl_size_impl_Step (a1 : List G45) : Option (Int) :=
  some ((a1.length) : Int)
def impl_size_impl_Step.sig : Sig := { ps := [.val false (.sl T45) (ros (.sl T45))], rs := [.val false [.v (.int .i64)]], ntmps := 5 }
def impl_size_impl_Step.con (k : Nat) : Con := impl_size_impl_Step.sig.con (fun x => impl_size_impl_Step x)
def impl_size_impl_Step.C (k : Nat) : Ctx := { ti := TAB, con := conL [] }
theorem impl_size_impl_Step.cok (k : Nat) : CtxOk Try.prog (impl_size_impl_Step.C k) := ctx_ok TABok trivial
theorem impl_size_impl_Step.ev (k : Nat) (x : Prod' impl_size_impl_Step.sig.ins) : impl_size_impl_Step.sig.ev (impl_size_impl_Step.C k) .auto Try.f30.results.toList (cB Try.f30) x = impl_size_impl_Step x := by kernel_rfl
theorem impl_size_impl_Step.ok (k : Nat) : ConOk Try.prog 30 (impl_size_impl_Step.con k) := sig_ok (p := .auto) (impl_size_impl_Step.cok k) Try.func30 (by kernel_rfl) (show Try.f30.body = some (cB Try.f30) by kernel_rfl) (by kernel_rfl) (by kernel_rfl) (plan_of (L := []) (by kernel_rfl) trivial) (fun x y h => (impl_size_impl_Step.ev k x).trans h)
def impl_stepBytes (k : Nat) (a1 : G45) : Option (Str) :=
  Option.bind (impl_putNums k [a1.1, a1.2.1, a1.2.2.1]) fun v2 =>
  Option.bind (impl_putText k a1.2.2.2) fun v3 =>
  Option.bind (cat? v2 v3) fun v4 =>
  some v4
def impl_stepBytes.sig : Sig := { ps := [.val true T45 (ros T45)], rs := [.val false [.v .str]], ntmps := 15 }
def impl_stepBytes.con (k : Nat) : Con := impl_stepBytes.sig.con (fun x => impl_stepBytes k x)
def impl_stepBytes.C (k : Nat) : Ctx := { ti := TAB, con := conL [(28, impl_putText.con k), (52, impl_putNums.con k)] }
theorem impl_stepBytes.cok (k : Nat) : CtxOk Try.prog (impl_stepBytes.C k) := ctx_ok TABok ⟨impl_putText.ok k, impl_putNums.ok k, trivial⟩
theorem impl_stepBytes.ev (k : Nat) (x : Prod' impl_stepBytes.sig.ins) : impl_stepBytes.sig.ev (impl_stepBytes.C k) .auto Try.f32.results.toList (cB Try.f32) x = impl_stepBytes k x := by kernel_rfl
theorem impl_stepBytes.ok (k : Nat) : ConOk Try.prog 32 (impl_stepBytes.con k) := sig_ok (p := .auto) (impl_stepBytes.cok k) Try.func32 (by kernel_rfl) (show Try.f32.body = some (cB Try.f32) by kernel_rfl) (by kernel_rfl) (by kernel_rfl) (plan_of (L := []) (by kernel_rfl) trivial) (fun x y h => (impl_stepBytes.ev k x).trans h)
def impl_StreamOf.l0 (k : Nat) : Nat → Str → List G45 → Int → Int → Option (Str)
  | 0, _, _, _, _ => none
  | j + 1, a1, a2, a3, a4 =>
    bif decide (a4 < a3) then
      Option.bind (at? a2 a4) fun v5 =>
      Option.bind (impl_stepBytes k v5) fun v6 =>
      Option.bind (impl_seal k v6) fun v7 =>
      Option.bind (impl_putText k v7) fun v8 =>
      Option.bind (cat? a1 v8) fun v9 =>
      impl_StreamOf.l0 k j v9 a2 a3 (IntKind.wrap .i64 (a4 + 1))
    else
    some a1
def impl_StreamOf (k : Nat) (a1 : G24) : Option (Str) :=
  Option.bind (impl_isPackage k a1) fun v2 =>
  let e3 := ((a1.2.2.length) : Int)
  bif (!v2) || (e3 == 0) then
    some ([])
  else
  Option.bind (impl_planOf k a1.2.2) fun v4 =>
  Option.bind (impl_slotsOf k v4) fun v5 =>
  bif decide (4 < v5) then
    some ([])
  else
  Option.bind (impl_size_impl_Step a1.2.2) fun v6 =>
  Option.bind (impl_headBytes k (a1.1, (v6, (v5, a1.2.1)))) fun v7 =>
  Option.bind (impl_putText k v7) fun v8 =>
  Option.bind (impl_StreamOf.l0 k k v8 a1.2.2 e3 0) fun y9 =>
  some y9
def impl_StreamOf.sig : Sig := { ps := [.val true T24 (ros T24)], rs := [.val false [.v .str]], ntmps := 48 }
def impl_StreamOf.con (k : Nat) : Con := impl_StreamOf.sig.con (fun x => impl_StreamOf k x)
def impl_StreamOf.C (k : Nat) : Ctx := { ti := TAB, con := conL [(25, impl_isPackage.con k), (26, impl_slotsOf.con k), (27, impl_planOf.con k), (28, impl_putText.con k), (29, impl_headBytes.con k), (30, impl_size_impl_Step.con k), (31, impl_seal.con k), (32, impl_stepBytes.con k)], rob := true }
theorem impl_StreamOf.cok (k : Nat) : CtxOk Try.prog (impl_StreamOf.C k) := ctx_ok TABok ⟨impl_isPackage.ok k, impl_slotsOf.ok k, impl_planOf.ok k, impl_putText.ok k, impl_headBytes.ok k, impl_size_impl_Step.ok k, impl_seal.ok k, impl_stepBytes.ok k, trivial⟩
def impl_StreamOf.l0.ish : Shape := { tmps := [(4, .one (.v .str)), (34, .one (.bor T45)), (35, .one (.v (.int .i64))), (36, .one (.v (.int .i64)))], slots := [], nb := 1 }
def impl_StreamOf.l0.outs : List (Ex × Shape) := [(.exit 0, { tmps := [(4, .one (.v .str))], slots := [], nb := 1 })]
def impl_StreamOf.l0.F (k j : Nat) (x : Prod' impl_StreamOf.l0.ish.tys) : Option (Outs impl_StreamOf.l0.outs) := impl_StreamOf.l0 k j x.1 x.2.1 x.2.2.1 x.2.2.2
def impl_StreamOf.l0.s (k : Nat) : Summ := { n := 48, ish := impl_StreamOf.l0.ish, outs := impl_StreamOf.l0.outs, f := impl_StreamOf.l0.F k k }
theorem impl_StreamOf.l0.ev (k j : Nat) (x : Prod' impl_StreamOf.l0.ish.tys) : V (impl_StreamOf.C k) .auto (cO (cO (cR (cL (cR (cR (cR (cR (cR (cB Try.f13)))))))))) (mk impl_StreamOf.l0.ish 48 x) (fun e st' => match e with | .nrm => (rd impl_StreamOf.l0.ish st').bind (impl_StreamOf.l0.F k j) | e => rdOut e st' impl_StreamOf.l0.outs) = impl_StreamOf.l0.F k (j + 1) x := by kernel_rfl
theorem impl_StreamOf.l0.ok (k : Nat) : SumOk Try.prog (impl_StreamOf.C k) (.loop (cO (cO (cR (cL (cR (cR (cR (cR (cR (cB Try.f13))))))))))) (impl_StreamOf.l0.s k) := sum_ok (by kernel_rfl) (sum_loop (p := .auto) (F := impl_StreamOf.l0.F k) (impl_StreamOf.cok k) (by kernel_rfl) (plan_of (L := []) (by kernel_rfl) trivial) (fun _ => rfl) (fun j x y h => (impl_StreamOf.l0.ev k j x).trans h) k rfl)
theorem impl_StreamOf.ev (k : Nat) (x : Prod' impl_StreamOf.sig.ins) : impl_StreamOf.sig.ev (impl_StreamOf.C k) (.two .auto (.two .auto (.two .auto (.two .auto (.two .auto (.two (.two .auto (.one (.sum (impl_StreamOf.l0.s k)))) .auto)))))) Try.f13.results.toList (cB Try.f13) x = impl_StreamOf k x := by kernel_rfl
theorem impl_StreamOf.ok (k : Nat) : ConOk Try.prog 13 (impl_StreamOf.con k) := sig_ok (p := (.two .auto (.two .auto (.two .auto (.two .auto (.two .auto (.two (.two .auto (.one (.sum (impl_StreamOf.l0.s k)))) .auto))))))) (impl_StreamOf.cok k) Try.func13 (by kernel_rfl) (show Try.f13.body = some (cB Try.f13) by kernel_rfl) (by kernel_rfl) (by kernel_rfl) (plan_of (L := [(impl_StreamOf.l0.s k, cO (cR (cL (cR (cR (cR (cR (cR (cB Try.f13)))))))))]) (by kernel_rfl) ⟨impl_StreamOf.l0.ok k, trivial⟩) (fun x y h => (impl_StreamOf.ev k x).trans h)
def laws_FnExactStreamOf (k : Nat) (a1 : G24) : Option (Bool) :=
  Option.bind (laws_szPackage k a1 1048576) fun v2 =>
  bif decide (v2 < 0) then
    some true
  else
  Option.bind (laws_toPackage k a1) fun v3 =>
  Option.bind (spec_StreamOf k v3) fun v4 =>
  Option.bind (laws_toPackage k a1) fun v5 =>
  Option.bind (impl_StreamOf k v5) fun v6 =>
  bif !(v6 == v4) then
    some false
  else
  Option.bind (laws_toPackage k a1) fun v7 =>
  Option.bind (laws_eqPackage k v5 v7) fun v8 =>
  bif !v8 then
    some false
  else
  some true
def laws_FnExactStreamOf.sig : Sig := { ps := [.val true T24 (ros T24)], rs := [.val false [.v .bool]], ntmps := 27 }
def laws_FnExactStreamOf.con (k : Nat) : Con := laws_FnExactStreamOf.sig.con (fun x => laws_FnExactStreamOf k x)
def laws_FnExactStreamOf.C (k : Nat) : Ctx := { ti := TAB, con := conL [(10, laws_szPackage.con k), (11, spec_StreamOf.con k), (12, laws_toPackage.con k), (13, impl_StreamOf.con k), (14, laws_eqPackage.con k)], rob := true }
theorem laws_FnExactStreamOf.cok (k : Nat) : CtxOk Try.prog (laws_FnExactStreamOf.C k) := ctx_ok TABok ⟨laws_szPackage.ok k, spec_StreamOf.ok k, laws_toPackage.ok k, impl_StreamOf.ok k, laws_eqPackage.ok k, trivial⟩
theorem laws_FnExactStreamOf.ev (k : Nat) (x : Prod' laws_FnExactStreamOf.sig.ins) : laws_FnExactStreamOf.sig.ev (laws_FnExactStreamOf.C k) .auto Try.f4.results.toList (cB Try.f4) x = laws_FnExactStreamOf k x := by kernel_rfl
theorem laws_FnExactStreamOf.ok (k : Nat) : ConOk Try.prog 4 (laws_FnExactStreamOf.con k) := sig_ok (p := .auto) (laws_FnExactStreamOf.cok k) Try.func4 (by kernel_rfl) (show Try.f4.body = some (cB Try.f4) by kernel_rfl) (by kernel_rfl) (by kernel_rfl) (plan_of (L := []) (by kernel_rfl) trivial) (fun x y h => (laws_FnExactStreamOf.ev k x).trans h)
end Go.Proofs.YtaajcllchbnjiaaE

namespace Go.Proofs.YtaajcllchbnjiaaE
open Go
set_option linter.unusedVariables false
def Ever (p : Nat → Prop) : Prop := ∃ K, ∀ k, K ≤ k → p k
theorem Ever.of {p : Nat → Prop} (h : ∀ k, p k) : Ever p := ⟨0, fun k _ => h k⟩
theorem Ever.ge {p : Nat → Prop} (K : Nat) (h : ∀ k, K ≤ k → p k) : Ever p := ⟨K, h⟩
theorem Ever.mono {p q : Nat → Prop} (h : Ever p) (f : ∀ k, p k → q k) : Ever q := by
  obtain ⟨K, h⟩ := h
  exact ⟨K, fun k hk => f k (h k hk)⟩
theorem Ever.and {p q : Nat → Prop} (h : Ever p) (g : Ever q) : Ever fun k => p k ∧ q k := by
  obtain ⟨K, h⟩ := h
  obtain ⟨J, g⟩ := g
  exact ⟨K + J, fun k hk => ⟨h k (by omega), g k (by omega)⟩⟩
theorem Ever.ex {p : Nat → Prop} (h : Ever p) : ∃ k, p k := by
  obtain ⟨K, h⟩ := h
  exact ⟨K, h K (Nat.le_refl K)⟩
theorem Ever.all {n : Nat} {p : Nat → Nat → Prop} : (∀ i, i < n → Ever (p i)) → Ever fun k => ∀ i, i < n → p i k := by
  induction n with
  | zero => exact fun _ => ⟨0, fun k _ i hi => absurd hi (Nat.not_lt_zero i)⟩
  | succ n ih =>
    intro h
    refine ((ih fun i hi => h i (Nat.lt_succ_of_lt hi)).and (h n (Nat.lt_succ_self n))).mono fun k hk i hi => ?_
    rcases Nat.eq_or_lt_of_le (Nat.le_of_lt_succ hi) with rfl | hi
    · exact hk.2
    · exact hk.1 i hi
/-- Two facts, then a third. -/
theorem Ever.two {p q r : Nat → Prop} (h : Ever p) (g : Ever q) (f : ∀ k, p k → q k → r k) : Ever r := (h.and g).mono fun k hk => f k hk.1 hk.2
/-- A loop of n rounds: what it has in hand at round i is told by i. -/
theorem ever_loop {R : Type} (L : Nat → Nat → Nat → Option R) (n : Nat) (r : R) (hs : Ever fun k => ∀ i, i < n → ∀ j, L k (j + 1) i = L k j (i + 1)) (hl : Ever fun k => ∀ j, L k (j + 1) n = some r) : Ever fun k => L k k 0 = some r := by
  obtain ⟨K, hs⟩ := hs
  obtain ⟨J, hl⟩ := hl
  refine ⟨K + J + n + 1, fun k hk => ?_⟩
  have hs := hs k (by omega)
  have hl := hl k (by omega)
  have key : ∀ d i j, i + d = n → d < j → L k j i = some r := by
    intro d
    induction d with
    | zero =>
      intro i j hi hj
      obtain ⟨m, rfl⟩ : ∃ m, j = m + 1 := ⟨j - 1, by omega⟩
      obtain rfl : i = n := by omega
      exact hl m
    | succ d ih =>
      intro i j hi hj
      obtain ⟨m, rfl⟩ : ∃ m, j = m + 1 := ⟨j - 1, by omega⟩
      rw [hs i (by omega) m]
      exact ih (i + 1) m (by omega) (by omega)
  exact key n 0 k (by omega) (by omega)
/-- The same, where neither the round nor the end hangs on fuel. -/
theorem loop_of {R : Type} (L : Nat → Nat → Option R) (n : Nat) (r : R) (hs : ∀ i, i < n → ∀ j, L (j + 1) i = L j (i + 1)) (hl : ∀ j, L (j + 1) n = some r) : Ever fun k => L k 0 = some r :=
  ever_loop (fun _ j i => L j i) n r (Ever.of fun _ => hs) (Ever.of fun _ => hl)
theorem loop_at {R : Type} (L : Nat → Nat → Option R) (n : Nat) (r : R) (hs : ∀ i, i < n → ∀ j, L (j + 1) i = L j (i + 1)) (hl : ∀ j, L (j + 1) n = some r) : ∀ k, n < k → L k 0 = some r := by
  have key : ∀ d i j, i + d = n → d < j → L j i = some r := by
    intro d
    induction d with
    | zero =>
      intro i j hi hj
      obtain ⟨m, rfl⟩ : ∃ m, j = m + 1 := ⟨j - 1, by omega⟩
      obtain rfl : i = n := by omega
      exact hl m
    | succ d ih =>
      intro i j hi hj
      obtain ⟨m, rfl⟩ : ∃ m, j = m + 1 := ⟨j - 1, by omega⟩
      rw [hs i (by omega) m]
      exact ih (i + 1) m (by omega) (by omega)
  exact fun k hk => key n 0 k (by omega) hk
theorem bnd {α β : Type} {f : Nat → Option α} {g : Nat → α → Option β} {a : α} {b : β} (h : Ever fun k => f k = some a) (k : Ever fun k => g k a = some b) : Ever fun k => (f k).bind (g k) = some b :=
  h.two k fun k h1 h2 => by rw [h1]; exact h2
theorem some_cond {α : Type} {b : Bool} {x y : Option α} (hx : ∃ v, x = some v) (hy : ∃ v, y = some v) : ∃ v, (bif b then x else y) = some v := by
  cases b
  · exact hy
  · exact hx
theorem some_bind {α β : Type} {x : Option α} {f : α → Option β} (hx : ∃ v, x = some v) (hf : ∀ v, ∃ w, f v = some w) : ∃ w, x.bind f = some w := by
  obtain ⟨v, rfl⟩ := hx
  exact hf v
/-! ### numbers -/
theorem w64 {n : Int} (h0 : -9223372036854775808 ≤ n) (h1 : n < 9223372036854775808) : IntKind.wrap .i64 n = n := by
  simp [IntKind.wrap, IntKind.bits, IntKind.signed]
  omega
theorem wf64 {n : Int} (h : Bnd (.int .i64) n) : -9223372036854775808 ≤ n ∧ n < 9223372036854775808 := by
  have h : (Lit.int .i64 n).wf = true := h
  simp [Lit.wf, IntKind.min, IntKind.max, IntKind.signed, IntKind.bits] at h
  omega
theorem wn {n : Nat} (h : n < 9223372036854775808) : IntKind.wrap .i64 (n : Int) = n := w64 (by omega) (by omega)
theorem wsuc {n : Nat} (h : n < 9223372036854775807) : IntKind.wrap .i64 ((n : Int) + 1) = ((n + 1 : Nat) : Int) := by rw [w64] <;> omega
/-! ### partial answers -/
theorem at_nat {α : Type} {l : List α} {i : Nat} (h : i < l.length) : at? l (i : Int) = some l[i] := by
  unfold at?
  rw [if_pos (by omega), Int.toNat_natCast, List.getElem?_eq_getElem h]
theorem app_ok {α : Type} {n : Nat} {a b : List α} (h : (a.length + b.length) * n ≤ 140737488355328) : app? n a b = some (a ++ b) := if_pos h
theorem cat_some {a b : Str} (h : a.length + b.length ≤ 9223372036854775807) : cat? a b = some (a ++ b) := if_pos h
theorem make_some {α : Type} {b n : Nat} {x : α} (h : n * b ≤ 140737488355328) : make? b (n : Int) (n : Int) x = some (List.replicate n x) := by
  unfold make?
  rw [if_pos ⟨by omega, Int.le_refl _, by rw [Int.toNat_natCast]; exact h⟩, Int.toNat_natCast]
theorem cut_ok {α : Type} {l : List α} {i j : Nat} (h : i ≤ j) (k : j ≤ l.length) : cut? l (i : Int) (j : Int) = some ((l.take j).drop i) := by
  unfold cut?
  rw [if_pos ⟨by omega, by omega, by omega⟩, Int.toNat_natCast, Int.toNat_natCast]
theorem room_some {n b : Nat} (h : n * b ≤ 140737488355328) : room? n b = some () := if_pos h
theorem nz_some {b : Int} (h : b ≠ 0) : nz? b = some () := if_neg h
theorem nneg_some {b : Int} (h : 0 ≤ b) : nneg? b = some () := if_neg (by omega)
theorem take_map_succ {α β : Type} {l : List α} (f : α → β) {i : Nat} (h : i < l.length) : (l.take (i + 1)).map f = (l.take i).map f ++ [f l[i]] := by
  rw [List.take_add_one, List.getElem?_eq_getElem h, List.map_append]
  rfl
theorem take_succ' {α : Type} {l : List α} {i : Nat} (h : i < l.length) : l.take (i + 1) = l.take i ++ [l[i]] := by
  rw [List.take_add_one, List.getElem?_eq_getElem h]
  rfl
/-- A list that is filled, place by place. -/
theorem fill_set {α β : Type} {l : List α} {f : α → β} {z : β} {i : Nat} (h : i < l.length) :
    ((l.take i).map f ++ List.replicate (l.length - i) z).set i (f l[i]) = (l.take (i + 1)).map f ++ List.replicate (l.length - (i + 1)) z := by
  have hl : ((l.take i).map f).length = i := by simp; omega
  rw [List.set_append_right _ _ (by rw [hl]; exact Nat.le_refl i), hl, Nat.sub_self, show l.length - i = (l.length - (i + 1)) + 1 by omega, List.replicate_succ, List.set_cons_zero, take_map_succ f h, List.append_assoc]
  rfl
theorem fill_len {α β : Type} {l : List α} {f : α → β} {z : β} {i : Nat} (h : i ≤ l.length) : ((l.take i).map f ++ List.replicate (l.length - i) z).length = l.length := by simp; omega
end Go.Proofs.YtaajcllchbnjiaaE

namespace Go.Proofs.YtaajcllchbnjiaaE
open Go
set_option linter.unusedVariables false
/-- A step is taken for each element, until one of them ends it. -/
def runL {α S R : Type} (f : S → α → S ⊕ R) (g : S → R) : List α → S → R
  | [], s => g s
  | x :: l, s => match f s x with
    | .inl s' => runL f g l s'
    | .inr r => r
theorem runL_inl {α S R : Type} {f : S → α → S ⊕ R} {g : S → R} {x : α} {l : List α} {s s' : S} (h : f s x = .inl s') : runL f g (x :: l) s = runL f g l s' := by
  have e : runL f g (x :: l) s = match f s x with | .inl s' => runL f g l s' | .inr r => r := rfl
  rw [e, h]
theorem runL_inr {α S R : Type} {f : S → α → S ⊕ R} {g : S → R} {x : α} {l : List α} {s : S} {r : R} (h : f s x = .inr r) : runL f g (x :: l) s = r := by
  have e : runL f g (x :: l) s = match f s x with | .inl s' => runL f g l s' | .inr r => r := rfl
  rw [e, h]
theorem loop_from {α S R : Type} (L : Nat → S → Int → Option R) (l : List α) (f : S → α → S ⊕ R) (g : S → R) (I : Nat → S → Prop)
    (hs : ∀ (i : Nat) (h : i < l.length) (s : S), I i s → (∃ s', f s l[i] = .inl s' ∧ I (i + 1) s' ∧ ∀ j, L (j + 1) s (i : Int) = L j s' ((i + 1 : Nat) : Int)) ∨ ∃ r, f s l[i] = .inr r ∧ ∀ j, L (j + 1) s (i : Int) = some r)
    (he : ∀ (s : S), I l.length s → ∀ j, L (j + 1) s (l.length : Int) = some (g s)) : ∀ (d i : Nat) (s : S), i + d = l.length → I i s → ∀ j, d < j → L j s (i : Int) = some (runL f g (l.drop i) s) := by
  intro d
  induction d with
  | zero =>
    intro i s hi hI j hj
    obtain ⟨j, rfl⟩ : ∃ q, j = q + 1 := ⟨j - 1, by omega⟩
    obtain rfl : i = l.length := by omega
    rw [List.drop_length, he s hI]
    rfl
  | succ d ih =>
    intro i s hi hI j hj
    obtain ⟨j, rfl⟩ : ∃ q, j = q + 1 := ⟨j - 1, by omega⟩
    have hlt : i < l.length := by omega
    rw [List.drop_eq_getElem_cons hlt]
    rcases hs i hlt s hI with ⟨s', h1, h2, h3⟩ | ⟨r, h1, h3⟩
    · rw [h3 j]
      show _ = some (match f s l[i] with | .inl s' => runL f g (l.drop (i + 1)) s' | .inr r => r)
      rw [h1]
      exact ih (i + 1) s' (by omega) h2 j (by omega)
    · rw [h3 j]
      show _ = some (match f s l[i] with | .inl s' => runL f g (l.drop (i + 1)) s' | .inr r => r)
      rw [h1]
theorem loop_fold {α S R : Type} (L : Nat → S → Int → Option R) (l : List α) (f : S → α → S ⊕ R) (g : S → R) (I : Nat → S → Prop)
    (hs : ∀ (i : Nat) (h : i < l.length) (s : S), I i s → (∃ s', f s l[i] = .inl s' ∧ I (i + 1) s' ∧ ∀ j, L (j + 1) s (i : Int) = L j s' ((i + 1 : Nat) : Int)) ∨ ∃ r, f s l[i] = .inr r ∧ ∀ j, L (j + 1) s (i : Int) = some r)
    (he : ∀ (s : S), I l.length s → ∀ j, L (j + 1) s (l.length : Int) = some (g s)) {s : S} (hI : I 0 s) {k : Nat} (hk : l.length < k) : L k s 0 = some (runL f g l s) :=
  loop_from L l f g I hs he l.length 0 s (Nat.zero_add _) hI k hk
/-- A loop that tests each element with a partial function that answers, and leaves at the first that passes. -/
def firstI {α : Type} (p : α → Bool) : List α → Nat → Option Nat
  | [], _ => none
  | x :: l, i => if p x then some i else firstI p l (i + 1)
theorem loop_find {α R : Type} (L : Nat → Int → Option R) (l : List α) (p : α → Bool) (a : R) (b : Nat → R)
    (hs : ∀ (i : Nat) (h : i < l.length), (p l[i] = false → ∀ j, L (j + 1) (i : Int) = L j ((i + 1 : Nat) : Int)) ∧ (p l[i] = true → ∀ j, L (j + 1) (i : Int) = some (b i)))
    (he : ∀ j, L (j + 1) (l.length : Int) = some a) {k : Nat} (hk : l.length < k) : L k 0 = some (match firstI p l 0 with | some i => b i | none => a) := by
  have key : ∀ (d i : Nat), i + d = l.length → ∀ j, d < j → L j (i : Int) = some (match firstI p (l.drop i) i with | some i => b i | none => a) := by
    intro d
    induction d with
    | zero =>
      intro i hi j hj
      obtain ⟨j, rfl⟩ : ∃ q, j = q + 1 := ⟨j - 1, by omega⟩
      obtain rfl : i = l.length := by omega
      rw [List.drop_length, he]
      rfl
    | succ d ih =>
      intro i hi j hj
      obtain ⟨j, rfl⟩ : ∃ q, j = q + 1 := ⟨j - 1, by omega⟩
      have hlt : i < l.length := by omega
      rw [List.drop_eq_getElem_cons hlt]
      obtain ⟨h1, h2⟩ := hs i hlt
      cases hp : p l[i] with
      | true => rw [h2 hp j]; simp [firstI, hp]
      | false =>
        rw [h1 hp j, ih (i + 1) (by omega) j (by omega)]
        simp [firstI, hp]
  have := key l.length 0 (Nat.zero_add _) k hk
  rwa [List.drop_zero] at this
theorem firstI_some {α : Type} {p : α → Bool} : ∀ {l : List α} {n i : Nat}, firstI p l n = some i → n ≤ i ∧ ∃ h : i - n < l.length, p (l[i - n]) = true ∧ ∀ j, (hj : j < i - n) → p (l[j]'(by omega)) = false
  | [], _, _, h => by cases h
  | x :: l, n, i, h => by
    unfold firstI at h
    split at h
    · rename_i hp
      cases h
      refine ⟨Nat.le_refl _, by simp, ?_, fun j hj => by omega⟩
      simpa using hp
    · rename_i hp
      obtain ⟨h1, h2, h3, h4⟩ := firstI_some h
      refine ⟨by omega, by simp only [List.length_cons]; omega, ?_, fun j hj => ?_⟩
      · have e : i - n = (i - (n + 1)) + 1 := by omega
        simpa [e] using h3
      · cases j with
        | zero => simpa using hp
        | succ j => simpa using h4 j (by omega)
theorem firstI_none {α : Type} {p : α → Bool} : ∀ {l : List α} {n : Nat}, firstI p l n = none ↔ ∀ x ∈ l, p x = false
  | [], n => by simp [firstI]
  | x :: l, n => by
    unfold firstI
    split
    · rename_i hp
      simp [hp]
    · rename_i hp
      rw [firstI_none]
      simp at hp
      simp [hp]
theorem firstI_any {α : Type} {p : α → Bool} {l : List α} {n : Nat} : (firstI p l n).isSome = l.any p := by
  cases h : firstI p l n with
  | none =>
    have := firstI_none.1 h
    symm
    simp only [Option.isSome_none, List.any_eq_false]
    intro x hx
    rw [this x hx]
    exact nofun
  | some i =>
    obtain ⟨_, h2, h3, _⟩ := firstI_some h
    symm
    exact List.any_eq_true.2 ⟨_, List.getElem_mem h2, h3⟩
/-- A list that is copied place by place. -/
theorem copy_loop {α : Type} (L : Nat → Int → List α → Option (List α)) (l : List α) (z : α)
    (hs : ∀ (i : Nat) (h : i < l.length) (c : List α), c.length = l.length → ∀ j, L (j + 1) (i : Int) c = L j ((i + 1 : Nat) : Int) (c.set i l[i]))
    (he : ∀ (c : List α) j, L (j + 1) (l.length : Int) c = some c) {k : Nat} (hk : l.length < k) : L k 0 (List.replicate l.length z) = some l := by
  have key : ∀ (d i : Nat), i + d = l.length → ∀ j, d < j → L j (i : Int) (l.take i ++ List.replicate (l.length - i) z) = some l := by
    intro d
    induction d with
    | zero =>
      intro i hi j hj
      obtain ⟨j, rfl⟩ : ∃ q, j = q + 1 := ⟨j - 1, by omega⟩
      obtain rfl : i = l.length := by omega
      rw [he, Nat.sub_self, List.take_length]
      simp
    | succ d ih =>
      intro i hi j hj
      obtain ⟨j, rfl⟩ : ∃ q, j = q + 1 := ⟨j - 1, by omega⟩
      have hlt : i < l.length := by omega
      rw [hs i hlt _ (by simp; omega)]
      have e : (l.take i ++ List.replicate (l.length - i) z).set i l[i] = l.take (i + 1) ++ List.replicate (l.length - (i + 1)) z := by
        have hl : (l.take i).length = i := by simp; omega
        rw [List.set_append_right _ _ (by omega), hl, Nat.sub_self, show l.length - i = (l.length - (i + 1)) + 1 by omega, List.replicate_succ, List.set_cons_zero, take_succ' hlt, List.append_assoc]
        rfl
      rw [e]
      exact ih (i + 1) (by omega) j (by omega)
  have := key l.length 0 (Nat.zero_add _) k hk
  simpa using this
theorem dlt {a b : Nat} (h : a < b) : decide ((a : Int) < (b : Int)) = true := decide_eq_true (by omega)
theorem dnlt {a b : Nat} (h : b ≤ a) : decide ((a : Int) < (b : Int)) = false := decide_eq_false (by omega)
theorem bnd' {α β : Type} {x : Option α} {f : α → Option β} {a : α} {b : Option β} (h : x = some a) (k : f a = b) : x.bind f = b := by rw [h]; exact k
end Go.Proofs.YtaajcllchbnjiaaE
