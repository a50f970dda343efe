/- What the law FnExactDeedText needs, part 7 of 8: the Lean functions of the Go functions that it reaches, with the proofs that the calls come to what they say, and plain facts about them. Conditions: those that each theorem states. Written by a session and by its programs (after the kit's printer). -/
import Derived.Laws.BitsLemmas
import Derived.Test.YtaajcllchbnjiaaDoorXFnExactDeedText5
namespace Go.Proofs.YtaajcllchbnjiaaDoorE
open Go Go.RowKit
set_option linter.unusedVariables false
def laws_szInt64S (a1 : List Int) (a2 : Int) : Option (Int) :=
  let e3 := IntKind.wrap .i64 (a2 - ((a1.length) : Int))
  bif decide (e3 < 0) then
    some (-1)
  else
  some e3
def laws_szInt64S.sig : Sig := { ps := [.val false (.sl (.int .i64)) (ros (.sl (.int .i64))), .val false (.int .i64) (ros (.int .i64))], rs := [.val false [.v (.int .i64)]], ntmps := 12 }
def laws_szInt64S.con (k : Nat) : Con := laws_szInt64S.sig.con (fun x => laws_szInt64S x.1 x.2)
def laws_szInt64S.C (k : Nat) : Ctx := { ti := TAB, con := conL [] }
theorem laws_szInt64S.cok (k : Nat) : CtxOk Tryd.prog (laws_szInt64S.C k) := ctx_ok TABok trivial
theorem laws_szInt64S.ev (k : Nat) (x : Prod' laws_szInt64S.sig.ins) : laws_szInt64S.sig.ev (laws_szInt64S.C k) .auto Tryd.f16.results.toList (cB Tryd.f16) x = laws_szInt64S x.1 x.2 := by kernel_rfl
theorem laws_szInt64S.ok (k : Nat) : ConOk Tryd.prog 16 (laws_szInt64S.con k) := sig_ok (p := .auto) (laws_szInt64S.cok k) Tryd.func16 (by kernel_rfl) (show Tryd.f16.body = some (cB Tryd.f16) by kernel_rfl) (by kernel_rfl) (by kernel_rfl) (plan_of (L := []) (by kernel_rfl) trivial) (fun x y h => (laws_szInt64S.ev k x).trans h)
def laws_szStep (a1 : G44) (a2 : Int) : Option (Int) :=
  let e3 := IntKind.wrap .i64 (a2 - ((a1.2.2.2.length) : Int))
  bif decide (e3 < 0) then
    some (-1)
  else
  some e3
def laws_szStep.sig : Sig := { ps := [.val true T44 (ros T44), .val false (.int .i64) (ros (.int .i64))], rs := [.val false [.v (.int .i64)]], ntmps := 13 }
def laws_szStep.con (k : Nat) : Con := laws_szStep.sig.con (fun x => laws_szStep x.1 x.2)
def laws_szStep.C (k : Nat) : Ctx := { ti := TAB, con := conL [] }
theorem laws_szStep.cok (k : Nat) : CtxOk Tryd.prog (laws_szStep.C k) := ctx_ok TABok trivial
theorem laws_szStep.ev (k : Nat) (x : Prod' laws_szStep.sig.ins) : laws_szStep.sig.ev (laws_szStep.C k) .auto Tryd.f39.results.toList (cB Tryd.f39) x = laws_szStep x.1 x.2 := by kernel_rfl
theorem laws_szStep.ok (k : Nat) : ConOk Tryd.prog 39 (laws_szStep.con k) := sig_ok (p := .auto) (laws_szStep.cok k) Tryd.func39 (by kernel_rfl) (show Tryd.f39.body = some (cB Tryd.f39) by kernel_rfl) (by kernel_rfl) (by kernel_rfl) (plan_of (L := []) (by kernel_rfl) trivial) (fun x y h => (laws_szStep.ev k x).trans h)
def laws_szCmd (a1 : G46) (a2 : Int) : Option (Int) :=
  let e3 := IntKind.wrap .i64 (a2 - ((a1.2.2.2.1.length) : Int))
  bif decide (e3 < 0) then
    some (-1)
  else
  Option.bind (laws_szStep a1.2.2.2.2 e3) fun v4 =>
  bif decide (v4 < 0) then
    some (-1)
  else
  some v4
def laws_szCmd.sig : Sig := { ps := [.val true T46 (ros T46), .val false (.int .i64) (ros (.int .i64))], rs := [.val false [.v (.int .i64)]], ntmps := 19 }
def laws_szCmd.con (k : Nat) : Con := laws_szCmd.sig.con (fun x => laws_szCmd x.1 x.2)
def laws_szCmd.C (k : Nat) : Ctx := { ti := TAB, con := conL [(39, laws_szStep.con k)] }
theorem laws_szCmd.cok (k : Nat) : CtxOk Tryd.prog (laws_szCmd.C k) := ctx_ok TABok ⟨laws_szStep.ok k, trivial⟩
theorem laws_szCmd.ev (k : Nat) (x : Prod' laws_szCmd.sig.ins) : laws_szCmd.sig.ev (laws_szCmd.C k) .auto Tryd.f24.results.toList (cB Tryd.f24) x = laws_szCmd x.1 x.2 := by kernel_rfl
theorem laws_szCmd.ok (k : Nat) : ConOk Tryd.prog 24 (laws_szCmd.con k) := sig_ok (p := .auto) (laws_szCmd.cok k) Tryd.func24 (by kernel_rfl) (show Tryd.f24.body = some (cB Tryd.f24) by kernel_rfl) (by kernel_rfl) (by kernel_rfl) (plan_of (L := []) (by kernel_rfl) trivial) (fun x y h => (laws_szCmd.ev k x).trans h)
def laws_szDeed (a1 : G48) (a2 : Int) : Option (Int) :=
  Option.bind (laws_szCmd a1.1 a2) fun v3 =>
  bif decide (v3 < 0) then
    some (-1)
  else
  Option.bind (laws_szInt64S a1.2.2.1 v3) fun v4 =>
  bif decide (v4 < 0) then
    some (-1)
  else
  Option.bind (laws_szInt64S a1.2.2.2 v4) fun v5 =>
  bif decide (v5 < 0) then
    some (-1)
  else
  some v5
def laws_szDeed.sig : Sig := { ps := [.val true T48 (ros T48), .val false (.int .i64) (ros (.int .i64))], rs := [.val false [.v (.int .i64)]], ntmps := 24 }
def laws_szDeed.con (k : Nat) : Con := laws_szDeed.sig.con (fun x => laws_szDeed x.1 x.2)
def laws_szDeed.C (k : Nat) : Ctx := { ti := TAB, con := conL [(16, laws_szInt64S.con k), (24, laws_szCmd.con k)], rob := true }
theorem laws_szDeed.cok (k : Nat) : CtxOk Tryd.prog (laws_szDeed.C k) := ctx_ok TABok ⟨laws_szInt64S.ok k, laws_szCmd.ok k, trivial⟩
theorem laws_szDeed.ev (k : Nat) (x : Prod' laws_szDeed.sig.ins) : laws_szDeed.sig.ev (laws_szDeed.C k) .auto Tryd.f10.results.toList (cB Tryd.f10) x = laws_szDeed x.1 x.2 := by kernel_rfl
theorem laws_szDeed.ok (k : Nat) : ConOk Tryd.prog 10 (laws_szDeed.con k) := sig_ok (p := .auto) (laws_szDeed.cok k) Tryd.func10 (by kernel_rfl) (show Tryd.f10.body = some (cB Tryd.f10) by kernel_rfl) (by kernel_rfl) (by kernel_rfl) (plan_of (L := []) (by kernel_rfl) trivial) (fun x y h => (laws_szDeed.ev k x).trans h)
def spec_l03Is (a1 : Int) (a2 : Int) (a3 : Int) : Option (Bool) :=
  some ((decide (a2 ≤ a1)) && (decide (a1 ≤ a3)))
def spec_l03Is.sig : Sig := { ps := [.val false (.int .i64) (ros (.int .i64)), .val false (.int .i64) (ros (.int .i64)), .val false (.int .i64) (ros (.int .i64))], rs := [.val false [.v .bool]], ntmps := 15 }
def spec_l03Is.con (k : Nat) : Con := spec_l03Is.sig.con (fun x => spec_l03Is x.1 x.2.1 x.2.2)
def spec_l03Is.C (k : Nat) : Ctx := { ti := TAB, con := conL [] }
theorem spec_l03Is.cok (k : Nat) : CtxOk Tryd.prog (spec_l03Is.C k) := ctx_ok TABok trivial
theorem spec_l03Is.ev (k : Nat) (x : Prod' spec_l03Is.sig.ins) : spec_l03Is.sig.ev (spec_l03Is.C k) .auto Tryd.f41.results.toList (cB Tryd.f41) x = spec_l03Is x.1 x.2.1 x.2.2 := by kernel_rfl
theorem spec_l03Is.ok (k : Nat) : ConOk Tryd.prog 41 (spec_l03Is.con k) := sig_ok (p := .auto) (spec_l03Is.cok k) Tryd.func41 (by kernel_rfl) (show Tryd.f41.body = some (cB Tryd.f41) by kernel_rfl) (by kernel_rfl) (by kernel_rfl) (plan_of (L := []) (by kernel_rfl) trivial) (fun x y h => (spec_l03Is.ev k x).trans h)
def spec_StepRight (a1 : G44) (a2 : Int) : Option (Bool) :=
  Option.bind (spec_l03Is a2 1 8) fun v3 =>
  bif !v3 then
    some false
  else
  let e4 := IntKind.wrap .i64 (a2 - 1)
  Option.bind (spec_l03Is a1.2.1 0 e4) fun v5 =>
  Option.bind (spec_l03Is a1.2.2.1 0 e4) fun v6 =>
  let e7 := a1.2.2.2 == []
  let e8 := v5 && (a1.2.2.1 == 0)
  bif a1.1 == 1 then
    some (e8 && e7)
  else
  let e9 := ((a1.2.2.2.length) : Int) == 8
  bif a1.1 == 2 then
    some (e8 && e9)
  else
  bif a1.1 == 3 then
    some ((v5 && v6) && e7)
  else
  bif a1.1 == 4 then
    some ((v5 && v6) && e9)
  else
  bif a1.1 == 5 then
    bif a1.2.1 == 0 then
      Option.bind (spec_l03Is a1.2.2.1 0 1000000) fun v10 =>
      some (v10 && e7)
    else
    some false
  else
  some false
def spec_StepRight.sig : Sig := { ps := [.val true T44 (ros T44), .val false (.int .i64) (ros (.int .i64))], rs := [.val false [.v .bool]], ntmps := 87 }
def spec_StepRight.con (k : Nat) : Con := spec_StepRight.sig.con (fun x => spec_StepRight x.1 x.2)
def spec_StepRight.C (k : Nat) : Ctx := { ti := TAB, con := conL [(41, spec_l03Is.con k)] }
theorem spec_StepRight.cok (k : Nat) : CtxOk Tryd.prog (spec_StepRight.C k) := ctx_ok TABok ⟨spec_l03Is.ok k, trivial⟩
theorem spec_StepRight.ev (k : Nat) (x : Prod' spec_StepRight.sig.ins) : spec_StepRight.sig.ev (spec_StepRight.C k) .auto Tryd.f61.results.toList (cB Tryd.f61) x = spec_StepRight x.1 x.2 := by kernel_rfl
theorem spec_StepRight.ok (k : Nat) : ConOk Tryd.prog 61 (spec_StepRight.con k) := sig_ok (p := .auto) (spec_StepRight.cok k) Tryd.func61 (by kernel_rfl) (show Tryd.f61.body = some (cB Tryd.f61) by kernel_rfl) (by kernel_rfl) (by kernel_rfl) (plan_of (L := []) (by kernel_rfl) trivial) (fun x y h => (spec_StepRight.ev k x).trans h)
def spec_CmdRight (a1 : G46) : Option (Bool) :=
  Option.bind (spec_l03Is a1.1 1 11) fun v2 =>
  bif !v2 then
    some false
  else
  let e3 := a1.1 == 1
  let e4 := a1.1 == 2
  let e5 := (!e3) && ((a1.2.2.1 != 0) || (!(a1.2.2.2.1 == [])))
  let e6 := (!e4) && (!((a1.2.2.2.2.1 == 0) && ((a1.2.2.2.2.2.1 == 0) && ((a1.2.2.2.2.2.2.1 == 0) && (a1.2.2.2.2.2.2.2 == [])))))
  let e7 := a1.1 == 9
  let e8 := a1.1 == 7
  let e9 := a1.2.1 == 0
  bif e3 then
    Option.bind (spec_l03Is a1.2.1 1 20) fun v10 =>
    bif !v10 then
      some false
    else
    Option.bind (spec_l03Is a1.2.2.1 0 4) fun v11 =>
    bif (!v11) || (((a1.2.2.2.1.length) : Int) != 32) then
      some false
    else
    bif e5 then
      some false
    else
    bif e4 then
      Option.bind (spec_StepRight a1.2.2.2.2 8) fun v12 =>
      bif (!v12) || e6 then
        some false
      else
      bif e3 then
        some true
      else
      bif e7 then
        Option.bind (spec_l03Is a1.2.1 1 24) fun v13 =>
        some v13
      else
      bif e8 then
        Option.bind (spec_l03Is a1.2.1 0 1000000) fun v14 =>
        some v14
      else
      some e9
    else
    bif e6 then
      some false
    else
    bif e3 then
      some true
    else
    bif e7 then
      Option.bind (spec_l03Is a1.2.1 1 24) fun v15 =>
      some v15
    else
    bif e8 then
      Option.bind (spec_l03Is a1.2.1 0 1000000) fun v16 =>
      some v16
    else
    some e9
  else
  bif e5 then
    some false
  else
  bif e4 then
    Option.bind (spec_StepRight a1.2.2.2.2 8) fun v17 =>
    bif (!v17) || e6 then
      some false
    else
    bif e3 then
      some true
    else
    bif e7 then
      Option.bind (spec_l03Is a1.2.1 1 24) fun v18 =>
      some v18
    else
    bif e8 then
      Option.bind (spec_l03Is a1.2.1 0 1000000) fun v19 =>
      some v19
    else
    some e9
  else
  bif e6 then
    some false
  else
  bif e3 then
    some true
  else
  bif e7 then
    Option.bind (spec_l03Is a1.2.1 1 24) fun v20 =>
    some v20
  else
  bif e8 then
    Option.bind (spec_l03Is a1.2.1 0 1000000) fun v21 =>
    some v21
  else
  some e9
def spec_CmdRight.sig : Sig := { ps := [.val true T46 (ros T46)], rs := [.val false [.v .bool]], ntmps := 83 }
def spec_CmdRight.con (k : Nat) : Con := spec_CmdRight.sig.con (fun x => spec_CmdRight x)
def spec_CmdRight.C (k : Nat) : Ctx := { ti := TAB, con := conL [(41, spec_l03Is.con k), (61, spec_StepRight.con k)] }
theorem spec_CmdRight.cok (k : Nat) : CtxOk Tryd.prog (spec_CmdRight.C k) := ctx_ok TABok ⟨spec_l03Is.ok k, spec_StepRight.ok k, trivial⟩
theorem spec_CmdRight.ev (k : Nat) (x : Prod' spec_CmdRight.sig.ins) : spec_CmdRight.sig.ev (spec_CmdRight.C k) .auto Tryd.f40.results.toList (cB Tryd.f40) x = spec_CmdRight x := by kernel_rfl
theorem spec_CmdRight.ok (k : Nat) : ConOk Tryd.prog 40 (spec_CmdRight.con k) := sig_ok (p := .auto) (spec_CmdRight.cok k) Tryd.func40 (by kernel_rfl) (show Tryd.f40.body = some (cB Tryd.f40) by kernel_rfl) (by kernel_rfl) (by kernel_rfl) (plan_of (L := []) (by kernel_rfl) trivial) (fun x y h => (spec_CmdRight.ev k x).trans h)
def spec_l16Nums.l0 : Nat → List Int → Int → Int → Option (Unit ⊕ Bool)
  | 0, _, _, _ => none
  | j + 1, a1, a2, a3 =>
    bif decide (a3 < ((a1.length) : Int)) then
      Option.bind (at? a1 a3) fun v4 =>
      Option.bind (spec_l03Is v4 0 a2) fun v5 =>
      bif !v5 then
        some (.inr false)
      else
      spec_l16Nums.l0 j a1 a2 (IntKind.wrap .i64 (a3 + 1))
    else
    some (.inl ())
def spec_l16Nums (k : Nat) (a1 : List Int) (a2 : Int) (a3 : Int) : Option (Bool) :=
  bif decide (a2 < ((a1.length) : Int)) then
    some false
  else
  Option.bind (spec_l16Nums.l0 k a1 a3 0) fun
    | .inl y4 =>
      some true
    | .inr y5 =>
      some y5
def spec_l16Nums.sig : Sig := { ps := [.val false (.sl (.int .i64)) (ros (.sl (.int .i64))), .val false (.int .i64) (ros (.int .i64)), .val false (.int .i64) (ros (.int .i64))], rs := [.val false [.v .bool]], ntmps := 25 }
def spec_l16Nums.con (k : Nat) : Con := spec_l16Nums.sig.con (fun x => spec_l16Nums k x.1 x.2.1 x.2.2)
def spec_l16Nums.C (k : Nat) : Ctx := { ti := TAB, con := conL [(41, spec_l03Is.con k)] }
theorem spec_l16Nums.cok (k : Nat) : CtxOk Tryd.prog (spec_l16Nums.C k) := ctx_ok TABok ⟨spec_l03Is.ok k, trivial⟩
def spec_l16Nums.l0.ish : Shape := { tmps := [(0, .one (.bor (.int .i64))), (2, .one (.v (.int .i64))), (7, .one (.v (.int .i64)))], slots := [], nb := 0 }
def spec_l16Nums.l0.outs : List (Ex × Shape) := [(.exit 0, { tmps := [], slots := [], nb := 0 }), (.ret, { tmps := [(6, .one (.v .bool))], slots := [], nb := 0 })]
def spec_l16Nums.l0.F (k j : Nat) (x : Prod' spec_l16Nums.l0.ish.tys) : Option (Outs spec_l16Nums.l0.outs) := spec_l16Nums.l0 j x.1 x.2.1 x.2.2
def spec_l16Nums.l0.s (k : Nat) : Summ := { n := 25, ish := spec_l16Nums.l0.ish, outs := spec_l16Nums.l0.outs, f := spec_l16Nums.l0.F k k }
theorem spec_l16Nums.l0.ev (k j : Nat) (x : Prod' spec_l16Nums.l0.ish.tys) : V (spec_l16Nums.C k) .auto (cO (cO (cR (cL (cR (cR (cB Tryd.f42))))))) (mk spec_l16Nums.l0.ish 25 x) (fun e st' => match e with | .nrm => (rd spec_l16Nums.l0.ish st').bind (spec_l16Nums.l0.F k j) | e => rdOut e st' spec_l16Nums.l0.outs) = spec_l16Nums.l0.F k (j + 1) x := by kernel_rfl
theorem spec_l16Nums.l0.ok (k : Nat) : SumOk Tryd.prog (spec_l16Nums.C k) (.loop (cO (cO (cR (cL (cR (cR (cB Tryd.f42)))))))) (spec_l16Nums.l0.s k) := sum_ok (by kernel_rfl) (sum_loop (p := .auto) (F := spec_l16Nums.l0.F k) (spec_l16Nums.cok k) (by kernel_rfl) (plan_of (L := []) (by kernel_rfl) trivial) (fun _ => rfl) (fun j x y h => (spec_l16Nums.l0.ev k j x).trans h) k rfl)
theorem spec_l16Nums.ev (k : Nat) (x : Prod' spec_l16Nums.sig.ins) : spec_l16Nums.sig.ev (spec_l16Nums.C k) (.two .auto (.two .auto (.two (.two .auto (.one (.sum (spec_l16Nums.l0.s k)))) .auto))) Tryd.f42.results.toList (cB Tryd.f42) x = spec_l16Nums k x.1 x.2.1 x.2.2 := by kernel_rfl
theorem spec_l16Nums.ok (k : Nat) : ConOk Tryd.prog 42 (spec_l16Nums.con k) := sig_ok (p := (.two .auto (.two .auto (.two (.two .auto (.one (.sum (spec_l16Nums.l0.s k)))) .auto)))) (spec_l16Nums.cok k) Tryd.func42 (by kernel_rfl) (show Tryd.f42.body = some (cB Tryd.f42) by kernel_rfl) (by kernel_rfl) (by kernel_rfl) (plan_of (L := [(spec_l16Nums.l0.s k, cO (cR (cL (cR (cR (cB Tryd.f42))))))]) (by kernel_rfl) ⟨spec_l16Nums.l0.ok k, trivial⟩) (fun x y h => (spec_l16Nums.ev k x).trans h)
def spec_DeedRight (k : Nat) (a1 : G48) : Option (Bool) :=
  Option.bind (spec_CmdRight a1.1) fun v2 =>
  bif !v2 then
    some false
  else
  Option.bind (spec_l03Is a1.2.1 (-1) 50) fun v3 =>
  bif !v3 then
    some false
  else
  Option.bind (spec_l16Nums k a1.2.2.1 40 200) fun v4 =>
  bif !v4 then
    some false
  else
  Option.bind (spec_l16Nums k a1.2.2.2 5 50) fun v5 =>
  bif !v5 then
    some false
  else
  some ((decide (0 ≤ a1.2.1)) || ((((a1.2.2.1.length) : Int) == 0) && (((a1.2.2.2.length) : Int) == 0)))
def spec_DeedRight.sig : Sig := { ps := [.val true T48 (ros T48)], rs := [.val false [.v .bool]], ntmps := 40 }
def spec_DeedRight.con (k : Nat) : Con := spec_DeedRight.sig.con (fun x => spec_DeedRight k x)
def spec_DeedRight.C (k : Nat) : Ctx := { ti := TAB, con := conL [(40, spec_CmdRight.con k), (41, spec_l03Is.con k), (42, spec_l16Nums.con k)], rob := true }
theorem spec_DeedRight.cok (k : Nat) : CtxOk Tryd.prog (spec_DeedRight.C k) := ctx_ok TABok ⟨spec_CmdRight.ok k, spec_l03Is.ok k, spec_l16Nums.ok k, trivial⟩
theorem spec_DeedRight.ev (k : Nat) (x : Prod' spec_DeedRight.sig.ins) : spec_DeedRight.sig.ev (spec_DeedRight.C k) .auto Tryd.f25.results.toList (cB Tryd.f25) x = spec_DeedRight k x := by kernel_rfl
theorem spec_DeedRight.ok (k : Nat) : ConOk Tryd.prog 25 (spec_DeedRight.con k) := sig_ok (p := .auto) (spec_DeedRight.cok k) Tryd.func25 (by kernel_rfl) (show Tryd.f25.body = some (cB Tryd.f25) by kernel_rfl) (by kernel_rfl) (by kernel_rfl) (plan_of (L := []) (by kernel_rfl) trivial) (fun x y h => (spec_DeedRight.ev k x).trans h)
def spec_l16Hex.l0 : Nat → Str → Str → Int → List Int → Option ((List Int))
  | 0, _, _, _, _ => none
  | j + 1, a1, a2, a3, a4 =>
    bif decide (a3 < ((a1.length) : Int)) then
      Option.bind (at? a1 a3) fun v5 =>
      Option.bind (nneg? 4) fun v6 =>
      Option.bind (at? a2 (shr .u8 (v5.toNat : Int) 4)) fun v7 =>
      Option.bind (at? a1 a3) fun v8 =>
      Option.bind (at? a2 (intBits .and .u8 (v8.toNat : Int) 15)) fun v9 =>
      Option.bind (app? 1 a4 [(v7.toNat : Int), (v9.toNat : Int)]) fun v10 =>
      spec_l16Hex.l0 j a1 a2 (IntKind.wrap .i64 (a3 + 1)) v10
    else
    some a4
def spec_l16Hex (k : Nat) (a1 : Str) : Option (Str) :=
  Option.bind (spec_l16Hex.l0 k a1 ([48, 49, 50, 51, 52, 53, 54, 55, 56, 57, 97, 98, 99, 100, 101, 102] : Str) 0 []) fun y2 =>
  some (listByte y2)
def spec_l16Hex.sig : Sig := { ps := [.val false .str (ros .str)], rs := [.val false [.v .str]], ntmps := 30 }
def spec_l16Hex.con (k : Nat) : Con := spec_l16Hex.sig.con (fun x => spec_l16Hex k x)
def spec_l16Hex.C (k : Nat) : Ctx := { ti := TAB, con := conL [] }
theorem spec_l16Hex.cok (k : Nat) : CtxOk Tryd.prog (spec_l16Hex.C k) := ctx_ok TABok trivial
def spec_l16Hex.l0.ish : Shape := { tmps := [(0, .one (.v .str)), (3, .one (.v .str)), (4, .one (.own 1)), (5, .one (.v (.int .i64)))], slots := [(1, .arr false 5 (.int .u8))], nb := 2 }
def spec_l16Hex.l0.outs : List (Ex × Shape) := [(.exit 0, { tmps := [(4, .one (.own 2))], slots := [(2, .arr false 5 (.int .u8))], nb := 3 })]
def spec_l16Hex.l0.F (k j : Nat) (x : Prod' spec_l16Hex.l0.ish.tys) : Option (Outs spec_l16Hex.l0.outs) := spec_l16Hex.l0 j x.1 x.2.1 x.2.2.1 x.2.2.2
def spec_l16Hex.l0.s (k : Nat) : Summ := { n := 30, ish := spec_l16Hex.l0.ish, outs := spec_l16Hex.l0.outs, f := spec_l16Hex.l0.F k k }
theorem spec_l16Hex.l0.ev (k j : Nat) (x : Prod' spec_l16Hex.l0.ish.tys) : V (spec_l16Hex.C k) .auto (cO (cO (cR (cL (cR (cR (cR (cB Tryd.f18)))))))) (mk spec_l16Hex.l0.ish 30 x) (fun e st' => match e with | .nrm => (rd spec_l16Hex.l0.ish st').bind (spec_l16Hex.l0.F k j) | e => rdOut e st' spec_l16Hex.l0.outs) = spec_l16Hex.l0.F k (j + 1) x := by kernel_rfl
theorem spec_l16Hex.l0.ok (k : Nat) : SumOk Tryd.prog (spec_l16Hex.C k) (.loop (cO (cO (cR (cL (cR (cR (cR (cB Tryd.f18))))))))) (spec_l16Hex.l0.s k) := sum_ok (by kernel_rfl) (sum_loop (p := .auto) (F := spec_l16Hex.l0.F k) (spec_l16Hex.cok k) (by kernel_rfl) (plan_of (L := []) (by kernel_rfl) trivial) (fun _ => rfl) (fun j x y h => (spec_l16Hex.l0.ev k j x).trans h) k rfl)
theorem spec_l16Hex.ev (k : Nat) (x : Prod' spec_l16Hex.sig.ins) : spec_l16Hex.sig.ev (spec_l16Hex.C k) (.two .auto (.two .auto (.two .auto (.two (.two .auto (.one (.sum (spec_l16Hex.l0.s k)))) .auto)))) Tryd.f18.results.toList (cB Tryd.f18) x = spec_l16Hex k x := by kernel_rfl
theorem spec_l16Hex.ok (k : Nat) : ConOk Tryd.prog 18 (spec_l16Hex.con k) := sig_ok (p := (.two .auto (.two .auto (.two .auto (.two (.two .auto (.one (.sum (spec_l16Hex.l0.s k)))) .auto))))) (spec_l16Hex.cok k) Tryd.func18 (by kernel_rfl) (show Tryd.f18.body = some (cB Tryd.f18) by kernel_rfl) (by kernel_rfl) (by kernel_rfl) (plan_of (L := [(spec_l16Hex.l0.s k, cO (cR (cL (cR (cR (cR (cB Tryd.f18)))))))]) (by kernel_rfl) ⟨spec_l16Hex.l0.ok k, trivial⟩) (fun x y h => (spec_l16Hex.ev k x).trans h)
def spec_l01Dec.l0 : Nat → Int → Str → Option (Str)
  | 0, _, _ => none
  | j + 1, a1, a2 =>
    bif a1 != 0 then
      Option.bind (nz? 10) fun v3 =>
      let e4 := IntKind.wrap .i64 (Int.tdiv a1 10)
      bif decide ((Int.tmod a1 10) < 0) then
        Option.bind (cat? (listByte [(IntKind.wrap .u8 (IntKind.wrap .i64 (48 + (IntKind.wrap .i64 (0 - (Int.tmod a1 10))))))]) a2) fun v5 =>
        Option.bind (nz? 10) fun v6 =>
        spec_l01Dec.l0 j e4 v5
      else
      Option.bind (cat? (listByte [(IntKind.wrap .u8 (IntKind.wrap .i64 (48 + (Int.tmod a1 10))))]) a2) fun v7 =>
      Option.bind (nz? 10) fun v8 =>
      spec_l01Dec.l0 j e4 v7
    else
    some a2
def spec_l01Dec (k : Nat) (a1 : Int) : Option (Str) :=
  bif a1 == 0 then
    some ([48] : Str)
  else
  Option.bind (spec_l01Dec.l0 k a1 []) fun y2 =>
  bif decide (a1 < 0) then
    Option.bind (cat? ([45] : Str) y2) fun v3 =>
    some v3
  else
  some y2
def spec_l01Dec.sig : Sig := { ps := [.val false (.int .i64) (ros (.int .i64))], rs := [.val false [.v .str]], ntmps := 31 }
def spec_l01Dec.con (k : Nat) : Con := spec_l01Dec.sig.con (fun x => spec_l01Dec k x)
def spec_l01Dec.C (k : Nat) : Ctx := { ti := TAB, con := conL [] }
theorem spec_l01Dec.cok (k : Nat) : CtxOk Tryd.prog (spec_l01Dec.C k) := ctx_ok TABok trivial
def spec_l01Dec.l0.ish : Shape := { tmps := [(0, .one (.v (.int .i64))), (4, .one (.v .str))], slots := [], nb := 0 }
def spec_l01Dec.l0.outs : List (Ex × Shape) := [(.exit 0, { tmps := [(4, .one (.v .str))], slots := [], nb := 0 })]
def spec_l01Dec.l0.F (k j : Nat) (x : Prod' spec_l01Dec.l0.ish.tys) : Option (Outs spec_l01Dec.l0.outs) := spec_l01Dec.l0 j x.1 x.2
def spec_l01Dec.l0.s (k : Nat) : Summ := { n := 31, ish := spec_l01Dec.l0.ish, outs := spec_l01Dec.l0.outs, f := spec_l01Dec.l0.F k k }
theorem spec_l01Dec.l0.ev (k j : Nat) (x : Prod' spec_l01Dec.l0.ish.tys) : V (spec_l01Dec.C k) .auto (cO (cO (cL (cR (cR (cR (cR (cB Tryd.f27)))))))) (mk spec_l01Dec.l0.ish 31 x) (fun e st' => match e with | .nrm => (rd spec_l01Dec.l0.ish st').bind (spec_l01Dec.l0.F k j) | e => rdOut e st' spec_l01Dec.l0.outs) = spec_l01Dec.l0.F k (j + 1) x := by kernel_rfl
theorem spec_l01Dec.l0.ok (k : Nat) : SumOk Tryd.prog (spec_l01Dec.C k) (.loop (cO (cO (cL (cR (cR (cR (cR (cB Tryd.f27))))))))) (spec_l01Dec.l0.s k) := sum_ok (by kernel_rfl) (sum_loop (p := .auto) (F := spec_l01Dec.l0.F k) (spec_l01Dec.cok k) (by kernel_rfl) (plan_of (L := []) (by kernel_rfl) trivial) (fun _ => rfl) (fun j x y h => (spec_l01Dec.l0.ev k j x).trans h) k rfl)
theorem spec_l01Dec.ev (k : Nat) (x : Prod' spec_l01Dec.sig.ins) : spec_l01Dec.sig.ev (spec_l01Dec.C k) (.two .auto (.two .auto (.two .auto (.two .auto (.two (.one (.sum (spec_l01Dec.l0.s k))) .auto))))) Tryd.f27.results.toList (cB Tryd.f27) x = spec_l01Dec k x := by kernel_rfl
theorem spec_l01Dec.ok (k : Nat) : ConOk Tryd.prog 27 (spec_l01Dec.con k) := sig_ok (p := (.two .auto (.two .auto (.two .auto (.two .auto (.two (.one (.sum (spec_l01Dec.l0.s k))) .auto)))))) (spec_l01Dec.cok k) Tryd.func27 (by kernel_rfl) (show Tryd.f27.body = some (cB Tryd.f27) by kernel_rfl) (by kernel_rfl) (by kernel_rfl) (plan_of (L := [(spec_l01Dec.l0.s k, cO (cL (cR (cR (cR (cR (cB Tryd.f27)))))))]) (by kernel_rfl) ⟨spec_l01Dec.l0.ok k, trivial⟩) (fun x y h => (spec_l01Dec.ev k x).trans h)
def spec_l17Words (a1 : Int) (a2 : Int) : Option (Str) :=
  bif a1 == 2 then
    let e3 := at? ([[], ([122, 101, 114, 111] : Str), ([112, 117, 116] : Str), ([99, 111, 112, 121] : Str), ([120, 111, 114] : Str), ([108, 97, 98, 101, 108] : Str)]) a2
    Option.bind (e3) fun v4 =>
    Option.bind (e3) fun v5 =>
    some v5
  else
  let e6 := at? ([[], ([98, 101, 103, 105, 110] : Str), [], ([102, 105, 110, 105, 115, 104] : Str), ([100, 114, 111, 112] : Str), ([103, 111, 111, 100] : Str), ([102, 111, 108, 100] : Str), ([114, 101, 97, 100] : Str), ([115, 116, 97, 116, 117, 115] : Str), ([104, 111, 108, 100] : Str), ([108, 101, 116] : Str), ([98, 111, 111, 116] : Str)]) a1
  Option.bind (e6) fun v7 =>
  Option.bind (e6) fun v8 =>
  some v8
def spec_l17Words.sig : Sig := { ps := [.val false (.int .i64) (ros (.int .i64)), .val false (.int .i64) (ros (.int .i64))], rs := [.val false [.v .str]], ntmps := 15 }
def spec_l17Words.con (k : Nat) : Con := spec_l17Words.sig.con (fun x => spec_l17Words x.1 x.2)
def spec_l17Words.C (k : Nat) : Ctx := { ti := TAB, con := conL [] }
theorem spec_l17Words.cok (k : Nat) : CtxOk Tryd.prog (spec_l17Words.C k) := ctx_ok TABok trivial
theorem spec_l17Words.ev (k : Nat) (x : Prod' spec_l17Words.sig.ins) : spec_l17Words.sig.ev (spec_l17Words.C k) .auto Tryd.f43.results.toList (cB Tryd.f43) x = spec_l17Words x.1 x.2 := by kernel_rfl
theorem spec_l17Words.ok (k : Nat) : ConOk Tryd.prog 43 (spec_l17Words.con k) := sig_ok (p := .auto) (spec_l17Words.cok k) Tryd.func43 (by kernel_rfl) (show Tryd.f43.body = some (cB Tryd.f43) by kernel_rfl) (by kernel_rfl) (by kernel_rfl) (plan_of (L := []) (by kernel_rfl) trivial) (fun x y h => (spec_l17Words.ev k x).trans h)
def spec_l17Letter.l0 : Nat → Str → Int → Option (Unit ⊕ Int)
  | 0, _, _ => none
  | j + 1, a1, a2 =>
    bif decide (a2 < 8) then
      Option.bind (at? a1 a2) fun v3 =>
      Option.bind (at? a1 0) fun v4 =>
      bif (v3.toNat : Int) != (v4.toNat : Int) then
        some (.inr 0)
      else
      spec_l17Letter.l0 j a1 (IntKind.wrap .i64 (a2 + 1))
    else
    some (.inl ())
def spec_l17Letter (k : Nat) (a1 : Str) : Option (Int) :=
  bif ((a1.length) : Int) != 8 then
    some 0
  else
  Option.bind (at? a1 0) fun v2 =>
  bif decide ((v2.toNat : Int) < 97) then
    some 0
  else
  Option.bind (at? a1 0) fun v3 =>
  bif decide (122 < (v3.toNat : Int)) then
    some 0
  else
  Option.bind (spec_l17Letter.l0 k a1 1) fun
    | .inl y4 =>
      Option.bind (at? a1 0) fun v5 =>
      some (v5.toNat : Int)
    | .inr y6 =>
      some y6
def spec_l17Letter.sig : Sig := { ps := [.val false .str (ros .str)], rs := [.val false [.v (.int .u8)]], ntmps := 29 }
def spec_l17Letter.con (k : Nat) : Con := spec_l17Letter.sig.con (fun x => spec_l17Letter k x)
def spec_l17Letter.C (k : Nat) : Ctx := { ti := TAB, con := conL [] }
theorem spec_l17Letter.cok (k : Nat) : CtxOk Tryd.prog (spec_l17Letter.C k) := ctx_ok TABok trivial
def spec_l17Letter.l0.ish : Shape := { tmps := [(0, .one (.v .str)), (3, .one (.v (.int .i64)))], slots := [], nb := 0 }
def spec_l17Letter.l0.outs : List (Ex × Shape) := [(.exit 0, { tmps := [], slots := [], nb := 0 }), (.ret, { tmps := [(2, .one (.v (.int .u8)))], slots := [], nb := 0 })]
def spec_l17Letter.l0.F (k j : Nat) (x : Prod' spec_l17Letter.l0.ish.tys) : Option (Outs spec_l17Letter.l0.outs) := spec_l17Letter.l0 j x.1 x.2
def spec_l17Letter.l0.s (k : Nat) : Summ := { n := 29, ish := spec_l17Letter.l0.ish, outs := spec_l17Letter.l0.outs, f := spec_l17Letter.l0.F k k }
theorem spec_l17Letter.l0.ev (k j : Nat) (x : Prod' spec_l17Letter.l0.ish.tys) : V (spec_l17Letter.C k) .auto (cO (cO (cR (cL (cR (cR (cB Tryd.f44))))))) (mk spec_l17Letter.l0.ish 29 x) (fun e st' => match e with | .nrm => (rd spec_l17Letter.l0.ish st').bind (spec_l17Letter.l0.F k j) | e => rdOut e st' spec_l17Letter.l0.outs) = spec_l17Letter.l0.F k (j + 1) x := by kernel_rfl
theorem spec_l17Letter.l0.ok (k : Nat) : SumOk Tryd.prog (spec_l17Letter.C k) (.loop (cO (cO (cR (cL (cR (cR (cB Tryd.f44)))))))) (spec_l17Letter.l0.s k) := sum_ok (by kernel_rfl) (sum_loop (p := .auto) (F := spec_l17Letter.l0.F k) (spec_l17Letter.cok k) (by kernel_rfl) (plan_of (L := []) (by kernel_rfl) trivial) (fun _ => rfl) (fun j x y h => (spec_l17Letter.l0.ev k j x).trans h) k rfl)
theorem spec_l17Letter.ev (k : Nat) (x : Prod' spec_l17Letter.sig.ins) : spec_l17Letter.sig.ev (spec_l17Letter.C k) (.two .auto (.two .auto (.two (.two .auto (.one (.sum (spec_l17Letter.l0.s k)))) .auto))) Tryd.f44.results.toList (cB Tryd.f44) x = spec_l17Letter k x := by kernel_rfl
theorem spec_l17Letter.ok (k : Nat) : ConOk Tryd.prog 44 (spec_l17Letter.con k) := sig_ok (p := (.two .auto (.two .auto (.two (.two .auto (.one (.sum (spec_l17Letter.l0.s k)))) .auto)))) (spec_l17Letter.cok k) Tryd.func44 (by kernel_rfl) (show Tryd.f44.body = some (cB Tryd.f44) by kernel_rfl) (by kernel_rfl) (by kernel_rfl) (plan_of (L := [(spec_l17Letter.l0.s k, cO (cR (cL (cR (cR (cB Tryd.f44))))))]) (by kernel_rfl) ⟨spec_l17Letter.l0.ok k, trivial⟩) (fun x y h => (spec_l17Letter.ev k x).trans h)
def spec_l17Cmd.j0 (a1 : Int) : Option (Bool) :=
  bif a1 == 7 then
    some true
  else
  some (a1 == 9)
def spec_l17Cmd.j1 (k : Nat) (a1 : Str) (a2 : Int) (a3 : Int) (a4 : Int) (a5 : Str) : Option ((Str × Int × Int × Int × Str)) :=
  bif a2 != 5 then
    Option.bind (cat? a1 ([32] : Str)) fun v6 =>
    Option.bind (spec_l01Dec k a3) fun v7 =>
    Option.bind (cat? v6 v7) fun v8 =>
    some (v8, a2, a3, a4, a5)
  else
  some (a1, a2, a3, a4, a5)
def spec_l17Cmd.j2 (k : Nat) (a1 : Str) (a2 : Int) (a3 : Int) (a4 : Int) (a5 : Str) : Option ((Str × Int × Int × Int × Str)) :=
  bif decide (3 ≤ a2) then
    Option.bind (cat? a1 ([32] : Str)) fun v6 =>
    Option.bind (spec_l01Dec k a4) fun v7 =>
    Option.bind (cat? v6 v7) fun v8 =>
    some (v8, a2, a3, a4, a5)
  else
  some (a1, a2, a3, a4, a5)
def spec_l17Cmd (k : Nat) (a1 : G46) : Option (Str) :=
  Option.bind (spec_l17Words a1.1 a1.2.2.2.2.1) fun v2 =>
  bif a1.1 == 1 then
    Option.bind (cat? v2 ([32] : Str)) fun v3 =>
    Option.bind (spec_l01Dec k a1.2.1) fun v4 =>
    Option.bind (cat? v3 v4) fun v5 =>
    Option.bind (cat? v5 ([32] : Str)) fun v6 =>
    Option.bind (spec_l01Dec k a1.2.2.1) fun v7 =>
    Option.bind (cat? v6 v7) fun v8 =>
    Option.bind (cat? v8 ([32] : Str)) fun v9 =>
    Option.bind (spec_l16Hex k a1.2.2.2.1) fun v10 =>
    Option.bind (cat? v9 v10) fun v11 =>
    some v11
  else
  Option.bind (spec_l17Cmd.j0 a1.1) fun y12 =>
  bif y12 then
    Option.bind (cat? v2 ([32] : Str)) fun v13 =>
    Option.bind (spec_l01Dec k a1.2.1) fun v14 =>
    Option.bind (cat? v13 v14) fun v15 =>
    some v15
  else
  bif a1.1 == 2 then
    Option.bind (spec_l17Cmd.j1 k v2 a1.2.2.2.2.1 a1.2.2.2.2.2.1 a1.2.2.2.2.2.2.1 a1.2.2.2.2.2.2.2) fun y16 =>
    Option.bind (spec_l17Cmd.j2 k y16.1 y16.2.1 y16.2.2.1 y16.2.2.2.1 y16.2.2.2.2) fun y17 =>
    bif (y17.2.1 == 2) || (y17.2.1 == 4) then
      Option.bind (spec_l17Letter k y17.2.2.2.2) fun v18 =>
      bif v18 == 0 then
        some ([])
      else
      Option.bind (cat? y17.1 ([32] : Str)) fun v19 =>
      Option.bind (cut? y17.2.2.2.2 0 1) fun v20 =>
      Option.bind (cat? v19 v20) fun v21 =>
      some v21
    else
    some y17.1
  else
  some v2
def spec_l17Cmd.sig : Sig := { ps := [.val true T46 (ros T46)], rs := [.val false [.v .str]], ntmps := 82 }
def spec_l17Cmd.con (k : Nat) : Con := spec_l17Cmd.sig.con (fun x => spec_l17Cmd k x)
def spec_l17Cmd.C (k : Nat) : Ctx := { ti := TAB, con := conL [(18, spec_l16Hex.con k), (27, spec_l01Dec.con k), (43, spec_l17Words.con k), (44, spec_l17Letter.con k)] }
theorem spec_l17Cmd.cok (k : Nat) : CtxOk Tryd.prog (spec_l17Cmd.C k) := ctx_ok TABok ⟨spec_l16Hex.ok k, spec_l01Dec.ok k, spec_l17Words.ok k, spec_l17Letter.ok k, trivial⟩
def spec_l17Cmd.j0.ish : Shape := { tmps := [(12, .one (.v (.int .i64)))], slots := [], nb := 1 }
def spec_l17Cmd.j0.outs : List (Ex × Shape) := [(.nrm, { tmps := [(32, .one (.v .bool))], slots := [], nb := 1 })]
def spec_l17Cmd.j0.F (k : Nat) (x : Prod' spec_l17Cmd.j0.ish.tys) : Option (Outs spec_l17Cmd.j0.outs) := spec_l17Cmd.j0 x
def spec_l17Cmd.j0.s (k : Nat) : Summ := { n := 82, ish := spec_l17Cmd.j0.ish, outs := spec_l17Cmd.j0.outs, f := spec_l17Cmd.j0.F k }
theorem spec_l17Cmd.j0.ev (k : Nat) (x : Prod' spec_l17Cmd.j0.ish.tys) : V (spec_l17Cmd.C k) .auto (cL (cR (cR (cO (cR (cL (cR (cR (cB Tryd.f26))))))))) (mk spec_l17Cmd.j0.ish 82 x) (fun e st' => rdOut e st' spec_l17Cmd.j0.outs) = spec_l17Cmd.j0.F k x := by kernel_rfl
theorem spec_l17Cmd.j0.ok (k : Nat) : SumOk Tryd.prog (spec_l17Cmd.C k) (cL (cR (cR (cO (cR (cL (cR (cR (cB Tryd.f26))))))))) (spec_l17Cmd.j0.s k) := sum_ok (by kernel_rfl) (sum_code (p := .auto) (spec_l17Cmd.cok k) (by kernel_rfl) (plan_of (L := []) (by kernel_rfl) trivial) (fun x y h => (spec_l17Cmd.j0.ev k x).trans h))
def spec_l17Cmd.j1.ish : Shape := { tmps := [(3, .one (.v .str)), (4, .one (.ptr 1 0))], slots := [(1, .box 51 [.v (.int .i64), .v (.int .i64), .v (.int .i64), .v .str])], nb := 2 }
def spec_l17Cmd.j1.outs : List (Ex × Shape) := [(.nrm, { tmps := [(3, .one (.v .str))], slots := [(1, .box 51 [.v (.int .i64), .v (.int .i64), .v (.int .i64), .v .str])], nb := 2 })]
def spec_l17Cmd.j1.F (k : Nat) (x : Prod' spec_l17Cmd.j1.ish.tys) : Option (Outs spec_l17Cmd.j1.outs) := spec_l17Cmd.j1 k x.1 x.2.1 x.2.2.1 x.2.2.2.1 x.2.2.2.2
def spec_l17Cmd.j1.s (k : Nat) : Summ := { n := 82, ish := spec_l17Cmd.j1.ish, outs := spec_l17Cmd.j1.outs, f := spec_l17Cmd.j1.F k }
theorem spec_l17Cmd.j1.ev (k : Nat) (x : Prod' spec_l17Cmd.j1.ish.tys) : V (spec_l17Cmd.C k) .auto (cL (cR (cR (cR (cR (cB Tryd.f26)))))) (mk spec_l17Cmd.j1.ish 82 x) (fun e st' => rdOut e st' spec_l17Cmd.j1.outs) = spec_l17Cmd.j1.F k x := by kernel_rfl
theorem spec_l17Cmd.j1.ok (k : Nat) : SumOk Tryd.prog (spec_l17Cmd.C k) (cL (cR (cR (cR (cR (cB Tryd.f26)))))) (spec_l17Cmd.j1.s k) := sum_ok (by kernel_rfl) (sum_code (p := .auto) (spec_l17Cmd.cok k) (by kernel_rfl) (plan_of (L := []) (by kernel_rfl) trivial) (fun x y h => (spec_l17Cmd.j1.ev k x).trans h))
def spec_l17Cmd.j2.ish : Shape := { tmps := [(3, .one (.v .str)), (4, .one (.ptr 1 0))], slots := [(1, .box 51 [.v (.int .i64), .v (.int .i64), .v (.int .i64), .v .str])], nb := 2 }
def spec_l17Cmd.j2.outs : List (Ex × Shape) := [(.nrm, { tmps := [(3, .one (.v .str))], slots := [(1, .box 51 [.v (.int .i64), .v (.int .i64), .v (.int .i64), .v .str])], nb := 2 })]
def spec_l17Cmd.j2.F (k : Nat) (x : Prod' spec_l17Cmd.j2.ish.tys) : Option (Outs spec_l17Cmd.j2.outs) := spec_l17Cmd.j2 k x.1 x.2.1 x.2.2.1 x.2.2.2.1 x.2.2.2.2
def spec_l17Cmd.j2.s (k : Nat) : Summ := { n := 82, ish := spec_l17Cmd.j2.ish, outs := spec_l17Cmd.j2.outs, f := spec_l17Cmd.j2.F k }
theorem spec_l17Cmd.j2.ev (k : Nat) (x : Prod' spec_l17Cmd.j2.ish.tys) : V (spec_l17Cmd.C k) .auto (cL (cR (cR (cR (cR (cR (cB Tryd.f26))))))) (mk spec_l17Cmd.j2.ish 82 x) (fun e st' => rdOut e st' spec_l17Cmd.j2.outs) = spec_l17Cmd.j2.F k x := by kernel_rfl
theorem spec_l17Cmd.j2.ok (k : Nat) : SumOk Tryd.prog (spec_l17Cmd.C k) (cL (cR (cR (cR (cR (cR (cB Tryd.f26))))))) (spec_l17Cmd.j2.s k) := sum_ok (by kernel_rfl) (sum_code (p := .auto) (spec_l17Cmd.cok k) (by kernel_rfl) (plan_of (L := []) (by kernel_rfl) trivial) (fun x y h => (spec_l17Cmd.j2.ev k x).trans h))
theorem spec_l17Cmd.ev (k : Nat) (x : Prod' spec_l17Cmd.sig.ins) : spec_l17Cmd.sig.ev (spec_l17Cmd.C k) (.two .auto (.two .auto (.two (.two .auto (.one (.two .auto (.two .auto (.two (.sum (spec_l17Cmd.j0.s k)) .auto))))) (.two .auto (.two (.sum (spec_l17Cmd.j1.s k)) (.two (.sum (spec_l17Cmd.j2.s k)) .auto)))))) Tryd.f26.results.toList (cB Tryd.f26) x = spec_l17Cmd k x := by kernel_rfl
theorem spec_l17Cmd.ok (k : Nat) : ConOk Tryd.prog 26 (spec_l17Cmd.con k) := sig_ok (p := (.two .auto (.two .auto (.two (.two .auto (.one (.two .auto (.two .auto (.two (.sum (spec_l17Cmd.j0.s k)) .auto))))) (.two .auto (.two (.sum (spec_l17Cmd.j1.s k)) (.two (.sum (spec_l17Cmd.j2.s k)) .auto))))))) (spec_l17Cmd.cok k) Tryd.func26 (by kernel_rfl) (show Tryd.f26.body = some (cB Tryd.f26) by kernel_rfl) (by kernel_rfl) (by kernel_rfl) (plan_of (L := [(spec_l17Cmd.j0.s k, cL (cR (cR (cO (cR (cL (cR (cR (cB Tryd.f26))))))))), (spec_l17Cmd.j1.s k, cL (cR (cR (cR (cR (cB Tryd.f26)))))), (spec_l17Cmd.j2.s k, cL (cR (cR (cR (cR (cR (cB Tryd.f26)))))))]) (by kernel_rfl) ⟨spec_l17Cmd.j0.ok k, spec_l17Cmd.j1.ok k, spec_l17Cmd.j2.ok k, trivial⟩) (fun x y h => (spec_l17Cmd.ev k x).trans h)
def spec_l17Nums.l0 (k : Nat) : Nat → List Int → Str → Int → Option (Str)
  | 0, _, _, _ => none
  | j + 1, a1, a2, a3 =>
    bif decide (a3 < ((a1.length) : Int)) then
      let e4 := IntKind.wrap .i64 (a3 + 1)
      bif decide (0 < a3) then
        Option.bind (cat? a2 ([44] : Str)) fun v5 =>
        Option.bind (at? a1 a3) fun v6 =>
        Option.bind (spec_l01Dec k v6) fun v7 =>
        Option.bind (cat? v5 v7) fun v8 =>
        spec_l17Nums.l0 k j a1 v8 e4
      else
      Option.bind (at? a1 a3) fun v9 =>
      Option.bind (spec_l01Dec k v9) fun v10 =>
      Option.bind (cat? a2 v10) fun v11 =>
      spec_l17Nums.l0 k j a1 v11 e4
    else
    some a2
def spec_l17Nums (k : Nat) (a1 : List Int) : Option (Str) :=
  Option.bind (spec_l17Nums.l0 k k a1 [] 0) fun y2 =>
  bif y2 == [] then
    some ([45] : Str)
  else
  some y2
def spec_l17Nums.sig : Sig := { ps := [.val false (.sl (.int .i64)) (ros (.sl (.int .i64)))], rs := [.val false [.v .str]], ntmps := 25 }
def spec_l17Nums.con (k : Nat) : Con := spec_l17Nums.sig.con (fun x => spec_l17Nums k x)
def spec_l17Nums.C (k : Nat) : Ctx := { ti := TAB, con := conL [(27, spec_l01Dec.con k)] }
theorem spec_l17Nums.cok (k : Nat) : CtxOk Tryd.prog (spec_l17Nums.C k) := ctx_ok TABok ⟨spec_l01Dec.ok k, trivial⟩
def spec_l17Nums.l0.ish : Shape := { tmps := [(0, .one (.bor (.int .i64))), (3, .one (.v .str)), (4, .one (.v (.int .i64)))], slots := [], nb := 0 }
def spec_l17Nums.l0.outs : List (Ex × Shape) := [(.exit 0, { tmps := [(3, .one (.v .str))], slots := [], nb := 0 })]
def spec_l17Nums.l0.F (k j : Nat) (x : Prod' spec_l17Nums.l0.ish.tys) : Option (Outs spec_l17Nums.l0.outs) := spec_l17Nums.l0 k j x.1 x.2.1 x.2.2
def spec_l17Nums.l0.s (k : Nat) : Summ := { n := 25, ish := spec_l17Nums.l0.ish, outs := spec_l17Nums.l0.outs, f := spec_l17Nums.l0.F k k }
theorem spec_l17Nums.l0.ev (k j : Nat) (x : Prod' spec_l17Nums.l0.ish.tys) : V (spec_l17Nums.C k) .auto (cO (cO (cR (cL (cR (cR (cB Tryd.f28))))))) (mk spec_l17Nums.l0.ish 25 x) (fun e st' => match e with | .nrm => (rd spec_l17Nums.l0.ish st').bind (spec_l17Nums.l0.F k j) | e => rdOut e st' spec_l17Nums.l0.outs) = spec_l17Nums.l0.F k (j + 1) x := by kernel_rfl
theorem spec_l17Nums.l0.ok (k : Nat) : SumOk Tryd.prog (spec_l17Nums.C k) (.loop (cO (cO (cR (cL (cR (cR (cB Tryd.f28)))))))) (spec_l17Nums.l0.s k) := sum_ok (by kernel_rfl) (sum_loop (p := .auto) (F := spec_l17Nums.l0.F k) (spec_l17Nums.cok k) (by kernel_rfl) (plan_of (L := []) (by kernel_rfl) trivial) (fun _ => rfl) (fun j x y h => (spec_l17Nums.l0.ev k j x).trans h) k rfl)
theorem spec_l17Nums.ev (k : Nat) (x : Prod' spec_l17Nums.sig.ins) : spec_l17Nums.sig.ev (spec_l17Nums.C k) (.two .auto (.two .auto (.two (.two .auto (.one (.sum (spec_l17Nums.l0.s k)))) .auto))) Tryd.f28.results.toList (cB Tryd.f28) x = spec_l17Nums k x := by kernel_rfl
theorem spec_l17Nums.ok (k : Nat) : ConOk Tryd.prog 28 (spec_l17Nums.con k) := sig_ok (p := (.two .auto (.two .auto (.two (.two .auto (.one (.sum (spec_l17Nums.l0.s k)))) .auto)))) (spec_l17Nums.cok k) Tryd.func28 (by kernel_rfl) (show Tryd.f28.body = some (cB Tryd.f28) by kernel_rfl) (by kernel_rfl) (by kernel_rfl) (plan_of (L := [(spec_l17Nums.l0.s k, cO (cR (cL (cR (cR (cB Tryd.f28))))))]) (by kernel_rfl) ⟨spec_l17Nums.l0.ok k, trivial⟩) (fun x y h => (spec_l17Nums.ev k x).trans h)
def spec_DeedText (k : Nat) (a1 : G48) : Option (Str) :=
  Option.bind (spec_DeedRight k a1) fun v2 =>
  bif !v2 then
    some ([])
  else
  Option.bind (spec_l17Cmd k a1.1) fun v3 =>
  bif (v3 == []) || (decide (a1.2.1 < 0)) then
    some v3
  else
  Option.bind (spec_l01Dec k a1.2.1) fun v4 =>
  Option.bind (cat? ([99, 117, 116, 32] : Str) v4) fun v5 =>
  Option.bind (cat? v5 ([32] : Str)) fun v6 =>
  Option.bind (spec_l17Nums k a1.2.2.1) fun v7 =>
  Option.bind (cat? v6 v7) fun v8 =>
  Option.bind (cat? v8 ([32] : Str)) fun v9 =>
  Option.bind (spec_l17Nums k a1.2.2.2) fun v10 =>
  Option.bind (cat? v9 v10) fun v11 =>
  Option.bind (cat? v11 ([32] : Str)) fun v12 =>
  Option.bind (cat? v12 v3) fun v13 =>
  some v13
def spec_DeedText.sig : Sig := { ps := [.val true T48 (ros T48)], rs := [.val false [.v .str]], ntmps := 35 }
def spec_DeedText.con (k : Nat) : Con := spec_DeedText.sig.con (fun x => spec_DeedText k x)
def spec_DeedText.C (k : Nat) : Ctx := { ti := TAB, con := conL [(25, spec_DeedRight.con k), (26, spec_l17Cmd.con k), (27, spec_l01Dec.con k), (28, spec_l17Nums.con k)], rob := true }
theorem spec_DeedText.cok (k : Nat) : CtxOk Tryd.prog (spec_DeedText.C k) := ctx_ok TABok ⟨spec_DeedRight.ok k, spec_l17Cmd.ok k, spec_l01Dec.ok k, spec_l17Nums.ok k, trivial⟩
theorem spec_DeedText.ev (k : Nat) (x : Prod' spec_DeedText.sig.ins) : spec_DeedText.sig.ev (spec_DeedText.C k) .auto Tryd.f11.results.toList (cB Tryd.f11) x = spec_DeedText k x := by kernel_rfl
theorem spec_DeedText.ok (k : Nat) : ConOk Tryd.prog 11 (spec_DeedText.con k) := sig_ok (p := .auto) (spec_DeedText.cok k) Tryd.func11 (by kernel_rfl) (show Tryd.f11.body = some (cB Tryd.f11) by kernel_rfl) (by kernel_rfl) (by kernel_rfl) (plan_of (L := []) (by kernel_rfl) trivial) (fun x y h => (spec_DeedText.ev k x).trans h)
def laws_toInt64S.l0 : Nat → List Int → Int → List Int → Option ((List Int))
  | 0, _, _, _ => none
  | j + 1, a1, a2, a3 =>
    bif decide (a2 < ((a1.length) : Int)) then
      Option.bind (at? a1 a2) fun v4 =>
      Option.bind (at? a3 a2) fun v5 =>
      Option.bind (at? a3 a2) fun v6 =>
      laws_toInt64S.l0 j a1 (IntKind.wrap .i64 (a2 + 1)) (List.set a3 (Int.toNat a2) v4)
    else
    some a3
def laws_toInt64S (k : Nat) (a1 : List Int) : Option (List Int) :=
  Option.bind (make? 8 ((a1.length) : Int) ((a1.length) : Int) 0) fun v2 =>
  Option.bind (laws_toInt64S.l0 k a1 0 v2) fun y3 =>
  some y3
def laws_toInt64S.sig : Sig := { ps := [.val false (.sl (.int .i64)) (ros (.sl (.int .i64)))], rs := [.val false [.own 2 (.int .i64)]], ntmps := 22 }
def laws_toInt64S.con (k : Nat) : Con := laws_toInt64S.sig.con (fun x => laws_toInt64S k x)
def laws_toInt64S.C (k : Nat) : Ctx := { ti := TAB, con := conL [] }
theorem laws_toInt64S.cok (k : Nat) : CtxOk Tryd.prog (laws_toInt64S.C k) := ctx_ok TABok trivial
def laws_toInt64S.l0.ish : Shape := { tmps := [(0, .one (.bor (.int .i64))), (3, .one (.own 1)), (4, .one (.v (.int .i64)))], slots := [(1, .arr false 2 (.int .i64))], nb := 2 }
def laws_toInt64S.l0.outs : List (Ex × Shape) := [(.exit 0, { tmps := [(3, .one (.own 2))], slots := [(2, .arr false 2 (.int .i64))], nb := 3 })]
def laws_toInt64S.l0.F (k j : Nat) (x : Prod' laws_toInt64S.l0.ish.tys) : Option (Outs laws_toInt64S.l0.outs) := laws_toInt64S.l0 j x.1 x.2.1 x.2.2
def laws_toInt64S.l0.s (k : Nat) : Summ := { n := 22, ish := laws_toInt64S.l0.ish, outs := laws_toInt64S.l0.outs, f := laws_toInt64S.l0.F k k }
theorem laws_toInt64S.l0.ev (k j : Nat) (x : Prod' laws_toInt64S.l0.ish.tys) : V (laws_toInt64S.C k) .auto (cO (cO (cR (cL (cR (cR (cB Tryd.f20))))))) (mk laws_toInt64S.l0.ish 22 x) (fun e st' => match e with | .nrm => (rd laws_toInt64S.l0.ish st').bind (laws_toInt64S.l0.F k j) | e => rdOut e st' laws_toInt64S.l0.outs) = laws_toInt64S.l0.F k (j + 1) x := by kernel_rfl
theorem laws_toInt64S.l0.ok (k : Nat) : SumOk Tryd.prog (laws_toInt64S.C k) (.loop (cO (cO (cR (cL (cR (cR (cB Tryd.f20)))))))) (laws_toInt64S.l0.s k) := sum_ok (by kernel_rfl) (sum_loop (p := .auto) (F := laws_toInt64S.l0.F k) (laws_toInt64S.cok k) (by kernel_rfl) (plan_of (L := []) (by kernel_rfl) trivial) (fun _ => rfl) (fun j x y h => (laws_toInt64S.l0.ev k j x).trans h) k rfl)
theorem laws_toInt64S.ev (k : Nat) (x : Prod' laws_toInt64S.sig.ins) : laws_toInt64S.sig.ev (laws_toInt64S.C k) (.two .auto (.two .auto (.two (.two .auto (.one (.sum (laws_toInt64S.l0.s k)))) .auto))) Tryd.f20.results.toList (cB Tryd.f20) x = laws_toInt64S k x := by kernel_rfl
theorem laws_toInt64S.ok (k : Nat) : ConOk Tryd.prog 20 (laws_toInt64S.con k) := sig_ok (p := (.two .auto (.two .auto (.two (.two .auto (.one (.sum (laws_toInt64S.l0.s k)))) .auto)))) (laws_toInt64S.cok k) Tryd.func20 (by kernel_rfl) (show Tryd.f20.body = some (cB Tryd.f20) by kernel_rfl) (by kernel_rfl) (by kernel_rfl) (plan_of (L := [(laws_toInt64S.l0.s k, cO (cR (cL (cR (cR (cB Tryd.f20))))))]) (by kernel_rfl) ⟨laws_toInt64S.l0.ok k, trivial⟩) (fun x y h => (laws_toInt64S.ev k x).trans h)
def laws_toStep (a1 : G44) : Option (Int × Int × Int × Str) :=
  some (a1.1, a1.2.1, a1.2.2.1, a1.2.2.2)
def laws_toStep.sig : Sig := { ps := [.val true T44 (ros T44)], rs := [.val true [.v (.int .i64), .v (.int .i64), .v (.int .i64), .v .str]], ntmps := 17 }
def laws_toStep.con (k : Nat) : Con := laws_toStep.sig.con (fun x => laws_toStep x)
def laws_toStep.C (k : Nat) : Ctx := { ti := TAB, con := conL [] }
theorem laws_toStep.cok (k : Nat) : CtxOk Tryd.prog (laws_toStep.C k) := ctx_ok TABok trivial
theorem laws_toStep.ev (k : Nat) (x : Prod' laws_toStep.sig.ins) : laws_toStep.sig.ev (laws_toStep.C k) .auto Tryd.f45.results.toList (cB Tryd.f45) x = laws_toStep x := by kernel_rfl
theorem laws_toStep.ok (k : Nat) : ConOk Tryd.prog 45 (laws_toStep.con k) := sig_ok (p := .auto) (laws_toStep.cok k) Tryd.func45 (by kernel_rfl) (show Tryd.f45.body = some (cB Tryd.f45) by kernel_rfl) (by kernel_rfl) (by kernel_rfl) (plan_of (L := []) (by kernel_rfl) trivial) (fun x y h => (laws_toStep.ev k x).trans h)
def laws_toCmd (a1 : G46) : Option (Int × Int × Int × Str × Int × Int × Int × Str) :=
  Option.bind (laws_toStep a1.2.2.2.2) fun v2 =>
  some (a1.1, a1.2.1, a1.2.2.1, a1.2.2.2.1, v2.1, v2.2.1, v2.2.2.1, v2.2.2.2)
def laws_toCmd.sig : Sig := { ps := [.val true T46 (ros T46)], rs := [.val true [.v (.int .i64), .v (.int .i64), .v (.int .i64), .v .str, .v (.int .i64), .v (.int .i64), .v (.int .i64), .v .str]], ntmps := 21 }
def laws_toCmd.con (k : Nat) : Con := laws_toCmd.sig.con (fun x => laws_toCmd x)
def laws_toCmd.C (k : Nat) : Ctx := { ti := TAB, con := conL [(45, laws_toStep.con k)] }
theorem laws_toCmd.cok (k : Nat) : CtxOk Tryd.prog (laws_toCmd.C k) := ctx_ok TABok ⟨laws_toStep.ok k, trivial⟩
theorem laws_toCmd.ev (k : Nat) (x : Prod' laws_toCmd.sig.ins) : laws_toCmd.sig.ev (laws_toCmd.C k) .auto Tryd.f29.results.toList (cB Tryd.f29) x = laws_toCmd x := by kernel_rfl
theorem laws_toCmd.ok (k : Nat) : ConOk Tryd.prog 29 (laws_toCmd.con k) := sig_ok (p := .auto) (laws_toCmd.cok k) Tryd.func29 (by kernel_rfl) (show Tryd.f29.body = some (cB Tryd.f29) by kernel_rfl) (by kernel_rfl) (by kernel_rfl) (plan_of (L := []) (by kernel_rfl) trivial) (fun x y h => (laws_toCmd.ev k x).trans h)
def laws_toDeed (k : Nat) (a1 : G48) : Option (Int × Int × Int × Str × Int × Int × Int × Str × Int × List Int × List Int) :=
  Option.bind (laws_toCmd a1.1) fun v2 =>
  Option.bind (laws_toInt64S k a1.2.2.1) fun v3 =>
  Option.bind (laws_toInt64S k a1.2.2.2) fun v4 =>
  some (v2.1, v2.2.1, v2.2.2.1, v2.2.2.2.1, v2.2.2.2.2.1, v2.2.2.2.2.2.1, v2.2.2.2.2.2.2.1, v2.2.2.2.2.2.2.2, a1.2.1, v3, v4)
def laws_toDeed.sig : Sig := { ps := [.val true T48 (ros T48)], rs := [.val true [.v (.int .i64), .v (.int .i64), .v (.int .i64), .v .str, .v (.int .i64), .v (.int .i64), .v (.int .i64), .v .str, .v (.int .i64), .own 2 (.int .i64), .own 2 (.int .i64)]], ntmps := 20 }
def laws_toDeed.con (k : Nat) : Con := laws_toDeed.sig.con (fun x => laws_toDeed k x)
def laws_toDeed.C (k : Nat) : Ctx := { ti := TAB, con := conL [(20, laws_toInt64S.con k), (29, laws_toCmd.con k)], rob := true }
theorem laws_toDeed.cok (k : Nat) : CtxOk Tryd.prog (laws_toDeed.C k) := ctx_ok TABok ⟨laws_toInt64S.ok k, laws_toCmd.ok k, trivial⟩
theorem laws_toDeed.ev (k : Nat) (x : Prod' laws_toDeed.sig.ins) : laws_toDeed.sig.ev (laws_toDeed.C k) .auto Tryd.f12.results.toList (cB Tryd.f12) x = laws_toDeed k x := by kernel_rfl
theorem laws_toDeed.ok (k : Nat) : ConOk Tryd.prog 12 (laws_toDeed.con k) := sig_ok (p := .auto) (laws_toDeed.cok k) Tryd.func12 (by kernel_rfl) (show Tryd.f12.body = some (cB Tryd.f12) by kernel_rfl) (by kernel_rfl) (by kernel_rfl) (plan_of (L := []) (by kernel_rfl) trivial) (fun x y h => (laws_toDeed.ev k x).trans h)
def impl_within (a1 : Int) (a2 : Int) (a3 : Int) : Option (Bool) :=
  some ((decide (a2 ≤ a1)) && (decide (a1 ≤ a3)))
def impl_within.sig : Sig := { ps := [.val false (.int .i64) (ros (.int .i64)), .val false (.int .i64) (ros (.int .i64)), .val false (.int .i64) (ros (.int .i64))], rs := [.val false [.v .bool]], ntmps := 15 }
def impl_within.con (k : Nat) : Con := impl_within.sig.con (fun x => impl_within x.1 x.2.1 x.2.2)
def impl_within.C (k : Nat) : Ctx := { ti := TAB, con := conL [] }
theorem impl_within.cok (k : Nat) : CtxOk Tryd.prog (impl_within.C k) := ctx_ok TABok trivial
theorem impl_within.ev (k : Nat) (x : Prod' impl_within.sig.ins) : impl_within.sig.ev (impl_within.C k) .auto Tryd.f47.results.toList (cB Tryd.f47) x = impl_within x.1 x.2.1 x.2.2 := by kernel_rfl
theorem impl_within.ok (k : Nat) : ConOk Tryd.prog 47 (impl_within.con k) := sig_ok (p := .auto) (impl_within.cok k) Tryd.func47 (by kernel_rfl) (show Tryd.f47.body = some (cB Tryd.f47) by kernel_rfl) (by kernel_rfl) (by kernel_rfl) (plan_of (L := []) (by kernel_rfl) trivial) (fun x y h => (impl_within.ev k x).trans h)
def impl_isTime (a1 : Int) : Option (Bool) :=
  Option.bind (impl_within a1 0 1000000) fun v2 =>
  some v2
def impl_isTime.sig : Sig := { ps := [.val false (.int .i64) (ros (.int .i64))], rs := [.val false [.v .bool]], ntmps := 5 }
def impl_isTime.con (k : Nat) : Con := impl_isTime.sig.con (fun x => impl_isTime x)
def impl_isTime.C (k : Nat) : Ctx := { ti := TAB, con := conL [(47, impl_within.con k)] }
theorem impl_isTime.cok (k : Nat) : CtxOk Tryd.prog (impl_isTime.C k) := ctx_ok TABok ⟨impl_within.ok k, trivial⟩
theorem impl_isTime.ev (k : Nat) (x : Prod' impl_isTime.sig.ins) : impl_isTime.sig.ev (impl_isTime.C k) .auto Tryd.f63.results.toList (cB Tryd.f63) x = impl_isTime x := by kernel_rfl
theorem impl_isTime.ok (k : Nat) : ConOk Tryd.prog 63 (impl_isTime.con k) := sig_ok (p := .auto) (impl_isTime.cok k) Tryd.func63 (by kernel_rfl) (show Tryd.f63.body = some (cB Tryd.f63) by kernel_rfl) (by kernel_rfl) (by kernel_rfl) (plan_of (L := []) (by kernel_rfl) trivial) (fun x y h => (impl_isTime.ev k x).trans h)
def impl_isStep.j0 (a1 : Int) (a2 : Bool) (a3 : Int) (a4 : Int) (a5 : Int) (a6 : Str) : Option ((Bool × Int × Int × Int × Str)) :=
  bif (a3 == 3) || (a3 == 4) then
    Option.bind (impl_within a5 0 (IntKind.wrap .i64 (a1 - 1))) fun v7 =>
    some (v7, a3, a4, a5, a6)
  else
  some (a2, a3, a4, a5, a6)
def impl_isStep.j1 (a1 : Bool) (a2 : Int) (a3 : Int) (a4 : Int) (a5 : Str) : Option ((Bool × Int × Int × Int × Str)) :=
  bif (a2 == 2) || (a2 == 4) then
    some (((a5.length) : Int) == 8, a2, a3, a4, a5)
  else
  some (a1, a2, a3, a4, a5)
def impl_isStep (a1 : G44) (a2 : Int) : Option (Bool) :=
  Option.bind (impl_within a1.2.1 0 (IntKind.wrap .i64 (a2 - 1))) fun v3 =>
  Option.bind (impl_isStep.j0 a2 (a1.2.2.1 == 0) a1.1 a1.2.1 a1.2.2.1 a1.2.2.2) fun y4 =>
  Option.bind (impl_isStep.j1 (a1.2.2.2 == []) y4.2.1 y4.2.2.1 y4.2.2.2.1 y4.2.2.2.2) fun y5 =>
  bif y5.2.1 == 5 then
    Option.bind (impl_isTime y5.2.2.2.1) fun v6 =>
    Option.bind (impl_within y5.2.1 1 5) fun v7 =>
    some (((v7 && (y5.2.2.1 == 0)) && v6) && y5.1)
  else
  Option.bind (impl_within y5.2.1 1 5) fun v8 =>
  some (((v8 && v3) && y4.1) && y5.1)
def impl_isStep.sig : Sig := { ps := [.val true T44 (ros T44), .val false (.int .i64) (ros (.int .i64))], rs := [.val false [.v .bool]], ntmps := 65 }
def impl_isStep.con (k : Nat) : Con := impl_isStep.sig.con (fun x => impl_isStep x.1 x.2)
def impl_isStep.C (k : Nat) : Ctx := { ti := TAB, con := conL [(47, impl_within.con k), (63, impl_isTime.con k)] }
theorem impl_isStep.cok (k : Nat) : CtxOk Tryd.prog (impl_isStep.C k) := ctx_ok TABok ⟨impl_within.ok k, impl_isTime.ok k, trivial⟩
def impl_isStep.j0.ish : Shape := { tmps := [(1, .one (.v (.int .i64))), (2, .one (.ptr 0 0)), (6, .one (.v .bool))], slots := [(0, .box 51 [.v (.int .i64), .v (.int .i64), .v (.int .i64), .v .str])], nb := 1 }
def impl_isStep.j0.outs : List (Ex × Shape) := [(.nrm, { tmps := [(6, .one (.v .bool))], slots := [(0, .box 51 [.v (.int .i64), .v (.int .i64), .v (.int .i64), .v .str])], nb := 1 })]
def impl_isStep.j0.F (k : Nat) (x : Prod' impl_isStep.j0.ish.tys) : Option (Outs impl_isStep.j0.outs) := impl_isStep.j0 x.1 x.2.1 x.2.2.1 x.2.2.2.1 x.2.2.2.2.1 x.2.2.2.2.2
def impl_isStep.j0.s (k : Nat) : Summ := { n := 65, ish := impl_isStep.j0.ish, outs := impl_isStep.j0.outs, f := impl_isStep.j0.F k }
theorem impl_isStep.j0.ev (k : Nat) (x : Prod' impl_isStep.j0.ish.tys) : V (impl_isStep.C k) .auto (cL (cR (cR (cB Tryd.f62)))) (mk impl_isStep.j0.ish 65 x) (fun e st' => rdOut e st' impl_isStep.j0.outs) = impl_isStep.j0.F k x := by kernel_rfl
theorem impl_isStep.j0.ok (k : Nat) : SumOk Tryd.prog (impl_isStep.C k) (cL (cR (cR (cB Tryd.f62)))) (impl_isStep.j0.s k) := sum_ok (by kernel_rfl) (sum_code (p := .auto) (impl_isStep.cok k) (by kernel_rfl) (plan_of (L := []) (by kernel_rfl) trivial) (fun x y h => (impl_isStep.j0.ev k x).trans h))
def impl_isStep.j1.ish : Shape := { tmps := [(2, .one (.ptr 0 0)), (7, .one (.v .bool))], slots := [(0, .box 51 [.v (.int .i64), .v (.int .i64), .v (.int .i64), .v .str])], nb := 1 }
def impl_isStep.j1.outs : List (Ex × Shape) := [(.nrm, { tmps := [(7, .one (.v .bool))], slots := [(0, .box 51 [.v (.int .i64), .v (.int .i64), .v (.int .i64), .v .str])], nb := 1 })]
def impl_isStep.j1.F (k : Nat) (x : Prod' impl_isStep.j1.ish.tys) : Option (Outs impl_isStep.j1.outs) := impl_isStep.j1 x.1 x.2.1 x.2.2.1 x.2.2.2.1 x.2.2.2.2
def impl_isStep.j1.s (k : Nat) : Summ := { n := 65, ish := impl_isStep.j1.ish, outs := impl_isStep.j1.outs, f := impl_isStep.j1.F k }
theorem impl_isStep.j1.ev (k : Nat) (x : Prod' impl_isStep.j1.ish.tys) : V (impl_isStep.C k) .auto (cL (cR (cR (cR (cB Tryd.f62))))) (mk impl_isStep.j1.ish 65 x) (fun e st' => rdOut e st' impl_isStep.j1.outs) = impl_isStep.j1.F k x := by kernel_rfl
theorem impl_isStep.j1.ok (k : Nat) : SumOk Tryd.prog (impl_isStep.C k) (cL (cR (cR (cR (cB Tryd.f62))))) (impl_isStep.j1.s k) := sum_ok (by kernel_rfl) (sum_code (p := .auto) (impl_isStep.cok k) (by kernel_rfl) (plan_of (L := []) (by kernel_rfl) trivial) (fun x y h => (impl_isStep.j1.ev k x).trans h))
theorem impl_isStep.ev (k : Nat) (x : Prod' impl_isStep.sig.ins) : impl_isStep.sig.ev (impl_isStep.C k) (.two .auto (.two .auto (.two (.sum (impl_isStep.j0.s k)) (.two (.sum (impl_isStep.j1.s k)) .auto)))) Tryd.f62.results.toList (cB Tryd.f62) x = impl_isStep x.1 x.2 := by kernel_rfl
theorem impl_isStep.ok (k : Nat) : ConOk Tryd.prog 62 (impl_isStep.con k) := sig_ok (p := (.two .auto (.two .auto (.two (.sum (impl_isStep.j0.s k)) (.two (.sum (impl_isStep.j1.s k)) .auto))))) (impl_isStep.cok k) Tryd.func62 (by kernel_rfl) (show Tryd.f62.body = some (cB Tryd.f62) by kernel_rfl) (by kernel_rfl) (by kernel_rfl) (plan_of (L := [(impl_isStep.j0.s k, cL (cR (cR (cB Tryd.f62)))), (impl_isStep.j1.s k, cL (cR (cR (cR (cB Tryd.f62)))))]) (by kernel_rfl) ⟨impl_isStep.j0.ok k, impl_isStep.j1.ok k, trivial⟩) (fun x y h => (impl_isStep.ev k x).trans h)
def impl_isCmd (a1 : G46) : Option (Bool) :=
  let e2 := (a1.2.2.2.2.1 == 0) && ((a1.2.2.2.2.2.1 == 0) && ((a1.2.2.2.2.2.2.1 == 0) && (a1.2.2.2.2.2.2.2 == [])))
  bif a1.1 == 1 then
    Option.bind (impl_within a1.2.1 1 20) fun v3 =>
    Option.bind (impl_within a1.2.2.1 0 4) fun v4 =>
    Option.bind (impl_within a1.1 1 11) fun v5 =>
    some ((((v5 && v3) && v4) && (((a1.2.2.2.1.length) : Int) == 32)) && e2)
  else
  let e6 := a1.2.1 == 0
  let e7 := a1.2.2.1 == 0
  let e8 := a1.2.2.2.1 == []
  bif a1.1 == 2 then
    Option.bind (impl_isStep a1.2.2.2.2 8) fun v9 =>
    Option.bind (impl_within a1.1 1 11) fun v10 =>
    some ((((v10 && e6) && e7) && e8) && v9)
  else
  bif a1.1 == 9 then
    Option.bind (impl_within a1.2.1 1 24) fun v11 =>
    Option.bind (impl_within a1.1 1 11) fun v12 =>
    some ((((v12 && v11) && e7) && e8) && e2)
  else
  bif a1.1 == 7 then
    Option.bind (impl_isTime a1.2.1) fun v13 =>
    Option.bind (impl_within a1.1 1 11) fun v14 =>
    some ((((v14 && v13) && e7) && e8) && e2)
  else
  Option.bind (impl_within a1.1 1 11) fun v15 =>
  some ((((v15 && e6) && e7) && e8) && e2)
def impl_isCmd.sig : Sig := { ps := [.val true T46 (ros T46)], rs := [.val false [.v .bool]], ntmps := 64 }
def impl_isCmd.con (k : Nat) : Con := impl_isCmd.sig.con (fun x => impl_isCmd x)
def impl_isCmd.C (k : Nat) : Ctx := { ti := TAB, con := conL [(47, impl_within.con k), (62, impl_isStep.con k), (63, impl_isTime.con k)] }
theorem impl_isCmd.cok (k : Nat) : CtxOk Tryd.prog (impl_isCmd.C k) := ctx_ok TABok ⟨impl_within.ok k, impl_isStep.ok k, impl_isTime.ok k, trivial⟩
theorem impl_isCmd.ev (k : Nat) (x : Prod' impl_isCmd.sig.ins) : impl_isCmd.sig.ev (impl_isCmd.C k) .auto Tryd.f46.results.toList (cB Tryd.f46) x = impl_isCmd x := by kernel_rfl
theorem impl_isCmd.ok (k : Nat) : ConOk Tryd.prog 46 (impl_isCmd.con k) := sig_ok (p := .auto) (impl_isCmd.cok k) Tryd.func46 (by kernel_rfl) (show Tryd.f46.body = some (cB Tryd.f46) by kernel_rfl) (by kernel_rfl) (by kernel_rfl) (plan_of (L := []) (by kernel_rfl) trivial) (fun x y h => (impl_isCmd.ev k x).trans h)
def impl_isDeed_2 (a1 : Int) : Option (Bool) :=
  Option.bind (impl_within a1 0 50) fun v2 =>
  some (!v2)
def impl_isDeed_2.sig : Sig := { ps := [.val false (.int .i64) (ros (.int .i64))], rs := [.val false [.v .bool]], ntmps := 6 }
def impl_isDeed_2.con (k : Nat) : Con := impl_isDeed_2.sig.con (fun x => impl_isDeed_2 x)
def impl_isDeed_2.C (k : Nat) : Ctx := { ti := TAB, con := conL [(47, impl_within.con k)] }
theorem impl_isDeed_2.cok (k : Nat) : CtxOk Tryd.prog (impl_isDeed_2.C k) := ctx_ok TABok ⟨impl_within.ok k, trivial⟩
theorem impl_isDeed_2.ev (k : Nat) (x : Prod' impl_isDeed_2.sig.ins) : impl_isDeed_2.sig.ev (impl_isDeed_2.C k) .auto Tryd.f50.results.toList (cB Tryd.f50) x = impl_isDeed_2 x := by kernel_rfl
theorem impl_isDeed_2.ok (k : Nat) : ConOk Tryd.prog 50 (impl_isDeed_2.con k) := sig_ok (p := .auto) (impl_isDeed_2.cok k) Tryd.func50 (by kernel_rfl) (show Tryd.f50.body = some (cB Tryd.f50) by kernel_rfl) (by kernel_rfl) (by kernel_rfl) (plan_of (L := []) (by kernel_rfl) trivial) (fun x y h => (impl_isDeed_2.ev k x).trans h)
def slices_IndexFunc_int64_isDeed_2.l0 : Nat → List Int → Int → Int → Option (Unit ⊕ Int)
  | 0, _, _, _ => none
  | j + 1, a1, a2, a3 =>
    bif decide (a3 < a2) then
      Option.bind (at? a1 a3) fun v4 =>
      Option.bind (impl_isDeed_2 v4) fun v5 =>
      bif v5 then
        some (.inr a3)
      else
      slices_IndexFunc_int64_isDeed_2.l0 j a1 a2 (IntKind.wrap .i64 (a3 + 1))
    else
    some (.inl ())
def slices_IndexFunc_int64_isDeed_2 (k : Nat) (a1 : List Int) : Option (Int) :=
  Option.bind (slices_IndexFunc_int64_isDeed_2.l0 k a1 ((a1.length) : Int) 0) fun
    | .inl y2 =>
      some (-1)
    | .inr y3 =>
      some y3
def slices_IndexFunc_int64_isDeed_2.sig : Sig := { ps := [.val false (.sl (.int .i64)) (ros (.sl (.int .i64))), .fn 50 []], rs := [.val false [.v (.int .i64)]], ntmps := 19 }
def slices_IndexFunc_int64_isDeed_2.con (k : Nat) : Con := slices_IndexFunc_int64_isDeed_2.sig.con (fun x => slices_IndexFunc_int64_isDeed_2 k x)
def slices_IndexFunc_int64_isDeed_2.C (k : Nat) : Ctx := { ti := TAB, con := conL [(50, impl_isDeed_2.con k)] }
theorem slices_IndexFunc_int64_isDeed_2.cok (k : Nat) : CtxOk Tryd.prog (slices_IndexFunc_int64_isDeed_2.C k) := ctx_ok TABok ⟨impl_isDeed_2.ok k, trivial⟩
def slices_IndexFunc_int64_isDeed_2.l0.ish : Shape := { tmps := [(0, .one (.bor (.int .i64))), (1, .fn 50 []), (7, .one (.v (.int .i64))), (8, .one (.v (.int .i64)))], slots := [], nb := 0 }
def slices_IndexFunc_int64_isDeed_2.l0.outs : List (Ex × Shape) := [(.exit 0, { tmps := [], slots := [], nb := 0 }), (.ret, { tmps := [(4, .one (.v (.int .i64)))], slots := [], nb := 0 })]
def slices_IndexFunc_int64_isDeed_2.l0.F (k j : Nat) (x : Prod' slices_IndexFunc_int64_isDeed_2.l0.ish.tys) : Option (Outs slices_IndexFunc_int64_isDeed_2.l0.outs) := slices_IndexFunc_int64_isDeed_2.l0 j x.1 x.2.1 x.2.2
def slices_IndexFunc_int64_isDeed_2.l0.s (k : Nat) : Summ := { n := 19, ish := slices_IndexFunc_int64_isDeed_2.l0.ish, outs := slices_IndexFunc_int64_isDeed_2.l0.outs, f := slices_IndexFunc_int64_isDeed_2.l0.F k k }
theorem slices_IndexFunc_int64_isDeed_2.l0.ev (k j : Nat) (x : Prod' slices_IndexFunc_int64_isDeed_2.l0.ish.tys) : V (slices_IndexFunc_int64_isDeed_2.C k) .auto (cO (cO (cR (cL (cR (cB Tryd.f64)))))) (mk slices_IndexFunc_int64_isDeed_2.l0.ish 19 x) (fun e st' => match e with | .nrm => (rd slices_IndexFunc_int64_isDeed_2.l0.ish st').bind (slices_IndexFunc_int64_isDeed_2.l0.F k j) | e => rdOut e st' slices_IndexFunc_int64_isDeed_2.l0.outs) = slices_IndexFunc_int64_isDeed_2.l0.F k (j + 1) x := by kernel_rfl
theorem slices_IndexFunc_int64_isDeed_2.l0.ok (k : Nat) : SumOk Tryd.prog (slices_IndexFunc_int64_isDeed_2.C k) (.loop (cO (cO (cR (cL (cR (cB Tryd.f64))))))) (slices_IndexFunc_int64_isDeed_2.l0.s k) := sum_ok (by kernel_rfl) (sum_loop (p := .auto) (F := slices_IndexFunc_int64_isDeed_2.l0.F k) (slices_IndexFunc_int64_isDeed_2.cok k) (by kernel_rfl) (plan_of (L := []) (by kernel_rfl) trivial) (fun _ => rfl) (fun j x y h => (slices_IndexFunc_int64_isDeed_2.l0.ev k j x).trans h) k rfl)
theorem slices_IndexFunc_int64_isDeed_2.ev (k : Nat) (x : Prod' slices_IndexFunc_int64_isDeed_2.sig.ins) : slices_IndexFunc_int64_isDeed_2.sig.ev (slices_IndexFunc_int64_isDeed_2.C k) (.two .auto (.two (.two .auto (.one (.sum (slices_IndexFunc_int64_isDeed_2.l0.s k)))) .auto)) Tryd.f64.results.toList (cB Tryd.f64) x = slices_IndexFunc_int64_isDeed_2 k x := by kernel_rfl
theorem slices_IndexFunc_int64_isDeed_2.ok (k : Nat) : ConOk Tryd.prog 64 (slices_IndexFunc_int64_isDeed_2.con k) := sig_ok (p := (.two .auto (.two (.two .auto (.one (.sum (slices_IndexFunc_int64_isDeed_2.l0.s k)))) .auto))) (slices_IndexFunc_int64_isDeed_2.cok k) Tryd.func64 (by kernel_rfl) (show Tryd.f64.body = some (cB Tryd.f64) by kernel_rfl) (by kernel_rfl) (by kernel_rfl) (plan_of (L := [(slices_IndexFunc_int64_isDeed_2.l0.s k, cO (cR (cL (cR (cB Tryd.f64)))))]) (by kernel_rfl) ⟨slices_IndexFunc_int64_isDeed_2.l0.ok k, trivial⟩) (fun x y h => (slices_IndexFunc_int64_isDeed_2.ev k x).trans h)
end Go.Proofs.YtaajcllchbnjiaaDoorE

namespace Go.Proofs.YtaajcllchbnjiaaDoorE
open Go Go.RowKit
set_option linter.unusedVariables false
def slices_ContainsFunc_int64_isDeed_2 (k : Nat) (a1 : List Int) : Option (Bool) :=
  Option.bind (slices_IndexFunc_int64_isDeed_2 k a1) fun v2 =>
  some (decide (0 ≤ v2))
def slices_ContainsFunc_int64_isDeed_2.sig : Sig := { ps := [.val false (.sl (.int .i64)) (ros (.sl (.int .i64))), .fn 50 []], rs := [.val false [.v .bool]], ntmps := 9 }
def slices_ContainsFunc_int64_isDeed_2.con (k : Nat) : Con := slices_ContainsFunc_int64_isDeed_2.sig.con (fun x => slices_ContainsFunc_int64_isDeed_2 k x)
def slices_ContainsFunc_int64_isDeed_2.C (k : Nat) : Ctx := { ti := TAB, con := conL [(64, slices_IndexFunc_int64_isDeed_2.con k)] }
theorem slices_ContainsFunc_int64_isDeed_2.cok (k : Nat) : CtxOk Tryd.prog (slices_ContainsFunc_int64_isDeed_2.C k) := ctx_ok TABok ⟨slices_IndexFunc_int64_isDeed_2.ok k, trivial⟩
theorem slices_ContainsFunc_int64_isDeed_2.ev (k : Nat) (x : Prod' slices_ContainsFunc_int64_isDeed_2.sig.ins) : slices_ContainsFunc_int64_isDeed_2.sig.ev (slices_ContainsFunc_int64_isDeed_2.C k) .auto Tryd.f48.results.toList (cB Tryd.f48) x = slices_ContainsFunc_int64_isDeed_2 k x := by kernel_rfl
theorem slices_ContainsFunc_int64_isDeed_2.ok (k : Nat) : ConOk Tryd.prog 48 (slices_ContainsFunc_int64_isDeed_2.con k) := sig_ok (p := .auto) (slices_ContainsFunc_int64_isDeed_2.cok k) Tryd.func48 (by kernel_rfl) (show Tryd.f48.body = some (cB Tryd.f48) by kernel_rfl) (by kernel_rfl) (by kernel_rfl) (plan_of (L := []) (by kernel_rfl) trivial) (fun x y h => (slices_ContainsFunc_int64_isDeed_2.ev k x).trans h)
def impl_isDeed_1 (a1 : Int) : Option (Bool) :=
  Option.bind (impl_within a1 0 200) fun v2 =>
  some (!v2)
def impl_isDeed_1.sig : Sig := { ps := [.val false (.int .i64) (ros (.int .i64))], rs := [.val false [.v .bool]], ntmps := 6 }
def impl_isDeed_1.con (k : Nat) : Con := impl_isDeed_1.sig.con (fun x => impl_isDeed_1 x)
def impl_isDeed_1.C (k : Nat) : Ctx := { ti := TAB, con := conL [(47, impl_within.con k)] }
theorem impl_isDeed_1.cok (k : Nat) : CtxOk Tryd.prog (impl_isDeed_1.C k) := ctx_ok TABok ⟨impl_within.ok k, trivial⟩
theorem impl_isDeed_1.ev (k : Nat) (x : Prod' impl_isDeed_1.sig.ins) : impl_isDeed_1.sig.ev (impl_isDeed_1.C k) .auto Tryd.f49.results.toList (cB Tryd.f49) x = impl_isDeed_1 x := by kernel_rfl
theorem impl_isDeed_1.ok (k : Nat) : ConOk Tryd.prog 49 (impl_isDeed_1.con k) := sig_ok (p := .auto) (impl_isDeed_1.cok k) Tryd.func49 (by kernel_rfl) (show Tryd.f49.body = some (cB Tryd.f49) by kernel_rfl) (by kernel_rfl) (by kernel_rfl) (plan_of (L := []) (by kernel_rfl) trivial) (fun x y h => (impl_isDeed_1.ev k x).trans h)
def slices_IndexFunc_int64_isDeed_1.l0 : Nat → List Int → Int → Int → Option (Unit ⊕ Int)
  | 0, _, _, _ => none
  | j + 1, a1, a2, a3 =>
    bif decide (a3 < a2) then
      Option.bind (at? a1 a3) fun v4 =>
      Option.bind (impl_isDeed_1 v4) fun v5 =>
      bif v5 then
        some (.inr a3)
      else
      slices_IndexFunc_int64_isDeed_1.l0 j a1 a2 (IntKind.wrap .i64 (a3 + 1))
    else
    some (.inl ())
def slices_IndexFunc_int64_isDeed_1 (k : Nat) (a1 : List Int) : Option (Int) :=
  Option.bind (slices_IndexFunc_int64_isDeed_1.l0 k a1 ((a1.length) : Int) 0) fun
    | .inl y2 =>
      some (-1)
    | .inr y3 =>
      some y3
def slices_IndexFunc_int64_isDeed_1.sig : Sig := { ps := [.val false (.sl (.int .i64)) (ros (.sl (.int .i64))), .fn 49 []], rs := [.val false [.v (.int .i64)]], ntmps := 19 }
def slices_IndexFunc_int64_isDeed_1.con (k : Nat) : Con := slices_IndexFunc_int64_isDeed_1.sig.con (fun x => slices_IndexFunc_int64_isDeed_1 k x)
def slices_IndexFunc_int64_isDeed_1.C (k : Nat) : Ctx := { ti := TAB, con := conL [(49, impl_isDeed_1.con k)] }
theorem slices_IndexFunc_int64_isDeed_1.cok (k : Nat) : CtxOk Tryd.prog (slices_IndexFunc_int64_isDeed_1.C k) := ctx_ok TABok ⟨impl_isDeed_1.ok k, trivial⟩
def slices_IndexFunc_int64_isDeed_1.l0.ish : Shape := { tmps := [(0, .one (.bor (.int .i64))), (1, .fn 49 []), (7, .one (.v (.int .i64))), (8, .one (.v (.int .i64)))], slots := [], nb := 0 }
def slices_IndexFunc_int64_isDeed_1.l0.outs : List (Ex × Shape) := [(.exit 0, { tmps := [], slots := [], nb := 0 }), (.ret, { tmps := [(4, .one (.v (.int .i64)))], slots := [], nb := 0 })]
def slices_IndexFunc_int64_isDeed_1.l0.F (k j : Nat) (x : Prod' slices_IndexFunc_int64_isDeed_1.l0.ish.tys) : Option (Outs slices_IndexFunc_int64_isDeed_1.l0.outs) := slices_IndexFunc_int64_isDeed_1.l0 j x.1 x.2.1 x.2.2
def slices_IndexFunc_int64_isDeed_1.l0.s (k : Nat) : Summ := { n := 19, ish := slices_IndexFunc_int64_isDeed_1.l0.ish, outs := slices_IndexFunc_int64_isDeed_1.l0.outs, f := slices_IndexFunc_int64_isDeed_1.l0.F k k }
theorem slices_IndexFunc_int64_isDeed_1.l0.ev (k j : Nat) (x : Prod' slices_IndexFunc_int64_isDeed_1.l0.ish.tys) : V (slices_IndexFunc_int64_isDeed_1.C k) .auto (cO (cO (cR (cL (cR (cB Tryd.f64)))))) (mk slices_IndexFunc_int64_isDeed_1.l0.ish 19 x) (fun e st' => match e with | .nrm => (rd slices_IndexFunc_int64_isDeed_1.l0.ish st').bind (slices_IndexFunc_int64_isDeed_1.l0.F k j) | e => rdOut e st' slices_IndexFunc_int64_isDeed_1.l0.outs) = slices_IndexFunc_int64_isDeed_1.l0.F k (j + 1) x := by kernel_rfl
theorem slices_IndexFunc_int64_isDeed_1.l0.ok (k : Nat) : SumOk Tryd.prog (slices_IndexFunc_int64_isDeed_1.C k) (.loop (cO (cO (cR (cL (cR (cB Tryd.f64))))))) (slices_IndexFunc_int64_isDeed_1.l0.s k) := sum_ok (by kernel_rfl) (sum_loop (p := .auto) (F := slices_IndexFunc_int64_isDeed_1.l0.F k) (slices_IndexFunc_int64_isDeed_1.cok k) (by kernel_rfl) (plan_of (L := []) (by kernel_rfl) trivial) (fun _ => rfl) (fun j x y h => (slices_IndexFunc_int64_isDeed_1.l0.ev k j x).trans h) k rfl)
theorem slices_IndexFunc_int64_isDeed_1.ev (k : Nat) (x : Prod' slices_IndexFunc_int64_isDeed_1.sig.ins) : slices_IndexFunc_int64_isDeed_1.sig.ev (slices_IndexFunc_int64_isDeed_1.C k) (.two .auto (.two (.two .auto (.one (.sum (slices_IndexFunc_int64_isDeed_1.l0.s k)))) .auto)) Tryd.f64.results.toList (cB Tryd.f64) x = slices_IndexFunc_int64_isDeed_1 k x := by kernel_rfl
theorem slices_IndexFunc_int64_isDeed_1.ok (k : Nat) : ConOk Tryd.prog 64 (slices_IndexFunc_int64_isDeed_1.con k) := sig_ok (p := (.two .auto (.two (.two .auto (.one (.sum (slices_IndexFunc_int64_isDeed_1.l0.s k)))) .auto))) (slices_IndexFunc_int64_isDeed_1.cok k) Tryd.func64 (by kernel_rfl) (show Tryd.f64.body = some (cB Tryd.f64) by kernel_rfl) (by kernel_rfl) (by kernel_rfl) (plan_of (L := [(slices_IndexFunc_int64_isDeed_1.l0.s k, cO (cR (cL (cR (cB Tryd.f64)))))]) (by kernel_rfl) ⟨slices_IndexFunc_int64_isDeed_1.l0.ok k, trivial⟩) (fun x y h => (slices_IndexFunc_int64_isDeed_1.ev k x).trans h)
def slices_ContainsFunc_int64_isDeed_1 (k : Nat) (a1 : List Int) : Option (Bool) :=
  Option.bind (slices_IndexFunc_int64_isDeed_1 k a1) fun v2 =>
  some (decide (0 ≤ v2))
def slices_ContainsFunc_int64_isDeed_1.sig : Sig := { ps := [.val false (.sl (.int .i64)) (ros (.sl (.int .i64))), .fn 49 []], rs := [.val false [.v .bool]], ntmps := 9 }
def slices_ContainsFunc_int64_isDeed_1.con (k : Nat) : Con := slices_ContainsFunc_int64_isDeed_1.sig.con (fun x => slices_ContainsFunc_int64_isDeed_1 k x)
def slices_ContainsFunc_int64_isDeed_1.C (k : Nat) : Ctx := { ti := TAB, con := conL [(64, slices_IndexFunc_int64_isDeed_1.con k)] }
theorem slices_ContainsFunc_int64_isDeed_1.cok (k : Nat) : CtxOk Tryd.prog (slices_ContainsFunc_int64_isDeed_1.C k) := ctx_ok TABok ⟨slices_IndexFunc_int64_isDeed_1.ok k, trivial⟩
theorem slices_ContainsFunc_int64_isDeed_1.ev (k : Nat) (x : Prod' slices_ContainsFunc_int64_isDeed_1.sig.ins) : slices_ContainsFunc_int64_isDeed_1.sig.ev (slices_ContainsFunc_int64_isDeed_1.C k) .auto Tryd.f48.results.toList (cB Tryd.f48) x = slices_ContainsFunc_int64_isDeed_1 k x := by kernel_rfl
theorem slices_ContainsFunc_int64_isDeed_1.ok (k : Nat) : ConOk Tryd.prog 48 (slices_ContainsFunc_int64_isDeed_1.con k) := sig_ok (p := .auto) (slices_ContainsFunc_int64_isDeed_1.cok k) Tryd.func48 (by kernel_rfl) (show Tryd.f48.body = some (cB Tryd.f48) by kernel_rfl) (by kernel_rfl) (by kernel_rfl) (plan_of (L := []) (by kernel_rfl) trivial) (fun x y h => (slices_ContainsFunc_int64_isDeed_1.ev k x).trans h)
def impl_isDeed (k : Nat) (a1 : G48) : Option (Bool) :=
  Option.bind (impl_isCmd a1.1) fun v2 =>
  bif !v2 then
    some false
  else
  Option.bind (impl_within a1.2.1 (-1) 50) fun v3 =>
  let e4 := ((a1.2.2.1.length) : Int)
  let e5 := ((a1.2.2.2.length) : Int)
  bif (((!v3) || (decide (40 < e4))) || (decide (5 < e5))) || ((decide (a1.2.1 < 0)) && (decide (0 < (IntKind.wrap .i64 (e4 + e5))))) then
    some false
  else
  Option.bind (slices_ContainsFunc_int64_isDeed_1 k a1.2.2.1) fun v6 =>
  bif !v6 then
    Option.bind (slices_ContainsFunc_int64_isDeed_2 k a1.2.2.2) fun v7 =>
    some (!v7)
  else
  some false
def impl_isDeed.sig : Sig := { ps := [.val true T48 (ros T48)], rs := [.val false [.v .bool]], ntmps := 50 }
def impl_isDeed.con (k : Nat) : Con := impl_isDeed.sig.con (fun x => impl_isDeed k x)
def impl_isDeed.C (k : Nat) : Ctx := { ti := TAB, con := conL [(46, impl_isCmd.con k), (47, impl_within.con k), (48, slices_ContainsFunc_int64_isDeed_1.con k), (48, slices_ContainsFunc_int64_isDeed_2.con k)], rob := true }
theorem impl_isDeed.cok (k : Nat) : CtxOk Tryd.prog (impl_isDeed.C k) := ctx_ok TABok ⟨impl_isCmd.ok k, impl_within.ok k, slices_ContainsFunc_int64_isDeed_1.ok k, slices_ContainsFunc_int64_isDeed_2.ok k, trivial⟩
theorem impl_isDeed.ev (k : Nat) (x : Prod' impl_isDeed.sig.ins) : impl_isDeed.sig.ev (impl_isDeed.C k) .auto Tryd.f30.results.toList (cB Tryd.f30) x = impl_isDeed k x := by kernel_rfl
theorem impl_isDeed.ok (k : Nat) : ConOk Tryd.prog 30 (impl_isDeed.con k) := sig_ok (p := .auto) (impl_isDeed.cok k) Tryd.func30 (by kernel_rfl) (show Tryd.f30.body = some (cB Tryd.f30) by kernel_rfl) (by kernel_rfl) (by kernel_rfl) (plan_of (L := []) (by kernel_rfl) trivial) (fun x y h => (impl_isDeed.ev k x).trans h)
/-- strconv.FormatInt to the base of ten. -/
def int_strconv_FormatInt (n b : Int) : Option Str := if b = 10 ∧ -9223372036854775808 ≤ n ∧ n ≤ 9223372036854775807 then some (Lib.itoa n) else none
def int_strconv_FormatInt.sig : Sig := { ps := [.val false (.int .i64) (ros (.int .i64)), .val false (.int .i64) (ros (.int .i64))], rs := [.val false [.v .str]], ntmps := 0 }
def int_strconv_FormatInt.con (k : Nat) : Con := int_strconv_FormatInt.sig.con (fun x => int_strconv_FormatInt x.1 x.2)
theorem int_strconv_FormatInt.ok (k : Nat) : ConOk Tryd.prog 69 (int_strconv_FormatInt.con k) := hand_glob (enter_of Tryd.func69 (by kernel_rfl) (show Tryd.f69.body = some (cB Tryd.f69) by kernel_rfl)) (by kernel_rfl) (by kernel_rfl) (by
  intro (x : Int × Int) (y : Str) w hg h
  obtain ⟨n, b⟩ := x
  replace h : int_strconv_FormatInt n b = some y := h
  unfold int_strconv_FormatInt at h
  split at h
  · rename_i h0
    obtain ⟨rfl, h0, h1⟩ := h0
    injection h with h
    subst h
    have htab : Lib.TabIs Tryd.prog w "internal/strconv.uint64pow10" .u64 Lib.pow10Tab := tab_of (n := 2) (by kernel_rfl) (hg 2 (.int .u64) Lib.pow10Tab (by kernel_rfl))
    refine (Tryd.internal_strconv_FormatInt_10 n h0 h1 w htab).mono ?_
    rintro e w' ⟨rfl, k, os, rfl⟩
    exact ⟨[.string (ba (Lib.itoa n))], rfl, rfl, rfl, Lib.below_grow _ w (Nat.le_refl _) k os⟩
  · cases h)
def strconv_FormatInt (a1 : Int) (a2 : Int) : Option (Str) :=
  Option.bind (int_strconv_FormatInt a1 a2) fun v3 =>
  some v3
def strconv_FormatInt.sig : Sig := { ps := [.val false (.int .i64) (ros (.int .i64)), .val false (.int .i64) (ros (.int .i64))], rs := [.val false [.v .str]], ntmps := 8 }
def strconv_FormatInt.con (k : Nat) : Con := strconv_FormatInt.sig.con (fun x => strconv_FormatInt x.1 x.2)
def strconv_FormatInt.C (k : Nat) : Ctx := { ti := TAB, con := conL [(69, int_strconv_FormatInt.con k)] }
theorem strconv_FormatInt.cok (k : Nat) : CtxOk Tryd.prog (strconv_FormatInt.C k) := ctx_ok TABok ⟨int_strconv_FormatInt.ok k, trivial⟩
theorem strconv_FormatInt.ev (k : Nat) (x : Prod' strconv_FormatInt.sig.ins) : strconv_FormatInt.sig.ev (strconv_FormatInt.C k) .auto Tryd.f58.results.toList (cB Tryd.f58) x = strconv_FormatInt x.1 x.2 := by kernel_rfl
theorem strconv_FormatInt.ok (k : Nat) : ConOk Tryd.prog 58 (strconv_FormatInt.con k) := sig_ok (p := .auto) (strconv_FormatInt.cok k) Tryd.func58 (by kernel_rfl) (show Tryd.f58.body = some (cB Tryd.f58) by kernel_rfl) (by kernel_rfl) (by kernel_rfl) (plan_of (L := []) (by kernel_rfl) trivial) (fun x y h => (strconv_FormatInt.ev k x).trans h)
def impl_decimal (a1 : Int) : Option (Str) :=
  Option.bind (strconv_FormatInt (imax 0 a1) 10) fun v2 =>
  some v2
def impl_decimal.sig : Sig := { ps := [.val false (.int .i64) (ros (.int .i64))], rs := [.val false [.v .str]], ntmps := 6 }
def impl_decimal.con (k : Nat) : Con := impl_decimal.sig.con (fun x => impl_decimal x)
def impl_decimal.C (k : Nat) : Ctx := { ti := TAB, con := conL [(58, strconv_FormatInt.con k)] }
theorem impl_decimal.cok (k : Nat) : CtxOk Tryd.prog (impl_decimal.C k) := ctx_ok TABok ⟨strconv_FormatInt.ok k, trivial⟩
theorem impl_decimal.ev (k : Nat) (x : Prod' impl_decimal.sig.ins) : impl_decimal.sig.ev (impl_decimal.C k) .auto Tryd.f36.results.toList (cB Tryd.f36) x = impl_decimal x := by kernel_rfl
theorem impl_decimal.ok (k : Nat) : ConOk Tryd.prog 36 (impl_decimal.con k) := sig_ok (p := .auto) (impl_decimal.cok k) Tryd.func36 (by kernel_rfl) (show Tryd.f36.body = some (cB Tryd.f36) by kernel_rfl) (by kernel_rfl) (by kernel_rfl) (plan_of (L := []) (by kernel_rfl) trivial) (fun x y h => (impl_decimal.ev k x).trans h)
def impl_hexText.l0 : Nat → Str → Int → Int → List Int → Option ((List Int))
  | 0, _, _, _, _ => none
  | j + 1, a1, a2, a3, a4 =>
    bif decide (a3 < a2) then
      Option.bind (at? a1 a3) fun v5 =>
      Option.bind (nneg? 4) fun v6 =>
      Option.bind (at? ([48, 49, 50, 51, 52, 53, 54, 55, 56, 57, 97, 98, 99, 100, 101, 102] : Str) (shr .u8 (v5.toNat : Int) 4)) fun v7 =>
      Option.bind (at? a1 a3) fun v8 =>
      Option.bind (at? ([48, 49, 50, 51, 52, 53, 54, 55, 56, 57, 97, 98, 99, 100, 101, 102] : Str) (intBits .and .u8 (v8.toNat : Int) 15)) fun v9 =>
      Option.bind (app? 1 a4 [(v7.toNat : Int), (v9.toNat : Int)]) fun v10 =>
      impl_hexText.l0 j a1 a2 (IntKind.wrap .i64 (a3 + 1)) v10
    else
    some a4
def impl_hexText (k : Nat) (a1 : Str) : Option (Str) :=
  Option.bind (impl_hexText.l0 k a1 ((a1.length) : Int) 0 []) fun y2 =>
  some (listByte y2)
def impl_hexText.sig : Sig := { ps := [.val false .str (ros .str)], rs := [.val false [.v .str]], ntmps := 26 }
def impl_hexText.con (k : Nat) : Con := impl_hexText.sig.con (fun x => impl_hexText k x)
def impl_hexText.C (k : Nat) : Ctx := { ti := TAB, con := conL [] }
theorem impl_hexText.cok (k : Nat) : CtxOk Tryd.prog (impl_hexText.C k) := ctx_ok TABok trivial
def impl_hexText.l0.ish : Shape := { tmps := [(0, .one (.v .str)), (3, .one (.own 0)), (6, .one (.v (.int .i64))), (7, .one (.v (.int .i64)))], slots := [(0, .arr false 5 (.int .u8))], nb := 1 }
def impl_hexText.l0.outs : List (Ex × Shape) := [(.exit 0, { tmps := [(3, .one (.own 1))], slots := [(1, .arr false 5 (.int .u8))], nb := 2 })]
def impl_hexText.l0.F (k j : Nat) (x : Prod' impl_hexText.l0.ish.tys) : Option (Outs impl_hexText.l0.outs) := impl_hexText.l0 j x.1 x.2.1 x.2.2.1 x.2.2.2
def impl_hexText.l0.s (k : Nat) : Summ := { n := 26, ish := impl_hexText.l0.ish, outs := impl_hexText.l0.outs, f := impl_hexText.l0.F k k }
theorem impl_hexText.l0.ev (k j : Nat) (x : Prod' impl_hexText.l0.ish.tys) : V (impl_hexText.C k) .auto (cO (cO (cR (cL (cR (cR (cB Tryd.f37))))))) (mk impl_hexText.l0.ish 26 x) (fun e st' => match e with | .nrm => (rd impl_hexText.l0.ish st').bind (impl_hexText.l0.F k j) | e => rdOut e st' impl_hexText.l0.outs) = impl_hexText.l0.F k (j + 1) x := by kernel_rfl
theorem impl_hexText.l0.ok (k : Nat) : SumOk Tryd.prog (impl_hexText.C k) (.loop (cO (cO (cR (cL (cR (cR (cB Tryd.f37)))))))) (impl_hexText.l0.s k) := sum_ok (by kernel_rfl) (sum_loop (p := .auto) (F := impl_hexText.l0.F k) (impl_hexText.cok k) (by kernel_rfl) (plan_of (L := []) (by kernel_rfl) trivial) (fun _ => rfl) (fun j x y h => (impl_hexText.l0.ev k j x).trans h) k rfl)
theorem impl_hexText.ev (k : Nat) (x : Prod' impl_hexText.sig.ins) : impl_hexText.sig.ev (impl_hexText.C k) (.two .auto (.two .auto (.two (.two .auto (.one (.sum (impl_hexText.l0.s k)))) .auto))) Tryd.f37.results.toList (cB Tryd.f37) x = impl_hexText k x := by kernel_rfl
theorem impl_hexText.ok (k : Nat) : ConOk Tryd.prog 37 (impl_hexText.con k) := sig_ok (p := (.two .auto (.two .auto (.two (.two .auto (.one (.sum (impl_hexText.l0.s k)))) .auto)))) (impl_hexText.cok k) Tryd.func37 (by kernel_rfl) (show Tryd.f37.body = some (cB Tryd.f37) by kernel_rfl) (by kernel_rfl) (by kernel_rfl) (plan_of (L := [(impl_hexText.l0.s k, cO (cR (cL (cR (cR (cB Tryd.f37))))))]) (by kernel_rfl) ⟨impl_hexText.l0.ok k, trivial⟩) (fun x y h => (impl_hexText.ev k x).trans h)
/-- strings.Count of a text of one byte. -/
def strings_Count (a b : Str) : Option Int := match b with
  | [c] => some ((Lib.countByte a c : Nat) : Int)
  | _ => none
def strings_Count.sig : Sig := { ps := [.val false .str (ros .str), .val false .str (ros .str)], rs := [.val false [.v (.int .i64)]], ntmps := 0 }
def strings_Count.con (k : Nat) : Con := strings_Count.sig.con (fun x => strings_Count x.1 x.2)
theorem strings_Count.ok (k : Nat) : ConOk Tryd.prog 79 (strings_Count.con k) := hand_scal (enter_of Tryd.func79 (by kernel_rfl) (show Tryd.f79.body = some (cB Tryd.f79) by kernel_rfl)) (by kernel_rfl) (by kernel_rfl) (by
  intro (x : Str × Str) (y : Int) w h
  obtain ⟨a, b⟩ := x
  replace h : strings_Count a b = some y := h
  match b, h with
  | [], h => cases h
  | _ :: _ :: _, h => cases h
  | [c], h =>
    injection h with h
    subst h
    refine (Tryd.strings_Count_one (ba a) c w).mono ?_
    rintro e w' ⟨rfl, rfl⟩
    exact ⟨[.int .i64 ((Lib.countByte a c : Nat) : Int)], rfl, rfl, rfl, Go.RowKit.Below.refl _ _⟩)
def impl_letterOf (a1 : Str) : Option (Str) :=
  bif ((a1.length) : Int) != 8 then
    some ([])
  else
  Option.bind (at? a1 0) fun v2 =>
  bif decide ((v2.toNat : Int) < 97) then
    some ([])
  else
  Option.bind (at? a1 0) fun v3 =>
  bif decide (122 < (v3.toNat : Int)) then
    some ([])
  else
  let e4 := cut? a1 0 1
  Option.bind (e4) fun v5 =>
  Option.bind (strings_Count a1 v5) fun v6 =>
  bif v6 != 8 then
    some ([])
  else
  Option.bind (e4) fun v7 =>
  some v7
def impl_letterOf.sig : Sig := { ps := [.val false .str (ros .str)], rs := [.val false [.v .str]], ntmps := 25 }
def impl_letterOf.con (k : Nat) : Con := impl_letterOf.sig.con (fun x => impl_letterOf x)
def impl_letterOf.C (k : Nat) : Ctx := { ti := TAB, con := conL [(79, strings_Count.con k)] }
theorem impl_letterOf.cok (k : Nat) : CtxOk Tryd.prog (impl_letterOf.C k) := ctx_ok TABok ⟨strings_Count.ok k, trivial⟩
theorem impl_letterOf.ev (k : Nat) (x : Prod' impl_letterOf.sig.ins) : impl_letterOf.sig.ev (impl_letterOf.C k) .auto Tryd.f71.results.toList (cB Tryd.f71) x = impl_letterOf x := by kernel_rfl
theorem impl_letterOf.ok (k : Nat) : ConOk Tryd.prog 71 (impl_letterOf.con k) := sig_ok (p := .auto) (impl_letterOf.cok k) Tryd.func71 (by kernel_rfl) (show Tryd.f71.body = some (cB Tryd.f71) by kernel_rfl) (by kernel_rfl) (by kernel_rfl) (plan_of (L := []) (by kernel_rfl) trivial) (fun x y h => (impl_letterOf.ev k x).trans h)
def impl_stepText.j0 (a1 : Str) (a2 : Int) (a3 : Int) (a4 : Int) (a5 : Str) : Option ((Str × Int × Int × Int × Str)) :=
  bif a2 != 5 then
    Option.bind (impl_decimal a3) fun v6 =>
    Option.bind (cat? ([32] : Str) v6) fun v7 =>
    Option.bind (cat? a1 v7) fun v8 =>
    some (v8, a2, a3, a4, a5)
  else
  some (a1, a2, a3, a4, a5)
def impl_stepText.j1 (a1 : Str) (a2 : Int) (a3 : Int) (a4 : Int) (a5 : Str) : Option ((Str × Int × Int × Int × Str)) :=
  bif ((a2 == 3) || (a2 == 4)) || (a2 == 5) then
    Option.bind (impl_decimal a4) fun v6 =>
    Option.bind (cat? ([32] : Str) v6) fun v7 =>
    Option.bind (cat? a1 v7) fun v8 =>
    some (v8, a2, a3, a4, a5)
  else
  some (a1, a2, a3, a4, a5)
def impl_stepText (a1 : G44) : Option (Str) :=
  Option.bind (at? tab1 a1.1) fun v2 =>
  Option.bind (impl_stepText.j0 v2 a1.1 a1.2.1 a1.2.2.1 a1.2.2.2) fun y3 =>
  Option.bind (impl_stepText.j1 y3.1 y3.2.1 y3.2.2.1 y3.2.2.2.1 y3.2.2.2.2) fun y4 =>
  bif !(y4.2.2.2.2 == []) then
    Option.bind (impl_letterOf y4.2.2.2.2) fun v5 =>
    bif v5 == [] then
      some ([])
    else
    Option.bind (cat? ([32] : Str) v5) fun v6 =>
    Option.bind (cat? y4.1 v6) fun v7 =>
    some v7
  else
  some y4.1
def impl_stepText.sig : Sig := { ps := [.val true T44 (ros T44)], rs := [.val false [.v .str]], ntmps := 50 }
def impl_stepText.con (k : Nat) : Con := impl_stepText.sig.con (fun x => impl_stepText x)
def impl_stepText.C (k : Nat) : Ctx := { ti := TAB, con := conL [(36, impl_decimal.con k), (71, impl_letterOf.con k)] }
theorem impl_stepText.cok (k : Nat) : CtxOk Tryd.prog (impl_stepText.C k) := ctx_ok TABok ⟨impl_decimal.ok k, impl_letterOf.ok k, trivial⟩
def impl_stepText.j0.ish : Shape := { tmps := [(1, .one (.ptr 0 0)), (3, .one (.v .str))], slots := [(0, .box 51 [.v (.int .i64), .v (.int .i64), .v (.int .i64), .v .str])], nb := 1 }
def impl_stepText.j0.outs : List (Ex × Shape) := [(.nrm, { tmps := [(3, .one (.v .str))], slots := [(0, .box 51 [.v (.int .i64), .v (.int .i64), .v (.int .i64), .v .str])], nb := 1 })]
def impl_stepText.j0.F (k : Nat) (x : Prod' impl_stepText.j0.ish.tys) : Option (Outs impl_stepText.j0.outs) := impl_stepText.j0 x.1 x.2.1 x.2.2.1 x.2.2.2.1 x.2.2.2.2
def impl_stepText.j0.s (k : Nat) : Summ := { n := 50, ish := impl_stepText.j0.ish, outs := impl_stepText.j0.outs, f := impl_stepText.j0.F k }
theorem impl_stepText.j0.ev (k : Nat) (x : Prod' impl_stepText.j0.ish.tys) : V (impl_stepText.C k) .auto (cL (cR (cR (cB Tryd.f65)))) (mk impl_stepText.j0.ish 50 x) (fun e st' => rdOut e st' impl_stepText.j0.outs) = impl_stepText.j0.F k x := by kernel_rfl
theorem impl_stepText.j0.ok (k : Nat) : SumOk Tryd.prog (impl_stepText.C k) (cL (cR (cR (cB Tryd.f65)))) (impl_stepText.j0.s k) := sum_ok (by kernel_rfl) (sum_code (p := .auto) (impl_stepText.cok k) (by kernel_rfl) (plan_of (L := []) (by kernel_rfl) trivial) (fun x y h => (impl_stepText.j0.ev k x).trans h))
def impl_stepText.j1.ish : Shape := { tmps := [(1, .one (.ptr 0 0)), (3, .one (.v .str))], slots := [(0, .box 51 [.v (.int .i64), .v (.int .i64), .v (.int .i64), .v .str])], nb := 1 }
def impl_stepText.j1.outs : List (Ex × Shape) := [(.nrm, { tmps := [(3, .one (.v .str))], slots := [(0, .box 51 [.v (.int .i64), .v (.int .i64), .v (.int .i64), .v .str])], nb := 1 })]
def impl_stepText.j1.F (k : Nat) (x : Prod' impl_stepText.j1.ish.tys) : Option (Outs impl_stepText.j1.outs) := impl_stepText.j1 x.1 x.2.1 x.2.2.1 x.2.2.2.1 x.2.2.2.2
def impl_stepText.j1.s (k : Nat) : Summ := { n := 50, ish := impl_stepText.j1.ish, outs := impl_stepText.j1.outs, f := impl_stepText.j1.F k }
theorem impl_stepText.j1.ev (k : Nat) (x : Prod' impl_stepText.j1.ish.tys) : V (impl_stepText.C k) .auto (cL (cR (cR (cR (cB Tryd.f65))))) (mk impl_stepText.j1.ish 50 x) (fun e st' => rdOut e st' impl_stepText.j1.outs) = impl_stepText.j1.F k x := by kernel_rfl
theorem impl_stepText.j1.ok (k : Nat) : SumOk Tryd.prog (impl_stepText.C k) (cL (cR (cR (cR (cB Tryd.f65))))) (impl_stepText.j1.s k) := sum_ok (by kernel_rfl) (sum_code (p := .auto) (impl_stepText.cok k) (by kernel_rfl) (plan_of (L := []) (by kernel_rfl) trivial) (fun x y h => (impl_stepText.j1.ev k x).trans h))
theorem impl_stepText.ev (k : Nat) (x : Prod' impl_stepText.sig.ins) : impl_stepText.sig.ev (impl_stepText.C k) (.two .auto (.two .auto (.two (.sum (impl_stepText.j0.s k)) (.two (.sum (impl_stepText.j1.s k)) .auto)))) Tryd.f65.results.toList (cB Tryd.f65) x = impl_stepText x := by kernel_rfl
theorem impl_stepText.ok (k : Nat) : ConOk Tryd.prog 65 (impl_stepText.con k) := sig_ok (p := (.two .auto (.two .auto (.two (.sum (impl_stepText.j0.s k)) (.two (.sum (impl_stepText.j1.s k)) .auto))))) (impl_stepText.cok k) Tryd.func65 (by kernel_rfl) (show Tryd.f65.body = some (cB Tryd.f65) by kernel_rfl) (by kernel_rfl) (by kernel_rfl) (plan_of (L := [(impl_stepText.j0.s k, cL (cR (cR (cB Tryd.f65)))), (impl_stepText.j1.s k, cL (cR (cR (cR (cB Tryd.f65)))))]) (by kernel_rfl) ⟨impl_stepText.j0.ok k, impl_stepText.j1.ok k, trivial⟩) (fun x y h => (impl_stepText.ev k x).trans h)
def impl_cmdText (k : Nat) (a1 : G46) : Option (Str) :=
  bif a1.1 == 2 then
    Option.bind (impl_stepText a1.2.2.2.2) fun v2 =>
    some v2
  else
  bif a1.1 == 1 then
    Option.bind (impl_decimal a1.2.1) fun v3 =>
    Option.bind (cat? ([98, 101, 103, 105, 110, 32] : Str) v3) fun v4 =>
    Option.bind (cat? v4 ([32] : Str)) fun v5 =>
    Option.bind (impl_decimal a1.2.2.1) fun v6 =>
    Option.bind (cat? v5 v6) fun v7 =>
    Option.bind (cat? v7 ([32] : Str)) fun v8 =>
    Option.bind (impl_hexText k a1.2.2.2.1) fun v9 =>
    Option.bind (cat? v8 v9) fun v10 =>
    some v10
  else
  let e11 := at? tab0 a1.1
  bif a1.1 == 7 then
    Option.bind (e11) fun v12 =>
    Option.bind (cat? v12 ([32] : Str)) fun v13 =>
    Option.bind (impl_decimal a1.2.1) fun v14 =>
    Option.bind (cat? v13 v14) fun v15 =>
    some v15
  else
  bif a1.1 == 9 then
    Option.bind (e11) fun v16 =>
    Option.bind (cat? v16 ([32] : Str)) fun v17 =>
    Option.bind (impl_decimal a1.2.1) fun v18 =>
    Option.bind (cat? v17 v18) fun v19 =>
    some v19
  else
  Option.bind (e11) fun v20 =>
  some v20
def impl_cmdText.sig : Sig := { ps := [.val true T46 (ros T46)], rs := [.val false [.v .str]], ntmps := 42 }
def impl_cmdText.con (k : Nat) : Con := impl_cmdText.sig.con (fun x => impl_cmdText k x)
def impl_cmdText.C (k : Nat) : Ctx := { ti := TAB, con := conL [(36, impl_decimal.con k), (37, impl_hexText.con k), (65, impl_stepText.con k)] }
theorem impl_cmdText.cok (k : Nat) : CtxOk Tryd.prog (impl_cmdText.C k) := ctx_ok TABok ⟨impl_decimal.ok k, impl_hexText.ok k, impl_stepText.ok k, trivial⟩
theorem impl_cmdText.ev (k : Nat) (x : Prod' impl_cmdText.sig.ins) : impl_cmdText.sig.ev (impl_cmdText.C k) .auto Tryd.f51.results.toList (cB Tryd.f51) x = impl_cmdText k x := by kernel_rfl
theorem impl_cmdText.ok (k : Nat) : ConOk Tryd.prog 51 (impl_cmdText.con k) := sig_ok (p := .auto) (impl_cmdText.cok k) Tryd.func51 (by kernel_rfl) (show Tryd.f51.body = some (cB Tryd.f51) by kernel_rfl) (by kernel_rfl) (by kernel_rfl) (plan_of (L := []) (by kernel_rfl) trivial) (fun x y h => (impl_cmdText.ev k x).trans h)
/-- strings.Join where the result fits into memory. -/
def strings_Join (l : List Str) (s : Str) : Option Str := if l.length ≤ 140737488355328 ∧ (Lib.join l s).length ≤ 140737488355328 then some (Lib.join l s) else none
def strings_Join.con (k : Nat) : Con := { ms := [.val [.ro], .val [.ro]], f := fun xs => match xs with
  | [.val false [.leaf (.bor .str l)], .val false [.leaf (.str s)]] => .opt Str (strings_Join l s) fun r => ⟨[.val false [.leaf (.str r)]], []⟩
  | _ => .fail }
theorem strings_Join.ok (k : Nat) : ConOk Tryd.prog 66 (strings_Join.con k) := by
  refine ⟨(enter_of Tryd.func66 (by kernel_rfl) (show Tryd.f66.body = some (cB Tryd.f66) by kernel_rfl)), ?_⟩
  intro xs rr hrr w vs F L M hF hnd hgl hargs
  unfold strings_Join.con at hrr
  dsimp only at hrr
  split at hrr
  · rename_i l s
    replace hrr : (strings_Join l s).map (fun r => (⟨[.val false [.leaf (.str r)]], []⟩ : RR)) = some rr := hrr
    unfold strings_Join at hrr
    split at hrr
    · rename_i hc
      obtain ⟨hc1, hc2⟩ := hc
      cases hrr
      match vs, hargs with
      | [v1, v2], ⟨_, _, _, _, hL, hM, ⟨rfl, hv1, hn1⟩, _, _, _, _, hL2, hM2, ⟨rfl, hv2, hn2⟩, hn3, hn4⟩ =>
      have hv2 : v2 = .string (ba s) := hv2
      subst hv2
      subst hn1
      subst hn2
      subst hn3
      subst hn4
      subst hL2
      subst hM2
      subst hL
      subst hM
      obtain ⟨A, c, hv, hlc, hrow⟩ := hv1
      cases hv
      have fin : ∀ w', Below w.heap.size w w' → ∃ v, Ending.returned (.string (ba (Lib.join l s))) = .returned v ∧ Answer ⟨[.val false [.leaf (.str (Lib.join l s))]], []⟩ F [] [] w v w' := fun w' bel =>
        ⟨_, rfl, ⟨bel.os, bel.tape, bel.output, bel.size, fun b hb _ => bel.block b hb⟩, [], [], (fun c hc => nomatch hc), List.nodup_nil, rfl, rfl, rfl⟩
      rcases hrow with rfl | ⟨g, o, rfl, hB, hcells⟩
      · refine (Tryd.strings_Join_none A c (ba s) w).mono ?_
        rintro e w' ⟨rfl, rfl⟩
        exact fin _ (Below.refl _ _)
      · have hx : ((l.map ba).map (·.data.toList)) = l := by rw [List.map_map]; exact List.map_id' l
        have hcall := Tryd.strings_Join g o c (l.map ba) (ba s) w (fun j x hj => by
          rw [List.getElem?_map] at hj
          obtain ⟨y, hy, rfl⟩ := Option.map_eq_some_iff.1 hj
          obtain ⟨cs, h1, h2⟩ := hcells j y hy
          have h2 : cs = [.string (ba y)] := h2
          subst h2
          have := h1 0 _ rfl
          simpa [Ty.sz] using this) hB.1 (by rw [List.length_map]; exact hc1) (by rw [List.length_map]; exact hlc) (by rw [hx]; exact hc2)
        rw [hx, List.length_map] at hcall
        refine hcall.mono ?_
        rintro e w' ⟨rfl, bel⟩
        exact fin w' bel
    · cases hrr
  · cases hrr
def impl_commas.l0 : Nat → List Int → Int → Int → List Str → Option ((List Str))
  | 0, _, _, _, _ => none
  | j + 1, a1, a2, a3, a4 =>
    bif decide (a3 < a2) then
      Option.bind (at? a1 a3) fun v5 =>
      Option.bind (impl_decimal v5) fun v6 =>
      Option.bind (at? a4 a3) fun v7 =>
      Option.bind (at? a4 a3) fun v8 =>
      impl_commas.l0 j a1 a2 (IntKind.wrap .i64 (a3 + 1)) (List.set a4 (Int.toNat a3) v6)
    else
    some a4
def impl_commas (k : Nat) (a1 : List Int) : Option (Str) :=
  bif ((a1.length) : Int) == 0 then
    some ([45] : Str)
  else
  Option.bind (make? 16 ((a1.length) : Int) ((a1.length) : Int) []) fun v2 =>
  Option.bind (impl_commas.l0 k a1 ((a1.length) : Int) 0 v2) fun y3 =>
  Option.bind (strings_Join y3 ([44] : Str)) fun v4 =>
  some v4
def impl_commas.sig : Sig := { ps := [.val false (.sl (.int .i64)) (ros (.sl (.int .i64)))], rs := [.val false [.v .str]], ntmps := 27 }
def impl_commas.con (k : Nat) : Con := impl_commas.sig.con (fun x => impl_commas k x)
def impl_commas.C (k : Nat) : Ctx := { ti := TAB, con := conL [(36, impl_decimal.con k), (66, strings_Join.con k)] }
theorem impl_commas.cok (k : Nat) : CtxOk Tryd.prog (impl_commas.C k) := ctx_ok TABok ⟨impl_decimal.ok k, strings_Join.ok k, trivial⟩
def impl_commas.l0.ish : Shape := { tmps := [(3, .one (.own 1)), (12, .one (.bor (.int .i64))), (13, .one (.v (.int .i64))), (14, .one (.v (.int .i64)))], slots := [(1, .arr false 9 .str)], nb := 2 }
def impl_commas.l0.outs : List (Ex × Shape) := [(.exit 0, { tmps := [(3, .one (.own 2))], slots := [(2, .arr false 9 .str)], nb := 3 })]
def impl_commas.l0.F (k j : Nat) (x : Prod' impl_commas.l0.ish.tys) : Option (Outs impl_commas.l0.outs) := impl_commas.l0 j x.1 x.2.1 x.2.2.1 x.2.2.2
def impl_commas.l0.s (k : Nat) : Summ := { n := 27, ish := impl_commas.l0.ish, outs := impl_commas.l0.outs, f := impl_commas.l0.F k k }
theorem impl_commas.l0.ev (k j : Nat) (x : Prod' impl_commas.l0.ish.tys) : V (impl_commas.C k) .auto (cO (cO (cR (cL (cR (cR (cR (cB Tryd.f52)))))))) (mk impl_commas.l0.ish 27 x) (fun e st' => match e with | .nrm => (rd impl_commas.l0.ish st').bind (impl_commas.l0.F k j) | e => rdOut e st' impl_commas.l0.outs) = impl_commas.l0.F k (j + 1) x := by kernel_rfl
theorem impl_commas.l0.ok (k : Nat) : SumOk Tryd.prog (impl_commas.C k) (.loop (cO (cO (cR (cL (cR (cR (cR (cB Tryd.f52))))))))) (impl_commas.l0.s k) := sum_ok (by kernel_rfl) (sum_loop (p := .auto) (F := impl_commas.l0.F k) (impl_commas.cok k) (by kernel_rfl) (plan_of (L := []) (by kernel_rfl) trivial) (fun _ => rfl) (fun j x y h => (impl_commas.l0.ev k j x).trans h) k rfl)
theorem impl_commas.ev (k : Nat) (x : Prod' impl_commas.sig.ins) : impl_commas.sig.ev (impl_commas.C k) (.two .auto (.two .auto (.two .auto (.two (.two .auto (.one (.sum (impl_commas.l0.s k)))) .auto)))) Tryd.f52.results.toList (cB Tryd.f52) x = impl_commas k x := by kernel_rfl
theorem impl_commas.ok (k : Nat) : ConOk Tryd.prog 52 (impl_commas.con k) := sig_ok (p := (.two .auto (.two .auto (.two .auto (.two (.two .auto (.one (.sum (impl_commas.l0.s k)))) .auto))))) (impl_commas.cok k) Tryd.func52 (by kernel_rfl) (show Tryd.f52.body = some (cB Tryd.f52) by kernel_rfl) (by kernel_rfl) (by kernel_rfl) (plan_of (L := [(impl_commas.l0.s k, cO (cR (cL (cR (cR (cR (cB Tryd.f52)))))))]) (by kernel_rfl) ⟨impl_commas.l0.ok k, trivial⟩) (fun x y h => (impl_commas.ev k x).trans h)
def impl_deedText (k : Nat) (a1 : G48) : Option (Str) :=
  Option.bind (impl_cmdText k a1.1) fun v2 =>
  bif (!(v2 == [])) && (decide (0 ≤ a1.2.1)) then
    Option.bind (impl_decimal a1.2.1) fun v3 =>
    Option.bind (cat? ([99, 117, 116, 32] : Str) v3) fun v4 =>
    Option.bind (cat? v4 ([32] : Str)) fun v5 =>
    Option.bind (impl_commas k a1.2.2.1) fun v6 =>
    Option.bind (cat? v5 v6) fun v7 =>
    Option.bind (cat? v7 ([32] : Str)) fun v8 =>
    Option.bind (impl_commas k a1.2.2.2) fun v9 =>
    Option.bind (cat? v8 v9) fun v10 =>
    Option.bind (cat? v10 ([32] : Str)) fun v11 =>
    Option.bind (cat? v11 v2) fun v12 =>
    some v12
  else
  some v2
def impl_deedText.sig : Sig := { ps := [.val true T48 (ros T48)], rs := [.val false [.v .str]], ntmps := 32 }
def impl_deedText.con (k : Nat) : Con := impl_deedText.sig.con (fun x => impl_deedText k x)
def impl_deedText.C (k : Nat) : Ctx := { ti := TAB, con := conL [(36, impl_decimal.con k), (51, impl_cmdText.con k), (52, impl_commas.con k)], rob := true }
theorem impl_deedText.cok (k : Nat) : CtxOk Tryd.prog (impl_deedText.C k) := ctx_ok TABok ⟨impl_decimal.ok k, impl_cmdText.ok k, impl_commas.ok k, trivial⟩
theorem impl_deedText.ev (k : Nat) (x : Prod' impl_deedText.sig.ins) : impl_deedText.sig.ev (impl_deedText.C k) .auto Tryd.f31.results.toList (cB Tryd.f31) x = impl_deedText k x := by kernel_rfl
theorem impl_deedText.ok (k : Nat) : ConOk Tryd.prog 31 (impl_deedText.con k) := sig_ok (p := .auto) (impl_deedText.cok k) Tryd.func31 (by kernel_rfl) (show Tryd.f31.body = some (cB Tryd.f31) by kernel_rfl) (by kernel_rfl) (by kernel_rfl) (plan_of (L := []) (by kernel_rfl) trivial) (fun x y h => (impl_deedText.ev k x).trans h)
def impl_DeedText (k : Nat) (a1 : G48) : Option (Str) :=
  Option.bind (impl_isDeed k a1) fun v2 =>
  bif !v2 then
    some ([])
  else
  Option.bind (impl_deedText k a1) fun v3 =>
  some v3
def impl_DeedText.sig : Sig := { ps := [.val true T48 (ros T48)], rs := [.val false [.v .str]], ntmps := 8 }
def impl_DeedText.con (k : Nat) : Con := impl_DeedText.sig.con (fun x => impl_DeedText k x)
def impl_DeedText.C (k : Nat) : Ctx := { ti := TAB, con := conL [(30, impl_isDeed.con k), (31, impl_deedText.con k)], rob := true }
theorem impl_DeedText.cok (k : Nat) : CtxOk Tryd.prog (impl_DeedText.C k) := ctx_ok TABok ⟨impl_isDeed.ok k, impl_deedText.ok k, trivial⟩
theorem impl_DeedText.ev (k : Nat) (x : Prod' impl_DeedText.sig.ins) : impl_DeedText.sig.ev (impl_DeedText.C k) .auto Tryd.f13.results.toList (cB Tryd.f13) x = impl_DeedText k x := by kernel_rfl
theorem impl_DeedText.ok (k : Nat) : ConOk Tryd.prog 13 (impl_DeedText.con k) := sig_ok (p := .auto) (impl_DeedText.cok k) Tryd.func13 (by kernel_rfl) (show Tryd.f13.body = some (cB Tryd.f13) by kernel_rfl) (by kernel_rfl) (by kernel_rfl) (plan_of (L := []) (by kernel_rfl) trivial) (fun x y h => (impl_DeedText.ev k x).trans h)
def laws_eqInt64S.l0 : Nat → List Int → List Int → Int → Option (Unit ⊕ Bool)
  | 0, _, _, _ => none
  | j + 1, a1, a2, a3 =>
    bif decide (a3 < ((a1.length) : Int)) then
      Option.bind (at? a1 a3) fun v4 =>
      Option.bind (at? a2 a3) fun v5 =>
      bif v4 != v5 then
        some (.inr false)
      else
      laws_eqInt64S.l0 j a1 a2 (IntKind.wrap .i64 (a3 + 1))
    else
    some (.inl ())
def laws_eqInt64S (k : Nat) (a1 : List Int) (a2 : List Int) : Option (Bool) :=
  bif ((a1.length) : Int) != ((a2.length) : Int) then
    some false
  else
  Option.bind (laws_eqInt64S.l0 k a1 a2 0) fun
    | .inl y3 =>
      some true
    | .inr y4 =>
      some y4
def laws_eqInt64S.sig : Sig := { ps := [.val false (.sl (.int .i64)) (ros (.sl (.int .i64))), .val false (.sl (.int .i64)) (ros (.sl (.int .i64)))], rs := [.val false [.v .bool]], ntmps := 26 }
def laws_eqInt64S.con (k : Nat) : Con := laws_eqInt64S.sig.con (fun x => laws_eqInt64S k x.1 x.2)
def laws_eqInt64S.C (k : Nat) : Ctx := { ti := TAB, con := conL [] }
theorem laws_eqInt64S.cok (k : Nat) : CtxOk Tryd.prog (laws_eqInt64S.C k) := ctx_ok TABok trivial
def laws_eqInt64S.l0.ish : Shape := { tmps := [(0, .one (.bor (.int .i64))), (1, .one (.bor (.int .i64))), (5, .one (.v (.int .i64)))], slots := [], nb := 0 }
def laws_eqInt64S.l0.outs : List (Ex × Shape) := [(.exit 0, { tmps := [], slots := [], nb := 0 }), (.ret, { tmps := [(4, .one (.v .bool))], slots := [], nb := 0 })]
def laws_eqInt64S.l0.F (k j : Nat) (x : Prod' laws_eqInt64S.l0.ish.tys) : Option (Outs laws_eqInt64S.l0.outs) := laws_eqInt64S.l0 j x.1 x.2.1 x.2.2
def laws_eqInt64S.l0.s (k : Nat) : Summ := { n := 26, ish := laws_eqInt64S.l0.ish, outs := laws_eqInt64S.l0.outs, f := laws_eqInt64S.l0.F k k }
theorem laws_eqInt64S.l0.ev (k j : Nat) (x : Prod' laws_eqInt64S.l0.ish.tys) : V (laws_eqInt64S.C k) .auto (cO (cO (cR (cL (cR (cR (cB Tryd.f23))))))) (mk laws_eqInt64S.l0.ish 26 x) (fun e st' => match e with | .nrm => (rd laws_eqInt64S.l0.ish st').bind (laws_eqInt64S.l0.F k j) | e => rdOut e st' laws_eqInt64S.l0.outs) = laws_eqInt64S.l0.F k (j + 1) x := by kernel_rfl
theorem laws_eqInt64S.l0.ok (k : Nat) : SumOk Tryd.prog (laws_eqInt64S.C k) (.loop (cO (cO (cR (cL (cR (cR (cB Tryd.f23)))))))) (laws_eqInt64S.l0.s k) := sum_ok (by kernel_rfl) (sum_loop (p := .auto) (F := laws_eqInt64S.l0.F k) (laws_eqInt64S.cok k) (by kernel_rfl) (plan_of (L := []) (by kernel_rfl) trivial) (fun _ => rfl) (fun j x y h => (laws_eqInt64S.l0.ev k j x).trans h) k rfl)
theorem laws_eqInt64S.ev (k : Nat) (x : Prod' laws_eqInt64S.sig.ins) : laws_eqInt64S.sig.ev (laws_eqInt64S.C k) (.two .auto (.two .auto (.two (.two .auto (.one (.sum (laws_eqInt64S.l0.s k)))) .auto))) Tryd.f23.results.toList (cB Tryd.f23) x = laws_eqInt64S k x.1 x.2 := by kernel_rfl
theorem laws_eqInt64S.ok (k : Nat) : ConOk Tryd.prog 23 (laws_eqInt64S.con k) := sig_ok (p := (.two .auto (.two .auto (.two (.two .auto (.one (.sum (laws_eqInt64S.l0.s k)))) .auto)))) (laws_eqInt64S.cok k) Tryd.func23 (by kernel_rfl) (show Tryd.f23.body = some (cB Tryd.f23) by kernel_rfl) (by kernel_rfl) (by kernel_rfl) (plan_of (L := [(laws_eqInt64S.l0.s k, cO (cR (cL (cR (cR (cB Tryd.f23))))))]) (by kernel_rfl) ⟨laws_eqInt64S.l0.ok k, trivial⟩) (fun x y h => (laws_eqInt64S.ev k x).trans h)
def laws_eqStep (a1 : G44) (a2 : G44) : Option (Bool) :=
  bif a1.1 != a2.1 then
    some false
  else
  bif a1.2.1 != a2.2.1 then
    some false
  else
  bif a1.2.2.1 != a2.2.2.1 then
    some false
  else
  bif !(a1.2.2.2 == a2.2.2.2) then
    some false
  else
  some true
def laws_eqStep.sig : Sig := { ps := [.val true T44 (ros T44), .val true T44 (ros T44)], rs := [.val false [.v .bool]], ntmps := 25 }
def laws_eqStep.con (k : Nat) : Con := laws_eqStep.sig.con (fun x => laws_eqStep x.1 x.2)
def laws_eqStep.C (k : Nat) : Ctx := { ti := TAB, con := conL [] }
theorem laws_eqStep.cok (k : Nat) : CtxOk Tryd.prog (laws_eqStep.C k) := ctx_ok TABok trivial
theorem laws_eqStep.ev (k : Nat) (x : Prod' laws_eqStep.sig.ins) : laws_eqStep.sig.ev (laws_eqStep.C k) .auto Tryd.f53.results.toList (cB Tryd.f53) x = laws_eqStep x.1 x.2 := by kernel_rfl
theorem laws_eqStep.ok (k : Nat) : ConOk Tryd.prog 53 (laws_eqStep.con k) := sig_ok (p := .auto) (laws_eqStep.cok k) Tryd.func53 (by kernel_rfl) (show Tryd.f53.body = some (cB Tryd.f53) by kernel_rfl) (by kernel_rfl) (by kernel_rfl) (plan_of (L := []) (by kernel_rfl) trivial) (fun x y h => (laws_eqStep.ev k x).trans h)
def laws_eqCmd (a1 : G46) (a2 : G46) : Option (Bool) :=
  bif a1.1 != a2.1 then
    some false
  else
  bif a1.2.1 != a2.2.1 then
    some false
  else
  bif a1.2.2.1 != a2.2.2.1 then
    some false
  else
  bif !(a1.2.2.2.1 == a2.2.2.2.1) then
    some false
  else
  Option.bind (laws_eqStep a1.2.2.2.2 a2.2.2.2.2) fun v3 =>
  bif !v3 then
    some false
  else
  some true
def laws_eqCmd.sig : Sig := { ps := [.val true T46 (ros T46), .val true T46 (ros T46)], rs := [.val false [.v .bool]], ntmps := 31 }
def laws_eqCmd.con (k : Nat) : Con := laws_eqCmd.sig.con (fun x => laws_eqCmd x.1 x.2)
def laws_eqCmd.C (k : Nat) : Ctx := { ti := TAB, con := conL [(53, laws_eqStep.con k)] }
theorem laws_eqCmd.cok (k : Nat) : CtxOk Tryd.prog (laws_eqCmd.C k) := ctx_ok TABok ⟨laws_eqStep.ok k, trivial⟩
theorem laws_eqCmd.ev (k : Nat) (x : Prod' laws_eqCmd.sig.ins) : laws_eqCmd.sig.ev (laws_eqCmd.C k) .auto Tryd.f32.results.toList (cB Tryd.f32) x = laws_eqCmd x.1 x.2 := by kernel_rfl
theorem laws_eqCmd.ok (k : Nat) : ConOk Tryd.prog 32 (laws_eqCmd.con k) := sig_ok (p := .auto) (laws_eqCmd.cok k) Tryd.func32 (by kernel_rfl) (show Tryd.f32.body = some (cB Tryd.f32) by kernel_rfl) (by kernel_rfl) (by kernel_rfl) (plan_of (L := []) (by kernel_rfl) trivial) (fun x y h => (laws_eqCmd.ev k x).trans h)
def laws_eqDeed (k : Nat) (a1 : G48) (a2 : G48) : Option (Bool) :=
  Option.bind (laws_eqCmd a1.1 a2.1) fun v3 =>
  bif !v3 then
    some false
  else
  bif a1.2.1 != a2.2.1 then
    some false
  else
  Option.bind (laws_eqInt64S k a1.2.2.1 a2.2.2.1) fun v4 =>
  bif !v4 then
    some false
  else
  Option.bind (laws_eqInt64S k a1.2.2.2 a2.2.2.2) fun v5 =>
  bif !v5 then
    some false
  else
  some true
def laws_eqDeed.sig : Sig := { ps := [.val true T48 (ros T48), .val true T48 (ros T48)], rs := [.val false [.v .bool]], ntmps := 28 }
def laws_eqDeed.con (k : Nat) : Con := laws_eqDeed.sig.con (fun x => laws_eqDeed k x.1 x.2)
def laws_eqDeed.C (k : Nat) : Ctx := { ti := TAB, con := conL [(23, laws_eqInt64S.con k), (32, laws_eqCmd.con k)], rob := true }
theorem laws_eqDeed.cok (k : Nat) : CtxOk Tryd.prog (laws_eqDeed.C k) := ctx_ok TABok ⟨laws_eqInt64S.ok k, laws_eqCmd.ok k, trivial⟩
theorem laws_eqDeed.ev (k : Nat) (x : Prod' laws_eqDeed.sig.ins) : laws_eqDeed.sig.ev (laws_eqDeed.C k) .auto Tryd.f14.results.toList (cB Tryd.f14) x = laws_eqDeed k x.1 x.2 := by kernel_rfl
theorem laws_eqDeed.ok (k : Nat) : ConOk Tryd.prog 14 (laws_eqDeed.con k) := sig_ok (p := .auto) (laws_eqDeed.cok k) Tryd.func14 (by kernel_rfl) (show Tryd.f14.body = some (cB Tryd.f14) by kernel_rfl) (by kernel_rfl) (by kernel_rfl) (plan_of (L := []) (by kernel_rfl) trivial) (fun x y h => (laws_eqDeed.ev k x).trans h)
def laws_FnExactDeedText (k : Nat) (a1 : G48) : Option (Bool) :=
  Option.bind (laws_szDeed a1 1048576) fun v2 =>
  bif decide (v2 < 0) then
    some true
  else
  Option.bind (laws_toDeed k a1) fun v3 =>
  Option.bind (spec_DeedText k ((v3.1, (v3.2.1, (v3.2.2.1, (v3.2.2.2.1, (v3.2.2.2.2.1, (v3.2.2.2.2.2.1, (v3.2.2.2.2.2.2.1, v3.2.2.2.2.2.2.2.1))))))), v3.2.2.2.2.2.2.2.2)) fun v4 =>
  Option.bind (laws_toDeed k a1) fun v5 =>
  let e6 := ((v5.1, (v5.2.1, (v5.2.2.1, (v5.2.2.2.1, (v5.2.2.2.2.1, (v5.2.2.2.2.2.1, (v5.2.2.2.2.2.2.1, v5.2.2.2.2.2.2.2.1))))))), v5.2.2.2.2.2.2.2.2)
  Option.bind (impl_DeedText k e6) fun v7 =>
  bif !(v7 == v4) then
    some false
  else
  Option.bind (laws_toDeed k a1) fun v8 =>
  Option.bind (laws_eqDeed k e6 ((v8.1, (v8.2.1, (v8.2.2.1, (v8.2.2.2.1, (v8.2.2.2.2.1, (v8.2.2.2.2.2.1, (v8.2.2.2.2.2.2.1, v8.2.2.2.2.2.2.2.1))))))), v8.2.2.2.2.2.2.2.2)) fun v9 =>
  bif !v9 then
    some false
  else
  some true
def laws_FnExactDeedText.sig : Sig := { ps := [.val true T48 (ros T48)], rs := [.val false [.v .bool]], ntmps := 27 }
def laws_FnExactDeedText.con (k : Nat) : Con := laws_FnExactDeedText.sig.con (fun x => laws_FnExactDeedText k x)
def laws_FnExactDeedText.C (k : Nat) : Ctx := { ti := TAB, con := conL [(10, laws_szDeed.con k), (11, spec_DeedText.con k), (12, laws_toDeed.con k), (13, impl_DeedText.con k), (14, laws_eqDeed.con k)], rob := true }
theorem laws_FnExactDeedText.cok (k : Nat) : CtxOk Tryd.prog (laws_FnExactDeedText.C k) := ctx_ok TABok ⟨laws_szDeed.ok k, spec_DeedText.ok k, laws_toDeed.ok k, impl_DeedText.ok k, laws_eqDeed.ok k, trivial⟩
theorem laws_FnExactDeedText.ev (k : Nat) (x : Prod' laws_FnExactDeedText.sig.ins) : laws_FnExactDeedText.sig.ev (laws_FnExactDeedText.C k) .auto Tryd.f4.results.toList (cB Tryd.f4) x = laws_FnExactDeedText k x := by kernel_rfl
theorem laws_FnExactDeedText.ok (k : Nat) : ConOk Tryd.prog 4 (laws_FnExactDeedText.con k) := sig_ok (p := .auto) (laws_FnExactDeedText.cok k) Tryd.func4 (by kernel_rfl) (show Tryd.f4.body = some (cB Tryd.f4) by kernel_rfl) (by kernel_rfl) (by kernel_rfl) (plan_of (L := []) (by kernel_rfl) trivial) (fun x y h => (laws_FnExactDeedText.ev k x).trans h)
end Go.Proofs.YtaajcllchbnjiaaDoorE

namespace Go.Proofs.YtaajcllchbnjiaaDoorE
open Go
set_option linter.unusedVariables false
def Ever (p : Nat → Prop) : Prop := ∃ K, ∀ k, K ≤ k → p k
theorem Ever.of {p : Nat → Prop} (h : ∀ k, p k) : Ever p := ⟨0, fun k _ => h k⟩
theorem Ever.ge {p : Nat → Prop} (K : Nat) (h : ∀ k, K ≤ k → p k) : Ever p := ⟨K, h⟩
theorem Ever.mono {p q : Nat → Prop} (h : Ever p) (f : ∀ k, p k → q k) : Ever q := by
  obtain ⟨K, h⟩ := h
  exact ⟨K, fun k hk => f k (h k hk)⟩
theorem Ever.and {p q : Nat → Prop} (h : Ever p) (g : Ever q) : Ever fun k => p k ∧ q k := by
  obtain ⟨K, h⟩ := h
  obtain ⟨J, g⟩ := g
  exact ⟨K + J, fun k hk => ⟨h k (by omega), g k (by omega)⟩⟩
theorem Ever.ex {p : Nat → Prop} (h : Ever p) : ∃ k, p k := by
  obtain ⟨K, h⟩ := h
  exact ⟨K, h K (Nat.le_refl K)⟩
theorem Ever.all {n : Nat} {p : Nat → Nat → Prop} : (∀ i, i < n → Ever (p i)) → Ever fun k => ∀ i, i < n → p i k := by
  induction n with
  | zero => exact fun _ => ⟨0, fun k _ i hi => absurd hi (Nat.not_lt_zero i)⟩
  | succ n ih =>
    intro h
    refine ((ih fun i hi => h i (Nat.lt_succ_of_lt hi)).and (h n (Nat.lt_succ_self n))).mono fun k hk i hi => ?_
    rcases Nat.eq_or_lt_of_le (Nat.le_of_lt_succ hi) with rfl | hi
    · exact hk.2
    · exact hk.1 i hi
/-- Two facts, then a third. -/
theorem Ever.two {p q r : Nat → Prop} (h : Ever p) (g : Ever q) (f : ∀ k, p k → q k → r k) : Ever r := (h.and g).mono fun k hk => f k hk.1 hk.2
/-- A loop of n rounds: what it has in hand at round i is told by i. -/
theorem ever_loop {R : Type} (L : Nat → Nat → Nat → Option R) (n : Nat) (r : R) (hs : Ever fun k => ∀ i, i < n → ∀ j, L k (j + 1) i = L k j (i + 1)) (hl : Ever fun k => ∀ j, L k (j + 1) n = some r) : Ever fun k => L k k 0 = some r := by
  obtain ⟨K, hs⟩ := hs
  obtain ⟨J, hl⟩ := hl
  refine ⟨K + J + n + 1, fun k hk => ?_⟩
  have hs := hs k (by omega)
  have hl := hl k (by omega)
  have key : ∀ d i j, i + d = n → d < j → L k j i = some r := by
    intro d
    induction d with
    | zero =>
      intro i j hi hj
      obtain ⟨m, rfl⟩ : ∃ m, j = m + 1 := ⟨j - 1, by omega⟩
      obtain rfl : i = n := by omega
      exact hl m
    | succ d ih =>
      intro i j hi hj
      obtain ⟨m, rfl⟩ : ∃ m, j = m + 1 := ⟨j - 1, by omega⟩
      rw [hs i (by omega) m]
      exact ih (i + 1) m (by omega) (by omega)
  exact key n 0 k (by omega) (by omega)
/-- The same, where neither the round nor the end hangs on fuel. -/
theorem loop_of {R : Type} (L : Nat → Nat → Option R) (n : Nat) (r : R) (hs : ∀ i, i < n → ∀ j, L (j + 1) i = L j (i + 1)) (hl : ∀ j, L (j + 1) n = some r) : Ever fun k => L k 0 = some r :=
  ever_loop (fun _ j i => L j i) n r (Ever.of fun _ => hs) (Ever.of fun _ => hl)
theorem loop_at {R : Type} (L : Nat → Nat → Option R) (n : Nat) (r : R) (hs : ∀ i, i < n → ∀ j, L (j + 1) i = L j (i + 1)) (hl : ∀ j, L (j + 1) n = some r) : ∀ k, n < k → L k 0 = some r := by
  have key : ∀ d i j, i + d = n → d < j → L j i = some r := by
    intro d
    induction d with
    | zero =>
      intro i j hi hj
      obtain ⟨m, rfl⟩ : ∃ m, j = m + 1 := ⟨j - 1, by omega⟩
      obtain rfl : i = n := by omega
      exact hl m
    | succ d ih =>
      intro i j hi hj
      obtain ⟨m, rfl⟩ : ∃ m, j = m + 1 := ⟨j - 1, by omega⟩
      rw [hs i (by omega) m]
      exact ih (i + 1) m (by omega) (by omega)
  exact fun k hk => key n 0 k (by omega) hk
theorem bnd {α β : Type} {f : Nat → Option α} {g : Nat → α → Option β} {a : α} {b : β} (h : Ever fun k => f k = some a) (k : Ever fun k => g k a = some b) : Ever fun k => (f k).bind (g k) = some b :=
  h.two k fun k h1 h2 => by rw [h1]; exact h2
theorem some_cond {α : Type} {b : Bool} {x y : Option α} (hx : ∃ v, x = some v) (hy : ∃ v, y = some v) : ∃ v, (bif b then x else y) = some v := by
  cases b
  · exact hy
  · exact hx
theorem some_bind {α β : Type} {x : Option α} {f : α → Option β} (hx : ∃ v, x = some v) (hf : ∀ v, ∃ w, f v = some w) : ∃ w, x.bind f = some w := by
  obtain ⟨v, rfl⟩ := hx
  exact hf v
/-! ### numbers -/
theorem w64 {n : Int} (h0 : -9223372036854775808 ≤ n) (h1 : n < 9223372036854775808) : IntKind.wrap .i64 n = n := by
  simp [IntKind.wrap, IntKind.bits, IntKind.signed]
  omega
theorem wf64 {n : Int} (h : Bnd (.int .i64) n) : -9223372036854775808 ≤ n ∧ n < 9223372036854775808 := by
  have h : (Lit.int .i64 n).wf = true := h
  simp [Lit.wf, IntKind.min, IntKind.max, IntKind.signed, IntKind.bits] at h
  omega
theorem wn {n : Nat} (h : n < 9223372036854775808) : IntKind.wrap .i64 (n : Int) = n := w64 (by omega) (by omega)
theorem wsuc {n : Nat} (h : n < 9223372036854775807) : IntKind.wrap .i64 ((n : Int) + 1) = ((n + 1 : Nat) : Int) := by rw [w64] <;> omega
/-! ### partial answers -/
theorem at_nat {α : Type} {l : List α} {i : Nat} (h : i < l.length) : at? l (i : Int) = some l[i] := by
  unfold at?
  rw [if_pos (by omega), Int.toNat_natCast, List.getElem?_eq_getElem h]
theorem app_ok {α : Type} {n : Nat} {a b : List α} (h : (a.length + b.length) * n ≤ 140737488355328) : app? n a b = some (a ++ b) := if_pos h
theorem cat_some {a b : Str} (h : a.length + b.length ≤ 9223372036854775807) : cat? a b = some (a ++ b) := if_pos h
theorem make_some {α : Type} {b n : Nat} {x : α} (h : n * b ≤ 140737488355328) : make? b (n : Int) (n : Int) x = some (List.replicate n x) := by
  unfold make?
  rw [if_pos ⟨by omega, Int.le_refl _, by rw [Int.toNat_natCast]; exact h⟩, Int.toNat_natCast]
theorem cut_ok {α : Type} {l : List α} {i j : Nat} (h : i ≤ j) (k : j ≤ l.length) : cut? l (i : Int) (j : Int) = some ((l.take j).drop i) := by
  unfold cut?
  rw [if_pos ⟨by omega, by omega, by omega⟩, Int.toNat_natCast, Int.toNat_natCast]
theorem room_some {n b : Nat} (h : n * b ≤ 140737488355328) : room? n b = some () := if_pos h
theorem nz_some {b : Int} (h : b ≠ 0) : nz? b = some () := if_neg h
theorem nneg_some {b : Int} (h : 0 ≤ b) : nneg? b = some () := if_neg (by omega)
theorem take_map_succ {α β : Type} {l : List α} (f : α → β) {i : Nat} (h : i < l.length) : (l.take (i + 1)).map f = (l.take i).map f ++ [f l[i]] := by
  rw [List.take_add_one, List.getElem?_eq_getElem h, List.map_append]
  rfl
theorem take_succ' {α : Type} {l : List α} {i : Nat} (h : i < l.length) : l.take (i + 1) = l.take i ++ [l[i]] := by
  rw [List.take_add_one, List.getElem?_eq_getElem h]
  rfl
/-- A list that is filled, place by place. -/
theorem fill_set {α β : Type} {l : List α} {f : α → β} {z : β} {i : Nat} (h : i < l.length) :
    ((l.take i).map f ++ List.replicate (l.length - i) z).set i (f l[i]) = (l.take (i + 1)).map f ++ List.replicate (l.length - (i + 1)) z := by
  have hl : ((l.take i).map f).length = i := by simp; omega
  rw [List.set_append_right _ _ (by rw [hl]; exact Nat.le_refl i), hl, Nat.sub_self, show l.length - i = (l.length - (i + 1)) + 1 by omega, List.replicate_succ, List.set_cons_zero, take_map_succ f h, List.append_assoc]
  rfl
theorem fill_len {α β : Type} {l : List α} {f : α → β} {z : β} {i : Nat} (h : i ≤ l.length) : ((l.take i).map f ++ List.replicate (l.length - i) z).length = l.length := by simp; omega
end Go.Proofs.YtaajcllchbnjiaaDoorE

namespace Go.Proofs.YtaajcllchbnjiaaDoorE
open Go
set_option linter.unusedVariables false
/-- A step is taken for each element, until one of them ends it. -/
def runL {α S R : Type} (f : S → α → S ⊕ R) (g : S → R) : List α → S → R
  | [], s => g s
  | x :: l, s => match f s x with
    | .inl s' => runL f g l s'
    | .inr r => r
theorem runL_inl {α S R : Type} {f : S → α → S ⊕ R} {g : S → R} {x : α} {l : List α} {s s' : S} (h : f s x = .inl s') : runL f g (x :: l) s = runL f g l s' := by
  have e : runL f g (x :: l) s = match f s x with | .inl s' => runL f g l s' | .inr r => r := rfl
  rw [e, h]
theorem runL_inr {α S R : Type} {f : S → α → S ⊕ R} {g : S → R} {x : α} {l : List α} {s : S} {r : R} (h : f s x = .inr r) : runL f g (x :: l) s = r := by
  have e : runL f g (x :: l) s = match f s x with | .inl s' => runL f g l s' | .inr r => r := rfl
  rw [e, h]
theorem loop_from {α S R : Type} (L : Nat → S → Int → Option R) (l : List α) (f : S → α → S ⊕ R) (g : S → R) (I : Nat → S → Prop)
    (hs : ∀ (i : Nat) (h : i < l.length) (s : S), I i s → (∃ s', f s l[i] = .inl s' ∧ I (i + 1) s' ∧ ∀ j, L (j + 1) s (i : Int) = L j s' ((i + 1 : Nat) : Int)) ∨ ∃ r, f s l[i] = .inr r ∧ ∀ j, L (j + 1) s (i : Int) = some r)
    (he : ∀ (s : S), I l.length s → ∀ j, L (j + 1) s (l.length : Int) = some (g s)) : ∀ (d i : Nat) (s : S), i + d = l.length → I i s → ∀ j, d < j → L j s (i : Int) = some (runL f g (l.drop i) s) := by
  intro d
  induction d with
  | zero =>
    intro i s hi hI j hj
    obtain ⟨j, rfl⟩ : ∃ q, j = q + 1 := ⟨j - 1, by omega⟩
    obtain rfl : i = l.length := by omega
    rw [List.drop_length, he s hI]
    rfl
  | succ d ih =>
    intro i s hi hI j hj
    obtain ⟨j, rfl⟩ : ∃ q, j = q + 1 := ⟨j - 1, by omega⟩
    have hlt : i < l.length := by omega
    rw [List.drop_eq_getElem_cons hlt]
    rcases hs i hlt s hI with ⟨s', h1, h2, h3⟩ | ⟨r, h1, h3⟩
    · rw [h3 j]
      show _ = some (match f s l[i] with | .inl s' => runL f g (l.drop (i + 1)) s' | .inr r => r)
      rw [h1]
      exact ih (i + 1) s' (by omega) h2 j (by omega)
    · rw [h3 j]
      show _ = some (match f s l[i] with | .inl s' => runL f g (l.drop (i + 1)) s' | .inr r => r)
      rw [h1]
theorem loop_fold {α S R : Type} (L : Nat → S → Int → Option R) (l : List α) (f : S → α → S ⊕ R) (g : S → R) (I : Nat → S → Prop)
    (hs : ∀ (i : Nat) (h : i < l.length) (s : S), I i s → (∃ s', f s l[i] = .inl s' ∧ I (i + 1) s' ∧ ∀ j, L (j + 1) s (i : Int) = L j s' ((i + 1 : Nat) : Int)) ∨ ∃ r, f s l[i] = .inr r ∧ ∀ j, L (j + 1) s (i : Int) = some r)
    (he : ∀ (s : S), I l.length s → ∀ j, L (j + 1) s (l.length : Int) = some (g s)) {s : S} (hI : I 0 s) {k : Nat} (hk : l.length < k) : L k s 0 = some (runL f g l s) :=
  loop_from L l f g I hs he l.length 0 s (Nat.zero_add _) hI k hk
/-- A loop that tests each element with a partial function that answers, and leaves at the first that passes. -/
def firstI {α : Type} (p : α → Bool) : List α → Nat → Option Nat
  | [], _ => none
  | x :: l, i => if p x then some i else firstI p l (i + 1)
theorem loop_find {α R : Type} (L : Nat → Int → Option R) (l : List α) (p : α → Bool) (a : R) (b : Nat → R)
    (hs : ∀ (i : Nat) (h : i < l.length), (p l[i] = false → ∀ j, L (j + 1) (i : Int) = L j ((i + 1 : Nat) : Int)) ∧ (p l[i] = true → ∀ j, L (j + 1) (i : Int) = some (b i)))
    (he : ∀ j, L (j + 1) (l.length : Int) = some a) {k : Nat} (hk : l.length < k) : L k 0 = some (match firstI p l 0 with | some i => b i | none => a) := by
  have key : ∀ (d i : Nat), i + d = l.length → ∀ j, d < j → L j (i : Int) = some (match firstI p (l.drop i) i with | some i => b i | none => a) := by
    intro d
    induction d with
    | zero =>
      intro i hi j hj
      obtain ⟨j, rfl⟩ : ∃ q, j = q + 1 := ⟨j - 1, by omega⟩
      obtain rfl : i = l.length := by omega
      rw [List.drop_length, he]
      rfl
    | succ d ih =>
      intro i hi j hj
      obtain ⟨j, rfl⟩ : ∃ q, j = q + 1 := ⟨j - 1, by omega⟩
      have hlt : i < l.length := by omega
      rw [List.drop_eq_getElem_cons hlt]
      obtain ⟨h1, h2⟩ := hs i hlt
      cases hp : p l[i] with
      | true => rw [h2 hp j]; simp [firstI, hp]
      | false =>
        rw [h1 hp j, ih (i + 1) (by omega) j (by omega)]
        simp [firstI, hp]
  have := key l.length 0 (Nat.zero_add _) k hk
  rwa [List.drop_zero] at this
theorem firstI_some {α : Type} {p : α → Bool} : ∀ {l : List α} {n i : Nat}, firstI p l n = some i → n ≤ i ∧ ∃ h : i - n < l.length, p (l[i - n]) = true ∧ ∀ j, (hj : j < i - n) → p (l[j]'(by omega)) = false
  | [], _, _, h => by cases h
  | x :: l, n, i, h => by
    unfold firstI at h
    split at h
    · rename_i hp
      cases h
      refine ⟨Nat.le_refl _, by simp, ?_, fun j hj => by omega⟩
      simpa using hp
    · rename_i hp
      obtain ⟨h1, h2, h3, h4⟩ := firstI_some h
      refine ⟨by omega, by simp only [List.length_cons]; omega, ?_, fun j hj => ?_⟩
      · have e : i - n = (i - (n + 1)) + 1 := by omega
        simpa [e] using h3
      · cases j with
        | zero => simpa using hp
        | succ j => simpa using h4 j (by omega)
theorem firstI_none {α : Type} {p : α → Bool} : ∀ {l : List α} {n : Nat}, firstI p l n = none ↔ ∀ x ∈ l, p x = false
  | [], n => by simp [firstI]
  | x :: l, n => by
    unfold firstI
    split
    · rename_i hp
      simp [hp]
    · rename_i hp
      rw [firstI_none]
      simp at hp
      simp [hp]
theorem firstI_any {α : Type} {p : α → Bool} {l : List α} {n : Nat} : (firstI p l n).isSome = l.any p := by
  cases h : firstI p l n with
  | none =>
    have := firstI_none.1 h
    symm
    simp only [Option.isSome_none, List.any_eq_false]
    intro x hx
    rw [this x hx]
    exact nofun
  | some i =>
    obtain ⟨_, h2, h3, _⟩ := firstI_some h
    symm
    exact List.any_eq_true.2 ⟨_, List.getElem_mem h2, h3⟩
/-- A list that is copied place by place. -/
theorem copy_loop {α : Type} (L : Nat → Int → List α → Option (List α)) (l : List α) (z : α)
    (hs : ∀ (i : Nat) (h : i < l.length) (c : List α), c.length = l.length → ∀ j, L (j + 1) (i : Int) c = L j ((i + 1 : Nat) : Int) (c.set i l[i]))
    (he : ∀ (c : List α) j, L (j + 1) (l.length : Int) c = some c) {k : Nat} (hk : l.length < k) : L k 0 (List.replicate l.length z) = some l := by
  have key : ∀ (d i : Nat), i + d = l.length → ∀ j, d < j → L j (i : Int) (l.take i ++ List.replicate (l.length - i) z) = some l := by
    intro d
    induction d with
    | zero =>
      intro i hi j hj
      obtain ⟨j, rfl⟩ : ∃ q, j = q + 1 := ⟨j - 1, by omega⟩
      obtain rfl : i = l.length := by omega
      rw [he, Nat.sub_self, List.take_length]
      simp
    | succ d ih =>
      intro i hi j hj
      obtain ⟨j, rfl⟩ : ∃ q, j = q + 1 := ⟨j - 1, by omega⟩
      have hlt : i < l.length := by omega
      rw [hs i hlt _ (by simp; omega)]
      have e : (l.take i ++ List.replicate (l.length - i) z).set i l[i] = l.take (i + 1) ++ List.replicate (l.length - (i + 1)) z := by
        have hl : (l.take i).length = i := by simp; omega
        rw [List.set_append_right _ _ (by omega), hl, Nat.sub_self, show l.length - i = (l.length - (i + 1)) + 1 by omega, List.replicate_succ, List.set_cons_zero, take_succ' hlt, List.append_assoc]
        rfl
      rw [e]
      exact ih (i + 1) (by omega) j (by omega)
  have := key l.length 0 (Nat.zero_add _) k hk
  simpa using this
theorem dlt {a b : Nat} (h : a < b) : decide ((a : Int) < (b : Int)) = true := decide_eq_true (by omega)
theorem dnlt {a b : Nat} (h : b ≤ a) : decide ((a : Int) < (b : Int)) = false := decide_eq_false (by omega)
theorem bnd' {α β : Type} {x : Option α} {f : α → Option β} {a : α} {b : Option β} (h : x = some a) (k : f a = b) : x.bind f = b := by rw [h]; exact k
theorem cat_loop {α : Type} (L : Nat → Nat → Str → Int → Option Str) (l : List α) (f : α → Str) (B M : Nat) (hB : ∀ x ∈ l, (f x).length ≤ B)
    (hs : ∀ i, (h : i < l.length) → Ever fun k => ∀ acc j, acc.length ≤ M → L k (j + 1) acc (i : Int) = L k j (acc ++ f l[i]) ((i + 1 : Nat) : Int))
    (he : ∀ k acc j, L k (j + 1) acc (l.length : Int) = some acc) (acc : Str) (ha : acc.length + B * l.length ≤ M) : Ever fun k => L k k acc 0 = some (acc ++ (l.map f).flatten) := by
  have hall : Ever fun k => ∀ i, i < l.length → ∀ (h : i < l.length) acc j, acc.length ≤ M → L k (j + 1) acc (i : Int) = L k j (acc ++ f l[i]) ((i + 1 : Nat) : Int) := Ever.all fun i hi => (hs i hi).mono fun k hk h => hk
  obtain ⟨K, hK⟩ := hall
  refine Ever.ge (K + l.length + 1) fun k hk => ?_
  have hK := hK k (by omega)
  have key : ∀ (d i : Nat) (acc : Str), i + d = l.length → acc.length + B * d ≤ M → ∀ j, d < j → L k j acc (i : Int) = some (acc ++ ((l.drop i).map f).flatten) := by
    intro d
    induction d with
    | zero =>
      intro i acc hi hacc j hj
      obtain ⟨j, rfl⟩ : ∃ q, j = q + 1 := ⟨j - 1, by omega⟩
      obtain rfl : i = l.length := by omega
      rw [he, List.drop_length]
      simp
    | succ d ih =>
      intro i acc hi hacc j hj
      obtain ⟨j, rfl⟩ : ∃ q, j = q + 1 := ⟨j - 1, by omega⟩
      have h : i < l.length := by omega
      have hf := hB _ (List.getElem_mem h)
      rw [Nat.mul_succ] at hacc
      rw [hK i h h acc j (by omega), ih (i + 1) _ (by omega) (by rw [List.length_append]; omega) j (by omega), List.drop_eq_getElem_cons h, List.map_cons, List.flatten_cons, List.append_assoc]
  have := key l.length 0 acc (Nat.zero_add _) ha k (by omega)
  rwa [List.drop_zero] at this
end Go.Proofs.YtaajcllchbnjiaaDoorE

namespace Go.Proofs.YtaajcllchbnjiaaDoorE
open Go
set_option linter.unusedVariables false
theorem u8w (n : Int) : IntKind.wrap .u8 n = n % 256 := by simp [IntKind.wrap, IntKind.bits, IntKind.signed]
theorem u32w (n : Int) : IntKind.wrap .u32 n = n % 4294967296 := by simp [IntKind.wrap, IntKind.bits, IntKind.signed]
theorem u64w (n : Int) : IntKind.wrap .u64 n = n % 18446744073709551616 := by simp [IntKind.wrap, IntKind.bits, IntKind.signed]
theorem bx32 (a b : Nat) (ha : a < 4294967296) (hb : b < 4294967296) : intBits .xor .u32 (a : Int) (b : Int) = ((a ^^^ b : Nat) : Int) := by
  have hx : a ^^^ b < 2 ^ 32 := Nat.xor_lt_two_pow (by omega) (by omega)
  show IntKind.wrap .u32 (((BitVec.ofInt 32 (a : Int)) ^^^ (BitVec.ofInt 32 (b : Int))).toNat : Int) = _
  rw [BitVec.ofInt_natCast, BitVec.ofInt_natCast, BitVec.toNat_xor, BitVec.toNat_ofNat, BitVec.toNat_ofNat, u32w, Nat.mod_eq_of_lt (show a < 2 ^ 32 by omega), Nat.mod_eq_of_lt (show b < 2 ^ 32 by omega)]
  omega
theorem band1 (a : Nat) (ha : a < 4294967296) : intBits .and .u32 (a : Int) 1 = ((a % 2 : Nat) : Int) := by
  have h : a &&& 1 = a % 2 := Nat.and_one_is_mod a
  show IntKind.wrap .u32 (((BitVec.ofInt 32 (a : Int)) &&& (BitVec.ofInt 32 ((1 : Nat) : Int))).toNat : Int) = _
  rw [BitVec.ofInt_natCast, BitVec.ofInt_natCast, BitVec.toNat_and, BitVec.toNat_ofNat, BitVec.toNat_ofNat, u32w, Nat.mod_eq_of_lt (show a < 2 ^ 32 by omega), Nat.mod_eq_of_lt (show 1 < 2 ^ 32 by omega), h]
  omega
theorem band64 (a : Nat) (ha : a < 18446744073709551616) : intBits .and .u64 (a : Int) 1 = ((a % 2 : Nat) : Int) := by
  have h : a &&& 1 = a % 2 := Nat.and_one_is_mod a
  show IntKind.wrap .u64 (((BitVec.ofInt 64 (a : Int)) &&& (BitVec.ofInt 64 ((1 : Nat) : Int))).toNat : Int) = _
  rw [BitVec.ofInt_natCast, BitVec.ofInt_natCast, BitVec.toNat_and, BitVec.toNat_ofNat, BitVec.toNat_ofNat, u64w, Nat.mod_eq_of_lt (show a < 2 ^ 64 by omega), Nat.mod_eq_of_lt (show 1 < 2 ^ 64 by omega), h]
  omega
theorem bor64 (a b : Nat) (ha : a < 18446744073709551616) (hb : b < 18446744073709551616) : intBits .or .u64 (a : Int) (b : Int) = ((a ||| b : Nat) : Int) := by
  show IntKind.wrap .u64 (((BitVec.ofInt 64 (a : Int)) ||| (BitVec.ofInt 64 (b : Int))).toNat : Int) = _
  have hx : a ||| b < 2 ^ 64 := Nat.or_lt_two_pow (by omega) (by omega)
  rw [BitVec.ofInt_natCast, BitVec.ofInt_natCast, BitVec.toNat_or, BitVec.toNat_ofNat, BitVec.toNat_ofNat, u64w, Nat.mod_eq_of_lt (show a < 2 ^ 64 by omega), Nat.mod_eq_of_lt (show b < 2 ^ 64 by omega)]
  omega
theorem and127 : ∀ a : Nat, a < 256 → intBits .and .u8 ((a : Nat) : Int) 127 = ((a % 128 : Nat) : Int) := by decide +kernel
theorem noti64 (a : Nat) (h : a < 9223372036854775808) : intBits .xor .i64 (-1) (a : Int) = -(a : Int) - 1 := by
  show IntKind.wrap .i64 (((BitVec.ofInt 64 (-1)) ^^^ (BitVec.ofInt 64 (a : Int))).toNat : Int) = _
  have e : (BitVec.ofInt 64 (-1)) = BitVec.allOnes 64 := by decide
  rw [BitVec.ofInt_natCast, e, BitVec.allOnes_xor, BitVec.toNat_not, BitVec.toNat_ofNat, IntKind.wrap_i64, Nat.mod_eq_of_lt (show a < 2 ^ 64 by omega)]
  omega
theorem shr_nat (k : IntKind) (r m : Nat) (h : m ≤ k.bits) : shr k (r : Int) (m : Int) = ((r / 2 ^ m : Nat) : Int) := by
  unfold shr
  rw [Int.toNat_natCast, Nat.min_eq_left h, Int.fdiv_eq_ediv_of_nonneg _ (by exact Int.le_of_lt (Int.pow_pos (by omega)))]
  push_cast
  rfl
theorem byte_lt (c : UInt8) : c.toNat < 256 := c.toNat_lt
theorem byte_of (c : UInt8) : UInt8.ofNat ((c.toNat : Nat) : Int).toNat = c := by simp
/-! ### the CRC -/
def crcBit (r : Nat) : Nat := if r % 2 = 1 then (r / 2) ^^^ 3988292384 else r / 2
def crcBits : Nat → Nat → Nat
  | 0, r => r
  | n + 1, r => crcBits n (crcBit r)
def crcRun : Str → Nat → Nat
  | [], r => r
  | c :: l, r => crcRun l (crcBits 8 (r ^^^ c.toNat))
def crcOf (c : Nat) (s : Str) : Nat := (crcRun s (c ^^^ 4294967295)) ^^^ 4294967295
theorem x32 {a b : Nat} (ha : a < 4294967296) (hb : b < 4294967296) : a ^^^ b < 4294967296 := Nat.xor_lt_two_pow (n := 32) ha hb
theorem crcBit_lt {r : Nat} (h : r < 4294967296) : crcBit r < 4294967296 := by
  unfold crcBit
  split
  · exact x32 (by omega) (by omega)
  · omega
theorem crcBits_lt : ∀ (n : Nat) {r : Nat}, r < 4294967296 → crcBits n r < 4294967296
  | 0, _, h => h
  | n + 1, _, h => crcBits_lt n (crcBit_lt h)
theorem crcRun_lt : ∀ (l : Str) {r : Nat}, r < 4294967296 → crcRun l r < 4294967296
  | [], _, h => h
  | c :: l, r, h => crcRun_lt l (crcBits_lt 8 (x32 h (by have := byte_lt c; omega)))
theorem crcOf_lt {c : Nat} (s : Str) (h : c < 4294967296) : crcOf c s < 4294967296 := x32 (crcRun_lt _ (x32 h (by omega))) (by omega)
/-- The four bytes of a CRC. -/
def four (n : Nat) : Str := listByte [((n % 256 : Nat) : Int), ((n / 256 % 256 : Nat) : Int), ((n / 65536 % 256 : Nat) : Int), ((n / 16777216 % 256 : Nat) : Int)]
def sealOf (s : Str) : Str := s ++ four (crcOf 0 s)
theorem four_len (n : Nat) : (four n).length = 4 := rfl
theorem sealOf_len (s : Str) : (sealOf s).length = s.length + 4 := by unfold sealOf; rw [List.length_append, four_len]
/-- What stands ahead of the seal. -/
def bodyOf (s : Str) : Str := s.take (s.length - 4)
theorem body_len (s : Str) : (bodyOf s).length = s.length - 4 := by unfold bodyOf; simp
theorem seal_inj {a b : Str} : sealOf a = sealOf b ↔ a = b := by
  constructor
  · intro h
    exact List.append_inj_left' h (by rw [four_len, four_len])
  · rintro rfl; rfl
theorem tail_iff (s : Str) : (four (crcOf 0 (bodyOf s)) = s.drop (s.length - 4)) ↔ sealOf (bodyOf s) = s := by
  have e : s = bodyOf s ++ s.drop (s.length - 4) := (List.take_append_drop _ _).symm
  unfold sealOf
  constructor
  · intro h; rw [h]; exact e.symm
  · intro h
    exact List.append_cancel_left (h.trans e)
theorem body_seal (s : Str) : bodyOf (sealOf s) = s := by
  unfold bodyOf
  rw [sealOf_len, Nat.add_sub_cancel]
  unfold sealOf
  simp
def unsealI (s : Str) : Str × Int := if s.length < 4 then ([], 4) else if sealOf (bodyOf s) = s then (bodyOf s, 0) else ([], 5)
theorem unseal_ok {s : Str} (h : (unsealI s).2 = 0) : unsealI s = (bodyOf s, 0) ∧ sealOf (bodyOf s) = s ∧ 4 ≤ s.length := by
  unfold unsealI at h ⊢
  by_cases h4 : s.length < 4
  · rw [if_pos h4] at h; simp at h
  · rw [if_neg h4] at h ⊢
    by_cases he : sealOf (bodyOf s) = s
    · rw [if_pos he]; exact ⟨rfl, he, by omega⟩
    · rw [if_neg he] at h; simp at h
theorem unseal_no {s : Str} (h : (unsealI s).2 ≠ 0) : (unsealI s).1 = [] := by
  unfold unsealI at h ⊢
  by_cases h4 : s.length < 4
  · rw [if_pos h4]
  · rw [if_neg h4] at h ⊢
    by_cases he : sealOf (bodyOf s) = s
    · rw [if_pos he] at h; exact absurd rfl h
    · rw [if_neg he]
theorem unseal_len (s : Str) : (unsealI s).1.length ≤ s.length := by
  unfold unsealI
  split
  · simp
  · split
    · rw [body_len]; omega
    · simp
theorem unseal_seal (s : Str) : unsealI (sealOf s) = (s, 0) := by
  unfold unsealI
  rw [body_seal, if_neg (by rw [sealOf_len]; omega), if_pos rfl]
/-! ### numbers as bytes -/
/-- The zigzag number. -/
def zig (n : Int) : Nat := if n < 0 then (-2 * n - 1).toNat else (2 * n).toNat
/-- The groups of seven bits of a number, as bytes; f: a bound on their count. -/
def groups : Nat → Nat → List Int
  | 0, _ => []
  | f + 1, u => if 128 ≤ u then ((u % 128 + 128 : Nat) : Int) :: groups f (u / 128) else [(u : Int)]
def putOf (n : Int) : Str := listByte (groups 10 (zig n))
def Num (n : Int) : Prop := -9223372036854775808 ≤ n ∧ n < 9223372036854775808
theorem zig_lt {n : Int} (h : Num n) : zig n < 18446744073709551616 := by unfold Num at h; unfold zig; split <;> omega
theorem groups_len : ∀ (f u : Nat), (groups f u).length ≤ f
  | 0, _ => by simp [groups]
  | f + 1, u => by
    unfold groups
    split
    · simp only [List.length_cons]; have := groups_len f (u / 128); omega
    · simp
theorem listByte_len (l : List Int) : (listByte l).length = l.length := by simp [listByte]
theorem putOf_len (n : Int) : (putOf n).length ≤ 10 := by
  unfold putOf
  rw [listByte_len]
  exact groups_len 10 _
theorem putOf_pos (n : Int) : 1 ≤ (putOf n).length := by
  unfold putOf
  rw [listByte_len]
  unfold groups
  split <;> simp
def putTextOf (s : Str) : Str := putOf (s.length : Int) ++ s
theorem putTextOf_len (s : Str) : (putTextOf s).length ≤ 10 + s.length := by
  unfold putTextOf
  have := putOf_len (s.length : Int)
  rw [List.length_append]
  omega
/-! ### numbers, read back -/
def unz (u : Nat) : Int := if u % 2 = 1 then -((u / 2 : Nat) : Int) - 1 else ((u / 2 : Nat) : Int)
/-- A number's groups, read: the number, how many bytes, the code. -/
def gn : Nat → Nat → Nat → Str → Int × Nat × Int
  | 0, _, _, _ => (0, 0, 3)
  | _ + 1, _, _, [] => (0, 0, 4)
  | f + 1, i, u, b :: l => if i = 9 ∧ 1 < b.toNat then (0, 0, 3) else if 128 ≤ b.toNat then gn f (i + 1) (u + b.toNat % 128 * 128 ^ i) l else if b.toNat = 0 ∧ 0 < i then (0, 0, 3) else (unz (u + b.toNat % 128 * 128 ^ i), i + 1, 0)
/-- What the readers make of it: the number, the place behind it, the code. -/
def fin (a : Nat) (r : Int × Nat × Int) : Int × Int × Int := if r.2.2 = 0 then (r.1, ((a + r.2.1 : Nat) : Int), 0) else (0, 0, r.2.2)
def getNumZ (s : Str) (a : Nat) : Int × Int × Int := fin a (gn 10 0 0 (s.drop a))
theorem p128 (i : Nat) : (2 : Nat) ^ (7 * i) = 128 ^ i := by rw [Nat.pow_mul]
theorem step_lt {i u b : Nat} (_ : i ≤ 8) (hu : u < 128 ^ i) : u + b % 128 * 128 ^ i < 128 ^ (i + 1) := by
  have h1 : b % 128 ≤ 127 := by omega
  have h2 : b % 128 * 128 ^ i ≤ 127 * 128 ^ i := Nat.mul_le_mul_right _ h1
  rw [Nat.pow_succ]
  omega
theorem pow_le9 {i : Nat} (hi : i ≤ 9) : 128 ^ i ≤ 9223372036854775808 := by
  have : 128 ^ i ≤ 128 ^ 9 := Nat.pow_le_pow_right (by omega) hi
  simpa using this
theorem term_lt {i b : Nat} (hi : i ≤ 9) (h9 : i = 9 → b ≤ 1) : b % 128 * 128 ^ i < 18446744073709551616 := by
  by_cases h : i = 9
  · have := h9 h
    subst h
    have : b % 128 ≤ 1 := by omega
    have := Nat.mul_le_mul_right (128 ^ 9) this
    simp at this ⊢
    omega
  · have h1 : 128 ^ i ≤ 128 ^ 8 := Nat.pow_le_pow_right (by omega) (by omega)
    have h2 : b % 128 ≤ 127 := by omega
    have := Nat.mul_le_mul h2 h1
    simp at this
    omega
theorem sum_lt {i u b : Nat} (hi : i ≤ 9) (hu : u < 128 ^ i) (h9 : i = 9 → b ≤ 1) : u + b % 128 * 128 ^ i < 18446744073709551616 := by
  by_cases h : i = 9
  · have := h9 h
    subst h
    have h1 : b % 128 ≤ 1 := by omega
    have := Nat.mul_le_mul_right (128 ^ 9) h1
    simp at this hu ⊢
    omega
  · have h1 := step_lt (b := b) (show i ≤ 8 by omega) hu
    have h2 := pow_le9 (show i + 1 ≤ 9 by omega)
    omega
theorem shl_eq {i b : Nat} (hi : i ≤ 9) (h9 : i = 9 → b ≤ 1) : shl .u64 ((b % 128 : Nat) : Int) ((7 * i : Nat) : Int) = ((b % 128 * 128 ^ i : Nat) : Int) := by
  unfold shl
  rw [Int.toNat_natCast, Nat.min_eq_left (by simp [IntKind.bits]; omega), u64w]
  have e : ((b % 128 : Nat) : Int) * 2 ^ (7 * i) = ((b % 128 * 128 ^ i : Nat) : Int) := by rw [← p128]; push_cast; rfl
  rw [e]
  have := term_lt hi h9
  omega
theorem or_sum {i u b : Nat} (hu : u < 128 ^ i) : u ||| (b % 128 * 128 ^ i) = u + b % 128 * 128 ^ i := by
  have h := @Nat.shiftLeft_add_eq_or_of_lt (7 * i) u (by rw [p128]; exact hu) (b % 128)
  rw [Nat.shiftLeft_eq, p128] at h
  rw [Nat.or_comm, ← h, Nat.add_comm]
theorem zig_unz (v : Nat) : zig (unz v) = v := by
  unfold unz
  split
  · unfold zig; split <;> omega
  · unfold zig; split <;> omega
theorem unz_zig (n : Int) : unz (zig n) = n := by
  unfold zig
  split
  · unfold unz; split <;> omega
  · unfold unz; split <;> omega
theorem unz_range {v : Nat} (h : v < 18446744073709551616) : Num (unz v) := by
  unfold Num unz
  split <;> omega
theorem gn_canon : ∀ (f i u : Nat) (l : Str), i + f = 10 → i ≤ 9 → u < 128 ^ i → (gn f i u l).2.2 = 0 →
    ∃ v, gn f i u l = (unz (u + v * 128 ^ i), i + (groups f v).length, 0) ∧ l = listByte (groups f v) ++ l.drop (groups f v).length ∧ u + v * 128 ^ i < 18446744073709551616 ∧ (0 < i → v ≠ 0)
  | 0, i, u, l, hf, h9, _, _ => by omega
  | f + 1, i, u, [], hf, h9, hu, h0 => by simp [gn] at h0
  | f + 1, i, u, c :: l, hf, hi9, hu, h0 => by
    have hb := byte_lt c
    have hbc := byte_of c
    simp only [gn] at h0 ⊢
    generalize hcb : c.toNat = b at h0 hb hbc ⊢
    by_cases h9 : i = 9 ∧ 1 < b
    · rw [if_pos h9] at h0; simp at h0
    rw [if_neg h9] at h0 ⊢
    have hb9 : i = 9 → b ≤ 1 := fun h => by
      rcases Nat.lt_or_ge 1 b with h1 | h1
      · exact absurd ⟨h, h1⟩ h9
      · exact h1
    by_cases h128 : 128 ≤ b
    · have hi8 : i ≤ 8 := by
        by_cases h : i = 9
        · have := hb9 h; omega
        · omega
      rw [if_pos h128] at h0 ⊢
      obtain ⟨v, e1, e2, e3, e4⟩ := gn_canon f (i + 1) (u + b % 128 * 128 ^ i) l (by omega) (by omega) (step_lt hi8 hu) h0
      have hv := e4 (by omega)
      have hs : u + b % 128 * 128 ^ i + v * 128 ^ (i + 1) = u + (b % 128 + 128 * v) * 128 ^ i := by
        rw [Nat.pow_succ, Nat.add_mul, Nat.mul_comm (128 ^ i) 128, ← Nat.mul_assoc, Nat.mul_comm v 128, Nat.add_assoc]
      have hg : groups (f + 1) (b % 128 + 128 * v) = (b : Int) :: groups f v := by
        have h1 : 128 ≤ b % 128 + 128 * v := by omega
        have h2 : (b % 128 + 128 * v) / 128 = v := by omega
        have h3 : (b % 128 + 128 * v) % 128 + 128 = b := by omega
        simp only [groups, if_pos h1, h2, h3]
      refine ⟨b % 128 + 128 * v, ?_, ?_, ?_, ?_⟩
      · rw [e1, hs, hg, List.length_cons, Nat.add_assoc, Nat.add_comm 1]
      · rw [hg]
        show c :: l = UInt8.ofNat ((b : Nat) : Int).toNat :: (listByte (groups f v) ++ l.drop (groups f v).length)
        rw [hbc, ← e2]
      · rw [← hs]; exact e3
      · intro _; omega
    · rw [if_neg h128] at h0 ⊢
      by_cases hz : b = 0 ∧ 0 < i
      · rw [if_pos hz] at h0; simp at h0
      rw [if_neg hz] at h0 ⊢
      have hm : b % 128 = b := by omega
      have hsl := sum_lt (b := b) hi9 hu hb9
      rw [hm] at hsl ⊢
      have hg : groups (f + 1) b = [(b : Int)] := by simp only [groups, if_neg h128]
      refine ⟨b, ?_, ?_, hsl, ?_⟩
      · rw [hg]; rfl
      · rw [hg]
        show c :: l = UInt8.ofNat ((b : Nat) : Int).toNat :: l
        rw [hbc]
      · intro hi hb0; exact hz ⟨hb0, hi⟩
/-- At a stands the encoding of n, and it ends at a'. -/
structure Got (s : Str) (a : Nat) (n : Int) (a' : Nat) : Prop where
  at' : a' = a + (putOf n).length
  le : a' ≤ s.length
  eq : s.drop a = putOf n ++ s.drop a'
  range : Num n
theorem num_cases (s : Str) (a : Nat) : (∃ (n : Int) (a' : Nat), getNumZ s a = (n, (a' : Int), 0) ∧ Got s a n a') ∨ ∃ c, c ≠ 0 ∧ getNumZ s a = (0, 0, c) := by
  unfold getNumZ fin
  by_cases h : (gn 10 0 0 (s.drop a)).2.2 = 0
  · left
    obtain ⟨v, e1, e2, e3, _⟩ := gn_canon 10 0 0 (s.drop a) (by omega) (by omega) (by omega) h
    simp only [Nat.pow_zero, Nat.mul_one, Nat.zero_add] at e1 e3
    have hB : putOf (unz v) = listByte (groups 10 v) := by unfold putOf; rw [zig_unz]
    have hsz : (putOf (unz v)).length = (groups 10 v).length := by rw [hB, listByte_len]
    refine ⟨unz v, a + (putOf (unz v)).length, ?_, rfl, ?_, ?_, unz_range e3⟩
    · rw [e1, hsz]
      rfl
    · have := congrArg List.length e2
      simp only [List.length_append, listByte_len, List.length_drop] at this
      have hp : 0 < (groups 10 v).length := by unfold groups; split <;> simp
      omega
    · rw [hsz, ← List.drop_drop, hB]
      exact e2
  · right
    exact ⟨_, h, by rw [if_neg h]⟩
/-- What was encoded is read back, whatever follows. -/
theorem gn_put : ∀ (f i u v : Nat) (l : Str), i + f = 10 → i ≤ 9 → v < 128 ^ f → u + v * 128 ^ i < 18446744073709551616 → (0 < i → v ≠ 0) → gn f i u (listByte (groups f v) ++ l) = (unz (u + v * 128 ^ i), i + (groups f v).length, 0)
  | 0, i, u, v, l, hf, h9, _, _, _ => by omega
  | f + 1, i, u, v, l, hf, hi9, hv, hb, hz => by
    have h9' : i = 9 → v ≤ 1 := fun h => by subst h; simp at hb; omega
    by_cases h128 : 128 ≤ v
    · have hi8 : i ≤ 8 := by
        by_cases h : i = 9
        · have := h9' h; omega
        · omega
      have hg : groups (f + 1) v = ((v % 128 + 128 : Nat) : Int) :: groups f (v / 128) := by simp only [groups, if_pos h128]
      have ht : (UInt8.ofNat (((v % 128 + 128 : Nat) : Int)).toNat).toNat = v % 128 + 128 := by
        rw [Int.toNat_natCast, UInt8.toNat_ofNat']
        omega
      rw [hg]
      show gn (f + 1) i u (UInt8.ofNat (((v % 128 + 128 : Nat) : Int)).toNat :: (listByte (groups f (v / 128)) ++ l)) = _
      simp only [gn]
      rw [ht, if_neg (by omega), if_pos (by omega)]
      have hs : u + (v % 128 + 128) % 128 * 128 ^ i + v / 128 * 128 ^ (i + 1) = u + v * 128 ^ i := by
        have e : (v % 128 + 128) % 128 = v % 128 := by omega
        have e2 : v % 128 * 128 ^ i + v / 128 * (128 * 128 ^ i) = v * 128 ^ i := by
          rw [← Nat.mul_assoc, ← Nat.add_mul]
          congr 1
          omega
        rw [e, Nat.pow_succ, Nat.mul_comm (128 ^ i) 128, Nat.add_assoc, e2]
      rw [gn_put f (i + 1) _ (v / 128) l (by omega) (by omega) (by rw [Nat.pow_succ] at hv; exact Nat.div_lt_of_lt_mul (by rw [Nat.mul_comm]; exact hv)) (by rw [hs]; exact hb) (fun _ => by omega), hs]
      simp only [List.length_cons, Prod.mk.injEq, and_true, true_and]
      omega
    · have hg : groups (f + 1) v = [(v : Int)] := by simp only [groups, if_neg h128]
      have ht : (UInt8.ofNat ((v : Int)).toNat).toNat = v := by
        rw [Int.toNat_natCast, UInt8.toNat_ofNat']
        omega
      rw [hg]
      show gn (f + 1) i u (UInt8.ofNat ((v : Int)).toNat :: l) = _
      simp only [gn]
      rw [ht, if_neg (fun q => by have := h9' q.1; omega), if_neg h128, if_neg (fun q => hz q.2 q.1), Nat.mod_eq_of_lt (by omega)]
      rfl
theorem get_put (n : Int) (h : Num n) (s : Str) (a : Nat) (t : Str) (hs : s.drop a = putOf n ++ t) : getNumZ s a = (n, ((a + (putOf n).length : Nat) : Int), 0) := by
  unfold getNumZ
  have hz := zig_lt h
  rw [hs]
  unfold putOf
  rw [gn_put 10 0 0 (zig n) t rfl (by omega) (by omega) (by omega) (fun q => absurd q (by omega))]
  simp only [Nat.pow_zero, Nat.mul_one, Nat.zero_add, unz_zig, listByte_len]
  rfl
/-! ### texts, read back -/
def getTextZ (s : Str) (a : Nat) : Str × Int × Int :=
  if (getNumZ s a).2.2 = 0 then
    if 0 ≤ (getNumZ s a).1 ∧ (getNumZ s a).1 ≤ 8000 then
      if (getNumZ s a).1 > (s.length : Int) - (getNumZ s a).2.1 then ([], 0, 4)
      else ((s.take ((getNumZ s a).2.1 + (getNumZ s a).1).toNat).drop (getNumZ s a).2.1.toNat, (getNumZ s a).2.1 + (getNumZ s a).1, 0)
    else ([], 0, 3)
  else ([], 0, (getNumZ s a).2.2)
/-- At a stands the encoding of the text t, and it ends at a'. -/
structure GotT (s : Str) (a : Nat) (t : Str) (a' : Nat) : Prop where
  at' : a' = a + (putTextOf t).length
  le : a' ≤ s.length
  eq : s.drop a = putTextOf t ++ s.drop a'
  size : t.length ≤ 8000
theorem text_cases (s : Str) (a : Nat) : (∃ t a', getTextZ s a = (t, ((a' : Nat) : Int), 0) ∧ GotT s a t a') ∨ ∃ c, c ≠ 0 ∧ getTextZ s a = ([], 0, c) := by
  unfold getTextZ
  rcases num_cases s a with ⟨n, a', e, g⟩ | ⟨c, hc, e⟩
  · rw [e]
    simp only [if_true]
    by_cases hn : 0 ≤ n ∧ n ≤ 8000
    · rw [if_pos hn]
      have hle := g.le
      by_cases hs : n > (s.length : Int) - (a' : Int)
      · rw [if_pos hs]
        exact .inr ⟨4, by omega, rfl⟩
      · rw [if_neg hs]
        obtain ⟨m, rfl⟩ : ∃ m : Nat, n = (m : Int) := ⟨n.toNat, by omega⟩
        have e1 : ((a' : Int) + (m : Int)).toNat = a' + m := by omega
        rw [e1, Int.toNat_natCast]
        have hB : (s.take (a' + m)).drop a' = (s.drop a').take m := by
          rw [List.drop_take, Nat.add_sub_cancel_left]
        have hsz : ((s.take (a' + m)).drop a').length = m := by
          rw [hB, List.length_take, List.length_drop]
          omega
        refine .inl ⟨_, a' + m, by push_cast; rfl, ?_, ?_, ?_, ?_⟩
        · unfold putTextOf
          rw [List.length_append, hsz]
          have := g.at'
          omega
        · omega
        · unfold putTextOf
          rw [hsz, hB, g.eq, List.append_assoc, ← List.drop_drop, List.take_append_drop]
        · rw [hsz]; omega
    · rw [if_neg hn]
      exact .inr ⟨3, by omega, rfl⟩
  · rw [e]
    simp only
    rw [if_neg hc]
    exact .inr ⟨c, hc, rfl⟩
/-- One number, read: the number, the place, whether it failed. -/
def numR (s : Str) (a : Nat) : Int × Str × Int × Bool := if (getNumZ s a).2.2 = 0 then ((getNumZ s a).1, s, (getNumZ s a).2.1, false) else (0, s, (a : Int), true)
theorem numR_cases (s : Str) (a : Nat) : (∃ n a', numR s a = (n, s, ((a' : Nat) : Int), false) ∧ Got s a n a') ∨ numR s a = (0, s, (a : Int), true) := by
  unfold numR
  rcases num_cases s a with ⟨n, a', e, g⟩ | ⟨c, hc, e⟩
  · left; exact ⟨n, a', by rw [e]; rfl, g⟩
  · right; rw [e, if_neg hc]
/-- One text, read: the text, the place, whether it failed. -/
def textR (s : Str) (a : Nat) : Str × Str × Int × Bool := if (getTextZ s a).2.2 = 0 then ((getTextZ s a).1, s, (getTextZ s a).2.1, false) else ([], s, (a : Int), true)
theorem textR_cases (s : Str) (a : Nat) : (∃ t a', textR s a = (t, s, ((a' : Nat) : Int), false) ∧ GotT s a t a') ∨ textR s a = ([], s, (a : Int), true) := by
  unfold textR
  rcases text_cases s a with ⟨n, a', e, g⟩ | ⟨c, hc, e⟩
  · left; exact ⟨n, a', by rw [e]; rfl, g⟩
  · right; rw [e, if_neg hc]
end Go.Proofs.YtaajcllchbnjiaaDoorE

namespace Go.Proofs.YtaajcllchbnjiaaDoorE
open Go
set_option linter.unusedVariables false
theorem loop_inv {S R : Type} (L : Nat → S → Option R) (m : S → Nat) (I : S → Prop) (Q : R → Prop) (step : ∀ s, I s → (∃ r, (∀ j, L (j + 1) s = some r) ∧ Q r) ∨ ∃ s', I s' ∧ m s' < m s ∧ ∀ j, L (j + 1) s = L j s') : ∀ (n : Nat) (s : S) (j : Nat), I s → m s ≤ n → n < j → ∃ r, L j s = some r ∧ Q r := by
  intro n
  induction n with
  | zero =>
    intro s j hi hm hj
    obtain ⟨j, rfl⟩ : ∃ q, j = q + 1 := ⟨j - 1, by omega⟩
    rcases step s hi with ⟨r, hr, hq⟩ | ⟨s', _, hm', _⟩
    · exact ⟨r, hr j, hq⟩
    · omega
  | succ n ih =>
    intro s j hi hm hj
    obtain ⟨j, rfl⟩ : ∃ q, j = q + 1 := ⟨j - 1, by omega⟩
    rcases step s hi with ⟨r, hr, hq⟩ | ⟨s', hi', hm', hs⟩
    · exact ⟨r, hr j, hq⟩
    · rw [hs j]
      exact ih s' j hi' (by omega) (by omega)
/-- The same, whatever the fuel. -/
theorem loop_uni {S R : Type} (L : Nat → S → Option R) (m : S → Nat) (I : S → Prop) (Q : R → Prop) (step : ∀ s, I s → (∃ r, (∀ j, L (j + 1) s = some r) ∧ Q r) ∨ ∃ s', I s' ∧ m s' < m s ∧ ∀ j, L (j + 1) s = L j s') : ∀ (n : Nat) (s : S), I s → m s ≤ n → ∃ r, Q r ∧ ∀ j, n < j → L j s = some r := by
  intro n
  induction n with
  | zero =>
    intro s hi hm
    rcases step s hi with ⟨r, hr, hq⟩ | ⟨s', _, hm', _⟩
    · refine ⟨r, hq, fun j hj => ?_⟩
      obtain ⟨j, rfl⟩ : ∃ q, j = q + 1 := ⟨j - 1, by omega⟩
      exact hr j
    · omega
  | succ n ih =>
    intro s hi hm
    rcases step s hi with ⟨r, hr, hq⟩ | ⟨s', hi', hm', hs⟩
    · refine ⟨r, hq, fun j hj => ?_⟩
      obtain ⟨j, rfl⟩ : ∃ q, j = q + 1 := ⟨j - 1, by omega⟩
      exact hr j
    · obtain ⟨r, hq, hr⟩ := ih s' hi' (by omega)
      refine ⟨r, hq, fun j hj => ?_⟩
      obtain ⟨j, rfl⟩ : ∃ q, j = q + 1 := ⟨j - 1, by omega⟩
      rw [hs j]
      exact hr j (by omega)
theorem at_in {α : Type} {l : List α} {i : Int} (h : 0 ≤ i) (h2 : i < (l.length : Int)) : ∃ x, at? l i = some x ∧ x ∈ l := by
  obtain ⟨n, rfl⟩ : ∃ n : Nat, i = (n : Int) := ⟨i.toNat, by omega⟩
  exact ⟨l[n]'(by omega), at_nat (by omega), List.getElem_mem _⟩
theorem wid {n : Int} (h0 : 0 ≤ n) (h1 : n < 9223372036854775808) : IntKind.wrap .i64 n = n := w64 (by omega) h1
theorem wuid {n : Int} (h0 : 0 ≤ n) (h1 : n < 18446744073709551616) : IntKind.wrap .u64 n = n := by rw [u64w]; omega
theorem cut_in {α : Type} {l : List α} {i j : Int} (h0 : 0 ≤ i) (h1 : i ≤ j) (h2 : j ≤ (l.length : Int)) : ∃ t, cut? l i j = some t ∧ (t.length : Int) = j - i := by
  obtain ⟨a, rfl⟩ : ∃ n : Nat, i = (n : Int) := ⟨i.toNat, by omega⟩
  obtain ⟨b, rfl⟩ : ∃ n : Nat, j = (n : Int) := ⟨j.toNat, by omega⟩
  refine ⟨_, cut_ok (by omega) (by omega), ?_⟩
  rw [List.length_drop, List.length_take]
  omega
end Go.Proofs.YtaajcllchbnjiaaDoorE
