/- What the law FnExactScriptFault needs, part 8 of 11: the Lean functions of the Go functions that it reaches, with the proofs that the calls come to what they say, and plain facts about them. Conditions: those that each theorem states. Written by a session and by its programs (after the kit's printer). -/
import Derived.Test.YtcnkbllbpimaiaaGreatDoorXFnExactScriptFault6
namespace Go.Proofs.YtcnkbllbpimaiaaGreatDoorE
open Go Go.RowKit
set_option linter.unusedVariables false
def spec_l17Nums.l0 (k : Nat) : Nat → List Int → Str → Int → Option (Str)
  | 0, _, _, _ => none
  | j + 1, a1, a2, a3 =>
    bif decide (a3 < ((a1.length) : Int)) then
      let e4 := IntKind.wrap .i64 (a3 + 1)
      bif decide (0 < a3) then
        Option.bind (cat? a2 ([44] : Str)) fun v5 =>
        Option.bind (at? a1 a3) fun v6 =>
        Option.bind (spec_l01Dec k v6) fun v7 =>
        Option.bind (cat? v5 v7) fun v8 =>
        spec_l17Nums.l0 k j a1 v8 e4
      else
      Option.bind (at? a1 a3) fun v9 =>
      Option.bind (spec_l01Dec k v9) fun v10 =>
      Option.bind (cat? a2 v10) fun v11 =>
      spec_l17Nums.l0 k j a1 v11 e4
    else
    some a2
def spec_l17Nums (k : Nat) (a1 : List Int) : Option (Str) :=
  Option.bind (spec_l17Nums.l0 k k a1 [] 0) fun y2 =>
  bif y2 == [] then
    some ([45] : Str)
  else
  some y2
def spec_l17Nums.sig : Sig := { ps := [.val false (.sl (.int .i64)) (ros (.sl (.int .i64)))], rs := [.val false [.v .str]], ntmps := 25 }
def spec_l17Nums.con (k : Nat) : Con := spec_l17Nums.sig.con (fun x => spec_l17Nums k x)
def spec_l17Nums.C (k : Nat) : Ctx := { ti := TAB, con := conL [(91, spec_l01Dec.con k)] }
theorem spec_l17Nums.cok (k : Nat) : CtxOk Tryz.prog (spec_l17Nums.C k) := ctx_ok TABok ⟨spec_l01Dec.ok k, trivial⟩
def spec_l17Nums.l0.ish : Shape := { tmps := [(0, .one (.bor (.int .i64))), (3, .one (.v .str)), (4, .one (.v (.int .i64)))], slots := [], nb := 0 }
def spec_l17Nums.l0.outs : List (Ex × Shape) := [(.exit 0, { tmps := [(3, .one (.v .str))], slots := [], nb := 0 })]
def spec_l17Nums.l0.F (k j : Nat) (x : Prod' spec_l17Nums.l0.ish.tys) : Option (Outs spec_l17Nums.l0.outs) := spec_l17Nums.l0 k j x.1 x.2.1 x.2.2
def spec_l17Nums.l0.s (k : Nat) : Summ := { n := 25, ish := spec_l17Nums.l0.ish, outs := spec_l17Nums.l0.outs, f := spec_l17Nums.l0.F k k }
theorem spec_l17Nums.l0.ev (k j : Nat) (x : Prod' spec_l17Nums.l0.ish.tys) : V (spec_l17Nums.C k) .auto (cO (cO (cR (cL (cR (cR (cB Tryz.f92))))))) (mk spec_l17Nums.l0.ish 25 x) (fun e st' => match e with | .nrm => (rd spec_l17Nums.l0.ish st').bind (spec_l17Nums.l0.F k j) | e => rdOut e st' spec_l17Nums.l0.outs) = spec_l17Nums.l0.F k (j + 1) x := by kernel_rfl
theorem spec_l17Nums.l0.ok (k : Nat) : SumOk Tryz.prog (spec_l17Nums.C k) (.loop (cO (cO (cR (cL (cR (cR (cB Tryz.f92)))))))) (spec_l17Nums.l0.s k) := sum_ok (by kernel_rfl) (sum_loop (p := .auto) (F := spec_l17Nums.l0.F k) (spec_l17Nums.cok k) (by kernel_rfl) (plan_of (L := []) (by kernel_rfl) trivial) (fun _ => rfl) (fun j x y h => (spec_l17Nums.l0.ev k j x).trans h) k rfl)
theorem spec_l17Nums.ev (k : Nat) (x : Prod' spec_l17Nums.sig.ins) : spec_l17Nums.sig.ev (spec_l17Nums.C k) (.two .auto (.two .auto (.two (.two .auto (.one (.sum (spec_l17Nums.l0.s k)))) .auto))) Tryz.f92.results.toList (cB Tryz.f92) x = spec_l17Nums k x := by kernel_rfl
theorem spec_l17Nums.ok (k : Nat) : ConOk Tryz.prog 92 (spec_l17Nums.con k) := sig_ok (p := (.two .auto (.two .auto (.two (.two .auto (.one (.sum (spec_l17Nums.l0.s k)))) .auto)))) (spec_l17Nums.cok k) Tryz.func92 (by kernel_rfl) (show Tryz.f92.body = some (cB Tryz.f92) by kernel_rfl) (by kernel_rfl) (by kernel_rfl) (plan_of (L := [(spec_l17Nums.l0.s k, cO (cR (cL (cR (cR (cB Tryz.f92))))))]) (by kernel_rfl) ⟨spec_l17Nums.l0.ok k, trivial⟩) (fun x y h => (spec_l17Nums.ev k x).trans h)
def spec_DeedText (k : Nat) (a1 : G28) : Option (Str) :=
  Option.bind (spec_DeedRight k a1) fun v2 =>
  bif !v2 then
    some ([])
  else
  Option.bind (spec_l17Cmd k a1.1) fun v3 =>
  bif (v3 == []) || (decide (a1.2.1 < 0)) then
    some v3
  else
  Option.bind (spec_l01Dec k a1.2.1) fun v4 =>
  Option.bind (cat? ([99, 117, 116, 32] : Str) v4) fun v5 =>
  Option.bind (cat? v5 ([32] : Str)) fun v6 =>
  Option.bind (spec_l17Nums k a1.2.2.1) fun v7 =>
  Option.bind (cat? v6 v7) fun v8 =>
  Option.bind (cat? v8 ([32] : Str)) fun v9 =>
  Option.bind (spec_l17Nums k a1.2.2.2) fun v10 =>
  Option.bind (cat? v9 v10) fun v11 =>
  Option.bind (cat? v11 ([32] : Str)) fun v12 =>
  Option.bind (cat? v12 v3) fun v13 =>
  some v13
def spec_DeedText.sig : Sig := { ps := [.val true T28 (ros T28)], rs := [.val false [.v .str]], ntmps := 35 }
def spec_DeedText.con (k : Nat) : Con := spec_DeedText.sig.con (fun x => spec_DeedText k x)
def spec_DeedText.C (k : Nat) : Ctx := { ti := TAB, con := conL [(52, spec_DeedRight.con k), (90, spec_l17Cmd.con k), (91, spec_l01Dec.con k), (92, spec_l17Nums.con k)], rob := true }
theorem spec_DeedText.cok (k : Nat) : CtxOk Tryz.prog (spec_DeedText.C k) := ctx_ok TABok ⟨spec_DeedRight.ok k, spec_l17Cmd.ok k, spec_l01Dec.ok k, spec_l17Nums.ok k, trivial⟩
theorem spec_DeedText.ev (k : Nat) (x : Prod' spec_DeedText.sig.ins) : spec_DeedText.sig.ev (spec_DeedText.C k) .auto Tryz.f44.results.toList (cB Tryz.f44) x = spec_DeedText k x := by kernel_rfl
theorem spec_DeedText.ok (k : Nat) : ConOk Tryz.prog 44 (spec_DeedText.con k) := sig_ok (p := .auto) (spec_DeedText.cok k) Tryz.func44 (by kernel_rfl) (show Tryz.f44.body = some (cB Tryz.f44) by kernel_rfl) (by kernel_rfl) (by kernel_rfl) (plan_of (L := []) (by kernel_rfl) trivial) (fun x y h => (spec_DeedText.ev k x).trans h)
def spec_DeedRead.j0 (k : Nat) (a1 : Int) (a2 : Int) (a3 : Int) (a4 : Str) (a5 : Int) (a6 : Int) (a7 : Int) (a8 : Str) (a9 : Int) (a10 : List Str) (a11 : List Int) (a12 : List Int) : Option ((List Str × Int × Int × Int × Str × Int × Int × Int × Str × Int × List Int × List Int)) :=
  Option.bind (at? a10 0) fun v13 =>
  Option.bind (at? a10 0) fun v14 =>
  bif (v14 == ([99, 117, 116] : Str)) && (decide (4 < ((a10.length) : Int))) then
    Option.bind (at? a10 1) fun v15 =>
    Option.bind (at? a10 1) fun v16 =>
    Option.bind (spec_l17Num k v16) fun v17 =>
    Option.bind (at? a10 2) fun v18 =>
    Option.bind (at? a10 2) fun v19 =>
    Option.bind (spec_l17List k v19) fun v20 =>
    Option.bind (at? a10 3) fun v21 =>
    Option.bind (at? a10 3) fun v22 =>
    Option.bind (spec_l17List k v22) fun v23 =>
    Option.bind (cut? a10 4 ((a10.length) : Int)) fun v24 =>
    some (v24, a1, a2, a3, a4, a5, a6, a7, a8, v17, v20, v23)
  else
  some (a10, a1, a2, a3, a4, a5, a6, a7, a8, a9, a11, a12)
def spec_DeedRead.j1 (a1 : Int) : Option (Bool) :=
  bif a1 == 7 then
    some true
  else
  some (a1 == 9)
def spec_DeedRead.j2 (k : Nat) (a1 : List Str) (a2 : Int) (a3 : Int) (a4 : Int) (a5 : Int) (a6 : Int) (a7 : Str) (a8 : Int) (a9 : Int) (a10 : Int) (a11 : Str) (a12 : Int) (a13 : List Int) (a14 : List Int) : Option ((Int × Int × Int × Str × Int × Int × Int × Str × Int × List Int × List Int)) :=
  bif a2 == 1 then
    Option.bind (spec_l17At a1 1) fun v15 =>
    Option.bind (spec_l17Num k v15) fun v16 =>
    Option.bind (spec_l17At a1 2) fun v17 =>
    Option.bind (spec_l17Num k v17) fun v18 =>
    Option.bind (spec_l17At a1 3) fun v19 =>
    Option.bind (spec_l17Unhex k v19) fun v20 =>
    some (a4, v16, v18, v20, a8, a9, a10, a11, a12, a13, a14)
  else
  Option.bind (spec_DeedRead.j1 a2) fun y21 =>
  bif y21 then
    Option.bind (spec_l17At a1 1) fun v22 =>
    Option.bind (spec_l17Num k v22) fun v23 =>
    some (a4, v23, a6, a7, a8, a9, a10, a11, a12, a13, a14)
  else
  bif a2 == 2 then
    Option.bind (spec_l17Put k a3 a1) fun v24 =>
    some (a4, a5, a6, a7, v24.1, v24.2.1, v24.2.2.1, v24.2.2.2, a12, a13, a14)
  else
  some (a4, a5, a6, a7, a8, a9, a10, a11, a12, a13, a14)
def spec_DeedRead (k : Nat) (a1 : Str) : Option (Int × Int × Int × Str × Int × Int × Int × Str × Int × List Int × List Int × Int) :=
  bif decide (8000 < ((a1.length) : Int)) then
    some (0, 0, 0, [], 0, 0, 0, [], 0, [], [], 2)
  else
  Option.bind (spec_l01Split k a1 32) fun v2 =>
  Option.bind (spec_DeedRead.j0 k 0 0 0 [] 0 0 0 [] (-1) v2 [] []) fun y3 =>
  Option.bind (at? y3.1 0) fun v4 =>
  Option.bind (spec_l17Kinds k v4) fun v5 =>
  Option.bind (spec_DeedRead.j2 k y3.1 v5.1 v5.2 v5.1 y3.2.2.1 y3.2.2.2.1 y3.2.2.2.2.1 y3.2.2.2.2.2.1 y3.2.2.2.2.2.2.1 y3.2.2.2.2.2.2.2.1 y3.2.2.2.2.2.2.2.2.1 y3.2.2.2.2.2.2.2.2.2.1 y3.2.2.2.2.2.2.2.2.2.2.1 y3.2.2.2.2.2.2.2.2.2.2.2) fun y6 =>
  bif a1 == [] then
    some (0, 0, 0, [], 0, 0, 0, [], 0, [], [], 3)
  else
  Option.bind (spec_DeedText k ((y6.1, (y6.2.1, (y6.2.2.1, (y6.2.2.2.1, (y6.2.2.2.2.1, (y6.2.2.2.2.2.1, (y6.2.2.2.2.2.2.1, y6.2.2.2.2.2.2.2.1))))))), y6.2.2.2.2.2.2.2.2)) fun v7 =>
  bif !(v7 == a1) then
    some (0, 0, 0, [], 0, 0, 0, [], 0, [], [], 3)
  else
  some (y6.1, y6.2.1, y6.2.2.1, y6.2.2.2.1, y6.2.2.2.2.1, y6.2.2.2.2.2.1, y6.2.2.2.2.2.2.1, y6.2.2.2.2.2.2.2.1, y6.2.2.2.2.2.2.2.2.1, y6.2.2.2.2.2.2.2.2.2.1, y6.2.2.2.2.2.2.2.2.2.2, 0)
def spec_DeedRead.sig : Sig := { ps := [.val false .str (ros .str)], rs := [.val true [.v (.int .i64), .v (.int .i64), .v (.int .i64), .v .str, .v (.int .i64), .v (.int .i64), .v (.int .i64), .v .str, .v (.int .i64), .own 2 (.int .i64), .own 2 (.int .i64), .v (.int .i64)]], ntmps := 94 }
def spec_DeedRead.con (k : Nat) : Con := spec_DeedRead.sig.con (fun x => spec_DeedRead k x)
def spec_DeedRead.C (k : Nat) : Ctx := { ti := TAB, con := conL [(37, spec_l01Split.con k), (38, spec_l17Num.con k), (39, spec_l17List.con k), (40, spec_l17Kinds.con k), (41, spec_l17At.con k), (42, spec_l17Unhex.con k), (43, spec_l17Put.con k), (44, spec_DeedText.con k)] }
theorem spec_DeedRead.cok (k : Nat) : CtxOk Tryz.prog (spec_DeedRead.C k) := ctx_ok TABok ⟨spec_l01Split.ok k, spec_l17Num.ok k, spec_l17List.ok k, spec_l17Kinds.ok k, spec_l17At.ok k, spec_l17Unhex.ok k, spec_l17Put.ok k, spec_DeedText.ok k, trivial⟩
def spec_DeedRead.j0.ish : Shape := { tmps := [(3, .one (.ptr 1 0)), (4, .one (.own 3))], slots := [(1, .box 28 [.v (.int .i64), .v (.int .i64), .v (.int .i64), .v .str, .v (.int .i64), .v (.int .i64), .v (.int .i64), .v .str, .v (.int .i64), .own 4, .own 5]), (3, .arr false 9 .str), (4, .arr false 2 (.int .i64)), (5, .arr false 2 (.int .i64))], nb := 6 }
def spec_DeedRead.j0.outs : List (Ex × Shape) := [(.nrm, { tmps := [(4, .one (.v (.sl .str)))], slots := [(1, .box 28 [.v (.int .i64), .v (.int .i64), .v (.int .i64), .v .str, .v (.int .i64), .v (.int .i64), .v (.int .i64), .v .str, .v (.int .i64), .own 6, .own 7]), (6, .arr false 2 (.int .i64)), (7, .arr false 2 (.int .i64))], nb := 8 })]
def spec_DeedRead.j0.F (k : Nat) (x : Prod' spec_DeedRead.j0.ish.tys) : Option (Outs spec_DeedRead.j0.outs) := spec_DeedRead.j0 k x.1 x.2.1 x.2.2.1 x.2.2.2.1 x.2.2.2.2.1 x.2.2.2.2.2.1 x.2.2.2.2.2.2.1 x.2.2.2.2.2.2.2.1 x.2.2.2.2.2.2.2.2.1 x.2.2.2.2.2.2.2.2.2.1 x.2.2.2.2.2.2.2.2.2.2.1 x.2.2.2.2.2.2.2.2.2.2.2
def spec_DeedRead.j0.s (k : Nat) : Summ := { n := 94, ish := spec_DeedRead.j0.ish, outs := spec_DeedRead.j0.outs, f := spec_DeedRead.j0.F k }
theorem spec_DeedRead.j0.ev (k : Nat) (x : Prod' spec_DeedRead.j0.ish.tys) : V (spec_DeedRead.C k) .auto (cL (cR (cR (cR (cR (cB Tryz.f7)))))) (mk spec_DeedRead.j0.ish 94 x) (fun e st' => rdOut e st' spec_DeedRead.j0.outs) = spec_DeedRead.j0.F k x := by kernel_rfl
theorem spec_DeedRead.j0.ok (k : Nat) : SumOk Tryz.prog (spec_DeedRead.C k) (cL (cR (cR (cR (cR (cB Tryz.f7)))))) (spec_DeedRead.j0.s k) := sum_ok (by kernel_rfl) (sum_code (p := .auto) (spec_DeedRead.cok k) (by kernel_rfl) (plan_of (L := []) (by kernel_rfl) trivial) (fun x y h => (spec_DeedRead.j0.ev k x).trans h))
def spec_DeedRead.j1.ish : Shape := { tmps := [(50, .one (.v (.int .i64)))], slots := [], nb := 10 }
def spec_DeedRead.j1.outs : List (Ex × Shape) := [(.nrm, { tmps := [(68, .one (.v .bool))], slots := [], nb := 10 })]
def spec_DeedRead.j1.F (k : Nat) (x : Prod' spec_DeedRead.j1.ish.tys) : Option (Outs spec_DeedRead.j1.outs) := spec_DeedRead.j1 x
def spec_DeedRead.j1.s (k : Nat) : Summ := { n := 94, ish := spec_DeedRead.j1.ish, outs := spec_DeedRead.j1.outs, f := spec_DeedRead.j1.F k }
theorem spec_DeedRead.j1.ev (k : Nat) (x : Prod' spec_DeedRead.j1.ish.tys) : V (spec_DeedRead.C k) .auto (cL (cR (cR (cO (cR (cL (cR (cR (cR (cR (cR (cR (cR (cB Tryz.f7)))))))))))))) (mk spec_DeedRead.j1.ish 94 x) (fun e st' => rdOut e st' spec_DeedRead.j1.outs) = spec_DeedRead.j1.F k x := by kernel_rfl
theorem spec_DeedRead.j1.ok (k : Nat) : SumOk Tryz.prog (spec_DeedRead.C k) (cL (cR (cR (cO (cR (cL (cR (cR (cR (cR (cR (cR (cR (cB Tryz.f7)))))))))))))) (spec_DeedRead.j1.s k) := sum_ok (by kernel_rfl) (sum_code (p := .auto) (spec_DeedRead.cok k) (by kernel_rfl) (plan_of (L := []) (by kernel_rfl) trivial) (fun x y h => (spec_DeedRead.j1.ev k x).trans h))
def spec_DeedRead.j2.ish : Shape := { tmps := [(3, .one (.ptr 1 0)), (4, .one (.v (.sl .str))), (5, .one (.v (.int .i64))), (6, .one (.v (.int .i64)))], slots := [(1, .box 28 [.v (.int .i64), .v (.int .i64), .v (.int .i64), .v .str, .v (.int .i64), .v (.int .i64), .v (.int .i64), .v .str, .v (.int .i64), .own 8, .own 9]), (8, .arr false 2 (.int .i64)), (9, .arr false 2 (.int .i64))], nb := 10 }
def spec_DeedRead.j2.outs : List (Ex × Shape) := [(.nrm, { tmps := [], slots := [(1, .box 28 [.v (.int .i64), .v (.int .i64), .v (.int .i64), .v .str, .v (.int .i64), .v (.int .i64), .v (.int .i64), .v .str, .v (.int .i64), .own 10, .own 11]), (10, .arr false 2 (.int .i64)), (11, .arr false 2 (.int .i64))], nb := 12 })]
def spec_DeedRead.j2.F (k : Nat) (x : Prod' spec_DeedRead.j2.ish.tys) : Option (Outs spec_DeedRead.j2.outs) := spec_DeedRead.j2 k x.1 x.2.1 x.2.2.1 x.2.2.2.1 x.2.2.2.2.1 x.2.2.2.2.2.1 x.2.2.2.2.2.2.1 x.2.2.2.2.2.2.2.1 x.2.2.2.2.2.2.2.2.1 x.2.2.2.2.2.2.2.2.2.1 x.2.2.2.2.2.2.2.2.2.2.1 x.2.2.2.2.2.2.2.2.2.2.2.1 x.2.2.2.2.2.2.2.2.2.2.2.2.1 x.2.2.2.2.2.2.2.2.2.2.2.2.2
def spec_DeedRead.j2.s (k : Nat) : Summ := { n := 94, ish := spec_DeedRead.j2.ish, outs := spec_DeedRead.j2.outs, f := spec_DeedRead.j2.F k }
theorem spec_DeedRead.j2.ev (k : Nat) (x : Prod' spec_DeedRead.j2.ish.tys) : V (spec_DeedRead.C k) (.two .auto (.one (.two .auto (.two .auto (.two (.sum (spec_DeedRead.j1.s k)) .auto))))) (cL (cR (cR (cR (cR (cR (cR (cR (cB Tryz.f7))))))))) (mk spec_DeedRead.j2.ish 94 x) (fun e st' => rdOut e st' spec_DeedRead.j2.outs) = spec_DeedRead.j2.F k x := by kernel_rfl
theorem spec_DeedRead.j2.ok (k : Nat) : SumOk Tryz.prog (spec_DeedRead.C k) (cL (cR (cR (cR (cR (cR (cR (cR (cB Tryz.f7))))))))) (spec_DeedRead.j2.s k) := sum_ok (by kernel_rfl) (sum_code (p := (.two .auto (.one (.two .auto (.two .auto (.two (.sum (spec_DeedRead.j1.s k)) .auto)))))) (spec_DeedRead.cok k) (by kernel_rfl) (plan_of (L := [(spec_DeedRead.j1.s k, cL (cR (cR (cO (cR (cL (cR (cR (cR (cR (cR (cR (cR (cB Tryz.f7))))))))))))))]) (by kernel_rfl) ⟨spec_DeedRead.j1.ok k, trivial⟩) (fun x y h => (spec_DeedRead.j2.ev k x).trans h))
theorem spec_DeedRead.ev (k : Nat) (x : Prod' spec_DeedRead.sig.ins) : spec_DeedRead.sig.ev (spec_DeedRead.C k) (.two .auto (.two .auto (.two .auto (.two .auto (.two (.sum (spec_DeedRead.j0.s k)) (.two .auto (.two .auto (.two (.sum (spec_DeedRead.j2.s k)) .auto)))))))) Tryz.f7.results.toList (cB Tryz.f7) x = spec_DeedRead k x := by kernel_rfl
theorem spec_DeedRead.ok (k : Nat) : ConOk Tryz.prog 7 (spec_DeedRead.con k) := sig_ok (p := (.two .auto (.two .auto (.two .auto (.two .auto (.two (.sum (spec_DeedRead.j0.s k)) (.two .auto (.two .auto (.two (.sum (spec_DeedRead.j2.s k)) .auto))))))))) (spec_DeedRead.cok k) Tryz.func7 (by kernel_rfl) (show Tryz.f7.body = some (cB Tryz.f7) by kernel_rfl) (by kernel_rfl) (by kernel_rfl) (plan_of (L := [(spec_DeedRead.j0.s k, cL (cR (cR (cR (cR (cB Tryz.f7)))))), (spec_DeedRead.j2.s k, cL (cR (cR (cR (cR (cR (cR (cR (cB Tryz.f7)))))))))]) (by kernel_rfl) ⟨spec_DeedRead.j0.ok k, spec_DeedRead.j2.ok k, trivial⟩) (fun x y h => (spec_DeedRead.ev k x).trans h)
def spec_l07Ill (a1 : Int) : Option (List Str × Int) :=
  some ([], a1)
def spec_l07Ill.sig : Sig := { ps := [.val false (.int .i64) (ros (.int .i64))], rs := [.val true [.own 9 .str, .v (.int .i64)]], ntmps := 5 }
def spec_l07Ill.con (k : Nat) : Con := spec_l07Ill.sig.con (fun x => spec_l07Ill x)
def spec_l07Ill.C (k : Nat) : Ctx := { ti := TAB, con := conL [] }
theorem spec_l07Ill.cok (k : Nat) : CtxOk Tryz.prog (spec_l07Ill.C k) := ctx_ok TABok trivial
theorem spec_l07Ill.ev (k : Nat) (x : Prod' spec_l07Ill.sig.ins) : spec_l07Ill.sig.ev (spec_l07Ill.C k) .auto Tryz.f189.results.toList (cB Tryz.f189) x = spec_l07Ill x := by kernel_rfl
theorem spec_l07Ill.ok (k : Nat) : ConOk Tryz.prog 189 (spec_l07Ill.con k) := sig_ok (p := .auto) (spec_l07Ill.cok k) Tryz.func189 (by kernel_rfl) (show Tryz.f189.body = some (cB Tryz.f189) by kernel_rfl) (by kernel_rfl) (by kernel_rfl) (plan_of (L := []) (by kernel_rfl) trivial) (fun x y h => (spec_l07Ill.ev k x).trans h)
def spec_ImageRight.l0 : Nat → List Str → Int → Option (Unit ⊕ Bool)
  | 0, _, _ => none
  | j + 1, a1, a2 =>
    bif decide (a2 < ((a1.length) : Int)) then
      Option.bind (at? a1 a2) fun v3 =>
      bif ((v3.length) : Int) != 8 then
        some (.inr false)
      else
      spec_ImageRight.l0 j a1 (IntKind.wrap .i64 (a2 + 1))
    else
    some (.inl ())
def spec_ImageRight (k : Nat) (a1 : List Str) : Option (Bool) :=
  bif (decide (((a1.length) : Int) < 1)) || (decide (8 < ((a1.length) : Int))) then
    some false
  else
  Option.bind (spec_ImageRight.l0 k a1 0) fun
    | .inl y2 =>
      some true
    | .inr y3 =>
      some y3
def spec_ImageRight.sig : Sig := { ps := [.val false (.sl .str) (ros (.sl .str))], rs := [.val false [.v .bool]], ntmps := 24 }
def spec_ImageRight.con (k : Nat) : Con := spec_ImageRight.sig.con (fun x => spec_ImageRight k x)
def spec_ImageRight.C (k : Nat) : Ctx := { ti := TAB, con := conL [] }
theorem spec_ImageRight.cok (k : Nat) : CtxOk Tryz.prog (spec_ImageRight.C k) := ctx_ok TABok trivial
def spec_ImageRight.l0.ish : Shape := { tmps := [(0, .one (.bor .str)), (3, .one (.v (.int .i64)))], slots := [], nb := 0 }
def spec_ImageRight.l0.outs : List (Ex × Shape) := [(.exit 0, { tmps := [], slots := [], nb := 0 }), (.ret, { tmps := [(2, .one (.v .bool))], slots := [], nb := 0 })]
def spec_ImageRight.l0.F (k j : Nat) (x : Prod' spec_ImageRight.l0.ish.tys) : Option (Outs spec_ImageRight.l0.outs) := spec_ImageRight.l0 j x.1 x.2
def spec_ImageRight.l0.s (k : Nat) : Summ := { n := 24, ish := spec_ImageRight.l0.ish, outs := spec_ImageRight.l0.outs, f := spec_ImageRight.l0.F k k }
theorem spec_ImageRight.l0.ev (k j : Nat) (x : Prod' spec_ImageRight.l0.ish.tys) : V (spec_ImageRight.C k) .auto (cO (cO (cR (cL (cR (cR (cB Tryz.f101))))))) (mk spec_ImageRight.l0.ish 24 x) (fun e st' => match e with | .nrm => (rd spec_ImageRight.l0.ish st').bind (spec_ImageRight.l0.F k j) | e => rdOut e st' spec_ImageRight.l0.outs) = spec_ImageRight.l0.F k (j + 1) x := by kernel_rfl
theorem spec_ImageRight.l0.ok (k : Nat) : SumOk Tryz.prog (spec_ImageRight.C k) (.loop (cO (cO (cR (cL (cR (cR (cB Tryz.f101)))))))) (spec_ImageRight.l0.s k) := sum_ok (by kernel_rfl) (sum_loop (p := .auto) (F := spec_ImageRight.l0.F k) (spec_ImageRight.cok k) (by kernel_rfl) (plan_of (L := []) (by kernel_rfl) trivial) (fun _ => rfl) (fun j x y h => (spec_ImageRight.l0.ev k j x).trans h) k rfl)
theorem spec_ImageRight.ev (k : Nat) (x : Prod' spec_ImageRight.sig.ins) : spec_ImageRight.sig.ev (spec_ImageRight.C k) (.two .auto (.two .auto (.two (.two .auto (.one (.sum (spec_ImageRight.l0.s k)))) .auto))) Tryz.f101.results.toList (cB Tryz.f101) x = spec_ImageRight k x := by kernel_rfl
theorem spec_ImageRight.ok (k : Nat) : ConOk Tryz.prog 101 (spec_ImageRight.con k) := sig_ok (p := (.two .auto (.two .auto (.two (.two .auto (.one (.sum (spec_ImageRight.l0.s k)))) .auto)))) (spec_ImageRight.cok k) Tryz.func101 (by kernel_rfl) (show Tryz.f101.body = some (cB Tryz.f101) by kernel_rfl) (by kernel_rfl) (by kernel_rfl) (plan_of (L := [(spec_ImageRight.l0.s k, cO (cR (cL (cR (cR (cB Tryz.f101))))))]) (by kernel_rfl) ⟨spec_ImageRight.l0.ok k, trivial⟩) (fun x y h => (spec_ImageRight.ev k x).trans h)
def spec_ImageText.l0 (k : Nat) : Nat → List Str → Int → List Int → Option ((List Int) ⊕ Str)
  | 0, _, _, _ => none
  | j + 1, a1, a2, a3 =>
    bif decide (a2 < ((a1.length) : Int)) then
      Option.bind (spec_ImageRight k a1) fun v4 =>
      bif v4 then
        Option.bind (at? a1 a2) fun v5 =>
        Option.bind (spec_l17Letter k v5) fun v6 =>
        bif v6 == 0 then
          some (.inr ([]))
        else
        Option.bind (app? 1 a3 [v6]) fun v7 =>
        spec_ImageText.l0 k j a1 (IntKind.wrap .i64 (a2 + 1)) v7
      else
      some (.inl a3)
    else
    some (.inl a3)
def spec_ImageText (k : Nat) (a1 : List Str) : Option (Str) :=
  Option.bind (spec_ImageText.l0 k k a1 0 []) fun
    | .inl y2 =>
      some (listByte y2)
    | .inr y3 =>
      some y3
def spec_ImageText.sig : Sig := { ps := [.val false (.sl .str) (ros (.sl .str))], rs := [.val false [.v .str]], ntmps := 30 }
def spec_ImageText.con (k : Nat) : Con := spec_ImageText.sig.con (fun x => spec_ImageText k x)
def spec_ImageText.C (k : Nat) : Ctx := { ti := TAB, con := conL [(101, spec_ImageRight.con k), (157, spec_l17Letter.con k)] }
theorem spec_ImageText.cok (k : Nat) : CtxOk Tryz.prog (spec_ImageText.C k) := ctx_ok TABok ⟨spec_ImageRight.ok k, spec_l17Letter.ok k, trivial⟩
def spec_ImageText.l0.ish : Shape := { tmps := [(0, .one (.bor .str)), (3, .one (.own 1)), (4, .one (.v (.int .i64)))], slots := [(1, .arr false 5 (.int .u8))], nb := 2 }
def spec_ImageText.l0.outs : List (Ex × Shape) := [(.exit 0, { tmps := [(3, .one (.own 2))], slots := [(2, .arr false 5 (.int .u8))], nb := 3 }), (.ret, { tmps := [(2, .one (.v .str))], slots := [], nb := 2 })]
def spec_ImageText.l0.F (k j : Nat) (x : Prod' spec_ImageText.l0.ish.tys) : Option (Outs spec_ImageText.l0.outs) := spec_ImageText.l0 k j x.1 x.2.1 x.2.2
def spec_ImageText.l0.s (k : Nat) : Summ := { n := 30, ish := spec_ImageText.l0.ish, outs := spec_ImageText.l0.outs, f := spec_ImageText.l0.F k k }
theorem spec_ImageText.l0.ev (k j : Nat) (x : Prod' spec_ImageText.l0.ish.tys) : V (spec_ImageText.C k) .auto (cO (cO (cR (cL (cR (cR (cB Tryz.f190))))))) (mk spec_ImageText.l0.ish 30 x) (fun e st' => match e with | .nrm => (rd spec_ImageText.l0.ish st').bind (spec_ImageText.l0.F k j) | e => rdOut e st' spec_ImageText.l0.outs) = spec_ImageText.l0.F k (j + 1) x := by kernel_rfl
theorem spec_ImageText.l0.ok (k : Nat) : SumOk Tryz.prog (spec_ImageText.C k) (.loop (cO (cO (cR (cL (cR (cR (cB Tryz.f190)))))))) (spec_ImageText.l0.s k) := sum_ok (by kernel_rfl) (sum_loop (p := .auto) (F := spec_ImageText.l0.F k) (spec_ImageText.cok k) (by kernel_rfl) (plan_of (L := []) (by kernel_rfl) trivial) (fun _ => rfl) (fun j x y h => (spec_ImageText.l0.ev k j x).trans h) k rfl)
theorem spec_ImageText.ev (k : Nat) (x : Prod' spec_ImageText.sig.ins) : spec_ImageText.sig.ev (spec_ImageText.C k) (.two .auto (.two .auto (.two (.two .auto (.one (.sum (spec_ImageText.l0.s k)))) .auto))) Tryz.f190.results.toList (cB Tryz.f190) x = spec_ImageText k x := by kernel_rfl
theorem spec_ImageText.ok (k : Nat) : ConOk Tryz.prog 190 (spec_ImageText.con k) := sig_ok (p := (.two .auto (.two .auto (.two (.two .auto (.one (.sum (spec_ImageText.l0.s k)))) .auto)))) (spec_ImageText.cok k) Tryz.func190 (by kernel_rfl) (show Tryz.f190.body = some (cB Tryz.f190) by kernel_rfl) (by kernel_rfl) (by kernel_rfl) (plan_of (L := [(spec_ImageText.l0.s k, cO (cR (cL (cR (cR (cB Tryz.f190))))))]) (by kernel_rfl) ⟨spec_ImageText.l0.ok k, trivial⟩) (fun x y h => (spec_ImageText.ev k x).trans h)
def spec_ImageRead.l0 (k : Nat) : Nat → Str → Int → List Str → Option ((List Str))
  | 0, _, _, _ => none
  | j + 1, a1, a2, a3 =>
    bif decide (a2 < ((a1.length) : Int)) then
      Option.bind (at? a1 a2) fun v4 =>
      Option.bind (spec_l17Block k (v4.toNat : Int)) fun v5 =>
      Option.bind (app? 16 a3 [v5]) fun v6 =>
      spec_ImageRead.l0 k j a1 (IntKind.wrap .i64 (a2 + 1)) v6
    else
    some a3
def spec_ImageRead (k : Nat) (a1 : Str) : Option (List Str × Int) :=
  bif decide (8000 < ((a1.length) : Int)) then
    Option.bind (spec_l07Ill 2) fun v2 =>
    some (v2.1, v2.2)
  else
  Option.bind (spec_ImageRead.l0 k k a1 0 []) fun y3 =>
  bif a1 == [] then
    Option.bind (spec_l07Ill 3) fun v4 =>
    some (v4.1, v4.2)
  else
  Option.bind (spec_ImageText k y3) fun v5 =>
  bif !(v5 == a1) then
    Option.bind (spec_l07Ill 3) fun v6 =>
    some (v6.1, v6.2)
  else
  some (y3, 0)
def spec_ImageRead.sig : Sig := { ps := [.val false .str (ros .str)], rs := [.val true [.own 9 .str, .v (.int .i64)]], ntmps := 34 }
def spec_ImageRead.con (k : Nat) : Con := spec_ImageRead.sig.con (fun x => spec_ImageRead k x)
def spec_ImageRead.C (k : Nat) : Ctx := { ti := TAB, con := conL [(89, spec_l17Block.con k), (189, spec_l07Ill.con k), (190, spec_ImageText.con k)] }
theorem spec_ImageRead.cok (k : Nat) : CtxOk Tryz.prog (spec_ImageRead.C k) := ctx_ok TABok ⟨spec_l17Block.ok k, spec_l07Ill.ok k, spec_ImageText.ok k, trivial⟩
def spec_ImageRead.l0.ish : Shape := { tmps := [(0, .one (.v .str)), (3, .one (.own 2)), (4, .one (.v (.int .i64)))], slots := [(2, .arr false 9 .str)], nb := 3 }
def spec_ImageRead.l0.outs : List (Ex × Shape) := [(.exit 0, { tmps := [(3, .one (.own 3))], slots := [(3, .arr false 9 .str)], nb := 4 })]
def spec_ImageRead.l0.F (k j : Nat) (x : Prod' spec_ImageRead.l0.ish.tys) : Option (Outs spec_ImageRead.l0.outs) := spec_ImageRead.l0 k j x.1 x.2.1 x.2.2
def spec_ImageRead.l0.s (k : Nat) : Summ := { n := 34, ish := spec_ImageRead.l0.ish, outs := spec_ImageRead.l0.outs, f := spec_ImageRead.l0.F k k }
theorem spec_ImageRead.l0.ev (k j : Nat) (x : Prod' spec_ImageRead.l0.ish.tys) : V (spec_ImageRead.C k) .auto (cO (cO (cR (cL (cR (cR (cR (cB Tryz.f134)))))))) (mk spec_ImageRead.l0.ish 34 x) (fun e st' => match e with | .nrm => (rd spec_ImageRead.l0.ish st').bind (spec_ImageRead.l0.F k j) | e => rdOut e st' spec_ImageRead.l0.outs) = spec_ImageRead.l0.F k (j + 1) x := by kernel_rfl
theorem spec_ImageRead.l0.ok (k : Nat) : SumOk Tryz.prog (spec_ImageRead.C k) (.loop (cO (cO (cR (cL (cR (cR (cR (cB Tryz.f134))))))))) (spec_ImageRead.l0.s k) := sum_ok (by kernel_rfl) (sum_loop (p := .auto) (F := spec_ImageRead.l0.F k) (spec_ImageRead.cok k) (by kernel_rfl) (plan_of (L := []) (by kernel_rfl) trivial) (fun _ => rfl) (fun j x y h => (spec_ImageRead.l0.ev k j x).trans h) k rfl)
theorem spec_ImageRead.ev (k : Nat) (x : Prod' spec_ImageRead.sig.ins) : spec_ImageRead.sig.ev (spec_ImageRead.C k) (.two .auto (.two .auto (.two .auto (.two (.two .auto (.one (.sum (spec_ImageRead.l0.s k)))) .auto)))) Tryz.f134.results.toList (cB Tryz.f134) x = spec_ImageRead k x := by kernel_rfl
theorem spec_ImageRead.ok (k : Nat) : ConOk Tryz.prog 134 (spec_ImageRead.con k) := sig_ok (p := (.two .auto (.two .auto (.two .auto (.two (.two .auto (.one (.sum (spec_ImageRead.l0.s k)))) .auto))))) (spec_ImageRead.cok k) Tryz.func134 (by kernel_rfl) (show Tryz.f134.body = some (cB Tryz.f134) by kernel_rfl) (by kernel_rfl) (by kernel_rfl) (plan_of (L := [(spec_ImageRead.l0.s k, cO (cR (cL (cR (cR (cR (cB Tryz.f134)))))))]) (by kernel_rfl) ⟨spec_ImageRead.l0.ok k, trivial⟩) (fun x y h => (spec_ImageRead.ev k x).trans h)
def spec_l17Read.l0 (k : Nat) : Nat → Int → Str → Int → Int → List Str → List G28 → Option ((Str × Int × Int × List G28) ⊕ (Str × Int × Int × List Str × List G28))
  | 0, _, _, _, _, _, _ => none
  | j + 1, a1, a2, a3, a4, a5, a6 =>
    bif decide (a1 < ((a5.length) : Int)) then
      let e7 := a1 == (IntKind.wrap .i64 (((a5.length) : Int) - 1))
      let e8 := decide (60 ≤ ((a6.length) : Int))
      let e9 := IntKind.wrap .i64 (a1 + 1)
      bif e7 then
        Option.bind (at? a5 a1) fun v10 =>
        Option.bind (at? a5 a1) fun v11 =>
        bif v11 == [] then
          some (.inl (a2, a3, a4, a6))
        else
        Option.bind (at? a5 a1) fun v12 =>
        Option.bind (at? a5 a1) fun v13 =>
        Option.bind (spec_DeedRead k v13) fun v14 =>
        bif (e7 || (v14.2.2.2.2.2.2.2.2.2.2.2 != 0)) || e8 then
          some (.inr ([], a1, 3, [], []))
        else
        Option.bind (app? 136 a6 [((v14.1, (v14.2.1, (v14.2.2.1, (v14.2.2.2.1, (v14.2.2.2.2.1, (v14.2.2.2.2.2.1, (v14.2.2.2.2.2.2.1, v14.2.2.2.2.2.2.2.1))))))), (v14.2.2.2.2.2.2.2.2.1, (v14.2.2.2.2.2.2.2.2.2.1, v14.2.2.2.2.2.2.2.2.2.2.1)))]) fun v15 =>
        spec_l17Read.l0 k j e9 a2 a3 a4 a5 v15
      else
      Option.bind (at? a5 a1) fun v16 =>
      Option.bind (at? a5 a1) fun v17 =>
      Option.bind (spec_DeedRead k v17) fun v18 =>
      bif (e7 || (v18.2.2.2.2.2.2.2.2.2.2.2 != 0)) || e8 then
        some (.inr ([], a1, 3, [], []))
      else
      Option.bind (app? 136 a6 [((v18.1, (v18.2.1, (v18.2.2.1, (v18.2.2.2.1, (v18.2.2.2.2.1, (v18.2.2.2.2.2.1, (v18.2.2.2.2.2.2.1, v18.2.2.2.2.2.2.2.1))))))), (v18.2.2.2.2.2.2.2.2.1, (v18.2.2.2.2.2.2.2.2.2.1, v18.2.2.2.2.2.2.2.2.2.2.1)))]) fun v19 =>
      spec_l17Read.l0 k j e9 a2 a3 a4 a5 v19
    else
    some (.inl (a2, a3, a4, a6))
def spec_l17Read (k : Nat) (a1 : Str) : Option (List Str × List G28 × Str × Int × Int) :=
  bif decide (8000 < ((a1.length) : Int)) then
    some ([], [], [], 0, 2)
  else
  Option.bind (spec_l01Split k a1 10) fun v2 =>
  Option.bind (at? v2 0) fun v3 =>
  Option.bind (at? v2 0) fun v4 =>
  Option.bind (spec_l01Split k v4 32) fun v5 =>
  bif (decide (((v2.length) : Int) < 2)) || (((v5.length) : Int) != 2) then
    some ([], [], [], 0, 3)
  else
  Option.bind (at? v5 0) fun v6 =>
  Option.bind (at? v5 0) fun v7 =>
  bif !(v7 == ([109, 97, 99, 104, 105, 110, 101] : Str)) then
    some ([], [], [], 0, 3)
  else
  Option.bind (at? v5 1) fun v8 =>
  Option.bind (at? v5 1) fun v9 =>
  Option.bind (spec_ImageRead k v9) fun v10 =>
  bif v10.2 != 0 then
    some ([], [], [], 0, 3)
  else
  Option.bind (spec_l17Read.l0 k k 1 [] 0 0 v2 []) fun
    | .inl y11 =>
      some (v10.1, y11.2.2.2, [], 0, 0)
    | .inr y12 =>
      some (y12.2.2.2.1, y12.2.2.2.2, y12.1, y12.2.1, y12.2.2.1)
def spec_l17Read.sig : Sig := { ps := [.val false .str (ros .str)], rs := [.val false [.own 9 .str], .val false [.own 28 T28], .val true [.v .str, .v (.int .i64), .v (.int .i64)]], ntmps := 92 }
def spec_l17Read.con (k : Nat) : Con := spec_l17Read.sig.con (fun x => spec_l17Read k x)
def spec_l17Read.C (k : Nat) : Ctx := { ti := TAB, con := conL [(7, spec_DeedRead.con k), (37, spec_l01Split.con k), (134, spec_ImageRead.con k)] }
theorem spec_l17Read.cok (k : Nat) : CtxOk Tryz.prog (spec_l17Read.C k) := ctx_ok TABok ⟨spec_DeedRead.ok k, spec_l01Split.ok k, spec_ImageRead.ok k, trivial⟩
def spec_l17Read.l0.ish : Shape := { tmps := [(4, .one (.ptr 0 0)), (5, .one (.own 6)), (8, .one (.own 7)), (9, .one (.v (.int .i64)))], slots := [(0, .box 61 [.v .str, .v (.int .i64), .v (.int .i64)]), (6, .arr false 9 .str), (7, .arr false 28 T28)], nb := 8 }
def spec_l17Read.l0.outs : List (Ex × Shape) := [(.exit 0, { tmps := [(8, .one (.own 8))], slots := [(0, .box 61 [.v .str, .v (.int .i64), .v (.int .i64)]), (8, .arr false 28 T28)], nb := 9 }), (.ret, { tmps := [(2, .one (.own 8)), (3, .one (.own 9))], slots := [(0, .box 61 [.v .str, .v (.int .i64), .v (.int .i64)]), (8, .arr false 9 .str), (9, .arr false 28 T28)], nb := 10 })]
def spec_l17Read.l0.F (k j : Nat) (x : Prod' spec_l17Read.l0.ish.tys) : Option (Outs spec_l17Read.l0.outs) := spec_l17Read.l0 k j x.1 x.2.1 x.2.2.1 x.2.2.2.1 x.2.2.2.2.1 x.2.2.2.2.2
def spec_l17Read.l0.s (k : Nat) : Summ := { n := 92, ish := spec_l17Read.l0.ish, outs := spec_l17Read.l0.outs, f := spec_l17Read.l0.F k k }
theorem spec_l17Read.l0.ev (k j : Nat) (x : Prod' spec_l17Read.l0.ish.tys) : V (spec_l17Read.C k) .auto (cO (cO (cR (cL (cR (cR (cR (cR (cR (cR (cR (cR (cB Tryz.f73))))))))))))) (mk spec_l17Read.l0.ish 92 x) (fun e st' => match e with | .nrm => (rd spec_l17Read.l0.ish st').bind (spec_l17Read.l0.F k j) | e => rdOut e st' spec_l17Read.l0.outs) = spec_l17Read.l0.F k (j + 1) x := by kernel_rfl
theorem spec_l17Read.l0.ok (k : Nat) : SumOk Tryz.prog (spec_l17Read.C k) (.loop (cO (cO (cR (cL (cR (cR (cR (cR (cR (cR (cR (cR (cB Tryz.f73)))))))))))))) (spec_l17Read.l0.s k) := sum_ok (by kernel_rfl) (sum_loop (p := .auto) (F := spec_l17Read.l0.F k) (spec_l17Read.cok k) (by kernel_rfl) (plan_of (L := []) (by kernel_rfl) trivial) (fun _ => rfl) (fun j x y h => (spec_l17Read.l0.ev k j x).trans h) k rfl)
theorem spec_l17Read.ev (k : Nat) (x : Prod' spec_l17Read.sig.ins) : spec_l17Read.sig.ev (spec_l17Read.C k) (.two .auto (.two .auto (.two .auto (.two .auto (.two .auto (.two .auto (.two .auto (.two .auto (.two (.two .auto (.one (.sum (spec_l17Read.l0.s k)))) .auto))))))))) Tryz.f73.results.toList (cB Tryz.f73) x = spec_l17Read k x := by kernel_rfl
theorem spec_l17Read.ok (k : Nat) : ConOk Tryz.prog 73 (spec_l17Read.con k) := sig_ok (p := (.two .auto (.two .auto (.two .auto (.two .auto (.two .auto (.two .auto (.two .auto (.two .auto (.two (.two .auto (.one (.sum (spec_l17Read.l0.s k)))) .auto)))))))))) (spec_l17Read.cok k) Tryz.func73 (by kernel_rfl) (show Tryz.f73.body = some (cB Tryz.f73) by kernel_rfl) (by kernel_rfl) (by kernel_rfl) (plan_of (L := [(spec_l17Read.l0.s k, cO (cR (cL (cR (cR (cR (cR (cR (cR (cR (cR (cB Tryz.f73))))))))))))]) (by kernel_rfl) ⟨spec_l17Read.l0.ok k, trivial⟩) (fun x y h => (spec_l17Read.ev k x).trans h)
def spec_ScriptFault (k : Nat) (a1 : Str) : Option (Str × Int × Int) :=
  Option.bind (spec_l17Read k a1) fun v2 =>
  some (v2.2.2.1, v2.2.2.2.1, v2.2.2.2.2)
def spec_ScriptFault.sig : Sig := { ps := [.val false .str (ros .str)], rs := [.val true [.v .str, .v (.int .i64), .v (.int .i64)]], ntmps := 13 }
def spec_ScriptFault.con (k : Nat) : Con := spec_ScriptFault.sig.con (fun x => spec_ScriptFault k x)
def spec_ScriptFault.C (k : Nat) : Ctx := { ti := TAB, con := conL [(73, spec_l17Read.con k)] }
theorem spec_ScriptFault.cok (k : Nat) : CtxOk Tryz.prog (spec_ScriptFault.C k) := ctx_ok TABok ⟨spec_l17Read.ok k, trivial⟩
theorem spec_ScriptFault.ev (k : Nat) (x : Prod' spec_ScriptFault.sig.ins) : spec_ScriptFault.sig.ev (spec_ScriptFault.C k) .auto Tryz.f25.results.toList (cB Tryz.f25) x = spec_ScriptFault k x := by kernel_rfl
theorem spec_ScriptFault.ok (k : Nat) : ConOk Tryz.prog 25 (spec_ScriptFault.con k) := sig_ok (p := .auto) (spec_ScriptFault.cok k) Tryz.func25 (by kernel_rfl) (show Tryz.f25.body = some (cB Tryz.f25) by kernel_rfl) (by kernel_rfl) (by kernel_rfl) (plan_of (L := []) (by kernel_rfl) trivial) (fun x y h => (spec_ScriptFault.ev k x).trans h)
def impl_within (a1 : Int) (a2 : Int) (a3 : Int) : Option (Bool) :=
  some ((decide (a2 ≤ a1)) && (decide (a1 ≤ a3)))
def impl_within.sig : Sig := { ps := [.val false (.int .i64) (ros (.int .i64)), .val false (.int .i64) (ros (.int .i64)), .val false (.int .i64) (ros (.int .i64))], rs := [.val false [.v .bool]], ntmps := 15 }
def impl_within.con (k : Nat) : Con := impl_within.sig.con (fun x => impl_within x.1 x.2.1 x.2.2)
def impl_within.C (k : Nat) : Ctx := { ti := TAB, con := conL [] }
theorem impl_within.cok (k : Nat) : CtxOk Tryz.prog (impl_within.C k) := ctx_ok TABok trivial
theorem impl_within.ev (k : Nat) (x : Prod' impl_within.sig.ins) : impl_within.sig.ev (impl_within.C k) .auto Tryz.f114.results.toList (cB Tryz.f114) x = impl_within x.1 x.2.1 x.2.2 := by kernel_rfl
theorem impl_within.ok (k : Nat) : ConOk Tryz.prog 114 (impl_within.con k) := sig_ok (p := .auto) (impl_within.cok k) Tryz.func114 (by kernel_rfl) (show Tryz.f114.body = some (cB Tryz.f114) by kernel_rfl) (by kernel_rfl) (by kernel_rfl) (plan_of (L := []) (by kernel_rfl) trivial) (fun x y h => (impl_within.ev k x).trans h)
def impl_isTime (a1 : Int) : Option (Bool) :=
  Option.bind (impl_within a1 0 1000000) fun v2 =>
  some v2
def impl_isTime.sig : Sig := { ps := [.val false (.int .i64) (ros (.int .i64))], rs := [.val false [.v .bool]], ntmps := 5 }
def impl_isTime.con (k : Nat) : Con := impl_isTime.sig.con (fun x => impl_isTime x)
def impl_isTime.C (k : Nat) : Ctx := { ti := TAB, con := conL [(114, impl_within.con k)] }
theorem impl_isTime.cok (k : Nat) : CtxOk Tryz.prog (impl_isTime.C k) := ctx_ok TABok ⟨impl_within.ok k, trivial⟩
theorem impl_isTime.ev (k : Nat) (x : Prod' impl_isTime.sig.ins) : impl_isTime.sig.ev (impl_isTime.C k) .auto Tryz.f186.results.toList (cB Tryz.f186) x = impl_isTime x := by kernel_rfl
theorem impl_isTime.ok (k : Nat) : ConOk Tryz.prog 186 (impl_isTime.con k) := sig_ok (p := .auto) (impl_isTime.cok k) Tryz.func186 (by kernel_rfl) (show Tryz.f186.body = some (cB Tryz.f186) by kernel_rfl) (by kernel_rfl) (by kernel_rfl) (plan_of (L := []) (by kernel_rfl) trivial) (fun x y h => (impl_isTime.ev k x).trans h)
def impl_isStep.j0 (a1 : Int) (a2 : Bool) (a3 : Int) (a4 : Int) (a5 : Int) (a6 : Str) : Option ((Bool × Int × Int × Int × Str)) :=
  bif (a3 == 3) || (a3 == 4) then
    Option.bind (impl_within a5 0 (IntKind.wrap .i64 (a1 - 1))) fun v7 =>
    some (v7, a3, a4, a5, a6)
  else
  some (a2, a3, a4, a5, a6)
def impl_isStep.j1 (a1 : Bool) (a2 : Int) (a3 : Int) (a4 : Int) (a5 : Str) : Option ((Bool × Int × Int × Int × Str)) :=
  bif (a2 == 2) || (a2 == 4) then
    some (((a5.length) : Int) == 8, a2, a3, a4, a5)
  else
  some (a1, a2, a3, a4, a5)
def impl_isStep (a1 : G23) (a2 : Int) : Option (Bool) :=
  Option.bind (impl_within a1.2.1 0 (IntKind.wrap .i64 (a2 - 1))) fun v3 =>
  Option.bind (impl_isStep.j0 a2 (a1.2.2.1 == 0) a1.1 a1.2.1 a1.2.2.1 a1.2.2.2) fun y4 =>
  Option.bind (impl_isStep.j1 (a1.2.2.2 == []) y4.2.1 y4.2.2.1 y4.2.2.2.1 y4.2.2.2.2) fun y5 =>
  bif y5.2.1 == 5 then
    Option.bind (impl_isTime y5.2.2.2.1) fun v6 =>
    Option.bind (impl_within y5.2.1 1 5) fun v7 =>
    some (((v7 && (y5.2.2.1 == 0)) && v6) && y5.1)
  else
  Option.bind (impl_within y5.2.1 1 5) fun v8 =>
  some (((v8 && v3) && y4.1) && y5.1)
def impl_isStep.sig : Sig := { ps := [.val true T23 (ros T23), .val false (.int .i64) (ros (.int .i64))], rs := [.val false [.v .bool]], ntmps := 65 }
def impl_isStep.con (k : Nat) : Con := impl_isStep.sig.con (fun x => impl_isStep x.1 x.2)
def impl_isStep.C (k : Nat) : Ctx := { ti := TAB, con := conL [(114, impl_within.con k), (186, impl_isTime.con k)] }
theorem impl_isStep.cok (k : Nat) : CtxOk Tryz.prog (impl_isStep.C k) := ctx_ok TABok ⟨impl_within.ok k, impl_isTime.ok k, trivial⟩
def impl_isStep.j0.ish : Shape := { tmps := [(1, .one (.v (.int .i64))), (2, .one (.ptr 0 0)), (6, .one (.v .bool))], slots := [(0, .box 23 [.v (.int .i64), .v (.int .i64), .v (.int .i64), .v .str])], nb := 1 }
def impl_isStep.j0.outs : List (Ex × Shape) := [(.nrm, { tmps := [(6, .one (.v .bool))], slots := [(0, .box 23 [.v (.int .i64), .v (.int .i64), .v (.int .i64), .v .str])], nb := 1 })]
def impl_isStep.j0.F (k : Nat) (x : Prod' impl_isStep.j0.ish.tys) : Option (Outs impl_isStep.j0.outs) := impl_isStep.j0 x.1 x.2.1 x.2.2.1 x.2.2.2.1 x.2.2.2.2.1 x.2.2.2.2.2
def impl_isStep.j0.s (k : Nat) : Summ := { n := 65, ish := impl_isStep.j0.ish, outs := impl_isStep.j0.outs, f := impl_isStep.j0.F k }
theorem impl_isStep.j0.ev (k : Nat) (x : Prod' impl_isStep.j0.ish.tys) : V (impl_isStep.C k) .auto (cL (cR (cR (cB Tryz.f177)))) (mk impl_isStep.j0.ish 65 x) (fun e st' => rdOut e st' impl_isStep.j0.outs) = impl_isStep.j0.F k x := by kernel_rfl
theorem impl_isStep.j0.ok (k : Nat) : SumOk Tryz.prog (impl_isStep.C k) (cL (cR (cR (cB Tryz.f177)))) (impl_isStep.j0.s k) := sum_ok (by kernel_rfl) (sum_code (p := .auto) (impl_isStep.cok k) (by kernel_rfl) (plan_of (L := []) (by kernel_rfl) trivial) (fun x y h => (impl_isStep.j0.ev k x).trans h))
def impl_isStep.j1.ish : Shape := { tmps := [(2, .one (.ptr 0 0)), (7, .one (.v .bool))], slots := [(0, .box 23 [.v (.int .i64), .v (.int .i64), .v (.int .i64), .v .str])], nb := 1 }
def impl_isStep.j1.outs : List (Ex × Shape) := [(.nrm, { tmps := [(7, .one (.v .bool))], slots := [(0, .box 23 [.v (.int .i64), .v (.int .i64), .v (.int .i64), .v .str])], nb := 1 })]
def impl_isStep.j1.F (k : Nat) (x : Prod' impl_isStep.j1.ish.tys) : Option (Outs impl_isStep.j1.outs) := impl_isStep.j1 x.1 x.2.1 x.2.2.1 x.2.2.2.1 x.2.2.2.2
def impl_isStep.j1.s (k : Nat) : Summ := { n := 65, ish := impl_isStep.j1.ish, outs := impl_isStep.j1.outs, f := impl_isStep.j1.F k }
theorem impl_isStep.j1.ev (k : Nat) (x : Prod' impl_isStep.j1.ish.tys) : V (impl_isStep.C k) .auto (cL (cR (cR (cR (cB Tryz.f177))))) (mk impl_isStep.j1.ish 65 x) (fun e st' => rdOut e st' impl_isStep.j1.outs) = impl_isStep.j1.F k x := by kernel_rfl
theorem impl_isStep.j1.ok (k : Nat) : SumOk Tryz.prog (impl_isStep.C k) (cL (cR (cR (cR (cB Tryz.f177))))) (impl_isStep.j1.s k) := sum_ok (by kernel_rfl) (sum_code (p := .auto) (impl_isStep.cok k) (by kernel_rfl) (plan_of (L := []) (by kernel_rfl) trivial) (fun x y h => (impl_isStep.j1.ev k x).trans h))
theorem impl_isStep.ev (k : Nat) (x : Prod' impl_isStep.sig.ins) : impl_isStep.sig.ev (impl_isStep.C k) (.two .auto (.two .auto (.two (.sum (impl_isStep.j0.s k)) (.two (.sum (impl_isStep.j1.s k)) .auto)))) Tryz.f177.results.toList (cB Tryz.f177) x = impl_isStep x.1 x.2 := by kernel_rfl
theorem impl_isStep.ok (k : Nat) : ConOk Tryz.prog 177 (impl_isStep.con k) := sig_ok (p := (.two .auto (.two .auto (.two (.sum (impl_isStep.j0.s k)) (.two (.sum (impl_isStep.j1.s k)) .auto))))) (impl_isStep.cok k) Tryz.func177 (by kernel_rfl) (show Tryz.f177.body = some (cB Tryz.f177) by kernel_rfl) (by kernel_rfl) (by kernel_rfl) (plan_of (L := [(impl_isStep.j0.s k, cL (cR (cR (cB Tryz.f177)))), (impl_isStep.j1.s k, cL (cR (cR (cR (cB Tryz.f177)))))]) (by kernel_rfl) ⟨impl_isStep.j0.ok k, impl_isStep.j1.ok k, trivial⟩) (fun x y h => (impl_isStep.ev k x).trans h)
def impl_isCmd (a1 : G25) : Option (Bool) :=
  let e2 := (a1.2.2.2.2.1 == 0) && ((a1.2.2.2.2.2.1 == 0) && ((a1.2.2.2.2.2.2.1 == 0) && (a1.2.2.2.2.2.2.2 == [])))
  bif a1.1 == 1 then
    Option.bind (impl_within a1.2.1 1 20) fun v3 =>
    Option.bind (impl_within a1.2.2.1 0 4) fun v4 =>
    Option.bind (impl_within a1.1 1 11) fun v5 =>
    some ((((v5 && v3) && v4) && (((a1.2.2.2.1.length) : Int) == 32)) && e2)
  else
  let e6 := a1.2.1 == 0
  let e7 := a1.2.2.1 == 0
  let e8 := a1.2.2.2.1 == []
  bif a1.1 == 2 then
    Option.bind (impl_isStep a1.2.2.2.2 8) fun v9 =>
    Option.bind (impl_within a1.1 1 11) fun v10 =>
    some ((((v10 && e6) && e7) && e8) && v9)
  else
  bif a1.1 == 9 then
    Option.bind (impl_within a1.2.1 1 24) fun v11 =>
    Option.bind (impl_within a1.1 1 11) fun v12 =>
    some ((((v12 && v11) && e7) && e8) && e2)
  else
  bif a1.1 == 7 then
    Option.bind (impl_isTime a1.2.1) fun v13 =>
    Option.bind (impl_within a1.1 1 11) fun v14 =>
    some ((((v14 && v13) && e7) && e8) && e2)
  else
  Option.bind (impl_within a1.1 1 11) fun v15 =>
  some ((((v15 && e6) && e7) && e8) && e2)
def impl_isCmd.sig : Sig := { ps := [.val true T25 (ros T25)], rs := [.val false [.v .bool]], ntmps := 64 }
def impl_isCmd.con (k : Nat) : Con := impl_isCmd.sig.con (fun x => impl_isCmd x)
def impl_isCmd.C (k : Nat) : Ctx := { ti := TAB, con := conL [(114, impl_within.con k), (177, impl_isStep.con k), (186, impl_isTime.con k)] }
theorem impl_isCmd.cok (k : Nat) : CtxOk Tryz.prog (impl_isCmd.C k) := ctx_ok TABok ⟨impl_within.ok k, impl_isStep.ok k, impl_isTime.ok k, trivial⟩
theorem impl_isCmd.ev (k : Nat) (x : Prod' impl_isCmd.sig.ins) : impl_isCmd.sig.ev (impl_isCmd.C k) .auto Tryz.f122.results.toList (cB Tryz.f122) x = impl_isCmd x := by kernel_rfl
theorem impl_isCmd.ok (k : Nat) : ConOk Tryz.prog 122 (impl_isCmd.con k) := sig_ok (p := .auto) (impl_isCmd.cok k) Tryz.func122 (by kernel_rfl) (show Tryz.f122.body = some (cB Tryz.f122) by kernel_rfl) (by kernel_rfl) (by kernel_rfl) (plan_of (L := []) (by kernel_rfl) trivial) (fun x y h => (impl_isCmd.ev k x).trans h)
def impl_isDeed_1 (a1 : Int) : Option (Bool) :=
  Option.bind (impl_within a1 0 200) fun v2 =>
  some (!v2)
def impl_isDeed_1.sig : Sig := { ps := [.val false (.int .i64) (ros (.int .i64))], rs := [.val false [.v .bool]], ntmps := 6 }
def impl_isDeed_1.con (k : Nat) : Con := impl_isDeed_1.sig.con (fun x => impl_isDeed_1 x)
def impl_isDeed_1.C (k : Nat) : Ctx := { ti := TAB, con := conL [(114, impl_within.con k)] }
theorem impl_isDeed_1.cok (k : Nat) : CtxOk Tryz.prog (impl_isDeed_1.C k) := ctx_ok TABok ⟨impl_within.ok k, trivial⟩
theorem impl_isDeed_1.ev (k : Nat) (x : Prod' impl_isDeed_1.sig.ins) : impl_isDeed_1.sig.ev (impl_isDeed_1.C k) .auto Tryz.f124.results.toList (cB Tryz.f124) x = impl_isDeed_1 x := by kernel_rfl
theorem impl_isDeed_1.ok (k : Nat) : ConOk Tryz.prog 124 (impl_isDeed_1.con k) := sig_ok (p := .auto) (impl_isDeed_1.cok k) Tryz.func124 (by kernel_rfl) (show Tryz.f124.body = some (cB Tryz.f124) by kernel_rfl) (by kernel_rfl) (by kernel_rfl) (plan_of (L := []) (by kernel_rfl) trivial) (fun x y h => (impl_isDeed_1.ev k x).trans h)
def slices_IndexFunc_int64_isDeed_1.l0 : Nat → List Int → Int → Int → Option (Unit ⊕ Int)
  | 0, _, _, _ => none
  | j + 1, a1, a2, a3 =>
    bif decide (a3 < a2) then
      Option.bind (at? a1 a3) fun v4 =>
      Option.bind (impl_isDeed_1 v4) fun v5 =>
      bif v5 then
        some (.inr a3)
      else
      slices_IndexFunc_int64_isDeed_1.l0 j a1 a2 (IntKind.wrap .i64 (a3 + 1))
    else
    some (.inl ())
def slices_IndexFunc_int64_isDeed_1 (k : Nat) (a1 : List Int) : Option (Int) :=
  Option.bind (slices_IndexFunc_int64_isDeed_1.l0 k a1 ((a1.length) : Int) 0) fun
    | .inl y2 =>
      some (-1)
    | .inr y3 =>
      some y3
def slices_IndexFunc_int64_isDeed_1.sig : Sig := { ps := [.val false (.sl (.int .i64)) (ros (.sl (.int .i64))), .fn 124 []], rs := [.val false [.v (.int .i64)]], ntmps := 19 }
def slices_IndexFunc_int64_isDeed_1.con (k : Nat) : Con := slices_IndexFunc_int64_isDeed_1.sig.con (fun x => slices_IndexFunc_int64_isDeed_1 k x)
def slices_IndexFunc_int64_isDeed_1.C (k : Nat) : Ctx := { ti := TAB, con := conL [(124, impl_isDeed_1.con k)] }
theorem slices_IndexFunc_int64_isDeed_1.cok (k : Nat) : CtxOk Tryz.prog (slices_IndexFunc_int64_isDeed_1.C k) := ctx_ok TABok ⟨impl_isDeed_1.ok k, trivial⟩
def slices_IndexFunc_int64_isDeed_1.l0.ish : Shape := { tmps := [(0, .one (.bor (.int .i64))), (1, .fn 124 []), (7, .one (.v (.int .i64))), (8, .one (.v (.int .i64)))], slots := [], nb := 0 }
def slices_IndexFunc_int64_isDeed_1.l0.outs : List (Ex × Shape) := [(.exit 0, { tmps := [], slots := [], nb := 0 }), (.ret, { tmps := [(4, .one (.v (.int .i64)))], slots := [], nb := 0 })]
def slices_IndexFunc_int64_isDeed_1.l0.F (k j : Nat) (x : Prod' slices_IndexFunc_int64_isDeed_1.l0.ish.tys) : Option (Outs slices_IndexFunc_int64_isDeed_1.l0.outs) := slices_IndexFunc_int64_isDeed_1.l0 j x.1 x.2.1 x.2.2
def slices_IndexFunc_int64_isDeed_1.l0.s (k : Nat) : Summ := { n := 19, ish := slices_IndexFunc_int64_isDeed_1.l0.ish, outs := slices_IndexFunc_int64_isDeed_1.l0.outs, f := slices_IndexFunc_int64_isDeed_1.l0.F k k }
theorem slices_IndexFunc_int64_isDeed_1.l0.ev (k j : Nat) (x : Prod' slices_IndexFunc_int64_isDeed_1.l0.ish.tys) : V (slices_IndexFunc_int64_isDeed_1.C k) .auto (cO (cO (cR (cL (cR (cB Tryz.f187)))))) (mk slices_IndexFunc_int64_isDeed_1.l0.ish 19 x) (fun e st' => match e with | .nrm => (rd slices_IndexFunc_int64_isDeed_1.l0.ish st').bind (slices_IndexFunc_int64_isDeed_1.l0.F k j) | e => rdOut e st' slices_IndexFunc_int64_isDeed_1.l0.outs) = slices_IndexFunc_int64_isDeed_1.l0.F k (j + 1) x := by kernel_rfl
theorem slices_IndexFunc_int64_isDeed_1.l0.ok (k : Nat) : SumOk Tryz.prog (slices_IndexFunc_int64_isDeed_1.C k) (.loop (cO (cO (cR (cL (cR (cB Tryz.f187))))))) (slices_IndexFunc_int64_isDeed_1.l0.s k) := sum_ok (by kernel_rfl) (sum_loop (p := .auto) (F := slices_IndexFunc_int64_isDeed_1.l0.F k) (slices_IndexFunc_int64_isDeed_1.cok k) (by kernel_rfl) (plan_of (L := []) (by kernel_rfl) trivial) (fun _ => rfl) (fun j x y h => (slices_IndexFunc_int64_isDeed_1.l0.ev k j x).trans h) k rfl)
theorem slices_IndexFunc_int64_isDeed_1.ev (k : Nat) (x : Prod' slices_IndexFunc_int64_isDeed_1.sig.ins) : slices_IndexFunc_int64_isDeed_1.sig.ev (slices_IndexFunc_int64_isDeed_1.C k) (.two .auto (.two (.two .auto (.one (.sum (slices_IndexFunc_int64_isDeed_1.l0.s k)))) .auto)) Tryz.f187.results.toList (cB Tryz.f187) x = slices_IndexFunc_int64_isDeed_1 k x := by kernel_rfl
theorem slices_IndexFunc_int64_isDeed_1.ok (k : Nat) : ConOk Tryz.prog 187 (slices_IndexFunc_int64_isDeed_1.con k) := sig_ok (p := (.two .auto (.two (.two .auto (.one (.sum (slices_IndexFunc_int64_isDeed_1.l0.s k)))) .auto))) (slices_IndexFunc_int64_isDeed_1.cok k) Tryz.func187 (by kernel_rfl) (show Tryz.f187.body = some (cB Tryz.f187) by kernel_rfl) (by kernel_rfl) (by kernel_rfl) (plan_of (L := [(slices_IndexFunc_int64_isDeed_1.l0.s k, cO (cR (cL (cR (cB Tryz.f187)))))]) (by kernel_rfl) ⟨slices_IndexFunc_int64_isDeed_1.l0.ok k, trivial⟩) (fun x y h => (slices_IndexFunc_int64_isDeed_1.ev k x).trans h)
def slices_ContainsFunc_int64_isDeed_1 (k : Nat) (a1 : List Int) : Option (Bool) :=
  Option.bind (slices_IndexFunc_int64_isDeed_1 k a1) fun v2 =>
  some (decide (0 ≤ v2))
def slices_ContainsFunc_int64_isDeed_1.sig : Sig := { ps := [.val false (.sl (.int .i64)) (ros (.sl (.int .i64))), .fn 124 []], rs := [.val false [.v .bool]], ntmps := 9 }
def slices_ContainsFunc_int64_isDeed_1.con (k : Nat) : Con := slices_ContainsFunc_int64_isDeed_1.sig.con (fun x => slices_ContainsFunc_int64_isDeed_1 k x)
def slices_ContainsFunc_int64_isDeed_1.C (k : Nat) : Ctx := { ti := TAB, con := conL [(187, slices_IndexFunc_int64_isDeed_1.con k)] }
theorem slices_ContainsFunc_int64_isDeed_1.cok (k : Nat) : CtxOk Tryz.prog (slices_ContainsFunc_int64_isDeed_1.C k) := ctx_ok TABok ⟨slices_IndexFunc_int64_isDeed_1.ok k, trivial⟩
theorem slices_ContainsFunc_int64_isDeed_1.ev (k : Nat) (x : Prod' slices_ContainsFunc_int64_isDeed_1.sig.ins) : slices_ContainsFunc_int64_isDeed_1.sig.ev (slices_ContainsFunc_int64_isDeed_1.C k) .auto Tryz.f123.results.toList (cB Tryz.f123) x = slices_ContainsFunc_int64_isDeed_1 k x := by kernel_rfl
theorem slices_ContainsFunc_int64_isDeed_1.ok (k : Nat) : ConOk Tryz.prog 123 (slices_ContainsFunc_int64_isDeed_1.con k) := sig_ok (p := .auto) (slices_ContainsFunc_int64_isDeed_1.cok k) Tryz.func123 (by kernel_rfl) (show Tryz.f123.body = some (cB Tryz.f123) by kernel_rfl) (by kernel_rfl) (by kernel_rfl) (plan_of (L := []) (by kernel_rfl) trivial) (fun x y h => (slices_ContainsFunc_int64_isDeed_1.ev k x).trans h)
def impl_isDeed_2 (a1 : Int) : Option (Bool) :=
  Option.bind (impl_within a1 0 50) fun v2 =>
  some (!v2)
def impl_isDeed_2.sig : Sig := { ps := [.val false (.int .i64) (ros (.int .i64))], rs := [.val false [.v .bool]], ntmps := 6 }
def impl_isDeed_2.con (k : Nat) : Con := impl_isDeed_2.sig.con (fun x => impl_isDeed_2 x)
def impl_isDeed_2.C (k : Nat) : Ctx := { ti := TAB, con := conL [(114, impl_within.con k)] }
theorem impl_isDeed_2.cok (k : Nat) : CtxOk Tryz.prog (impl_isDeed_2.C k) := ctx_ok TABok ⟨impl_within.ok k, trivial⟩
theorem impl_isDeed_2.ev (k : Nat) (x : Prod' impl_isDeed_2.sig.ins) : impl_isDeed_2.sig.ev (impl_isDeed_2.C k) .auto Tryz.f125.results.toList (cB Tryz.f125) x = impl_isDeed_2 x := by kernel_rfl
theorem impl_isDeed_2.ok (k : Nat) : ConOk Tryz.prog 125 (impl_isDeed_2.con k) := sig_ok (p := .auto) (impl_isDeed_2.cok k) Tryz.func125 (by kernel_rfl) (show Tryz.f125.body = some (cB Tryz.f125) by kernel_rfl) (by kernel_rfl) (by kernel_rfl) (plan_of (L := []) (by kernel_rfl) trivial) (fun x y h => (impl_isDeed_2.ev k x).trans h)
def slices_IndexFunc_int64_isDeed_2.l0 : Nat → List Int → Int → Int → Option (Unit ⊕ Int)
  | 0, _, _, _ => none
  | j + 1, a1, a2, a3 =>
    bif decide (a3 < a2) then
      Option.bind (at? a1 a3) fun v4 =>
      Option.bind (impl_isDeed_2 v4) fun v5 =>
      bif v5 then
        some (.inr a3)
      else
      slices_IndexFunc_int64_isDeed_2.l0 j a1 a2 (IntKind.wrap .i64 (a3 + 1))
    else
    some (.inl ())
def slices_IndexFunc_int64_isDeed_2 (k : Nat) (a1 : List Int) : Option (Int) :=
  Option.bind (slices_IndexFunc_int64_isDeed_2.l0 k a1 ((a1.length) : Int) 0) fun
    | .inl y2 =>
      some (-1)
    | .inr y3 =>
      some y3
def slices_IndexFunc_int64_isDeed_2.sig : Sig := { ps := [.val false (.sl (.int .i64)) (ros (.sl (.int .i64))), .fn 125 []], rs := [.val false [.v (.int .i64)]], ntmps := 19 }
def slices_IndexFunc_int64_isDeed_2.con (k : Nat) : Con := slices_IndexFunc_int64_isDeed_2.sig.con (fun x => slices_IndexFunc_int64_isDeed_2 k x)
def slices_IndexFunc_int64_isDeed_2.C (k : Nat) : Ctx := { ti := TAB, con := conL [(125, impl_isDeed_2.con k)] }
theorem slices_IndexFunc_int64_isDeed_2.cok (k : Nat) : CtxOk Tryz.prog (slices_IndexFunc_int64_isDeed_2.C k) := ctx_ok TABok ⟨impl_isDeed_2.ok k, trivial⟩
def slices_IndexFunc_int64_isDeed_2.l0.ish : Shape := { tmps := [(0, .one (.bor (.int .i64))), (1, .fn 125 []), (7, .one (.v (.int .i64))), (8, .one (.v (.int .i64)))], slots := [], nb := 0 }
def slices_IndexFunc_int64_isDeed_2.l0.outs : List (Ex × Shape) := [(.exit 0, { tmps := [], slots := [], nb := 0 }), (.ret, { tmps := [(4, .one (.v (.int .i64)))], slots := [], nb := 0 })]
def slices_IndexFunc_int64_isDeed_2.l0.F (k j : Nat) (x : Prod' slices_IndexFunc_int64_isDeed_2.l0.ish.tys) : Option (Outs slices_IndexFunc_int64_isDeed_2.l0.outs) := slices_IndexFunc_int64_isDeed_2.l0 j x.1 x.2.1 x.2.2
def slices_IndexFunc_int64_isDeed_2.l0.s (k : Nat) : Summ := { n := 19, ish := slices_IndexFunc_int64_isDeed_2.l0.ish, outs := slices_IndexFunc_int64_isDeed_2.l0.outs, f := slices_IndexFunc_int64_isDeed_2.l0.F k k }
theorem slices_IndexFunc_int64_isDeed_2.l0.ev (k j : Nat) (x : Prod' slices_IndexFunc_int64_isDeed_2.l0.ish.tys) : V (slices_IndexFunc_int64_isDeed_2.C k) .auto (cO (cO (cR (cL (cR (cB Tryz.f187)))))) (mk slices_IndexFunc_int64_isDeed_2.l0.ish 19 x) (fun e st' => match e with | .nrm => (rd slices_IndexFunc_int64_isDeed_2.l0.ish st').bind (slices_IndexFunc_int64_isDeed_2.l0.F k j) | e => rdOut e st' slices_IndexFunc_int64_isDeed_2.l0.outs) = slices_IndexFunc_int64_isDeed_2.l0.F k (j + 1) x := by kernel_rfl
theorem slices_IndexFunc_int64_isDeed_2.l0.ok (k : Nat) : SumOk Tryz.prog (slices_IndexFunc_int64_isDeed_2.C k) (.loop (cO (cO (cR (cL (cR (cB Tryz.f187))))))) (slices_IndexFunc_int64_isDeed_2.l0.s k) := sum_ok (by kernel_rfl) (sum_loop (p := .auto) (F := slices_IndexFunc_int64_isDeed_2.l0.F k) (slices_IndexFunc_int64_isDeed_2.cok k) (by kernel_rfl) (plan_of (L := []) (by kernel_rfl) trivial) (fun _ => rfl) (fun j x y h => (slices_IndexFunc_int64_isDeed_2.l0.ev k j x).trans h) k rfl)
theorem slices_IndexFunc_int64_isDeed_2.ev (k : Nat) (x : Prod' slices_IndexFunc_int64_isDeed_2.sig.ins) : slices_IndexFunc_int64_isDeed_2.sig.ev (slices_IndexFunc_int64_isDeed_2.C k) (.two .auto (.two (.two .auto (.one (.sum (slices_IndexFunc_int64_isDeed_2.l0.s k)))) .auto)) Tryz.f187.results.toList (cB Tryz.f187) x = slices_IndexFunc_int64_isDeed_2 k x := by kernel_rfl
theorem slices_IndexFunc_int64_isDeed_2.ok (k : Nat) : ConOk Tryz.prog 187 (slices_IndexFunc_int64_isDeed_2.con k) := sig_ok (p := (.two .auto (.two (.two .auto (.one (.sum (slices_IndexFunc_int64_isDeed_2.l0.s k)))) .auto))) (slices_IndexFunc_int64_isDeed_2.cok k) Tryz.func187 (by kernel_rfl) (show Tryz.f187.body = some (cB Tryz.f187) by kernel_rfl) (by kernel_rfl) (by kernel_rfl) (plan_of (L := [(slices_IndexFunc_int64_isDeed_2.l0.s k, cO (cR (cL (cR (cB Tryz.f187)))))]) (by kernel_rfl) ⟨slices_IndexFunc_int64_isDeed_2.l0.ok k, trivial⟩) (fun x y h => (slices_IndexFunc_int64_isDeed_2.ev k x).trans h)
def slices_ContainsFunc_int64_isDeed_2 (k : Nat) (a1 : List Int) : Option (Bool) :=
  Option.bind (slices_IndexFunc_int64_isDeed_2 k a1) fun v2 =>
  some (decide (0 ≤ v2))
def slices_ContainsFunc_int64_isDeed_2.sig : Sig := { ps := [.val false (.sl (.int .i64)) (ros (.sl (.int .i64))), .fn 125 []], rs := [.val false [.v .bool]], ntmps := 9 }
def slices_ContainsFunc_int64_isDeed_2.con (k : Nat) : Con := slices_ContainsFunc_int64_isDeed_2.sig.con (fun x => slices_ContainsFunc_int64_isDeed_2 k x)
def slices_ContainsFunc_int64_isDeed_2.C (k : Nat) : Ctx := { ti := TAB, con := conL [(187, slices_IndexFunc_int64_isDeed_2.con k)] }
theorem slices_ContainsFunc_int64_isDeed_2.cok (k : Nat) : CtxOk Tryz.prog (slices_ContainsFunc_int64_isDeed_2.C k) := ctx_ok TABok ⟨slices_IndexFunc_int64_isDeed_2.ok k, trivial⟩
theorem slices_ContainsFunc_int64_isDeed_2.ev (k : Nat) (x : Prod' slices_ContainsFunc_int64_isDeed_2.sig.ins) : slices_ContainsFunc_int64_isDeed_2.sig.ev (slices_ContainsFunc_int64_isDeed_2.C k) .auto Tryz.f123.results.toList (cB Tryz.f123) x = slices_ContainsFunc_int64_isDeed_2 k x := by kernel_rfl
theorem slices_ContainsFunc_int64_isDeed_2.ok (k : Nat) : ConOk Tryz.prog 123 (slices_ContainsFunc_int64_isDeed_2.con k) := sig_ok (p := .auto) (slices_ContainsFunc_int64_isDeed_2.cok k) Tryz.func123 (by kernel_rfl) (show Tryz.f123.body = some (cB Tryz.f123) by kernel_rfl) (by kernel_rfl) (by kernel_rfl) (plan_of (L := []) (by kernel_rfl) trivial) (fun x y h => (slices_ContainsFunc_int64_isDeed_2.ev k x).trans h)
def impl_isDeed (k : Nat) (a1 : G28) : Option (Bool) :=
  Option.bind (impl_isCmd a1.1) fun v2 =>
  bif !v2 then
    some false
  else
  Option.bind (impl_within a1.2.1 (-1) 50) fun v3 =>
  let e4 := ((a1.2.2.1.length) : Int)
  let e5 := ((a1.2.2.2.length) : Int)
  bif (((!v3) || (decide (40 < e4))) || (decide (5 < e5))) || ((decide (a1.2.1 < 0)) && (decide (0 < (IntKind.wrap .i64 (e4 + e5))))) then
    some false
  else
  Option.bind (slices_ContainsFunc_int64_isDeed_1 k a1.2.2.1) fun v6 =>
  bif !v6 then
    Option.bind (slices_ContainsFunc_int64_isDeed_2 k a1.2.2.2) fun v7 =>
    some (!v7)
  else
  some false
def impl_isDeed.sig : Sig := { ps := [.val true T28 (ros T28)], rs := [.val false [.v .bool]], ntmps := 50 }
def impl_isDeed.con (k : Nat) : Con := impl_isDeed.sig.con (fun x => impl_isDeed k x)
def impl_isDeed.C (k : Nat) : Ctx := { ti := TAB, con := conL [(114, impl_within.con k), (122, impl_isCmd.con k), (123, slices_ContainsFunc_int64_isDeed_1.con k), (123, slices_ContainsFunc_int64_isDeed_2.con k)], rob := true }
theorem impl_isDeed.cok (k : Nat) : CtxOk Tryz.prog (impl_isDeed.C k) := ctx_ok TABok ⟨impl_within.ok k, impl_isCmd.ok k, slices_ContainsFunc_int64_isDeed_1.ok k, slices_ContainsFunc_int64_isDeed_2.ok k, trivial⟩
theorem impl_isDeed.ev (k : Nat) (x : Prod' impl_isDeed.sig.ins) : impl_isDeed.sig.ev (impl_isDeed.C k) .auto Tryz.f60.results.toList (cB Tryz.f60) x = impl_isDeed k x := by kernel_rfl
theorem impl_isDeed.ok (k : Nat) : ConOk Tryz.prog 60 (impl_isDeed.con k) := sig_ok (p := .auto) (impl_isDeed.cok k) Tryz.func60 (by kernel_rfl) (show Tryz.f60.body = some (cB Tryz.f60) by kernel_rfl) (by kernel_rfl) (by kernel_rfl) (plan_of (L := []) (by kernel_rfl) trivial) (fun x y h => (impl_isDeed.ev k x).trans h)
/-- strings.Split of a text that fits, at a separator that is not empty. -/
def strings_Split (s sep : Str) : Option (List Str) := if s.length < 4294967281 ∧ 1 ≤ sep.length then some ((Lib.splitB (ba sep) 0 (Lib.countB (ba s) (ba sep)) (ba s)).map (·.data.toList)) else none
def strings_Split.con (k : Nat) : Con := { ms := [.val [.ro], .val [.ro]], f := fun xs => match xs with
  | [.val false [.leaf (.str s)], .val false [.leaf (.str sep)]] => .opt (List Str) (strings_Split s sep) fun r => ⟨[.val false [.own 9 .str r]], []⟩
  | _ => .fail }
theorem strings_Split.ok (k : Nat) : ConOk Tryz.prog 93 (strings_Split.con k) := by
  refine ⟨(enter_of Tryz.func93 (by kernel_rfl) (show Tryz.f93.body = some (cB Tryz.f93) by kernel_rfl)), ?_⟩
  intro xs rr hrr w vs F L M hF hnd hgl hargs
  unfold strings_Split.con at hrr
  dsimp only at hrr
  split at hrr
  · rename_i s sep
    replace hrr : (strings_Split s sep).map (fun r => (⟨[.val false [.own 9 .str r]], []⟩ : RR)) = some rr := hrr
    unfold strings_Split at hrr
    split at hrr
    · rename_i hc
      obtain ⟨hc1, hc2⟩ := hc
      cases hrr
      match vs, hargs with
      | [v1, v2], ⟨_, _, _, _, hL, hM, ⟨rfl, hv1, hn1⟩, _, _, _, _, hL2, hM2, ⟨rfl, hv2, hn2⟩, hn3, hn4⟩ =>
      have hv1 : v1 = .string (ba s) := hv1
      have hv2 : v2 = .string (ba sep) := hv2
      subst hv1
      subst hv2
      subst hn1
      subst hn2
      subst hn3
      subst hn4
      subst hL2
      subst hM2
      subst hL
      subst hM
      obtain ⟨m, hm⟩ : ∃ m, w.cell? ⟨3, 0, none⟩ = some (.int .i64 m) := (hgl.1 3 (.int .i64) [] (by kernel_rfl)).2
      refine (Tryz.strings_Split (ba s) (ba sep) m w hc1 hm hc2).mono ?_
      rintro e w' ⟨rfl, rfl⟩
      have hlen := Lib.splitB_all (ba sep) hc2 0 _ (ba s) rfl
      have hle : Lib.countB (ba s) (ba sep) ≤ s.length := Lib.countB_le (ba sep) hc2 _ (ba s) (Nat.le_refl _)
      generalize Lib.splitB (ba sep) 0 (Lib.countB (ba s) (ba sep)) (ba s) = zs at hlen ⊢
      generalize Lib.countB (ba s) (ba sep) = c at hlen hle ⊢
      have hpush : (w.alloc (.cells (zs.map Value.string).toArray 9)).heap = w.heap.push (.cells (zs.map Value.string).toArray 9) := rfl
      have hsz : w.heap.size ≤ (w.alloc (.cells (zs.map Value.string).toArray 9)).heap.size := by rw [hpush, Array.size_push]; omega
      refine ⟨_, rfl, ⟨rfl, rfl, rfl, hsz, fun b hb _ => ?_⟩, [], [.row (.slice (some ⟨w.heap.size, 0, none⟩) (c + 1) (c + 1))], ?_, ?_, rfl, rfl, RowS.ok (.inr ⟨w.heap.size, c + 1, (zs.map Value.string).toArray, (0, 0), by rw [List.length_map, hlen], ?_, .inl rfl, fun _ => ⟨rfl, ?_⟩, ?_, ?_, ?_⟩) (by kernel_rfl), rfl⟩
      · rw [hpush, Array.getElem?_push_lt hb, Array.getElem?_eq_getElem hb]
      · intro b hb x hx
        rw [List.mem_singleton.1 hb] at hx
        cases hx
        exact ⟨.inr (Nat.le_refl _), by show w.heap.size < (w.heap.push (.cells (zs.map Value.string).toArray 9)).size; rw [Array.size_push]; omega⟩
      · exact List.nodup_cons.2 ⟨(fun h => nomatch h), List.nodup_nil⟩
      · rw [hpush]; exact Array.getElem?_push_size
      · unfold maxLen; omega
      · rw [List.length_map, hlen]; exact Nat.le_refl _
      · rw [List.size_toArray, List.length_map, hlen]; exact (Nat.mul_one _).symm
      · intro j x hx
        show (((zs.map Value.string).toArray.toList.drop (j * 1)).take 1) = [.string (ba x)]
        rw [List.getElem?_map] at hx
        obtain ⟨y, hy, rfl⟩ := Option.map_eq_some_iff.1 hx
        rw [Nat.mul_one, List.toList_toArray]
        apply List.ext_getElem?
        intro q
        rw [List.getElem?_take, List.getElem?_drop]
        cases q with
        | zero =>
          rw [if_pos (by omega), Nat.add_zero, List.getElem?_map, hy]
          rfl
        | succ q => rw [if_neg (by omega)]; rfl
    · cases hrr
  · cases hrr
end Go.Proofs.YtcnkbllbpimaiaaGreatDoorE

namespace Go.Proofs.YtcnkbllbpimaiaaGreatDoorE
open Go Go.RowKit
set_option linter.unusedVariables false
/-- The number of a word, or -1. -/
def wordNum (s : Str) : Int := match Lib.parseIntB 64 s with
  | .ok v => if v < 0 ∨ Lib.itoa v ≠ s then -1 else v
  | _ => -1
def impl_wordNumber (s : Str) : Option Int := if s.length ≤ 281474976710656 then some (wordNum s) else none
def impl_wordNumber.sig : Sig := { ps := [.val false .str (ros .str)], rs := [.val false [.v (.int .i64)]], ntmps := 0 }
def impl_wordNumber.con (k : Nat) : Con := impl_wordNumber.sig.con (fun x => impl_wordNumber x)
set_option maxHeartbeats 4000000 in
set_option maxRecDepth 100000 in
theorem impl_wordNumber.fmt (n : Int) (h0 : -9223372036854775808 ≤ n) (h1 : n ≤ 9223372036854775807) (w : World) (htab : Lib.TabIs Tryz.prog w "internal/strconv.uint64pow10" .u64 Lib.pow10Tab) :
    Calls Tryz.prog 160 #[.int .i64 n, .int .i64 10] w fun e w' => e = .returned (.string (ba (Lib.itoa n))) ∧ Below w.heap.size w w' := by
  have e218 : ∀ args w, (callFunc 218 args).run Tryz.prog w = .ok (.enter 218 args) w := enter_of Tryz.func218 (by kernel_rfl) (show Tryz.f218.body = some (cB Tryz.f218) by kernel_rfl)
  have hI : Calls Tryz.prog 218 #[.int .i64 n, .int .i64 10] w fun e w' => e = .returned (.string (ba (Lib.itoa n))) ∧ ∃ k os, w' = Go.Sort.grow (w.drewN k) os := Any.internal_strconv_FormatInt_10 Tryz.laysM246 n h0 h1 w htab
  go_enter Tryz.func160, Tryz.ntmps160
  go_wp2_with (go_at_fn 218; refine hI.mono ?_)
  rintro e W1 ⟨rfl, k, os, rfl⟩
  go_wp2
  go_ret
  exact ⟨rfl, Lib.below_grow _ w (Nat.le_refl _) k os⟩
set_option maxHeartbeats 4000000 in
set_option maxRecDepth 100000 in
theorem impl_wordNumber.walk (s : ByteArray) (hlim : s.size ≤ 281474976710656) (w : World) (hg : GlW w) :
    Calls Tryz.prog 94 #[.string s] w fun e w' => e = .returned (.int .i64 (wordNum s.data.toList)) ∧ Below w.heap.size w w' := by
  have e159 : ∀ args w, (callFunc 159 args).run Tryz.prog w = .ok (.enter 159 args) w := enter_of Tryz.func159 (by kernel_rfl) (show Tryz.f159.body = some (cB Tryz.f159) by kernel_rfl)
  have e160 : ∀ args w, (callFunc 160 args).run Tryz.prog w = .ok (.enter 160 args) w := enter_of Tryz.func160 (by kernel_rfl) (show Tryz.f160.body = some (cB Tryz.f160) by kernel_rfl)
  obtain ⟨v5, hv5, q5⟩ : ∃ v, w.cell? ⟨5, 0, none⟩ = some v ∧ (v = .nilIface ∨ ∃ t p, v = .iface t p) := (hg 5 .unit [] (by kernel_rfl)).2
  obtain ⟨v6, hv6, q6⟩ : ∃ v, w.cell? ⟨6, 0, none⟩ = some v ∧ (v = .nilIface ∨ ∃ t p, v = .iface t p) := (hg 6 .unit [] (by kernel_rfl)).2
  have hword : wordNum s.data.toList = match Lib.parseIntB 64 s.data.toList with
    | .ok v => if v < 0 ∨ Lib.itoa v ≠ s.data.toList then -1 else v
    | _ => -1 := rfl
  rw [hword]
  rcases hp : Lib.parseIntB 64 s.data.toList with v | _ | _
  · have hI : Calls Tryz.prog 159 #[.string s, .int .i64 10, .int .i64 64] w fun e w' => e = .returned (.tuple #[.int .i64 v, .nilIface]) ∧ (w' = w ∨ ∃ t, w' = Lib.bytesWorld w 5 t) := Any.strconv_ParseInt_10_at64_ok Tryz.laysC174 s (by omega) v hp w
    have hbd := Lib.parseIntB_bounds hp
    have htab0 : Lib.TabIs Tryz.prog w "internal/strconv.uint64pow10" .u64 Lib.pow10Tab := tab_of (n := 7) (by kernel_rfl) (hg 7 (.int .u64) Lib.pow10Tab (by kernel_rfl))
    dsimp only
    obtain ⟨z, hz⟩ : ∃ z, z = if v < 0 ∨ Lib.itoa v ≠ s.data.toList then -1 else v := ⟨_, rfl⟩
    rw [← hz]
    obtain ⟨b, hb⟩ : ∃ b, b = ba (Lib.itoa v) := ⟨_, rfl⟩
    have hbs : ((!(b.toList == s.toList)) = false) = (Lib.itoa v = s.data.toList) := by
      rw [Lib.toList_data, Lib.toList_data, hb]
      simp [ba]
    have htr : ((!(b.toList == s.toList)) = true) = (Lib.itoa v ≠ s.data.toList) := by
      rw [Lib.toList_data, Lib.toList_data, hb]
      simp [ba]
    have hFF : ∀ W1, Lib.TabIs Tryz.prog W1 "internal/strconv.uint64pow10" .u64 Lib.pow10Tab → Calls Tryz.prog 160 #[.int .i64 v, .int .i64 10] W1 fun e w' => e = .returned (.string b) ∧ Below W1.heap.size W1 w' := fun W1 h => by
      rw [hb]
      exact impl_wordNumber.fmt v (by omega) (by omega) W1 h
    clear hb
    go_enter Tryz.func94, Tryz.ntmps94
    go_wp2_with (go_at_fn 159; refine hI.mono ?_)
    rintro e W1 ⟨rfl, hW⟩
    have bel : Below w.heap.size w W1 := by
      rcases hW with rfl | ⟨t, rfl⟩
      · exact Below.refl _ _
      · exact Lib.bytesWorld_below _ _ _
    clear hW
    by_cases hneg : v < 0
    · rw [if_pos (.inl hneg)] at hz
      subst hz
      clear hbs htr
      go_wp2
      go_ret
      exact ⟨rfl, bel⟩
    · have htab : Lib.TabIs Tryz.prog W1 "internal/strconv.uint64pow10" .u64 Lib.pow10Tab := Go.Joins.tab_stays (g := 7) (by kernel_rfl) htab0 bel (Nat.le_refl _)
      have hF := hFF W1 htab
      go_wp2_with (go_at_fn 160; refine hF.mono ?_)
      rintro e W2 ⟨rfl, bel2⟩
      have bel3 : Below w.heap.size w W2 := bel.trans (bel2.mono bel.size)
      generalize hq : (!(b.toList == s.toList)) = q at hbs htr
      cases q with
      | false =>
        have h1 : Lib.itoa v = s.data.toList := by rw [← hbs]
        rw [if_neg (by intro h; rcases h with h | h; exact absurd h (by omega); exact h h1)] at hz
        subst hz
        clear hbs htr
        go_wp2
        go_ret
        exact ⟨rfl, bel3⟩
      | true =>
        have h1 : Lib.itoa v ≠ s.data.toList := by rw [← htr]
        rw [if_pos (.inr h1)] at hz
        subst hz
        clear hbs htr
        go_wp2
        go_ret
        exact ⟨rfl, bel3⟩
  · have hI : Calls Tryz.prog 159 #[.string s, .int .i64 10, .int .i64 64] w fun e w' => ∃ v N, e = .returned (.tuple #[.int .i64 0, .iface v (.pointer (some ⟨N, 0, none⟩))]) ∧ Below w.heap.size w w' := (Any.strconv_ParseInt_10_at64_syntax Tryz.laysC174 s hlim hp v5 w hv5 q5).mono fun e w' ⟨N, h1, _, _, h4⟩ => ⟨_, N, h1, h4⟩
    go_enter Tryz.func94, Tryz.ntmps94
    go_wp2_with (go_at_fn 159; refine hI.mono ?_)
    rintro e W1 ⟨v, N, rfl, bel⟩
    go_wp2
    go_ret
    exact ⟨rfl, bel⟩
  · have hI : Calls Tryz.prog 159 #[.string s, .int .i64 10, .int .i64 64] w fun e w' => ∃ v N, e = .returned (.tuple #[.int .i64 (Lib.intSat 64 s.data.toList), .iface v (.pointer (some ⟨N, 0, none⟩))]) ∧ Below w.heap.size w w' := (Any.strconv_ParseInt_10_at64_range Tryz.laysC174 s hlim hp v6 w hv6 q6).mono fun e w' ⟨N, h1, _, _, h4⟩ => ⟨_, N, h1, h4⟩
    generalize Lib.intSat 64 s.data.toList = z at hI
    go_enter Tryz.func94, Tryz.ntmps94
    go_wp2_with (go_at_fn 159; refine hI.mono ?_)
    rintro e W1 ⟨v, N, rfl, bel⟩
    go_wp2
    go_ret
    exact ⟨rfl, bel⟩
theorem impl_wordNumber.ok (k : Nat) : ConOk Tryz.prog 94 (impl_wordNumber.con k) := hand_glob (enter_of Tryz.func94 (by kernel_rfl) (show Tryz.f94.body = some (cB Tryz.f94) by kernel_rfl)) (by kernel_rfl) (by kernel_rfl) (by
  intro (s : Str) (y : Int) w hg h
  replace h : impl_wordNumber s = some y := h
  unfold impl_wordNumber at h
  split at h
  · rename_i h0
    injection h with h
    subst h
    refine (impl_wordNumber.walk (ba s) h0 w hg).mono ?_
    rintro e w' ⟨rfl, bel⟩
    exact ⟨[.int .i64 (wordNum s)], rfl, rfl, rfl, bel⟩
  · cases h)
def impl_wordNumbers.l0 : Nat → Int → Int → List Int → List Str → Option ((List Int))
  | 0, _, _, _, _ => none
  | j + 1, a1, a2, a3, a4 =>
    bif decide (a2 < a1) then
      Option.bind (at? a4 a2) fun v5 =>
      Option.bind (at? a4 a2) fun v6 =>
      Option.bind (impl_wordNumber v6) fun v7 =>
      Option.bind (app? 8 a3 [v7]) fun v8 =>
      impl_wordNumbers.l0 j a1 (IntKind.wrap .i64 (a2 + 1)) v8 a4
    else
    some a3
def impl_wordNumbers (k : Nat) (a1 : Str) : Option (List Int) :=
  bif a1 == ([45] : Str) then
    some ([])
  else
  Option.bind (strings_Split a1 ([44] : Str)) fun v2 =>
  Option.bind (impl_wordNumbers.l0 k ((v2.length) : Int) 0 [] v2) fun y3 =>
  some y3
def impl_wordNumbers.sig : Sig := { ps := [.val false .str (ros .str)], rs := [.val false [.own 2 (.int .i64)]], ntmps := 22 }
def impl_wordNumbers.con (k : Nat) : Con := impl_wordNumbers.sig.con (fun x => impl_wordNumbers k x)
def impl_wordNumbers.C (k : Nat) : Ctx := { ti := TAB, con := conL [(93, strings_Split.con k), (94, impl_wordNumber.con k)] }
theorem impl_wordNumbers.cok (k : Nat) : CtxOk Tryz.prog (impl_wordNumbers.C k) := ctx_ok TABok ⟨strings_Split.ok k, impl_wordNumber.ok k, trivial⟩
def impl_wordNumbers.l0.ish : Shape := { tmps := [(3, .one (.own 1)), (9, .one (.own 2)), (10, .one (.v (.int .i64))), (11, .one (.v (.int .i64)))], slots := [(1, .arr false 2 (.int .i64)), (2, .arr false 9 .str)], nb := 3 }
def impl_wordNumbers.l0.outs : List (Ex × Shape) := [(.exit 0, { tmps := [(3, .one (.own 3))], slots := [(3, .arr false 2 (.int .i64))], nb := 4 })]
def impl_wordNumbers.l0.F (k j : Nat) (x : Prod' impl_wordNumbers.l0.ish.tys) : Option (Outs impl_wordNumbers.l0.outs) := impl_wordNumbers.l0 j x.1 x.2.1 x.2.2.1 x.2.2.2
def impl_wordNumbers.l0.s (k : Nat) : Summ := { n := 22, ish := impl_wordNumbers.l0.ish, outs := impl_wordNumbers.l0.outs, f := impl_wordNumbers.l0.F k k }
theorem impl_wordNumbers.l0.ev (k j : Nat) (x : Prod' impl_wordNumbers.l0.ish.tys) : V (impl_wordNumbers.C k) .auto (cO (cO (cR (cL (cR (cR (cR (cB Tryz.f95)))))))) (mk impl_wordNumbers.l0.ish 22 x) (fun e st' => match e with | .nrm => (rd impl_wordNumbers.l0.ish st').bind (impl_wordNumbers.l0.F k j) | e => rdOut e st' impl_wordNumbers.l0.outs) = impl_wordNumbers.l0.F k (j + 1) x := by kernel_rfl
theorem impl_wordNumbers.l0.ok (k : Nat) : SumOk Tryz.prog (impl_wordNumbers.C k) (.loop (cO (cO (cR (cL (cR (cR (cR (cB Tryz.f95))))))))) (impl_wordNumbers.l0.s k) := sum_ok (by kernel_rfl) (sum_loop (p := .auto) (F := impl_wordNumbers.l0.F k) (impl_wordNumbers.cok k) (by kernel_rfl) (plan_of (L := []) (by kernel_rfl) trivial) (fun _ => rfl) (fun j x y h => (impl_wordNumbers.l0.ev k j x).trans h) k rfl)
theorem impl_wordNumbers.ev (k : Nat) (x : Prod' impl_wordNumbers.sig.ins) : impl_wordNumbers.sig.ev (impl_wordNumbers.C k) (.two .auto (.two .auto (.two .auto (.two (.two .auto (.one (.sum (impl_wordNumbers.l0.s k)))) .auto)))) Tryz.f95.results.toList (cB Tryz.f95) x = impl_wordNumbers k x := by kernel_rfl
theorem impl_wordNumbers.ok (k : Nat) : ConOk Tryz.prog 95 (impl_wordNumbers.con k) := sig_ok (p := (.two .auto (.two .auto (.two .auto (.two (.two .auto (.one (.sum (impl_wordNumbers.l0.s k)))) .auto))))) (impl_wordNumbers.cok k) Tryz.func95 (by kernel_rfl) (show Tryz.f95.body = some (cB Tryz.f95) by kernel_rfl) (by kernel_rfl) (by kernel_rfl) (plan_of (L := [(impl_wordNumbers.l0.s k, cO (cR (cL (cR (cR (cR (cB Tryz.f95)))))))]) (by kernel_rfl) ⟨impl_wordNumbers.l0.ok k, trivial⟩) (fun x y h => (impl_wordNumbers.ev k x).trans h)
def slices_Index_string.l0 : Nat → List Str → Str → Int → Int → Option (Unit ⊕ Int)
  | 0, _, _, _, _ => none
  | j + 1, a1, a2, a3, a4 =>
    bif decide (a4 < a3) then
      Option.bind (at? a1 a4) fun v5 =>
      bif a2 == v5 then
        some (.inr a4)
      else
      slices_Index_string.l0 j a1 a2 a3 (IntKind.wrap .i64 (a4 + 1))
    else
    some (.inl ())
def slices_Index_string (k : Nat) (a1 : List Str) (a2 : Str) : Option (Int) :=
  Option.bind (slices_Index_string.l0 k a1 a2 ((a1.length) : Int) 0) fun
    | .inl y3 =>
      some (-1)
    | .inr y4 =>
      some y4
def slices_Index_string.sig : Sig := { ps := [.val false (.sl .str) (ros (.sl .str)), .val false .str (ros .str)], rs := [.val false [.v (.int .i64)]], ntmps := 19 }
def slices_Index_string.con (k : Nat) : Con := slices_Index_string.sig.con (fun x => slices_Index_string k x.1 x.2)
def slices_Index_string.C (k : Nat) : Ctx := { ti := TAB, con := conL [] }
theorem slices_Index_string.cok (k : Nat) : CtxOk Tryz.prog (slices_Index_string.C k) := ctx_ok TABok trivial
def slices_Index_string.l0.ish : Shape := { tmps := [(0, .one (.bor .str)), (1, .one (.v .str)), (7, .one (.v (.int .i64))), (8, .one (.v (.int .i64)))], slots := [], nb := 0 }
def slices_Index_string.l0.outs : List (Ex × Shape) := [(.exit 0, { tmps := [], slots := [], nb := 0 }), (.ret, { tmps := [(4, .one (.v (.int .i64)))], slots := [], nb := 0 })]
def slices_Index_string.l0.F (k j : Nat) (x : Prod' slices_Index_string.l0.ish.tys) : Option (Outs slices_Index_string.l0.outs) := slices_Index_string.l0 j x.1 x.2.1 x.2.2.1 x.2.2.2
def slices_Index_string.l0.s (k : Nat) : Summ := { n := 19, ish := slices_Index_string.l0.ish, outs := slices_Index_string.l0.outs, f := slices_Index_string.l0.F k k }
theorem slices_Index_string.l0.ev (k j : Nat) (x : Prod' slices_Index_string.l0.ish.tys) : V (slices_Index_string.C k) .auto (cO (cO (cR (cL (cR (cB Tryz.f161)))))) (mk slices_Index_string.l0.ish 19 x) (fun e st' => match e with | .nrm => (rd slices_Index_string.l0.ish st').bind (slices_Index_string.l0.F k j) | e => rdOut e st' slices_Index_string.l0.outs) = slices_Index_string.l0.F k (j + 1) x := by kernel_rfl
theorem slices_Index_string.l0.ok (k : Nat) : SumOk Tryz.prog (slices_Index_string.C k) (.loop (cO (cO (cR (cL (cR (cB Tryz.f161))))))) (slices_Index_string.l0.s k) := sum_ok (by kernel_rfl) (sum_loop (p := .auto) (F := slices_Index_string.l0.F k) (slices_Index_string.cok k) (by kernel_rfl) (plan_of (L := []) (by kernel_rfl) trivial) (fun _ => rfl) (fun j x y h => (slices_Index_string.l0.ev k j x).trans h) k rfl)
theorem slices_Index_string.ev (k : Nat) (x : Prod' slices_Index_string.sig.ins) : slices_Index_string.sig.ev (slices_Index_string.C k) (.two .auto (.two (.two .auto (.one (.sum (slices_Index_string.l0.s k)))) .auto)) Tryz.f161.results.toList (cB Tryz.f161) x = slices_Index_string k x.1 x.2 := by kernel_rfl
theorem slices_Index_string.ok (k : Nat) : ConOk Tryz.prog 161 (slices_Index_string.con k) := sig_ok (p := (.two .auto (.two (.two .auto (.one (.sum (slices_Index_string.l0.s k)))) .auto))) (slices_Index_string.cok k) Tryz.func161 (by kernel_rfl) (show Tryz.f161.body = some (cB Tryz.f161) by kernel_rfl) (by kernel_rfl) (by kernel_rfl) (plan_of (L := [(slices_Index_string.l0.s k, cO (cR (cL (cR (cB Tryz.f161)))))]) (by kernel_rfl) ⟨slices_Index_string.l0.ok k, trivial⟩) (fun x y h => (slices_Index_string.ev k x).trans h)
/-- strings.Repeat where the copies fit into memory. -/
def strings_Repeat (a : Str) (n : Int) : Option Str := if 0 ≤ n ∧ (a.length : Int) * n ≤ 140737488355328 ∧ n ≤ 9223372036854775807 then some (Lib.repeatL a n.toNat) else none
def strings_Repeat.sig : Sig := { ps := [.val false .str (ros .str), .val false (.int .i64) (ros (.int .i64))], rs := [.val false [.v .str]], ntmps := 0 }
def strings_Repeat.con (k : Nat) : Con := strings_Repeat.sig.con (fun x => strings_Repeat x.1 x.2)
theorem strings_Repeat.ok (k : Nat) : ConOk Tryz.prog 162 (strings_Repeat.con k) := hand_scal (enter_of Tryz.func162 (by kernel_rfl) (show Tryz.f162.body = some (cB Tryz.f162) by kernel_rfl)) (by kernel_rfl) (by kernel_rfl) (by
  intro (x : Str × Int) (y : Str) w h
  obtain ⟨a, n⟩ := x
  replace h : strings_Repeat a n = some y := h
  unfold strings_Repeat at h
  split at h
  · rename_i h0
    obtain ⟨h0, h1, h2⟩ := h0
    injection h with h
    subst h
    obtain ⟨c, rfl⟩ : ∃ c : Nat, n = (c : Int) := ⟨n.toNat, by omega⟩
    have h3 : ((a.length * c : Nat) : Int) ≤ 140737488355328 := by rw [Int.natCast_mul]; exact h1
    have h1' : a.length * c ≤ 140737488355328 := by omega
    refine (Tryz.strings_Repeat (ba a) c w (by omega) h1').mono ?_
    rintro e w' ⟨rfl, bel⟩
    exact ⟨[.string (ba (Lib.repeatL a c))], rfl, rfl, rfl, bel⟩
  · cases h)
/-- The value of a hexadecimal digit. -/
def hexDig (c : UInt8) : Option Nat := if 48 ≤ c.toNat ∧ c.toNat ≤ 57 then some (c.toNat - 48) else
  if 97 ≤ bits .or .u8 (c.toNat : Int) 32 ∧ bits .or .u8 (c.toNat : Int) 32 ≤ 102 then some ((bits .or .u8 (c.toNat : Int) 32).toNat - 87) else none
def hexNum : Nat → Str → Option Nat
  | a, [] => some a
  | a, c :: s => match hexDig c with
    | some d => hexNum (a * 16 + d) s
    | none => none
def hexTup : Option Nat → Value
  | some n => .tuple #[.int .u64 n, .nilIface]
  | none => .tuple #[.int .u64 0, .iface 293 (.int .i64 2)]
set_option maxHeartbeats 32000000 in
set_option maxRecDepth 100000 in
theorem strconv_ParseUint.inner (t : ByteArray) (hsz : t.size = 2) (w : World) :
    Calls Tryz.prog 263 #[.string t, .int .i64 16, .int .i64 8] w fun e w' => e = .returned (hexTup (hexNum 0 t.data.toList)) ∧ w' = Lib.bytesWorld w 5 t := by
  have e304 : ∀ args w, (callFunc 304 args).run Tryz.prog w = .ok (.enter 304 args) w := enter_of Tryz.func304 (by kernel_rfl) (show Tryz.f304.body = some (cB Tryz.f304) by kernel_rfl)
  have hemp : t.toList.isEmpty = false := by
    rw [← decide_eq_emptyBytes]
    exact decide_eq_false (fun h => by rw [h] at hsz; cases hsz)
  have hcv := Lib.run_convert_string_bytes (P := Tryz.prog) w 9 138 5 t (u := .string) (by kernel_rfl) (by kernel_rfl) (by kernel_rfl)
  have hB : ∀ j, j < t.size → (Lib.bytesWorld w 5 t).cell? ⟨w.heap.size, j, none⟩ = some (.int .u8 (t.data.toList.getD j 0).toNat) := fun j hj => Lib.bytesWorld_cell w 5 t j hj
  obtain ⟨W1, hW1⟩ : ∃ W1, W1 = Lib.bytesWorld w 5 t := ⟨_, rfl⟩
  rw [← hW1] at hcv hB ⊢
  clear hW1
  obtain ⟨bs, hL⟩ : ∃ bs, bs = t.data.toList := ⟨_, rfl⟩
  have hLn : bs.length = t.size := by rw [hL, Lib.size_eq]
  rw [← hL] at hB ⊢
  clear hL
  have hmv : IntKind.u64.wrap (IntKind.u64.wrap 256 - 1) = 255 := by
    rw [IntKind.wrap_u64, IntKind.wrap_u64]
    decide
  go_enter Tryz.func263, Tryz.ntmps263
  go_wp2
  go_loop [12, 13, 101] (fun vu vn vi => ∃ (k acc : Nat) (a : Int), vu = .bool false ∧ vn = .int .u64 a ∧ vi = .int .i64 k ∧ k ≤ t.size ∧ Hid (a = (acc : Int) ∧ acc < 16 ^ k ∧ hexNum 0 bs = hexNum acc (bs.drop k)))
    (fun _ _ vi => t.size - (intOf vi).toNat)
  case atStart => exact ⟨0, 0, 0, rfl, rfl, rfl, by omega, rfl, by decide, rfl⟩
  case round =>
    obtain ⟨k, acc, a, rfl, rfl, rfl, hk, hh⟩ := hrel
    obtain ⟨ha, hacc, hdec⟩ := hh.out
    clear hh
    by_cases hkn : k < t.size
    · have hacc2 : acc ≤ 15 := by
        have : k = 0 ∨ k = 1 := by omega
        rcases this with rfl | rfl <;> simp at hacc <;> omega
      have hacc3 : ∀ d, d < 16 → acc * 16 + d < 16 ^ (k + 1) := fun d hd => by
        rw [Nat.pow_succ]; omega
      have a0 : 0 ≤ a := by omega
      have a1 : a ≤ 15 := by omega
      have hc := hB k hkn
      have hdrop : bs.drop k = bs[k]'(by omega) :: bs.drop (k + 1) := List.drop_eq_getElem_cons (by omega)
      have hget : bs.getD k 0 = bs[k]'(by omega) := by simp [List.getD, List.getElem?_eq_getElem (show k < bs.length by omega)]
      rw [hdrop] at hdec
      rw [hget] at hc
      generalize bs[k]'(by omega) = c at hc hdec
      have hc256 : c.toNat < 256 := c.toNat_lt
      clear hB hdrop hget
      by_cases hdig : 48 ≤ c.toNat ∧ c.toNat ≤ 57
      · obtain ⟨hd0, hd1⟩ := hdig
        have hF : hexNum acc (c :: bs.drop (k + 1)) = hexNum (acc * 16 + (c.toNat - 48)) (bs.drop (k + 1)) := by simp [hexNum, hexDig, hd0, hd1]
        have HN : Hid (a * 16 + ((c.toNat : Int) - 48) = ((acc * 16 + (c.toNat - 48) : Nat) : Int) ∧ acc * 16 + (c.toNat - 48) < 16 ^ (k + 1) ∧ hexNum 0 bs = hexNum (acc * 16 + (c.toNat - 48)) (bs.drop (k + 1))) := Lib.hid ⟨by omega, hacc3 _ (by omega), hdec.trans hF⟩
        have iov : a * 16 + ((c.toNat : Int) - 48) ≤ 255 := by omega
        clear hacc hacc2 hacc3 hF hdec ha
        go_wp2
        refine ⟨⟨k + 1, acc * 16 + (c.toNat - 48), a * 16 + ((c.toNat : Int) - 48), rfl, (by first | rfl | (congr 1; omega)), (by first | rfl | (congr 1; omega)), by omega, HN⟩, by simp [intOf]; omega⟩
      · have hv0 := bits_lo_u8 .or (c.toNat : Int) 32
        have hv1 := bits_hi_u8 .or (c.toNat : Int) 32
        have hu0 := bits_lo_u8 .or 95 32
        have hu1 := bits_hi_u8 .or 95 32
        obtain ⟨l, hl⟩ : ∃ l, l = bits .or .u8 (c.toNat : Int) 32 := ⟨_, rfl⟩
        by_cases hlet : 97 ≤ l ∧ l ≤ 102
        · obtain ⟨hl0, hl1⟩ := hlet
          have hF : hexNum acc (c :: bs.drop (k + 1)) = hexNum (acc * 16 + (l.toNat - 87)) (bs.drop (k + 1)) := by
            rw [hexNum, hexDig, if_neg hdig, ← hl, if_pos ⟨hl0, hl1⟩]
          have HN : Hid (a * 16 + (l - 87) = ((acc * 16 + (l.toNat - 87) : Nat) : Int) ∧ acc * 16 + (l.toNat - 87) < 16 ^ (k + 1) ∧ hexNum 0 bs = hexNum (acc * 16 + (l.toNat - 87)) (bs.drop (k + 1))) := Lib.hid ⟨by omega, hacc3 _ (by omega), hdec.trans hF⟩
          have iov : a * 16 + (l - 87) ≤ 255 := by omega
          rw [← hl] at hv0 hv1
          have hlow : ∀ w, Calls Tryz.prog 304 #[.int .u8 c.toNat] w fun e w' => e = .returned (.int .u8 l) ∧ w' = w := fun w => by rw [hl]; exact Any.internal_strconv_lower Tryz.lays321 _ w
          have hc95 : c.toNat ≠ 95 := fun h => by
            rw [h] at hl
            have : l = 127 := hl
            omega
          clear hacc hacc2 hacc3 hF hdec ha hl hu0 hu1
          go_wp2_with (go_at_fn 304; refine (hlow _).mono ?_; rintro e w' ⟨rfl, rfl⟩)
          all_goals refine ⟨⟨k + 1, acc * 16 + (l.toNat - 87), a * 16 + (l - 87), rfl, (by first | rfl | (congr 1; omega)), (by first | rfl | (congr 1; omega)), by omega, HN⟩, by simp [intOf]; omega⟩
        · have hF : hexNum acc (c :: bs.drop (k + 1)) = none := by
            rw [hexNum, hexDig, if_neg hdig, ← hl, if_neg hlet]
          rw [hF] at hdec
          rw [← hl] at hv0 hv1
          by_cases h95 : c.toNat = 95
          · have hlow : ∀ w, Calls Tryz.prog 304 #[.int .u8 95] w fun e w' => e = .returned (.int .u8 127) ∧ w' = w := fun w => Any.internal_strconv_lower Tryz.lays321 95 w
            rw [h95] at hc
            clear hacc hacc2 hacc3 hF ha hl hu0 hu1 hv0 hv1 hlet
            go_wp2_with (go_at_fn 304; refine (hlow _).mono ?_; rintro e w' ⟨rfl, rfl⟩)
            all_goals (go_ret2; first | exact ⟨rfl, rfl⟩ | exact ⟨by rw [hdec]; rfl, rfl⟩)
          · have hlow : ∀ w, Calls Tryz.prog 304 #[.int .u8 c.toNat] w fun e w' => e = .returned (.int .u8 l) ∧ w' = w := fun w => by rw [hl]; exact Any.internal_strconv_lower Tryz.lays321 _ w
            clear hacc hacc2 hacc3 hF ha hl hu0 hu1
            rcases (show l < 97 ∨ (102 < l ∧ l ≤ 122) ∨ 122 < l by omega) with h | ⟨h, h'⟩ | h
            · clear hlet
              go_wp2_with (go_at_fn 304; refine (hlow _).mono ?_; rintro e w' ⟨rfl, rfl⟩)
              all_goals (go_ret2; first | exact ⟨rfl, rfl⟩ | exact ⟨by rw [hdec]; rfl, rfl⟩)
            · clear hlet
              go_wp2_with (go_at_fn 304; refine (hlow _).mono ?_; rintro e w' ⟨rfl, rfl⟩)
              all_goals (go_ret2; first | exact ⟨rfl, rfl⟩ | exact ⟨by rw [hdec]; rfl, rfl⟩)
            · clear hlet
              go_wp2_with (go_at_fn 304; refine (hlow _).mono ?_; rintro e w' ⟨rfl, rfl⟩)
              all_goals (go_ret2; first | exact ⟨rfl, rfl⟩ | exact ⟨by rw [hdec]; rfl, rfl⟩)
    · have hkk : k = t.size := by omega
      subst hkk
      have hF : hexNum acc (bs.drop t.size) = some acc := by rw [List.drop_eq_nil_of_le (by omega)]; rfl
      rw [hF] at hdec
      subst ha
      clear hacc hF
      go_wp2
      go_ret2
      first | exact ⟨rfl, rfl⟩ | exact ⟨by rw [hdec]; rfl, rfl⟩
set_option maxHeartbeats 4000000 in
set_option maxRecDepth 100000 in
theorem strconv_ParseUint.walk (s : ByteArray) (hsz : s.size = 2) (w : World) (hg : GlW w) :
    Calls Tryz.prog 225 #[.string s, .int .i64 16, .int .i64 8] w fun e w' => ∃ v, v.oneCell' = true ∧ e = .returned (.tuple #[.int .u64 ((hexNum 0 s.data.toList).getD 0 : Nat), v]) ∧ Below w.heap.size w w' := by
  have e263 : ∀ args w, (callFunc 263 args).run Tryz.prog w = .ok (.enter 263 args) w := enter_of Tryz.func263 (by kernel_rfl) (show Tryz.f263.body = some (cB Tryz.f263) by kernel_rfl)
  have e217 : ∀ args w, (callFunc 217 args).run Tryz.prog w = .ok (.enter 217 args) w := enter_of Tryz.func217 (by kernel_rfl) (show Tryz.f217.body = some (cB Tryz.f217) by kernel_rfl)
  obtain ⟨v5, hv5, q5⟩ : ∃ v, w.cell? ⟨5, 0, none⟩ = some v ∧ (v = .nilIface ∨ ∃ t p, v = .iface t p) := (hg 5 .unit [] (by kernel_rfl)).2
  have h5 : 5 < w.heap.size := (hg 5 .unit [] (by kernel_rfl)).1
  have hI := strconv_ParseUint.inner s hsz w
  cases hx : hexNum 0 s.data.toList with
  | some n =>
    rw [hx] at hI
    replace hI : Calls Tryz.prog 263 #[.string s, .int .i64 16, .int .i64 8] w fun e w' => e = .returned (.tuple #[.int .u64 n, .nilIface]) ∧ w' = Lib.bytesWorld w 5 s := hI
    show Calls Tryz.prog 225 #[.string s, .int .i64 16, .int .i64 8] w fun e w' => ∃ v, v.oneCell' = true ∧ e = .returned (.tuple #[.int .u64 (n : Nat), v]) ∧ Below w.heap.size w w'
    go_enter Tryz.func225, Tryz.ntmps225
    go_wp2_with (go_at_fn 263; refine hI.mono ?_)
    rintro e W1 ⟨rfl, rfl⟩
    go_wp2
    go_ret2
    exact ⟨_, rfl, rfl, Lib.bytesWorld_below _ _ _⟩
  | none =>
    rw [hx] at hI
    replace hI : Calls Tryz.prog 263 #[.string s, .int .i64 16, .int .i64 8] w fun e w' => e = .returned (.tuple #[.int .u64 0, .iface 293 (.int .i64 2)]) ∧ w' = Lib.bytesWorld w 5 s := hI
    show Calls Tryz.prog 225 #[.string s, .int .i64 16, .int .i64 8] w fun e w' => ∃ v, v.oneCell' = true ∧ e = .returned (.tuple #[.int .u64 0, v]) ∧ Below w.heap.size w w'
    go_enter Tryz.func225, Tryz.ntmps225
    go_wp2_with (go_at_fn 263; refine hI.mono ?_)
    rintro e W1 ⟨rfl, hW⟩
    have bel : Below w.heap.size w W1 := by rw [hW]; exact Lib.bytesWorld_below _ _ _
    have hv1 : W1.cell? ⟨5, 0, none⟩ = some v5 := (bel.cell (show (⟨5, 0, none⟩ : Addr).block < w.heap.size from h5)).trans hv5
    clear hW
    have hT : Calls Tryz.prog 217 #[.string ⟨#[80, 97, 114, 115, 101, 85, 105, 110, 116]⟩, .string s, .int .i64 16, .int .i64 8, .iface 293 (.int .i64 2)] W1 fun e w' => ∃ v N, e = .returned (.iface v (.pointer (some ⟨N, 0, none⟩))) ∧ Below W1.heap.size W1 w' := (Any.strconv_toError_syntax Tryz.laysC245 ⟨#[80, 97, 114, 115, 101, 85, 105, 110, 116]⟩ s 16 8 v5 W1 (by omega) hv1 q5).mono fun e w' ⟨N, h1, _, _, h4⟩ => ⟨_, N, h1, h4⟩
    go_wp2_with (go_at_fn 217; refine hT.mono ?_)
    rintro e W2 ⟨v, N, rfl, bel2⟩
    go_wp2
    go_ret2
    exact ⟨_, rfl, rfl, bel.trans (bel2.mono bel.size)⟩
/-- strconv.ParseUint of two hexadecimal digits; 0 where they are none. -/
def strconv_ParseUint (s : Str) (b z : Int) : Option Int := if s.length = 2 ∧ b = 16 ∧ z = 8 then some (((hexNum 0 s).getD 0 : Nat) : Int) else none
def strconv_ParseUint.con (k : Nat) : Con := { ms := [.val [.ro], .val [.ro], .val [.ro]], f := fun xs => match xs with
  | [.val false [.leaf (.str s)], .val false [.leaf (.int .i64 b)], .val false [.leaf (.int .i64 z)]] => .opt Int (strconv_ParseUint s b z) fun r => ⟨[.val false [.leaf (.int .u64 r)], .val false [.leaf .unk]], []⟩
  | _ => .fail }
theorem strconv_ParseUint.ok (k : Nat) : ConOk Tryz.prog 225 (strconv_ParseUint.con k) := by
  refine ⟨(enter_of Tryz.func225 (by kernel_rfl) (show Tryz.f225.body = some (cB Tryz.f225) by kernel_rfl)), ?_⟩
  intro xs rr hrr w vs F L M hF hnd hgl hargs
  unfold strconv_ParseUint.con at hrr
  dsimp only at hrr
  split at hrr
  · rename_i s b z
    replace hrr : (strconv_ParseUint s b z).map (fun r => (⟨[.val false [.leaf (.int .u64 r)], .val false [.leaf .unk]], []⟩ : RR)) = some rr := hrr
    unfold strconv_ParseUint at hrr
    split at hrr
    · rename_i hc
      obtain ⟨hc1, rfl, rfl⟩ := hc
      cases hrr
      match vs, hargs with
      | [v1, v2, v3], ⟨_, _, _, _, hL, hM, ⟨rfl, hv1, hn1⟩, _, _, _, _, hL2, hM2, ⟨rfl, hv2, hn2⟩, _, _, _, _, hL3, hM3, ⟨rfl, hv3, hn3⟩, hn4, hn5⟩ =>
      have hv1 : v1 = .string (ba s) := hv1
      have hv2 : v2 = .int .i64 16 := hv2
      have hv3 : v3 = .int .i64 8 := hv3
      subst hv1 hv2 hv3 hn1 hn2 hn3 hn4 hn5 hL3 hM3 hL2 hM2 hL hM
      refine (strconv_ParseUint.walk (ba s) hc1 w hgl.1).mono ?_
      rintro e w' ⟨v, hv, rfl, bel⟩
      refine ⟨_, rfl, ⟨bel.os, bel.tape, bel.output, bel.size, fun b hb _ => bel.block b hb⟩, [], [], (fun c hc => nomatch hc), List.nodup_nil, rfl, ?_⟩
      exact ⟨_, rfl, [], [], rfl, ⟨rfl, rfl⟩, [], [], rfl, ⟨hv, rfl⟩, rfl⟩
    · cases hrr
  · cases hrr
def impl_unhex.l0 : Nat → Str → List Int → Option ((List Int))
  | 0, _, _ => none
  | j + 1, a1, a2 =>
    bif decide (2 ≤ ((a1.length) : Int)) then
      Option.bind (cut? a1 0 2) fun v3 =>
      Option.bind (strconv_ParseUint v3 16 8) fun v4 =>
      Option.bind (app? 1 a2 [(IntKind.wrap .u8 v4)]) fun v5 =>
      Option.bind (cut? a1 2 ((a1.length) : Int)) fun v6 =>
      impl_unhex.l0 j v6 v5
    else
    some a2
def impl_unhex (k : Nat) (a1 : Str) : Option (Str) :=
  Option.bind (impl_unhex.l0 k a1 []) fun y2 =>
  some (listByte y2)
def impl_unhex.sig : Sig := { ps := [.val false .str (ros .str)], rs := [.val false [.v .str]], ntmps := 24 }
def impl_unhex.con (k : Nat) : Con := impl_unhex.sig.con (fun x => impl_unhex k x)
def impl_unhex.C (k : Nat) : Ctx := { ti := TAB, con := conL [(225, strconv_ParseUint.con k)] }
theorem impl_unhex.cok (k : Nat) : CtxOk Tryz.prog (impl_unhex.C k) := ctx_ok TABok ⟨strconv_ParseUint.ok k, trivial⟩
def impl_unhex.l0.ish : Shape := { tmps := [(0, .one (.v .str)), (3, .one (.own 0))], slots := [(0, .arr false 5 (.int .u8))], nb := 1 }
def impl_unhex.l0.outs : List (Ex × Shape) := [(.exit 0, { tmps := [(3, .one (.own 1))], slots := [(1, .arr false 5 (.int .u8))], nb := 2 })]
def impl_unhex.l0.F (k j : Nat) (x : Prod' impl_unhex.l0.ish.tys) : Option (Outs impl_unhex.l0.outs) := impl_unhex.l0 j x.1 x.2
def impl_unhex.l0.s (k : Nat) : Summ := { n := 24, ish := impl_unhex.l0.ish, outs := impl_unhex.l0.outs, f := impl_unhex.l0.F k k }
theorem impl_unhex.l0.ev (k j : Nat) (x : Prod' impl_unhex.l0.ish.tys) : V (impl_unhex.C k) .auto (cO (cO (cL (cR (cR (cB Tryz.f163)))))) (mk impl_unhex.l0.ish 24 x) (fun e st' => match e with | .nrm => (rd impl_unhex.l0.ish st').bind (impl_unhex.l0.F k j) | e => rdOut e st' impl_unhex.l0.outs) = impl_unhex.l0.F k (j + 1) x := by kernel_rfl
theorem impl_unhex.l0.ok (k : Nat) : SumOk Tryz.prog (impl_unhex.C k) (.loop (cO (cO (cL (cR (cR (cB Tryz.f163))))))) (impl_unhex.l0.s k) := sum_ok (by kernel_rfl) (sum_loop (p := .auto) (F := impl_unhex.l0.F k) (impl_unhex.cok k) (by kernel_rfl) (plan_of (L := []) (by kernel_rfl) trivial) (fun _ => rfl) (fun j x y h => (impl_unhex.l0.ev k j x).trans h) k rfl)
theorem impl_unhex.ev (k : Nat) (x : Prod' impl_unhex.sig.ins) : impl_unhex.sig.ev (impl_unhex.C k) (.two .auto (.two .auto (.two (.one (.sum (impl_unhex.l0.s k))) .auto))) Tryz.f163.results.toList (cB Tryz.f163) x = impl_unhex k x := by kernel_rfl
theorem impl_unhex.ok (k : Nat) : ConOk Tryz.prog 163 (impl_unhex.con k) := sig_ok (p := (.two .auto (.two .auto (.two (.one (.sum (impl_unhex.l0.s k))) .auto)))) (impl_unhex.cok k) Tryz.func163 (by kernel_rfl) (show Tryz.f163.body = some (cB Tryz.f163) by kernel_rfl) (by kernel_rfl) (by kernel_rfl) (plan_of (L := [(impl_unhex.l0.s k, cO (cL (cR (cR (cB Tryz.f163)))))]) (by kernel_rfl) ⟨impl_unhex.l0.ok k, trivial⟩) (fun x y h => (impl_unhex.ev k x).trans h)
def impl_cmdRead.j0 (a1 : Str) (a2 : Int) (a3 : Int) (a4 : Int) (a5 : Str) (a6 : List Str) : Option ((Str × Int × Int × Int × Str)) :=
  bif a2 == 1 then
    some ([], a2, a3, a4, a5)
  else
  bif a2 == 3 then
    Option.bind (at? a6 1) fun v7 =>
    Option.bind (at? a6 1) fun v8 =>
    Option.bind (impl_wordNumber v8) fun v9 =>
    some ([], a2, a3, v9, a5)
  else
  bif a2 == 4 then
    Option.bind (at? a6 1) fun v10 =>
    Option.bind (at? a6 1) fun v11 =>
    Option.bind (impl_wordNumber v11) fun v12 =>
    Option.bind (at? a6 2) fun v13 =>
    Option.bind (at? a6 2) fun v14 =>
    some (v14, a2, a3, v12, a5)
  else
  bif a2 == 5 then
    Option.bind (at? a6 0) fun v15 =>
    Option.bind (at? a6 0) fun v16 =>
    Option.bind (impl_wordNumber v16) fun v17 =>
    some ([], a2, 0, v17, a5)
  else
  some (a1, a2, a3, a4, a5)
def impl_cmdRead (k : Nat) (a1 : List Str) : Option (Int × Int × Int × Str × Int × Int × Int × Str) :=
  Option.bind (cut3? a1 1 ((a1.length) : Int) ((a1.length) : Int)) fun v2 =>
  Option.bind (app? 16 v2 ([[], [], []])) fun v3 =>
  Option.bind (at? a1 0) fun v4 =>
  Option.bind (slices_Index_string k tab0 v4) fun v5 =>
  bif decide (0 < v5) then
    Option.bind (at? v3 0) fun v6 =>
    Option.bind (at? v3 0) fun v7 =>
    Option.bind (impl_wordNumber v7) fun v8 =>
    Option.bind (at? v3 1) fun v9 =>
    Option.bind (at? v3 1) fun v10 =>
    Option.bind (impl_cmdRead.j0 v10 v5 v8 0 [] v3) fun y11 =>
    bif ((y11.1.length) : Int) == 1 then
      Option.bind (strings_Repeat y11.1 8) fun v12 =>
      some (2, 0, 0, [], y11.2.1, y11.2.2.1, y11.2.2.2.1, v12)
    else
    some (2, 0, 0, [], y11.2.1, y11.2.2.1, y11.2.2.2.1, y11.2.2.2.2)
  else
  Option.bind (at? a1 0) fun v13 =>
  Option.bind (slices_Index_string k tab1 v13) fun v14 =>
  bif (imax 0 v14) == 1 then
    Option.bind (at? v3 0) fun v15 =>
    Option.bind (at? v3 0) fun v16 =>
    Option.bind (impl_wordNumber v16) fun v17 =>
    Option.bind (at? v3 1) fun v18 =>
    Option.bind (at? v3 1) fun v19 =>
    Option.bind (impl_wordNumber v19) fun v20 =>
    Option.bind (at? v3 2) fun v21 =>
    Option.bind (at? v3 2) fun v22 =>
    Option.bind (impl_unhex k v22) fun v23 =>
    some (imax 0 v14, v17, v20, v23, 0, 0, 0, [])
  else
  bif (imax 0 v14) == 7 then
    Option.bind (at? v3 0) fun v24 =>
    Option.bind (at? v3 0) fun v25 =>
    Option.bind (impl_wordNumber v25) fun v26 =>
    some (imax 0 v14, v26, 0, [], 0, 0, 0, [])
  else
  bif (imax 0 v14) == 9 then
    Option.bind (at? v3 0) fun v27 =>
    Option.bind (at? v3 0) fun v28 =>
    Option.bind (impl_wordNumber v28) fun v29 =>
    some (imax 0 v14, v29, 0, [], 0, 0, 0, [])
  else
  some (imax 0 v14, 0, 0, [], 0, 0, 0, [])
def impl_cmdRead.sig : Sig := { ps := [.val false (.sl .str) (ros (.sl .str))], rs := [.val true [.v (.int .i64), .v (.int .i64), .v (.int .i64), .v .str, .v (.int .i64), .v (.int .i64), .v (.int .i64), .v .str]], ntmps := 104 }
def impl_cmdRead.con (k : Nat) : Con := impl_cmdRead.sig.con (fun x => impl_cmdRead k x)
def impl_cmdRead.C (k : Nat) : Ctx := { ti := TAB, con := conL [(94, impl_wordNumber.con k), (161, slices_Index_string.con k), (162, strings_Repeat.con k), (163, impl_unhex.con k)] }
theorem impl_cmdRead.cok (k : Nat) : CtxOk Tryz.prog (impl_cmdRead.C k) := ctx_ok TABok ⟨impl_wordNumber.ok k, slices_Index_string.ok k, strings_Repeat.ok k, impl_unhex.ok k, trivial⟩
def impl_cmdRead.j0.ish : Shape := { tmps := [(3, .one (.own 4)), (5, .one (.ptr 3 0)), (6, .one (.v .str))], slots := [(3, .box 23 [.v (.int .i64), .v (.int .i64), .v (.int .i64), .v .str]), (4, .arr false 9 .str)], nb := 5 }
def impl_cmdRead.j0.outs : List (Ex × Shape) := [(.nrm, { tmps := [(6, .one (.v .str))], slots := [(3, .box 23 [.v (.int .i64), .v (.int .i64), .v (.int .i64), .v .str])], nb := 5 })]
def impl_cmdRead.j0.F (k : Nat) (x : Prod' impl_cmdRead.j0.ish.tys) : Option (Outs impl_cmdRead.j0.outs) := impl_cmdRead.j0 x.1 x.2.1 x.2.2.1 x.2.2.2.1 x.2.2.2.2.1 x.2.2.2.2.2
def impl_cmdRead.j0.s (k : Nat) : Summ := { n := 104, ish := impl_cmdRead.j0.ish, outs := impl_cmdRead.j0.outs, f := impl_cmdRead.j0.F k }
theorem impl_cmdRead.j0.ev (k : Nat) (x : Prod' impl_cmdRead.j0.ish.tys) : V (impl_cmdRead.C k) .auto (cL (cR (cR (cL (cR (cR (cL (cR (cR (cB Tryz.f96)))))))))) (mk impl_cmdRead.j0.ish 104 x) (fun e st' => rdOut e st' impl_cmdRead.j0.outs) = impl_cmdRead.j0.F k x := by kernel_rfl
theorem impl_cmdRead.j0.ok (k : Nat) : SumOk Tryz.prog (impl_cmdRead.C k) (cL (cR (cR (cL (cR (cR (cL (cR (cR (cB Tryz.f96)))))))))) (impl_cmdRead.j0.s k) := sum_ok (by kernel_rfl) (sum_code (p := .auto) (impl_cmdRead.cok k) (by kernel_rfl) (plan_of (L := []) (by kernel_rfl) trivial) (fun x y h => (impl_cmdRead.j0.ev k x).trans h))
theorem impl_cmdRead.ev (k : Nat) (x : Prod' impl_cmdRead.sig.ins) : impl_cmdRead.sig.ev (impl_cmdRead.C k) (.two .auto (.two .auto (.two (.two .auto (.two .auto (.two (.two .auto (.two .auto (.two (.sum (impl_cmdRead.j0.s k)) .auto))) .auto))) .auto))) Tryz.f96.results.toList (cB Tryz.f96) x = impl_cmdRead k x := by kernel_rfl
theorem impl_cmdRead.ok (k : Nat) : ConOk Tryz.prog 96 (impl_cmdRead.con k) := sig_ok (p := (.two .auto (.two .auto (.two (.two .auto (.two .auto (.two (.two .auto (.two .auto (.two (.sum (impl_cmdRead.j0.s k)) .auto))) .auto))) .auto)))) (impl_cmdRead.cok k) Tryz.func96 (by kernel_rfl) (show Tryz.f96.body = some (cB Tryz.f96) by kernel_rfl) (by kernel_rfl) (by kernel_rfl) (plan_of (L := [(impl_cmdRead.j0.s k, cL (cR (cR (cL (cR (cR (cL (cR (cR (cB Tryz.f96))))))))))]) (by kernel_rfl) ⟨impl_cmdRead.j0.ok k, trivial⟩) (fun x y h => (impl_cmdRead.ev k x).trans h)
/-- strconv.FormatInt to the base of ten. -/
def int_strconv_FormatInt (n b : Int) : Option Str := if b = 10 ∧ -9223372036854775808 ≤ n ∧ n ≤ 9223372036854775807 then some (Lib.itoa n) else none
def int_strconv_FormatInt.sig : Sig := { ps := [.val false (.int .i64) (ros (.int .i64)), .val false (.int .i64) (ros (.int .i64))], rs := [.val false [.v .str]], ntmps := 0 }
def int_strconv_FormatInt.con (k : Nat) : Con := int_strconv_FormatInt.sig.con (fun x => int_strconv_FormatInt x.1 x.2)
theorem int_strconv_FormatInt.ok (k : Nat) : ConOk Tryz.prog 218 (int_strconv_FormatInt.con k) := hand_glob (enter_of Tryz.func218 (by kernel_rfl) (show Tryz.f218.body = some (cB Tryz.f218) by kernel_rfl)) (by kernel_rfl) (by kernel_rfl) (by
  intro (x : Int × Int) (y : Str) w hg h
  obtain ⟨n, b⟩ := x
  replace h : int_strconv_FormatInt n b = some y := h
  unfold int_strconv_FormatInt at h
  split at h
  · rename_i h0
    obtain ⟨rfl, h0, h1⟩ := h0
    injection h with h
    subst h
    have htab : Lib.TabIs Tryz.prog w "internal/strconv.uint64pow10" .u64 Lib.pow10Tab := tab_of (n := 7) (by kernel_rfl) (hg 7 (.int .u64) Lib.pow10Tab (by kernel_rfl))
    refine (Tryz.internal_strconv_FormatInt_10 n h0 h1 w htab).mono ?_
    rintro e w' ⟨rfl, k, os, rfl⟩
    exact ⟨[.string (ba (Lib.itoa n))], rfl, rfl, rfl, Lib.below_grow _ w (Nat.le_refl _) k os⟩
  · cases h)
def strconv_FormatInt (a1 : Int) (a2 : Int) : Option (Str) :=
  Option.bind (int_strconv_FormatInt a1 a2) fun v3 =>
  some v3
def strconv_FormatInt.sig : Sig := { ps := [.val false (.int .i64) (ros (.int .i64)), .val false (.int .i64) (ros (.int .i64))], rs := [.val false [.v .str]], ntmps := 8 }
def strconv_FormatInt.con (k : Nat) : Con := strconv_FormatInt.sig.con (fun x => strconv_FormatInt x.1 x.2)
def strconv_FormatInt.C (k : Nat) : Ctx := { ti := TAB, con := conL [(218, int_strconv_FormatInt.con k)] }
theorem strconv_FormatInt.cok (k : Nat) : CtxOk Tryz.prog (strconv_FormatInt.C k) := ctx_ok TABok ⟨int_strconv_FormatInt.ok k, trivial⟩
theorem strconv_FormatInt.ev (k : Nat) (x : Prod' strconv_FormatInt.sig.ins) : strconv_FormatInt.sig.ev (strconv_FormatInt.C k) .auto Tryz.f160.results.toList (cB Tryz.f160) x = strconv_FormatInt x.1 x.2 := by kernel_rfl
theorem strconv_FormatInt.ok (k : Nat) : ConOk Tryz.prog 160 (strconv_FormatInt.con k) := sig_ok (p := .auto) (strconv_FormatInt.cok k) Tryz.func160 (by kernel_rfl) (show Tryz.f160.body = some (cB Tryz.f160) by kernel_rfl) (by kernel_rfl) (by kernel_rfl) (plan_of (L := []) (by kernel_rfl) trivial) (fun x y h => (strconv_FormatInt.ev k x).trans h)
def impl_decimal (a1 : Int) : Option (Str) :=
  Option.bind (strconv_FormatInt (imax 0 a1) 10) fun v2 =>
  some v2
def impl_decimal.sig : Sig := { ps := [.val false (.int .i64) (ros (.int .i64))], rs := [.val false [.v .str]], ntmps := 6 }
def impl_decimal.con (k : Nat) : Con := impl_decimal.sig.con (fun x => impl_decimal x)
def impl_decimal.C (k : Nat) : Ctx := { ti := TAB, con := conL [(160, strconv_FormatInt.con k)] }
theorem impl_decimal.cok (k : Nat) : CtxOk Tryz.prog (impl_decimal.C k) := ctx_ok TABok ⟨strconv_FormatInt.ok k, trivial⟩
theorem impl_decimal.ev (k : Nat) (x : Prod' impl_decimal.sig.ins) : impl_decimal.sig.ev (impl_decimal.C k) .auto Tryz.f165.results.toList (cB Tryz.f165) x = impl_decimal x := by kernel_rfl
theorem impl_decimal.ok (k : Nat) : ConOk Tryz.prog 165 (impl_decimal.con k) := sig_ok (p := .auto) (impl_decimal.cok k) Tryz.func165 (by kernel_rfl) (show Tryz.f165.body = some (cB Tryz.f165) by kernel_rfl) (by kernel_rfl) (by kernel_rfl) (plan_of (L := []) (by kernel_rfl) trivial) (fun x y h => (impl_decimal.ev k x).trans h)
/-- strings.Count of a text of one byte. -/
def strings_Count (a b : Str) : Option Int := match b with
  | [c] => some ((Lib.countByte a c : Nat) : Int)
  | _ => none
def strings_Count.sig : Sig := { ps := [.val false .str (ros .str), .val false .str (ros .str)], rs := [.val false [.v (.int .i64)]], ntmps := 0 }
def strings_Count.con (k : Nat) : Con := strings_Count.sig.con (fun x => strings_Count x.1 x.2)
theorem strings_Count.ok (k : Nat) : ConOk Tryz.prog 214 (strings_Count.con k) := hand_scal (enter_of Tryz.func214 (by kernel_rfl) (show Tryz.f214.body = some (cB Tryz.f214) by kernel_rfl)) (by kernel_rfl) (by kernel_rfl) (by
  intro (x : Str × Str) (y : Int) w h
  obtain ⟨a, b⟩ := x
  replace h : strings_Count a b = some y := h
  match b, h with
  | [], h => cases h
  | _ :: _ :: _, h => cases h
  | [c], h =>
    injection h with h
    subst h
    refine (Tryz.strings_Count_one (ba a) c w).mono ?_
    rintro e w' ⟨rfl, rfl⟩
    exact ⟨[.int .i64 ((Lib.countByte a c : Nat) : Int)], rfl, rfl, rfl, Go.RowKit.Below.refl _ _⟩)
def impl_letterOf (a1 : Str) : Option (Str) :=
  bif ((a1.length) : Int) != 8 then
    some ([])
  else
  Option.bind (at? a1 0) fun v2 =>
  bif decide ((v2.toNat : Int) < 97) then
    some ([])
  else
  Option.bind (at? a1 0) fun v3 =>
  bif decide (122 < (v3.toNat : Int)) then
    some ([])
  else
  let e4 := cut? a1 0 1
  Option.bind (e4) fun v5 =>
  Option.bind (strings_Count a1 v5) fun v6 =>
  bif v6 != 8 then
    some ([])
  else
  Option.bind (e4) fun v7 =>
  some v7
def impl_letterOf.sig : Sig := { ps := [.val false .str (ros .str)], rs := [.val false [.v .str]], ntmps := 25 }
def impl_letterOf.con (k : Nat) : Con := impl_letterOf.sig.con (fun x => impl_letterOf x)
def impl_letterOf.C (k : Nat) : Ctx := { ti := TAB, con := conL [(214, strings_Count.con k)] }
theorem impl_letterOf.cok (k : Nat) : CtxOk Tryz.prog (impl_letterOf.C k) := ctx_ok TABok ⟨strings_Count.ok k, trivial⟩
theorem impl_letterOf.ev (k : Nat) (x : Prod' impl_letterOf.sig.ins) : impl_letterOf.sig.ev (impl_letterOf.C k) .auto Tryz.f239.results.toList (cB Tryz.f239) x = impl_letterOf x := by kernel_rfl
theorem impl_letterOf.ok (k : Nat) : ConOk Tryz.prog 239 (impl_letterOf.con k) := sig_ok (p := .auto) (impl_letterOf.cok k) Tryz.func239 (by kernel_rfl) (show Tryz.f239.body = some (cB Tryz.f239) by kernel_rfl) (by kernel_rfl) (by kernel_rfl) (plan_of (L := []) (by kernel_rfl) trivial) (fun x y h => (impl_letterOf.ev k x).trans h)
def impl_stepText.j0 (a1 : Str) (a2 : Int) (a3 : Int) (a4 : Int) (a5 : Str) : Option ((Str × Int × Int × Int × Str)) :=
  bif a2 != 5 then
    Option.bind (impl_decimal a3) fun v6 =>
    Option.bind (cat? ([32] : Str) v6) fun v7 =>
    Option.bind (cat? a1 v7) fun v8 =>
    some (v8, a2, a3, a4, a5)
  else
  some (a1, a2, a3, a4, a5)
def impl_stepText.j1 (a1 : Str) (a2 : Int) (a3 : Int) (a4 : Int) (a5 : Str) : Option ((Str × Int × Int × Int × Str)) :=
  bif ((a2 == 3) || (a2 == 4)) || (a2 == 5) then
    Option.bind (impl_decimal a4) fun v6 =>
    Option.bind (cat? ([32] : Str) v6) fun v7 =>
    Option.bind (cat? a1 v7) fun v8 =>
    some (v8, a2, a3, a4, a5)
  else
  some (a1, a2, a3, a4, a5)
def impl_stepText (a1 : G23) : Option (Str) :=
  Option.bind (at? tab0 a1.1) fun v2 =>
  Option.bind (impl_stepText.j0 v2 a1.1 a1.2.1 a1.2.2.1 a1.2.2.2) fun y3 =>
  Option.bind (impl_stepText.j1 y3.1 y3.2.1 y3.2.2.1 y3.2.2.2.1 y3.2.2.2.2) fun y4 =>
  bif !(y4.2.2.2.2 == []) then
    Option.bind (impl_letterOf y4.2.2.2.2) fun v5 =>
    bif v5 == [] then
      some ([])
    else
    Option.bind (cat? ([32] : Str) v5) fun v6 =>
    Option.bind (cat? y4.1 v6) fun v7 =>
    some v7
  else
  some y4.1
def impl_stepText.sig : Sig := { ps := [.val true T23 (ros T23)], rs := [.val false [.v .str]], ntmps := 50 }
def impl_stepText.con (k : Nat) : Con := impl_stepText.sig.con (fun x => impl_stepText x)
def impl_stepText.C (k : Nat) : Ctx := { ti := TAB, con := conL [(165, impl_decimal.con k), (239, impl_letterOf.con k)] }
theorem impl_stepText.cok (k : Nat) : CtxOk Tryz.prog (impl_stepText.C k) := ctx_ok TABok ⟨impl_decimal.ok k, impl_letterOf.ok k, trivial⟩
def impl_stepText.j0.ish : Shape := { tmps := [(1, .one (.ptr 0 0)), (3, .one (.v .str))], slots := [(0, .box 23 [.v (.int .i64), .v (.int .i64), .v (.int .i64), .v .str])], nb := 1 }
def impl_stepText.j0.outs : List (Ex × Shape) := [(.nrm, { tmps := [(3, .one (.v .str))], slots := [(0, .box 23 [.v (.int .i64), .v (.int .i64), .v (.int .i64), .v .str])], nb := 1 })]
def impl_stepText.j0.F (k : Nat) (x : Prod' impl_stepText.j0.ish.tys) : Option (Outs impl_stepText.j0.outs) := impl_stepText.j0 x.1 x.2.1 x.2.2.1 x.2.2.2.1 x.2.2.2.2
def impl_stepText.j0.s (k : Nat) : Summ := { n := 50, ish := impl_stepText.j0.ish, outs := impl_stepText.j0.outs, f := impl_stepText.j0.F k }
theorem impl_stepText.j0.ev (k : Nat) (x : Prod' impl_stepText.j0.ish.tys) : V (impl_stepText.C k) .auto (cL (cR (cR (cB Tryz.f226)))) (mk impl_stepText.j0.ish 50 x) (fun e st' => rdOut e st' impl_stepText.j0.outs) = impl_stepText.j0.F k x := by kernel_rfl
theorem impl_stepText.j0.ok (k : Nat) : SumOk Tryz.prog (impl_stepText.C k) (cL (cR (cR (cB Tryz.f226)))) (impl_stepText.j0.s k) := sum_ok (by kernel_rfl) (sum_code (p := .auto) (impl_stepText.cok k) (by kernel_rfl) (plan_of (L := []) (by kernel_rfl) trivial) (fun x y h => (impl_stepText.j0.ev k x).trans h))
def impl_stepText.j1.ish : Shape := { tmps := [(1, .one (.ptr 0 0)), (3, .one (.v .str))], slots := [(0, .box 23 [.v (.int .i64), .v (.int .i64), .v (.int .i64), .v .str])], nb := 1 }
def impl_stepText.j1.outs : List (Ex × Shape) := [(.nrm, { tmps := [(3, .one (.v .str))], slots := [(0, .box 23 [.v (.int .i64), .v (.int .i64), .v (.int .i64), .v .str])], nb := 1 })]
def impl_stepText.j1.F (k : Nat) (x : Prod' impl_stepText.j1.ish.tys) : Option (Outs impl_stepText.j1.outs) := impl_stepText.j1 x.1 x.2.1 x.2.2.1 x.2.2.2.1 x.2.2.2.2
def impl_stepText.j1.s (k : Nat) : Summ := { n := 50, ish := impl_stepText.j1.ish, outs := impl_stepText.j1.outs, f := impl_stepText.j1.F k }
theorem impl_stepText.j1.ev (k : Nat) (x : Prod' impl_stepText.j1.ish.tys) : V (impl_stepText.C k) .auto (cL (cR (cR (cR (cB Tryz.f226))))) (mk impl_stepText.j1.ish 50 x) (fun e st' => rdOut e st' impl_stepText.j1.outs) = impl_stepText.j1.F k x := by kernel_rfl
theorem impl_stepText.j1.ok (k : Nat) : SumOk Tryz.prog (impl_stepText.C k) (cL (cR (cR (cR (cB Tryz.f226))))) (impl_stepText.j1.s k) := sum_ok (by kernel_rfl) (sum_code (p := .auto) (impl_stepText.cok k) (by kernel_rfl) (plan_of (L := []) (by kernel_rfl) trivial) (fun x y h => (impl_stepText.j1.ev k x).trans h))
theorem impl_stepText.ev (k : Nat) (x : Prod' impl_stepText.sig.ins) : impl_stepText.sig.ev (impl_stepText.C k) (.two .auto (.two .auto (.two (.sum (impl_stepText.j0.s k)) (.two (.sum (impl_stepText.j1.s k)) .auto)))) Tryz.f226.results.toList (cB Tryz.f226) x = impl_stepText x := by kernel_rfl
theorem impl_stepText.ok (k : Nat) : ConOk Tryz.prog 226 (impl_stepText.con k) := sig_ok (p := (.two .auto (.two .auto (.two (.sum (impl_stepText.j0.s k)) (.two (.sum (impl_stepText.j1.s k)) .auto))))) (impl_stepText.cok k) Tryz.func226 (by kernel_rfl) (show Tryz.f226.body = some (cB Tryz.f226) by kernel_rfl) (by kernel_rfl) (by kernel_rfl) (plan_of (L := [(impl_stepText.j0.s k, cL (cR (cR (cB Tryz.f226)))), (impl_stepText.j1.s k, cL (cR (cR (cR (cB Tryz.f226)))))]) (by kernel_rfl) ⟨impl_stepText.j0.ok k, impl_stepText.j1.ok k, trivial⟩) (fun x y h => (impl_stepText.ev k x).trans h)
def impl_hexText.l0 : Nat → Str → Int → Int → List Int → Option ((List Int))
  | 0, _, _, _, _ => none
  | j + 1, a1, a2, a3, a4 =>
    bif decide (a3 < a2) then
      Option.bind (at? a1 a3) fun v5 =>
      Option.bind (nneg? 4) fun v6 =>
      Option.bind (at? ([48, 49, 50, 51, 52, 53, 54, 55, 56, 57, 97, 98, 99, 100, 101, 102] : Str) (shr .u8 (v5.toNat : Int) 4)) fun v7 =>
      Option.bind (at? a1 a3) fun v8 =>
      Option.bind (at? ([48, 49, 50, 51, 52, 53, 54, 55, 56, 57, 97, 98, 99, 100, 101, 102] : Str) (intBits .and .u8 (v8.toNat : Int) 15)) fun v9 =>
      Option.bind (app? 1 a4 [(v7.toNat : Int), (v9.toNat : Int)]) fun v10 =>
      impl_hexText.l0 j a1 a2 (IntKind.wrap .i64 (a3 + 1)) v10
    else
    some a4
def impl_hexText (k : Nat) (a1 : Str) : Option (Str) :=
  Option.bind (impl_hexText.l0 k a1 ((a1.length) : Int) 0 []) fun y2 =>
  some (listByte y2)
def impl_hexText.sig : Sig := { ps := [.val false .str (ros .str)], rs := [.val false [.v .str]], ntmps := 26 }
def impl_hexText.con (k : Nat) : Con := impl_hexText.sig.con (fun x => impl_hexText k x)
def impl_hexText.C (k : Nat) : Ctx := { ti := TAB, con := conL [] }
theorem impl_hexText.cok (k : Nat) : CtxOk Tryz.prog (impl_hexText.C k) := ctx_ok TABok trivial
def impl_hexText.l0.ish : Shape := { tmps := [(0, .one (.v .str)), (3, .one (.own 0)), (6, .one (.v (.int .i64))), (7, .one (.v (.int .i64)))], slots := [(0, .arr false 5 (.int .u8))], nb := 1 }
def impl_hexText.l0.outs : List (Ex × Shape) := [(.exit 0, { tmps := [(3, .one (.own 1))], slots := [(1, .arr false 5 (.int .u8))], nb := 2 })]
def impl_hexText.l0.F (k j : Nat) (x : Prod' impl_hexText.l0.ish.tys) : Option (Outs impl_hexText.l0.outs) := impl_hexText.l0 j x.1 x.2.1 x.2.2.1 x.2.2.2
def impl_hexText.l0.s (k : Nat) : Summ := { n := 26, ish := impl_hexText.l0.ish, outs := impl_hexText.l0.outs, f := impl_hexText.l0.F k k }
theorem impl_hexText.l0.ev (k j : Nat) (x : Prod' impl_hexText.l0.ish.tys) : V (impl_hexText.C k) .auto (cO (cO (cR (cL (cR (cR (cB Tryz.f227))))))) (mk impl_hexText.l0.ish 26 x) (fun e st' => match e with | .nrm => (rd impl_hexText.l0.ish st').bind (impl_hexText.l0.F k j) | e => rdOut e st' impl_hexText.l0.outs) = impl_hexText.l0.F k (j + 1) x := by kernel_rfl
theorem impl_hexText.l0.ok (k : Nat) : SumOk Tryz.prog (impl_hexText.C k) (.loop (cO (cO (cR (cL (cR (cR (cB Tryz.f227)))))))) (impl_hexText.l0.s k) := sum_ok (by kernel_rfl) (sum_loop (p := .auto) (F := impl_hexText.l0.F k) (impl_hexText.cok k) (by kernel_rfl) (plan_of (L := []) (by kernel_rfl) trivial) (fun _ => rfl) (fun j x y h => (impl_hexText.l0.ev k j x).trans h) k rfl)
theorem impl_hexText.ev (k : Nat) (x : Prod' impl_hexText.sig.ins) : impl_hexText.sig.ev (impl_hexText.C k) (.two .auto (.two .auto (.two (.two .auto (.one (.sum (impl_hexText.l0.s k)))) .auto))) Tryz.f227.results.toList (cB Tryz.f227) x = impl_hexText k x := by kernel_rfl
theorem impl_hexText.ok (k : Nat) : ConOk Tryz.prog 227 (impl_hexText.con k) := sig_ok (p := (.two .auto (.two .auto (.two (.two .auto (.one (.sum (impl_hexText.l0.s k)))) .auto)))) (impl_hexText.cok k) Tryz.func227 (by kernel_rfl) (show Tryz.f227.body = some (cB Tryz.f227) by kernel_rfl) (by kernel_rfl) (by kernel_rfl) (plan_of (L := [(impl_hexText.l0.s k, cO (cR (cL (cR (cR (cB Tryz.f227))))))]) (by kernel_rfl) ⟨impl_hexText.l0.ok k, trivial⟩) (fun x y h => (impl_hexText.ev k x).trans h)
def impl_cmdText (k : Nat) (a1 : G25) : Option (Str) :=
  bif a1.1 == 2 then
    Option.bind (impl_stepText a1.2.2.2.2) fun v2 =>
    some v2
  else
  bif a1.1 == 1 then
    Option.bind (impl_decimal a1.2.1) fun v3 =>
    Option.bind (cat? ([98, 101, 103, 105, 110, 32] : Str) v3) fun v4 =>
    Option.bind (cat? v4 ([32] : Str)) fun v5 =>
    Option.bind (impl_decimal a1.2.2.1) fun v6 =>
    Option.bind (cat? v5 v6) fun v7 =>
    Option.bind (cat? v7 ([32] : Str)) fun v8 =>
    Option.bind (impl_hexText k a1.2.2.2.1) fun v9 =>
    Option.bind (cat? v8 v9) fun v10 =>
    some v10
  else
  let e11 := at? tab1 a1.1
  bif a1.1 == 7 then
    Option.bind (e11) fun v12 =>
    Option.bind (cat? v12 ([32] : Str)) fun v13 =>
    Option.bind (impl_decimal a1.2.1) fun v14 =>
    Option.bind (cat? v13 v14) fun v15 =>
    some v15
  else
  bif a1.1 == 9 then
    Option.bind (e11) fun v16 =>
    Option.bind (cat? v16 ([32] : Str)) fun v17 =>
    Option.bind (impl_decimal a1.2.1) fun v18 =>
    Option.bind (cat? v17 v18) fun v19 =>
    some v19
  else
  Option.bind (e11) fun v20 =>
  some v20
def impl_cmdText.sig : Sig := { ps := [.val true T25 (ros T25)], rs := [.val false [.v .str]], ntmps := 42 }
def impl_cmdText.con (k : Nat) : Con := impl_cmdText.sig.con (fun x => impl_cmdText k x)
def impl_cmdText.C (k : Nat) : Ctx := { ti := TAB, con := conL [(165, impl_decimal.con k), (226, impl_stepText.con k), (227, impl_hexText.con k)] }
theorem impl_cmdText.cok (k : Nat) : CtxOk Tryz.prog (impl_cmdText.C k) := ctx_ok TABok ⟨impl_decimal.ok k, impl_stepText.ok k, impl_hexText.ok k, trivial⟩
theorem impl_cmdText.ev (k : Nat) (x : Prod' impl_cmdText.sig.ins) : impl_cmdText.sig.ev (impl_cmdText.C k) .auto Tryz.f164.results.toList (cB Tryz.f164) x = impl_cmdText k x := by kernel_rfl
theorem impl_cmdText.ok (k : Nat) : ConOk Tryz.prog 164 (impl_cmdText.con k) := sig_ok (p := .auto) (impl_cmdText.cok k) Tryz.func164 (by kernel_rfl) (show Tryz.f164.body = some (cB Tryz.f164) by kernel_rfl) (by kernel_rfl) (by kernel_rfl) (plan_of (L := []) (by kernel_rfl) trivial) (fun x y h => (impl_cmdText.ev k x).trans h)
/-- strings.Join where the result fits into memory. -/
def strings_Join (l : List Str) (s : Str) : Option Str := if l.length ≤ 140737488355328 ∧ (Lib.join l s).length ≤ 140737488355328 then some (Lib.join l s) else none
def strings_Join.con (k : Nat) : Con := { ms := [.val [.ro], .val [.ro]], f := fun xs => match xs with
  | [.val false [.leaf (.bor .str l)], .val false [.leaf (.str s)]] => .opt Str (strings_Join l s) fun r => ⟨[.val false [.leaf (.str r)]], []⟩
  | _ => .fail }
theorem strings_Join.ok (k : Nat) : ConOk Tryz.prog 211 (strings_Join.con k) := by
  refine ⟨(enter_of Tryz.func211 (by kernel_rfl) (show Tryz.f211.body = some (cB Tryz.f211) by kernel_rfl)), ?_⟩
  intro xs rr hrr w vs F L M hF hnd hgl hargs
  unfold strings_Join.con at hrr
  dsimp only at hrr
  split at hrr
  · rename_i l s
    replace hrr : (strings_Join l s).map (fun r => (⟨[.val false [.leaf (.str r)]], []⟩ : RR)) = some rr := hrr
    unfold strings_Join at hrr
    split at hrr
    · rename_i hc
      obtain ⟨hc1, hc2⟩ := hc
      cases hrr
      match vs, hargs with
      | [v1, v2], ⟨_, _, _, _, hL, hM, ⟨rfl, hv1, hn1⟩, _, _, _, _, hL2, hM2, ⟨rfl, hv2, hn2⟩, hn3, hn4⟩ =>
      have hv2 : v2 = .string (ba s) := hv2
      subst hv2
      subst hn1
      subst hn2
      subst hn3
      subst hn4
      subst hL2
      subst hM2
      subst hL
      subst hM
      obtain ⟨A, c, hv, hlc, hrow⟩ := hv1
      cases hv
      have fin : ∀ w', Below w.heap.size w w' → ∃ v, Ending.returned (.string (ba (Lib.join l s))) = .returned v ∧ Answer ⟨[.val false [.leaf (.str (Lib.join l s))]], []⟩ F [] [] w v w' := fun w' bel =>
        ⟨_, rfl, ⟨bel.os, bel.tape, bel.output, bel.size, fun b hb _ => bel.block b hb⟩, [], [], (fun c hc => nomatch hc), List.nodup_nil, rfl, rfl, rfl⟩
      rcases hrow with rfl | ⟨g, o, rfl, hB, hcells⟩
      · refine (Tryz.strings_Join_none A c (ba s) w).mono ?_
        rintro e w' ⟨rfl, rfl⟩
        exact fin _ (Below.refl _ _)
      · have hx : ((l.map ba).map (·.data.toList)) = l := by rw [List.map_map]; exact List.map_id' l
        have hcall := Tryz.strings_Join g o c (l.map ba) (ba s) w (fun j x hj => by
          rw [List.getElem?_map] at hj
          obtain ⟨y, hy, rfl⟩ := Option.map_eq_some_iff.1 hj
          obtain ⟨cs, h1, h2⟩ := hcells j y hy
          have h2 : cs = [.string (ba y)] := h2
          subst h2
          have := h1 0 _ rfl
          simpa [Ty.sz] using this) hB.1 (by rw [List.length_map]; exact hc1) (by rw [List.length_map]; exact hlc) (by rw [hx]; exact hc2)
        rw [hx, List.length_map] at hcall
        refine hcall.mono ?_
        rintro e w' ⟨rfl, bel⟩
        exact fin w' bel
    · cases hrr
  · cases hrr
def impl_commas.l0 : Nat → List Int → Int → Int → List Str → Option ((List Str))
  | 0, _, _, _, _ => none
  | j + 1, a1, a2, a3, a4 =>
    bif decide (a3 < a2) then
      Option.bind (at? a1 a3) fun v5 =>
      Option.bind (impl_decimal v5) fun v6 =>
      Option.bind (at? a4 a3) fun v7 =>
      Option.bind (at? a4 a3) fun v8 =>
      impl_commas.l0 j a1 a2 (IntKind.wrap .i64 (a3 + 1)) (List.set a4 (Int.toNat a3) v6)
    else
    some a4
def impl_commas (k : Nat) (a1 : List Int) : Option (Str) :=
  bif ((a1.length) : Int) == 0 then
    some ([45] : Str)
  else
  Option.bind (make? 16 ((a1.length) : Int) ((a1.length) : Int) []) fun v2 =>
  Option.bind (impl_commas.l0 k a1 ((a1.length) : Int) 0 v2) fun y3 =>
  Option.bind (strings_Join y3 ([44] : Str)) fun v4 =>
  some v4
def impl_commas.sig : Sig := { ps := [.val false (.sl (.int .i64)) (ros (.sl (.int .i64)))], rs := [.val false [.v .str]], ntmps := 27 }
def impl_commas.con (k : Nat) : Con := impl_commas.sig.con (fun x => impl_commas k x)
def impl_commas.C (k : Nat) : Ctx := { ti := TAB, con := conL [(165, impl_decimal.con k), (211, strings_Join.con k)] }
theorem impl_commas.cok (k : Nat) : CtxOk Tryz.prog (impl_commas.C k) := ctx_ok TABok ⟨impl_decimal.ok k, strings_Join.ok k, trivial⟩
def impl_commas.l0.ish : Shape := { tmps := [(3, .one (.own 1)), (12, .one (.bor (.int .i64))), (13, .one (.v (.int .i64))), (14, .one (.v (.int .i64)))], slots := [(1, .arr false 9 .str)], nb := 2 }
def impl_commas.l0.outs : List (Ex × Shape) := [(.exit 0, { tmps := [(3, .one (.own 2))], slots := [(2, .arr false 9 .str)], nb := 3 })]
def impl_commas.l0.F (k j : Nat) (x : Prod' impl_commas.l0.ish.tys) : Option (Outs impl_commas.l0.outs) := impl_commas.l0 j x.1 x.2.1 x.2.2.1 x.2.2.2
def impl_commas.l0.s (k : Nat) : Summ := { n := 27, ish := impl_commas.l0.ish, outs := impl_commas.l0.outs, f := impl_commas.l0.F k k }
theorem impl_commas.l0.ev (k j : Nat) (x : Prod' impl_commas.l0.ish.tys) : V (impl_commas.C k) .auto (cO (cO (cR (cL (cR (cR (cR (cB Tryz.f166)))))))) (mk impl_commas.l0.ish 27 x) (fun e st' => match e with | .nrm => (rd impl_commas.l0.ish st').bind (impl_commas.l0.F k j) | e => rdOut e st' impl_commas.l0.outs) = impl_commas.l0.F k (j + 1) x := by kernel_rfl
theorem impl_commas.l0.ok (k : Nat) : SumOk Tryz.prog (impl_commas.C k) (.loop (cO (cO (cR (cL (cR (cR (cR (cB Tryz.f166))))))))) (impl_commas.l0.s k) := sum_ok (by kernel_rfl) (sum_loop (p := .auto) (F := impl_commas.l0.F k) (impl_commas.cok k) (by kernel_rfl) (plan_of (L := []) (by kernel_rfl) trivial) (fun _ => rfl) (fun j x y h => (impl_commas.l0.ev k j x).trans h) k rfl)
theorem impl_commas.ev (k : Nat) (x : Prod' impl_commas.sig.ins) : impl_commas.sig.ev (impl_commas.C k) (.two .auto (.two .auto (.two .auto (.two (.two .auto (.one (.sum (impl_commas.l0.s k)))) .auto)))) Tryz.f166.results.toList (cB Tryz.f166) x = impl_commas k x := by kernel_rfl
theorem impl_commas.ok (k : Nat) : ConOk Tryz.prog 166 (impl_commas.con k) := sig_ok (p := (.two .auto (.two .auto (.two .auto (.two (.two .auto (.one (.sum (impl_commas.l0.s k)))) .auto))))) (impl_commas.cok k) Tryz.func166 (by kernel_rfl) (show Tryz.f166.body = some (cB Tryz.f166) by kernel_rfl) (by kernel_rfl) (by kernel_rfl) (plan_of (L := [(impl_commas.l0.s k, cO (cR (cL (cR (cR (cR (cB Tryz.f166)))))))]) (by kernel_rfl) ⟨impl_commas.l0.ok k, trivial⟩) (fun x y h => (impl_commas.ev k x).trans h)
def impl_deedText (k : Nat) (a1 : G28) : Option (Str) :=
  Option.bind (impl_cmdText k a1.1) fun v2 =>
  bif (!(v2 == [])) && (decide (0 ≤ a1.2.1)) then
    Option.bind (impl_decimal a1.2.1) fun v3 =>
    Option.bind (cat? ([99, 117, 116, 32] : Str) v3) fun v4 =>
    Option.bind (cat? v4 ([32] : Str)) fun v5 =>
    Option.bind (impl_commas k a1.2.2.1) fun v6 =>
    Option.bind (cat? v5 v6) fun v7 =>
    Option.bind (cat? v7 ([32] : Str)) fun v8 =>
    Option.bind (impl_commas k a1.2.2.2) fun v9 =>
    Option.bind (cat? v8 v9) fun v10 =>
    Option.bind (cat? v10 ([32] : Str)) fun v11 =>
    Option.bind (cat? v11 v2) fun v12 =>
    some v12
  else
  some v2
def impl_deedText.sig : Sig := { ps := [.val true T28 (ros T28)], rs := [.val false [.v .str]], ntmps := 32 }
def impl_deedText.con (k : Nat) : Con := impl_deedText.sig.con (fun x => impl_deedText k x)
def impl_deedText.C (k : Nat) : Ctx := { ti := TAB, con := conL [(164, impl_cmdText.con k), (165, impl_decimal.con k), (166, impl_commas.con k)], rob := true }
theorem impl_deedText.cok (k : Nat) : CtxOk Tryz.prog (impl_deedText.C k) := ctx_ok TABok ⟨impl_cmdText.ok k, impl_decimal.ok k, impl_commas.ok k, trivial⟩
theorem impl_deedText.ev (k : Nat) (x : Prod' impl_deedText.sig.ins) : impl_deedText.sig.ev (impl_deedText.C k) .auto Tryz.f97.results.toList (cB Tryz.f97) x = impl_deedText k x := by kernel_rfl
theorem impl_deedText.ok (k : Nat) : ConOk Tryz.prog 97 (impl_deedText.con k) := sig_ok (p := .auto) (impl_deedText.cok k) Tryz.func97 (by kernel_rfl) (show Tryz.f97.body = some (cB Tryz.f97) by kernel_rfl) (by kernel_rfl) (by kernel_rfl) (plan_of (L := []) (by kernel_rfl) trivial) (fun x y h => (impl_deedText.ev k x).trans h)
end Go.Proofs.YtcnkbllbpimaiaaGreatDoorE
