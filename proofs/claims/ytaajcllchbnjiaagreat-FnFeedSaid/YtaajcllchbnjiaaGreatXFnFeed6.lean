/- What the law FnFeed needs, part 7 of 11: the Lean functions of the Go functions that it reaches, with the proofs that the calls come to what they say, and plain facts about them. Conditions: those that each theorem states. Written by a session and by its programs (after the kit's printer). -/
import Derived.Test.YtaajcllchbnjiaaGreatXFnFeed5
namespace Go.Proofs.YtaajcllchbnjiaaGreatE
open Go Go.RowKit
set_option linter.unusedVariables false
def spec_StepsFor.l0 (k : Nat) : Nat → List Str → List Str → Int → List G29 → Option ((List G29))
  | 0, _, _, _, _ => none
  | j + 1, a1, a2, a3, a4 =>
    bif decide (a3 < ((a1.length) : Int)) then
      Option.bind (at? a1 a3) fun v5 =>
      Option.bind (at? a2 a3) fun v6 =>
      let e7 := IntKind.wrap .i64 (a3 + 1)
      bif !(v5 == v6) then
        Option.bind (at? a2 a3) fun v8 =>
        Option.bind (spec_l07For k a1 a3 v8) fun v9 =>
        Option.bind (app? 40 a4 [v9]) fun v10 =>
        spec_StepsFor.l0 k j a1 a2 e7 v10
      else
      spec_StepsFor.l0 k j a1 a2 e7 a4
    else
    some a4
def spec_StepsFor (k : Nat) (a1 : List Str) (a2 : List Str) : Option (List G29) :=
  Option.bind (spec_ImageRight k a1) fun v3 =>
  bif !v3 then
    some ([])
  else
  Option.bind (spec_ImageRight k a2) fun v4 =>
  bif (!v4) || (((a1.length) : Int) != ((a2.length) : Int)) then
    some ([])
  else
  Option.bind (spec_StepsFor.l0 k k a1 a2 0 []) fun y5 =>
  some y5
def spec_StepsFor.sig : Sig := { ps := [.val false (.sl .str) (ros (.sl .str)), .val false (.sl .str) (ros (.sl .str))], rs := [.val false [.own 49 T29]], ntmps := 50 }
def spec_StepsFor.con (k : Nat) : Con := spec_StepsFor.sig.con (fun x => spec_StepsFor k x.1 x.2)
def spec_StepsFor.C (k : Nat) : Ctx := { ti := TAB, con := conL [(103, spec_ImageRight.con k), (116, spec_l07For.con k)] }
theorem spec_StepsFor.cok (k : Nat) : CtxOk Tryz.prog (spec_StepsFor.C k) := ctx_ok TABok ⟨spec_ImageRight.ok k, spec_l07For.ok k, trivial⟩
def spec_StepsFor.l0.ish : Shape := { tmps := [(0, .one (.bor .str)), (1, .one (.bor .str)), (5, .one (.own 1)), (6, .one (.v (.int .i64)))], slots := [(1, .arr false 49 T29)], nb := 2 }
def spec_StepsFor.l0.outs : List (Ex × Shape) := [(.exit 0, { tmps := [(5, .one (.own 2))], slots := [(2, .arr false 49 T29)], nb := 3 })]
def spec_StepsFor.l0.F (k j : Nat) (x : Prod' spec_StepsFor.l0.ish.tys) : Option (Outs spec_StepsFor.l0.outs) := spec_StepsFor.l0 k j x.1 x.2.1 x.2.2.1 x.2.2.2
def spec_StepsFor.l0.s (k : Nat) : Summ := { n := 50, ish := spec_StepsFor.l0.ish, outs := spec_StepsFor.l0.outs, f := spec_StepsFor.l0.F k k }
theorem spec_StepsFor.l0.ev (k j : Nat) (x : Prod' spec_StepsFor.l0.ish.tys) : V (spec_StepsFor.C k) .auto (cO (cO (cR (cL (cR (cR (cR (cB Tryz.f104)))))))) (mk spec_StepsFor.l0.ish 50 x) (fun e st' => match e with | .nrm => (rd spec_StepsFor.l0.ish st').bind (spec_StepsFor.l0.F k j) | e => rdOut e st' spec_StepsFor.l0.outs) = spec_StepsFor.l0.F k (j + 1) x := by kernel_rfl
theorem spec_StepsFor.l0.ok (k : Nat) : SumOk Tryz.prog (spec_StepsFor.C k) (.loop (cO (cO (cR (cL (cR (cR (cR (cB Tryz.f104))))))))) (spec_StepsFor.l0.s k) := sum_ok (by kernel_rfl) (sum_loop (p := .auto) (F := spec_StepsFor.l0.F k) (spec_StepsFor.cok k) (by kernel_rfl) (plan_of (L := []) (by kernel_rfl) trivial) (fun _ => rfl) (fun j x y h => (spec_StepsFor.l0.ev k j x).trans h) k rfl)
theorem spec_StepsFor.ev (k : Nat) (x : Prod' spec_StepsFor.sig.ins) : spec_StepsFor.sig.ev (spec_StepsFor.C k) (.two .auto (.two .auto (.two .auto (.two (.two .auto (.one (.sum (spec_StepsFor.l0.s k)))) .auto)))) Tryz.f104.results.toList (cB Tryz.f104) x = spec_StepsFor k x.1 x.2 := by kernel_rfl
theorem spec_StepsFor.ok (k : Nat) : ConOk Tryz.prog 104 (spec_StepsFor.con k) := sig_ok (p := (.two .auto (.two .auto (.two .auto (.two (.two .auto (.one (.sum (spec_StepsFor.l0.s k)))) .auto))))) (spec_StepsFor.cok k) Tryz.func104 (by kernel_rfl) (show Tryz.f104.body = some (cB Tryz.f104) by kernel_rfl) (by kernel_rfl) (by kernel_rfl) (plan_of (L := [(spec_StepsFor.l0.s k, cO (cR (cL (cR (cR (cR (cB Tryz.f104)))))))]) (by kernel_rfl) ⟨spec_StepsFor.l0.ok k, trivial⟩) (fun x y h => (spec_StepsFor.ev k x).trans h)
def spec_PackageOf (k : Nat) (a1 : List Str) (a2 : List Str) : Option (Int × Str × List G29 × Int) :=
  bif (decide (400 < ((a1.length) : Int))) || (decide (400 < ((a2.length) : Int))) then
    Option.bind (spec_l08Ill 2) fun v3 =>
    some (v3.1, v3.2.1, v3.2.2.1, v3.2.2.2)
  else
  Option.bind (spec_ImageRight k a1) fun v4 =>
  bif !v4 then
    Option.bind (spec_l08Ill 1) fun v5 =>
    some (v5.1, v5.2.1, v5.2.2.1, v5.2.2.2)
  else
  Option.bind (spec_ImageRight k a2) fun v6 =>
  bif (!v6) || (((a1.length) : Int) != ((a2.length) : Int)) then
    Option.bind (spec_l08Ill 1) fun v7 =>
    some (v7.1, v7.2.1, v7.2.2.1, v7.2.2.2)
  else
  Option.bind (spec_StepsFor k a1 a2) fun v8 =>
  Option.bind (app? 40 v8 ([(5, (0, (1, [])))])) fun v9 =>
  Option.bind (spec_ImageDigest k a2) fun v10 =>
  some (((a1.length) : Int), v10, v9, 0)
def spec_PackageOf.sig : Sig := { ps := [.val false (.sl .str) (ros (.sl .str)), .val false (.sl .str) (ros (.sl .str))], rs := [.val true [.v (.int .i64), .v .str, .own 49 T29, .v (.int .i64)]], ntmps := 44 }
def spec_PackageOf.con (k : Nat) : Con := spec_PackageOf.sig.con (fun x => spec_PackageOf k x.1 x.2)
def spec_PackageOf.C (k : Nat) : Ctx := { ti := TAB, con := conL [(85, spec_ImageDigest.con k), (102, spec_l08Ill.con k), (103, spec_ImageRight.con k), (104, spec_StepsFor.con k)] }
theorem spec_PackageOf.cok (k : Nat) : CtxOk Tryz.prog (spec_PackageOf.C k) := ctx_ok TABok ⟨spec_ImageDigest.ok k, spec_l08Ill.ok k, spec_ImageRight.ok k, spec_StepsFor.ok k, trivial⟩
theorem spec_PackageOf.ev (k : Nat) (x : Prod' spec_PackageOf.sig.ins) : spec_PackageOf.sig.ev (spec_PackageOf.C k) .auto Tryz.f83.results.toList (cB Tryz.f83) x = spec_PackageOf k x.1 x.2 := by kernel_rfl
theorem spec_PackageOf.ok (k : Nat) : ConOk Tryz.prog 83 (spec_PackageOf.con k) := sig_ok (p := .auto) (spec_PackageOf.cok k) Tryz.func83 (by kernel_rfl) (show Tryz.f83.body = some (cB Tryz.f83) by kernel_rfl) (by kernel_rfl) (by kernel_rfl) (plan_of (L := []) (by kernel_rfl) trivial) (fun x y h => (spec_PackageOf.ev k x).trans h)
def spec_l03Is (a1 : Int) (a2 : Int) (a3 : Int) : Option (Bool) :=
  some ((decide (a2 ≤ a1)) && (decide (a1 ≤ a3)))
def spec_l03Is.sig : Sig := { ps := [.val false (.int .i64) (ros (.int .i64)), .val false (.int .i64) (ros (.int .i64)), .val false (.int .i64) (ros (.int .i64))], rs := [.val false [.v .bool]], ntmps := 15 }
def spec_l03Is.con (k : Nat) : Con := spec_l03Is.sig.con (fun x => spec_l03Is x.1 x.2.1 x.2.2)
def spec_l03Is.C (k : Nat) : Ctx := { ti := TAB, con := conL [] }
theorem spec_l03Is.cok (k : Nat) : CtxOk Tryz.prog (spec_l03Is.C k) := ctx_ok TABok trivial
theorem spec_l03Is.ev (k : Nat) (x : Prod' spec_l03Is.sig.ins) : spec_l03Is.sig.ev (spec_l03Is.C k) .auto Tryz.f47.results.toList (cB Tryz.f47) x = spec_l03Is x.1 x.2.1 x.2.2 := by kernel_rfl
theorem spec_l03Is.ok (k : Nat) : ConOk Tryz.prog 47 (spec_l03Is.con k) := sig_ok (p := .auto) (spec_l03Is.cok k) Tryz.func47 (by kernel_rfl) (show Tryz.f47.body = some (cB Tryz.f47) by kernel_rfl) (by kernel_rfl) (by kernel_rfl) (plan_of (L := []) (by kernel_rfl) trivial) (fun x y h => (spec_l03Is.ev k x).trans h)
def spec_StepRight (a1 : G29) (a2 : Int) : Option (Bool) :=
  Option.bind (spec_l03Is a2 1 8) fun v3 =>
  bif !v3 then
    some false
  else
  let e4 := IntKind.wrap .i64 (a2 - 1)
  Option.bind (spec_l03Is a1.2.1 0 e4) fun v5 =>
  Option.bind (spec_l03Is a1.2.2.1 0 e4) fun v6 =>
  let e7 := a1.2.2.2 == []
  let e8 := v5 && (a1.2.2.1 == 0)
  bif a1.1 == 1 then
    some (e8 && e7)
  else
  let e9 := ((a1.2.2.2.length) : Int) == 8
  bif a1.1 == 2 then
    some (e8 && e9)
  else
  bif a1.1 == 3 then
    some ((v5 && v6) && e7)
  else
  bif a1.1 == 4 then
    some ((v5 && v6) && e9)
  else
  bif a1.1 == 5 then
    bif a1.2.1 == 0 then
      Option.bind (spec_l03Is a1.2.2.1 0 1000000) fun v10 =>
      some (v10 && e7)
    else
    some false
  else
  some false
def spec_StepRight.sig : Sig := { ps := [.val true T29 (ros T29), .val false (.int .i64) (ros (.int .i64))], rs := [.val false [.v .bool]], ntmps := 87 }
def spec_StepRight.con (k : Nat) : Con := spec_StepRight.sig.con (fun x => spec_StepRight x.1 x.2)
def spec_StepRight.C (k : Nat) : Ctx := { ti := TAB, con := conL [(47, spec_l03Is.con k)] }
theorem spec_StepRight.cok (k : Nat) : CtxOk Tryz.prog (spec_StepRight.C k) := ctx_ok TABok ⟨spec_l03Is.ok k, trivial⟩
theorem spec_StepRight.ev (k : Nat) (x : Prod' spec_StepRight.sig.ins) : spec_StepRight.sig.ev (spec_StepRight.C k) .auto Tryz.f77.results.toList (cB Tryz.f77) x = spec_StepRight x.1 x.2 := by kernel_rfl
theorem spec_StepRight.ok (k : Nat) : ConOk Tryz.prog 77 (spec_StepRight.con k) := sig_ok (p := .auto) (spec_StepRight.cok k) Tryz.func77 (by kernel_rfl) (show Tryz.f77.body = some (cB Tryz.f77) by kernel_rfl) (by kernel_rfl) (by kernel_rfl) (plan_of (L := []) (by kernel_rfl) trivial) (fun x y h => (spec_StepRight.ev k x).trans h)
def spec_StepsCode.l0 : Nat → List G29 → Int → Int → Option (Unit ⊕ Int)
  | 0, _, _, _ => none
  | j + 1, a1, a2, a3 =>
    bif decide (a3 < ((a1.length) : Int)) then
      Option.bind (at? a1 a3) fun v4 =>
      Option.bind (spec_StepRight v4 a2) fun v5 =>
      bif !v5 then
        some (.inr 1)
      else
      spec_StepsCode.l0 j a1 a2 (IntKind.wrap .i64 (a3 + 1))
    else
    some (.inl ())
def spec_StepsCode.l1 : Nat → List G29 → Int → Int → Option (Unit ⊕ Int)
  | 0, _, _, _ => none
  | j + 1, a1, a2, a3 =>
    bif decide (a3 < a2) then
      Option.bind (at? a1 a2) fun v4 =>
      let e5 := IntKind.wrap .i64 (a3 + 1)
      bif v4.1 != 5 then
        Option.bind (at? a1 a3) fun v6 =>
        bif v6.1 != 5 then
          Option.bind (at? a1 a2) fun v7 =>
          Option.bind (at? a1 a3) fun v8 =>
          bif v7.2.1 == v8.2.1 then
            some (.inr 12)
          else
          spec_StepsCode.l1 j a1 a2 e5
        else
        spec_StepsCode.l1 j a1 a2 e5
      else
      spec_StepsCode.l1 j a1 a2 e5
    else
    some (.inl ())
def spec_StepsCode.l2 (k : Nat) : Nat → List G29 → Int → Option (Unit ⊕ Int)
  | 0, _, _ => none
  | j + 1, a1, a2 =>
    bif decide (a2 < ((a1.length) : Int)) then
      Option.bind (spec_StepsCode.l1 k a1 a2 0) fun
        | .inl y3 =>
          spec_StepsCode.l2 k j a1 (IntKind.wrap .i64 (a2 + 1))
        | .inr y4 =>
          some (.inr y4)
    else
    some (.inl ())
def spec_StepsCode.l3 : Nat → List G29 → Int → Int → Option (Unit ⊕ Int)
  | 0, _, _, _ => none
  | j + 1, a1, a2, a3 =>
    bif decide (a3 < ((a1.length) : Int)) then
      Option.bind (at? a1 a3) fun v4 =>
      let e5 := IntKind.wrap .i64 (a3 + 1)
      bif v4.1 != 5 then
        spec_StepsCode.l3 j a1 a2 e5
      else
      Option.bind (at? a1 a3) fun v6 =>
      bif decide (v6.2.2.1 ≤ a2) then
        some (.inr 8)
      else
      Option.bind (at? a1 a3) fun v7 =>
      spec_StepsCode.l3 j a1 v7.2.2.1 e5
    else
    some (.inl ())
def spec_StepsCode (k : Nat) (a1 : List G29) (a2 : Int) : Option (Int) :=
  bif decide (20 < ((a1.length) : Int)) then
    some 1
  else
  Option.bind (spec_l03Is a2 1 8) fun v3 =>
  bif !v3 then
    some 1
  else
  Option.bind (spec_StepsCode.l0 k a1 a2 0) fun
    | .inl y4 =>
      Option.bind (spec_StepsCode.l2 k k a1 0) fun
        | .inl y5 =>
          Option.bind (spec_StepsCode.l3 k a1 (-1) 0) fun
            | .inl y6 =>
              some 0
            | .inr y7 =>
              some y7
        | .inr y8 =>
          some y8
    | .inr y9 =>
      some y9
def spec_StepsCode.sig : Sig := { ps := [.val false (.sl T29) (ros (.sl T29)), .val false (.int .i64) (ros (.int .i64))], rs := [.val false [.v (.int .i64)]], ntmps := 93 }
def spec_StepsCode.con (k : Nat) : Con := spec_StepsCode.sig.con (fun x => spec_StepsCode k x.1 x.2)
def spec_StepsCode.C (k : Nat) : Ctx := { ti := TAB, con := conL [(47, spec_l03Is.con k), (77, spec_StepRight.con k)] }
theorem spec_StepsCode.cok (k : Nat) : CtxOk Tryz.prog (spec_StepsCode.C k) := ctx_ok TABok ⟨spec_l03Is.ok k, spec_StepRight.ok k, trivial⟩
def spec_StepsCode.l0.ish : Shape := { tmps := [(0, .one (.bor T29)), (1, .one (.v (.int .i64))), (5, .one (.v (.int .i64)))], slots := [], nb := 0 }
def spec_StepsCode.l0.outs : List (Ex × Shape) := [(.exit 0, { tmps := [], slots := [], nb := 0 }), (.ret, { tmps := [(4, .one (.v (.int .i64)))], slots := [], nb := 0 })]
def spec_StepsCode.l0.F (k j : Nat) (x : Prod' spec_StepsCode.l0.ish.tys) : Option (Outs spec_StepsCode.l0.outs) := spec_StepsCode.l0 j x.1 x.2.1 x.2.2
def spec_StepsCode.l0.s (k : Nat) : Summ := { n := 93, ish := spec_StepsCode.l0.ish, outs := spec_StepsCode.l0.outs, f := spec_StepsCode.l0.F k k }
theorem spec_StepsCode.l0.ev (k j : Nat) (x : Prod' spec_StepsCode.l0.ish.tys) : V (spec_StepsCode.C k) .auto (cO (cO (cR (cL (cR (cR (cB Tryz.f70))))))) (mk spec_StepsCode.l0.ish 93 x) (fun e st' => match e with | .nrm => (rd spec_StepsCode.l0.ish st').bind (spec_StepsCode.l0.F k j) | e => rdOut e st' spec_StepsCode.l0.outs) = spec_StepsCode.l0.F k (j + 1) x := by kernel_rfl
theorem spec_StepsCode.l0.ok (k : Nat) : SumOk Tryz.prog (spec_StepsCode.C k) (.loop (cO (cO (cR (cL (cR (cR (cB Tryz.f70)))))))) (spec_StepsCode.l0.s k) := sum_ok (by kernel_rfl) (sum_loop (p := .auto) (F := spec_StepsCode.l0.F k) (spec_StepsCode.cok k) (by kernel_rfl) (plan_of (L := []) (by kernel_rfl) trivial) (fun _ => rfl) (fun j x y h => (spec_StepsCode.l0.ev k j x).trans h) k rfl)
def spec_StepsCode.l1.ish : Shape := { tmps := [(0, .one (.bor T29)), (6, .one (.v (.int .i64))), (7, .one (.v (.int .i64)))], slots := [], nb := 0 }
def spec_StepsCode.l1.outs : List (Ex × Shape) := [(.exit 4, { tmps := [], slots := [], nb := 0 }), (.ret, { tmps := [(4, .one (.v (.int .i64)))], slots := [], nb := 0 })]
def spec_StepsCode.l1.F (k j : Nat) (x : Prod' spec_StepsCode.l1.ish.tys) : Option (Outs spec_StepsCode.l1.outs) := spec_StepsCode.l1 j x.1 x.2.1 x.2.2
def spec_StepsCode.l1.s (k : Nat) : Summ := { n := 93, ish := spec_StepsCode.l1.ish, outs := spec_StepsCode.l1.outs, f := spec_StepsCode.l1.F k k }
theorem spec_StepsCode.l1.ev (k j : Nat) (x : Prod' spec_StepsCode.l1.ish.tys) : V (spec_StepsCode.C k) .auto (cO (cO (cR (cO (cL (cR (cO (cO (cR (cL (cR (cR (cR (cB Tryz.f70)))))))))))))) (mk spec_StepsCode.l1.ish 93 x) (fun e st' => match e with | .nrm => (rd spec_StepsCode.l1.ish st').bind (spec_StepsCode.l1.F k j) | e => rdOut e st' spec_StepsCode.l1.outs) = spec_StepsCode.l1.F k (j + 1) x := by kernel_rfl
theorem spec_StepsCode.l1.ok (k : Nat) : SumOk Tryz.prog (spec_StepsCode.C k) (.loop (cO (cO (cR (cO (cL (cR (cO (cO (cR (cL (cR (cR (cR (cB Tryz.f70))))))))))))))) (spec_StepsCode.l1.s k) := sum_ok (by kernel_rfl) (sum_loop (p := .auto) (F := spec_StepsCode.l1.F k) (spec_StepsCode.cok k) (by kernel_rfl) (plan_of (L := []) (by kernel_rfl) trivial) (fun _ => rfl) (fun j x y h => (spec_StepsCode.l1.ev k j x).trans h) k rfl)
def spec_StepsCode.l2.ish : Shape := { tmps := [(0, .one (.bor T29)), (6, .one (.v (.int .i64)))], slots := [], nb := 0 }
def spec_StepsCode.l2.outs : List (Ex × Shape) := [(.exit 2, { tmps := [], slots := [], nb := 0 }), (.ret, { tmps := [(4, .one (.v (.int .i64)))], slots := [], nb := 0 })]
def spec_StepsCode.l2.F (k j : Nat) (x : Prod' spec_StepsCode.l2.ish.tys) : Option (Outs spec_StepsCode.l2.outs) := spec_StepsCode.l2 k j x.1 x.2
def spec_StepsCode.l2.s (k : Nat) : Summ := { n := 93, ish := spec_StepsCode.l2.ish, outs := spec_StepsCode.l2.outs, f := spec_StepsCode.l2.F k k }
theorem spec_StepsCode.l2.ev (k j : Nat) (x : Prod' spec_StepsCode.l2.ish.tys) : V (spec_StepsCode.C k) (.two .auto (.two (.one (.two .auto (.one (.sum (spec_StepsCode.l1.s k))))) .auto)) (cO (cO (cR (cL (cR (cR (cR (cB Tryz.f70)))))))) (mk spec_StepsCode.l2.ish 93 x) (fun e st' => match e with | .nrm => (rd spec_StepsCode.l2.ish st').bind (spec_StepsCode.l2.F k j) | e => rdOut e st' spec_StepsCode.l2.outs) = spec_StepsCode.l2.F k (j + 1) x := by kernel_rfl
theorem spec_StepsCode.l2.ok (k : Nat) : SumOk Tryz.prog (spec_StepsCode.C k) (.loop (cO (cO (cR (cL (cR (cR (cR (cB Tryz.f70))))))))) (spec_StepsCode.l2.s k) := sum_ok (by kernel_rfl) (sum_loop (p := (.two .auto (.two (.one (.two .auto (.one (.sum (spec_StepsCode.l1.s k))))) .auto))) (F := spec_StepsCode.l2.F k) (spec_StepsCode.cok k) (by kernel_rfl) (plan_of (L := [(spec_StepsCode.l1.s k, cO (cR (cO (cL (cR (cO (cO (cR (cL (cR (cR (cR (cB Tryz.f70)))))))))))))]) (by kernel_rfl) ⟨spec_StepsCode.l1.ok k, trivial⟩) (fun _ => rfl) (fun j x y h => (spec_StepsCode.l2.ev k j x).trans h) k rfl)
def spec_StepsCode.l3.ish : Shape := { tmps := [(0, .one (.bor T29)), (8, .one (.v (.int .i64))), (9, .one (.v (.int .i64)))], slots := [], nb := 0 }
def spec_StepsCode.l3.outs : List (Ex × Shape) := [(.exit 6, { tmps := [], slots := [], nb := 0 }), (.ret, { tmps := [(4, .one (.v (.int .i64)))], slots := [], nb := 0 })]
def spec_StepsCode.l3.F (k j : Nat) (x : Prod' spec_StepsCode.l3.ish.tys) : Option (Outs spec_StepsCode.l3.outs) := spec_StepsCode.l3 j x.1 x.2.1 x.2.2
def spec_StepsCode.l3.s (k : Nat) : Summ := { n := 93, ish := spec_StepsCode.l3.ish, outs := spec_StepsCode.l3.outs, f := spec_StepsCode.l3.F k k }
theorem spec_StepsCode.l3.ev (k j : Nat) (x : Prod' spec_StepsCode.l3.ish.tys) : V (spec_StepsCode.C k) .auto (cO (cO (cR (cL (cR (cR (cR (cR (cR (cB Tryz.f70)))))))))) (mk spec_StepsCode.l3.ish 93 x) (fun e st' => match e with | .nrm => (rd spec_StepsCode.l3.ish st').bind (spec_StepsCode.l3.F k j) | e => rdOut e st' spec_StepsCode.l3.outs) = spec_StepsCode.l3.F k (j + 1) x := by kernel_rfl
theorem spec_StepsCode.l3.ok (k : Nat) : SumOk Tryz.prog (spec_StepsCode.C k) (.loop (cO (cO (cR (cL (cR (cR (cR (cR (cR (cB Tryz.f70))))))))))) (spec_StepsCode.l3.s k) := sum_ok (by kernel_rfl) (sum_loop (p := .auto) (F := spec_StepsCode.l3.F k) (spec_StepsCode.cok k) (by kernel_rfl) (plan_of (L := []) (by kernel_rfl) trivial) (fun _ => rfl) (fun j x y h => (spec_StepsCode.l3.ev k j x).trans h) k rfl)
theorem spec_StepsCode.ev (k : Nat) (x : Prod' spec_StepsCode.sig.ins) : spec_StepsCode.sig.ev (spec_StepsCode.C k) (.two .auto (.two .auto (.two (.two .auto (.one (.sum (spec_StepsCode.l0.s k)))) (.two (.two .auto (.one (.sum (spec_StepsCode.l2.s k)))) (.two .auto (.two (.two .auto (.one (.sum (spec_StepsCode.l3.s k)))) .auto)))))) Tryz.f70.results.toList (cB Tryz.f70) x = spec_StepsCode k x.1 x.2 := by kernel_rfl
theorem spec_StepsCode.ok (k : Nat) : ConOk Tryz.prog 70 (spec_StepsCode.con k) := sig_ok (p := (.two .auto (.two .auto (.two (.two .auto (.one (.sum (spec_StepsCode.l0.s k)))) (.two (.two .auto (.one (.sum (spec_StepsCode.l2.s k)))) (.two .auto (.two (.two .auto (.one (.sum (spec_StepsCode.l3.s k)))) .auto))))))) (spec_StepsCode.cok k) Tryz.func70 (by kernel_rfl) (show Tryz.f70.body = some (cB Tryz.f70) by kernel_rfl) (by kernel_rfl) (by kernel_rfl) (plan_of (L := [(spec_StepsCode.l0.s k, cO (cR (cL (cR (cR (cB Tryz.f70)))))), (spec_StepsCode.l2.s k, cO (cR (cL (cR (cR (cR (cB Tryz.f70))))))), (spec_StepsCode.l3.s k, cO (cR (cL (cR (cR (cR (cR (cR (cB Tryz.f70)))))))))]) (by kernel_rfl) ⟨spec_StepsCode.l0.ok k, spec_StepsCode.l2.ok k, spec_StepsCode.l3.ok k, trivial⟩) (fun x y h => (spec_StepsCode.ev k x).trans h)
def spec_l01Src_l06Step.j0 (a1 : Int) (a2 : List Int) (a3 : Int) (a4 : Int) (a5 : Int) (a6 : Int) (a7 : Int) (a8 : Int) (a9 : Str) : Option ((List Int × Int × Int × Int × Int × Int × Int × Str)) :=
  bif decide (3 ≤ a6) then
    Option.bind (spec_l01Src_n (a2, (a3, (a4, a5))) a1) fun v10 =>
    some (v10.2.1, v10.2.2.1, v10.2.2.2.1, v10.2.2.2.2, a6, a7, v10.1, a9)
  else
  some (a2, a3, a4, a5, a6, a7, a8, a9)
def spec_l01Src_l06Step (a1 : G101) (a2 : Int) : Option (Int × Int × Int × Str × List Int × Int × Int × Int) :=
  Option.bind (spec_l01Src_n a1 4) fun v3 =>
  Option.bind (spec_l01Src_n v3.2 a2) fun v4 =>
  Option.bind (spec_l01Src_l06Step.j0 a2 v4.2.1 v4.2.2.1 v4.2.2.2.1 v4.2.2.2.2 (IntKind.wrap .i64 (1 + v3.1)) v4.1 0 []) fun y5 =>
  bif (y5.2.2.2.2.1 == 2) || (y5.2.2.2.2.1 == 4) then
    Option.bind (spec_l01Src_l06Data (y5.1, (y5.2.1, (y5.2.2.1, y5.2.2.2.1)))) fun v6 =>
    some (y5.2.2.2.2.1, y5.2.2.2.2.2.1, y5.2.2.2.2.2.2.1, v6.1, v6.2.1, v6.2.2.1, v6.2.2.2.1, v6.2.2.2.2)
  else
  some (y5.2.2.2.2.1, y5.2.2.2.2.2.1, y5.2.2.2.2.2.2.1, y5.2.2.2.2.2.2.2, y5.1, y5.2.1, y5.2.2.1, y5.2.2.2.1)
def spec_l01Src_l06Step.sig : Sig := { ps := [.ref 101 T101 (kept T101), .val false (.int .i64) (ros (.int .i64))], rs := [.val true [.v (.int .i64), .v (.int .i64), .v (.int .i64), .v .str]], ntmps := 32 }
def spec_l01Src_l06Step.con (k : Nat) : Con := spec_l01Src_l06Step.sig.con (fun x => spec_l01Src_l06Step x.1 x.2)
def spec_l01Src_l06Step.C (k : Nat) : Ctx := { ti := TAB, con := conL [(35, spec_l01Src_n.con k), (101, spec_l01Src_l06Data.con k)] }
theorem spec_l01Src_l06Step.cok (k : Nat) : CtxOk Tryz.prog (spec_l01Src_l06Step.C k) := ctx_ok TABok ⟨spec_l01Src_n.ok k, spec_l01Src_l06Data.ok k, trivial⟩
def spec_l01Src_l06Step.j0.ish : Shape := { tmps := [(0, .one (.ptr 0 0)), (1, .one (.v (.int .i64))), (5, .one (.ptr 2 0))], slots := [(0, .box 101 [.v (.sl (.int .u8)), .v (.int .i64), .v (.int .u64), .v (.int .i64)]), (2, .box 49 [.v (.int .i64), .v (.int .i64), .v (.int .i64), .v .str])], nb := 3 }
def spec_l01Src_l06Step.j0.outs : List (Ex × Shape) := [(.nrm, { tmps := [], slots := [(0, .box 101 [.v (.sl (.int .u8)), .v (.int .i64), .v (.int .u64), .v (.int .i64)]), (2, .box 49 [.v (.int .i64), .v (.int .i64), .v (.int .i64), .v .str])], nb := 3 })]
def spec_l01Src_l06Step.j0.F (k : Nat) (x : Prod' spec_l01Src_l06Step.j0.ish.tys) : Option (Outs spec_l01Src_l06Step.j0.outs) := spec_l01Src_l06Step.j0 x.1 x.2.1 x.2.2.1 x.2.2.2.1 x.2.2.2.2.1 x.2.2.2.2.2.1 x.2.2.2.2.2.2.1 x.2.2.2.2.2.2.2.1 x.2.2.2.2.2.2.2.2
def spec_l01Src_l06Step.j0.s (k : Nat) : Summ := { n := 32, ish := spec_l01Src_l06Step.j0.ish, outs := spec_l01Src_l06Step.j0.outs, f := spec_l01Src_l06Step.j0.F k }
theorem spec_l01Src_l06Step.j0.ev (k : Nat) (x : Prod' spec_l01Src_l06Step.j0.ish.tys) : V (spec_l01Src_l06Step.C k) .auto (cL (cR (cR (cB Tryz.f105)))) (mk spec_l01Src_l06Step.j0.ish 32 x) (fun e st' => rdOut e st' spec_l01Src_l06Step.j0.outs) = spec_l01Src_l06Step.j0.F k x := by kernel_rfl
theorem spec_l01Src_l06Step.j0.ok (k : Nat) : SumOk Tryz.prog (spec_l01Src_l06Step.C k) (cL (cR (cR (cB Tryz.f105)))) (spec_l01Src_l06Step.j0.s k) := sum_ok (by kernel_rfl) (sum_code (p := .auto) (spec_l01Src_l06Step.cok k) (by kernel_rfl) (plan_of (L := []) (by kernel_rfl) trivial) (fun x y h => (spec_l01Src_l06Step.j0.ev k x).trans h))
theorem spec_l01Src_l06Step.ev (k : Nat) (x : Prod' spec_l01Src_l06Step.sig.ins) : spec_l01Src_l06Step.sig.ev (spec_l01Src_l06Step.C k) (.two .auto (.two .auto (.two (.sum (spec_l01Src_l06Step.j0.s k)) .auto))) Tryz.f105.results.toList (cB Tryz.f105) x = spec_l01Src_l06Step x.1 x.2 := by kernel_rfl
theorem spec_l01Src_l06Step.ok (k : Nat) : ConOk Tryz.prog 105 (spec_l01Src_l06Step.con k) := sig_ok (p := (.two .auto (.two .auto (.two (.sum (spec_l01Src_l06Step.j0.s k)) .auto)))) (spec_l01Src_l06Step.cok k) Tryz.func105 (by kernel_rfl) (show Tryz.f105.body = some (cB Tryz.f105) by kernel_rfl) (by kernel_rfl) (by kernel_rfl) (plan_of (L := [(spec_l01Src_l06Step.j0.s k, cL (cR (cR (cB Tryz.f105))))]) (by kernel_rfl) ⟨spec_l01Src_l06Step.j0.ok k, trivial⟩) (fun x y h => (spec_l01Src_l06Step.ev k x).trans h)
def spec_l01Src_l06Steps.j0 (a1 : Int) (a2 : List Int) (a3 : Int) (a4 : Int) (a5 : Int) (a6 : Int) (a7 : Int) (a8 : Int) (a9 : Str) : Option ((Int × List Int × Int × Int × Int × Int × Int × Int × Str)) :=
  Option.bind (spec_l01Src_one (a2, (a3, (a4, a5))) 5) fun v10 =>
  bif v10.1 then
    Option.bind (spec_l01Src_n v10.2 3) fun v11 =>
    let e12 := IntKind.wrap .i64 ((IntKind.wrap .i64 (a1 + 1)) + v11.1)
    some (e12, v11.2.1, v11.2.2.1, v11.2.2.2.1, v11.2.2.2.2, 5, 0, e12, [])
  else
  some (a1, v10.2.1, v10.2.2.1, v10.2.2.2.1, v10.2.2.2.2, a6, a7, a8, a9)
def spec_l01Src_l06Steps.l1 (k : Nat) : Nat → Int → Int → Int → List Int → Int → Int → Int → List G29 → Option ((List Int × Int × Int × Int × List G29))
  | 0, _, _, _, _, _, _, _, _ => none
  | j + 1, a1, a2, a3, a4, a5, a6, a7, a8 =>
    bif decide (0 < a3) then
      Option.bind (spec_l01Src_l06Step (a4, (a5, (a6, a7))) a1) fun v9 =>
      Option.bind (spec_l01Src_l06Steps.j0 a2 v9.2.2.2.2.1 v9.2.2.2.2.2.1 v9.2.2.2.2.2.2.1 v9.2.2.2.2.2.2.2 v9.1 v9.2.1 v9.2.2.1 v9.2.2.2.1) fun y10 =>
      Option.bind (app? 40 [] a8) fun v11 =>
      let e12 := [y10.2.2.2.2.2]
      Option.bind (app? 40 v11 e12) fun v13 =>
      Option.bind (spec_StepsCode k v13 a1) fun v14 =>
      let e15 := IntKind.wrap .i64 (a3 - 1)
      bif v14 == 0 then
        Option.bind (app? 40 a8 e12) fun v16 =>
        spec_l01Src_l06Steps.l1 k j a1 y10.1 e15 y10.2.1 y10.2.2.1 y10.2.2.2.1 y10.2.2.2.2.1 v16
      else
      spec_l01Src_l06Steps.l1 k j a1 y10.1 e15 y10.2.1 y10.2.2.1 y10.2.2.2.1 y10.2.2.2.2.1 a8
    else
    some (a4, a5, a6, a7, a8)
def spec_l01Src_l06Steps (k : Nat) (a1 : G101) (a2 : Int) : Option (List G29 × List Int × Int × Int × Int) :=
  Option.bind (spec_l01Src_n a1 (IntKind.wrap .i64 (a2 + 3))) fun v3 =>
  Option.bind (spec_l01Src_l06Steps.l1 k k a2 0 v3.1 v3.2.1 v3.2.2.1 v3.2.2.2.1 v3.2.2.2.2 []) fun y4 =>
  some (y4.2.2.2.2, y4.1, y4.2.1, y4.2.2.1, y4.2.2.2.1)
def spec_l01Src_l06Steps.sig : Sig := { ps := [.ref 101 T101 (kept T101), .val false (.int .i64) (ros (.int .i64))], rs := [.val false [.own 49 T29]], ntmps := 44 }
def spec_l01Src_l06Steps.con (k : Nat) : Con := spec_l01Src_l06Steps.sig.con (fun x => spec_l01Src_l06Steps k x.1 x.2)
def spec_l01Src_l06Steps.C (k : Nat) : Ctx := { ti := TAB, con := conL [(35, spec_l01Src_n.con k), (65, spec_l01Src_one.con k), (70, spec_StepsCode.con k), (105, spec_l01Src_l06Step.con k)] }
theorem spec_l01Src_l06Steps.cok (k : Nat) : CtxOk Tryz.prog (spec_l01Src_l06Steps.C k) := ctx_ok TABok ⟨spec_l01Src_n.ok k, spec_l01Src_one.ok k, spec_StepsCode.ok k, spec_l01Src_l06Step.ok k, trivial⟩
def spec_l01Src_l06Steps.j0.ish : Shape := { tmps := [(0, .one (.ptr 0 0)), (6, .one (.v (.int .i64))), (8, .one (.ptr 3 0))], slots := [(0, .box 101 [.v (.sl (.int .u8)), .v (.int .i64), .v (.int .u64), .v (.int .i64)]), (3, .box 49 [.v (.int .i64), .v (.int .i64), .v (.int .i64), .v .str])], nb := 4 }
def spec_l01Src_l06Steps.j0.outs : List (Ex × Shape) := [(.nrm, { tmps := [(6, .one (.v (.int .i64)))], slots := [(0, .box 101 [.v (.sl (.int .u8)), .v (.int .i64), .v (.int .u64), .v (.int .i64)]), (3, .box 49 [.v (.int .i64), .v (.int .i64), .v (.int .i64), .v .str])], nb := 4 })]
def spec_l01Src_l06Steps.j0.F (k : Nat) (x : Prod' spec_l01Src_l06Steps.j0.ish.tys) : Option (Outs spec_l01Src_l06Steps.j0.outs) := spec_l01Src_l06Steps.j0 x.1 x.2.1 x.2.2.1 x.2.2.2.1 x.2.2.2.2.1 x.2.2.2.2.2.1 x.2.2.2.2.2.2.1 x.2.2.2.2.2.2.2.1 x.2.2.2.2.2.2.2.2
def spec_l01Src_l06Steps.j0.s (k : Nat) : Summ := { n := 44, ish := spec_l01Src_l06Steps.j0.ish, outs := spec_l01Src_l06Steps.j0.outs, f := spec_l01Src_l06Steps.j0.F k }
theorem spec_l01Src_l06Steps.j0.ev (k : Nat) (x : Prod' spec_l01Src_l06Steps.j0.ish.tys) : V (spec_l01Src_l06Steps.C k) .auto (cL (cR (cO (cL (cR (cO (cO (cR (cL (cR (cR (cR (cB Tryz.f84))))))))))))) (mk spec_l01Src_l06Steps.j0.ish 44 x) (fun e st' => rdOut e st' spec_l01Src_l06Steps.j0.outs) = spec_l01Src_l06Steps.j0.F k x := by kernel_rfl
theorem spec_l01Src_l06Steps.j0.ok (k : Nat) : SumOk Tryz.prog (spec_l01Src_l06Steps.C k) (cL (cR (cO (cL (cR (cO (cO (cR (cL (cR (cR (cR (cB Tryz.f84))))))))))))) (spec_l01Src_l06Steps.j0.s k) := sum_ok (by kernel_rfl) (sum_code (p := .auto) (spec_l01Src_l06Steps.cok k) (by kernel_rfl) (plan_of (L := []) (by kernel_rfl) trivial) (fun x y h => (spec_l01Src_l06Steps.j0.ev k x).trans h))
def spec_l01Src_l06Steps.l1.ish : Shape := { tmps := [(0, .one (.ptr 0 0)), (1, .one (.v (.int .i64))), (5, .one (.own 2)), (6, .one (.v (.int .i64))), (7, .one (.v (.int .i64)))], slots := [(0, .box 101 [.v (.sl (.int .u8)), .v (.int .i64), .v (.int .u64), .v (.int .i64)]), (2, .arr false 49 T29)], nb := 3 }
def spec_l01Src_l06Steps.l1.outs : List (Ex × Shape) := [(.exit 0, { tmps := [(5, .one (.own 3))], slots := [(0, .box 101 [.v (.sl (.int .u8)), .v (.int .i64), .v (.int .u64), .v (.int .i64)]), (3, .arr false 49 T29)], nb := 4 })]
def spec_l01Src_l06Steps.l1.F (k j : Nat) (x : Prod' spec_l01Src_l06Steps.l1.ish.tys) : Option (Outs spec_l01Src_l06Steps.l1.outs) := spec_l01Src_l06Steps.l1 k j x.1 x.2.1 x.2.2.1 x.2.2.2.1 x.2.2.2.2.1 x.2.2.2.2.2.1 x.2.2.2.2.2.2.1 x.2.2.2.2.2.2.2
def spec_l01Src_l06Steps.l1.s (k : Nat) : Summ := { n := 44, ish := spec_l01Src_l06Steps.l1.ish, outs := spec_l01Src_l06Steps.l1.outs, f := spec_l01Src_l06Steps.l1.F k k }
theorem spec_l01Src_l06Steps.l1.ev (k j : Nat) (x : Prod' spec_l01Src_l06Steps.l1.ish.tys) : V (spec_l01Src_l06Steps.C k) (.two .auto (.two (.one (.two .auto (.two (.sum (spec_l01Src_l06Steps.j0.s k)) .auto))) .auto)) (cO (cO (cR (cL (cR (cR (cR (cB Tryz.f84)))))))) (mk spec_l01Src_l06Steps.l1.ish 44 x) (fun e st' => match e with | .nrm => (rd spec_l01Src_l06Steps.l1.ish st').bind (spec_l01Src_l06Steps.l1.F k j) | e => rdOut e st' spec_l01Src_l06Steps.l1.outs) = spec_l01Src_l06Steps.l1.F k (j + 1) x := by kernel_rfl
theorem spec_l01Src_l06Steps.l1.ok (k : Nat) : SumOk Tryz.prog (spec_l01Src_l06Steps.C k) (.loop (cO (cO (cR (cL (cR (cR (cR (cB Tryz.f84))))))))) (spec_l01Src_l06Steps.l1.s k) := sum_ok (by kernel_rfl) (sum_loop (p := (.two .auto (.two (.one (.two .auto (.two (.sum (spec_l01Src_l06Steps.j0.s k)) .auto))) .auto))) (F := spec_l01Src_l06Steps.l1.F k) (spec_l01Src_l06Steps.cok k) (by kernel_rfl) (plan_of (L := [(spec_l01Src_l06Steps.j0.s k, cL (cR (cO (cL (cR (cO (cO (cR (cL (cR (cR (cR (cB Tryz.f84)))))))))))))]) (by kernel_rfl) ⟨spec_l01Src_l06Steps.j0.ok k, trivial⟩) (fun _ => rfl) (fun j x y h => (spec_l01Src_l06Steps.l1.ev k j x).trans h) k rfl)
theorem spec_l01Src_l06Steps.ev (k : Nat) (x : Prod' spec_l01Src_l06Steps.sig.ins) : spec_l01Src_l06Steps.sig.ev (spec_l01Src_l06Steps.C k) (.two .auto (.two .auto (.two .auto (.two (.two .auto (.one (.sum (spec_l01Src_l06Steps.l1.s k)))) .auto)))) Tryz.f84.results.toList (cB Tryz.f84) x = spec_l01Src_l06Steps k x.1 x.2 := by kernel_rfl
theorem spec_l01Src_l06Steps.ok (k : Nat) : ConOk Tryz.prog 84 (spec_l01Src_l06Steps.con k) := sig_ok (p := (.two .auto (.two .auto (.two .auto (.two (.two .auto (.one (.sum (spec_l01Src_l06Steps.l1.s k)))) .auto))))) (spec_l01Src_l06Steps.cok k) Tryz.func84 (by kernel_rfl) (show Tryz.f84.body = some (cB Tryz.f84) by kernel_rfl) (by kernel_rfl) (by kernel_rfl) (plan_of (L := [(spec_l01Src_l06Steps.l1.s k, cO (cR (cL (cR (cR (cR (cB Tryz.f84)))))))]) (by kernel_rfl) ⟨spec_l01Src_l06Steps.l1.ok k, trivial⟩) (fun x y h => (spec_l01Src_l06Steps.ev k x).trans h)
def spec_l07Make (k : Nat) (a1 : G29) (a2 : Str) : Option (Str) :=
  bif a1.1 == 1 then
    Option.bind (spec_l07Zero ) fun v3 =>
    some v3
  else
  bif a1.1 == 2 then
    some a1.2.2.2
  else
  bif a1.1 == 3 then
    some a2
  else
  Option.bind (spec_Xored k a2 a1.2.2.2) fun v4 =>
  some v4
def spec_l07Make.sig : Sig := { ps := [.val true T29 (ros T29), .val false .str (ros .str)], rs := [.val false [.v .str]], ntmps := 21 }
def spec_l07Make.con (k : Nat) : Con := spec_l07Make.sig.con (fun x => spec_l07Make k x.1 x.2)
def spec_l07Make.C (k : Nat) : Ctx := { ti := TAB, con := conL [(117, spec_l07Zero.con k), (118, spec_Xored.con k)] }
theorem spec_l07Make.cok (k : Nat) : CtxOk Tryz.prog (spec_l07Make.C k) := ctx_ok TABok ⟨spec_l07Zero.ok k, spec_Xored.ok k, trivial⟩
theorem spec_l07Make.ev (k : Nat) (x : Prod' spec_l07Make.sig.ins) : spec_l07Make.sig.ev (spec_l07Make.C k) .auto Tryz.f107.results.toList (cB Tryz.f107) x = spec_l07Make k x.1 x.2 := by kernel_rfl
theorem spec_l07Make.ok (k : Nat) : ConOk Tryz.prog 107 (spec_l07Make.con k) := sig_ok (p := .auto) (spec_l07Make.cok k) Tryz.func107 (by kernel_rfl) (show Tryz.f107.body = some (cB Tryz.f107) by kernel_rfl) (by kernel_rfl) (by kernel_rfl) (plan_of (L := []) (by kernel_rfl) trivial) (fun x y h => (spec_l07Make.ev k x).trans h)
def spec_l07Apply.l0 (k : Nat) : Nat → List Str → List G29 → Int → List Str → Option ((List Str))
  | 0, _, _, _, _ => none
  | j + 1, a1, a2, a3, a4 =>
    bif decide (a3 < ((a2.length) : Int)) then
      Option.bind (at? a2 a3) fun v5 =>
      let e6 := IntKind.wrap .i64 (a3 + 1)
      bif v5.1 != 5 then
        Option.bind (at? a2 a3) fun v7 =>
        Option.bind (at? a2 a3) fun v8 =>
        Option.bind (at? a2 a3) fun v9 =>
        Option.bind (at? a1 v9.2.2.1) fun v10 =>
        Option.bind (spec_l07Make k v8 v10) fun v11 =>
        let e12 := at? a4 v7.2.1
        Option.bind (e12) fun v13 =>
        Option.bind (e12) fun v14 =>
        spec_l07Apply.l0 k j a1 a2 e6 (List.set a4 (Int.toNat v7.2.1) v11)
      else
      spec_l07Apply.l0 k j a1 a2 e6 a4
    else
    some a4
def spec_l07Apply (k : Nat) (a1 : List Str) (a2 : List G29) : Option (List Str) :=
  Option.bind (app? 16 [] a1) fun v3 =>
  Option.bind (spec_l07Apply.l0 k k a1 a2 0 v3) fun y4 =>
  some y4
def spec_l07Apply.sig : Sig := { ps := [.val false (.sl .str) (ros (.sl .str)), .val false (.sl T29) (ros (.sl T29))], rs := [.val false [.own 9 .str]], ntmps := 43 }
def spec_l07Apply.con (k : Nat) : Con := spec_l07Apply.sig.con (fun x => spec_l07Apply k x.1 x.2)
def spec_l07Apply.C (k : Nat) : Ctx := { ti := TAB, con := conL [(107, spec_l07Make.con k)] }
theorem spec_l07Apply.cok (k : Nat) : CtxOk Tryz.prog (spec_l07Apply.C k) := ctx_ok TABok ⟨spec_l07Make.ok k, trivial⟩
def spec_l07Apply.l0.ish : Shape := { tmps := [(0, .one (.bor .str)), (1, .one (.bor T29)), (5, .one (.own 2)), (6, .one (.v (.int .i64)))], slots := [(2, .arr false 9 .str)], nb := 3 }
def spec_l07Apply.l0.outs : List (Ex × Shape) := [(.exit 0, { tmps := [(5, .one (.own 3))], slots := [(3, .arr false 9 .str)], nb := 4 })]
def spec_l07Apply.l0.F (k j : Nat) (x : Prod' spec_l07Apply.l0.ish.tys) : Option (Outs spec_l07Apply.l0.outs) := spec_l07Apply.l0 k j x.1 x.2.1 x.2.2.1 x.2.2.2
def spec_l07Apply.l0.s (k : Nat) : Summ := { n := 43, ish := spec_l07Apply.l0.ish, outs := spec_l07Apply.l0.outs, f := spec_l07Apply.l0.F k k }
theorem spec_l07Apply.l0.ev (k j : Nat) (x : Prod' spec_l07Apply.l0.ish.tys) : V (spec_l07Apply.C k) .auto (cO (cO (cR (cL (cR (cR (cB Tryz.f86))))))) (mk spec_l07Apply.l0.ish 43 x) (fun e st' => match e with | .nrm => (rd spec_l07Apply.l0.ish st').bind (spec_l07Apply.l0.F k j) | e => rdOut e st' spec_l07Apply.l0.outs) = spec_l07Apply.l0.F k (j + 1) x := by kernel_rfl
theorem spec_l07Apply.l0.ok (k : Nat) : SumOk Tryz.prog (spec_l07Apply.C k) (.loop (cO (cO (cR (cL (cR (cR (cB Tryz.f86)))))))) (spec_l07Apply.l0.s k) := sum_ok (by kernel_rfl) (sum_loop (p := .auto) (F := spec_l07Apply.l0.F k) (spec_l07Apply.cok k) (by kernel_rfl) (plan_of (L := []) (by kernel_rfl) trivial) (fun _ => rfl) (fun j x y h => (spec_l07Apply.l0.ev k j x).trans h) k rfl)
theorem spec_l07Apply.ev (k : Nat) (x : Prod' spec_l07Apply.sig.ins) : spec_l07Apply.sig.ev (spec_l07Apply.C k) (.two .auto (.two .auto (.two (.two .auto (.one (.sum (spec_l07Apply.l0.s k)))) .auto))) Tryz.f86.results.toList (cB Tryz.f86) x = spec_l07Apply k x.1 x.2 := by kernel_rfl
theorem spec_l07Apply.ok (k : Nat) : ConOk Tryz.prog 86 (spec_l07Apply.con k) := sig_ok (p := (.two .auto (.two .auto (.two (.two .auto (.one (.sum (spec_l07Apply.l0.s k)))) .auto)))) (spec_l07Apply.cok k) Tryz.func86 (by kernel_rfl) (show Tryz.f86.body = some (cB Tryz.f86) by kernel_rfl) (by kernel_rfl) (by kernel_rfl) (plan_of (L := [(spec_l07Apply.l0.s k, cO (cR (cL (cR (cR (cB Tryz.f86))))))]) (by kernel_rfl) ⟨spec_l07Apply.l0.ok k, trivial⟩) (fun x y h => (spec_l07Apply.ev k x).trans h)
def spec_l01Src_bytes.l0 : Nat → Int → Int → List Int → Int → Int → Int → List Int → Option ((List Int × Int × Int × Int × List Int))
  | 0, _, _, _, _, _, _, _ => none
  | j + 1, a1, a2, a3, a4, a5, a6, a7 =>
    bif decide (a2 < a1) then
      Option.bind (spec_l01Src_n (a3, (a4, (a5, a6))) 256) fun v8 =>
      Option.bind (app? 1 a7 [(IntKind.wrap .u8 v8.1)]) fun v9 =>
      spec_l01Src_bytes.l0 j a1 (IntKind.wrap .i64 (a2 + 1)) v8.2.1 v8.2.2.1 v8.2.2.2.1 v8.2.2.2.2 v9
    else
    some (a3, a4, a5, a6, a7)
def spec_l01Src_bytes (k : Nat) (a1 : G101) (a2 : Int) : Option (Str × List Int × Int × Int × Int) :=
  Option.bind (spec_l01Src_bytes.l0 k a2 0 a1.1 a1.2.1 a1.2.2.1 a1.2.2.2 []) fun y3 =>
  some (listByte y3.2.2.2.2, y3.1, y3.2.1, y3.2.2.1, y3.2.2.2.1)
def spec_l01Src_bytes.sig : Sig := { ps := [.ref 101 T101 (kept T101), .val false (.int .i64) (ros (.int .i64))], rs := [.val false [.v .str]], ntmps := 21 }
def spec_l01Src_bytes.con (k : Nat) : Con := spec_l01Src_bytes.sig.con (fun x => spec_l01Src_bytes k x.1 x.2)
def spec_l01Src_bytes.C (k : Nat) : Ctx := { ti := TAB, con := conL [(35, spec_l01Src_n.con k)] }
theorem spec_l01Src_bytes.cok (k : Nat) : CtxOk Tryz.prog (spec_l01Src_bytes.C k) := ctx_ok TABok ⟨spec_l01Src_n.ok k, trivial⟩
def spec_l01Src_bytes.l0.ish : Shape := { tmps := [(0, .one (.ptr 0 0)), (1, .one (.v (.int .i64))), (5, .one (.own 2)), (6, .one (.v (.int .i64)))], slots := [(0, .box 101 [.v (.sl (.int .u8)), .v (.int .i64), .v (.int .u64), .v (.int .i64)]), (2, .arr false 5 (.int .u8))], nb := 3 }
def spec_l01Src_bytes.l0.outs : List (Ex × Shape) := [(.exit 0, { tmps := [(5, .one (.own 3))], slots := [(0, .box 101 [.v (.sl (.int .u8)), .v (.int .i64), .v (.int .u64), .v (.int .i64)]), (3, .arr false 5 (.int .u8))], nb := 4 })]
def spec_l01Src_bytes.l0.F (k j : Nat) (x : Prod' spec_l01Src_bytes.l0.ish.tys) : Option (Outs spec_l01Src_bytes.l0.outs) := spec_l01Src_bytes.l0 j x.1 x.2.1 x.2.2.1 x.2.2.2.1 x.2.2.2.2.1 x.2.2.2.2.2.1 x.2.2.2.2.2.2
def spec_l01Src_bytes.l0.s (k : Nat) : Summ := { n := 21, ish := spec_l01Src_bytes.l0.ish, outs := spec_l01Src_bytes.l0.outs, f := spec_l01Src_bytes.l0.F k k }
theorem spec_l01Src_bytes.l0.ev (k j : Nat) (x : Prod' spec_l01Src_bytes.l0.ish.tys) : V (spec_l01Src_bytes.C k) .auto (cO (cO (cR (cL (cR (cR (cB Tryz.f88))))))) (mk spec_l01Src_bytes.l0.ish 21 x) (fun e st' => match e with | .nrm => (rd spec_l01Src_bytes.l0.ish st').bind (spec_l01Src_bytes.l0.F k j) | e => rdOut e st' spec_l01Src_bytes.l0.outs) = spec_l01Src_bytes.l0.F k (j + 1) x := by kernel_rfl
theorem spec_l01Src_bytes.l0.ok (k : Nat) : SumOk Tryz.prog (spec_l01Src_bytes.C k) (.loop (cO (cO (cR (cL (cR (cR (cB Tryz.f88)))))))) (spec_l01Src_bytes.l0.s k) := sum_ok (by kernel_rfl) (sum_loop (p := .auto) (F := spec_l01Src_bytes.l0.F k) (spec_l01Src_bytes.cok k) (by kernel_rfl) (plan_of (L := []) (by kernel_rfl) trivial) (fun _ => rfl) (fun j x y h => (spec_l01Src_bytes.l0.ev k j x).trans h) k rfl)
theorem spec_l01Src_bytes.ev (k : Nat) (x : Prod' spec_l01Src_bytes.sig.ins) : spec_l01Src_bytes.sig.ev (spec_l01Src_bytes.C k) (.two .auto (.two .auto (.two (.two .auto (.one (.sum (spec_l01Src_bytes.l0.s k)))) .auto))) Tryz.f88.results.toList (cB Tryz.f88) x = spec_l01Src_bytes k x.1 x.2 := by kernel_rfl
theorem spec_l01Src_bytes.ok (k : Nat) : ConOk Tryz.prog 88 (spec_l01Src_bytes.con k) := sig_ok (p := (.two .auto (.two .auto (.two (.two .auto (.one (.sum (spec_l01Src_bytes.l0.s k)))) .auto)))) (spec_l01Src_bytes.cok k) Tryz.func88 (by kernel_rfl) (show Tryz.f88.body = some (cB Tryz.f88) by kernel_rfl) (by kernel_rfl) (by kernel_rfl) (plan_of (L := [(spec_l01Src_bytes.l0.s k, cO (cR (cL (cR (cR (cB Tryz.f88))))))]) (by kernel_rfl) ⟨spec_l01Src_bytes.l0.ok k, trivial⟩) (fun x y h => (spec_l01Src_bytes.ev k x).trans h)
def spec_l01Src_l06Any.j0 (a1 : List Int) (a2 : Int) (a3 : Int) (a4 : Int) (a5 : Int) (a6 : Int) (a7 : Int) (a8 : Str) : Option ((List Int × Int × Int × Int × Int × Int × Int × Str)) :=
  Option.bind (spec_l01Src_one (a1, (a2, (a3, a4))) 6) fun v9 =>
  bif v9.1 then
    Option.bind (spec_l01Src_n v9.2 9) fun v10 =>
    some (v10.2.1, v10.2.2.1, v10.2.2.2.1, v10.2.2.2.2, 5, 0, v10.1, [])
  else
  some (v9.2.1, v9.2.2.1, v9.2.2.2.1, v9.2.2.2.2, a5, a6, a7, a8)
def spec_l01Src_l06Any (k : Nat) (a1 : G101) : Option (Int × Int × Int × Str × List Int × Int × Int × Int) :=
  Option.bind (spec_l01Src_l06Step a1 4) fun v2 =>
  Option.bind (spec_l01Src_l06Any.j0 v2.2.2.2.2.1 v2.2.2.2.2.2.1 v2.2.2.2.2.2.2.1 v2.2.2.2.2.2.2.2 v2.1 v2.2.1 v2.2.2.1 v2.2.2.2.1) fun y3 =>
  Option.bind (spec_l01Src_one (y3.1, (y3.2.1, (y3.2.2.1, y3.2.2.2.1))) 10) fun v4 =>
  bif v4.1 then
    Option.bind (spec_l01Src_n v4.2 5) fun v5 =>
    bif v5.1 == 0 then
      Option.bind (spec_l01Src_n v5.2 7) fun v6 =>
      some (v6.1, y3.2.2.2.2.2.1, y3.2.2.2.2.2.2.1, y3.2.2.2.2.2.2.2, v6.2.1, v6.2.2.1, v6.2.2.2.1, v6.2.2.2.2)
    else
    bif v5.1 == 1 then
      Option.bind (spec_l01Src_n v5.2 3) fun v7 =>
      let e8 := at? [(-1), 7, 8] v7.1
      Option.bind (e8) fun v9 =>
      Option.bind (e8) fun v10 =>
      some (y3.2.2.2.2.1, v10, y3.2.2.2.2.2.2.1, y3.2.2.2.2.2.2.2, v7.2.1, v7.2.2.1, v7.2.2.2.1, v7.2.2.2.2)
    else
    bif v5.1 == 2 then
      Option.bind (spec_l01Src_n v5.2 5) fun v11 =>
      let e12 := at? [(-1), 7, 8, 1000000, 1000001] v11.1
      Option.bind (e12) fun v13 =>
      Option.bind (e12) fun v14 =>
      some (y3.2.2.2.2.1, y3.2.2.2.2.2.1, v14, y3.2.2.2.2.2.2.2, v11.2.1, v11.2.2.1, v11.2.2.2.1, v11.2.2.2.2)
    else
    bif v5.1 == 3 then
      Option.bind (spec_l01Src_n v5.2 3) fun v15 =>
      Option.bind (spec_l01Src_bytes k v15.2 (IntKind.wrap .i64 (7 + v15.1))) fun v16 =>
      some (y3.2.2.2.2.1, y3.2.2.2.2.2.1, y3.2.2.2.2.2.2.1, v16.1, v16.2.1, v16.2.2.1, v16.2.2.2.1, v16.2.2.2.2)
    else
    some (y3.2.2.2.2.1, y3.2.2.2.2.2.1, y3.2.2.2.2.2.2.1, [], v5.2.1, v5.2.2.1, v5.2.2.2.1, v5.2.2.2.2)
  else
  some (y3.2.2.2.2.1, y3.2.2.2.2.2.1, y3.2.2.2.2.2.2.1, y3.2.2.2.2.2.2.2, v4.2.1, v4.2.2.1, v4.2.2.2.1, v4.2.2.2.2)
def spec_l01Src_l06Any.sig : Sig := { ps := [.ref 101 T101 (kept T101)], rs := [.val true [.v (.int .i64), .v (.int .i64), .v (.int .i64), .v .str]], ntmps := 46 }
def spec_l01Src_l06Any.con (k : Nat) : Con := spec_l01Src_l06Any.sig.con (fun x => spec_l01Src_l06Any k x)
def spec_l01Src_l06Any.C (k : Nat) : Ctx := { ti := TAB, con := conL [(35, spec_l01Src_n.con k), (65, spec_l01Src_one.con k), (88, spec_l01Src_bytes.con k), (105, spec_l01Src_l06Step.con k)] }
theorem spec_l01Src_l06Any.cok (k : Nat) : CtxOk Tryz.prog (spec_l01Src_l06Any.C k) := ctx_ok TABok ⟨spec_l01Src_n.ok k, spec_l01Src_one.ok k, spec_l01Src_bytes.ok k, spec_l01Src_l06Step.ok k, trivial⟩
def spec_l01Src_l06Any.j0.ish : Shape := { tmps := [(0, .one (.ptr 0 0)), (3, .one (.ptr 2 0))], slots := [(0, .box 101 [.v (.sl (.int .u8)), .v (.int .i64), .v (.int .u64), .v (.int .i64)]), (2, .box 49 [.v (.int .i64), .v (.int .i64), .v (.int .i64), .v .str])], nb := 3 }
def spec_l01Src_l06Any.j0.outs : List (Ex × Shape) := [(.nrm, { tmps := [], slots := [(0, .box 101 [.v (.sl (.int .u8)), .v (.int .i64), .v (.int .u64), .v (.int .i64)]), (2, .box 49 [.v (.int .i64), .v (.int .i64), .v (.int .i64), .v .str])], nb := 3 })]
def spec_l01Src_l06Any.j0.F (k : Nat) (x : Prod' spec_l01Src_l06Any.j0.ish.tys) : Option (Outs spec_l01Src_l06Any.j0.outs) := spec_l01Src_l06Any.j0 x.1 x.2.1 x.2.2.1 x.2.2.2.1 x.2.2.2.2.1 x.2.2.2.2.2.1 x.2.2.2.2.2.2.1 x.2.2.2.2.2.2.2
def spec_l01Src_l06Any.j0.s (k : Nat) : Summ := { n := 46, ish := spec_l01Src_l06Any.j0.ish, outs := spec_l01Src_l06Any.j0.outs, f := spec_l01Src_l06Any.j0.F k }
theorem spec_l01Src_l06Any.j0.ev (k : Nat) (x : Prod' spec_l01Src_l06Any.j0.ish.tys) : V (spec_l01Src_l06Any.C k) .auto (cL (cR (cR (cB Tryz.f89)))) (mk spec_l01Src_l06Any.j0.ish 46 x) (fun e st' => rdOut e st' spec_l01Src_l06Any.j0.outs) = spec_l01Src_l06Any.j0.F k x := by kernel_rfl
theorem spec_l01Src_l06Any.j0.ok (k : Nat) : SumOk Tryz.prog (spec_l01Src_l06Any.C k) (cL (cR (cR (cB Tryz.f89)))) (spec_l01Src_l06Any.j0.s k) := sum_ok (by kernel_rfl) (sum_code (p := .auto) (spec_l01Src_l06Any.cok k) (by kernel_rfl) (plan_of (L := []) (by kernel_rfl) trivial) (fun x y h => (spec_l01Src_l06Any.j0.ev k x).trans h))
theorem spec_l01Src_l06Any.ev (k : Nat) (x : Prod' spec_l01Src_l06Any.sig.ins) : spec_l01Src_l06Any.sig.ev (spec_l01Src_l06Any.C k) (.two .auto (.two .auto (.two (.sum (spec_l01Src_l06Any.j0.s k)) .auto))) Tryz.f89.results.toList (cB Tryz.f89) x = spec_l01Src_l06Any k x := by kernel_rfl
theorem spec_l01Src_l06Any.ok (k : Nat) : ConOk Tryz.prog 89 (spec_l01Src_l06Any.con k) := sig_ok (p := (.two .auto (.two .auto (.two (.sum (spec_l01Src_l06Any.j0.s k)) .auto)))) (spec_l01Src_l06Any.cok k) Tryz.func89 (by kernel_rfl) (show Tryz.f89.body = some (cB Tryz.f89) by kernel_rfl) (by kernel_rfl) (by kernel_rfl) (plan_of (L := [(spec_l01Src_l06Any.j0.s k, cL (cR (cR (cB Tryz.f89))))]) (by kernel_rfl) ⟨spec_l01Src_l06Any.j0.ok k, trivial⟩) (fun x y h => (spec_l01Src_l06Any.ev k x).trans h)
def spec_l01Src_l08Package.j0 (k : Nat) (a1 : Int) (a2 : List Int) (a3 : Int) (a4 : Int) (a5 : Int) (a6 : Int) (a7 : Str) (a8 : List Str) (a9 : List G29) : Option ((List Int × Int × Int × Int × Int × Str × List Str × List G29)) :=
  Option.bind (spec_l01Src_one (a2, (a3, (a4, a5))) 3) fun v10 =>
  bif v10.1 then
    Option.bind (spec_l01Src_l06Steps k v10.2 a1) fun v11 =>
    Option.bind (spec_l07Apply k a8 v11.1) fun v12 =>
    Option.bind (spec_ImageDigest k v12) fun v13 =>
    some (v11.2.1, v11.2.2.1, v11.2.2.2.1, v11.2.2.2.2, a6, v13, a8, v11.1)
  else
  some (v10.2.1, v10.2.2.1, v10.2.2.2.1, v10.2.2.2.2, a6, a7, a8, a9)
def spec_l01Src_l08Package (k : Nat) (a1 : G101) : Option (Int × Str × List G29 × List Str × List Int × Int × Int × Int) :=
  Option.bind (spec_l01Src_n a1 5) fun v2 =>
  let e3 := IntKind.wrap .i64 (1 + v2.1)
  Option.bind (spec_l01Src_l07Image k v2.2 e3) fun v4 =>
  Option.bind (spec_l01Src_l07Image k v4.2 e3) fun v5 =>
  Option.bind (spec_PackageOf k v4.1 v5.1) fun v6 =>
  Option.bind (spec_l01Src_l08Package.j0 k e3 v5.2.1 v5.2.2.1 v5.2.2.2.1 v5.2.2.2.2 v6.1 v6.2.1 v4.1 v6.2.2.1) fun y7 =>
  Option.bind (spec_l01Src_one (y7.1, (y7.2.1, (y7.2.2.1, y7.2.2.2.1))) 10) fun v8 =>
  bif v8.1 then
    Option.bind (spec_l01Src_n v8.2 4) fun v9 =>
    bif v9.1 == 0 then
      Option.bind (spec_l01Src_n v9.2 10) fun v10 =>
      some (v10.1, y7.2.2.2.2.2.1, y7.2.2.2.2.2.2.2, y7.2.2.2.2.2.2.1, v10.2.1, v10.2.2.1, v10.2.2.2.1, v10.2.2.2.2)
    else
    bif v9.1 == 1 then
      Option.bind (spec_Digest k ([120] : Str)) fun v11 =>
      some (y7.2.2.2.2.1, v11, y7.2.2.2.2.2.2.2, y7.2.2.2.2.2.2.1, v9.2.1, v9.2.2.1, v9.2.2.2.1, v9.2.2.2.2)
    else
    bif v9.1 == 2 then
      Option.bind (spec_l01Src_n v9.2 2) fun v12 =>
      Option.bind (spec_l01Src_bytes k v12.2 (IntKind.wrap .i64 (31 + (IntKind.wrap .i64 (2 * v12.1))))) fun v13 =>
      some (y7.2.2.2.2.1, v13.1, y7.2.2.2.2.2.2.2, y7.2.2.2.2.2.2.1, v13.2.1, v13.2.2.1, v13.2.2.2.1, v13.2.2.2.2)
    else
    Option.bind (spec_l01Src_l06Any k v9.2) fun v14 =>
    Option.bind (app? 40 y7.2.2.2.2.2.2.2 [(v14.1, (v14.2.1, (v14.2.2.1, v14.2.2.2.1)))]) fun v15 =>
    some (y7.2.2.2.2.1, y7.2.2.2.2.2.1, v15, y7.2.2.2.2.2.2.1, v14.2.2.2.2.1, v14.2.2.2.2.2.1, v14.2.2.2.2.2.2.1, v14.2.2.2.2.2.2.2)
  else
  some (y7.2.2.2.2.1, y7.2.2.2.2.2.1, y7.2.2.2.2.2.2.2, y7.2.2.2.2.2.2.1, v8.2.1, v8.2.2.1, v8.2.2.2.1, v8.2.2.2.2)
def spec_l01Src_l08Package.sig : Sig := { ps := [.ref 101 T101 (kept T101)], rs := [.val true [.v (.int .i64), .v .str, .own 49 T29], .val false [.own 9 .str]], ntmps := 62 }
def spec_l01Src_l08Package.con (k : Nat) : Con := spec_l01Src_l08Package.sig.con (fun x => spec_l01Src_l08Package k x)
def spec_l01Src_l08Package.C (k : Nat) : Ctx := { ti := TAB, con := conL [(35, spec_l01Src_n.con k), (65, spec_l01Src_one.con k), (82, spec_l01Src_l07Image.con k), (83, spec_PackageOf.con k), (84, spec_l01Src_l06Steps.con k), (85, spec_ImageDigest.con k), (86, spec_l07Apply.con k), (87, spec_Digest.con k), (88, spec_l01Src_bytes.con k), (89, spec_l01Src_l06Any.con k)] }
theorem spec_l01Src_l08Package.cok (k : Nat) : CtxOk Tryz.prog (spec_l01Src_l08Package.C k) := ctx_ok TABok ⟨spec_l01Src_n.ok k, spec_l01Src_one.ok k, spec_l01Src_l07Image.ok k, spec_PackageOf.ok k, spec_l01Src_l06Steps.ok k, spec_ImageDigest.ok k, spec_l07Apply.ok k, spec_Digest.ok k, spec_l01Src_bytes.ok k, spec_l01Src_l06Any.ok k, trivial⟩
def spec_l01Src_l08Package.j0.ish : Shape := { tmps := [(0, .one (.ptr 0 0)), (4, .one (.v (.int .i64))), (5, .one (.own 6)), (6, .one (.ptr 5 0))], slots := [(0, .box 101 [.v (.sl (.int .u8)), .v (.int .i64), .v (.int .u64), .v (.int .i64)]), (5, .box 25 [.v (.int .i64), .v .str, .own 7]), (6, .arr false 9 .str), (7, .arr false 49 T29)], nb := 8 }
def spec_l01Src_l08Package.j0.outs : List (Ex × Shape) := [(.nrm, { tmps := [(5, .one (.own 8))], slots := [(0, .box 101 [.v (.sl (.int .u8)), .v (.int .i64), .v (.int .u64), .v (.int .i64)]), (5, .box 25 [.v (.int .i64), .v .str, .own 9]), (8, .arr false 9 .str), (9, .arr false 49 T29)], nb := 10 })]
def spec_l01Src_l08Package.j0.F (k : Nat) (x : Prod' spec_l01Src_l08Package.j0.ish.tys) : Option (Outs spec_l01Src_l08Package.j0.outs) := spec_l01Src_l08Package.j0 k x.1 x.2.1 x.2.2.1 x.2.2.2.1 x.2.2.2.2.1 x.2.2.2.2.2.1 x.2.2.2.2.2.2.1 x.2.2.2.2.2.2.2.1 x.2.2.2.2.2.2.2.2
def spec_l01Src_l08Package.j0.s (k : Nat) : Summ := { n := 62, ish := spec_l01Src_l08Package.j0.ish, outs := spec_l01Src_l08Package.j0.outs, f := spec_l01Src_l08Package.j0.F k }
theorem spec_l01Src_l08Package.j0.ev (k : Nat) (x : Prod' spec_l01Src_l08Package.j0.ish.tys) : V (spec_l01Src_l08Package.C k) .auto (cL (cR (cR (cR (cR (cB Tryz.f52)))))) (mk spec_l01Src_l08Package.j0.ish 62 x) (fun e st' => rdOut e st' spec_l01Src_l08Package.j0.outs) = spec_l01Src_l08Package.j0.F k x := by kernel_rfl
theorem spec_l01Src_l08Package.j0.ok (k : Nat) : SumOk Tryz.prog (spec_l01Src_l08Package.C k) (cL (cR (cR (cR (cR (cB Tryz.f52)))))) (spec_l01Src_l08Package.j0.s k) := sum_ok (by kernel_rfl) (sum_code (p := .auto) (spec_l01Src_l08Package.cok k) (by kernel_rfl) (plan_of (L := []) (by kernel_rfl) trivial) (fun x y h => (spec_l01Src_l08Package.j0.ev k x).trans h))
theorem spec_l01Src_l08Package.ev (k : Nat) (x : Prod' spec_l01Src_l08Package.sig.ins) : spec_l01Src_l08Package.sig.ev (spec_l01Src_l08Package.C k) (.two .auto (.two .auto (.two .auto (.two .auto (.two (.sum (spec_l01Src_l08Package.j0.s k)) .auto))))) Tryz.f52.results.toList (cB Tryz.f52) x = spec_l01Src_l08Package k x := by kernel_rfl
theorem spec_l01Src_l08Package.ok (k : Nat) : ConOk Tryz.prog 52 (spec_l01Src_l08Package.con k) := sig_ok (p := (.two .auto (.two .auto (.two .auto (.two .auto (.two (.sum (spec_l01Src_l08Package.j0.s k)) .auto)))))) (spec_l01Src_l08Package.cok k) Tryz.func52 (by kernel_rfl) (show Tryz.f52.body = some (cB Tryz.f52) by kernel_rfl) (by kernel_rfl) (by kernel_rfl) (plan_of (L := [(spec_l01Src_l08Package.j0.s k, cL (cR (cR (cR (cR (cB Tryz.f52))))))]) (by kernel_rfl) ⟨spec_l01Src_l08Package.j0.ok k, trivial⟩) (fun x y h => (spec_l01Src_l08Package.ev k x).trans h)
def spec_DrawPackageRight (k : Nat) (a1 : List Int) : Option (Int × Str × List G29) :=
  Option.bind (spec_l01Source k a1) fun v2 =>
  Option.bind (spec_l01Src_l08Package k v2) fun v3 =>
  some (v3.1, v3.2.1, v3.2.2.1)
def spec_DrawPackageRight.sig : Sig := { ps := [.val false (.sl (.int .u8)) (kept (.sl (.int .u8)))], rs := [.val true [.v (.int .i64), .v .str, .own 49 T29]], ntmps := 12 }
def spec_DrawPackageRight.con (k : Nat) : Con := spec_DrawPackageRight.sig.con (fun x => spec_DrawPackageRight k x)
def spec_DrawPackageRight.C (k : Nat) : Ctx := { ti := TAB, con := conL [(31, spec_l01Source.con k), (52, spec_l01Src_l08Package.con k)] }
theorem spec_DrawPackageRight.cok (k : Nat) : CtxOk Tryz.prog (spec_DrawPackageRight.C k) := ctx_ok TABok ⟨spec_l01Source.ok k, spec_l01Src_l08Package.ok k, trivial⟩
theorem spec_DrawPackageRight.ev (k : Nat) (x : Prod' spec_DrawPackageRight.sig.ins) : spec_DrawPackageRight.sig.ev (spec_DrawPackageRight.C k) .auto Tryz.f22.results.toList (cB Tryz.f22) x = spec_DrawPackageRight k x := by kernel_rfl
theorem spec_DrawPackageRight.ok (k : Nat) : ConOk Tryz.prog 22 (spec_DrawPackageRight.con k) := sig_ok (p := .auto) (spec_DrawPackageRight.cok k) Tryz.func22 (by kernel_rfl) (show Tryz.f22.body = some (cB Tryz.f22) by kernel_rfl) (by kernel_rfl) (by kernel_rfl) (plan_of (L := []) (by kernel_rfl) trivial) (fun x y h => (spec_DrawPackageRight.ev k x).trans h)
def spec_DrawStreamOf (k : Nat) (a1 : List Int) : Option (Int × Str × List G29) :=
  Option.bind (spec_DrawPackageRight k a1) fun v2 =>
  some (v2.1, v2.2.1, v2.2.2)
def spec_DrawStreamOf.sig : Sig := { ps := [.val false (.sl (.int .u8)) (kept (.sl (.int .u8)))], rs := [.val true [.v (.int .i64), .v .str, .own 49 T29]], ntmps := 5 }
def spec_DrawStreamOf.con (k : Nat) : Con := spec_DrawStreamOf.sig.con (fun x => spec_DrawStreamOf k x)
def spec_DrawStreamOf.C (k : Nat) : Ctx := { ti := TAB, con := conL [(22, spec_DrawPackageRight.con k)] }
theorem spec_DrawStreamOf.cok (k : Nat) : CtxOk Tryz.prog (spec_DrawStreamOf.C k) := ctx_ok TABok ⟨spec_DrawPackageRight.ok k, trivial⟩
theorem spec_DrawStreamOf.ev (k : Nat) (x : Prod' spec_DrawStreamOf.sig.ins) : spec_DrawStreamOf.sig.ev (spec_DrawStreamOf.C k) .auto Tryz.f4.results.toList (cB Tryz.f4) x = spec_DrawStreamOf k x := by kernel_rfl
theorem spec_DrawStreamOf.ok (k : Nat) : ConOk Tryz.prog 4 (spec_DrawStreamOf.con k) := sig_ok (p := .auto) (spec_DrawStreamOf.cok k) Tryz.func4 (by kernel_rfl) (show Tryz.f4.body = some (cB Tryz.f4) by kernel_rfl) (by kernel_rfl) (by kernel_rfl) (plan_of (L := []) (by kernel_rfl) trivial) (fun x y h => (spec_DrawStreamOf.ev k x).trans h)
def impl_within (a1 : Int) (a2 : Int) (a3 : Int) : Option (Bool) :=
  some ((decide (a2 ≤ a1)) && (decide (a1 ≤ a3)))
def impl_within.sig : Sig := { ps := [.val false (.int .i64) (ros (.int .i64)), .val false (.int .i64) (ros (.int .i64)), .val false (.int .i64) (ros (.int .i64))], rs := [.val false [.v .bool]], ntmps := 15 }
def impl_within.con (k : Nat) : Con := impl_within.sig.con (fun x => impl_within x.1 x.2.1 x.2.2)
def impl_within.C (k : Nat) : Ctx := { ti := TAB, con := conL [] }
theorem impl_within.cok (k : Nat) : CtxOk Tryz.prog (impl_within.C k) := ctx_ok TABok trivial
theorem impl_within.ev (k : Nat) (x : Prod' impl_within.sig.ins) : impl_within.sig.ev (impl_within.C k) .auto Tryz.f67.results.toList (cB Tryz.f67) x = impl_within x.1 x.2.1 x.2.2 := by kernel_rfl
theorem impl_within.ok (k : Nat) : ConOk Tryz.prog 67 (impl_within.con k) := sig_ok (p := .auto) (impl_within.cok k) Tryz.func67 (by kernel_rfl) (show Tryz.f67.body = some (cB Tryz.f67) by kernel_rfl) (by kernel_rfl) (by kernel_rfl) (plan_of (L := []) (by kernel_rfl) trivial) (fun x y h => (impl_within.ev k x).trans h)
def impl_isBlocks (a1 : Int) : Option (Bool) :=
  Option.bind (impl_within a1 1 8) fun v2 =>
  some v2
def impl_isBlocks.sig : Sig := { ps := [.val false (.int .i64) (ros (.int .i64))], rs := [.val false [.v .bool]], ntmps := 5 }
def impl_isBlocks.con (k : Nat) : Con := impl_isBlocks.sig.con (fun x => impl_isBlocks x)
def impl_isBlocks.C (k : Nat) : Ctx := { ti := TAB, con := conL [(67, impl_within.con k)] }
theorem impl_isBlocks.cok (k : Nat) : CtxOk Tryz.prog (impl_isBlocks.C k) := ctx_ok TABok ⟨impl_within.ok k, trivial⟩
theorem impl_isBlocks.ev (k : Nat) (x : Prod' impl_isBlocks.sig.ins) : impl_isBlocks.sig.ev (impl_isBlocks.C k) .auto Tryz.f66.results.toList (cB Tryz.f66) x = impl_isBlocks x := by kernel_rfl
theorem impl_isBlocks.ok (k : Nat) : ConOk Tryz.prog 66 (impl_isBlocks.con k) := sig_ok (p := .auto) (impl_isBlocks.cok k) Tryz.func66 (by kernel_rfl) (show Tryz.f66.body = some (cB Tryz.f66) by kernel_rfl) (by kernel_rfl) (by kernel_rfl) (plan_of (L := []) (by kernel_rfl) trivial) (fun x y h => (impl_isBlocks.ev k x).trans h)
def impl_isTime (a1 : Int) : Option (Bool) :=
  Option.bind (impl_within a1 0 1000000) fun v2 =>
  some v2
def impl_isTime.sig : Sig := { ps := [.val false (.int .i64) (ros (.int .i64))], rs := [.val false [.v .bool]], ntmps := 5 }
def impl_isTime.con (k : Nat) : Con := impl_isTime.sig.con (fun x => impl_isTime x)
def impl_isTime.C (k : Nat) : Ctx := { ti := TAB, con := conL [(67, impl_within.con k)] }
theorem impl_isTime.cok (k : Nat) : CtxOk Tryz.prog (impl_isTime.C k) := ctx_ok TABok ⟨impl_within.ok k, trivial⟩
theorem impl_isTime.ev (k : Nat) (x : Prod' impl_isTime.sig.ins) : impl_isTime.sig.ev (impl_isTime.C k) .auto Tryz.f110.results.toList (cB Tryz.f110) x = impl_isTime x := by kernel_rfl
theorem impl_isTime.ok (k : Nat) : ConOk Tryz.prog 110 (impl_isTime.con k) := sig_ok (p := .auto) (impl_isTime.cok k) Tryz.func110 (by kernel_rfl) (show Tryz.f110.body = some (cB Tryz.f110) by kernel_rfl) (by kernel_rfl) (by kernel_rfl) (plan_of (L := []) (by kernel_rfl) trivial) (fun x y h => (impl_isTime.ev k x).trans h)
def impl_isStep.j0 (a1 : Int) (a2 : Bool) (a3 : Int) (a4 : Int) (a5 : Int) (a6 : Str) : Option ((Bool × Int × Int × Int × Str)) :=
  bif (a3 == 3) || (a3 == 4) then
    Option.bind (impl_within a5 0 (IntKind.wrap .i64 (a1 - 1))) fun v7 =>
    some (v7, a3, a4, a5, a6)
  else
  some (a2, a3, a4, a5, a6)
def impl_isStep.j1 (a1 : Bool) (a2 : Int) (a3 : Int) (a4 : Int) (a5 : Str) : Option ((Bool × Int × Int × Int × Str)) :=
  bif (a2 == 2) || (a2 == 4) then
    some (((a5.length) : Int) == 8, a2, a3, a4, a5)
  else
  some (a1, a2, a3, a4, a5)
def impl_isStep (a1 : G29) (a2 : Int) : Option (Bool) :=
  Option.bind (impl_within a1.2.1 0 (IntKind.wrap .i64 (a2 - 1))) fun v3 =>
  Option.bind (impl_isStep.j0 a2 (a1.2.2.1 == 0) a1.1 a1.2.1 a1.2.2.1 a1.2.2.2) fun y4 =>
  Option.bind (impl_isStep.j1 (a1.2.2.2 == []) y4.2.1 y4.2.2.1 y4.2.2.2.1 y4.2.2.2.2) fun y5 =>
  bif y5.2.1 == 5 then
    Option.bind (impl_isTime y5.2.2.2.1) fun v6 =>
    Option.bind (impl_within y5.2.1 1 5) fun v7 =>
    some (((v7 && (y5.2.2.1 == 0)) && v6) && y5.1)
  else
  Option.bind (impl_within y5.2.1 1 5) fun v8 =>
  some (((v8 && v3) && y4.1) && y5.1)
def impl_isStep.sig : Sig := { ps := [.val true T29 (ros T29), .val false (.int .i64) (ros (.int .i64))], rs := [.val false [.v .bool]], ntmps := 65 }
def impl_isStep.con (k : Nat) : Con := impl_isStep.sig.con (fun x => impl_isStep x.1 x.2)
def impl_isStep.C (k : Nat) : Ctx := { ti := TAB, con := conL [(67, impl_within.con k), (110, impl_isTime.con k)] }
theorem impl_isStep.cok (k : Nat) : CtxOk Tryz.prog (impl_isStep.C k) := ctx_ok TABok ⟨impl_within.ok k, impl_isTime.ok k, trivial⟩
def impl_isStep.j0.ish : Shape := { tmps := [(1, .one (.v (.int .i64))), (2, .one (.ptr 0 0)), (6, .one (.v .bool))], slots := [(0, .box 49 [.v (.int .i64), .v (.int .i64), .v (.int .i64), .v .str])], nb := 1 }
def impl_isStep.j0.outs : List (Ex × Shape) := [(.nrm, { tmps := [(6, .one (.v .bool))], slots := [(0, .box 49 [.v (.int .i64), .v (.int .i64), .v (.int .i64), .v .str])], nb := 1 })]
def impl_isStep.j0.F (k : Nat) (x : Prod' impl_isStep.j0.ish.tys) : Option (Outs impl_isStep.j0.outs) := impl_isStep.j0 x.1 x.2.1 x.2.2.1 x.2.2.2.1 x.2.2.2.2.1 x.2.2.2.2.2
def impl_isStep.j0.s (k : Nat) : Summ := { n := 65, ish := impl_isStep.j0.ish, outs := impl_isStep.j0.outs, f := impl_isStep.j0.F k }
theorem impl_isStep.j0.ev (k : Nat) (x : Prod' impl_isStep.j0.ish.tys) : V (impl_isStep.C k) .auto (cL (cR (cR (cB Tryz.f92)))) (mk impl_isStep.j0.ish 65 x) (fun e st' => rdOut e st' impl_isStep.j0.outs) = impl_isStep.j0.F k x := by kernel_rfl
theorem impl_isStep.j0.ok (k : Nat) : SumOk Tryz.prog (impl_isStep.C k) (cL (cR (cR (cB Tryz.f92)))) (impl_isStep.j0.s k) := sum_ok (by kernel_rfl) (sum_code (p := .auto) (impl_isStep.cok k) (by kernel_rfl) (plan_of (L := []) (by kernel_rfl) trivial) (fun x y h => (impl_isStep.j0.ev k x).trans h))
def impl_isStep.j1.ish : Shape := { tmps := [(2, .one (.ptr 0 0)), (7, .one (.v .bool))], slots := [(0, .box 49 [.v (.int .i64), .v (.int .i64), .v (.int .i64), .v .str])], nb := 1 }
def impl_isStep.j1.outs : List (Ex × Shape) := [(.nrm, { tmps := [(7, .one (.v .bool))], slots := [(0, .box 49 [.v (.int .i64), .v (.int .i64), .v (.int .i64), .v .str])], nb := 1 })]
def impl_isStep.j1.F (k : Nat) (x : Prod' impl_isStep.j1.ish.tys) : Option (Outs impl_isStep.j1.outs) := impl_isStep.j1 x.1 x.2.1 x.2.2.1 x.2.2.2.1 x.2.2.2.2
def impl_isStep.j1.s (k : Nat) : Summ := { n := 65, ish := impl_isStep.j1.ish, outs := impl_isStep.j1.outs, f := impl_isStep.j1.F k }
theorem impl_isStep.j1.ev (k : Nat) (x : Prod' impl_isStep.j1.ish.tys) : V (impl_isStep.C k) .auto (cL (cR (cR (cR (cB Tryz.f92))))) (mk impl_isStep.j1.ish 65 x) (fun e st' => rdOut e st' impl_isStep.j1.outs) = impl_isStep.j1.F k x := by kernel_rfl
theorem impl_isStep.j1.ok (k : Nat) : SumOk Tryz.prog (impl_isStep.C k) (cL (cR (cR (cR (cB Tryz.f92))))) (impl_isStep.j1.s k) := sum_ok (by kernel_rfl) (sum_code (p := .auto) (impl_isStep.cok k) (by kernel_rfl) (plan_of (L := []) (by kernel_rfl) trivial) (fun x y h => (impl_isStep.j1.ev k x).trans h))
theorem impl_isStep.ev (k : Nat) (x : Prod' impl_isStep.sig.ins) : impl_isStep.sig.ev (impl_isStep.C k) (.two .auto (.two .auto (.two (.sum (impl_isStep.j0.s k)) (.two (.sum (impl_isStep.j1.s k)) .auto)))) Tryz.f92.results.toList (cB Tryz.f92) x = impl_isStep x.1 x.2 := by kernel_rfl
theorem impl_isStep.ok (k : Nat) : ConOk Tryz.prog 92 (impl_isStep.con k) := sig_ok (p := (.two .auto (.two .auto (.two (.sum (impl_isStep.j0.s k)) (.two (.sum (impl_isStep.j1.s k)) .auto))))) (impl_isStep.cok k) Tryz.func92 (by kernel_rfl) (show Tryz.f92.body = some (cB Tryz.f92) by kernel_rfl) (by kernel_rfl) (by kernel_rfl) (plan_of (L := [(impl_isStep.j0.s k, cL (cR (cR (cB Tryz.f92)))), (impl_isStep.j1.s k, cL (cR (cR (cR (cB Tryz.f92)))))]) (by kernel_rfl) ⟨impl_isStep.j0.ok k, impl_isStep.j1.ok k, trivial⟩) (fun x y h => (impl_isStep.ev k x).trans h)
end Go.Proofs.YtaajcllchbnjiaaGreatE

namespace Go.Proofs.YtaajcllchbnjiaaGreatE
open Go Go.RowKit
set_option linter.unusedVariables false
def impl_stepsCode_1 (a1 : G29) (a2 : Int) : Option (Bool) :=
  Option.bind (impl_isStep a1 a2) fun v3 =>
  some (!v3)
def impl_stepsCode_1.sig : Sig := { ps := [.val true T29 (ros T29), .rptr (.int .i64)], rs := [.val false [.v .bool]], ntmps := 8 }
def impl_stepsCode_1.con (k : Nat) : Con := impl_stepsCode_1.sig.con (fun x => impl_stepsCode_1 x.1 x.2)
def impl_stepsCode_1.C (k : Nat) : Ctx := { ti := TAB, con := conL [(92, impl_isStep.con k)] }
theorem impl_stepsCode_1.cok (k : Nat) : CtxOk Tryz.prog (impl_stepsCode_1.C k) := ctx_ok TABok ⟨impl_isStep.ok k, trivial⟩
theorem impl_stepsCode_1.ev (k : Nat) (x : Prod' impl_stepsCode_1.sig.ins) : impl_stepsCode_1.sig.ev (impl_stepsCode_1.C k) .auto Tryz.f91.results.toList (cB Tryz.f91) x = impl_stepsCode_1 x.1 x.2 := by kernel_rfl
theorem impl_stepsCode_1.ok (k : Nat) : ConOk Tryz.prog 91 (impl_stepsCode_1.con k) := sig_ok (p := .auto) (impl_stepsCode_1.cok k) Tryz.func91 (by kernel_rfl) (show Tryz.f91.body = some (cB Tryz.f91) by kernel_rfl) (by kernel_rfl) (by kernel_rfl) (plan_of (L := []) (by kernel_rfl) trivial) (fun x y h => (impl_stepsCode_1.ev k x).trans h)
def slices_IndexFunc_impl_Step_stepsCode_1.l0 : Nat → List G29 → Int → Int → Int → Option (Int ⊕ (Int × Int))
  | 0, _, _, _, _ => none
  | j + 1, a1, a2, a3, a4 =>
    bif decide (a3 < a2) then
      Option.bind (at? a1 a3) fun v5 =>
      Option.bind (impl_stepsCode_1 v5 a4) fun v6 =>
      bif v6 then
        some (.inr (a3, a4))
      else
      slices_IndexFunc_impl_Step_stepsCode_1.l0 j a1 a2 (IntKind.wrap .i64 (a3 + 1)) a4
    else
    some (.inl a4)
def slices_IndexFunc_impl_Step_stepsCode_1 (k : Nat) (a1 : List G29) (a2 : Int) : Option (Int × Int) :=
  Option.bind (slices_IndexFunc_impl_Step_stepsCode_1.l0 k a1 ((a1.length) : Int) 0 a2) fun
    | .inl y3 =>
      some ((-1), y3)
    | .inr y4 =>
      some (y4.1, y4.2)
def slices_IndexFunc_impl_Step_stepsCode_1.sig : Sig := { ps := [.val false (.sl T29) (ros (.sl T29)), .fn 91 [(2, (.int .i64), (kept (.int .i64)))]], rs := [.val false [.v (.int .i64)]], ntmps := 19 }
def slices_IndexFunc_impl_Step_stepsCode_1.con (k : Nat) : Con := slices_IndexFunc_impl_Step_stepsCode_1.sig.con (fun x => slices_IndexFunc_impl_Step_stepsCode_1 k x.1 x.2)
def slices_IndexFunc_impl_Step_stepsCode_1.C (k : Nat) : Ctx := { ti := TAB, con := conL [(91, impl_stepsCode_1.con k)] }
theorem slices_IndexFunc_impl_Step_stepsCode_1.cok (k : Nat) : CtxOk Tryz.prog (slices_IndexFunc_impl_Step_stepsCode_1.C k) := ctx_ok TABok ⟨impl_stepsCode_1.ok k, trivial⟩
def slices_IndexFunc_impl_Step_stepsCode_1.l0.ish : Shape := { tmps := [(0, .one (.bor T29)), (1, .fn 91 [.ptr 0 0]), (7, .one (.v (.int .i64))), (8, .one (.v (.int .i64)))], slots := [(0, .box 2 [.v (.int .i64)])], nb := 1 }
def slices_IndexFunc_impl_Step_stepsCode_1.l0.outs : List (Ex × Shape) := [(.exit 0, { tmps := [], slots := [(0, .box 2 [.v (.int .i64)])], nb := 1 }), (.ret, { tmps := [(4, .one (.v (.int .i64)))], slots := [(0, .box 2 [.v (.int .i64)])], nb := 1 })]
def slices_IndexFunc_impl_Step_stepsCode_1.l0.F (k j : Nat) (x : Prod' slices_IndexFunc_impl_Step_stepsCode_1.l0.ish.tys) : Option (Outs slices_IndexFunc_impl_Step_stepsCode_1.l0.outs) := slices_IndexFunc_impl_Step_stepsCode_1.l0 j x.1 x.2.1 x.2.2.1 x.2.2.2
def slices_IndexFunc_impl_Step_stepsCode_1.l0.s (k : Nat) : Summ := { n := 19, ish := slices_IndexFunc_impl_Step_stepsCode_1.l0.ish, outs := slices_IndexFunc_impl_Step_stepsCode_1.l0.outs, f := slices_IndexFunc_impl_Step_stepsCode_1.l0.F k k }
theorem slices_IndexFunc_impl_Step_stepsCode_1.l0.ev (k j : Nat) (x : Prod' slices_IndexFunc_impl_Step_stepsCode_1.l0.ish.tys) : V (slices_IndexFunc_impl_Step_stepsCode_1.C k) .auto (cO (cO (cR (cL (cR (cB Tryz.f109)))))) (mk slices_IndexFunc_impl_Step_stepsCode_1.l0.ish 19 x) (fun e st' => match e with | .nrm => (rd slices_IndexFunc_impl_Step_stepsCode_1.l0.ish st').bind (slices_IndexFunc_impl_Step_stepsCode_1.l0.F k j) | e => rdOut e st' slices_IndexFunc_impl_Step_stepsCode_1.l0.outs) = slices_IndexFunc_impl_Step_stepsCode_1.l0.F k (j + 1) x := by kernel_rfl
theorem slices_IndexFunc_impl_Step_stepsCode_1.l0.ok (k : Nat) : SumOk Tryz.prog (slices_IndexFunc_impl_Step_stepsCode_1.C k) (.loop (cO (cO (cR (cL (cR (cB Tryz.f109))))))) (slices_IndexFunc_impl_Step_stepsCode_1.l0.s k) := sum_ok (by kernel_rfl) (sum_loop (p := .auto) (F := slices_IndexFunc_impl_Step_stepsCode_1.l0.F k) (slices_IndexFunc_impl_Step_stepsCode_1.cok k) (by kernel_rfl) (plan_of (L := []) (by kernel_rfl) trivial) (fun _ => rfl) (fun j x y h => (slices_IndexFunc_impl_Step_stepsCode_1.l0.ev k j x).trans h) k rfl)
theorem slices_IndexFunc_impl_Step_stepsCode_1.ev (k : Nat) (x : Prod' slices_IndexFunc_impl_Step_stepsCode_1.sig.ins) : slices_IndexFunc_impl_Step_stepsCode_1.sig.ev (slices_IndexFunc_impl_Step_stepsCode_1.C k) (.two .auto (.two (.two .auto (.one (.sum (slices_IndexFunc_impl_Step_stepsCode_1.l0.s k)))) .auto)) Tryz.f109.results.toList (cB Tryz.f109) x = slices_IndexFunc_impl_Step_stepsCode_1 k x.1 x.2 := by kernel_rfl
theorem slices_IndexFunc_impl_Step_stepsCode_1.ok (k : Nat) : ConOk Tryz.prog 109 (slices_IndexFunc_impl_Step_stepsCode_1.con k) := sig_ok (p := (.two .auto (.two (.two .auto (.one (.sum (slices_IndexFunc_impl_Step_stepsCode_1.l0.s k)))) .auto))) (slices_IndexFunc_impl_Step_stepsCode_1.cok k) Tryz.func109 (by kernel_rfl) (show Tryz.f109.body = some (cB Tryz.f109) by kernel_rfl) (by kernel_rfl) (by kernel_rfl) (plan_of (L := [(slices_IndexFunc_impl_Step_stepsCode_1.l0.s k, cO (cR (cL (cR (cB Tryz.f109)))))]) (by kernel_rfl) ⟨slices_IndexFunc_impl_Step_stepsCode_1.l0.ok k, trivial⟩) (fun x y h => (slices_IndexFunc_impl_Step_stepsCode_1.ev k x).trans h)
def slices_ContainsFunc_impl_Step_stepsCode_1 (k : Nat) (a1 : List G29) (a2 : Int) : Option (Bool × Int) :=
  Option.bind (slices_IndexFunc_impl_Step_stepsCode_1 k a1 a2) fun v3 =>
  some (decide (0 ≤ v3.1), v3.2)
def slices_ContainsFunc_impl_Step_stepsCode_1.sig : Sig := { ps := [.val false (.sl T29) (ros (.sl T29)), .fn 91 [(2, (.int .i64), (kept (.int .i64)))]], rs := [.val false [.v .bool]], ntmps := 9 }
def slices_ContainsFunc_impl_Step_stepsCode_1.con (k : Nat) : Con := slices_ContainsFunc_impl_Step_stepsCode_1.sig.con (fun x => slices_ContainsFunc_impl_Step_stepsCode_1 k x.1 x.2)
def slices_ContainsFunc_impl_Step_stepsCode_1.C (k : Nat) : Ctx := { ti := TAB, con := conL [(109, slices_IndexFunc_impl_Step_stepsCode_1.con k)] }
theorem slices_ContainsFunc_impl_Step_stepsCode_1.cok (k : Nat) : CtxOk Tryz.prog (slices_ContainsFunc_impl_Step_stepsCode_1.C k) := ctx_ok TABok ⟨slices_IndexFunc_impl_Step_stepsCode_1.ok k, trivial⟩
theorem slices_ContainsFunc_impl_Step_stepsCode_1.ev (k : Nat) (x : Prod' slices_ContainsFunc_impl_Step_stepsCode_1.sig.ins) : slices_ContainsFunc_impl_Step_stepsCode_1.sig.ev (slices_ContainsFunc_impl_Step_stepsCode_1.C k) .auto Tryz.f90.results.toList (cB Tryz.f90) x = slices_ContainsFunc_impl_Step_stepsCode_1 k x.1 x.2 := by kernel_rfl
theorem slices_ContainsFunc_impl_Step_stepsCode_1.ok (k : Nat) : ConOk Tryz.prog 90 (slices_ContainsFunc_impl_Step_stepsCode_1.con k) := sig_ok (p := .auto) (slices_ContainsFunc_impl_Step_stepsCode_1.cok k) Tryz.func90 (by kernel_rfl) (show Tryz.f90.body = some (cB Tryz.f90) by kernel_rfl) (by kernel_rfl) (by kernel_rfl) (plan_of (L := []) (by kernel_rfl) trivial) (fun x y h => (slices_ContainsFunc_impl_Step_stepsCode_1.ev k x).trans h)
def impl_touches_1 (a1 : G29) (a2 : Int) : Option (Bool) :=
  some ((a1.1 != 5) && (a1.2.1 == a2))
def impl_touches_1.sig : Sig := { ps := [.val true T29 (ros T29), .rptr (.int .i64)], rs := [.val false [.v .bool]], ntmps := 13 }
def impl_touches_1.con (k : Nat) : Con := impl_touches_1.sig.con (fun x => impl_touches_1 x.1 x.2)
def impl_touches_1.C (k : Nat) : Ctx := { ti := TAB, con := conL [] }
theorem impl_touches_1.cok (k : Nat) : CtxOk Tryz.prog (impl_touches_1.C k) := ctx_ok TABok trivial
theorem impl_touches_1.ev (k : Nat) (x : Prod' impl_touches_1.sig.ins) : impl_touches_1.sig.ev (impl_touches_1.C k) .auto Tryz.f111.results.toList (cB Tryz.f111) x = impl_touches_1 x.1 x.2 := by kernel_rfl
theorem impl_touches_1.ok (k : Nat) : ConOk Tryz.prog 111 (impl_touches_1.con k) := sig_ok (p := .auto) (impl_touches_1.cok k) Tryz.func111 (by kernel_rfl) (show Tryz.f111.body = some (cB Tryz.f111) by kernel_rfl) (by kernel_rfl) (by kernel_rfl) (plan_of (L := []) (by kernel_rfl) trivial) (fun x y h => (impl_touches_1.ev k x).trans h)
def slices_IndexFunc_impl_Step_touches_1.l0 : Nat → List G29 → Int → Int → Int → Option (Int ⊕ (Int × Int))
  | 0, _, _, _, _ => none
  | j + 1, a1, a2, a3, a4 =>
    bif decide (a3 < a2) then
      Option.bind (at? a1 a3) fun v5 =>
      Option.bind (impl_touches_1 v5 a4) fun v6 =>
      bif v6 then
        some (.inr (a3, a4))
      else
      slices_IndexFunc_impl_Step_touches_1.l0 j a1 a2 (IntKind.wrap .i64 (a3 + 1)) a4
    else
    some (.inl a4)
def slices_IndexFunc_impl_Step_touches_1 (k : Nat) (a1 : List G29) (a2 : Int) : Option (Int × Int) :=
  Option.bind (slices_IndexFunc_impl_Step_touches_1.l0 k a1 ((a1.length) : Int) 0 a2) fun
    | .inl y3 =>
      some ((-1), y3)
    | .inr y4 =>
      some (y4.1, y4.2)
def slices_IndexFunc_impl_Step_touches_1.sig : Sig := { ps := [.val false (.sl T29) (ros (.sl T29)), .fn 111 [(2, (.int .i64), (kept (.int .i64)))]], rs := [.val false [.v (.int .i64)]], ntmps := 19 }
def slices_IndexFunc_impl_Step_touches_1.con (k : Nat) : Con := slices_IndexFunc_impl_Step_touches_1.sig.con (fun x => slices_IndexFunc_impl_Step_touches_1 k x.1 x.2)
def slices_IndexFunc_impl_Step_touches_1.C (k : Nat) : Ctx := { ti := TAB, con := conL [(111, impl_touches_1.con k)] }
theorem slices_IndexFunc_impl_Step_touches_1.cok (k : Nat) : CtxOk Tryz.prog (slices_IndexFunc_impl_Step_touches_1.C k) := ctx_ok TABok ⟨impl_touches_1.ok k, trivial⟩
def slices_IndexFunc_impl_Step_touches_1.l0.ish : Shape := { tmps := [(0, .one (.bor T29)), (1, .fn 111 [.ptr 0 0]), (7, .one (.v (.int .i64))), (8, .one (.v (.int .i64)))], slots := [(0, .box 2 [.v (.int .i64)])], nb := 1 }
def slices_IndexFunc_impl_Step_touches_1.l0.outs : List (Ex × Shape) := [(.exit 0, { tmps := [], slots := [(0, .box 2 [.v (.int .i64)])], nb := 1 }), (.ret, { tmps := [(4, .one (.v (.int .i64)))], slots := [(0, .box 2 [.v (.int .i64)])], nb := 1 })]
def slices_IndexFunc_impl_Step_touches_1.l0.F (k j : Nat) (x : Prod' slices_IndexFunc_impl_Step_touches_1.l0.ish.tys) : Option (Outs slices_IndexFunc_impl_Step_touches_1.l0.outs) := slices_IndexFunc_impl_Step_touches_1.l0 j x.1 x.2.1 x.2.2.1 x.2.2.2
def slices_IndexFunc_impl_Step_touches_1.l0.s (k : Nat) : Summ := { n := 19, ish := slices_IndexFunc_impl_Step_touches_1.l0.ish, outs := slices_IndexFunc_impl_Step_touches_1.l0.outs, f := slices_IndexFunc_impl_Step_touches_1.l0.F k k }
theorem slices_IndexFunc_impl_Step_touches_1.l0.ev (k j : Nat) (x : Prod' slices_IndexFunc_impl_Step_touches_1.l0.ish.tys) : V (slices_IndexFunc_impl_Step_touches_1.C k) .auto (cO (cO (cR (cL (cR (cB Tryz.f109)))))) (mk slices_IndexFunc_impl_Step_touches_1.l0.ish 19 x) (fun e st' => match e with | .nrm => (rd slices_IndexFunc_impl_Step_touches_1.l0.ish st').bind (slices_IndexFunc_impl_Step_touches_1.l0.F k j) | e => rdOut e st' slices_IndexFunc_impl_Step_touches_1.l0.outs) = slices_IndexFunc_impl_Step_touches_1.l0.F k (j + 1) x := by kernel_rfl
theorem slices_IndexFunc_impl_Step_touches_1.l0.ok (k : Nat) : SumOk Tryz.prog (slices_IndexFunc_impl_Step_touches_1.C k) (.loop (cO (cO (cR (cL (cR (cB Tryz.f109))))))) (slices_IndexFunc_impl_Step_touches_1.l0.s k) := sum_ok (by kernel_rfl) (sum_loop (p := .auto) (F := slices_IndexFunc_impl_Step_touches_1.l0.F k) (slices_IndexFunc_impl_Step_touches_1.cok k) (by kernel_rfl) (plan_of (L := []) (by kernel_rfl) trivial) (fun _ => rfl) (fun j x y h => (slices_IndexFunc_impl_Step_touches_1.l0.ev k j x).trans h) k rfl)
theorem slices_IndexFunc_impl_Step_touches_1.ev (k : Nat) (x : Prod' slices_IndexFunc_impl_Step_touches_1.sig.ins) : slices_IndexFunc_impl_Step_touches_1.sig.ev (slices_IndexFunc_impl_Step_touches_1.C k) (.two .auto (.two (.two .auto (.one (.sum (slices_IndexFunc_impl_Step_touches_1.l0.s k)))) .auto)) Tryz.f109.results.toList (cB Tryz.f109) x = slices_IndexFunc_impl_Step_touches_1 k x.1 x.2 := by kernel_rfl
theorem slices_IndexFunc_impl_Step_touches_1.ok (k : Nat) : ConOk Tryz.prog 109 (slices_IndexFunc_impl_Step_touches_1.con k) := sig_ok (p := (.two .auto (.two (.two .auto (.one (.sum (slices_IndexFunc_impl_Step_touches_1.l0.s k)))) .auto))) (slices_IndexFunc_impl_Step_touches_1.cok k) Tryz.func109 (by kernel_rfl) (show Tryz.f109.body = some (cB Tryz.f109) by kernel_rfl) (by kernel_rfl) (by kernel_rfl) (plan_of (L := [(slices_IndexFunc_impl_Step_touches_1.l0.s k, cO (cR (cL (cR (cB Tryz.f109)))))]) (by kernel_rfl) ⟨slices_IndexFunc_impl_Step_touches_1.l0.ok k, trivial⟩) (fun x y h => (slices_IndexFunc_impl_Step_touches_1.ev k x).trans h)
def impl_touches (k : Nat) (a1 : List G29) (a2 : Int) : Option (Int) :=
  Option.bind (slices_IndexFunc_impl_Step_touches_1 k a1 a2) fun v3 =>
  some v3.1
def impl_touches.sig : Sig := { ps := [.val false (.sl T29) (ros (.sl T29)), .val false (.int .i64) (ros (.int .i64))], rs := [.val false [.v (.int .i64)]], ntmps := 8 }
def impl_touches.con (k : Nat) : Con := impl_touches.sig.con (fun x => impl_touches k x.1 x.2)
def impl_touches.C (k : Nat) : Ctx := { ti := TAB, con := conL [(109, slices_IndexFunc_impl_Step_touches_1.con k)] }
theorem impl_touches.cok (k : Nat) : CtxOk Tryz.prog (impl_touches.C k) := ctx_ok TABok ⟨slices_IndexFunc_impl_Step_touches_1.ok k, trivial⟩
theorem impl_touches.ev (k : Nat) (x : Prod' impl_touches.sig.ins) : impl_touches.sig.ev (impl_touches.C k) .auto Tryz.f93.results.toList (cB Tryz.f93) x = impl_touches k x.1 x.2 := by kernel_rfl
theorem impl_touches.ok (k : Nat) : ConOk Tryz.prog 93 (impl_touches.con k) := sig_ok (p := .auto) (impl_touches.cok k) Tryz.func93 (by kernel_rfl) (show Tryz.f93.body = some (cB Tryz.f93) by kernel_rfl) (by kernel_rfl) (by kernel_rfl) (plan_of (L := []) (by kernel_rfl) trivial) (fun x y h => (impl_touches.ev k x).trans h)
def impl_stepsCode.l0 (k : Nat) : Nat → List G29 → Int → Bool → List G29 → Int → Int → Option (Bool ⊕ Int)
  | 0, _, _, _, _, _, _ => none
  | j + 1, a1, a2, a3, a4, a5, a6 =>
    bif decide (a6 < a5) then
      Option.bind (at? a4 a6) fun v7 =>
      let e8 := IntKind.wrap .i64 (a6 + 1)
      bif v7.1 != 5 then
        Option.bind (impl_touches k a1 v7.2.1) fun v9 =>
        bif decide (v9 < a6) then
          some (.inr 12)
        else
        impl_stepsCode.l0 k j a1 a2 a3 a4 a5 e8
      else
      impl_stepsCode.l0 k j a1 v7.2.2.1 (a3 && (decide (a2 < v7.2.2.1))) a4 a5 e8
    else
    some (.inl a3)
def impl_stepsCode (k : Nat) (a1 : List G29) (a2 : Int) : Option (Int) :=
  Option.bind (impl_isBlocks a2) fun v3 =>
  bif (!v3) || (decide (20 < ((a1.length) : Int))) then
    some 1
  else
  Option.bind (slices_ContainsFunc_impl_Step_stepsCode_1 k a1 a2) fun v4 =>
  bif v4.1 then
    some 1
  else
  Option.bind (impl_stepsCode.l0 k k a1 (-1) true a1 ((a1.length) : Int) 0) fun
    | .inl y5 =>
      bif !y5 then
        some 8
      else
      some 0
    | .inr y6 =>
      some y6
def impl_stepsCode.sig : Sig := { ps := [.val false (.sl T29) (ros (.sl T29)), .val false (.int .i64) (ros (.int .i64))], rs := [.val false [.v (.int .i64)]], ntmps := 50 }
def impl_stepsCode.con (k : Nat) : Con := impl_stepsCode.sig.con (fun x => impl_stepsCode k x.1 x.2)
def impl_stepsCode.C (k : Nat) : Ctx := { ti := TAB, con := conL [(66, impl_isBlocks.con k), (90, slices_ContainsFunc_impl_Step_stepsCode_1.con k), (93, impl_touches.con k)] }
theorem impl_stepsCode.cok (k : Nat) : CtxOk Tryz.prog (impl_stepsCode.C k) := ctx_ok TABok ⟨impl_isBlocks.ok k, slices_ContainsFunc_impl_Step_stepsCode_1.ok k, impl_touches.ok k, trivial⟩
def impl_stepsCode.l0.ish : Shape := { tmps := [(0, .one (.bor T29)), (5, .one (.v (.int .i64))), (6, .one (.v .bool)), (22, .one (.bor T29)), (23, .one (.v (.int .i64))), (24, .one (.v (.int .i64)))], slots := [], nb := 1 }
def impl_stepsCode.l0.outs : List (Ex × Shape) := [(.exit 0, { tmps := [(6, .one (.v .bool))], slots := [], nb := 1 }), (.ret, { tmps := [(4, .one (.v (.int .i64)))], slots := [], nb := 1 })]
def impl_stepsCode.l0.F (k j : Nat) (x : Prod' impl_stepsCode.l0.ish.tys) : Option (Outs impl_stepsCode.l0.outs) := impl_stepsCode.l0 k j x.1 x.2.1 x.2.2.1 x.2.2.2.1 x.2.2.2.2.1 x.2.2.2.2.2
def impl_stepsCode.l0.s (k : Nat) : Summ := { n := 50, ish := impl_stepsCode.l0.ish, outs := impl_stepsCode.l0.outs, f := impl_stepsCode.l0.F k k }
theorem impl_stepsCode.l0.ev (k j : Nat) (x : Prod' impl_stepsCode.l0.ish.tys) : V (impl_stepsCode.C k) .auto (cO (cO (cR (cL (cR (cR (cR (cR (cB Tryz.f53))))))))) (mk impl_stepsCode.l0.ish 50 x) (fun e st' => match e with | .nrm => (rd impl_stepsCode.l0.ish st').bind (impl_stepsCode.l0.F k j) | e => rdOut e st' impl_stepsCode.l0.outs) = impl_stepsCode.l0.F k (j + 1) x := by kernel_rfl
theorem impl_stepsCode.l0.ok (k : Nat) : SumOk Tryz.prog (impl_stepsCode.C k) (.loop (cO (cO (cR (cL (cR (cR (cR (cR (cB Tryz.f53)))))))))) (impl_stepsCode.l0.s k) := sum_ok (by kernel_rfl) (sum_loop (p := .auto) (F := impl_stepsCode.l0.F k) (impl_stepsCode.cok k) (by kernel_rfl) (plan_of (L := []) (by kernel_rfl) trivial) (fun _ => rfl) (fun j x y h => (impl_stepsCode.l0.ev k j x).trans h) k rfl)
theorem impl_stepsCode.ev (k : Nat) (x : Prod' impl_stepsCode.sig.ins) : impl_stepsCode.sig.ev (impl_stepsCode.C k) (.two .auto (.two .auto (.two .auto (.two .auto (.two (.two .auto (.one (.sum (impl_stepsCode.l0.s k)))) .auto))))) Tryz.f53.results.toList (cB Tryz.f53) x = impl_stepsCode k x.1 x.2 := by kernel_rfl
theorem impl_stepsCode.ok (k : Nat) : ConOk Tryz.prog 53 (impl_stepsCode.con k) := sig_ok (p := (.two .auto (.two .auto (.two .auto (.two .auto (.two (.two .auto (.one (.sum (impl_stepsCode.l0.s k)))) .auto)))))) (impl_stepsCode.cok k) Tryz.func53 (by kernel_rfl) (show Tryz.f53.body = some (cB Tryz.f53) by kernel_rfl) (by kernel_rfl) (by kernel_rfl) (plan_of (L := [(impl_stepsCode.l0.s k, cO (cR (cL (cR (cR (cR (cR (cB Tryz.f53))))))))]) (by kernel_rfl) ⟨impl_stepsCode.l0.ok k, trivial⟩) (fun x y h => (impl_stepsCode.ev k x).trans h)
def impl_isPackage (k : Nat) (a1 : G25) : Option (Bool) :=
  Option.bind (impl_stepsCode k a1.2.2 a1.1) fun v2 =>
  some ((v2 == 0) && (((a1.2.1.length) : Int) == 32))
def impl_isPackage.sig : Sig := { ps := [.val true T25 (ros T25)], rs := [.val false [.v .bool]], ntmps := 15 }
def impl_isPackage.con (k : Nat) : Con := impl_isPackage.sig.con (fun x => impl_isPackage k x)
def impl_isPackage.C (k : Nat) : Ctx := { ti := TAB, con := conL [(53, impl_stepsCode.con k)], rob := true }
theorem impl_isPackage.cok (k : Nat) : CtxOk Tryz.prog (impl_isPackage.C k) := ctx_ok TABok ⟨impl_stepsCode.ok k, trivial⟩
theorem impl_isPackage.ev (k : Nat) (x : Prod' impl_isPackage.sig.ins) : impl_isPackage.sig.ev (impl_isPackage.C k) .auto Tryz.f23.results.toList (cB Tryz.f23) x = impl_isPackage k x := by kernel_rfl
theorem impl_isPackage.ok (k : Nat) : ConOk Tryz.prog 23 (impl_isPackage.con k) := sig_ok (p := .auto) (impl_isPackage.cok k) Tryz.func23 (by kernel_rfl) (show Tryz.f23.body = some (cB Tryz.f23) by kernel_rfl) (by kernel_rfl) (by kernel_rfl) (plan_of (L := []) (by kernel_rfl) trivial) (fun x y h => (impl_isPackage.ev k x).trans h)
def impl_slotsOf.l0 : Nat → Int → List G86 → Int → Int → Option (Int)
  | 0, _, _, _, _ => none
  | j + 1, a1, a2, a3, a4 =>
    bif decide (a4 < a3) then
      Option.bind (at? a2 a4) fun v5 =>
      let e6 := IntKind.wrap .i64 (a4 + 1)
      bif v5.1 == 1 then
        impl_slotsOf.l0 j (IntKind.wrap .i64 (a1 + 1)) a2 a3 e6
      else
      impl_slotsOf.l0 j a1 a2 a3 e6
    else
    some a1
def impl_slotsOf (k : Nat) (a1 : List G86) : Option (Int) :=
  Option.bind (impl_slotsOf.l0 k 0 a1 ((a1.length) : Int) 0) fun y2 =>
  some y2
def impl_slotsOf.sig : Sig := { ps := [.val false (.sl T86) (ros (.sl T86))], rs := [.val false [.v (.int .i64)]], ntmps := 19 }
def impl_slotsOf.con (k : Nat) : Con := impl_slotsOf.sig.con (fun x => impl_slotsOf k x)
def impl_slotsOf.C (k : Nat) : Ctx := { ti := TAB, con := conL [] }
theorem impl_slotsOf.cok (k : Nat) : CtxOk Tryz.prog (impl_slotsOf.C k) := ctx_ok TABok trivial
def impl_slotsOf.l0.ish : Shape := { tmps := [(3, .one (.v (.int .i64))), (6, .one (.bor T86)), (7, .one (.v (.int .i64))), (8, .one (.v (.int .i64)))], slots := [], nb := 0 }
def impl_slotsOf.l0.outs : List (Ex × Shape) := [(.exit 0, { tmps := [(3, .one (.v (.int .i64)))], slots := [], nb := 0 })]
def impl_slotsOf.l0.F (k j : Nat) (x : Prod' impl_slotsOf.l0.ish.tys) : Option (Outs impl_slotsOf.l0.outs) := impl_slotsOf.l0 j x.1 x.2.1 x.2.2.1 x.2.2.2
def impl_slotsOf.l0.s (k : Nat) : Summ := { n := 19, ish := impl_slotsOf.l0.ish, outs := impl_slotsOf.l0.outs, f := impl_slotsOf.l0.F k k }
theorem impl_slotsOf.l0.ev (k j : Nat) (x : Prod' impl_slotsOf.l0.ish.tys) : V (impl_slotsOf.C k) .auto (cO (cO (cR (cL (cR (cR (cB Tryz.f24))))))) (mk impl_slotsOf.l0.ish 19 x) (fun e st' => match e with | .nrm => (rd impl_slotsOf.l0.ish st').bind (impl_slotsOf.l0.F k j) | e => rdOut e st' impl_slotsOf.l0.outs) = impl_slotsOf.l0.F k (j + 1) x := by kernel_rfl
theorem impl_slotsOf.l0.ok (k : Nat) : SumOk Tryz.prog (impl_slotsOf.C k) (.loop (cO (cO (cR (cL (cR (cR (cB Tryz.f24)))))))) (impl_slotsOf.l0.s k) := sum_ok (by kernel_rfl) (sum_loop (p := .auto) (F := impl_slotsOf.l0.F k) (impl_slotsOf.cok k) (by kernel_rfl) (plan_of (L := []) (by kernel_rfl) trivial) (fun _ => rfl) (fun j x y h => (impl_slotsOf.l0.ev k j x).trans h) k rfl)
theorem impl_slotsOf.ev (k : Nat) (x : Prod' impl_slotsOf.sig.ins) : impl_slotsOf.sig.ev (impl_slotsOf.C k) (.two .auto (.two .auto (.two (.two .auto (.one (.sum (impl_slotsOf.l0.s k)))) .auto))) Tryz.f24.results.toList (cB Tryz.f24) x = impl_slotsOf k x := by kernel_rfl
theorem impl_slotsOf.ok (k : Nat) : ConOk Tryz.prog 24 (impl_slotsOf.con k) := sig_ok (p := (.two .auto (.two .auto (.two (.two .auto (.one (.sum (impl_slotsOf.l0.s k)))) .auto)))) (impl_slotsOf.cok k) Tryz.func24 (by kernel_rfl) (show Tryz.f24.body = some (cB Tryz.f24) by kernel_rfl) (by kernel_rfl) (by kernel_rfl) (plan_of (L := [(impl_slotsOf.l0.s k, cO (cR (cL (cR (cR (cB Tryz.f24))))))]) (by kernel_rfl) ⟨impl_slotsOf.l0.ok k, trivial⟩) (fun x y h => (impl_slotsOf.ev k x).trans h)
def impl_writes_1 (a1 : G29) : Option (Bool) :=
  some (a1.1 == 5)
def impl_writes_1.sig : Sig := { ps := [.val true T29 (ros T29)], rs := [.val false [.v .bool]], ntmps := 6 }
def impl_writes_1.con (k : Nat) : Con := impl_writes_1.sig.con (fun x => impl_writes_1 x)
def impl_writes_1.C (k : Nat) : Ctx := { ti := TAB, con := conL [] }
theorem impl_writes_1.cok (k : Nat) : CtxOk Tryz.prog (impl_writes_1.C k) := ctx_ok TABok trivial
theorem impl_writes_1.ev (k : Nat) (x : Prod' impl_writes_1.sig.ins) : impl_writes_1.sig.ev (impl_writes_1.C k) .auto Tryz.f96.results.toList (cB Tryz.f96) x = impl_writes_1 x := by kernel_rfl
theorem impl_writes_1.ok (k : Nat) : ConOk Tryz.prog 96 (impl_writes_1.con k) := sig_ok (p := .auto) (impl_writes_1.cok k) Tryz.func96 (by kernel_rfl) (show Tryz.f96.body = some (cB Tryz.f96) by kernel_rfl) (by kernel_rfl) (by kernel_rfl) (plan_of (L := []) (by kernel_rfl) trivial) (fun x y h => (impl_writes_1.ev k x).trans h)
def slices_IndexFunc_impl_Step_writes_1.l0 : Nat → List G29 → Int → Int → Option (Unit ⊕ Int)
  | 0, _, _, _ => none
  | j + 1, a1, a2, a3 =>
    bif decide (a3 < a2) then
      Option.bind (at? a1 a3) fun v4 =>
      Option.bind (impl_writes_1 v4) fun v5 =>
      bif v5 then
        some (.inr a3)
      else
      slices_IndexFunc_impl_Step_writes_1.l0 j a1 a2 (IntKind.wrap .i64 (a3 + 1))
    else
    some (.inl ())
def slices_IndexFunc_impl_Step_writes_1 (k : Nat) (a1 : List G29) : Option (Int) :=
  Option.bind (slices_IndexFunc_impl_Step_writes_1.l0 k a1 ((a1.length) : Int) 0) fun
    | .inl y2 =>
      some (-1)
    | .inr y3 =>
      some y3
def slices_IndexFunc_impl_Step_writes_1.sig : Sig := { ps := [.val false (.sl T29) (ros (.sl T29)), .fn 96 []], rs := [.val false [.v (.int .i64)]], ntmps := 19 }
def slices_IndexFunc_impl_Step_writes_1.con (k : Nat) : Con := slices_IndexFunc_impl_Step_writes_1.sig.con (fun x => slices_IndexFunc_impl_Step_writes_1 k x)
def slices_IndexFunc_impl_Step_writes_1.C (k : Nat) : Ctx := { ti := TAB, con := conL [(96, impl_writes_1.con k)] }
theorem slices_IndexFunc_impl_Step_writes_1.cok (k : Nat) : CtxOk Tryz.prog (slices_IndexFunc_impl_Step_writes_1.C k) := ctx_ok TABok ⟨impl_writes_1.ok k, trivial⟩
def slices_IndexFunc_impl_Step_writes_1.l0.ish : Shape := { tmps := [(0, .one (.bor T29)), (1, .fn 96 []), (7, .one (.v (.int .i64))), (8, .one (.v (.int .i64)))], slots := [], nb := 0 }
def slices_IndexFunc_impl_Step_writes_1.l0.outs : List (Ex × Shape) := [(.exit 0, { tmps := [], slots := [], nb := 0 }), (.ret, { tmps := [(4, .one (.v (.int .i64)))], slots := [], nb := 0 })]
def slices_IndexFunc_impl_Step_writes_1.l0.F (k j : Nat) (x : Prod' slices_IndexFunc_impl_Step_writes_1.l0.ish.tys) : Option (Outs slices_IndexFunc_impl_Step_writes_1.l0.outs) := slices_IndexFunc_impl_Step_writes_1.l0 j x.1 x.2.1 x.2.2
def slices_IndexFunc_impl_Step_writes_1.l0.s (k : Nat) : Summ := { n := 19, ish := slices_IndexFunc_impl_Step_writes_1.l0.ish, outs := slices_IndexFunc_impl_Step_writes_1.l0.outs, f := slices_IndexFunc_impl_Step_writes_1.l0.F k k }
theorem slices_IndexFunc_impl_Step_writes_1.l0.ev (k j : Nat) (x : Prod' slices_IndexFunc_impl_Step_writes_1.l0.ish.tys) : V (slices_IndexFunc_impl_Step_writes_1.C k) .auto (cO (cO (cR (cL (cR (cB Tryz.f109)))))) (mk slices_IndexFunc_impl_Step_writes_1.l0.ish 19 x) (fun e st' => match e with | .nrm => (rd slices_IndexFunc_impl_Step_writes_1.l0.ish st').bind (slices_IndexFunc_impl_Step_writes_1.l0.F k j) | e => rdOut e st' slices_IndexFunc_impl_Step_writes_1.l0.outs) = slices_IndexFunc_impl_Step_writes_1.l0.F k (j + 1) x := by kernel_rfl
theorem slices_IndexFunc_impl_Step_writes_1.l0.ok (k : Nat) : SumOk Tryz.prog (slices_IndexFunc_impl_Step_writes_1.C k) (.loop (cO (cO (cR (cL (cR (cB Tryz.f109))))))) (slices_IndexFunc_impl_Step_writes_1.l0.s k) := sum_ok (by kernel_rfl) (sum_loop (p := .auto) (F := slices_IndexFunc_impl_Step_writes_1.l0.F k) (slices_IndexFunc_impl_Step_writes_1.cok k) (by kernel_rfl) (plan_of (L := []) (by kernel_rfl) trivial) (fun _ => rfl) (fun j x y h => (slices_IndexFunc_impl_Step_writes_1.l0.ev k j x).trans h) k rfl)
theorem slices_IndexFunc_impl_Step_writes_1.ev (k : Nat) (x : Prod' slices_IndexFunc_impl_Step_writes_1.sig.ins) : slices_IndexFunc_impl_Step_writes_1.sig.ev (slices_IndexFunc_impl_Step_writes_1.C k) (.two .auto (.two (.two .auto (.one (.sum (slices_IndexFunc_impl_Step_writes_1.l0.s k)))) .auto)) Tryz.f109.results.toList (cB Tryz.f109) x = slices_IndexFunc_impl_Step_writes_1 k x := by kernel_rfl
theorem slices_IndexFunc_impl_Step_writes_1.ok (k : Nat) : ConOk Tryz.prog 109 (slices_IndexFunc_impl_Step_writes_1.con k) := sig_ok (p := (.two .auto (.two (.two .auto (.one (.sum (slices_IndexFunc_impl_Step_writes_1.l0.s k)))) .auto))) (slices_IndexFunc_impl_Step_writes_1.cok k) Tryz.func109 (by kernel_rfl) (show Tryz.f109.body = some (cB Tryz.f109) by kernel_rfl) (by kernel_rfl) (by kernel_rfl) (plan_of (L := [(slices_IndexFunc_impl_Step_writes_1.l0.s k, cO (cR (cL (cR (cB Tryz.f109)))))]) (by kernel_rfl) ⟨slices_IndexFunc_impl_Step_writes_1.l0.ok k, trivial⟩) (fun x y h => (slices_IndexFunc_impl_Step_writes_1.ev k x).trans h)
def slices_DeleteFunc_impl_Step_writes_1.l0 : Nat → Int → Int → List G29 → Option ((Int × List G29))
  | 0, _, _, _ => none
  | j + 1, a1, a2, a3 =>
    bif decide (a2 < ((a3.length) : Int)) then
      Option.bind (at? a3 a2) fun v4 =>
      Option.bind (at? a3 a2) fun v5 =>
      Option.bind (impl_writes_1 v5) fun v6 =>
      let e7 := IntKind.wrap .i64 (a2 + 1)
      bif !v6 then
        Option.bind (at? a3 a1) fun v8 =>
        Option.bind (at? a3 a1) fun v9 =>
        slices_DeleteFunc_impl_Step_writes_1.l0 j (IntKind.wrap .i64 (a1 + 1)) e7 (List.set a3 (Int.toNat a1) v5)
      else
      slices_DeleteFunc_impl_Step_writes_1.l0 j a1 e7 a3
    else
    some (a1, a3)
def slices_DeleteFunc_impl_Step_writes_1 (k : Nat) (a1 : List G29) : Option (List G29) :=
  Option.bind (slices_IndexFunc_impl_Step_writes_1 k a1) fun v2 =>
  bif v2 == (-1) then
    some a1
  else
  Option.bind (slices_DeleteFunc_impl_Step_writes_1.l0 k v2 (IntKind.wrap .i64 (v2 + 1)) a1) fun y3 =>
  Option.bind (tail? y3.1 (y3.2.length)) fun v4 =>
  Option.bind (cut? (List.take (Int.toNat y3.1) y3.2 ++ List.replicate (List.length y3.2 - Int.toNat y3.1) (0, (0, (0, [])))) 0 y3.1) fun v5 =>
  some v5
def slices_DeleteFunc_impl_Step_writes_1.sig : Sig := { ps := [.mv 49 T29, .fn 96 []], rs := [.val false [.v (.sl T29)]], ntmps := 42 }
def slices_DeleteFunc_impl_Step_writes_1.con (k : Nat) : Con := slices_DeleteFunc_impl_Step_writes_1.sig.con (fun x => slices_DeleteFunc_impl_Step_writes_1 k x)
def slices_DeleteFunc_impl_Step_writes_1.C (k : Nat) : Ctx := { ti := TAB, con := conL [(96, impl_writes_1.con k), (109, slices_IndexFunc_impl_Step_writes_1.con k)], tl := true }
theorem slices_DeleteFunc_impl_Step_writes_1.cok (k : Nat) : CtxOk Tryz.prog (slices_DeleteFunc_impl_Step_writes_1.C k) := ctx_ok TABok ⟨impl_writes_1.ok k, slices_IndexFunc_impl_Step_writes_1.ok k, trivial⟩
def slices_DeleteFunc_impl_Step_writes_1.l0.ish : Shape := { tmps := [(0, .one (.own 1)), (1, .fn 96 []), (5, .one (.v (.int .i64))), (6, .one (.v (.int .i64)))], slots := [(1, .arr false 49 T29)], nb := 2 }
def slices_DeleteFunc_impl_Step_writes_1.l0.outs : List (Ex × Shape) := [(.exit 0, { tmps := [(0, .one (.own 2)), (5, .one (.v (.int .i64)))], slots := [(2, .arr false 49 T29)], nb := 3 })]
def slices_DeleteFunc_impl_Step_writes_1.l0.F (k j : Nat) (x : Prod' slices_DeleteFunc_impl_Step_writes_1.l0.ish.tys) : Option (Outs slices_DeleteFunc_impl_Step_writes_1.l0.outs) := slices_DeleteFunc_impl_Step_writes_1.l0 j x.1 x.2.1 x.2.2
def slices_DeleteFunc_impl_Step_writes_1.l0.s (k : Nat) : Summ := { n := 42, ish := slices_DeleteFunc_impl_Step_writes_1.l0.ish, outs := slices_DeleteFunc_impl_Step_writes_1.l0.outs, f := slices_DeleteFunc_impl_Step_writes_1.l0.F k k }
theorem slices_DeleteFunc_impl_Step_writes_1.l0.ev (k j : Nat) (x : Prod' slices_DeleteFunc_impl_Step_writes_1.l0.ish.tys) : V (slices_DeleteFunc_impl_Step_writes_1.C k) .auto (cO (cO (cR (cL (cR (cR (cR (cB Tryz.f94)))))))) (mk slices_DeleteFunc_impl_Step_writes_1.l0.ish 42 x) (fun e st' => match e with | .nrm => (rd slices_DeleteFunc_impl_Step_writes_1.l0.ish st').bind (slices_DeleteFunc_impl_Step_writes_1.l0.F k j) | e => rdOut e st' slices_DeleteFunc_impl_Step_writes_1.l0.outs) = slices_DeleteFunc_impl_Step_writes_1.l0.F k (j + 1) x := by kernel_rfl
theorem slices_DeleteFunc_impl_Step_writes_1.l0.ok (k : Nat) : SumOk Tryz.prog (slices_DeleteFunc_impl_Step_writes_1.C k) (.loop (cO (cO (cR (cL (cR (cR (cR (cB Tryz.f94))))))))) (slices_DeleteFunc_impl_Step_writes_1.l0.s k) := sum_ok (by kernel_rfl) (sum_loop (p := .auto) (F := slices_DeleteFunc_impl_Step_writes_1.l0.F k) (slices_DeleteFunc_impl_Step_writes_1.cok k) (by kernel_rfl) (plan_of (L := []) (by kernel_rfl) trivial) (fun _ => rfl) (fun j x y h => (slices_DeleteFunc_impl_Step_writes_1.l0.ev k j x).trans h) k rfl)
theorem slices_DeleteFunc_impl_Step_writes_1.ev (k : Nat) (x : Prod' slices_DeleteFunc_impl_Step_writes_1.sig.ins) : slices_DeleteFunc_impl_Step_writes_1.sig.ev (slices_DeleteFunc_impl_Step_writes_1.C k) (.two .auto (.two .auto (.two .auto (.two (.two .auto (.one (.sum (slices_DeleteFunc_impl_Step_writes_1.l0.s k)))) .auto)))) Tryz.f94.results.toList (cB Tryz.f94) x = slices_DeleteFunc_impl_Step_writes_1 k x := by kernel_rfl
theorem slices_DeleteFunc_impl_Step_writes_1.ok (k : Nat) : ConOk Tryz.prog 94 (slices_DeleteFunc_impl_Step_writes_1.con k) := sig_ok (p := (.two .auto (.two .auto (.two .auto (.two (.two .auto (.one (.sum (slices_DeleteFunc_impl_Step_writes_1.l0.s k)))) .auto))))) (slices_DeleteFunc_impl_Step_writes_1.cok k) Tryz.func94 (by kernel_rfl) (show Tryz.f94.body = some (cB Tryz.f94) by kernel_rfl) (by kernel_rfl) (by kernel_rfl) (plan_of (L := [(slices_DeleteFunc_impl_Step_writes_1.l0.s k, cO (cR (cL (cR (cR (cR (cB Tryz.f94)))))))]) (by kernel_rfl) ⟨slices_DeleteFunc_impl_Step_writes_1.l0.ok k, trivial⟩) (fun x y h => (slices_DeleteFunc_impl_Step_writes_1.ev k x).trans h)
/-- A copy of a row. -/
def slices_Clone_impl_Step (a : List G29) : Option (List G29) := Option.bind (app? 40 [] a) fun y => some y
def slices_Clone_impl_Step.sig : Sig := { ps := [.val false (.sl T29) (ros (.sl T29))], rs := [.val false [.own 49 T29]], ntmps := 8 }
def slices_Clone_impl_Step.con (k : Nat) : Con := slices_Clone_impl_Step.sig.con (fun x => slices_Clone_impl_Step x)
theorem slices_Clone_impl_Step.ok (k : Nat) : ConOk Tryz.prog 95 (slices_Clone_impl_Step.con k) :=
  clone_wp (e := 49) (C := { ti := TAB, con := conL [] }) (s := slices_Clone_impl_Step.sig) (G := fun x => slices_Clone_impl_Step x) (ctx_ok TABok trivial) Tryz.func95 (by kernel_rfl) rfl (by kernel_rfl) (by kernel_rfl) (by kernel_rfl) rfl rfl rfl rfl rfl rfl (by kernel_rfl) (by kernel_rfl)
    (fun x => ⟨_, _, .inl rfl⟩) (fun x y h => Eq.trans (b := slices_Clone_impl_Step x) (by kernel_rfl) h) (fun x y h hl => by
      have e : x = ([] : List G29) := hl T29 x (.inl (by kernel_rfl))
      subst e
      exact Eq.trans (b := slices_Clone_impl_Step []) (by kernel_rfl) h)
def impl_writes (k : Nat) (a1 : List G29) : Option (List G29) :=
  Option.bind (slices_Clone_impl_Step a1) fun v2 =>
  Option.bind (slices_DeleteFunc_impl_Step_writes_1 k v2) fun v3 =>
  some v3
def impl_writes.sig : Sig := { ps := [.val false (.sl T29) (ros (.sl T29))], rs := [.val false [.v (.sl T29)]], ntmps := 6 }
def impl_writes.con (k : Nat) : Con := impl_writes.sig.con (fun x => impl_writes k x)
def impl_writes.C (k : Nat) : Ctx := { ti := TAB, con := conL [(94, slices_DeleteFunc_impl_Step_writes_1.con k), (95, slices_Clone_impl_Step.con k)] }
theorem impl_writes.cok (k : Nat) : CtxOk Tryz.prog (impl_writes.C k) := ctx_ok TABok ⟨slices_DeleteFunc_impl_Step_writes_1.ok k, slices_Clone_impl_Step.ok k, trivial⟩
theorem impl_writes.ev (k : Nat) (x : Prod' impl_writes.sig.ins) : impl_writes.sig.ev (impl_writes.C k) .auto Tryz.f54.results.toList (cB Tryz.f54) x = impl_writes k x := by kernel_rfl
theorem impl_writes.ok (k : Nat) : ConOk Tryz.prog 54 (impl_writes.con k) := sig_ok (p := .auto) (impl_writes.cok k) Tryz.func54 (by kernel_rfl) (show Tryz.f54.body = some (cB Tryz.f54) by kernel_rfl) (by kernel_rfl) (by kernel_rfl) (plan_of (L := []) (by kernel_rfl) trivial) (fun x y h => (impl_writes.ev k x).trans h)
def impl_reads (a1 : G29) (a2 : Int) : Option (Bool) :=
  some (((a1.1 == 3) || (a1.1 == 4)) && (a1.2.2.1 == a2))
def impl_reads.sig : Sig := { ps := [.val true T29 (ros T29), .val false (.int .i64) (ros (.int .i64))], rs := [.val false [.v .bool]], ntmps := 19 }
def impl_reads.con (k : Nat) : Con := impl_reads.sig.con (fun x => impl_reads x.1 x.2)
def impl_reads.C (k : Nat) : Ctx := { ti := TAB, con := conL [] }
theorem impl_reads.cok (k : Nat) : CtxOk Tryz.prog (impl_reads.C k) := ctx_ok TABok trivial
theorem impl_reads.ev (k : Nat) (x : Prod' impl_reads.sig.ins) : impl_reads.sig.ev (impl_reads.C k) .auto Tryz.f59.results.toList (cB Tryz.f59) x = impl_reads x.1 x.2 := by kernel_rfl
theorem impl_reads.ok (k : Nat) : ConOk Tryz.prog 59 (impl_reads.con k) := sig_ok (p := .auto) (impl_reads.cok k) Tryz.func59 (by kernel_rfl) (show Tryz.f59.body = some (cB Tryz.f59) by kernel_rfl) (by kernel_rfl) (by kernel_rfl) (plan_of (L := []) (by kernel_rfl) trivial) (fun x y h => (impl_reads.ev k x).trans h)
def impl_planOf_1_1 (a1 : Int) (a2 : Int) (a3 : List G29) (a4 : Int) : Option (Bool) :=
  bif a1 != a2 then
    Option.bind (at? a3 a1) fun v5 =>
    Option.bind (impl_reads v5 a4) fun v6 =>
    some v6
  else
  some false
def impl_planOf_1_1.sig : Sig := { ps := [.val false (.int .i64) (ros (.int .i64)), .rptr (.int .i64), .rptr (.sl T29), .rptr (.int .i64)], rs := [.val false [.v .bool]], ntmps := 17 }
def impl_planOf_1_1.con (k : Nat) : Con := impl_planOf_1_1.sig.con (fun x => impl_planOf_1_1 x.1 x.2.1 x.2.2.1 x.2.2.2)
def impl_planOf_1_1.C (k : Nat) : Ctx := { ti := TAB, con := conL [(59, impl_reads.con k)] }
theorem impl_planOf_1_1.cok (k : Nat) : CtxOk Tryz.prog (impl_planOf_1_1.C k) := ctx_ok TABok ⟨impl_reads.ok k, trivial⟩
theorem impl_planOf_1_1.ev (k : Nat) (x : Prod' impl_planOf_1_1.sig.ins) : impl_planOf_1_1.sig.ev (impl_planOf_1_1.C k) .auto Tryz.f58.results.toList (cB Tryz.f58) x = impl_planOf_1_1 x.1 x.2.1 x.2.2.1 x.2.2.2 := by kernel_rfl
theorem impl_planOf_1_1.ok (k : Nat) : ConOk Tryz.prog 58 (impl_planOf_1_1.con k) := sig_ok (p := .auto) (impl_planOf_1_1.cok k) Tryz.func58 (by kernel_rfl) (show Tryz.f58.body = some (cB Tryz.f58) by kernel_rfl) (by kernel_rfl) (by kernel_rfl) (plan_of (L := []) (by kernel_rfl) trivial) (fun x y h => (impl_planOf_1_1.ev k x).trans h)
def slices_IndexFunc_int_planOf_1_1.l0 : Nat → List Int → List G29 → Int → Int → Int → Int → Option ((Int × Int) ⊕ (Int × Int × Int))
  | 0, _, _, _, _, _, _ => none
  | j + 1, a1, a2, a3, a4, a5, a6 =>
    bif decide (a4 < a3) then
      Option.bind (at? a1 a4) fun v7 =>
      Option.bind (impl_planOf_1_1 v7 a5 a2 a6) fun v8 =>
      bif v8 then
        some (.inr (a4, a5, a6))
      else
      slices_IndexFunc_int_planOf_1_1.l0 j a1 a2 a3 (IntKind.wrap .i64 (a4 + 1)) a5 a6
    else
    some (.inl (a5, a6))
def slices_IndexFunc_int_planOf_1_1 (k : Nat) (a1 : List Int) (a2 : Int) (a3 : List G29) (a4 : Int) : Option (Int × Int × Int) :=
  Option.bind (slices_IndexFunc_int_planOf_1_1.l0 k a1 a3 ((a1.length) : Int) 0 a2 a4) fun
    | .inl y5 =>
      some ((-1), y5.1, y5.2)
    | .inr y6 =>
      some (y6.1, y6.2.1, y6.2.2)
def slices_IndexFunc_int_planOf_1_1.sig : Sig := { ps := [.val false (.sl (.int .i64)) (ros (.sl (.int .i64))), .fn 58 [(3, (.int .i64), (kept (.int .i64))), (4000000, (.sl T29), [.ro]), (2, (.int .i64), (kept (.int .i64)))]], rs := [.val false [.v (.int .i64)]], ntmps := 19 }
def slices_IndexFunc_int_planOf_1_1.con (k : Nat) : Con := slices_IndexFunc_int_planOf_1_1.sig.con (fun x => slices_IndexFunc_int_planOf_1_1 k x.1 x.2.1 x.2.2.1 x.2.2.2)
def slices_IndexFunc_int_planOf_1_1.C (k : Nat) : Ctx := { ti := TAB, con := conL [(58, impl_planOf_1_1.con k)] }
theorem slices_IndexFunc_int_planOf_1_1.cok (k : Nat) : CtxOk Tryz.prog (slices_IndexFunc_int_planOf_1_1.C k) := ctx_ok TABok ⟨impl_planOf_1_1.ok k, trivial⟩
def slices_IndexFunc_int_planOf_1_1.l0.ish : Shape := { tmps := [(0, .one (.bor (.int .i64))), (1, .fn 58 [.ptr 0 0, .rp (.sl T29), .ptr 1 0]), (7, .one (.v (.int .i64))), (8, .one (.v (.int .i64)))], slots := [(0, .box 3 [.v (.int .i64)]), (1, .box 2 [.v (.int .i64)])], nb := 2 }
def slices_IndexFunc_int_planOf_1_1.l0.outs : List (Ex × Shape) := [(.exit 0, { tmps := [], slots := [(0, .box 3 [.v (.int .i64)]), (1, .box 2 [.v (.int .i64)])], nb := 2 }), (.ret, { tmps := [(4, .one (.v (.int .i64)))], slots := [(0, .box 3 [.v (.int .i64)]), (1, .box 2 [.v (.int .i64)])], nb := 2 })]
def slices_IndexFunc_int_planOf_1_1.l0.F (k j : Nat) (x : Prod' slices_IndexFunc_int_planOf_1_1.l0.ish.tys) : Option (Outs slices_IndexFunc_int_planOf_1_1.l0.outs) := slices_IndexFunc_int_planOf_1_1.l0 j x.1 x.2.1 x.2.2.1 x.2.2.2.1 x.2.2.2.2.1 x.2.2.2.2.2
def slices_IndexFunc_int_planOf_1_1.l0.s (k : Nat) : Summ := { n := 19, ish := slices_IndexFunc_int_planOf_1_1.l0.ish, outs := slices_IndexFunc_int_planOf_1_1.l0.outs, f := slices_IndexFunc_int_planOf_1_1.l0.F k k }
theorem slices_IndexFunc_int_planOf_1_1.l0.ev (k j : Nat) (x : Prod' slices_IndexFunc_int_planOf_1_1.l0.ish.tys) : V (slices_IndexFunc_int_planOf_1_1.C k) .auto (cO (cO (cR (cL (cR (cB Tryz.f55)))))) (mk slices_IndexFunc_int_planOf_1_1.l0.ish 19 x) (fun e st' => match e with | .nrm => (rd slices_IndexFunc_int_planOf_1_1.l0.ish st').bind (slices_IndexFunc_int_planOf_1_1.l0.F k j) | e => rdOut e st' slices_IndexFunc_int_planOf_1_1.l0.outs) = slices_IndexFunc_int_planOf_1_1.l0.F k (j + 1) x := by kernel_rfl
theorem slices_IndexFunc_int_planOf_1_1.l0.ok (k : Nat) : SumOk Tryz.prog (slices_IndexFunc_int_planOf_1_1.C k) (.loop (cO (cO (cR (cL (cR (cB Tryz.f55))))))) (slices_IndexFunc_int_planOf_1_1.l0.s k) := sum_ok (by kernel_rfl) (sum_loop (p := .auto) (F := slices_IndexFunc_int_planOf_1_1.l0.F k) (slices_IndexFunc_int_planOf_1_1.cok k) (by kernel_rfl) (plan_of (L := []) (by kernel_rfl) trivial) (fun _ => rfl) (fun j x y h => (slices_IndexFunc_int_planOf_1_1.l0.ev k j x).trans h) k rfl)
theorem slices_IndexFunc_int_planOf_1_1.ev (k : Nat) (x : Prod' slices_IndexFunc_int_planOf_1_1.sig.ins) : slices_IndexFunc_int_planOf_1_1.sig.ev (slices_IndexFunc_int_planOf_1_1.C k) (.two .auto (.two (.two .auto (.one (.sum (slices_IndexFunc_int_planOf_1_1.l0.s k)))) .auto)) Tryz.f55.results.toList (cB Tryz.f55) x = slices_IndexFunc_int_planOf_1_1 k x.1 x.2.1 x.2.2.1 x.2.2.2 := by kernel_rfl
theorem slices_IndexFunc_int_planOf_1_1.ok (k : Nat) : ConOk Tryz.prog 55 (slices_IndexFunc_int_planOf_1_1.con k) := sig_ok (p := (.two .auto (.two (.two .auto (.one (.sum (slices_IndexFunc_int_planOf_1_1.l0.s k)))) .auto))) (slices_IndexFunc_int_planOf_1_1.cok k) Tryz.func55 (by kernel_rfl) (show Tryz.f55.body = some (cB Tryz.f55) by kernel_rfl) (by kernel_rfl) (by kernel_rfl) (plan_of (L := [(slices_IndexFunc_int_planOf_1_1.l0.s k, cO (cR (cL (cR (cB Tryz.f55)))))]) (by kernel_rfl) ⟨slices_IndexFunc_int_planOf_1_1.l0.ok k, trivial⟩) (fun x y h => (slices_IndexFunc_int_planOf_1_1.ev k x).trans h)
def slices_ContainsFunc_int_planOf_1_1 (k : Nat) (a1 : List Int) (a2 : Int) (a3 : List G29) (a4 : Int) : Option (Bool × Int × Int) :=
  Option.bind (slices_IndexFunc_int_planOf_1_1 k a1 a2 a3 a4) fun v5 =>
  some (decide (0 ≤ v5.1), v5.2.1, v5.2.2)
def slices_ContainsFunc_int_planOf_1_1.sig : Sig := { ps := [.val false (.sl (.int .i64)) (ros (.sl (.int .i64))), .fn 58 [(3, (.int .i64), (kept (.int .i64))), (4000000, (.sl T29), [.ro]), (2, (.int .i64), (kept (.int .i64)))]], rs := [.val false [.v .bool]], ntmps := 9 }
def slices_ContainsFunc_int_planOf_1_1.con (k : Nat) : Con := slices_ContainsFunc_int_planOf_1_1.sig.con (fun x => slices_ContainsFunc_int_planOf_1_1 k x.1 x.2.1 x.2.2.1 x.2.2.2)
def slices_ContainsFunc_int_planOf_1_1.C (k : Nat) : Ctx := { ti := TAB, con := conL [(55, slices_IndexFunc_int_planOf_1_1.con k)] }
theorem slices_ContainsFunc_int_planOf_1_1.cok (k : Nat) : CtxOk Tryz.prog (slices_ContainsFunc_int_planOf_1_1.C k) := ctx_ok TABok ⟨slices_IndexFunc_int_planOf_1_1.ok k, trivial⟩
theorem slices_ContainsFunc_int_planOf_1_1.ev (k : Nat) (x : Prod' slices_ContainsFunc_int_planOf_1_1.sig.ins) : slices_ContainsFunc_int_planOf_1_1.sig.ev (slices_ContainsFunc_int_planOf_1_1.C k) .auto Tryz.f57.results.toList (cB Tryz.f57) x = slices_ContainsFunc_int_planOf_1_1 k x.1 x.2.1 x.2.2.1 x.2.2.2 := by kernel_rfl
theorem slices_ContainsFunc_int_planOf_1_1.ok (k : Nat) : ConOk Tryz.prog 57 (slices_ContainsFunc_int_planOf_1_1.con k) := sig_ok (p := .auto) (slices_ContainsFunc_int_planOf_1_1.cok k) Tryz.func57 (by kernel_rfl) (show Tryz.f57.body = some (cB Tryz.f57) by kernel_rfl) (by kernel_rfl) (by kernel_rfl) (plan_of (L := []) (by kernel_rfl) trivial) (fun x y h => (slices_ContainsFunc_int_planOf_1_1.ev k x).trans h)
def impl_planOf_1 (k : Nat) (a1 : Int) (a2 : List G29) (a3 : List Int) (a4 : List Int) : Option (Bool × List Int) :=
  Option.bind (at? a2 a1) fun v5 =>
  bif hasK v5.2.1 a3 then
    some (true, a3)
  else
  Option.bind (slices_ContainsFunc_int_planOf_1_1 k a4 a1 a2 v5.2.1) fun v6 =>
  some (!v6.1, a3)
def impl_planOf_1.sig : Sig := { ps := [.val false (.int .i64) (ros (.int .i64)), .rptr (.sl T29), .ref 89 (.sl (.int .i64)) [.own 1000089], .rptr (.sl (.int .i64))], rs := [.val false [.v .bool]], ntmps := 21 }
def impl_planOf_1.con (k : Nat) : Con := impl_planOf_1.sig.con (fun x => impl_planOf_1 k x.1 x.2.1 x.2.2.1 x.2.2.2)
def impl_planOf_1.C (k : Nat) : Ctx := { ti := TAB, con := conL [(57, slices_ContainsFunc_int_planOf_1_1.con k)] }
theorem impl_planOf_1.cok (k : Nat) : CtxOk Tryz.prog (impl_planOf_1.C k) := ctx_ok TABok ⟨slices_ContainsFunc_int_planOf_1_1.ok k, trivial⟩
theorem impl_planOf_1.ev (k : Nat) (x : Prod' impl_planOf_1.sig.ins) : impl_planOf_1.sig.ev (impl_planOf_1.C k) .auto Tryz.f56.results.toList (cB Tryz.f56) x = impl_planOf_1 k x.1 x.2.1 x.2.2.1 x.2.2.2 := by kernel_rfl
theorem impl_planOf_1.ok (k : Nat) : ConOk Tryz.prog 56 (impl_planOf_1.con k) := sig_ok (p := .auto) (impl_planOf_1.cok k) Tryz.func56 (by kernel_rfl) (show Tryz.f56.body = some (cB Tryz.f56) by kernel_rfl) (by kernel_rfl) (by kernel_rfl) (plan_of (L := []) (by kernel_rfl) trivial) (fun x y h => (impl_planOf_1.ev k x).trans h)
def slices_IndexFunc_int_planOf_1.l0 (k : Nat) : Nat → List Int → List Int → Int → Int → List G29 → List Int → Option ((List G29 × List Int) ⊕ (Int × List G29 × List Int))
  | 0, _, _, _, _, _, _ => none
  | j + 1, a1, a2, a3, a4, a5, a6 =>
    bif decide (a4 < a3) then
      Option.bind (at? a1 a4) fun v7 =>
      Option.bind (impl_planOf_1 k v7 a5 a6 a2) fun v8 =>
      bif v8.1 then
        some (.inr (a4, a5, v8.2))
      else
      slices_IndexFunc_int_planOf_1.l0 k j a1 a2 a3 (IntKind.wrap .i64 (a4 + 1)) a5 v8.2
    else
    some (.inl (a5, a6))
def slices_IndexFunc_int_planOf_1 (k : Nat) (a1 : List Int) (a2 : List G29) (a3 : List Int) (a4 : List Int) : Option (Int × List G29 × List Int) :=
  Option.bind (slices_IndexFunc_int_planOf_1.l0 k k a1 a4 ((a1.length) : Int) 0 a2 a3) fun
    | .inl y5 =>
      some ((-1), y5.1, y5.2)
    | .inr y6 =>
      some (y6.1, y6.2.1, y6.2.2)
def slices_IndexFunc_int_planOf_1.sig : Sig := { ps := [.val false (.sl (.int .i64)) (ros (.sl (.int .i64))), .fn 56 [(23, (.sl T29), (kept (.sl T29))), (89, (.sl (.int .i64)), [.own 1000089]), (4000000, (.sl (.int .i64)), [.ro])]], rs := [.val false [.v (.int .i64)]], ntmps := 19 }
def slices_IndexFunc_int_planOf_1.con (k : Nat) : Con := slices_IndexFunc_int_planOf_1.sig.con (fun x => slices_IndexFunc_int_planOf_1 k x.1 x.2.1 x.2.2.1 x.2.2.2)
def slices_IndexFunc_int_planOf_1.C (k : Nat) : Ctx := { ti := TAB, con := conL [(56, impl_planOf_1.con k)] }
theorem slices_IndexFunc_int_planOf_1.cok (k : Nat) : CtxOk Tryz.prog (slices_IndexFunc_int_planOf_1.C k) := ctx_ok TABok ⟨impl_planOf_1.ok k, trivial⟩
def slices_IndexFunc_int_planOf_1.l0.ish : Shape := { tmps := [(0, .one (.bor (.int .i64))), (1, .fn 56 [.ptr 0 0, .ptr 1 0, .rp (.sl (.int .i64))]), (7, .one (.v (.int .i64))), (8, .one (.v (.int .i64)))], slots := [(0, .box 23 [.v (.sl T29)]), (1, .box 89 [.own 3]), (3, .arr false 1000089 (.int .i64))], nb := 4 }
def slices_IndexFunc_int_planOf_1.l0.outs : List (Ex × Shape) := [(.exit 0, { tmps := [], slots := [(0, .box 23 [.v (.sl T29)]), (1, .box 89 [.own 4]), (4, .arr false 1000089 (.int .i64))], nb := 5 }), (.ret, { tmps := [(4, .one (.v (.int .i64)))], slots := [(0, .box 23 [.v (.sl T29)]), (1, .box 89 [.own 4]), (4, .arr false 1000089 (.int .i64))], nb := 5 })]
def slices_IndexFunc_int_planOf_1.l0.F (k j : Nat) (x : Prod' slices_IndexFunc_int_planOf_1.l0.ish.tys) : Option (Outs slices_IndexFunc_int_planOf_1.l0.outs) := slices_IndexFunc_int_planOf_1.l0 k j x.1 x.2.1 x.2.2.1 x.2.2.2.1 x.2.2.2.2.1 x.2.2.2.2.2
def slices_IndexFunc_int_planOf_1.l0.s (k : Nat) : Summ := { n := 19, ish := slices_IndexFunc_int_planOf_1.l0.ish, outs := slices_IndexFunc_int_planOf_1.l0.outs, f := slices_IndexFunc_int_planOf_1.l0.F k k }
theorem slices_IndexFunc_int_planOf_1.l0.ev (k j : Nat) (x : Prod' slices_IndexFunc_int_planOf_1.l0.ish.tys) : V (slices_IndexFunc_int_planOf_1.C k) .auto (cO (cO (cR (cL (cR (cB Tryz.f55)))))) (mk slices_IndexFunc_int_planOf_1.l0.ish 19 x) (fun e st' => match e with | .nrm => (rd slices_IndexFunc_int_planOf_1.l0.ish st').bind (slices_IndexFunc_int_planOf_1.l0.F k j) | e => rdOut e st' slices_IndexFunc_int_planOf_1.l0.outs) = slices_IndexFunc_int_planOf_1.l0.F k (j + 1) x := by kernel_rfl
theorem slices_IndexFunc_int_planOf_1.l0.ok (k : Nat) : SumOk Tryz.prog (slices_IndexFunc_int_planOf_1.C k) (.loop (cO (cO (cR (cL (cR (cB Tryz.f55))))))) (slices_IndexFunc_int_planOf_1.l0.s k) := sum_ok (by kernel_rfl) (sum_loop (p := .auto) (F := slices_IndexFunc_int_planOf_1.l0.F k) (slices_IndexFunc_int_planOf_1.cok k) (by kernel_rfl) (plan_of (L := []) (by kernel_rfl) trivial) (fun _ => rfl) (fun j x y h => (slices_IndexFunc_int_planOf_1.l0.ev k j x).trans h) k rfl)
theorem slices_IndexFunc_int_planOf_1.ev (k : Nat) (x : Prod' slices_IndexFunc_int_planOf_1.sig.ins) : slices_IndexFunc_int_planOf_1.sig.ev (slices_IndexFunc_int_planOf_1.C k) (.two .auto (.two (.two .auto (.one (.sum (slices_IndexFunc_int_planOf_1.l0.s k)))) .auto)) Tryz.f55.results.toList (cB Tryz.f55) x = slices_IndexFunc_int_planOf_1 k x.1 x.2.1 x.2.2.1 x.2.2.2 := by kernel_rfl
theorem slices_IndexFunc_int_planOf_1.ok (k : Nat) : ConOk Tryz.prog 55 (slices_IndexFunc_int_planOf_1.con k) := sig_ok (p := (.two .auto (.two (.two .auto (.one (.sum (slices_IndexFunc_int_planOf_1.l0.s k)))) .auto))) (slices_IndexFunc_int_planOf_1.cok k) Tryz.func55 (by kernel_rfl) (show Tryz.f55.body = some (cB Tryz.f55) by kernel_rfl) (by kernel_rfl) (by kernel_rfl) (plan_of (L := [(slices_IndexFunc_int_planOf_1.l0.s k, cO (cR (cL (cR (cB Tryz.f55)))))]) (by kernel_rfl) ⟨slices_IndexFunc_int_planOf_1.l0.ok k, trivial⟩) (fun x y h => (slices_IndexFunc_int_planOf_1.ev k x).trans h)
/-- slices.Delete of a row of numbers that is given away. -/
def slices_Delete_int (l : List Int) (i j : Int) : Option (List Int) := if 0 ≤ i ∧ i ≤ j ∧ j ≤ (l.length : Int) then some (l.take i.toNat ++ l.drop j.toNat) else none
def slices_Delete_int.con (k : Nat) : Con := { ms := [.mv, .val [.ro], .val [.ro]], f := fun xs => match xs with
  | [.mv e (.int .i64) l, .val false [.leaf (.int .i64 i)], .val false [.leaf (.int .i64 j)]] => bif Nat.beq e 3 then .opt (List Int) (slices_Delete_int l i j) fun r => ⟨[.val false [.own e (.int .i64) r]], []⟩ else .fail
  | _ => .fail }
theorem slices_Delete_int.drew (w : World) (q : Nat) : (w.drewN q).heap = w.heap ∧ (w.drewN q).os = w.os ∧ (w.drewN q).tape = w.tape ∧ (w.drewN q).output = w.output := ⟨rfl, rfl, rfl, rfl⟩
theorem slices_Delete_int.ok (k : Nat) : ConOk Tryz.prog 60 (slices_Delete_int.con k) := by
  refine ⟨(enter_of Tryz.func60 (by kernel_rfl) (show Tryz.f60.body = some (cB Tryz.f60) by kernel_rfl)), ?_⟩
  intro xs rr hrr w vs F L M hF hnd hargs
  unfold slices_Delete_int.con at hrr
  dsimp only at hrr
  split at hrr
  · rename_i e l i j
    cases he : Nat.beq e 3 with
    | false => rw [he] at hrr; cases hrr
    | true =>
    rw [he] at hrr
    have hm : isMap e = false := by rw [Nat.eq_of_beq_eq_true he]; rfl
    replace hrr : (slices_Delete_int l i j).map (fun r => (⟨[.val false [.own e (.int .i64) r]], []⟩ : RR)) = some rr := hrr
    unfold slices_Delete_int at hrr
    split at hrr
    · rename_i hij
      obtain ⟨h0, h1, h2⟩ := hij
      cases hrr
      match vs, hargs with
      | [v1, v2, v3], ⟨_, _, _, _, hL, hM, ⟨rfl, rfl, hrow⟩, _, _, _, _, hL2, hM2, ⟨rfl, hv2, hn2⟩, _, _, _, _, hL3, hM3, ⟨rfl, hv3, hn3⟩, hn4, hn5⟩ =>
      have hv2 : v2 = .int .i64 i := hv2
      have hv3 : v3 = .int .i64 j := hv3
      subst hv2
      subst hv3
      subst hn2
      subst hn3
      subst hn4
      subst hn5
      subst hL3
      subst hM3
      subst hL2
      subst hM2
      subst hL
      subst hM
      obtain ⟨a, rfl⟩ : ∃ a : Nat, i = (a : Int) := ⟨i.toNat, by omega⟩
      obtain ⟨b, rfl⟩ : ∃ b : Nat, j = (b : Int) := ⟨j.toNat, by omega⟩
      rw [Int.toNat_natCast, Int.toNat_natCast]
      rcases hrow.slice hm with ⟨rfl, rfl⟩ | ⟨g, cap, cs, fr, rfl, hh, hun, hfz, hlc, hcs, hcells⟩
      · have hb0 : b = 0 := by
          have : (([] : List Int).length : Int) = 0 := rfl
          have h2 : (b : Int) ≤ (([] : List Int).length : Int) := h2
          omega
        have ha0 : a = 0 := by omega
        subst hb0
        subst ha0
        refine (Tryz.slices_Delete_int_empty none 0 w).mono ?_
        rintro e' w' ⟨rfl, rfl⟩
        refine ⟨_, rfl, ⟨rfl, rfl, rfl, Nat.le_refl _, fun _ _ _ => rfl⟩, [], [.row (.slice none 0 0)], ?_, List.nodup_nil, rfl, rfl, RowS.ok (.inl ⟨rfl, rfl⟩) hm, rfl⟩
        intro c hc q hq
        rw [List.mem_singleton.1 hc] at hq
        cases hq
      · have hsz : (Ty.int IntKind.i64).sz = 1 := rfl
        rw [hsz, Nat.mul_one] at hcs
        have hab : a ≤ b := by omega
        have hbl : b ≤ l.length := by omega
        obtain ⟨rfl, hcapm⟩ := hfz rfl
        have hcell : ∀ q, q < l.length → w.cell? ⟨g, 0 + q, none⟩ = some (.int .i64 (l.getD q 0)) := by
          intro q hq
          have h3 := hcells q l[q] (List.getElem?_eq_getElem hq)
          have h3 : (cs.toList.drop (q * 1)).take 1 = [.int .i64 l[q]] := h3
          rw [Nat.mul_one] at h3
          have h4 : cs.toList[q]? = some (.int .i64 l[q]) := by
            have := congrArg (fun z => z[0]?) h3
            simpa using this
          rw [cell_of_row w g (0 + q) cs e (0, 0) hh, Nat.zero_add, ← Array.getElem?_toList, h4, List.getD_eq_getElem?_getD, List.getElem?_eq_getElem hq]
          rfl
        refine (Tryz.slices_Delete_int_cells g 0 l.length cap a b l w (Nat.le_refl _) hlc (by unfold maxLen at hcapm; omega) hab hbl hcell (fun q hq => by
          simp only [World.frozen?, hh]
          simp)).mono ?_
        rintro e' w' ⟨rfl, q, rfl⟩
        rw [List.take_of_length_le (Nat.le_refl l.length)]
        obtain ⟨d1, d2, d3, d4⟩ := slices_Delete_int.drew w q
        generalize hvs : ((l.take a ++ l.drop b ++ List.replicate (b - a) (0 : Int)).map (Value.int .i64)) = us
        have hul : us.length = l.length := by rw [← hvs]; simp; omega
        obtain ⟨r1, r2, r3, r4⟩ := setCells_rest g us 0 (w.drewN q)
        have hh' : (w.drewN q).heap[g]? = some (.cells cs e (0, 0)) := by rw [d1]; exact hh
        have hblk := setCells_blk g us 0 cs (w.drewN q) hh' (by omega)
        have hgl : g < w.heap.size := (Array.getElem?_eq_some_iff.1 hh).1
        have hres : (l.take a ++ l.drop b).length = l.length - (b - a) := by simp; omega
        refine ⟨_, rfl, ⟨r1.trans d2, r2.trans d3, r3.trans d4, by rw [r4, d1]; exact Nat.le_refl _, fun x hx hn => ?_⟩, [], [.row (.slice (some ⟨g, 0, none⟩) (l.length - (b - a)) cap)], ?_, ?_, rfl, rfl, RowS.ok (.inr ⟨g, cap, _, (0, 0), by rw [hres], hblk, .inl rfl, fun _ => ⟨rfl, hcapm⟩, by rw [hres]; omega, ?_, ?_⟩) hm, rfl⟩
        · rw [setCells_far g us 0 (w.drewN q) x (fun ex => hn (by subst ex; exact List.mem_singleton.2 rfl)), d1]
        · intro c hc x hx
          rw [List.mem_singleton.1 hc] at hx
          cases hx
          exact ⟨.inl (List.mem_singleton.2 rfl), by rw [r4, d1]; exact hgl⟩
        · exact List.nodup_cons.2 ⟨(fun h => nomatch h), List.nodup_nil⟩
        · rw [List.size_toArray, overL_length _ _ _ (by simp; omega), Array.length_toList, hcs, hsz, Nat.mul_one]
        · intro x y hx
          show ((overL cs.toList 0 us).toArray.toList.drop (x * 1)).take 1 = [.int .i64 y]
          have hxl := (List.getElem?_eq_some_iff.1 hx).1
          have hus : us[x]? = some (.int .i64 y) := by
            rw [← hvs, List.getElem?_map, List.getElem?_append_left hxl, hx]
            rfl
          rw [Nat.mul_one, List.toList_toArray]
          apply List.ext_getElem?
          intro m
          rw [List.getElem?_take, List.getElem?_drop, get_overL _ _ _ (by simp; omega)]
          cases m with
          | zero =>
            rw [if_pos (by omega), if_neg (by omega), if_pos (by omega), Nat.add_zero, Nat.sub_zero, hus]
            rfl
          | succ m => rw [if_neg (by omega)]; rfl
    · cases hrr
  · cases hrr
def impl_planOf.l0 : Nat → Int → Int → List Int → Option ((List Int))
  | 0, _, _, _ => none
  | j + 1, a1, a2, a3 =>
    bif decide (a2 < a1) then
      Option.bind (at? a3 a2) fun v4 =>
      Option.bind (at? a3 a2) fun v5 =>
      impl_planOf.l0 j a1 (IntKind.wrap .i64 (a2 + 1)) (List.set a3 (Int.toNat a2) a2)
    else
    some a3
def impl_planOf.l1 (k : Nat) : Nat → List G29 → List G86 → List Int → List Int → Option ((List G29 × List G86 × List Int × List Int))
  | 0, _, _, _, _ => none
  | j + 1, a1, a2, a3, a4 =>
    bif decide (0 < ((a3.length) : Int)) then
      Option.bind (slices_IndexFunc_int_planOf_1 k a3 a1 a4 a3) fun v5 =>
      bif decide (v5.1 < 0) then
        Option.bind (at? a3 0) fun v6 =>
        Option.bind (at? a3 0) fun v7 =>
        let e8 := at? v5.2.1 v7
        Option.bind (e8) fun v9 =>
        Option.bind (app? 32 a2 [(1, (v7, (v9.2.1, ((v5.2.2.length) : Int))))]) fun v10 =>
        Option.bind (e8) fun v11 =>
        impl_planOf.l1 k j v5.2.1 v10 a3 (addK v11.2.1 v5.2.2)
      else
      let e12 := at? a3 v5.1
      Option.bind (e12) fun v13 =>
      Option.bind (e12) fun v14 =>
      Option.bind (at? v5.2.1 v14) fun v15 =>
      Option.bind (app? 32 a2 [(2, (v14, (v15.2.1, 0)))]) fun v16 =>
      Option.bind (slices_Delete_int a3 v5.1 (IntKind.wrap .i64 (v5.1 + 1))) fun v17 =>
      impl_planOf.l1 k j v5.2.1 v16 v17 v5.2.2
    else
    some (a1, a2, a3, a4)
def impl_planOf (k : Nat) (a1 : List G29) : Option (List G86) :=
  Option.bind (impl_writes k a1) fun v2 =>
  Option.bind (make? 8 ((v2.length) : Int) ((v2.length) : Int) 0) fun v3 =>
  Option.bind (impl_planOf.l0 k ((v3.length) : Int) 0 v3) fun y4 =>
  Option.bind (impl_planOf.l1 k k v2 [] y4 []) fun y5 =>
  some y5.2.1
def impl_planOf.sig : Sig := { ps := [.val false (.sl T29) (ros (.sl T29))], rs := [.val false [.own 86 T86]], ntmps := 76 }
def impl_planOf.con (k : Nat) : Con := impl_planOf.sig.con (fun x => impl_planOf k x)
def impl_planOf.C (k : Nat) : Ctx := { ti := TAB, con := conL [(54, impl_writes.con k), (55, slices_IndexFunc_int_planOf_1.con k), (60, slices_Delete_int.con k)] }
theorem impl_planOf.cok (k : Nat) : CtxOk Tryz.prog (impl_planOf.C k) := ctx_ok TABok ⟨impl_writes.ok k, slices_IndexFunc_int_planOf_1.ok k, slices_Delete_int.ok k, trivial⟩
def impl_planOf.l0.ish : Shape := { tmps := [(4, .one (.ptr 2 0)), (17, .one (.v (.int .i64))), (18, .one (.v (.int .i64)))], slots := [(2, .box 88 [.own 3]), (3, .arr false 3 (.int .i64))], nb := 4 }
def impl_planOf.l0.outs : List (Ex × Shape) := [(.exit 0, { tmps := [], slots := [(2, .box 88 [.own 4]), (4, .arr false 3 (.int .i64))], nb := 5 })]
def impl_planOf.l0.F (k j : Nat) (x : Prod' impl_planOf.l0.ish.tys) : Option (Outs impl_planOf.l0.outs) := impl_planOf.l0 j x.1 x.2.1 x.2.2
def impl_planOf.l0.s (k : Nat) : Summ := { n := 76, ish := impl_planOf.l0.ish, outs := impl_planOf.l0.outs, f := impl_planOf.l0.F k k }
theorem impl_planOf.l0.ev (k j : Nat) (x : Prod' impl_planOf.l0.ish.tys) : V (impl_planOf.C k) .auto (cO (cO (cR (cL (cR (cR (cR (cB Tryz.f25)))))))) (mk impl_planOf.l0.ish 76 x) (fun e st' => match e with | .nrm => (rd impl_planOf.l0.ish st').bind (impl_planOf.l0.F k j) | e => rdOut e st' impl_planOf.l0.outs) = impl_planOf.l0.F k (j + 1) x := by kernel_rfl
theorem impl_planOf.l0.ok (k : Nat) : SumOk Tryz.prog (impl_planOf.C k) (.loop (cO (cO (cR (cL (cR (cR (cR (cB Tryz.f25))))))))) (impl_planOf.l0.s k) := sum_ok (by kernel_rfl) (sum_loop (p := .auto) (F := impl_planOf.l0.F k) (impl_planOf.cok k) (by kernel_rfl) (plan_of (L := []) (by kernel_rfl) trivial) (fun _ => rfl) (fun j x y h => (impl_planOf.l0.ev k j x).trans h) k rfl)
def impl_planOf.l1.ish : Shape := { tmps := [(3, .one (.ptr 0 0)), (4, .one (.ptr 2 0)), (6, .one (.ptr 6 0)), (7, .one (.own 7))], slots := [(0, .box 23 [.v (.sl T29)]), (2, .box 88 [.own 8]), (6, .box 89 [.own 9]), (7, .arr false 86 T86), (8, .arr false 3 (.int .i64)), (9, .arr false 1000089 (.int .i64))], nb := 10 }
def impl_planOf.l1.outs : List (Ex × Shape) := [(.exit 2, { tmps := [(7, .one (.own 10))], slots := [(0, .box 23 [.v (.sl T29)]), (2, .box 88 [.own 11]), (6, .box 89 [.own 12]), (10, .arr false 86 T86), (11, .arr false 3 (.int .i64)), (12, .arr false 1000089 (.int .i64))], nb := 13 })]
def impl_planOf.l1.F (k j : Nat) (x : Prod' impl_planOf.l1.ish.tys) : Option (Outs impl_planOf.l1.outs) := impl_planOf.l1 k j x.1 x.2.1 x.2.2.1 x.2.2.2
def impl_planOf.l1.s (k : Nat) : Summ := { n := 76, ish := impl_planOf.l1.ish, outs := impl_planOf.l1.outs, f := impl_planOf.l1.F k k }
theorem impl_planOf.l1.ev (k j : Nat) (x : Prod' impl_planOf.l1.ish.tys) : V (impl_planOf.C k) .auto (cO (cO (cL (cR (cR (cR (cR (cR (cR (cB Tryz.f25)))))))))) (mk impl_planOf.l1.ish 76 x) (fun e st' => match e with | .nrm => (rd impl_planOf.l1.ish st').bind (impl_planOf.l1.F k j) | e => rdOut e st' impl_planOf.l1.outs) = impl_planOf.l1.F k (j + 1) x := by kernel_rfl
theorem impl_planOf.l1.ok (k : Nat) : SumOk Tryz.prog (impl_planOf.C k) (.loop (cO (cO (cL (cR (cR (cR (cR (cR (cR (cB Tryz.f25))))))))))) (impl_planOf.l1.s k) := sum_ok (by kernel_rfl) (sum_loop (p := .auto) (F := impl_planOf.l1.F k) (impl_planOf.cok k) (by kernel_rfl) (plan_of (L := []) (by kernel_rfl) trivial) (fun _ => rfl) (fun j x y h => (impl_planOf.l1.ev k j x).trans h) k rfl)
theorem impl_planOf.ev (k : Nat) (x : Prod' impl_planOf.sig.ins) : impl_planOf.sig.ev (impl_planOf.C k) (.two .auto (.two .auto (.two .auto (.two (.two .auto (.one (.sum (impl_planOf.l0.s k)))) (.two .auto (.two .auto (.two (.one (.sum (impl_planOf.l1.s k))) .auto))))))) Tryz.f25.results.toList (cB Tryz.f25) x = impl_planOf k x := by kernel_rfl
theorem impl_planOf.ok (k : Nat) : ConOk Tryz.prog 25 (impl_planOf.con k) := sig_ok (p := (.two .auto (.two .auto (.two .auto (.two (.two .auto (.one (.sum (impl_planOf.l0.s k)))) (.two .auto (.two .auto (.two (.one (.sum (impl_planOf.l1.s k))) .auto)))))))) (impl_planOf.cok k) Tryz.func25 (by kernel_rfl) (show Tryz.f25.body = some (cB Tryz.f25) by kernel_rfl) (by kernel_rfl) (by kernel_rfl) (plan_of (L := [(impl_planOf.l0.s k, cO (cR (cL (cR (cR (cR (cB Tryz.f25))))))), (impl_planOf.l1.s k, cO (cL (cR (cR (cR (cR (cR (cR (cB Tryz.f25)))))))))]) (by kernel_rfl) ⟨impl_planOf.l0.ok k, impl_planOf.l1.ok k, trivial⟩) (fun x y h => (impl_planOf.ev k x).trans h)
end Go.Proofs.YtaajcllchbnjiaaGreatE
