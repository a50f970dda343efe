/- What the law FnFleet needs, part 6 of 7: the Lean functions of the Go functions that it reaches, with the proofs that the calls come to what they say, and plain facts about them. Conditions: those that each theorem states. Written by a session and by its programs (after the kit's printer). -/
import Derived.Test.YthoibokhmkjkdaaXFnFleet4
namespace Go.Proofs.YthoibokhmkjkdaaE
open Go Go.RowKit
set_option linter.unusedVariables false
def spec_l21Share (a1 : G24) : Option (Int) :=
  Option.bind (at? a1.1 a1.2.1) fun v2 =>
  Option.bind (nz? 100) fun v3 =>
  some (IntKind.wrap .i64 (Int.tdiv (IntKind.wrap .i64 ((IntKind.wrap .i64 (((a1.2.2.2.length) : Int) * v2)) + 99)) 100))
def spec_l21Share.sig : Sig := { ps := [.val true T24 (ros T24)], rs := [.val false [.v (.int .i64)]], ntmps := 15 }
def spec_l21Share.con (k : Nat) : Con := spec_l21Share.sig.con (fun x => spec_l21Share x)
def spec_l21Share.C (k : Nat) : Ctx := { ti := TAB, con := conL [], rob := true }
theorem spec_l21Share.cok (k : Nat) : CtxOk Try.prog (spec_l21Share.C k) := ctx_ok TABok trivial
theorem spec_l21Share.ev (k : Nat) (x : Prod' spec_l21Share.sig.ins) : spec_l21Share.sig.ev (spec_l21Share.C k) .auto Try.f71.results.toList (cB Try.f71) x = spec_l21Share x := by kernel_rfl
theorem spec_l21Share.ok (k : Nat) : ConOk Try.prog 71 (spec_l21Share.con k) := sig_ok (p := .auto) (spec_l21Share.cok k) Try.func71 (by kernel_rfl) (show Try.f71.body = some (cB Try.f71) by kernel_rfl) (by kernel_rfl) (by kernel_rfl) (plan_of (L := []) (by kernel_rfl) trivial) (fun x y h => (spec_l21Share.ev k x).trans h)
def spec_l03Is (a1 : Int) (a2 : Int) (a3 : Int) : Option (Bool) :=
  some ((decide (a2 ≤ a1)) && (decide (a1 ≤ a3)))
def spec_l03Is.sig : Sig := { ps := [.val false (.int .i64) (ros (.int .i64)), .val false (.int .i64) (ros (.int .i64)), .val false (.int .i64) (ros (.int .i64))], rs := [.val false [.v .bool]], ntmps := 15 }
def spec_l03Is.con (k : Nat) : Con := spec_l03Is.sig.con (fun x => spec_l03Is x.1 x.2.1 x.2.2)
def spec_l03Is.C (k : Nat) : Ctx := { ti := TAB, con := conL [] }
theorem spec_l03Is.cok (k : Nat) : CtxOk Try.prog (spec_l03Is.C k) := ctx_ok TABok trivial
theorem spec_l03Is.ev (k : Nat) (x : Prod' spec_l03Is.sig.ins) : spec_l03Is.sig.ev (spec_l03Is.C k) .auto Try.f75.results.toList (cB Try.f75) x = spec_l03Is x.1 x.2.1 x.2.2 := by kernel_rfl
theorem spec_l03Is.ok (k : Nat) : ConOk Try.prog 75 (spec_l03Is.con k) := sig_ok (p := .auto) (spec_l03Is.cok k) Try.func75 (by kernel_rfl) (show Try.f75.body = some (cB Try.f75) by kernel_rfl) (by kernel_rfl) (by kernel_rfl) (plan_of (L := []) (by kernel_rfl) trivial) (fun x y h => (spec_l03Is.ev k x).trans h)
def spec_l21Many.l0 : Nat → Int → List Int → Int → Int → List Int → Int → Int → Option (Int)
  | 0, _, _, _, _, _, _, _ => none
  | j + 1, a1, a2, a3, a4, a5, a6, a7 =>
    bif decide (a7 < ((a5.length) : Int)) then
      Option.bind (at? a5 a7) fun v8 =>
      let e9 := IntKind.wrap .i64 (a7 + 1)
      bif v8 == a1 then
        spec_l21Many.l0 j a1 a2 a3 a4 a5 (IntKind.wrap .i64 (a6 + 1)) e9
      else
      spec_l21Many.l0 j a1 a2 a3 a4 a5 a6 e9
    else
    some a6
def spec_l21Many (k : Nat) (a1 : G24) (a2 : Int) : Option (Int) :=
  Option.bind (spec_l21Many.l0 k a2 a1.1 a1.2.1 a1.2.2.1 a1.2.2.2 0 0) fun y3 =>
  some y3
def spec_l21Many.sig : Sig := { ps := [.val true T24 (ros T24), .val false (.int .i64) (ros (.int .i64))], rs := [.val false [.v (.int .i64)]], ntmps := 24 }
def spec_l21Many.con (k : Nat) : Con := spec_l21Many.sig.con (fun x => spec_l21Many k x.1 x.2)
def spec_l21Many.C (k : Nat) : Ctx := { ti := TAB, con := conL [], rob := true }
theorem spec_l21Many.cok (k : Nat) : CtxOk Try.prog (spec_l21Many.C k) := ctx_ok TABok trivial
def spec_l21Many.l0.ish : Shape := { tmps := [(1, .one (.v (.int .i64))), (2, .eptr [.bor (.int .i64), .v (.int .i64), .v (.int .i64), .bor (.int .i64)]), (5, .one (.v (.int .i64))), (6, .one (.v (.int .i64)))], slots := [], nb := 0 }
def spec_l21Many.l0.outs : List (Ex × Shape) := [(.exit 0, { tmps := [(5, .one (.v (.int .i64)))], slots := [], nb := 0 })]
def spec_l21Many.l0.F (k j : Nat) (x : Prod' spec_l21Many.l0.ish.tys) : Option (Outs spec_l21Many.l0.outs) := spec_l21Many.l0 j x.1 x.2.1 x.2.2.1 x.2.2.2.1 x.2.2.2.2.1 x.2.2.2.2.2.1 x.2.2.2.2.2.2
def spec_l21Many.l0.s (k : Nat) : Summ := { n := 24, ish := spec_l21Many.l0.ish, outs := spec_l21Many.l0.outs, f := spec_l21Many.l0.F k k }
theorem spec_l21Many.l0.ev (k j : Nat) (x : Prod' spec_l21Many.l0.ish.tys) : V (spec_l21Many.C k) .auto (cO (cO (cR (cL (cR (cR (cB Try.f100))))))) (mk spec_l21Many.l0.ish 24 x) (fun e st' => match e with | .nrm => (rd spec_l21Many.l0.ish st').bind (spec_l21Many.l0.F k j) | e => rdOut e st' spec_l21Many.l0.outs) = spec_l21Many.l0.F k (j + 1) x := by kernel_rfl
theorem spec_l21Many.l0.ok (k : Nat) : SumOk Try.prog (spec_l21Many.C k) (.loop (cO (cO (cR (cL (cR (cR (cB Try.f100)))))))) (spec_l21Many.l0.s k) := sum_ok (by kernel_rfl) (sum_loop (p := .auto) (F := spec_l21Many.l0.F k) (spec_l21Many.cok k) (by kernel_rfl) (plan_of (L := []) (by kernel_rfl) trivial) (fun _ => rfl) (fun j x y h => (spec_l21Many.l0.ev k j x).trans h) k rfl)
theorem spec_l21Many.ev (k : Nat) (x : Prod' spec_l21Many.sig.ins) : spec_l21Many.sig.ev (spec_l21Many.C k) (.two .auto (.two .auto (.two (.two .auto (.one (.sum (spec_l21Many.l0.s k)))) .auto))) Try.f100.results.toList (cB Try.f100) x = spec_l21Many k x.1 x.2 := by kernel_rfl
theorem spec_l21Many.ok (k : Nat) : ConOk Try.prog 100 (spec_l21Many.con k) := sig_ok (p := (.two .auto (.two .auto (.two (.two .auto (.one (.sum (spec_l21Many.l0.s k)))) .auto)))) (spec_l21Many.cok k) Try.func100 (by kernel_rfl) (show Try.f100.body = some (cB Try.f100) by kernel_rfl) (by kernel_rfl) (by kernel_rfl) (plan_of (L := [(spec_l21Many.l0.s k, cO (cR (cL (cR (cR (cB Try.f100))))))]) (by kernel_rfl) ⟨spec_l21Many.l0.ok k, trivial⟩) (fun x y h => (spec_l21Many.ev k x).trans h)
def spec_l21Waves.l0 : Nat → List Int → Int → Option (Unit ⊕ Bool)
  | 0, _, _ => none
  | j + 1, a1, a2 =>
    bif decide (a2 < ((a1.length) : Int)) then
      Option.bind (at? a1 a2) fun v3 =>
      Option.bind (spec_l03Is v3 1 100) fun v4 =>
      bif !v4 then
        some (.inr false)
      else
      let e5 := IntKind.wrap .i64 (a2 + 1)
      bif decide (0 < a2) then
        Option.bind (at? a1 (IntKind.wrap .i64 (a2 - 1))) fun v6 =>
        Option.bind (at? a1 a2) fun v7 =>
        bif decide (v7 ≤ v6) then
          some (.inr false)
        else
        spec_l21Waves.l0 j a1 e5
      else
      spec_l21Waves.l0 j a1 e5
    else
    some (.inl ())
def spec_l21Waves (k : Nat) (a1 : List Int) : Option (Bool) :=
  bif (decide (((a1.length) : Int) < 1)) || (decide (10 < ((a1.length) : Int))) then
    some false
  else
  Option.bind (at? a1 (IntKind.wrap .i64 (((a1.length) : Int) - 1))) fun v2 =>
  bif v2 != 100 then
    some false
  else
  Option.bind (spec_l21Waves.l0 k a1 0) fun
    | .inl y3 =>
      some true
    | .inr y4 =>
      some y4
def spec_l21Waves.sig : Sig := { ps := [.val false (.sl (.int .i64)) (ros (.sl (.int .i64)))], rs := [.val false [.v .bool]], ntmps := 49 }
def spec_l21Waves.con (k : Nat) : Con := spec_l21Waves.sig.con (fun x => spec_l21Waves k x)
def spec_l21Waves.C (k : Nat) : Ctx := { ti := TAB, con := conL [(75, spec_l03Is.con k)] }
theorem spec_l21Waves.cok (k : Nat) : CtxOk Try.prog (spec_l21Waves.C k) := ctx_ok TABok ⟨spec_l03Is.ok k, trivial⟩
def spec_l21Waves.l0.ish : Shape := { tmps := [(0, .one (.bor (.int .i64))), (3, .one (.v (.int .i64)))], slots := [], nb := 0 }
def spec_l21Waves.l0.outs : List (Ex × Shape) := [(.exit 0, { tmps := [], slots := [], nb := 0 }), (.ret, { tmps := [(2, .one (.v .bool))], slots := [], nb := 0 })]
def spec_l21Waves.l0.F (k j : Nat) (x : Prod' spec_l21Waves.l0.ish.tys) : Option (Outs spec_l21Waves.l0.outs) := spec_l21Waves.l0 j x.1 x.2
def spec_l21Waves.l0.s (k : Nat) : Summ := { n := 49, ish := spec_l21Waves.l0.ish, outs := spec_l21Waves.l0.outs, f := spec_l21Waves.l0.F k k }
theorem spec_l21Waves.l0.ev (k j : Nat) (x : Prod' spec_l21Waves.l0.ish.tys) : V (spec_l21Waves.C k) .auto (cO (cO (cR (cL (cR (cR (cB Try.f116))))))) (mk spec_l21Waves.l0.ish 49 x) (fun e st' => match e with | .nrm => (rd spec_l21Waves.l0.ish st').bind (spec_l21Waves.l0.F k j) | e => rdOut e st' spec_l21Waves.l0.outs) = spec_l21Waves.l0.F k (j + 1) x := by kernel_rfl
theorem spec_l21Waves.l0.ok (k : Nat) : SumOk Try.prog (spec_l21Waves.C k) (.loop (cO (cO (cR (cL (cR (cR (cB Try.f116)))))))) (spec_l21Waves.l0.s k) := sum_ok (by kernel_rfl) (sum_loop (p := .auto) (F := spec_l21Waves.l0.F k) (spec_l21Waves.cok k) (by kernel_rfl) (plan_of (L := []) (by kernel_rfl) trivial) (fun _ => rfl) (fun j x y h => (spec_l21Waves.l0.ev k j x).trans h) k rfl)
theorem spec_l21Waves.ev (k : Nat) (x : Prod' spec_l21Waves.sig.ins) : spec_l21Waves.sig.ev (spec_l21Waves.C k) (.two .auto (.two .auto (.two (.two .auto (.one (.sum (spec_l21Waves.l0.s k)))) .auto))) Try.f116.results.toList (cB Try.f116) x = spec_l21Waves k x := by kernel_rfl
theorem spec_l21Waves.ok (k : Nat) : ConOk Try.prog 116 (spec_l21Waves.con k) := sig_ok (p := (.two .auto (.two .auto (.two (.two .auto (.one (.sum (spec_l21Waves.l0.s k)))) .auto)))) (spec_l21Waves.cok k) Try.func116 (by kernel_rfl) (show Try.f116.body = some (cB Try.f116) by kernel_rfl) (by kernel_rfl) (by kernel_rfl) (plan_of (L := [(spec_l21Waves.l0.s k, cO (cR (cL (cR (cR (cB Try.f116))))))]) (by kernel_rfl) ⟨spec_l21Waves.l0.ok k, trivial⟩) (fun x y h => (spec_l21Waves.ev k x).trans h)
def spec_FleetRight.l0 : Nat → List Int → Int → Int → List Int → Int → Option (Unit ⊕ Bool)
  | 0, _, _, _, _, _ => none
  | j + 1, a1, a2, a3, a4, a5 =>
    bif decide (a5 < ((a4.length) : Int)) then
      Option.bind (at? a4 a5) fun v6 =>
      Option.bind (spec_l03Is v6 0 3) fun v7 =>
      bif !v7 then
        some (.inr false)
      else
      spec_FleetRight.l0 j a1 a2 a3 a4 (IntKind.wrap .i64 (a5 + 1))
    else
    some (.inl ())
def spec_FleetRight (k : Nat) (a1 : G24) : Option (Bool) :=
  let e2 := ((a1.2.2.2.length) : Int)
  bif (decide (e2 < 1)) || (decide (12 < e2)) then
    some false
  else
  Option.bind (spec_l21Waves k a1.1) fun v3 =>
  bif !v3 then
    some false
  else
  Option.bind (spec_l03Is a1.2.1 0 (IntKind.wrap .i64 (((a1.1.length) : Int) - 1))) fun v4 =>
  bif !v4 then
    some false
  else
  Option.bind (spec_l03Is a1.2.2.1 0 12) fun v5 =>
  bif !v5 then
    some false
  else
  Option.bind (spec_FleetRight.l0 k a1.1 a1.2.1 a1.2.2.1 a1.2.2.2 0) fun
    | .inl y6 =>
      Option.bind (spec_l21Many k a1 0) fun v7 =>
      Option.bind (spec_l21Share a1) fun v8 =>
      some (decide ((IntKind.wrap .i64 (e2 - v7)) ≤ v8))
    | .inr y9 =>
      some y9
def spec_FleetRight.sig : Sig := { ps := [.val true T24 (ros T24)], rs := [.val false [.v .bool]], ntmps := 59 }
def spec_FleetRight.con (k : Nat) : Con := spec_FleetRight.sig.con (fun x => spec_FleetRight k x)
def spec_FleetRight.C (k : Nat) : Ctx := { ti := TAB, con := conL [(71, spec_l21Share.con k), (75, spec_l03Is.con k), (100, spec_l21Many.con k), (116, spec_l21Waves.con k)], rob := true }
theorem spec_FleetRight.cok (k : Nat) : CtxOk Try.prog (spec_FleetRight.C k) := ctx_ok TABok ⟨spec_l21Share.ok k, spec_l03Is.ok k, spec_l21Many.ok k, spec_l21Waves.ok k, trivial⟩
def spec_FleetRight.l0.ish : Shape := { tmps := [(1, .eptr [.bor (.int .i64), .v (.int .i64), .v (.int .i64), .bor (.int .i64)]), (3, .one (.v (.int .i64)))], slots := [], nb := 0 }
def spec_FleetRight.l0.outs : List (Ex × Shape) := [(.exit 0, { tmps := [], slots := [], nb := 0 }), (.ret, { tmps := [(2, .one (.v .bool))], slots := [], nb := 0 })]
def spec_FleetRight.l0.F (k j : Nat) (x : Prod' spec_FleetRight.l0.ish.tys) : Option (Outs spec_FleetRight.l0.outs) := spec_FleetRight.l0 j x.1 x.2.1 x.2.2.1 x.2.2.2.1 x.2.2.2.2
def spec_FleetRight.l0.s (k : Nat) : Summ := { n := 59, ish := spec_FleetRight.l0.ish, outs := spec_FleetRight.l0.outs, f := spec_FleetRight.l0.F k k }
theorem spec_FleetRight.l0.ev (k j : Nat) (x : Prod' spec_FleetRight.l0.ish.tys) : V (spec_FleetRight.C k) .auto (cO (cO (cR (cL (cR (cR (cB Try.f59))))))) (mk spec_FleetRight.l0.ish 59 x) (fun e st' => match e with | .nrm => (rd spec_FleetRight.l0.ish st').bind (spec_FleetRight.l0.F k j) | e => rdOut e st' spec_FleetRight.l0.outs) = spec_FleetRight.l0.F k (j + 1) x := by kernel_rfl
theorem spec_FleetRight.l0.ok (k : Nat) : SumOk Try.prog (spec_FleetRight.C k) (.loop (cO (cO (cR (cL (cR (cR (cB Try.f59)))))))) (spec_FleetRight.l0.s k) := sum_ok (by kernel_rfl) (sum_loop (p := .auto) (F := spec_FleetRight.l0.F k) (spec_FleetRight.cok k) (by kernel_rfl) (plan_of (L := []) (by kernel_rfl) trivial) (fun _ => rfl) (fun j x y h => (spec_FleetRight.l0.ev k j x).trans h) k rfl)
theorem spec_FleetRight.ev (k : Nat) (x : Prod' spec_FleetRight.sig.ins) : spec_FleetRight.sig.ev (spec_FleetRight.C k) (.two .auto (.two .auto (.two (.two .auto (.one (.sum (spec_FleetRight.l0.s k)))) .auto))) Try.f59.results.toList (cB Try.f59) x = spec_FleetRight k x := by kernel_rfl
theorem spec_FleetRight.ok (k : Nat) : ConOk Try.prog 59 (spec_FleetRight.con k) := sig_ok (p := (.two .auto (.two .auto (.two (.two .auto (.one (.sum (spec_FleetRight.l0.s k)))) .auto)))) (spec_FleetRight.cok k) Try.func59 (by kernel_rfl) (show Try.f59.body = some (cB Try.f59) by kernel_rfl) (by kernel_rfl) (by kernel_rfl) (plan_of (L := [(spec_FleetRight.l0.s k, cO (cR (cL (cR (cR (cB Try.f59))))))]) (by kernel_rfl) ⟨spec_FleetRight.l0.ok k, trivial⟩) (fun x y h => (spec_FleetRight.ev k x).trans h)
def spec_Share (k : Nat) (a1 : G24) : Option (Int) :=
  Option.bind (spec_FleetRight k a1) fun v2 =>
  bif !v2 then
    some 0
  else
  Option.bind (spec_l21Share a1) fun v3 =>
  some v3
def spec_Share.sig : Sig := { ps := [.val true T24 (ros T24)], rs := [.val false [.v (.int .i64)]], ntmps := 8 }
def spec_Share.con (k : Nat) : Con := spec_Share.sig.con (fun x => spec_Share k x)
def spec_Share.C (k : Nat) : Ctx := { ti := TAB, con := conL [(59, spec_FleetRight.con k), (71, spec_l21Share.con k)], rob := true }
theorem spec_Share.cok (k : Nat) : CtxOk Try.prog (spec_Share.C k) := ctx_ok TABok ⟨spec_FleetRight.ok k, spec_l21Share.ok k, trivial⟩
theorem spec_Share.ev (k : Nat) (x : Prod' spec_Share.sig.ins) : spec_Share.sig.ev (spec_Share.C k) .auto Try.f16.results.toList (cB Try.f16) x = spec_Share k x := by kernel_rfl
theorem spec_Share.ok (k : Nat) : ConOk Try.prog 16 (spec_Share.con k) := sig_ok (p := .auto) (spec_Share.cok k) Try.func16 (by kernel_rfl) (show Try.f16.body = some (cB Try.f16) by kernel_rfl) (by kernel_rfl) (by kernel_rfl) (plan_of (L := []) (by kernel_rfl) trivial) (fun x y h => (spec_Share.ev k x).trans h)
def impl_size_int64 (a1 : List Int) : Option (Int) :=
  some ((a1.length) : Int)
def impl_size_int64.sig : Sig := { ps := [.val false (.sl (.int .i64)) (ros (.sl (.int .i64)))], rs := [.val false [.v (.int .i64)]], ntmps := 5 }
def impl_size_int64.con (k : Nat) : Con := impl_size_int64.sig.con (fun x => impl_size_int64 x)
def impl_size_int64.C (k : Nat) : Ctx := { ti := TAB, con := conL [] }
theorem impl_size_int64.cok (k : Nat) : CtxOk Try.prog (impl_size_int64.C k) := ctx_ok TABok trivial
theorem impl_size_int64.ev (k : Nat) (x : Prod' impl_size_int64.sig.ins) : impl_size_int64.sig.ev (impl_size_int64.C k) .auto Try.f92.results.toList (cB Try.f92) x = impl_size_int64 x := by kernel_rfl
theorem impl_size_int64.ok (k : Nat) : ConOk Try.prog 92 (impl_size_int64.con k) := sig_ok (p := .auto) (impl_size_int64.cok k) Try.func92 (by kernel_rfl) (show Try.f92.body = some (cB Try.f92) by kernel_rfl) (by kernel_rfl) (by kernel_rfl) (plan_of (L := []) (by kernel_rfl) trivial) (fun x y h => (impl_size_int64.ev k x).trans h)
def impl_Fleet_share (a1 : G24) : Option (Int) :=
  Option.bind (impl_size_int64 a1.2.2.2) fun v2 =>
  Option.bind (at? a1.1 a1.2.1) fun v3 =>
  Option.bind (nz? 100) fun v4 =>
  some (IntKind.wrap .i64 (Int.tdiv (IntKind.wrap .i64 ((IntKind.wrap .i64 (v2 * v3)) + 99)) 100))
def impl_Fleet_share.sig : Sig := { ps := [.val true T24 (ros T24)], rs := [.val false [.v (.int .i64)]], ntmps := 15 }
def impl_Fleet_share.con (k : Nat) : Con := impl_Fleet_share.sig.con (fun x => impl_Fleet_share x)
def impl_Fleet_share.C (k : Nat) : Ctx := { ti := TAB, con := conL [(92, impl_size_int64.con k)], rob := true }
theorem impl_Fleet_share.cok (k : Nat) : CtxOk Try.prog (impl_Fleet_share.C k) := ctx_ok TABok ⟨impl_size_int64.ok k, trivial⟩
theorem impl_Fleet_share.ev (k : Nat) (x : Prod' impl_Fleet_share.sig.ins) : impl_Fleet_share.sig.ev (impl_Fleet_share.C k) .auto Try.f73.results.toList (cB Try.f73) x = impl_Fleet_share x := by kernel_rfl
theorem impl_Fleet_share.ok (k : Nat) : ConOk Try.prog 73 (impl_Fleet_share.con k) := sig_ok (p := .auto) (impl_Fleet_share.cok k) Try.func73 (by kernel_rfl) (show Try.f73.body = some (cB Try.f73) by kernel_rfl) (by kernel_rfl) (by kernel_rfl) (plan_of (L := []) (by kernel_rfl) trivial) (fun x y h => (impl_Fleet_share.ev k x).trans h)
def impl_within (a1 : Int) (a2 : Int) (a3 : Int) : Option (Bool) :=
  some ((decide (a2 ≤ a1)) && (decide (a1 ≤ a3)))
def impl_within.sig : Sig := { ps := [.val false (.int .i64) (ros (.int .i64)), .val false (.int .i64) (ros (.int .i64)), .val false (.int .i64) (ros (.int .i64))], rs := [.val false [.v .bool]], ntmps := 15 }
def impl_within.con (k : Nat) : Con := impl_within.sig.con (fun x => impl_within x.1 x.2.1 x.2.2)
def impl_within.C (k : Nat) : Ctx := { ti := TAB, con := conL [] }
theorem impl_within.cok (k : Nat) : CtxOk Try.prog (impl_within.C k) := ctx_ok TABok trivial
theorem impl_within.ev (k : Nat) (x : Prod' impl_within.sig.ins) : impl_within.sig.ev (impl_within.C k) .auto Try.f76.results.toList (cB Try.f76) x = impl_within x.1 x.2.1 x.2.2 := by kernel_rfl
theorem impl_within.ok (k : Nat) : ConOk Try.prog 76 (impl_within.con k) := sig_ok (p := .auto) (impl_within.cok k) Try.func76 (by kernel_rfl) (show Try.f76.body = some (cB Try.f76) by kernel_rfl) (by kernel_rfl) (by kernel_rfl) (plan_of (L := []) (by kernel_rfl) trivial) (fun x y h => (impl_within.ev k x).trans h)
def impl_Fleet_count.l0 : Nat → Int → Int → List Int → Int → Int → Option (Int)
  | 0, _, _, _, _, _ => none
  | j + 1, a1, a2, a3, a4, a5 =>
    bif decide (a5 < a4) then
      Option.bind (at? a3 a5) fun v6 =>
      let e7 := IntKind.wrap .i64 (a5 + 1)
      bif v6 == a1 then
        impl_Fleet_count.l0 j a1 (IntKind.wrap .i64 (a2 + 1)) a3 a4 e7
      else
      impl_Fleet_count.l0 j a1 a2 a3 a4 e7
    else
    some a2
def impl_Fleet_count (k : Nat) (a1 : G24) (a2 : Int) : Option (Int) :=
  Option.bind (impl_Fleet_count.l0 k a2 0 a1.2.2.2 ((a1.2.2.2.length) : Int) 0) fun y3 =>
  some y3
def impl_Fleet_count.sig : Sig := { ps := [.val true T24 (ros T24), .val false (.int .i64) (ros (.int .i64))], rs := [.val false [.v (.int .i64)]], ntmps := 22 }
def impl_Fleet_count.con (k : Nat) : Con := impl_Fleet_count.sig.con (fun x => impl_Fleet_count k x.1 x.2)
def impl_Fleet_count.C (k : Nat) : Ctx := { ti := TAB, con := conL [], rob := true }
theorem impl_Fleet_count.cok (k : Nat) : CtxOk Try.prog (impl_Fleet_count.C k) := ctx_ok TABok trivial
def impl_Fleet_count.l0.ish : Shape := { tmps := [(1, .one (.v (.int .i64))), (5, .one (.v (.int .i64))), (9, .one (.bor (.int .i64))), (10, .one (.v (.int .i64))), (11, .one (.v (.int .i64)))], slots := [], nb := 0 }
def impl_Fleet_count.l0.outs : List (Ex × Shape) := [(.exit 0, { tmps := [(5, .one (.v (.int .i64)))], slots := [], nb := 0 })]
def impl_Fleet_count.l0.F (k j : Nat) (x : Prod' impl_Fleet_count.l0.ish.tys) : Option (Outs impl_Fleet_count.l0.outs) := impl_Fleet_count.l0 j x.1 x.2.1 x.2.2.1 x.2.2.2.1 x.2.2.2.2
def impl_Fleet_count.l0.s (k : Nat) : Summ := { n := 22, ish := impl_Fleet_count.l0.ish, outs := impl_Fleet_count.l0.outs, f := impl_Fleet_count.l0.F k k }
theorem impl_Fleet_count.l0.ev (k j : Nat) (x : Prod' impl_Fleet_count.l0.ish.tys) : V (impl_Fleet_count.C k) .auto (cO (cO (cR (cL (cR (cR (cB Try.f152))))))) (mk impl_Fleet_count.l0.ish 22 x) (fun e st' => match e with | .nrm => (rd impl_Fleet_count.l0.ish st').bind (impl_Fleet_count.l0.F k j) | e => rdOut e st' impl_Fleet_count.l0.outs) = impl_Fleet_count.l0.F k (j + 1) x := by kernel_rfl
theorem impl_Fleet_count.l0.ok (k : Nat) : SumOk Try.prog (impl_Fleet_count.C k) (.loop (cO (cO (cR (cL (cR (cR (cB Try.f152)))))))) (impl_Fleet_count.l0.s k) := sum_ok (by kernel_rfl) (sum_loop (p := .auto) (F := impl_Fleet_count.l0.F k) (impl_Fleet_count.cok k) (by kernel_rfl) (plan_of (L := []) (by kernel_rfl) trivial) (fun _ => rfl) (fun j x y h => (impl_Fleet_count.l0.ev k j x).trans h) k rfl)
theorem impl_Fleet_count.ev (k : Nat) (x : Prod' impl_Fleet_count.sig.ins) : impl_Fleet_count.sig.ev (impl_Fleet_count.C k) (.two .auto (.two .auto (.two (.two .auto (.one (.sum (impl_Fleet_count.l0.s k)))) .auto))) Try.f152.results.toList (cB Try.f152) x = impl_Fleet_count k x.1 x.2 := by kernel_rfl
theorem impl_Fleet_count.ok (k : Nat) : ConOk Try.prog 152 (impl_Fleet_count.con k) := sig_ok (p := (.two .auto (.two .auto (.two (.two .auto (.one (.sum (impl_Fleet_count.l0.s k)))) .auto)))) (impl_Fleet_count.cok k) Try.func152 (by kernel_rfl) (show Try.f152.body = some (cB Try.f152) by kernel_rfl) (by kernel_rfl) (by kernel_rfl) (plan_of (L := [(impl_Fleet_count.l0.s k, cO (cR (cL (cR (cR (cB Try.f152))))))]) (by kernel_rfl) ⟨impl_Fleet_count.l0.ok k, trivial⟩) (fun x y h => (impl_Fleet_count.ev k x).trans h)
def impl_Fleet_left (k : Nat) (a1 : G24) : Option (Int) :=
  Option.bind (impl_size_int64 a1.2.2.2) fun v2 =>
  Option.bind (impl_Fleet_count k a1 0) fun v3 =>
  some (IntKind.wrap .i64 (v2 - v3))
def impl_Fleet_left.sig : Sig := { ps := [.val true T24 (ros T24)], rs := [.val false [.v (.int .i64)]], ntmps := 9 }
def impl_Fleet_left.con (k : Nat) : Con := impl_Fleet_left.sig.con (fun x => impl_Fleet_left k x)
def impl_Fleet_left.C (k : Nat) : Ctx := { ti := TAB, con := conL [(92, impl_size_int64.con k), (152, impl_Fleet_count.con k)], rob := true }
theorem impl_Fleet_left.cok (k : Nat) : CtxOk Try.prog (impl_Fleet_left.C k) := ctx_ok TABok ⟨impl_size_int64.ok k, impl_Fleet_count.ok k, trivial⟩
theorem impl_Fleet_left.ev (k : Nat) (x : Prod' impl_Fleet_left.sig.ins) : impl_Fleet_left.sig.ev (impl_Fleet_left.C k) .auto Try.f102.results.toList (cB Try.f102) x = impl_Fleet_left k x := by kernel_rfl
theorem impl_Fleet_left.ok (k : Nat) : ConOk Try.prog 102 (impl_Fleet_left.con k) := sig_ok (p := .auto) (impl_Fleet_left.cok k) Try.func102 (by kernel_rfl) (show Try.f102.body = some (cB Try.f102) by kernel_rfl) (by kernel_rfl) (by kernel_rfl) (plan_of (L := []) (by kernel_rfl) trivial) (fun x y h => (impl_Fleet_left.ev k x).trans h)
def impl_isFleet_1 (a1 : Int) : Option (Bool) :=
  Option.bind (impl_within a1 0 3) fun v2 =>
  some (!v2)
def impl_isFleet_1.sig : Sig := { ps := [.val false (.int .i64) (ros (.int .i64))], rs := [.val false [.v .bool]], ntmps := 6 }
def impl_isFleet_1.con (k : Nat) : Con := impl_isFleet_1.sig.con (fun x => impl_isFleet_1 x)
def impl_isFleet_1.C (k : Nat) : Ctx := { ti := TAB, con := conL [(76, impl_within.con k)] }
theorem impl_isFleet_1.cok (k : Nat) : CtxOk Try.prog (impl_isFleet_1.C k) := ctx_ok TABok ⟨impl_within.ok k, trivial⟩
theorem impl_isFleet_1.ev (k : Nat) (x : Prod' impl_isFleet_1.sig.ins) : impl_isFleet_1.sig.ev (impl_isFleet_1.C k) .auto Try.f130.results.toList (cB Try.f130) x = impl_isFleet_1 x := by kernel_rfl
theorem impl_isFleet_1.ok (k : Nat) : ConOk Try.prog 130 (impl_isFleet_1.con k) := sig_ok (p := .auto) (impl_isFleet_1.cok k) Try.func130 (by kernel_rfl) (show Try.f130.body = some (cB Try.f130) by kernel_rfl) (by kernel_rfl) (by kernel_rfl) (plan_of (L := []) (by kernel_rfl) trivial) (fun x y h => (impl_isFleet_1.ev k x).trans h)
def slices_IndexFunc_int64_130.l0 : Nat → List Int → Int → Int → Option (Unit ⊕ Int)
  | 0, _, _, _ => none
  | j + 1, a1, a2, a3 =>
    bif decide (a3 < a2) then
      Option.bind (at? a1 a3) fun v4 =>
      Option.bind (impl_isFleet_1 v4) fun v5 =>
      bif v5 then
        some (.inr a3)
      else
      slices_IndexFunc_int64_130.l0 j a1 a2 (IntKind.wrap .i64 (a3 + 1))
    else
    some (.inl ())
def slices_IndexFunc_int64_130 (k : Nat) (a1 : List Int) : Option (Int) :=
  Option.bind (slices_IndexFunc_int64_130.l0 k a1 ((a1.length) : Int) 0) fun
    | .inl y2 =>
      some (-1)
    | .inr y3 =>
      some y3
def slices_IndexFunc_int64_130.sig : Sig := { ps := [.val false (.sl (.int .i64)) (ros (.sl (.int .i64))), .fn 130 []], rs := [.val false [.v (.int .i64)]], ntmps := 19 }
def slices_IndexFunc_int64_130.con (k : Nat) : Con := slices_IndexFunc_int64_130.sig.con (fun x => slices_IndexFunc_int64_130 k x)
def slices_IndexFunc_int64_130.C (k : Nat) : Ctx := { ti := TAB, con := conL [(130, impl_isFleet_1.con k)] }
theorem slices_IndexFunc_int64_130.cok (k : Nat) : CtxOk Try.prog (slices_IndexFunc_int64_130.C k) := ctx_ok TABok ⟨impl_isFleet_1.ok k, trivial⟩
def slices_IndexFunc_int64_130.l0.ish : Shape := { tmps := [(0, .one (.bor (.int .i64))), (1, .fn 130 []), (7, .one (.v (.int .i64))), (8, .one (.v (.int .i64)))], slots := [], nb := 0 }
def slices_IndexFunc_int64_130.l0.outs : List (Ex × Shape) := [(.exit 0, { tmps := [], slots := [], nb := 0 }), (.ret, { tmps := [(4, .one (.v (.int .i64)))], slots := [], nb := 0 })]
def slices_IndexFunc_int64_130.l0.F (k j : Nat) (x : Prod' slices_IndexFunc_int64_130.l0.ish.tys) : Option (Outs slices_IndexFunc_int64_130.l0.outs) := slices_IndexFunc_int64_130.l0 j x.1 x.2.1 x.2.2
def slices_IndexFunc_int64_130.l0.s (k : Nat) : Summ := { n := 19, ish := slices_IndexFunc_int64_130.l0.ish, outs := slices_IndexFunc_int64_130.l0.outs, f := slices_IndexFunc_int64_130.l0.F k k }
theorem slices_IndexFunc_int64_130.l0.ev (k j : Nat) (x : Prod' slices_IndexFunc_int64_130.l0.ish.tys) : V (slices_IndexFunc_int64_130.C k) .auto (cO (cO (cR (cL (cR (cB Try.f170)))))) (mk slices_IndexFunc_int64_130.l0.ish 19 x) (fun e st' => match e with | .nrm => (rd slices_IndexFunc_int64_130.l0.ish st').bind (slices_IndexFunc_int64_130.l0.F k j) | e => rdOut e st' slices_IndexFunc_int64_130.l0.outs) = slices_IndexFunc_int64_130.l0.F k (j + 1) x := by kernel_rfl
theorem slices_IndexFunc_int64_130.l0.ok (k : Nat) : SumOk Try.prog (slices_IndexFunc_int64_130.C k) (.loop (cO (cO (cR (cL (cR (cB Try.f170))))))) (slices_IndexFunc_int64_130.l0.s k) := sum_ok (by kernel_rfl) (sum_loop (p := .auto) (F := slices_IndexFunc_int64_130.l0.F k) (slices_IndexFunc_int64_130.cok k) (by kernel_rfl) (plan_of (L := []) (by kernel_rfl) trivial) (fun _ => rfl) (fun j x y h => (slices_IndexFunc_int64_130.l0.ev k j x).trans h) k rfl)
theorem slices_IndexFunc_int64_130.ev (k : Nat) (x : Prod' slices_IndexFunc_int64_130.sig.ins) : slices_IndexFunc_int64_130.sig.ev (slices_IndexFunc_int64_130.C k) (.two .auto (.two (.two .auto (.one (.sum (slices_IndexFunc_int64_130.l0.s k)))) .auto)) Try.f170.results.toList (cB Try.f170) x = slices_IndexFunc_int64_130 k x := by kernel_rfl
theorem slices_IndexFunc_int64_130.ok (k : Nat) : ConOk Try.prog 170 (slices_IndexFunc_int64_130.con k) := sig_ok (p := (.two .auto (.two (.two .auto (.one (.sum (slices_IndexFunc_int64_130.l0.s k)))) .auto))) (slices_IndexFunc_int64_130.cok k) Try.func170 (by kernel_rfl) (show Try.f170.body = some (cB Try.f170) by kernel_rfl) (by kernel_rfl) (by kernel_rfl) (plan_of (L := [(slices_IndexFunc_int64_130.l0.s k, cO (cR (cL (cR (cB Try.f170)))))]) (by kernel_rfl) ⟨slices_IndexFunc_int64_130.l0.ok k, trivial⟩) (fun x y h => (slices_IndexFunc_int64_130.ev k x).trans h)
def slices_ContainsFunc_int64_130 (k : Nat) (a1 : List Int) : Option (Bool) :=
  Option.bind (slices_IndexFunc_int64_130 k a1) fun v2 =>
  some (decide (0 ≤ v2))
def slices_ContainsFunc_int64_130.sig : Sig := { ps := [.val false (.sl (.int .i64)) (ros (.sl (.int .i64))), .fn 130 []], rs := [.val false [.v .bool]], ntmps := 9 }
def slices_ContainsFunc_int64_130.con (k : Nat) : Con := slices_ContainsFunc_int64_130.sig.con (fun x => slices_ContainsFunc_int64_130 k x)
def slices_ContainsFunc_int64_130.C (k : Nat) : Ctx := { ti := TAB, con := conL [(170, slices_IndexFunc_int64_130.con k)] }
theorem slices_ContainsFunc_int64_130.cok (k : Nat) : CtxOk Try.prog (slices_ContainsFunc_int64_130.C k) := ctx_ok TABok ⟨slices_IndexFunc_int64_130.ok k, trivial⟩
theorem slices_ContainsFunc_int64_130.ev (k : Nat) (x : Prod' slices_ContainsFunc_int64_130.sig.ins) : slices_ContainsFunc_int64_130.sig.ev (slices_ContainsFunc_int64_130.C k) .auto Try.f129.results.toList (cB Try.f129) x = slices_ContainsFunc_int64_130 k x := by kernel_rfl
theorem slices_ContainsFunc_int64_130.ok (k : Nat) : ConOk Try.prog 129 (slices_ContainsFunc_int64_130.con k) := sig_ok (p := .auto) (slices_ContainsFunc_int64_130.cok k) Try.func129 (by kernel_rfl) (show Try.f129.body = some (cB Try.f129) by kernel_rfl) (by kernel_rfl) (by kernel_rfl) (plan_of (L := []) (by kernel_rfl) trivial) (fun x y h => (slices_ContainsFunc_int64_130.ev k x).trans h)
def impl_isFleet.l0 : Nat → List Int → Int → Int → List Int → List Int → Int → Int → Option (Unit ⊕ Bool)
  | 0, _, _, _, _, _, _, _ => none
  | j + 1, a1, a2, a3, a4, a5, a6, a7 =>
    bif decide (a7 < a6) then
      Option.bind (at? a5 a7) fun v8 =>
      Option.bind (impl_within v8 1 100) fun v9 =>
      bif !v9 then
        some (.inr false)
      else
      let e10 := IntKind.wrap .i64 (a7 + 1)
      bif decide (0 < a7) then
        Option.bind (at? a1 (IntKind.wrap .i64 (a7 - 1))) fun v11 =>
        bif decide (v8 ≤ v11) then
          some (.inr false)
        else
        impl_isFleet.l0 j a1 a2 a3 a4 a5 a6 e10
      else
      impl_isFleet.l0 j a1 a2 a3 a4 a5 a6 e10
    else
    some (.inl ())
def impl_isFleet (k : Nat) (a1 : G24) : Option (Bool) :=
  Option.bind (impl_size_int64 a1.2.2.2) fun v2 =>
  Option.bind (impl_within v2 1 12) fun v3 =>
  bif !v3 then
    some false
  else
  Option.bind (impl_size_int64 a1.1) fun v4 =>
  Option.bind (impl_within v4 1 10) fun v5 =>
  bif !v5 then
    some false
  else
  Option.bind (impl_size_int64 a1.1) fun v6 =>
  Option.bind (impl_within a1.2.1 0 (IntKind.wrap .i64 (v6 - 1))) fun v7 =>
  bif !v7 then
    some false
  else
  Option.bind (impl_within a1.2.2.1 0 12) fun v8 =>
  bif !v8 then
    some false
  else
  let e9 := ((a1.1.length) : Int)
  Option.bind (impl_isFleet.l0 k a1.1 a1.2.1 a1.2.2.1 a1.2.2.2 a1.1 e9 0) fun
    | .inl y10 =>
      Option.bind (slices_ContainsFunc_int64_130 k a1.2.2.2) fun v11 =>
      bif v11 then
        some false
      else
      Option.bind (at? a1.1 (IntKind.wrap .i64 (e9 - 1))) fun v12 =>
      bif v12 == 100 then
        Option.bind (impl_Fleet_left k a1) fun v13 =>
        Option.bind (impl_Fleet_share a1) fun v14 =>
        some (decide (v13 ≤ v14))
      else
      some false
    | .inr y15 =>
      some y15
def impl_isFleet.sig : Sig := { ps := [.val true T24 (ros T24)], rs := [.val false [.v .bool]], ntmps := 78 }
def impl_isFleet.con (k : Nat) : Con := impl_isFleet.sig.con (fun x => impl_isFleet k x)
def impl_isFleet.C (k : Nat) : Ctx := { ti := TAB, con := conL [(73, impl_Fleet_share.con k), (76, impl_within.con k), (92, impl_size_int64.con k), (102, impl_Fleet_left.con k), (129, slices_ContainsFunc_int64_130.con k)], rob := true }
theorem impl_isFleet.cok (k : Nat) : CtxOk Try.prog (impl_isFleet.C k) := ctx_ok TABok ⟨impl_Fleet_share.ok k, impl_within.ok k, impl_size_int64.ok k, impl_Fleet_left.ok k, slices_ContainsFunc_int64_130.ok k, trivial⟩
def impl_isFleet.l0.ish : Shape := { tmps := [(1, .eptr [.bor (.int .i64), .v (.int .i64), .v (.int .i64), .bor (.int .i64)]), (34, .one (.bor (.int .i64))), (35, .one (.v (.int .i64))), (36, .one (.v (.int .i64)))], slots := [], nb := 0 }
def impl_isFleet.l0.outs : List (Ex × Shape) := [(.exit 0, { tmps := [], slots := [], nb := 0 }), (.ret, { tmps := [(2, .one (.v .bool))], slots := [], nb := 0 })]
def impl_isFleet.l0.F (k j : Nat) (x : Prod' impl_isFleet.l0.ish.tys) : Option (Outs impl_isFleet.l0.outs) := impl_isFleet.l0 j x.1 x.2.1 x.2.2.1 x.2.2.2.1 x.2.2.2.2.1 x.2.2.2.2.2.1 x.2.2.2.2.2.2
def impl_isFleet.l0.s (k : Nat) : Summ := { n := 78, ish := impl_isFleet.l0.ish, outs := impl_isFleet.l0.outs, f := impl_isFleet.l0.F k k }
theorem impl_isFleet.l0.ev (k j : Nat) (x : Prod' impl_isFleet.l0.ish.tys) : V (impl_isFleet.C k) .auto (cO (cO (cR (cL (cR (cR (cB Try.f72))))))) (mk impl_isFleet.l0.ish 78 x) (fun e st' => match e with | .nrm => (rd impl_isFleet.l0.ish st').bind (impl_isFleet.l0.F k j) | e => rdOut e st' impl_isFleet.l0.outs) = impl_isFleet.l0.F k (j + 1) x := by kernel_rfl
theorem impl_isFleet.l0.ok (k : Nat) : SumOk Try.prog (impl_isFleet.C k) (.loop (cO (cO (cR (cL (cR (cR (cB Try.f72)))))))) (impl_isFleet.l0.s k) := sum_ok (by kernel_rfl) (sum_loop (p := .auto) (F := impl_isFleet.l0.F k) (impl_isFleet.cok k) (by kernel_rfl) (plan_of (L := []) (by kernel_rfl) trivial) (fun _ => rfl) (fun j x y h => (impl_isFleet.l0.ev k j x).trans h) k rfl)
theorem impl_isFleet.ev (k : Nat) (x : Prod' impl_isFleet.sig.ins) : impl_isFleet.sig.ev (impl_isFleet.C k) (.two .auto (.two .auto (.two (.two .auto (.one (.sum (impl_isFleet.l0.s k)))) .auto))) Try.f72.results.toList (cB Try.f72) x = impl_isFleet k x := by kernel_rfl
theorem impl_isFleet.ok (k : Nat) : ConOk Try.prog 72 (impl_isFleet.con k) := sig_ok (p := (.two .auto (.two .auto (.two (.two .auto (.one (.sum (impl_isFleet.l0.s k)))) .auto)))) (impl_isFleet.cok k) Try.func72 (by kernel_rfl) (show Try.f72.body = some (cB Try.f72) by kernel_rfl) (by kernel_rfl) (by kernel_rfl) (plan_of (L := [(impl_isFleet.l0.s k, cO (cR (cL (cR (cR (cB Try.f72))))))]) (by kernel_rfl) ⟨impl_isFleet.l0.ok k, trivial⟩) (fun x y h => (impl_isFleet.ev k x).trans h)
def impl_Share (k : Nat) (a1 : G24) : Option (Int) :=
  Option.bind (impl_isFleet k a1) fun v2 =>
  bif !v2 then
    some 0
  else
  Option.bind (impl_Fleet_share a1) fun v3 =>
  some v3
def impl_Share.sig : Sig := { ps := [.val true T24 (ros T24)], rs := [.val false [.v (.int .i64)]], ntmps := 8 }
def impl_Share.con (k : Nat) : Con := impl_Share.sig.con (fun x => impl_Share k x)
def impl_Share.C (k : Nat) : Ctx := { ti := TAB, con := conL [(72, impl_isFleet.con k), (73, impl_Fleet_share.con k)], rob := true }
theorem impl_Share.cok (k : Nat) : CtxOk Try.prog (impl_Share.C k) := ctx_ok TABok ⟨impl_isFleet.ok k, impl_Fleet_share.ok k, trivial⟩
theorem impl_Share.ev (k : Nat) (x : Prod' impl_Share.sig.ins) : impl_Share.sig.ev (impl_Share.C k) .auto Try.f18.results.toList (cB Try.f18) x = impl_Share k x := by kernel_rfl
theorem impl_Share.ok (k : Nat) : ConOk Try.prog 18 (impl_Share.con k) := sig_ok (p := .auto) (impl_Share.cok k) Try.func18 (by kernel_rfl) (show Try.f18.body = some (cB Try.f18) by kernel_rfl) (by kernel_rfl) (by kernel_rfl) (plan_of (L := []) (by kernel_rfl) trivial) (fun x y h => (impl_Share.ev k x).trans h)
def spec_l21Ill (a1 : Int) : Option (List Int × Int × Int × List Int × List Int × Int) :=
  some ([], 0, 0, [], [], a1)
def spec_l21Ill.sig : Sig := { ps := [.val false (.int .i64) (ros (.int .i64))], rs := [.val true [.own 2 (.int .i64), .v (.int .i64), .v (.int .i64), .own 2 (.int .i64), .own 2 (.int .i64), .v (.int .i64)]], ntmps := 5 }
def spec_l21Ill.con (k : Nat) : Con := spec_l21Ill.sig.con (fun x => spec_l21Ill x)
def spec_l21Ill.C (k : Nat) : Ctx := { ti := TAB, con := conL [] }
theorem spec_l21Ill.cok (k : Nat) : CtxOk Try.prog (spec_l21Ill.C k) := ctx_ok TABok trivial
theorem spec_l21Ill.ev (k : Nat) (x : Prod' spec_l21Ill.sig.ins) : spec_l21Ill.sig.ev (spec_l21Ill.C k) .auto Try.f74.results.toList (cB Try.f74) x = spec_l21Ill x := by kernel_rfl
theorem spec_l21Ill.ok (k : Nat) : ConOk Try.prog 74 (spec_l21Ill.con k) := sig_ok (p := .auto) (spec_l21Ill.cok k) Try.func74 (by kernel_rfl) (show Try.f74.body = some (cB Try.f74) by kernel_rfl) (by kernel_rfl) (by kernel_rfl) (plan_of (L := []) (by kernel_rfl) trivial) (fun x y h => (spec_l21Ill.ev k x).trans h)
def spec_FleetNew (k : Nat) (a1 : Int) (a2 : List Int) (a3 : Int) : Option (List Int × Int × Int × List Int × List Int × Int) :=
  bif decide (400 < ((a2.length) : Int)) then
    Option.bind (spec_l21Ill 2) fun v4 =>
    some (v4.1, v4.2.1, v4.2.2.1, v4.2.2.2.1, v4.2.2.2.2.1, v4.2.2.2.2.2)
  else
  Option.bind (spec_l03Is a1 1 12) fun v5 =>
  bif !v5 then
    Option.bind (spec_l21Ill 1) fun v6 =>
    some (v6.1, v6.2.1, v6.2.2.1, v6.2.2.2.1, v6.2.2.2.2.1, v6.2.2.2.2.2)
  else
  Option.bind (app? 8 [] a2) fun v7 =>
  Option.bind (make? 8 a1 a1 0) fun v8 =>
  Option.bind (spec_FleetRight k (v7, (0, (a3, v8)))) fun v9 =>
  bif !v9 then
    Option.bind (spec_l21Ill 1) fun v10 =>
    some (v10.1, v10.2.1, v10.2.2.1, v10.2.2.2.1, v10.2.2.2.2.1, v10.2.2.2.2.2)
  else
  some (v7, 0, a3, v8, [], 0)
def spec_FleetNew.sig : Sig := { ps := [.val false (.int .i64) (ros (.int .i64)), .val false (.sl (.int .i64)) (ros (.sl (.int .i64))), .val false (.int .i64) (ros (.int .i64))], rs := [.val true [.own 2 (.int .i64), .v (.int .i64), .v (.int .i64), .own 2 (.int .i64), .own 2 (.int .i64), .v (.int .i64)]], ntmps := 29 }
def spec_FleetNew.con (k : Nat) : Con := spec_FleetNew.sig.con (fun x => spec_FleetNew k x.1 x.2.1 x.2.2)
def spec_FleetNew.C (k : Nat) : Ctx := { ti := TAB, con := conL [(59, spec_FleetRight.con k), (74, spec_l21Ill.con k), (75, spec_l03Is.con k)] }
theorem spec_FleetNew.cok (k : Nat) : CtxOk Try.prog (spec_FleetNew.C k) := ctx_ok TABok ⟨spec_FleetRight.ok k, spec_l21Ill.ok k, spec_l03Is.ok k, trivial⟩
theorem spec_FleetNew.ev (k : Nat) (x : Prod' spec_FleetNew.sig.ins) : spec_FleetNew.sig.ev (spec_FleetNew.C k) .auto Try.f20.results.toList (cB Try.f20) x = spec_FleetNew k x.1 x.2.1 x.2.2 := by kernel_rfl
theorem spec_FleetNew.ok (k : Nat) : ConOk Try.prog 20 (spec_FleetNew.con k) := sig_ok (p := .auto) (spec_FleetNew.cok k) Try.func20 (by kernel_rfl) (show Try.f20.body = some (cB Try.f20) by kernel_rfl) (by kernel_rfl) (by kernel_rfl) (plan_of (L := []) (by kernel_rfl) trivial) (fun x y h => (spec_FleetNew.ev k x).trans h)
/-- A copy of a row. -/
def slices_Clone_int64 (a : List Int) : Option (List Int) := Option.bind (app? 8 [] a) fun y => some y
def slices_Clone_int64.sig : Sig := { ps := [.val false (.sl (.int .i64)) (ros (.sl (.int .i64)))], rs := [.val false [.own 2 (.int .i64)]], ntmps := 8 }
def slices_Clone_int64.con (k : Nat) : Con := slices_Clone_int64.sig.con (fun x => slices_Clone_int64 x)
theorem slices_Clone_int64.ok (k : Nat) : ConOk Try.prog 77 (slices_Clone_int64.con k) :=
  clone_wp (e := 2) (C := { ti := TAB, con := conL [] }) (s := slices_Clone_int64.sig) (G := fun x => slices_Clone_int64 x) (ctx_ok TABok trivial) Try.func77 (by kernel_rfl) rfl (by kernel_rfl) (by kernel_rfl) (by kernel_rfl) rfl rfl rfl rfl rfl rfl (by kernel_rfl) (by kernel_rfl)
    (fun x => ⟨_, _, .inl rfl⟩) (fun x y h => Eq.trans (b := slices_Clone_int64 x) (by kernel_rfl) h) (fun x y h hl => by
      have e : x = ([] : List Int) := hl (.int .i64) x (.inl (by kernel_rfl))
      subst e
      exact Eq.trans (b := slices_Clone_int64 []) (by kernel_rfl) h)
def impl_FleetNew (k : Nat) (a1 : Int) (a2 : List Int) (a3 : Int) : Option (List Int × Int × Int × List Int × List Int × Int) :=
  bif decide (400 < ((a2.length) : Int)) then
    some ([], 0, 0, [], [], 2)
  else
  Option.bind (impl_within a1 1 12) fun v4 =>
  bif !v4 then
    some ([], 0, 0, [], [], 1)
  else
  Option.bind (slices_Clone_int64 a2) fun v5 =>
  Option.bind (make? 8 a1 a1 0) fun v6 =>
  Option.bind (impl_isFleet k (v5, (0, (a3, v6)))) fun v7 =>
  bif !v7 then
    some ([], 0, 0, [], [], 1)
  else
  some (v5, 0, a3, v6, [], 0)
def impl_FleetNew.sig : Sig := { ps := [.val false (.int .i64) (ros (.int .i64)), .val false (.sl (.int .i64)) (ros (.sl (.int .i64))), .val false (.int .i64) (ros (.int .i64))], rs := [.val true [.own 2 (.int .i64), .v (.int .i64), .v (.int .i64), .own 2 (.int .i64), .own 2 (.int .i64), .v (.int .i64)]], ntmps := 28 }
def impl_FleetNew.con (k : Nat) : Con := impl_FleetNew.sig.con (fun x => impl_FleetNew k x.1 x.2.1 x.2.2)
def impl_FleetNew.C (k : Nat) : Ctx := { ti := TAB, con := conL [(72, impl_isFleet.con k), (76, impl_within.con k), (77, slices_Clone_int64.con k)] }
theorem impl_FleetNew.cok (k : Nat) : CtxOk Try.prog (impl_FleetNew.C k) := ctx_ok TABok ⟨impl_isFleet.ok k, impl_within.ok k, slices_Clone_int64.ok k, trivial⟩
theorem impl_FleetNew.ev (k : Nat) (x : Prod' impl_FleetNew.sig.ins) : impl_FleetNew.sig.ev (impl_FleetNew.C k) .auto Try.f22.results.toList (cB Try.f22) x = impl_FleetNew k x.1 x.2.1 x.2.2 := by kernel_rfl
theorem impl_FleetNew.ok (k : Nat) : ConOk Try.prog 22 (impl_FleetNew.con k) := sig_ok (p := .auto) (impl_FleetNew.cok k) Try.func22 (by kernel_rfl) (show Try.f22.body = some (cB Try.f22) by kernel_rfl) (by kernel_rfl) (by kernel_rfl) (plan_of (L := []) (by kernel_rfl) trivial) (fun x y h => (impl_FleetNew.ev k x).trans h)
def spec_l21Copy (a1 : G24) : Option (List Int × Int × Int × List Int) :=
  Option.bind (app? 8 [] a1.1) fun v2 =>
  Option.bind (app? 8 [] a1.2.2.2) fun v3 =>
  some (v2, a1.2.1, a1.2.2.1, v3)
def spec_l21Copy.sig : Sig := { ps := [.val true T24 (ros T24)], rs := [.val true [.own 2 (.int .i64), .v (.int .i64), .v (.int .i64), .own 2 (.int .i64)]], ntmps := 16 }
def spec_l21Copy.con (k : Nat) : Con := spec_l21Copy.sig.con (fun x => spec_l21Copy x)
def spec_l21Copy.C (k : Nat) : Ctx := { ti := TAB, con := conL [], rob := true }
theorem spec_l21Copy.cok (k : Nat) : CtxOk Try.prog (spec_l21Copy.C k) := ctx_ok TABok trivial
theorem spec_l21Copy.ev (k : Nat) (x : Prod' spec_l21Copy.sig.ins) : spec_l21Copy.sig.ev (spec_l21Copy.C k) .auto Try.f91.results.toList (cB Try.f91) x = spec_l21Copy x := by kernel_rfl
theorem spec_l21Copy.ok (k : Nat) : ConOk Try.prog 91 (spec_l21Copy.con k) := sig_ok (p := .auto) (spec_l21Copy.cok k) Try.func91 (by kernel_rfl) (show Try.f91.body = some (cB Try.f91) by kernel_rfl) (by kernel_rfl) (by kernel_rfl) (plan_of (L := []) (by kernel_rfl) trivial) (fun x y h => (spec_l21Copy.ev k x).trans h)
def spec_FleetTell (k : Nat) (a1 : G24) (a2 : Int) (a3 : Bool) : Option (List Int × Int × Int × List Int × List Int × Int) :=
  Option.bind (spec_FleetRight k a1) fun v4 =>
  bif !v4 then
    Option.bind (spec_l21Ill 1) fun v5 =>
    some (v5.1, v5.2.1, v5.2.2.1, v5.2.2.2.1, v5.2.2.2.2.1, v5.2.2.2.2.2)
  else
  Option.bind (spec_l03Is a2 0 (IntKind.wrap .i64 (((a1.2.2.2.length) : Int) - 1))) fun v6 =>
  bif !v6 then
    Option.bind (spec_l21Ill 6) fun v7 =>
    some (v7.1, v7.2.1, v7.2.2.1, v7.2.2.2.1, v7.2.2.2.2.1, v7.2.2.2.2.2)
  else
  Option.bind (at? a1.2.2.2 a2) fun v8 =>
  bif v8 != 1 then
    Option.bind (spec_l21Ill 10) fun v9 =>
    some (v9.1, v9.2.1, v9.2.2.1, v9.2.2.2.1, v9.2.2.2.2.1, v9.2.2.2.2.2)
  else
  Option.bind (spec_l21Copy a1) fun v10 =>
  let e11 := at? v10.2.2.2 a2
  Option.bind (e11) fun v12 =>
  Option.bind (e11) fun v13 =>
  let e14 := List.set v10.2.2.2 (Int.toNat a2) 3
  bif a3 then
    let e15 := at? e14 a2
    Option.bind (e15) fun v16 =>
    Option.bind (e15) fun v17 =>
    some (v10.1, v10.2.1, v10.2.2.1, List.set e14 (Int.toNat a2) 2, [], 0)
  else
  some (v10.1, v10.2.1, v10.2.2.1, e14, [], 0)
def spec_FleetTell.sig : Sig := { ps := [.val true T24 (ros T24), .val false (.int .i64) (ros (.int .i64)), .val false .bool (ros .bool)], rs := [.val true [.own 2 (.int .i64), .v (.int .i64), .v (.int .i64), .own 2 (.int .i64), .own 2 (.int .i64), .v (.int .i64)]], ntmps := 43 }
def spec_FleetTell.con (k : Nat) : Con := spec_FleetTell.sig.con (fun x => spec_FleetTell k x.1 x.2.1 x.2.2)
def spec_FleetTell.C (k : Nat) : Ctx := { ti := TAB, con := conL [(59, spec_FleetRight.con k), (74, spec_l21Ill.con k), (75, spec_l03Is.con k), (91, spec_l21Copy.con k)], rob := true }
theorem spec_FleetTell.cok (k : Nat) : CtxOk Try.prog (spec_FleetTell.C k) := ctx_ok TABok ⟨spec_FleetRight.ok k, spec_l21Ill.ok k, spec_l03Is.ok k, spec_l21Copy.ok k, trivial⟩
theorem spec_FleetTell.ev (k : Nat) (x : Prod' spec_FleetTell.sig.ins) : spec_FleetTell.sig.ev (spec_FleetTell.C k) .auto Try.f36.results.toList (cB Try.f36) x = spec_FleetTell k x.1 x.2.1 x.2.2 := by kernel_rfl
theorem spec_FleetTell.ok (k : Nat) : ConOk Try.prog 36 (spec_FleetTell.con k) := sig_ok (p := .auto) (spec_FleetTell.cok k) Try.func36 (by kernel_rfl) (show Try.f36.body = some (cB Try.f36) by kernel_rfl) (by kernel_rfl) (by kernel_rfl) (plan_of (L := []) (by kernel_rfl) trivial) (fun x y h => (spec_FleetTell.ev k x).trans h)
def impl_cloneFleet (a1 : G24) : Option (List Int × Int × Int × List Int) :=
  Option.bind (slices_Clone_int64 a1.1) fun v2 =>
  Option.bind (slices_Clone_int64 a1.2.2.2) fun v3 =>
  some (v2, a1.2.1, a1.2.2.1, v3)
def impl_cloneFleet.sig : Sig := { ps := [.val true T24 (ros T24)], rs := [.val true [.own 2 (.int .i64), .v (.int .i64), .v (.int .i64), .own 2 (.int .i64)]], ntmps := 12 }
def impl_cloneFleet.con (k : Nat) : Con := impl_cloneFleet.sig.con (fun x => impl_cloneFleet x)
def impl_cloneFleet.C (k : Nat) : Ctx := { ti := TAB, con := conL [(77, slices_Clone_int64.con k)] }
theorem impl_cloneFleet.cok (k : Nat) : CtxOk Try.prog (impl_cloneFleet.C k) := ctx_ok TABok ⟨slices_Clone_int64.ok k, trivial⟩
theorem impl_cloneFleet.ev (k : Nat) (x : Prod' impl_cloneFleet.sig.ins) : impl_cloneFleet.sig.ev (impl_cloneFleet.C k) .auto Try.f93.results.toList (cB Try.f93) x = impl_cloneFleet x := by kernel_rfl
theorem impl_cloneFleet.ok (k : Nat) : ConOk Try.prog 93 (impl_cloneFleet.con k) := sig_ok (p := .auto) (impl_cloneFleet.cok k) Try.func93 (by kernel_rfl) (show Try.f93.body = some (cB Try.f93) by kernel_rfl) (by kernel_rfl) (by kernel_rfl) (plan_of (L := []) (by kernel_rfl) trivial) (fun x y h => (impl_cloneFleet.ev k x).trans h)
def impl_FleetTell (k : Nat) (a1 : G24) (a2 : Int) (a3 : Bool) : Option (List Int × Int × Int × List Int × List Int × Int) :=
  Option.bind (impl_isFleet k a1) fun v4 =>
  bif !v4 then
    some ([], 0, 0, [], [], 1)
  else
  Option.bind (impl_size_int64 a1.2.2.2) fun v5 =>
  Option.bind (impl_within a2 0 (IntKind.wrap .i64 (v5 - 1))) fun v6 =>
  bif !v6 then
    some ([], 0, 0, [], [], 6)
  else
  Option.bind (at? a1.2.2.2 a2) fun v7 =>
  bif v7 != 1 then
    some ([], 0, 0, [], [], 10)
  else
  Option.bind (impl_cloneFleet a1) fun v8 =>
  let e9 := at? v8.2.2.2 a2
  Option.bind (e9) fun v10 =>
  Option.bind (e9) fun v11 =>
  let e12 := List.set v8.2.2.2 (Int.toNat a2) 3
  bif a3 then
    let e13 := at? e12 a2
    Option.bind (e13) fun v14 =>
    Option.bind (e13) fun v15 =>
    some (v8.1, v8.2.1, v8.2.2.1, List.set e12 (Int.toNat a2) 2, [], 0)
  else
  some (v8.1, v8.2.1, v8.2.2.1, e12, [], 0)
def impl_FleetTell.sig : Sig := { ps := [.val true T24 (ros T24), .val false (.int .i64) (ros (.int .i64)), .val false .bool (ros .bool)], rs := [.val true [.own 2 (.int .i64), .v (.int .i64), .v (.int .i64), .own 2 (.int .i64), .own 2 (.int .i64), .v (.int .i64)]], ntmps := 45 }
def impl_FleetTell.con (k : Nat) : Con := impl_FleetTell.sig.con (fun x => impl_FleetTell k x.1 x.2.1 x.2.2)
def impl_FleetTell.C (k : Nat) : Ctx := { ti := TAB, con := conL [(72, impl_isFleet.con k), (76, impl_within.con k), (92, impl_size_int64.con k), (93, impl_cloneFleet.con k)], rob := true }
theorem impl_FleetTell.cok (k : Nat) : CtxOk Try.prog (impl_FleetTell.C k) := ctx_ok TABok ⟨impl_isFleet.ok k, impl_within.ok k, impl_size_int64.ok k, impl_cloneFleet.ok k, trivial⟩
theorem impl_FleetTell.ev (k : Nat) (x : Prod' impl_FleetTell.sig.ins) : impl_FleetTell.sig.ev (impl_FleetTell.C k) .auto Try.f37.results.toList (cB Try.f37) x = impl_FleetTell k x.1 x.2.1 x.2.2 := by kernel_rfl
theorem impl_FleetTell.ok (k : Nat) : ConOk Try.prog 37 (impl_FleetTell.con k) := sig_ok (p := .auto) (impl_FleetTell.cok k) Try.func37 (by kernel_rfl) (show Try.f37.body = some (cB Try.f37) by kernel_rfl) (by kernel_rfl) (by kernel_rfl) (plan_of (L := []) (by kernel_rfl) trivial) (fun x y h => (impl_FleetTell.ev k x).trans h)
def spec_Halted (k : Nat) (a1 : G24) : Option (Bool) :=
  Option.bind (spec_FleetRight k a1) fun v2 =>
  bif v2 then
    Option.bind (spec_l21Many k a1 3) fun v3 =>
    some (decide (a1.2.2.1 < v3))
  else
  some false
def spec_Halted.sig : Sig := { ps := [.val true T24 (ros T24)], rs := [.val false [.v .bool]], ntmps := 12 }
def spec_Halted.con (k : Nat) : Con := spec_Halted.sig.con (fun x => spec_Halted k x)
def spec_Halted.C (k : Nat) : Ctx := { ti := TAB, con := conL [(59, spec_FleetRight.con k), (100, spec_l21Many.con k)], rob := true }
theorem spec_Halted.cok (k : Nat) : CtxOk Try.prog (spec_Halted.C k) := ctx_ok TABok ⟨spec_FleetRight.ok k, spec_l21Many.ok k, trivial⟩
theorem spec_Halted.ev (k : Nat) (x : Prod' spec_Halted.sig.ins) : spec_Halted.sig.ev (spec_Halted.C k) .auto Try.f57.results.toList (cB Try.f57) x = spec_Halted k x := by kernel_rfl
theorem spec_Halted.ok (k : Nat) : ConOk Try.prog 57 (spec_Halted.con k) := sig_ok (p := .auto) (spec_Halted.cok k) Try.func57 (by kernel_rfl) (show Try.f57.body = some (cB Try.f57) by kernel_rfl) (by kernel_rfl) (by kernel_rfl) (plan_of (L := []) (by kernel_rfl) trivial) (fun x y h => (spec_Halted.ev k x).trans h)
def spec_FleetAsk.l0 : Nat → List Int → Int → Int → List Int → Int → Int → Int → Int → Int → List Int → List Int → List Int → Option ((Int × Int × Int × List Int × List Int × List Int))
  | 0, _, _, _, _, _, _, _, _, _, _, _, _ => none
  | j + 1, a1, a2, a3, a4, a5, a6, a7, a8, a9, a10, a11, a12 =>
    bif (decide (a6 < ((a4.length) : Int))) && (decide (0 < a5)) then
      Option.bind (at? a4 a6) fun v13 =>
      let e14 := IntKind.wrap .i64 (a6 + 1)
      bif v13 == 0 then
        Option.bind (at? a11 a6) fun v15 =>
        Option.bind (at? a11 a6) fun v16 =>
        Option.bind (app? 8 a12 [a6]) fun v17 =>
        spec_FleetAsk.l0 j a1 a2 a3 a4 (IntKind.wrap .i64 (a5 - 1)) e14 a7 a8 a9 a10 (List.set a11 (Int.toNat a6) 1) v17
      else
      spec_FleetAsk.l0 j a1 a2 a3 a4 a5 e14 a7 a8 a9 a10 a11 a12
    else
    some (a7, a8, a9, a10, a11, a12)
def spec_FleetAsk (k : Nat) (a1 : G24) : Option (List Int × Int × Int × List Int × List Int × Int) :=
  Option.bind (spec_FleetRight k a1) fun v2 =>
  bif !v2 then
    Option.bind (spec_l21Ill 1) fun v3 =>
    some (v3.1, v3.2.1, v3.2.2.1, v3.2.2.2.1, v3.2.2.2.2.1, v3.2.2.2.2.2)
  else
  Option.bind (spec_Halted k a1) fun v4 =>
  bif v4 then
    Option.bind (spec_l21Ill 10) fun v5 =>
    some (v5.1, v5.2.1, v5.2.2.1, v5.2.2.2.1, v5.2.2.2.2.1, v5.2.2.2.2.2)
  else
  Option.bind (spec_l21Copy a1) fun v6 =>
  Option.bind (spec_l21Share a1) fun v7 =>
  Option.bind (spec_l21Many k a1 0) fun v8 =>
  Option.bind (spec_FleetAsk.l0 k a1.1 a1.2.1 a1.2.2.1 a1.2.2.2 (IntKind.wrap .i64 ((IntKind.wrap .i64 (v7 - ((a1.2.2.2.length) : Int))) + v8)) 0 v6.2.1 v6.2.2.1 0 v6.1 v6.2.2.2 []) fun y9 =>
  some (y9.2.2.2.1, y9.1, y9.2.1, y9.2.2.2.2.1, y9.2.2.2.2.2, y9.2.2.1)
def spec_FleetAsk.sig : Sig := { ps := [.val true T24 (ros T24)], rs := [.val true [.own 2 (.int .i64), .v (.int .i64), .v (.int .i64), .own 2 (.int .i64), .own 2 (.int .i64), .v (.int .i64)]], ntmps := 56 }
def spec_FleetAsk.con (k : Nat) : Con := spec_FleetAsk.sig.con (fun x => spec_FleetAsk k x)
def spec_FleetAsk.C (k : Nat) : Ctx := { ti := TAB, con := conL [(57, spec_Halted.con k), (59, spec_FleetRight.con k), (71, spec_l21Share.con k), (74, spec_l21Ill.con k), (91, spec_l21Copy.con k), (100, spec_l21Many.con k)], rob := true }
theorem spec_FleetAsk.cok (k : Nat) : CtxOk Try.prog (spec_FleetAsk.C k) := ctx_ok TABok ⟨spec_Halted.ok k, spec_FleetRight.ok k, spec_l21Share.ok k, spec_l21Ill.ok k, spec_l21Copy.ok k, spec_l21Many.ok k, trivial⟩
def spec_FleetAsk.l0.ish : Shape := { tmps := [(1, .eptr [.bor (.int .i64), .v (.int .i64), .v (.int .i64), .bor (.int .i64)]), (3, .one (.ptr 3 0)), (4, .one (.v (.int .i64))), (5, .one (.v (.int .i64)))], slots := [(3, .box 32 [.own 4, .v (.int .i64), .v (.int .i64), .own 5, .own 6, .v (.int .i64)]), (4, .arr false 2 (.int .i64)), (5, .arr false 2 (.int .i64)), (6, .arr false 2 (.int .i64))], nb := 7 }
def spec_FleetAsk.l0.outs : List (Ex × Shape) := [(.exit 0, { tmps := [], slots := [(3, .box 32 [.own 7, .v (.int .i64), .v (.int .i64), .own 8, .own 9, .v (.int .i64)]), (7, .arr false 2 (.int .i64)), (8, .arr false 2 (.int .i64)), (9, .arr false 2 (.int .i64))], nb := 10 })]
def spec_FleetAsk.l0.F (k j : Nat) (x : Prod' spec_FleetAsk.l0.ish.tys) : Option (Outs spec_FleetAsk.l0.outs) := spec_FleetAsk.l0 j x.1 x.2.1 x.2.2.1 x.2.2.2.1 x.2.2.2.2.1 x.2.2.2.2.2.1 x.2.2.2.2.2.2.1 x.2.2.2.2.2.2.2.1 x.2.2.2.2.2.2.2.2.1 x.2.2.2.2.2.2.2.2.2.1 x.2.2.2.2.2.2.2.2.2.2.1 x.2.2.2.2.2.2.2.2.2.2.2
def spec_FleetAsk.l0.s (k : Nat) : Summ := { n := 56, ish := spec_FleetAsk.l0.ish, outs := spec_FleetAsk.l0.outs, f := spec_FleetAsk.l0.F k k }
theorem spec_FleetAsk.l0.ev (k j : Nat) (x : Prod' spec_FleetAsk.l0.ish.tys) : V (spec_FleetAsk.C k) .auto (cO (cO (cR (cL (cR (cR (cR (cR (cR (cB Try.f44)))))))))) (mk spec_FleetAsk.l0.ish 56 x) (fun e st' => match e with | .nrm => (rd spec_FleetAsk.l0.ish st').bind (spec_FleetAsk.l0.F k j) | e => rdOut e st' spec_FleetAsk.l0.outs) = spec_FleetAsk.l0.F k (j + 1) x := by kernel_rfl
theorem spec_FleetAsk.l0.ok (k : Nat) : SumOk Try.prog (spec_FleetAsk.C k) (.loop (cO (cO (cR (cL (cR (cR (cR (cR (cR (cB Try.f44))))))))))) (spec_FleetAsk.l0.s k) := sum_ok (by kernel_rfl) (sum_loop (p := .auto) (F := spec_FleetAsk.l0.F k) (spec_FleetAsk.cok k) (by kernel_rfl) (plan_of (L := []) (by kernel_rfl) trivial) (fun _ => rfl) (fun j x y h => (spec_FleetAsk.l0.ev k j x).trans h) k rfl)
theorem spec_FleetAsk.ev (k : Nat) (x : Prod' spec_FleetAsk.sig.ins) : spec_FleetAsk.sig.ev (spec_FleetAsk.C k) (.two .auto (.two .auto (.two .auto (.two .auto (.two .auto (.two (.two .auto (.one (.sum (spec_FleetAsk.l0.s k)))) .auto)))))) Try.f44.results.toList (cB Try.f44) x = spec_FleetAsk k x := by kernel_rfl
theorem spec_FleetAsk.ok (k : Nat) : ConOk Try.prog 44 (spec_FleetAsk.con k) := sig_ok (p := (.two .auto (.two .auto (.two .auto (.two .auto (.two .auto (.two (.two .auto (.one (.sum (spec_FleetAsk.l0.s k)))) .auto))))))) (spec_FleetAsk.cok k) Try.func44 (by kernel_rfl) (show Try.f44.body = some (cB Try.f44) by kernel_rfl) (by kernel_rfl) (by kernel_rfl) (plan_of (L := [(spec_FleetAsk.l0.s k, cO (cR (cL (cR (cR (cR (cR (cR (cB Try.f44)))))))))]) (by kernel_rfl) ⟨spec_FleetAsk.l0.ok k, trivial⟩) (fun x y h => (spec_FleetAsk.ev k x).trans h)
def impl_Fleet_halted (k : Nat) (a1 : G24) : Option (Bool) :=
  Option.bind (impl_Fleet_count k a1 3) fun v2 =>
  some (decide (a1.2.2.1 < v2))
def impl_Fleet_halted.sig : Sig := { ps := [.val true T24 (ros T24)], rs := [.val false [.v .bool]], ntmps := 8 }
def impl_Fleet_halted.con (k : Nat) : Con := impl_Fleet_halted.sig.con (fun x => impl_Fleet_halted k x)
def impl_Fleet_halted.C (k : Nat) : Ctx := { ti := TAB, con := conL [(152, impl_Fleet_count.con k)], rob := true }
theorem impl_Fleet_halted.cok (k : Nat) : CtxOk Try.prog (impl_Fleet_halted.C k) := ctx_ok TABok ⟨impl_Fleet_count.ok k, trivial⟩
theorem impl_Fleet_halted.ev (k : Nat) (x : Prod' impl_Fleet_halted.sig.ins) : impl_Fleet_halted.sig.ev (impl_Fleet_halted.C k) .auto Try.f101.results.toList (cB Try.f101) x = impl_Fleet_halted k x := by kernel_rfl
theorem impl_Fleet_halted.ok (k : Nat) : ConOk Try.prog 101 (impl_Fleet_halted.con k) := sig_ok (p := .auto) (impl_Fleet_halted.cok k) Try.func101 (by kernel_rfl) (show Try.f101.body = some (cB Try.f101) by kernel_rfl) (by kernel_rfl) (by kernel_rfl) (plan_of (L := []) (by kernel_rfl) trivial) (fun x y h => (impl_Fleet_halted.ev k x).trans h)
def impl_FleetAsk.l0 : Nat → Int → List Int → Int → Int → Int → Int → Int → List Int → List Int → List Int → Option ((Int × Int × Int × List Int × List Int × List Int))
  | 0, _, _, _, _, _, _, _, _, _, _ => none
  | j + 1, a1, a2, a3, a4, a5, a6, a7, a8, a9, a10 =>
    bif decide (a4 < a3) then
      Option.bind (at? a2 a4) fun v11 =>
      let e12 := IntKind.wrap .i64 (a4 + 1)
      bif v11 == 0 then
        Option.bind (impl_size_int64 a10) fun v13 =>
        bif decide (v13 < a1) then
          Option.bind (at? a9 a4) fun v14 =>
          Option.bind (at? a9 a4) fun v15 =>
          Option.bind (app? 8 a10 [a4]) fun v16 =>
          impl_FleetAsk.l0 j a1 a2 a3 e12 a5 a6 a7 a8 (List.set a9 (Int.toNat a4) 1) v16
        else
        impl_FleetAsk.l0 j a1 a2 a3 e12 a5 a6 a7 a8 a9 a10
      else
      impl_FleetAsk.l0 j a1 a2 a3 e12 a5 a6 a7 a8 a9 a10
    else
    some (a5, a6, a7, a8, a9, a10)
def impl_FleetAsk (k : Nat) (a1 : G24) : Option (List Int × Int × Int × List Int × List Int × Int) :=
  Option.bind (impl_isFleet k a1) fun v2 =>
  bif !v2 then
    some ([], 0, 0, [], [], 1)
  else
  Option.bind (impl_Fleet_halted k a1) fun v3 =>
  bif v3 then
    some ([], 0, 0, [], [], 10)
  else
  Option.bind (impl_cloneFleet a1) fun v4 =>
  Option.bind (impl_Fleet_share a1) fun v5 =>
  Option.bind (impl_Fleet_left k a1) fun v6 =>
  Option.bind (impl_FleetAsk.l0 k (IntKind.wrap .i64 (v5 - v6)) a1.2.2.2 ((a1.2.2.2.length) : Int) 0 v4.2.1 v4.2.2.1 0 v4.1 v4.2.2.2 []) fun y7 =>
  some (y7.2.2.2.1, y7.1, y7.2.1, y7.2.2.2.2.1, y7.2.2.2.2.2, y7.2.2.1)
def impl_FleetAsk.sig : Sig := { ps := [.val true T24 (ros T24)], rs := [.val true [.own 2 (.int .i64), .v (.int .i64), .v (.int .i64), .own 2 (.int .i64), .own 2 (.int .i64), .v (.int .i64)]], ntmps := 54 }
def impl_FleetAsk.con (k : Nat) : Con := impl_FleetAsk.sig.con (fun x => impl_FleetAsk k x)
def impl_FleetAsk.C (k : Nat) : Ctx := { ti := TAB, con := conL [(72, impl_isFleet.con k), (73, impl_Fleet_share.con k), (92, impl_size_int64.con k), (93, impl_cloneFleet.con k), (101, impl_Fleet_halted.con k), (102, impl_Fleet_left.con k)], rob := true }
theorem impl_FleetAsk.cok (k : Nat) : CtxOk Try.prog (impl_FleetAsk.C k) := ctx_ok TABok ⟨impl_isFleet.ok k, impl_Fleet_share.ok k, impl_size_int64.ok k, impl_cloneFleet.ok k, impl_Fleet_halted.ok k, impl_Fleet_left.ok k, trivial⟩
def impl_FleetAsk.l0.ish : Shape := { tmps := [(3, .one (.ptr 3 0)), (4, .one (.v (.int .i64))), (25, .one (.bor (.int .i64))), (26, .one (.v (.int .i64))), (27, .one (.v (.int .i64)))], slots := [(3, .box 32 [.own 4, .v (.int .i64), .v (.int .i64), .own 5, .own 6, .v (.int .i64)]), (4, .arr false 2 (.int .i64)), (5, .arr false 2 (.int .i64)), (6, .arr false 2 (.int .i64))], nb := 7 }
def impl_FleetAsk.l0.outs : List (Ex × Shape) := [(.exit 1, { tmps := [], slots := [(3, .box 32 [.own 7, .v (.int .i64), .v (.int .i64), .own 8, .own 9, .v (.int .i64)]), (7, .arr false 2 (.int .i64)), (8, .arr false 2 (.int .i64)), (9, .arr false 2 (.int .i64))], nb := 10 })]
def impl_FleetAsk.l0.F (k j : Nat) (x : Prod' impl_FleetAsk.l0.ish.tys) : Option (Outs impl_FleetAsk.l0.outs) := impl_FleetAsk.l0 j x.1 x.2.1 x.2.2.1 x.2.2.2.1 x.2.2.2.2.1 x.2.2.2.2.2.1 x.2.2.2.2.2.2.1 x.2.2.2.2.2.2.2.1 x.2.2.2.2.2.2.2.2.1 x.2.2.2.2.2.2.2.2.2
def impl_FleetAsk.l0.s (k : Nat) : Summ := { n := 54, ish := impl_FleetAsk.l0.ish, outs := impl_FleetAsk.l0.outs, f := impl_FleetAsk.l0.F k k }
theorem impl_FleetAsk.l0.ev (k j : Nat) (x : Prod' impl_FleetAsk.l0.ish.tys) : V (impl_FleetAsk.C k) .auto (cO (cO (cR (cL (cR (cR (cR (cR (cB Try.f45))))))))) (mk impl_FleetAsk.l0.ish 54 x) (fun e st' => match e with | .nrm => (rd impl_FleetAsk.l0.ish st').bind (impl_FleetAsk.l0.F k j) | e => rdOut e st' impl_FleetAsk.l0.outs) = impl_FleetAsk.l0.F k (j + 1) x := by kernel_rfl
theorem impl_FleetAsk.l0.ok (k : Nat) : SumOk Try.prog (impl_FleetAsk.C k) (.loop (cO (cO (cR (cL (cR (cR (cR (cR (cB Try.f45)))))))))) (impl_FleetAsk.l0.s k) := sum_ok (by kernel_rfl) (sum_loop (p := .auto) (F := impl_FleetAsk.l0.F k) (impl_FleetAsk.cok k) (by kernel_rfl) (plan_of (L := []) (by kernel_rfl) trivial) (fun _ => rfl) (fun j x y h => (impl_FleetAsk.l0.ev k j x).trans h) k rfl)
theorem impl_FleetAsk.ev (k : Nat) (x : Prod' impl_FleetAsk.sig.ins) : impl_FleetAsk.sig.ev (impl_FleetAsk.C k) (.two .auto (.two .auto (.two .auto (.two .auto (.two (.two .auto (.one (.sum (impl_FleetAsk.l0.s k)))) .auto))))) Try.f45.results.toList (cB Try.f45) x = impl_FleetAsk k x := by kernel_rfl
theorem impl_FleetAsk.ok (k : Nat) : ConOk Try.prog 45 (impl_FleetAsk.con k) := sig_ok (p := (.two .auto (.two .auto (.two .auto (.two .auto (.two (.two .auto (.one (.sum (impl_FleetAsk.l0.s k)))) .auto)))))) (impl_FleetAsk.cok k) Try.func45 (by kernel_rfl) (show Try.f45.body = some (cB Try.f45) by kernel_rfl) (by kernel_rfl) (by kernel_rfl) (plan_of (L := [(impl_FleetAsk.l0.s k, cO (cR (cL (cR (cR (cR (cR (cB Try.f45))))))))]) (by kernel_rfl) ⟨impl_FleetAsk.l0.ok k, trivial⟩) (fun x y h => (impl_FleetAsk.ev k x).trans h)
end Go.Proofs.YthoibokhmkjkdaaE

namespace Go.Proofs.YthoibokhmkjkdaaE
open Go Go.RowKit
set_option linter.unusedVariables false
def spec_FleetNext (k : Nat) (a1 : G24) : Option (List Int × Int × Int × List Int × List Int × Int) :=
  Option.bind (spec_FleetRight k a1) fun v2 =>
  bif !v2 then
    Option.bind (spec_l21Ill 1) fun v3 =>
    some (v3.1, v3.2.1, v3.2.2.1, v3.2.2.2.1, v3.2.2.2.2.1, v3.2.2.2.2.2)
  else
  Option.bind (spec_Halted k a1) fun v4 =>
  bif v4 then
    Option.bind (spec_l21Ill 10) fun v5 =>
    some (v5.1, v5.2.1, v5.2.2.1, v5.2.2.2.1, v5.2.2.2.2.1, v5.2.2.2.2.2)
  else
  Option.bind (spec_l21Many k a1 1) fun v6 =>
  bif decide (0 < v6) then
    Option.bind (spec_l21Ill 10) fun v7 =>
    some (v7.1, v7.2.1, v7.2.2.1, v7.2.2.2.1, v7.2.2.2.2.1, v7.2.2.2.2.2)
  else
  Option.bind (spec_l21Many k a1 0) fun v8 =>
  Option.bind (spec_l21Share a1) fun v9 =>
  bif decide ((IntKind.wrap .i64 (((a1.2.2.2.length) : Int) - v8)) < v9) then
    Option.bind (spec_l21Ill 10) fun v10 =>
    some (v10.1, v10.2.1, v10.2.2.1, v10.2.2.2.1, v10.2.2.2.2.1, v10.2.2.2.2.2)
  else
  bif a1.2.1 == (IntKind.wrap .i64 (((a1.1.length) : Int) - 1)) then
    Option.bind (spec_l21Ill 8) fun v11 =>
    some (v11.1, v11.2.1, v11.2.2.1, v11.2.2.2.1, v11.2.2.2.2.1, v11.2.2.2.2.2)
  else
  Option.bind (spec_l21Copy a1) fun v12 =>
  some (v12.1, IntKind.wrap .i64 (a1.2.1 + 1), v12.2.2.1, v12.2.2.2, [], 0)
def spec_FleetNext.sig : Sig := { ps := [.val true T24 (ros T24)], rs := [.val true [.own 2 (.int .i64), .v (.int .i64), .v (.int .i64), .own 2 (.int .i64), .own 2 (.int .i64), .v (.int .i64)]], ntmps := 46 }
def spec_FleetNext.con (k : Nat) : Con := spec_FleetNext.sig.con (fun x => spec_FleetNext k x)
def spec_FleetNext.C (k : Nat) : Ctx := { ti := TAB, con := conL [(57, spec_Halted.con k), (59, spec_FleetRight.con k), (71, spec_l21Share.con k), (74, spec_l21Ill.con k), (91, spec_l21Copy.con k), (100, spec_l21Many.con k)], rob := true }
theorem spec_FleetNext.cok (k : Nat) : CtxOk Try.prog (spec_FleetNext.C k) := ctx_ok TABok ⟨spec_Halted.ok k, spec_FleetRight.ok k, spec_l21Share.ok k, spec_l21Ill.ok k, spec_l21Copy.ok k, spec_l21Many.ok k, trivial⟩
theorem spec_FleetNext.ev (k : Nat) (x : Prod' spec_FleetNext.sig.ins) : spec_FleetNext.sig.ev (spec_FleetNext.C k) .auto Try.f46.results.toList (cB Try.f46) x = spec_FleetNext k x := by kernel_rfl
theorem spec_FleetNext.ok (k : Nat) : ConOk Try.prog 46 (spec_FleetNext.con k) := sig_ok (p := .auto) (spec_FleetNext.cok k) Try.func46 (by kernel_rfl) (show Try.f46.body = some (cB Try.f46) by kernel_rfl) (by kernel_rfl) (by kernel_rfl) (plan_of (L := []) (by kernel_rfl) trivial) (fun x y h => (spec_FleetNext.ev k x).trans h)
def slices_Index_int64.l0 : Nat → List Int → Int → Int → Int → Option (Unit ⊕ Int)
  | 0, _, _, _, _ => none
  | j + 1, a1, a2, a3, a4 =>
    bif decide (a4 < a3) then
      Option.bind (at? a1 a4) fun v5 =>
      bif a2 == v5 then
        some (.inr a4)
      else
      slices_Index_int64.l0 j a1 a2 a3 (IntKind.wrap .i64 (a4 + 1))
    else
    some (.inl ())
def slices_Index_int64 (k : Nat) (a1 : List Int) (a2 : Int) : Option (Int) :=
  Option.bind (slices_Index_int64.l0 k a1 a2 ((a1.length) : Int) 0) fun
    | .inl y3 =>
      some (-1)
    | .inr y4 =>
      some y4
def slices_Index_int64.sig : Sig := { ps := [.val false (.sl (.int .i64)) (ros (.sl (.int .i64))), .val false (.int .i64) (ros (.int .i64))], rs := [.val false [.v (.int .i64)]], ntmps := 19 }
def slices_Index_int64.con (k : Nat) : Con := slices_Index_int64.sig.con (fun x => slices_Index_int64 k x.1 x.2)
def slices_Index_int64.C (k : Nat) : Ctx := { ti := TAB, con := conL [] }
theorem slices_Index_int64.cok (k : Nat) : CtxOk Try.prog (slices_Index_int64.C k) := ctx_ok TABok trivial
def slices_Index_int64.l0.ish : Shape := { tmps := [(0, .one (.bor (.int .i64))), (1, .one (.v (.int .i64))), (7, .one (.v (.int .i64))), (8, .one (.v (.int .i64)))], slots := [], nb := 0 }
def slices_Index_int64.l0.outs : List (Ex × Shape) := [(.exit 0, { tmps := [], slots := [], nb := 0 }), (.ret, { tmps := [(4, .one (.v (.int .i64)))], slots := [], nb := 0 })]
def slices_Index_int64.l0.F (k j : Nat) (x : Prod' slices_Index_int64.l0.ish.tys) : Option (Outs slices_Index_int64.l0.outs) := slices_Index_int64.l0 j x.1 x.2.1 x.2.2.1 x.2.2.2
def slices_Index_int64.l0.s (k : Nat) : Summ := { n := 19, ish := slices_Index_int64.l0.ish, outs := slices_Index_int64.l0.outs, f := slices_Index_int64.l0.F k k }
theorem slices_Index_int64.l0.ev (k j : Nat) (x : Prod' slices_Index_int64.l0.ish.tys) : V (slices_Index_int64.C k) .auto (cO (cO (cR (cL (cR (cB Try.f153)))))) (mk slices_Index_int64.l0.ish 19 x) (fun e st' => match e with | .nrm => (rd slices_Index_int64.l0.ish st').bind (slices_Index_int64.l0.F k j) | e => rdOut e st' slices_Index_int64.l0.outs) = slices_Index_int64.l0.F k (j + 1) x := by kernel_rfl
theorem slices_Index_int64.l0.ok (k : Nat) : SumOk Try.prog (slices_Index_int64.C k) (.loop (cO (cO (cR (cL (cR (cB Try.f153))))))) (slices_Index_int64.l0.s k) := sum_ok (by kernel_rfl) (sum_loop (p := .auto) (F := slices_Index_int64.l0.F k) (slices_Index_int64.cok k) (by kernel_rfl) (plan_of (L := []) (by kernel_rfl) trivial) (fun _ => rfl) (fun j x y h => (slices_Index_int64.l0.ev k j x).trans h) k rfl)
theorem slices_Index_int64.ev (k : Nat) (x : Prod' slices_Index_int64.sig.ins) : slices_Index_int64.sig.ev (slices_Index_int64.C k) (.two .auto (.two (.two .auto (.one (.sum (slices_Index_int64.l0.s k)))) .auto)) Try.f153.results.toList (cB Try.f153) x = slices_Index_int64 k x.1 x.2 := by kernel_rfl
theorem slices_Index_int64.ok (k : Nat) : ConOk Try.prog 153 (slices_Index_int64.con k) := sig_ok (p := (.two .auto (.two (.two .auto (.one (.sum (slices_Index_int64.l0.s k)))) .auto))) (slices_Index_int64.cok k) Try.func153 (by kernel_rfl) (show Try.f153.body = some (cB Try.f153) by kernel_rfl) (by kernel_rfl) (by kernel_rfl) (plan_of (L := [(slices_Index_int64.l0.s k, cO (cR (cL (cR (cB Try.f153)))))]) (by kernel_rfl) ⟨slices_Index_int64.l0.ok k, trivial⟩) (fun x y h => (slices_Index_int64.ev k x).trans h)
def slices_Contains_int64 (k : Nat) (a1 : List Int) (a2 : Int) : Option (Bool) :=
  Option.bind (slices_Index_int64 k a1 a2) fun v3 =>
  some (decide (0 ≤ v3))
def slices_Contains_int64.sig : Sig := { ps := [.val false (.sl (.int .i64)) (ros (.sl (.int .i64))), .val false (.int .i64) (ros (.int .i64))], rs := [.val false [.v .bool]], ntmps := 9 }
def slices_Contains_int64.con (k : Nat) : Con := slices_Contains_int64.sig.con (fun x => slices_Contains_int64 k x.1 x.2)
def slices_Contains_int64.C (k : Nat) : Ctx := { ti := TAB, con := conL [(153, slices_Index_int64.con k)] }
theorem slices_Contains_int64.cok (k : Nat) : CtxOk Try.prog (slices_Contains_int64.C k) := ctx_ok TABok ⟨slices_Index_int64.ok k, trivial⟩
theorem slices_Contains_int64.ev (k : Nat) (x : Prod' slices_Contains_int64.sig.ins) : slices_Contains_int64.sig.ev (slices_Contains_int64.C k) .auto Try.f103.results.toList (cB Try.f103) x = slices_Contains_int64 k x.1 x.2 := by kernel_rfl
theorem slices_Contains_int64.ok (k : Nat) : ConOk Try.prog 103 (slices_Contains_int64.con k) := sig_ok (p := .auto) (slices_Contains_int64.cok k) Try.func103 (by kernel_rfl) (show Try.f103.body = some (cB Try.f103) by kernel_rfl) (by kernel_rfl) (by kernel_rfl) (plan_of (L := []) (by kernel_rfl) trivial) (fun x y h => (slices_Contains_int64.ev k x).trans h)
def impl_FleetNext (k : Nat) (a1 : G24) : Option (List Int × Int × Int × List Int × List Int × Int) :=
  Option.bind (impl_isFleet k a1) fun v2 =>
  bif !v2 then
    some ([], 0, 0, [], [], 1)
  else
  Option.bind (impl_Fleet_halted k a1) fun v3 =>
  bif v3 then
    some ([], 0, 0, [], [], 10)
  else
  Option.bind (slices_Contains_int64 k a1.2.2.2 1) fun v4 =>
  bif v4 then
    some ([], 0, 0, [], [], 10)
  else
  Option.bind (impl_Fleet_left k a1) fun v5 =>
  Option.bind (impl_Fleet_share a1) fun v6 =>
  bif decide (v5 < v6) then
    some ([], 0, 0, [], [], 10)
  else
  Option.bind (impl_size_int64 a1.1) fun v7 =>
  bif a1.2.1 == (IntKind.wrap .i64 (v7 - 1)) then
    some ([], 0, 0, [], [], 8)
  else
  Option.bind (impl_cloneFleet a1) fun v8 =>
  some (v8.1, IntKind.wrap .i64 (v8.2.1 + 1), v8.2.2.1, v8.2.2.2, [], 0)
def impl_FleetNext.sig : Sig := { ps := [.val true T24 (ros T24)], rs := [.val true [.own 2 (.int .i64), .v (.int .i64), .v (.int .i64), .own 2 (.int .i64), .own 2 (.int .i64), .v (.int .i64)]], ntmps := 44 }
def impl_FleetNext.con (k : Nat) : Con := impl_FleetNext.sig.con (fun x => impl_FleetNext k x)
def impl_FleetNext.C (k : Nat) : Ctx := { ti := TAB, con := conL [(72, impl_isFleet.con k), (73, impl_Fleet_share.con k), (92, impl_size_int64.con k), (93, impl_cloneFleet.con k), (101, impl_Fleet_halted.con k), (102, impl_Fleet_left.con k), (103, slices_Contains_int64.con k)], rob := true }
theorem impl_FleetNext.cok (k : Nat) : CtxOk Try.prog (impl_FleetNext.C k) := ctx_ok TABok ⟨impl_isFleet.ok k, impl_Fleet_share.ok k, impl_size_int64.ok k, impl_cloneFleet.ok k, impl_Fleet_halted.ok k, impl_Fleet_left.ok k, slices_Contains_int64.ok k, trivial⟩
theorem impl_FleetNext.ev (k : Nat) (x : Prod' impl_FleetNext.sig.ins) : impl_FleetNext.sig.ev (impl_FleetNext.C k) .auto Try.f47.results.toList (cB Try.f47) x = impl_FleetNext k x := by kernel_rfl
theorem impl_FleetNext.ok (k : Nat) : ConOk Try.prog 47 (impl_FleetNext.con k) := sig_ok (p := .auto) (impl_FleetNext.cok k) Try.func47 (by kernel_rfl) (show Try.f47.body = some (cB Try.f47) by kernel_rfl) (by kernel_rfl) (by kernel_rfl) (plan_of (L := []) (by kernel_rfl) trivial) (fun x y h => (impl_FleetNext.ev k x).trans h)
def spec_l01Source.l0 : Nat → List Int → Int → List Int → Int → Int → Int → Option ((List Int × Int × Int × Int))
  | 0, _, _, _, _, _, _ => none
  | j + 1, a1, a2, a3, a4, a5, a6 =>
    bif (decide (a2 < ((a1.length) : Int))) && (decide (a2 < 64)) then
      Option.bind (at? a1 a2) fun v7 =>
      spec_l01Source.l0 j a1 (IntKind.wrap .i64 (a2 + 1)) a3 a4 (IntKind.wrap .u64 ((intBits .xor .u64 a5 (IntKind.wrap .u64 v7)) * 1099511628211)) a6
    else
    some (a3, a4, a5, a6)
def spec_l01Source (k : Nat) (a1 : List Int) : Option (List Int × Int × Int × Int) :=
  Option.bind (spec_l01Source.l0 k a1 0 a1 0 88172645463325252 0) fun y2 =>
  Option.bind (nz? 20) fun v3 =>
  let e4 := IntKind.wrap .i64 (Int.tdiv ((a1.length) : Int) 20)
  bif decide (12 < e4) then
    some (y2.1, y2.2.1, y2.2.2.1, 12)
  else
  some (y2.1, y2.2.1, y2.2.2.1, e4)
def spec_l01Source.sig : Sig := { ps := [.val false (.sl (.int .u8)) (kept (.sl (.int .u8)))], rs := [.box 176 [.v (.sl (.int .u8)), .v (.int .i64), .v (.int .u64), .v (.int .i64)]], ntmps := 47 }
def spec_l01Source.con (k : Nat) : Con := spec_l01Source.sig.con (fun x => spec_l01Source k x)
def spec_l01Source.C (k : Nat) : Ctx := { ti := TAB, con := conL [] }
theorem spec_l01Source.cok (k : Nat) : CtxOk Try.prog (spec_l01Source.C k) := ctx_ok TABok trivial
def spec_l01Source.l0.ish : Shape := { tmps := [(0, .one (.v (.sl (.int .u8)))), (3, .one (.ptr 0 0)), (4, .one (.v (.int .i64)))], slots := [(0, .box 176 [.v (.sl (.int .u8)), .v (.int .i64), .v (.int .u64), .v (.int .i64)])], nb := 1 }
def spec_l01Source.l0.outs : List (Ex × Shape) := [(.exit 0, { tmps := [], slots := [(0, .box 176 [.v (.sl (.int .u8)), .v (.int .i64), .v (.int .u64), .v (.int .i64)])], nb := 1 })]
def spec_l01Source.l0.F (k j : Nat) (x : Prod' spec_l01Source.l0.ish.tys) : Option (Outs spec_l01Source.l0.outs) := spec_l01Source.l0 j x.1 x.2.1 x.2.2.1 x.2.2.2.1 x.2.2.2.2.1 x.2.2.2.2.2
def spec_l01Source.l0.s (k : Nat) : Summ := { n := 47, ish := spec_l01Source.l0.ish, outs := spec_l01Source.l0.outs, f := spec_l01Source.l0.F k k }
theorem spec_l01Source.l0.ev (k j : Nat) (x : Prod' spec_l01Source.l0.ish.tys) : V (spec_l01Source.C k) .auto (cO (cO (cR (cL (cR (cR (cB Try.f108))))))) (mk spec_l01Source.l0.ish 47 x) (fun e st' => match e with | .nrm => (rd spec_l01Source.l0.ish st').bind (spec_l01Source.l0.F k j) | e => rdOut e st' spec_l01Source.l0.outs) = spec_l01Source.l0.F k (j + 1) x := by kernel_rfl
theorem spec_l01Source.l0.ok (k : Nat) : SumOk Try.prog (spec_l01Source.C k) (.loop (cO (cO (cR (cL (cR (cR (cB Try.f108)))))))) (spec_l01Source.l0.s k) := sum_ok (by kernel_rfl) (sum_loop (p := .auto) (F := spec_l01Source.l0.F k) (spec_l01Source.cok k) (by kernel_rfl) (plan_of (L := []) (by kernel_rfl) trivial) (fun _ => rfl) (fun j x y h => (spec_l01Source.l0.ev k j x).trans h) k rfl)
theorem spec_l01Source.ev (k : Nat) (x : Prod' spec_l01Source.sig.ins) : spec_l01Source.sig.ev (spec_l01Source.C k) (.two .auto (.two .auto (.two (.two .auto (.one (.sum (spec_l01Source.l0.s k)))) .auto))) Try.f108.results.toList (cB Try.f108) x = spec_l01Source k x := by kernel_rfl
theorem spec_l01Source.ok (k : Nat) : ConOk Try.prog 108 (spec_l01Source.con k) := sig_ok (p := (.two .auto (.two .auto (.two (.two .auto (.one (.sum (spec_l01Source.l0.s k)))) .auto)))) (spec_l01Source.cok k) Try.func108 (by kernel_rfl) (show Try.f108.body = some (cB Try.f108) by kernel_rfl) (by kernel_rfl) (by kernel_rfl) (plan_of (L := [(spec_l01Source.l0.s k, cO (cR (cL (cR (cR (cB Try.f108))))))]) (by kernel_rfl) ⟨spec_l01Source.l0.ok k, trivial⟩) (fun x y h => (spec_l01Source.ev k x).trans h)
def spec_l01Src_n.j0 (a1 : Int) (a2 : List Int) (a3 : Int) (a4 : Int) (a5 : Int) : Option ((Int × List Int × Int × Int × Int)) :=
  bif decide (a3 < ((a2.length) : Int)) then
    Option.bind (at? a2 a3) fun v6 =>
    some (IntKind.wrap .u64 v6, a2, IntKind.wrap .i64 (a3 + 1), a4, a5)
  else
  some (a1, a2, a3, a4, a5)
def spec_l01Src_n (a1 : G176) (a2 : Int) : Option (Int × List Int × Int × Int × Int) :=
  bif decide (a2 ≤ 1) then
    some (0, a1.1, a1.2.1, a1.2.2.1, a1.2.2.2)
  else
  Option.bind (spec_l01Src_n.j0 0 a1.1 a1.2.1 a1.2.2.1 a1.2.2.2) fun y3 =>
  Option.bind (nneg? 13) fun v4 =>
  Option.bind (nneg? 7) fun v5 =>
  Option.bind (nneg? 17) fun v6 =>
  Option.bind (nneg? 20) fun v7 =>
  Option.bind (nz? (IntKind.wrap .u64 a2)) fun v8 =>
  let e9 := intBits .xor .u64 y3.2.2.2.1 (shl .u64 y3.2.2.2.1 13)
  let e10 := intBits .xor .u64 e9 (shr .u64 e9 7)
  let e11 := intBits .xor .u64 e10 (shl .u64 e10 17)
  some (IntKind.wrap .i64 (Int.tmod (IntKind.wrap .u64 (y3.1 + (shr .u64 e11 20))) (IntKind.wrap .u64 a2)), y3.2.1, y3.2.2.1, e11, y3.2.2.2.2)
def spec_l01Src_n.sig : Sig := { ps := [.ref 176 T176 (kept T176), .val false (.int .i64) (ros (.int .i64))], rs := [.val false [.v (.int .i64)]], ntmps := 87 }
def spec_l01Src_n.con (k : Nat) : Con := spec_l01Src_n.sig.con (fun x => spec_l01Src_n x.1 x.2)
def spec_l01Src_n.C (k : Nat) : Ctx := { ti := TAB, con := conL [] }
theorem spec_l01Src_n.cok (k : Nat) : CtxOk Try.prog (spec_l01Src_n.C k) := ctx_ok TABok trivial
def spec_l01Src_n.j0.ish : Shape := { tmps := [(0, .one (.ptr 0 0)), (5, .one (.v (.int .u64)))], slots := [(0, .box 176 [.v (.sl (.int .u8)), .v (.int .i64), .v (.int .u64), .v (.int .i64)])], nb := 1 }
def spec_l01Src_n.j0.outs : List (Ex × Shape) := [(.nrm, { tmps := [(5, .one (.v (.int .u64)))], slots := [(0, .box 176 [.v (.sl (.int .u8)), .v (.int .i64), .v (.int .u64), .v (.int .i64)])], nb := 1 })]
def spec_l01Src_n.j0.F (k : Nat) (x : Prod' spec_l01Src_n.j0.ish.tys) : Option (Outs spec_l01Src_n.j0.outs) := spec_l01Src_n.j0 x.1 x.2.1 x.2.2.1 x.2.2.2.1 x.2.2.2.2
def spec_l01Src_n.j0.s (k : Nat) : Summ := { n := 87, ish := spec_l01Src_n.j0.ish, outs := spec_l01Src_n.j0.outs, f := spec_l01Src_n.j0.F k }
theorem spec_l01Src_n.j0.ev (k : Nat) (x : Prod' spec_l01Src_n.j0.ish.tys) : V (spec_l01Src_n.C k) .auto (cL (cR (cR (cR (cB Try.f112))))) (mk spec_l01Src_n.j0.ish 87 x) (fun e st' => rdOut e st' spec_l01Src_n.j0.outs) = spec_l01Src_n.j0.F k x := by kernel_rfl
theorem spec_l01Src_n.j0.ok (k : Nat) : SumOk Try.prog (spec_l01Src_n.C k) (cL (cR (cR (cR (cB Try.f112))))) (spec_l01Src_n.j0.s k) := sum_ok (by kernel_rfl) (sum_code (p := .auto) (spec_l01Src_n.cok k) (by kernel_rfl) (plan_of (L := []) (by kernel_rfl) trivial) (fun x y h => (spec_l01Src_n.j0.ev k x).trans h))
theorem spec_l01Src_n.ev (k : Nat) (x : Prod' spec_l01Src_n.sig.ins) : spec_l01Src_n.sig.ev (spec_l01Src_n.C k) (.two .auto (.two .auto (.two .auto (.two (.sum (spec_l01Src_n.j0.s k)) .auto)))) Try.f112.results.toList (cB Try.f112) x = spec_l01Src_n x.1 x.2 := by kernel_rfl
theorem spec_l01Src_n.ok (k : Nat) : ConOk Try.prog 112 (spec_l01Src_n.con k) := sig_ok (p := (.two .auto (.two .auto (.two .auto (.two (.sum (spec_l01Src_n.j0.s k)) .auto))))) (spec_l01Src_n.cok k) Try.func112 (by kernel_rfl) (show Try.f112.body = some (cB Try.f112) by kernel_rfl) (by kernel_rfl) (by kernel_rfl) (plan_of (L := [(spec_l01Src_n.j0.s k, cL (cR (cR (cR (cB Try.f112)))))]) (by kernel_rfl) ⟨spec_l01Src_n.j0.ok k, trivial⟩) (fun x y h => (spec_l01Src_n.ev k x).trans h)
def spec_l01Src_one (a1 : G176) (a2 : Int) : Option (Bool × List Int × Int × Int × Int) :=
  Option.bind (spec_l01Src_n a1 a2) fun v3 =>
  some (v3.1 == 0, v3.2.1, v3.2.2.1, v3.2.2.2.1, v3.2.2.2.2)
def spec_l01Src_one.sig : Sig := { ps := [.ref 176 T176 (kept T176), .val false (.int .i64) (ros (.int .i64))], rs := [.val false [.v .bool]], ntmps := 9 }
def spec_l01Src_one.con (k : Nat) : Con := spec_l01Src_one.sig.con (fun x => spec_l01Src_one x.1 x.2)
def spec_l01Src_one.C (k : Nat) : Ctx := { ti := TAB, con := conL [(112, spec_l01Src_n.con k)] }
theorem spec_l01Src_one.cok (k : Nat) : CtxOk Try.prog (spec_l01Src_one.C k) := ctx_ok TABok ⟨spec_l01Src_n.ok k, trivial⟩
theorem spec_l01Src_one.ev (k : Nat) (x : Prod' spec_l01Src_one.sig.ins) : spec_l01Src_one.sig.ev (spec_l01Src_one.C k) .auto Try.f110.results.toList (cB Try.f110) x = spec_l01Src_one x.1 x.2 := by kernel_rfl
theorem spec_l01Src_one.ok (k : Nat) : ConOk Try.prog 110 (spec_l01Src_one.con k) := sig_ok (p := .auto) (spec_l01Src_one.cok k) Try.func110 (by kernel_rfl) (show Try.f110.body = some (cB Try.f110) by kernel_rfl) (by kernel_rfl) (by kernel_rfl) (plan_of (L := []) (by kernel_rfl) trivial) (fun x y h => (spec_l01Src_one.ev k x).trans h)
def spec_l01Src_l21New (k : Nat) (a1 : G176) : Option (List Int × Int × Int × List Int × List Int × Int × Int × Int) :=
  Option.bind (spec_l01Src_n a1 4) fun v2 =>
  let e3 := at? ([[100], [10, 50, 100], [1, 100], [25, 50, 75, 100]]) v2.1
  Option.bind (e3) fun v4 =>
  Option.bind (e3) fun v5 =>
  Option.bind (spec_l01Src_n v2.2 9) fun v6 =>
  Option.bind (spec_l01Src_n v6.2 3) fun v7 =>
  Option.bind (spec_FleetNew k (IntKind.wrap .i64 (1 + v6.1)) v5 v7.1) fun v8 =>
  some (v8.1, v8.2.1, v8.2.2.1, v8.2.2.2.1, v7.2.1, v7.2.2.1, v7.2.2.2.1, v7.2.2.2.2)
def spec_l01Src_l21New.sig : Sig := { ps := [.ref 176 T176 (kept T176)], rs := [.val true [.own 2 (.int .i64), .v (.int .i64), .v (.int .i64), .own 2 (.int .i64)]], ntmps := 23 }
def spec_l01Src_l21New.con (k : Nat) : Con := spec_l01Src_l21New.sig.con (fun x => spec_l01Src_l21New k x)
def spec_l01Src_l21New.C (k : Nat) : Ctx := { ti := TAB, con := conL [(20, spec_FleetNew.con k), (112, spec_l01Src_n.con k)] }
theorem spec_l01Src_l21New.cok (k : Nat) : CtxOk Try.prog (spec_l01Src_l21New.C k) := ctx_ok TABok ⟨spec_FleetNew.ok k, spec_l01Src_n.ok k, trivial⟩
theorem spec_l01Src_l21New.ev (k : Nat) (x : Prod' spec_l01Src_l21New.sig.ins) : spec_l01Src_l21New.sig.ev (spec_l01Src_l21New.C k) .auto Try.f113.results.toList (cB Try.f113) x = spec_l01Src_l21New k x := by kernel_rfl
theorem spec_l01Src_l21New.ok (k : Nat) : ConOk Try.prog 113 (spec_l01Src_l21New.con k) := sig_ok (p := .auto) (spec_l01Src_l21New.cok k) Try.func113 (by kernel_rfl) (show Try.f113.body = some (cB Try.f113) by kernel_rfl) (by kernel_rfl) (by kernel_rfl) (plan_of (L := []) (by kernel_rfl) trivial) (fun x y h => (spec_l01Src_l21New.ev k x).trans h)
def spec_l01Src_l21Fleet.l0 (k : Nat) : Nat → Int → List Int → Int → Int → Int → Int → Int → List Int → List Int → Option ((List Int × Int × Int × Int × Int × Int × List Int × List Int))
  | 0, _, _, _, _, _, _, _, _, _ => none
  | j + 1, a1, a2, a3, a4, a5, a6, a7, a8, a9 =>
    bif decide (0 < a1) then
      Option.bind (spec_l01Src_n (a2, (a3, (a4, a5))) ((a9.length) : Int)) fun v10 =>
      Option.bind (spec_l01Src_one v10.2 5) fun v11 =>
      let e12 := (a8, (a6, (a7, a9)))
      Option.bind (spec_FleetTell k e12 v10.1 (!v11.1)) fun v13 =>
      Option.bind (spec_l01Src_n v11.2 4) fun v14 =>
      let e15 := IntKind.wrap .i64 (a1 - 1)
      bif v14.1 == 0 then
        Option.bind (spec_FleetAsk k e12) fun v16 =>
        bif v16.2.2.2.2.2 == 0 then
          spec_l01Src_l21Fleet.l0 k j e15 v14.2.1 v14.2.2.1 v14.2.2.2.1 v14.2.2.2.2 v16.2.1 v16.2.2.1 v16.1 v16.2.2.2.1
        else
        spec_l01Src_l21Fleet.l0 k j e15 v14.2.1 v14.2.2.1 v14.2.2.2.1 v14.2.2.2.2 a6 a7 a8 a9
      else
      bif v14.1 == 1 then
        Option.bind (spec_FleetNext k e12) fun v17 =>
        bif v17.2.2.2.2.2 == 0 then
          spec_l01Src_l21Fleet.l0 k j e15 v14.2.1 v14.2.2.1 v14.2.2.2.1 v14.2.2.2.2 v17.2.1 v17.2.2.1 v17.1 v17.2.2.2.1
        else
        spec_l01Src_l21Fleet.l0 k j e15 v14.2.1 v14.2.2.1 v14.2.2.2.1 v14.2.2.2.2 a6 a7 a8 a9
      else
      bif v13.2.2.2.2.2 == 0 then
        spec_l01Src_l21Fleet.l0 k j e15 v14.2.1 v14.2.2.1 v14.2.2.2.1 v14.2.2.2.2 v13.2.1 v13.2.2.1 v13.1 v13.2.2.2.1
      else
      spec_l01Src_l21Fleet.l0 k j e15 v14.2.1 v14.2.2.1 v14.2.2.2.1 v14.2.2.2.2 a6 a7 a8 a9
    else
    some (a2, a3, a4, a5, a6, a7, a8, a9)
def spec_l01Src_l21Fleet (k : Nat) (a1 : G176) : Option (List Int × Int × Int × List Int × List Int × Int × Int × Int) :=
  Option.bind (spec_l01Src_l21New k a1) fun v2 =>
  Option.bind (spec_l01Src_n v2.2.2.2.2 16) fun v3 =>
  Option.bind (spec_l01Src_l21Fleet.l0 k k v3.1 v3.2.1 v3.2.2.1 v3.2.2.2.1 v3.2.2.2.2 v2.2.1 v2.2.2.1 v2.1 v2.2.2.2.1) fun y4 =>
  Option.bind (spec_l01Src_one (y4.1, (y4.2.1, (y4.2.2.1, y4.2.2.2.1))) 12) fun v5 =>
  bif v5.1 then
    Option.bind (spec_l01Src_n v5.2 4) fun v6 =>
    bif v6.1 == 0 then
      Option.bind (spec_l01Src_n v6.2 5) fun v7 =>
      some (y4.2.2.2.2.2.2.1, IntKind.wrap .i64 (v7.1 - 1), y4.2.2.2.2.2.1, y4.2.2.2.2.2.2.2, v7.2.1, v7.2.2.1, v7.2.2.2.1, v7.2.2.2.2)
    else
    bif v6.1 == 1 then
      Option.bind (spec_l01Src_n v6.2 5) fun v8 =>
      let e9 := at? y4.2.2.2.2.2.2.2 0
      Option.bind (e9) fun v10 =>
      Option.bind (e9) fun v11 =>
      some (y4.2.2.2.2.2.2.1, y4.2.2.2.2.1, y4.2.2.2.2.2.1, List.set y4.2.2.2.2.2.2.2 (Int.toNat 0) (IntKind.wrap .i64 (v8.1 - 1)), v8.2.1, v8.2.2.1, v8.2.2.2.1, v8.2.2.2.2)
    else
    bif v6.1 == 2 then
      Option.bind (spec_l01Src_n v6.2 3) fun v12 =>
      let e13 := at? [(-1), 12, 13] v12.1
      Option.bind (e13) fun v14 =>
      Option.bind (e13) fun v15 =>
      some (y4.2.2.2.2.2.2.1, y4.2.2.2.2.1, v15, y4.2.2.2.2.2.2.2, v12.2.1, v12.2.2.1, v12.2.2.2.1, v12.2.2.2.2)
    else
    Option.bind (spec_l01Src_n v6.2 102) fun v16 =>
    let e17 := at? y4.2.2.2.2.2.2.1 0
    Option.bind (e17) fun v18 =>
    Option.bind (e17) fun v19 =>
    some (List.set y4.2.2.2.2.2.2.1 (Int.toNat 0) v16.1, y4.2.2.2.2.1, y4.2.2.2.2.2.1, y4.2.2.2.2.2.2.2, v16.2.1, v16.2.2.1, v16.2.2.2.1, v16.2.2.2.2)
  else
  some (y4.2.2.2.2.2.2.1, y4.2.2.2.2.1, y4.2.2.2.2.2.1, y4.2.2.2.2.2.2.2, v5.2.1, v5.2.2.1, v5.2.2.2.1, v5.2.2.2.2)
def spec_l01Src_l21Fleet.sig : Sig := { ps := [.ref 176 T176 (kept T176)], rs := [.val true [.own 2 (.int .i64), .v (.int .i64), .v (.int .i64), .own 2 (.int .i64)]], ntmps := 71 }
def spec_l01Src_l21Fleet.con (k : Nat) : Con := spec_l01Src_l21Fleet.sig.con (fun x => spec_l01Src_l21Fleet k x)
def spec_l01Src_l21Fleet.C (k : Nat) : Ctx := { ti := TAB, con := conL [(36, spec_FleetTell.con k), (44, spec_FleetAsk.con k), (46, spec_FleetNext.con k), (110, spec_l01Src_one.con k), (112, spec_l01Src_n.con k), (113, spec_l01Src_l21New.con k)] }
theorem spec_l01Src_l21Fleet.cok (k : Nat) : CtxOk Try.prog (spec_l01Src_l21Fleet.C k) := ctx_ok TABok ⟨spec_FleetTell.ok k, spec_FleetAsk.ok k, spec_FleetNext.ok k, spec_l01Src_one.ok k, spec_l01Src_n.ok k, spec_l01Src_l21New.ok k, trivial⟩
def spec_l01Src_l21Fleet.l0.ish : Shape := { tmps := [(0, .one (.ptr 0 0)), (3, .one (.ptr 4 0)), (4, .one (.v (.int .i64)))], slots := [(0, .box 176 [.v (.sl (.int .u8)), .v (.int .i64), .v (.int .u64), .v (.int .i64)]), (4, .box 27 [.own 5, .v (.int .i64), .v (.int .i64), .own 6]), (5, .arr false 2 (.int .i64)), (6, .arr false 2 (.int .i64))], nb := 7 }
def spec_l01Src_l21Fleet.l0.outs : List (Ex × Shape) := [(.exit 0, { tmps := [], slots := [(0, .box 176 [.v (.sl (.int .u8)), .v (.int .i64), .v (.int .u64), .v (.int .i64)]), (4, .box 27 [.own 7, .v (.int .i64), .v (.int .i64), .own 8]), (7, .arr false 2 (.int .i64)), (8, .arr false 2 (.int .i64))], nb := 9 })]
def spec_l01Src_l21Fleet.l0.F (k j : Nat) (x : Prod' spec_l01Src_l21Fleet.l0.ish.tys) : Option (Outs spec_l01Src_l21Fleet.l0.outs) := spec_l01Src_l21Fleet.l0 k j x.1 x.2.1 x.2.2.1 x.2.2.2.1 x.2.2.2.2.1 x.2.2.2.2.2.1 x.2.2.2.2.2.2.1 x.2.2.2.2.2.2.2.1 x.2.2.2.2.2.2.2.2
def spec_l01Src_l21Fleet.l0.s (k : Nat) : Summ := { n := 71, ish := spec_l01Src_l21Fleet.l0.ish, outs := spec_l01Src_l21Fleet.l0.outs, f := spec_l01Src_l21Fleet.l0.F k k }
theorem spec_l01Src_l21Fleet.l0.ev (k j : Nat) (x : Prod' spec_l01Src_l21Fleet.l0.ish.tys) : V (spec_l01Src_l21Fleet.C k) .auto (cO (cO (cR (cL (cR (cR (cB Try.f109))))))) (mk spec_l01Src_l21Fleet.l0.ish 71 x) (fun e st' => match e with | .nrm => (rd spec_l01Src_l21Fleet.l0.ish st').bind (spec_l01Src_l21Fleet.l0.F k j) | e => rdOut e st' spec_l01Src_l21Fleet.l0.outs) = spec_l01Src_l21Fleet.l0.F k (j + 1) x := by kernel_rfl
theorem spec_l01Src_l21Fleet.l0.ok (k : Nat) : SumOk Try.prog (spec_l01Src_l21Fleet.C k) (.loop (cO (cO (cR (cL (cR (cR (cB Try.f109)))))))) (spec_l01Src_l21Fleet.l0.s k) := sum_ok (by kernel_rfl) (sum_loop (p := .auto) (F := spec_l01Src_l21Fleet.l0.F k) (spec_l01Src_l21Fleet.cok k) (by kernel_rfl) (plan_of (L := []) (by kernel_rfl) trivial) (fun _ => rfl) (fun j x y h => (spec_l01Src_l21Fleet.l0.ev k j x).trans h) k rfl)
theorem spec_l01Src_l21Fleet.ev (k : Nat) (x : Prod' spec_l01Src_l21Fleet.sig.ins) : spec_l01Src_l21Fleet.sig.ev (spec_l01Src_l21Fleet.C k) (.two .auto (.two .auto (.two (.two .auto (.one (.sum (spec_l01Src_l21Fleet.l0.s k)))) .auto))) Try.f109.results.toList (cB Try.f109) x = spec_l01Src_l21Fleet k x := by kernel_rfl
theorem spec_l01Src_l21Fleet.ok (k : Nat) : ConOk Try.prog 109 (spec_l01Src_l21Fleet.con k) := sig_ok (p := (.two .auto (.two .auto (.two (.two .auto (.one (.sum (spec_l01Src_l21Fleet.l0.s k)))) .auto)))) (spec_l01Src_l21Fleet.cok k) Try.func109 (by kernel_rfl) (show Try.f109.body = some (cB Try.f109) by kernel_rfl) (by kernel_rfl) (by kernel_rfl) (plan_of (L := [(spec_l01Src_l21Fleet.l0.s k, cO (cR (cL (cR (cR (cB Try.f109))))))]) (by kernel_rfl) ⟨spec_l01Src_l21Fleet.l0.ok k, trivial⟩) (fun x y h => (spec_l01Src_l21Fleet.ev k x).trans h)
def spec_DrawFleetAsk (k : Nat) (a1 : List Int) : Option (List Int × Int × Int × List Int) :=
  Option.bind (spec_l01Source k a1) fun v2 =>
  Option.bind (spec_l01Src_l21Fleet k v2) fun v3 =>
  some (v3.1, v3.2.1, v3.2.2.1, v3.2.2.2.1)
def spec_DrawFleetAsk.sig : Sig := { ps := [.val false (.sl (.int .u8)) (kept (.sl (.int .u8)))], rs := [.val true [.own 2 (.int .i64), .v (.int .i64), .v (.int .i64), .own 2 (.int .i64)]], ntmps := 6 }
def spec_DrawFleetAsk.con (k : Nat) : Con := spec_DrawFleetAsk.sig.con (fun x => spec_DrawFleetAsk k x)
def spec_DrawFleetAsk.C (k : Nat) : Ctx := { ti := TAB, con := conL [(108, spec_l01Source.con k), (109, spec_l01Src_l21Fleet.con k)] }
theorem spec_DrawFleetAsk.cok (k : Nat) : CtxOk Try.prog (spec_DrawFleetAsk.C k) := ctx_ok TABok ⟨spec_l01Source.ok k, spec_l01Src_l21Fleet.ok k, trivial⟩
theorem spec_DrawFleetAsk.ev (k : Nat) (x : Prod' spec_DrawFleetAsk.sig.ins) : spec_DrawFleetAsk.sig.ev (spec_DrawFleetAsk.C k) .auto Try.f51.results.toList (cB Try.f51) x = spec_DrawFleetAsk k x := by kernel_rfl
theorem spec_DrawFleetAsk.ok (k : Nat) : ConOk Try.prog 51 (spec_DrawFleetAsk.con k) := sig_ok (p := .auto) (spec_DrawFleetAsk.cok k) Try.func51 (by kernel_rfl) (show Try.f51.body = some (cB Try.f51) by kernel_rfl) (by kernel_rfl) (by kernel_rfl) (plan_of (L := []) (by kernel_rfl) trivial) (fun x y h => (spec_DrawFleetAsk.ev k x).trans h)
def spec_l01Src_edge (a1 : G176) : Option (Int × List Int × Int × Int × Int) :=
  Option.bind (spec_l01Src_n a1 14) fun v2 =>
  let e3 := at? [0, 1, (-1), 2, 1000, 1001, 2147483648, 2147483647, (-2147483648), 4611686018427387904, 9223372036854775807, (-9223372036854775808), 1000000, 1000001] v2.1
  Option.bind (e3) fun v4 =>
  Option.bind (e3) fun v5 =>
  some (v5, v2.2.1, v2.2.2.1, v2.2.2.2.1, v2.2.2.2.2)
def spec_l01Src_edge.sig : Sig := { ps := [.ref 176 T176 (kept T176)], rs := [.val false [.v (.int .i64)]], ntmps := 8 }
def spec_l01Src_edge.con (k : Nat) : Con := spec_l01Src_edge.sig.con (fun x => spec_l01Src_edge x)
def spec_l01Src_edge.C (k : Nat) : Ctx := { ti := TAB, con := conL [(112, spec_l01Src_n.con k)] }
theorem spec_l01Src_edge.cok (k : Nat) : CtxOk Try.prog (spec_l01Src_edge.C k) := ctx_ok TABok ⟨spec_l01Src_n.ok k, trivial⟩
theorem spec_l01Src_edge.ev (k : Nat) (x : Prod' spec_l01Src_edge.sig.ins) : spec_l01Src_edge.sig.ev (spec_l01Src_edge.C k) .auto Try.f111.results.toList (cB Try.f111) x = spec_l01Src_edge x := by kernel_rfl
theorem spec_l01Src_edge.ok (k : Nat) : ConOk Try.prog 111 (spec_l01Src_edge.con k) := sig_ok (p := .auto) (spec_l01Src_edge.cok k) Try.func111 (by kernel_rfl) (show Try.f111.body = some (cB Try.f111) by kernel_rfl) (by kernel_rfl) (by kernel_rfl) (plan_of (L := []) (by kernel_rfl) trivial) (fun x y h => (spec_l01Src_edge.ev k x).trans h)
def spec_DrawFleetTell.l0 : Nat → Int → Int → Int → List Int → Int → Int → Int → Int → Int → List Int → List Int → List Int → List Int → Option ((Int × Int × List Int × Int × Int × Int × Int × Int × List Int × List Int × List Int × List Int) ⊕ (Int × Bool × Int × Int × List Int × Int × Int × Int × Int × Int × List Int × List Int))
  | 0, _, _, _, _, _, _, _, _, _, _, _, _, _ => none
  | j + 1, a1, a2, a3, a4, a5, a6, a7, a8, a9, a10, a11, a12, a13 =>
    bif decide (a1 < ((a13.length) : Int)) then
      Option.bind (spec_l01Src_one (a4, (a5, (a6, a7))) 2) fun v14 =>
      bif v14.1 then
        Option.bind (at? a13 a1) fun v15 =>
        Option.bind (at? a13 a1) fun v16 =>
        bif v16 == 1 then
          Option.bind (spec_l01Src_one v14.2 2) fun v17 =>
          some (.inr (a1, v17.1, a8, a9, v17.2.1, v17.2.2.1, v17.2.2.2.1, v17.2.2.2.2, a8, a9, a12, a13))
        else
        spec_DrawFleetTell.l0 j (IntKind.wrap .i64 (a1 + 1)) a2 a3 v14.2.1 v14.2.2.1 v14.2.2.2.1 v14.2.2.2.2 a8 a9 a10 a11 a12 a13
      else
      some (.inl (a2, a3, v14.2.1, v14.2.2.1, v14.2.2.2.1, v14.2.2.2.2, a8, a9, a10, a11, a12, a13))
    else
    some (.inl (a2, a3, a4, a5, a6, a7, a8, a9, a10, a11, a12, a13))
def spec_DrawFleetTell (k : Nat) (a1 : List Int) : Option (List Int × Int × Int × List Int × Int × Bool) :=
  Option.bind (spec_l01Source k a1) fun v2 =>
  Option.bind (spec_l01Src_l21Fleet k v2) fun v3 =>
  Option.bind (spec_l01Src_one v3.2.2.2.2 10) fun v4 =>
  bif v4.1 then
    Option.bind (spec_l01Src_edge v4.2) fun v5 =>
    some (v3.1, v3.2.1, v3.2.2.1, v3.2.2.2.1, v5.1, true)
  else
  Option.bind (spec_DrawFleetTell.l0 k 0 0 0 v4.2.1 v4.2.2.1 v4.2.2.2.1 v4.2.2.2.2 v3.2.1 v3.2.2.1 [] [] v3.1 v3.2.2.2.1) fun
    | .inl y6 =>
      Option.bind (spec_l01Src_n (y6.2.2.1, (y6.2.2.2.1, (y6.2.2.2.2.1, y6.2.2.2.2.2.1))) ((y6.2.2.2.2.2.2.2.2.2.2.2.length) : Int)) fun v7 =>
      Option.bind (spec_l01Src_one v7.2 2) fun v8 =>
      some (y6.2.2.2.2.2.2.2.2.2.2.1, y6.2.2.2.2.2.2.1, y6.2.2.2.2.2.2.2.1, y6.2.2.2.2.2.2.2.2.2.2.2, v7.1, v8.1)
    | .inr y9 =>
      some (y9.2.2.2.2.2.2.2.2.2.2.1, y9.2.2.1, y9.2.2.2.1, y9.2.2.2.2.2.2.2.2.2.2.2, y9.1, y9.2.1)
def spec_DrawFleetTell.sig : Sig := { ps := [.val false (.sl (.int .u8)) (kept (.sl (.int .u8)))], rs := [.val true [.own 2 (.int .i64), .v (.int .i64), .v (.int .i64), .own 2 (.int .i64)], .val false [.v (.int .i64)], .val false [.v .bool]], ntmps := 46 }
def spec_DrawFleetTell.con (k : Nat) : Con := spec_DrawFleetTell.sig.con (fun x => spec_DrawFleetTell k x)
def spec_DrawFleetTell.C (k : Nat) : Ctx := { ti := TAB, con := conL [(108, spec_l01Source.con k), (109, spec_l01Src_l21Fleet.con k), (110, spec_l01Src_one.con k), (111, spec_l01Src_edge.con k), (112, spec_l01Src_n.con k)] }
theorem spec_DrawFleetTell.cok (k : Nat) : CtxOk Try.prog (spec_DrawFleetTell.C k) := ctx_ok TABok ⟨spec_l01Source.ok k, spec_l01Src_l21Fleet.ok k, spec_l01Src_one.ok k, spec_l01Src_edge.ok k, spec_l01Src_n.ok k, trivial⟩
def spec_DrawFleetTell.l0.ish : Shape := { tmps := [(2, .one (.ptr 0 0)), (5, .one (.ptr 1 0)), (6, .one (.ptr 4 0)), (7, .one (.v (.int .i64)))], slots := [(0, .box 27 [.own 5, .v (.int .i64), .v (.int .i64), .own 6]), (1, .box 176 [.v (.sl (.int .u8)), .v (.int .i64), .v (.int .u64), .v (.int .i64)]), (4, .box 27 [.own 7, .v (.int .i64), .v (.int .i64), .own 8]), (5, .arr false 2 (.int .i64)), (6, .arr false 2 (.int .i64)), (7, .arr false 2 (.int .i64)), (8, .arr false 2 (.int .i64))], nb := 9 }
def spec_DrawFleetTell.l0.outs : List (Ex × Shape) := [(.exit 0, { tmps := [], slots := [(0, .box 27 [.own 9, .v (.int .i64), .v (.int .i64), .own 10]), (1, .box 176 [.v (.sl (.int .u8)), .v (.int .i64), .v (.int .u64), .v (.int .i64)]), (4, .box 27 [.own 11, .v (.int .i64), .v (.int .i64), .own 12]), (9, .arr false 2 (.int .i64)), (10, .arr false 2 (.int .i64)), (11, .arr false 2 (.int .i64)), (12, .arr false 2 (.int .i64))], nb := 13 }), (.ret, { tmps := [(3, .one (.v (.int .i64))), (4, .one (.v .bool))], slots := [(0, .box 27 [.own 9, .v (.int .i64), .v (.int .i64), .own 10]), (1, .box 176 [.v (.sl (.int .u8)), .v (.int .i64), .v (.int .u64), .v (.int .i64)]), (4, .box 27 [.own 9, .v (.int .i64), .v (.int .i64), .own 10]), (9, .arr false 2 (.int .i64)), (10, .arr false 2 (.int .i64))], nb := 11 })]
def spec_DrawFleetTell.l0.F (k j : Nat) (x : Prod' spec_DrawFleetTell.l0.ish.tys) : Option (Outs spec_DrawFleetTell.l0.outs) := spec_DrawFleetTell.l0 j x.1 x.2.1 x.2.2.1 x.2.2.2.1 x.2.2.2.2.1 x.2.2.2.2.2.1 x.2.2.2.2.2.2.1 x.2.2.2.2.2.2.2.1 x.2.2.2.2.2.2.2.2.1 x.2.2.2.2.2.2.2.2.2.1 x.2.2.2.2.2.2.2.2.2.2.1 x.2.2.2.2.2.2.2.2.2.2.2.1 x.2.2.2.2.2.2.2.2.2.2.2.2
def spec_DrawFleetTell.l0.s (k : Nat) : Summ := { n := 46, ish := spec_DrawFleetTell.l0.ish, outs := spec_DrawFleetTell.l0.outs, f := spec_DrawFleetTell.l0.F k k }
theorem spec_DrawFleetTell.l0.ev (k j : Nat) (x : Prod' spec_DrawFleetTell.l0.ish.tys) : V (spec_DrawFleetTell.C k) .auto (cO (cO (cR (cL (cR (cR (cR (cR (cB Try.f52))))))))) (mk spec_DrawFleetTell.l0.ish 46 x) (fun e st' => match e with | .nrm => (rd spec_DrawFleetTell.l0.ish st').bind (spec_DrawFleetTell.l0.F k j) | e => rdOut e st' spec_DrawFleetTell.l0.outs) = spec_DrawFleetTell.l0.F k (j + 1) x := by kernel_rfl
theorem spec_DrawFleetTell.l0.ok (k : Nat) : SumOk Try.prog (spec_DrawFleetTell.C k) (.loop (cO (cO (cR (cL (cR (cR (cR (cR (cB Try.f52)))))))))) (spec_DrawFleetTell.l0.s k) := sum_ok (by kernel_rfl) (sum_loop (p := .auto) (F := spec_DrawFleetTell.l0.F k) (spec_DrawFleetTell.cok k) (by kernel_rfl) (plan_of (L := []) (by kernel_rfl) trivial) (fun _ => rfl) (fun j x y h => (spec_DrawFleetTell.l0.ev k j x).trans h) k rfl)
theorem spec_DrawFleetTell.ev (k : Nat) (x : Prod' spec_DrawFleetTell.sig.ins) : spec_DrawFleetTell.sig.ev (spec_DrawFleetTell.C k) (.two .auto (.two .auto (.two .auto (.two .auto (.two (.two .auto (.one (.sum (spec_DrawFleetTell.l0.s k)))) .auto))))) Try.f52.results.toList (cB Try.f52) x = spec_DrawFleetTell k x := by kernel_rfl
theorem spec_DrawFleetTell.ok (k : Nat) : ConOk Try.prog 52 (spec_DrawFleetTell.con k) := sig_ok (p := (.two .auto (.two .auto (.two .auto (.two .auto (.two (.two .auto (.one (.sum (spec_DrawFleetTell.l0.s k)))) .auto)))))) (spec_DrawFleetTell.cok k) Try.func52 (by kernel_rfl) (show Try.f52.body = some (cB Try.f52) by kernel_rfl) (by kernel_rfl) (by kernel_rfl) (plan_of (L := [(spec_DrawFleetTell.l0.s k, cO (cR (cL (cR (cR (cR (cR (cB Try.f52))))))))]) (by kernel_rfl) ⟨spec_DrawFleetTell.l0.ok k, trivial⟩) (fun x y h => (spec_DrawFleetTell.ev k x).trans h)
def spec_DrawFleetNext (k : Nat) (a1 : List Int) : Option (List Int × Int × Int × List Int) :=
  Option.bind (spec_l01Source k a1) fun v2 =>
  Option.bind (spec_l01Src_l21Fleet k v2) fun v3 =>
  some (v3.1, v3.2.1, v3.2.2.1, v3.2.2.2.1)
def spec_DrawFleetNext.sig : Sig := { ps := [.val false (.sl (.int .u8)) (kept (.sl (.int .u8)))], rs := [.val true [.own 2 (.int .i64), .v (.int .i64), .v (.int .i64), .own 2 (.int .i64)]], ntmps := 6 }
def spec_DrawFleetNext.con (k : Nat) : Con := spec_DrawFleetNext.sig.con (fun x => spec_DrawFleetNext k x)
def spec_DrawFleetNext.C (k : Nat) : Ctx := { ti := TAB, con := conL [(108, spec_l01Source.con k), (109, spec_l01Src_l21Fleet.con k)] }
theorem spec_DrawFleetNext.cok (k : Nat) : CtxOk Try.prog (spec_DrawFleetNext.C k) := ctx_ok TABok ⟨spec_l01Source.ok k, spec_l01Src_l21Fleet.ok k, trivial⟩
theorem spec_DrawFleetNext.ev (k : Nat) (x : Prod' spec_DrawFleetNext.sig.ins) : spec_DrawFleetNext.sig.ev (spec_DrawFleetNext.C k) .auto Try.f53.results.toList (cB Try.f53) x = spec_DrawFleetNext k x := by kernel_rfl
theorem spec_DrawFleetNext.ok (k : Nat) : ConOk Try.prog 53 (spec_DrawFleetNext.con k) := sig_ok (p := .auto) (spec_DrawFleetNext.cok k) Try.func53 (by kernel_rfl) (show Try.f53.body = some (cB Try.f53) by kernel_rfl) (by kernel_rfl) (by kernel_rfl) (plan_of (L := []) (by kernel_rfl) trivial) (fun x y h => (spec_DrawFleetNext.ev k x).trans h)
def spec_l01Src_between (a1 : G176) (a2 : Int) (a3 : Int) : Option (Int × List Int × Int × Int × Int) :=
  Option.bind (spec_l01Src_n a1 (IntKind.wrap .i64 ((IntKind.wrap .i64 (a3 - a2)) + 1))) fun v4 =>
  some (IntKind.wrap .i64 (a2 + v4.1), v4.2.1, v4.2.2.1, v4.2.2.2.1, v4.2.2.2.2)
def spec_l01Src_between.sig : Sig := { ps := [.ref 176 T176 (kept T176), .val false (.int .i64) (ros (.int .i64)), .val false (.int .i64) (ros (.int .i64))], rs := [.val false [.v (.int .i64)]], ntmps := 15 }
def spec_l01Src_between.con (k : Nat) : Con := spec_l01Src_between.sig.con (fun x => spec_l01Src_between x.1 x.2.1 x.2.2)
def spec_l01Src_between.C (k : Nat) : Ctx := { ti := TAB, con := conL [(112, spec_l01Src_n.con k)] }
theorem spec_l01Src_between.cok (k : Nat) : CtxOk Try.prog (spec_l01Src_between.C k) := ctx_ok TABok ⟨spec_l01Src_n.ok k, trivial⟩
theorem spec_l01Src_between.ev (k : Nat) (x : Prod' spec_l01Src_between.sig.ins) : spec_l01Src_between.sig.ev (spec_l01Src_between.C k) .auto Try.f158.results.toList (cB Try.f158) x = spec_l01Src_between x.1 x.2.1 x.2.2 := by kernel_rfl
theorem spec_l01Src_between.ok (k : Nat) : ConOk Try.prog 158 (spec_l01Src_between.con k) := sig_ok (p := .auto) (spec_l01Src_between.cok k) Try.func158 (by kernel_rfl) (show Try.f158.body = some (cB Try.f158) by kernel_rfl) (by kernel_rfl) (by kernel_rfl) (plan_of (L := []) (by kernel_rfl) trivial) (fun x y h => (spec_l01Src_between.ev k x).trans h)
def spec_l01Src_list.l0 : Nat → Int → Int → Int → List Int → Int → Int → Int → List Int → Option ((List Int × Int × Int × Int × List Int))
  | 0, _, _, _, _, _, _, _, _ => none
  | j + 1, a1, a2, a3, a4, a5, a6, a7, a8 =>
    bif decide (0 < a1) then
      Option.bind (spec_l01Src_between (a4, (a5, (a6, a7))) a2 a3) fun v9 =>
      Option.bind (app? 8 a8 [v9.1]) fun v10 =>
      spec_l01Src_list.l0 j (IntKind.wrap .i64 (a1 - 1)) a2 a3 v9.2.1 v9.2.2.1 v9.2.2.2.1 v9.2.2.2.2 v10
    else
    some (a4, a5, a6, a7, a8)
def spec_l01Src_list (k : Nat) (a1 : G176) (a2 : Int) (a3 : Int) (a4 : Int) : Option (List Int × List Int × Int × Int × Int) :=
  Option.bind (spec_l01Src_list.l0 k a2 a3 a4 a1.1 a1.2.1 a1.2.2.1 a1.2.2.2 []) fun y5 =>
  some (y5.2.2.2.2, y5.1, y5.2.1, y5.2.2.1, y5.2.2.2.1)
def spec_l01Src_list.sig : Sig := { ps := [.ref 176 T176 (kept T176), .val false (.int .i64) (ros (.int .i64)), .val false (.int .i64) (ros (.int .i64)), .val false (.int .i64) (ros (.int .i64))], rs := [.val false [.own 2 (.int .i64)]], ntmps := 23 }
def spec_l01Src_list.con (k : Nat) : Con := spec_l01Src_list.sig.con (fun x => spec_l01Src_list k x.1 x.2.1 x.2.2.1 x.2.2.2)
def spec_l01Src_list.C (k : Nat) : Ctx := { ti := TAB, con := conL [(158, spec_l01Src_between.con k)] }
theorem spec_l01Src_list.cok (k : Nat) : CtxOk Try.prog (spec_l01Src_list.C k) := ctx_ok TABok ⟨spec_l01Src_between.ok k, trivial⟩
def spec_l01Src_list.l0.ish : Shape := { tmps := [(0, .one (.ptr 0 0)), (1, .one (.v (.int .i64))), (2, .one (.v (.int .i64))), (3, .one (.v (.int .i64))), (9, .one (.own 2))], slots := [(0, .box 176 [.v (.sl (.int .u8)), .v (.int .i64), .v (.int .u64), .v (.int .i64)]), (2, .arr false 2 (.int .i64))], nb := 3 }
def spec_l01Src_list.l0.outs : List (Ex × Shape) := [(.exit 0, { tmps := [(9, .one (.own 3))], slots := [(0, .box 176 [.v (.sl (.int .u8)), .v (.int .i64), .v (.int .u64), .v (.int .i64)]), (3, .arr false 2 (.int .i64))], nb := 4 })]
def spec_l01Src_list.l0.F (k j : Nat) (x : Prod' spec_l01Src_list.l0.ish.tys) : Option (Outs spec_l01Src_list.l0.outs) := spec_l01Src_list.l0 j x.1 x.2.1 x.2.2.1 x.2.2.2.1 x.2.2.2.2.1 x.2.2.2.2.2.1 x.2.2.2.2.2.2.1 x.2.2.2.2.2.2.2
def spec_l01Src_list.l0.s (k : Nat) : Summ := { n := 23, ish := spec_l01Src_list.l0.ish, outs := spec_l01Src_list.l0.outs, f := spec_l01Src_list.l0.F k k }
theorem spec_l01Src_list.l0.ev (k j : Nat) (x : Prod' spec_l01Src_list.l0.ish.tys) : V (spec_l01Src_list.C k) .auto (cO (cO (cL (cR (cR (cB Try.f114)))))) (mk spec_l01Src_list.l0.ish 23 x) (fun e st' => match e with | .nrm => (rd spec_l01Src_list.l0.ish st').bind (spec_l01Src_list.l0.F k j) | e => rdOut e st' spec_l01Src_list.l0.outs) = spec_l01Src_list.l0.F k (j + 1) x := by kernel_rfl
theorem spec_l01Src_list.l0.ok (k : Nat) : SumOk Try.prog (spec_l01Src_list.C k) (.loop (cO (cO (cL (cR (cR (cB Try.f114))))))) (spec_l01Src_list.l0.s k) := sum_ok (by kernel_rfl) (sum_loop (p := .auto) (F := spec_l01Src_list.l0.F k) (spec_l01Src_list.cok k) (by kernel_rfl) (plan_of (L := []) (by kernel_rfl) trivial) (fun _ => rfl) (fun j x y h => (spec_l01Src_list.l0.ev k j x).trans h) k rfl)
theorem spec_l01Src_list.ev (k : Nat) (x : Prod' spec_l01Src_list.sig.ins) : spec_l01Src_list.sig.ev (spec_l01Src_list.C k) (.two .auto (.two .auto (.two (.one (.sum (spec_l01Src_list.l0.s k))) .auto))) Try.f114.results.toList (cB Try.f114) x = spec_l01Src_list k x.1 x.2.1 x.2.2.1 x.2.2.2 := by kernel_rfl
theorem spec_l01Src_list.ok (k : Nat) : ConOk Try.prog 114 (spec_l01Src_list.con k) := sig_ok (p := (.two .auto (.two .auto (.two (.one (.sum (spec_l01Src_list.l0.s k))) .auto)))) (spec_l01Src_list.cok k) Try.func114 (by kernel_rfl) (show Try.f114.body = some (cB Try.f114) by kernel_rfl) (by kernel_rfl) (by kernel_rfl) (plan_of (L := [(spec_l01Src_list.l0.s k, cO (cL (cR (cR (cB Try.f114)))))]) (by kernel_rfl) ⟨spec_l01Src_list.l0.ok k, trivial⟩) (fun x y h => (spec_l01Src_list.ev k x).trans h)
def spec_DrawFleetNew (k : Nat) (a1 : List Int) : Option (Int × List Int × Int) :=
  Option.bind (spec_l01Source k a1) fun v2 =>
  Option.bind (spec_l01Src_l21New k v2) fun v3 =>
  Option.bind (spec_l01Src_one v3.2.2.2.2 4) fun v4 =>
  bif v4.1 then
    Option.bind (spec_l01Src_n v4.2 4) fun v5 =>
    Option.bind (spec_l01Src_list k v5.2 (IntKind.wrap .i64 (1 + v5.1)) 0 101) fun v6 =>
    Option.bind (spec_l01Src_n v6.2 15) fun v7 =>
    Option.bind (spec_l01Src_n v7.2 16) fun v8 =>
    some (v7.1, v6.1, IntKind.wrap .i64 (v8.1 - 1))
  else
  Option.bind (spec_l01Src_n v4.2 15) fun v9 =>
  Option.bind (spec_l01Src_n v9.2 16) fun v10 =>
  some (v9.1, v3.1, IntKind.wrap .i64 (v10.1 - 1))
def spec_DrawFleetNew.sig : Sig := { ps := [.val false (.sl (.int .u8)) (kept (.sl (.int .u8)))], rs := [.val false [.v (.int .i64)], .val false [.own 2 (.int .i64)], .val false [.v (.int .i64)]], ntmps := 27 }
def spec_DrawFleetNew.con (k : Nat) : Con := spec_DrawFleetNew.sig.con (fun x => spec_DrawFleetNew k x)
def spec_DrawFleetNew.C (k : Nat) : Ctx := { ti := TAB, con := conL [(108, spec_l01Source.con k), (110, spec_l01Src_one.con k), (112, spec_l01Src_n.con k), (113, spec_l01Src_l21New.con k), (114, spec_l01Src_list.con k)] }
theorem spec_DrawFleetNew.cok (k : Nat) : CtxOk Try.prog (spec_DrawFleetNew.C k) := ctx_ok TABok ⟨spec_l01Source.ok k, spec_l01Src_one.ok k, spec_l01Src_n.ok k, spec_l01Src_l21New.ok k, spec_l01Src_list.ok k, trivial⟩
theorem spec_DrawFleetNew.ev (k : Nat) (x : Prod' spec_DrawFleetNew.sig.ins) : spec_DrawFleetNew.sig.ev (spec_DrawFleetNew.C k) .auto Try.f54.results.toList (cB Try.f54) x = spec_DrawFleetNew k x := by kernel_rfl
theorem spec_DrawFleetNew.ok (k : Nat) : ConOk Try.prog 54 (spec_DrawFleetNew.con k) := sig_ok (p := .auto) (spec_DrawFleetNew.cok k) Try.func54 (by kernel_rfl) (show Try.f54.body = some (cB Try.f54) by kernel_rfl) (by kernel_rfl) (by kernel_rfl) (plan_of (L := []) (by kernel_rfl) trivial) (fun x y h => (spec_DrawFleetNew.ev k x).trans h)
def laws_lwNums.l0 : Nat → List Int → List Int → Int → Option (Unit ⊕ Bool)
  | 0, _, _, _ => none
  | j + 1, a1, a2, a3 =>
    bif decide (a3 < ((a1.length) : Int)) then
      Option.bind (at? a1 a3) fun v4 =>
      Option.bind (at? a2 a3) fun v5 =>
      bif v4 != v5 then
        some (.inr false)
      else
      laws_lwNums.l0 j a1 a2 (IntKind.wrap .i64 (a3 + 1))
    else
    some (.inl ())
def laws_lwNums (k : Nat) (a1 : List Int) (a2 : List Int) : Option (Bool) :=
  bif ((a1.length) : Int) != ((a2.length) : Int) then
    some false
  else
  Option.bind (laws_lwNums.l0 k a1 a2 0) fun
    | .inl y3 =>
      some true
    | .inr y4 =>
      some y4
def laws_lwNums.sig : Sig := { ps := [.val false (.sl (.int .i64)) (ros (.sl (.int .i64))), .val false (.sl (.int .i64)) (ros (.sl (.int .i64)))], rs := [.val false [.v .bool]], ntmps := 26 }
def laws_lwNums.con (k : Nat) : Con := laws_lwNums.sig.con (fun x => laws_lwNums k x.1 x.2)
def laws_lwNums.C (k : Nat) : Ctx := { ti := TAB, con := conL [] }
theorem laws_lwNums.cok (k : Nat) : CtxOk Try.prog (laws_lwNums.C k) := ctx_ok TABok trivial
def laws_lwNums.l0.ish : Shape := { tmps := [(0, .one (.bor (.int .i64))), (1, .one (.bor (.int .i64))), (5, .one (.v (.int .i64)))], slots := [], nb := 0 }
def laws_lwNums.l0.outs : List (Ex × Shape) := [(.exit 0, { tmps := [], slots := [], nb := 0 }), (.ret, { tmps := [(4, .one (.v .bool))], slots := [], nb := 0 })]
def laws_lwNums.l0.F (k j : Nat) (x : Prod' laws_lwNums.l0.ish.tys) : Option (Outs laws_lwNums.l0.outs) := laws_lwNums.l0 j x.1 x.2.1 x.2.2
def laws_lwNums.l0.s (k : Nat) : Summ := { n := 26, ish := laws_lwNums.l0.ish, outs := laws_lwNums.l0.outs, f := laws_lwNums.l0.F k k }
theorem laws_lwNums.l0.ev (k j : Nat) (x : Prod' laws_lwNums.l0.ish.tys) : V (laws_lwNums.C k) .auto (cO (cO (cR (cL (cR (cR (cB Try.f115))))))) (mk laws_lwNums.l0.ish 26 x) (fun e st' => match e with | .nrm => (rd laws_lwNums.l0.ish st').bind (laws_lwNums.l0.F k j) | e => rdOut e st' laws_lwNums.l0.outs) = laws_lwNums.l0.F k (j + 1) x := by kernel_rfl
theorem laws_lwNums.l0.ok (k : Nat) : SumOk Try.prog (laws_lwNums.C k) (.loop (cO (cO (cR (cL (cR (cR (cB Try.f115)))))))) (laws_lwNums.l0.s k) := sum_ok (by kernel_rfl) (sum_loop (p := .auto) (F := laws_lwNums.l0.F k) (laws_lwNums.cok k) (by kernel_rfl) (plan_of (L := []) (by kernel_rfl) trivial) (fun _ => rfl) (fun j x y h => (laws_lwNums.l0.ev k j x).trans h) k rfl)
theorem laws_lwNums.ev (k : Nat) (x : Prod' laws_lwNums.sig.ins) : laws_lwNums.sig.ev (laws_lwNums.C k) (.two .auto (.two .auto (.two (.two .auto (.one (.sum (laws_lwNums.l0.s k)))) .auto))) Try.f115.results.toList (cB Try.f115) x = laws_lwNums k x.1 x.2 := by kernel_rfl
theorem laws_lwNums.ok (k : Nat) : ConOk Try.prog 115 (laws_lwNums.con k) := sig_ok (p := (.two .auto (.two .auto (.two (.two .auto (.one (.sum (laws_lwNums.l0.s k)))) .auto)))) (laws_lwNums.cok k) Try.func115 (by kernel_rfl) (show Try.f115.body = some (cB Try.f115) by kernel_rfl) (by kernel_rfl) (by kernel_rfl) (plan_of (L := [(laws_lwNums.l0.s k, cO (cR (cL (cR (cR (cB Try.f115))))))]) (by kernel_rfl) ⟨laws_lwNums.l0.ok k, trivial⟩) (fun x y h => (laws_lwNums.ev k x).trans h)
def laws_lwFleet (k : Nat) (a1 : G32) (a2 : G32) : Option (Bool) :=
  bif a1.2.2 == a2.2.2 then
    Option.bind (laws_lwNums k a1.2.1 a2.2.1) fun v3 =>
    bif (v3 && (a1.1.2.1 == a2.1.2.1)) && (a1.1.2.2.1 == a2.1.2.2.1) then
      Option.bind (laws_lwNums k a1.1.1 a2.1.1) fun v4 =>
      bif v4 then
        Option.bind (laws_lwNums k a1.1.2.2.2 a2.1.2.2.2) fun v5 =>
        some v5
      else
      some false
    else
    some false
  else
  some false
def laws_lwFleet.sig : Sig := { ps := [.val true T32 (ros T32), .val true T32 (ros T32)], rs := [.val false [.v .bool]], ntmps := 53 }
def laws_lwFleet.con (k : Nat) : Con := laws_lwFleet.sig.con (fun x => laws_lwFleet k x.1 x.2)
def laws_lwFleet.C (k : Nat) : Ctx := { ti := TAB, con := conL [(115, laws_lwNums.con k)], rob := true }
theorem laws_lwFleet.cok (k : Nat) : CtxOk Try.prog (laws_lwFleet.C k) := ctx_ok TABok ⟨laws_lwNums.ok k, trivial⟩
theorem laws_lwFleet.ev (k : Nat) (x : Prod' laws_lwFleet.sig.ins) : laws_lwFleet.sig.ev (laws_lwFleet.C k) .auto Try.f55.results.toList (cB Try.f55) x = laws_lwFleet k x.1 x.2 := by kernel_rfl
theorem laws_lwFleet.ok (k : Nat) : ConOk Try.prog 55 (laws_lwFleet.con k) := sig_ok (p := .auto) (laws_lwFleet.cok k) Try.func55 (by kernel_rfl) (show Try.f55.body = some (cB Try.f55) by kernel_rfl) (by kernel_rfl) (by kernel_rfl) (plan_of (L := []) (by kernel_rfl) trivial) (fun x y h => (laws_lwFleet.ev k x).trans h)
def impl_Halted (k : Nat) (a1 : G24) : Option (Bool) :=
  Option.bind (impl_isFleet k a1) fun v2 =>
  bif v2 then
    Option.bind (impl_Fleet_halted k a1) fun v3 =>
    some v3
  else
  some false
def impl_Halted.sig : Sig := { ps := [.val true T24 (ros T24)], rs := [.val false [.v .bool]], ntmps := 9 }
def impl_Halted.con (k : Nat) : Con := impl_Halted.sig.con (fun x => impl_Halted k x)
def impl_Halted.C (k : Nat) : Ctx := { ti := TAB, con := conL [(72, impl_isFleet.con k), (101, impl_Fleet_halted.con k)], rob := true }
theorem impl_Halted.cok (k : Nat) : CtxOk Try.prog (impl_Halted.C k) := ctx_ok TABok ⟨impl_isFleet.ok k, impl_Fleet_halted.ok k, trivial⟩
theorem impl_Halted.ev (k : Nat) (x : Prod' impl_Halted.sig.ins) : impl_Halted.sig.ev (impl_Halted.C k) .auto Try.f56.results.toList (cB Try.f56) x = impl_Halted k x := by kernel_rfl
theorem impl_Halted.ok (k : Nat) : ConOk Try.prog 56 (impl_Halted.con k) := sig_ok (p := .auto) (impl_Halted.cok k) Try.func56 (by kernel_rfl) (show Try.f56.body = some (cB Try.f56) by kernel_rfl) (by kernel_rfl) (by kernel_rfl) (plan_of (L := []) (by kernel_rfl) trivial) (fun x y h => (impl_Halted.ev k x).trans h)
def impl_FleetRight (k : Nat) (a1 : G24) : Option (Bool) :=
  Option.bind (impl_isFleet k a1) fun v2 =>
  some v2
def impl_FleetRight.sig : Sig := { ps := [.val true T24 (ros T24)], rs := [.val false [.v .bool]], ntmps := 5 }
def impl_FleetRight.con (k : Nat) : Con := impl_FleetRight.sig.con (fun x => impl_FleetRight k x)
def impl_FleetRight.C (k : Nat) : Ctx := { ti := TAB, con := conL [(72, impl_isFleet.con k)], rob := true }
theorem impl_FleetRight.cok (k : Nat) : CtxOk Try.prog (impl_FleetRight.C k) := ctx_ok TABok ⟨impl_isFleet.ok k, trivial⟩
theorem impl_FleetRight.ev (k : Nat) (x : Prod' impl_FleetRight.sig.ins) : impl_FleetRight.sig.ev (impl_FleetRight.C k) .auto Try.f58.results.toList (cB Try.f58) x = impl_FleetRight k x := by kernel_rfl
theorem impl_FleetRight.ok (k : Nat) : ConOk Try.prog 58 (impl_FleetRight.con k) := sig_ok (p := .auto) (impl_FleetRight.cok k) Try.func58 (by kernel_rfl) (show Try.f58.body = some (cB Try.f58) by kernel_rfl) (by kernel_rfl) (by kernel_rfl) (plan_of (L := []) (by kernel_rfl) trivial) (fun x y h => (impl_FleetRight.ev k x).trans h)
def laws_FnFleet.l0 : Nat → Int → Int → Int → Int → Int → List Int → List Int → List Int → Option ((Int × Int × Int × Int × List Int × List Int × List Int))
  | 0, _, _, _, _, _, _, _, _ => none
  | j + 1, a1, a2, a3, a4, a5, a6, a7, a8 =>
    bif decide (a2 < ((a7.length) : Int)) then
      Option.bind (at? a7 a2) fun v9 =>
      Option.bind (at? a7 a2) fun v10 =>
      let e11 := IntKind.wrap .i64 (a2 + 1)
      bif v10 != 0 then
        laws_FnFleet.l0 j (IntKind.wrap .i64 (a1 + 1)) e11 a3 a4 a5 a6 a7 a8
      else
      laws_FnFleet.l0 j a1 e11 a3 a4 a5 a6 a7 a8
    else
    some (a1, a3, a4, a5, a6, a7, a8)
def laws_FnFleet.l1 : Nat → Int → Int → Int → Int → Int → Int → List Int → List Int → List Int → List Int → List Int → Option ((Int × Int × Int × Int × Int × List Int × List Int × List Int × List Int × List Int) ⊕ (Bool × Int × Int × Int × Int × Int × List Int × List Int × List Int × List Int × List Int))
  | 0, _, _, _, _, _, _, _, _, _, _, _ => none
  | j + 1, a1, a2, a3, a4, a5, a6, a7, a8, a9, a10, a11 =>
    bif decide (a1 < ((a11.length) : Int)) then
      Option.bind (at? a11 a1) fun v12 =>
      Option.bind (at? a11 a1) fun v13 =>
      Option.bind (at? a8 v13) fun v14 =>
      Option.bind (at? a8 v13) fun v15 =>
      bif v15 != 0 then
        some (.inr (false, a2, a3, a4, a5, a6, a7, a8, a9, a10, a11))
      else
      Option.bind (at? a11 a1) fun v16 =>
      Option.bind (at? a11 a1) fun v17 =>
      Option.bind (at? a10 v17) fun v18 =>
      Option.bind (at? a10 v17) fun v19 =>
      bif v19 != 1 then
        some (.inr (false, a2, a3, a4, a5, a6, a7, a8, a9, a10, a11))
      else
      laws_FnFleet.l1 j (IntKind.wrap .i64 (a1 + 1)) a2 a3 a4 a5 a6 a7 a8 a9 a10 a11
    else
    some (.inl (a2, a3, a4, a5, a6, a7, a8, a9, a10, a11))
def laws_FnFleet (k : Nat) (a1 : List Int) (a2 : List Int) : Option (Bool) :=
  bif (decide (1048576 < ((a1.length) : Int))) || (decide (1048576 < ((a2.length) : Int))) then
    some true
  else
  Option.bind (spec_DrawFleetAsk k a1) fun v3 =>
  Option.bind (impl_FleetAsk k v3) fun v4 =>
  Option.bind (spec_DrawFleetTell k a2) fun v5 =>
  let e6 := (v5.1, (v5.2.1, (v5.2.2.1, v5.2.2.2.1)))
  Option.bind (impl_FleetTell k e6 v5.2.2.2.2.1 v5.2.2.2.2.2) fun v7 =>
  Option.bind (spec_DrawFleetNext k a2) fun v8 =>
  Option.bind (impl_FleetNext k v8) fun v9 =>
  Option.bind (spec_DrawFleetNew k a2) fun v10 =>
  Option.bind (spec_FleetAsk k v3) fun v11 =>
  Option.bind (laws_lwFleet k ((v4.1, (v4.2.1, (v4.2.2.1, v4.2.2.2.1))), v4.2.2.2.2) ((v11.1, (v11.2.1, (v11.2.2.1, v11.2.2.2.1))), v11.2.2.2.2)) fun v12 =>
  bif !v12 then
    some false
  else
  Option.bind (spec_FleetTell k e6 v5.2.2.2.2.1 v5.2.2.2.2.2) fun v13 =>
  let e14 := (v7.1, (v7.2.1, (v7.2.2.1, v7.2.2.2.1)))
  Option.bind (laws_lwFleet k (e14, v7.2.2.2.2) ((v13.1, (v13.2.1, (v13.2.2.1, v13.2.2.2.1))), v13.2.2.2.2)) fun v15 =>
  bif !v15 then
    some false
  else
  Option.bind (spec_FleetNext k v8) fun v16 =>
  let e17 := (v9.1, (v9.2.1, (v9.2.2.1, v9.2.2.2.1)))
  Option.bind (laws_lwFleet k (e17, v9.2.2.2.2) ((v16.1, (v16.2.1, (v16.2.2.1, v16.2.2.2.1))), v16.2.2.2.2)) fun v18 =>
  bif !v18 then
    some false
  else
  Option.bind (impl_FleetNew k v10.1 v10.2.1 v10.2.2) fun v19 =>
  Option.bind (spec_FleetNew k v10.1 v10.2.1 v10.2.2) fun v20 =>
  Option.bind (laws_lwFleet k ((v19.1, (v19.2.1, (v19.2.2.1, v19.2.2.2.1))), v19.2.2.2.2) ((v20.1, (v20.2.1, (v20.2.2.1, v20.2.2.2.1))), v20.2.2.2.2)) fun v21 =>
  bif !v21 then
    some false
  else
  Option.bind (impl_Share k v3) fun v22 =>
  Option.bind (spec_Share k v3) fun v23 =>
  bif v22 != v23 then
    some false
  else
  Option.bind (impl_Halted k v3) fun v24 =>
  Option.bind (spec_Halted k v3) fun v25 =>
  bif !(v24 == v25) then
    some false
  else
  Option.bind (impl_FleetRight k v3) fun v26 =>
  Option.bind (spec_FleetRight k v3) fun v27 =>
  bif !(v26 == v27) then
    some false
  else
  let e28 := v9.2.2.2.2.2 == 0
  let e29 := v4.2.2.2.2.2 != 10
  let e30 := v4.2.2.2.2.2 != 0
  bif v7.2.2.2.2.2 == 0 then
    Option.bind (impl_FleetRight k e14) fun v31 =>
    bif !v31 then
      some false
    else
    bif e28 then
      Option.bind (impl_FleetRight k e17) fun v32 =>
      bif !v32 then
        some false
      else
      Option.bind (impl_Share k e17) fun v33 =>
      Option.bind (impl_Share k v8) fun v34 =>
      bif decide (v33 < v34) then
        some false
      else
      Option.bind (impl_Halted k v3) fun v35 =>
      bif v35 then
        bif e29 then
          some false
        else
        Option.bind (impl_FleetNext k v3) fun v36 =>
        bif v36.2.2.2.2.2 != 10 then
          some false
        else
        bif e30 then
          some true
        else
        Option.bind (laws_FnFleet.l0 k 0 0 v4.2.1 v4.2.2.1 v4.2.2.2.2.2 v4.1 v4.2.2.2.1 v4.2.2.2.2.1) fun y37 =>
        Option.bind (laws_FnFleet.l1 k 0 v3.2.1 v3.2.2.1 y37.2.1 y37.2.2.1 y37.2.2.2.1 v3.1 v3.2.2.2 y37.2.2.2.2.1 y37.2.2.2.2.2.1 y37.2.2.2.2.2.2) fun
          | .inl y38 =>
            let e39 := (y38.2.2.2.2.2.2.2.1, (y38.2.2.1, (y38.2.2.2.1, y38.2.2.2.2.2.2.2.2.1)))
            Option.bind (impl_FleetRight k e39) fun v40 =>
            bif v40 then
              Option.bind (impl_Share k (y38.2.2.2.2.2.1, (y38.1, (y38.2.1, y38.2.2.2.2.2.2.1)))) fun v41 =>
              bif y37.1 == v41 then
                Option.bind (impl_FleetAsk k e39) fun v42 =>
                some (((v42.2.2.2.2.1.length) : Int) == 0)
              else
              some false
            else
            some false
          | .inr y43 =>
            some y43.1
      else
      bif e30 then
        some true
      else
      Option.bind (laws_FnFleet.l0 k 0 0 v4.2.1 v4.2.2.1 v4.2.2.2.2.2 v4.1 v4.2.2.2.1 v4.2.2.2.2.1) fun y44 =>
      Option.bind (laws_FnFleet.l1 k 0 v3.2.1 v3.2.2.1 y44.2.1 y44.2.2.1 y44.2.2.2.1 v3.1 v3.2.2.2 y44.2.2.2.2.1 y44.2.2.2.2.2.1 y44.2.2.2.2.2.2) fun
        | .inl y45 =>
          let e46 := (y45.2.2.2.2.2.2.2.1, (y45.2.2.1, (y45.2.2.2.1, y45.2.2.2.2.2.2.2.2.1)))
          Option.bind (impl_FleetRight k e46) fun v47 =>
          bif v47 then
            Option.bind (impl_Share k (y45.2.2.2.2.2.1, (y45.1, (y45.2.1, y45.2.2.2.2.2.2.1)))) fun v48 =>
            bif y44.1 == v48 then
              Option.bind (impl_FleetAsk k e46) fun v49 =>
              some (((v49.2.2.2.2.1.length) : Int) == 0)
            else
            some false
          else
          some false
        | .inr y50 =>
          some y50.1
    else
    Option.bind (impl_Halted k v3) fun v51 =>
    bif v51 then
      bif e29 then
        some false
      else
      Option.bind (impl_FleetNext k v3) fun v52 =>
      bif v52.2.2.2.2.2 != 10 then
        some false
      else
      bif e30 then
        some true
      else
      Option.bind (laws_FnFleet.l0 k 0 0 v4.2.1 v4.2.2.1 v4.2.2.2.2.2 v4.1 v4.2.2.2.1 v4.2.2.2.2.1) fun y53 =>
      Option.bind (laws_FnFleet.l1 k 0 v3.2.1 v3.2.2.1 y53.2.1 y53.2.2.1 y53.2.2.2.1 v3.1 v3.2.2.2 y53.2.2.2.2.1 y53.2.2.2.2.2.1 y53.2.2.2.2.2.2) fun
        | .inl y54 =>
          let e55 := (y54.2.2.2.2.2.2.2.1, (y54.2.2.1, (y54.2.2.2.1, y54.2.2.2.2.2.2.2.2.1)))
          Option.bind (impl_FleetRight k e55) fun v56 =>
          bif v56 then
            Option.bind (impl_Share k (y54.2.2.2.2.2.1, (y54.1, (y54.2.1, y54.2.2.2.2.2.2.1)))) fun v57 =>
            bif y53.1 == v57 then
              Option.bind (impl_FleetAsk k e55) fun v58 =>
              some (((v58.2.2.2.2.1.length) : Int) == 0)
            else
            some false
          else
          some false
        | .inr y59 =>
          some y59.1
    else
    bif e30 then
      some true
    else
    Option.bind (laws_FnFleet.l0 k 0 0 v4.2.1 v4.2.2.1 v4.2.2.2.2.2 v4.1 v4.2.2.2.1 v4.2.2.2.2.1) fun y60 =>
    Option.bind (laws_FnFleet.l1 k 0 v3.2.1 v3.2.2.1 y60.2.1 y60.2.2.1 y60.2.2.2.1 v3.1 v3.2.2.2 y60.2.2.2.2.1 y60.2.2.2.2.2.1 y60.2.2.2.2.2.2) fun
      | .inl y61 =>
        let e62 := (y61.2.2.2.2.2.2.2.1, (y61.2.2.1, (y61.2.2.2.1, y61.2.2.2.2.2.2.2.2.1)))
        Option.bind (impl_FleetRight k e62) fun v63 =>
        bif v63 then
          Option.bind (impl_Share k (y61.2.2.2.2.2.1, (y61.1, (y61.2.1, y61.2.2.2.2.2.2.1)))) fun v64 =>
          bif y60.1 == v64 then
            Option.bind (impl_FleetAsk k e62) fun v65 =>
            some (((v65.2.2.2.2.1.length) : Int) == 0)
          else
          some false
        else
        some false
      | .inr y66 =>
        some y66.1
  else
  bif e28 then
    Option.bind (impl_FleetRight k e17) fun v67 =>
    bif !v67 then
      some false
    else
    Option.bind (impl_Share k e17) fun v68 =>
    Option.bind (impl_Share k v8) fun v69 =>
    bif decide (v68 < v69) then
      some false
    else
    Option.bind (impl_Halted k v3) fun v70 =>
    bif v70 then
      bif e29 then
        some false
      else
      Option.bind (impl_FleetNext k v3) fun v71 =>
      bif v71.2.2.2.2.2 != 10 then
        some false
      else
      bif e30 then
        some true
      else
      Option.bind (laws_FnFleet.l0 k 0 0 v4.2.1 v4.2.2.1 v4.2.2.2.2.2 v4.1 v4.2.2.2.1 v4.2.2.2.2.1) fun y72 =>
      Option.bind (laws_FnFleet.l1 k 0 v3.2.1 v3.2.2.1 y72.2.1 y72.2.2.1 y72.2.2.2.1 v3.1 v3.2.2.2 y72.2.2.2.2.1 y72.2.2.2.2.2.1 y72.2.2.2.2.2.2) fun
        | .inl y73 =>
          let e74 := (y73.2.2.2.2.2.2.2.1, (y73.2.2.1, (y73.2.2.2.1, y73.2.2.2.2.2.2.2.2.1)))
          Option.bind (impl_FleetRight k e74) fun v75 =>
          bif v75 then
            Option.bind (impl_Share k (y73.2.2.2.2.2.1, (y73.1, (y73.2.1, y73.2.2.2.2.2.2.1)))) fun v76 =>
            bif y72.1 == v76 then
              Option.bind (impl_FleetAsk k e74) fun v77 =>
              some (((v77.2.2.2.2.1.length) : Int) == 0)
            else
            some false
          else
          some false
        | .inr y78 =>
          some y78.1
    else
    bif e30 then
      some true
    else
    Option.bind (laws_FnFleet.l0 k 0 0 v4.2.1 v4.2.2.1 v4.2.2.2.2.2 v4.1 v4.2.2.2.1 v4.2.2.2.2.1) fun y79 =>
    Option.bind (laws_FnFleet.l1 k 0 v3.2.1 v3.2.2.1 y79.2.1 y79.2.2.1 y79.2.2.2.1 v3.1 v3.2.2.2 y79.2.2.2.2.1 y79.2.2.2.2.2.1 y79.2.2.2.2.2.2) fun
      | .inl y80 =>
        let e81 := (y80.2.2.2.2.2.2.2.1, (y80.2.2.1, (y80.2.2.2.1, y80.2.2.2.2.2.2.2.2.1)))
        Option.bind (impl_FleetRight k e81) fun v82 =>
        bif v82 then
          Option.bind (impl_Share k (y80.2.2.2.2.2.1, (y80.1, (y80.2.1, y80.2.2.2.2.2.2.1)))) fun v83 =>
          bif y79.1 == v83 then
            Option.bind (impl_FleetAsk k e81) fun v84 =>
            some (((v84.2.2.2.2.1.length) : Int) == 0)
          else
          some false
        else
        some false
      | .inr y85 =>
        some y85.1
  else
  Option.bind (impl_Halted k v3) fun v86 =>
  bif v86 then
    bif e29 then
      some false
    else
    Option.bind (impl_FleetNext k v3) fun v87 =>
    bif v87.2.2.2.2.2 != 10 then
      some false
    else
    bif e30 then
      some true
    else
    Option.bind (laws_FnFleet.l0 k 0 0 v4.2.1 v4.2.2.1 v4.2.2.2.2.2 v4.1 v4.2.2.2.1 v4.2.2.2.2.1) fun y88 =>
    Option.bind (laws_FnFleet.l1 k 0 v3.2.1 v3.2.2.1 y88.2.1 y88.2.2.1 y88.2.2.2.1 v3.1 v3.2.2.2 y88.2.2.2.2.1 y88.2.2.2.2.2.1 y88.2.2.2.2.2.2) fun
      | .inl y89 =>
        let e90 := (y89.2.2.2.2.2.2.2.1, (y89.2.2.1, (y89.2.2.2.1, y89.2.2.2.2.2.2.2.2.1)))
        Option.bind (impl_FleetRight k e90) fun v91 =>
        bif v91 then
          Option.bind (impl_Share k (y89.2.2.2.2.2.1, (y89.1, (y89.2.1, y89.2.2.2.2.2.2.1)))) fun v92 =>
          bif y88.1 == v92 then
            Option.bind (impl_FleetAsk k e90) fun v93 =>
            some (((v93.2.2.2.2.1.length) : Int) == 0)
          else
          some false
        else
        some false
      | .inr y94 =>
        some y94.1
  else
  bif e30 then
    some true
  else
  Option.bind (laws_FnFleet.l0 k 0 0 v4.2.1 v4.2.2.1 v4.2.2.2.2.2 v4.1 v4.2.2.2.1 v4.2.2.2.2.1) fun y95 =>
  Option.bind (laws_FnFleet.l1 k 0 v3.2.1 v3.2.2.1 y95.2.1 y95.2.2.1 y95.2.2.2.1 v3.1 v3.2.2.2 y95.2.2.2.2.1 y95.2.2.2.2.2.1 y95.2.2.2.2.2.2) fun
    | .inl y96 =>
      let e97 := (y96.2.2.2.2.2.2.2.1, (y96.2.2.1, (y96.2.2.2.1, y96.2.2.2.2.2.2.2.2.1)))
      Option.bind (impl_FleetRight k e97) fun v98 =>
      bif v98 then
        Option.bind (impl_Share k (y96.2.2.2.2.2.1, (y96.1, (y96.2.1, y96.2.2.2.2.2.2.1)))) fun v99 =>
        bif y95.1 == v99 then
          Option.bind (impl_FleetAsk k e97) fun v100 =>
          some (((v100.2.2.2.2.1.length) : Int) == 0)
        else
        some false
      else
      some false
    | .inr y101 =>
      some y101.1
def laws_FnFleet.sig : Sig := { ps := [.val false (.sl (.int .u8)) (kept (.sl (.int .u8))), .val false (.sl (.int .u8)) (kept (.sl (.int .u8)))], rs := [.val false [.v .bool]], ntmps := 213 }
def laws_FnFleet.con (k : Nat) : Con := laws_FnFleet.sig.con (fun x => laws_FnFleet k x.1 x.2)
def laws_FnFleet.C (k : Nat) : Ctx := { ti := TAB, con := conL [(16, spec_Share.con k), (18, impl_Share.con k), (20, spec_FleetNew.con k), (22, impl_FleetNew.con k), (36, spec_FleetTell.con k), (37, impl_FleetTell.con k), (44, spec_FleetAsk.con k), (45, impl_FleetAsk.con k), (46, spec_FleetNext.con k), (47, impl_FleetNext.con k), (51, spec_DrawFleetAsk.con k), (52, spec_DrawFleetTell.con k), (53, spec_DrawFleetNext.con k), (54, spec_DrawFleetNew.con k), (55, laws_lwFleet.con k), (56, impl_Halted.con k), (57, spec_Halted.con k), (58, impl_FleetRight.con k), (59, spec_FleetRight.con k)] }
theorem laws_FnFleet.cok (k : Nat) : CtxOk Try.prog (laws_FnFleet.C k) := ctx_ok TABok ⟨spec_Share.ok k, impl_Share.ok k, spec_FleetNew.ok k, impl_FleetNew.ok k, spec_FleetTell.ok k, impl_FleetTell.ok k, spec_FleetAsk.ok k, impl_FleetAsk.ok k, spec_FleetNext.ok k, impl_FleetNext.ok k, spec_DrawFleetAsk.ok k, spec_DrawFleetTell.ok k, spec_DrawFleetNext.ok k, spec_DrawFleetNew.ok k, laws_lwFleet.ok k, impl_Halted.ok k, spec_Halted.ok k, impl_FleetRight.ok k, spec_FleetRight.ok k, trivial⟩
def laws_FnFleet.l0.ish : Shape := { tmps := [(6, .one (.ptr 6 0)), (16, .one (.v (.int .i64))), (17, .one (.v (.int .i64)))], slots := [(6, .box 32 [.own 40, .v (.int .i64), .v (.int .i64), .own 41, .own 42, .v (.int .i64)]), (40, .arr false 2 (.int .i64)), (41, .arr false 2 (.int .i64)), (42, .arr false 2 (.int .i64))], nb := 43 }
def laws_FnFleet.l0.outs : List (Ex × Shape) := [(.exit 0, { tmps := [(16, .one (.v (.int .i64)))], slots := [(6, .box 32 [.own 43, .v (.int .i64), .v (.int .i64), .own 44, .own 45, .v (.int .i64)]), (43, .arr false 2 (.int .i64)), (44, .arr false 2 (.int .i64)), (45, .arr false 2 (.int .i64))], nb := 46 })]
def laws_FnFleet.l0.F (k j : Nat) (x : Prod' laws_FnFleet.l0.ish.tys) : Option (Outs laws_FnFleet.l0.outs) := laws_FnFleet.l0 j x.1 x.2.1 x.2.2.1 x.2.2.2.1 x.2.2.2.2.1 x.2.2.2.2.2.1 x.2.2.2.2.2.2.1 x.2.2.2.2.2.2.2
def laws_FnFleet.l0.s (k : Nat) : Summ := { n := 213, ish := laws_FnFleet.l0.ish, outs := laws_FnFleet.l0.outs, f := laws_FnFleet.l0.F k k }
theorem laws_FnFleet.l0.ev (k j : Nat) (x : Prod' laws_FnFleet.l0.ish.tys) : V (laws_FnFleet.C k) .auto (cO (cO (cR (cL (cR (cR (cR (cR (cR (cR (cR (cR (cR (cR (cR (cR (cR (cR (cB Try.f12))))))))))))))))))) (mk laws_FnFleet.l0.ish 213 x) (fun e st' => match e with | .nrm => (rd laws_FnFleet.l0.ish st').bind (laws_FnFleet.l0.F k j) | e => rdOut e st' laws_FnFleet.l0.outs) = laws_FnFleet.l0.F k (j + 1) x := by kernel_rfl
theorem laws_FnFleet.l0.ok (k : Nat) : SumOk Try.prog (laws_FnFleet.C k) (.loop (cO (cO (cR (cL (cR (cR (cR (cR (cR (cR (cR (cR (cR (cR (cR (cR (cR (cR (cB Try.f12)))))))))))))))))))) (laws_FnFleet.l0.s k) := sum_ok (by kernel_rfl) (sum_loop (p := .auto) (F := laws_FnFleet.l0.F k) (laws_FnFleet.cok k) (by kernel_rfl) (plan_of (L := []) (by kernel_rfl) trivial) (fun _ => rfl) (fun j x y h => (laws_FnFleet.l0.ev k j x).trans h) k rfl)
def laws_FnFleet.l1.ish : Shape := { tmps := [(5, .one (.ptr 2 0)), (6, .one (.ptr 6 0)), (18, .one (.v (.int .i64)))], slots := [(2, .box 27 [.own 46, .v (.int .i64), .v (.int .i64), .own 47]), (6, .box 32 [.own 48, .v (.int .i64), .v (.int .i64), .own 49, .own 50, .v (.int .i64)]), (46, .arr false 2 (.int .i64)), (47, .arr false 2 (.int .i64)), (48, .arr false 2 (.int .i64)), (49, .arr false 2 (.int .i64)), (50, .arr false 2 (.int .i64))], nb := 51 }
def laws_FnFleet.l1.outs : List (Ex × Shape) := [(.exit 2, { tmps := [], slots := [(2, .box 27 [.own 51, .v (.int .i64), .v (.int .i64), .own 52]), (6, .box 32 [.own 53, .v (.int .i64), .v (.int .i64), .own 54, .own 55, .v (.int .i64)]), (51, .arr false 2 (.int .i64)), (52, .arr false 2 (.int .i64)), (53, .arr false 2 (.int .i64)), (54, .arr false 2 (.int .i64)), (55, .arr false 2 (.int .i64))], nb := 56 }), (.ret, { tmps := [(4, .one (.v .bool))], slots := [(2, .box 27 [.own 51, .v (.int .i64), .v (.int .i64), .own 52]), (6, .box 32 [.own 53, .v (.int .i64), .v (.int .i64), .own 54, .own 55, .v (.int .i64)]), (51, .arr false 2 (.int .i64)), (52, .arr false 2 (.int .i64)), (53, .arr false 2 (.int .i64)), (54, .arr false 2 (.int .i64)), (55, .arr false 2 (.int .i64))], nb := 56 })]
def laws_FnFleet.l1.F (k j : Nat) (x : Prod' laws_FnFleet.l1.ish.tys) : Option (Outs laws_FnFleet.l1.outs) := laws_FnFleet.l1 j x.1 x.2.1 x.2.2.1 x.2.2.2.1 x.2.2.2.2.1 x.2.2.2.2.2.1 x.2.2.2.2.2.2.1 x.2.2.2.2.2.2.2.1 x.2.2.2.2.2.2.2.2.1 x.2.2.2.2.2.2.2.2.2.1 x.2.2.2.2.2.2.2.2.2.2
def laws_FnFleet.l1.s (k : Nat) : Summ := { n := 213, ish := laws_FnFleet.l1.ish, outs := laws_FnFleet.l1.outs, f := laws_FnFleet.l1.F k k }
theorem laws_FnFleet.l1.ev (k j : Nat) (x : Prod' laws_FnFleet.l1.ish.tys) : V (laws_FnFleet.C k) .auto (cO (cO (cR (cL (cR (cR (cR (cR (cR (cR (cR (cR (cR (cR (cR (cR (cR (cR (cR (cB Try.f12)))))))))))))))))))) (mk laws_FnFleet.l1.ish 213 x) (fun e st' => match e with | .nrm => (rd laws_FnFleet.l1.ish st').bind (laws_FnFleet.l1.F k j) | e => rdOut e st' laws_FnFleet.l1.outs) = laws_FnFleet.l1.F k (j + 1) x := by kernel_rfl
theorem laws_FnFleet.l1.ok (k : Nat) : SumOk Try.prog (laws_FnFleet.C k) (.loop (cO (cO (cR (cL (cR (cR (cR (cR (cR (cR (cR (cR (cR (cR (cR (cR (cR (cR (cR (cB Try.f12))))))))))))))))))))) (laws_FnFleet.l1.s k) := sum_ok (by kernel_rfl) (sum_loop (p := .auto) (F := laws_FnFleet.l1.F k) (laws_FnFleet.cok k) (by kernel_rfl) (plan_of (L := []) (by kernel_rfl) trivial) (fun _ => rfl) (fun j x y h => (laws_FnFleet.l1.ev k j x).trans h) k rfl)
theorem laws_FnFleet.ev (k : Nat) (x : Prod' laws_FnFleet.sig.ins) : laws_FnFleet.sig.ev (laws_FnFleet.C k) (.two .auto (.two .auto (.two .auto (.two .auto (.two .auto (.two .auto (.two .auto (.two .auto (.two .auto (.two .auto (.two .auto (.two .auto (.two .auto (.two .auto (.two (.two .auto (.one (.sum (laws_FnFleet.l0.s k)))) (.two (.two .auto (.one (.sum (laws_FnFleet.l1.s k)))) .auto)))))))))))))))) Try.f12.results.toList (cB Try.f12) x = laws_FnFleet k x.1 x.2 := by kernel_rfl
theorem laws_FnFleet.ok (k : Nat) : ConOk Try.prog 12 (laws_FnFleet.con k) := sig_ok (p := (.two .auto (.two .auto (.two .auto (.two .auto (.two .auto (.two .auto (.two .auto (.two .auto (.two .auto (.two .auto (.two .auto (.two .auto (.two .auto (.two .auto (.two (.two .auto (.one (.sum (laws_FnFleet.l0.s k)))) (.two (.two .auto (.one (.sum (laws_FnFleet.l1.s k)))) .auto))))))))))))))))) (laws_FnFleet.cok k) Try.func12 (by kernel_rfl) (show Try.f12.body = some (cB Try.f12) by kernel_rfl) (by kernel_rfl) (by kernel_rfl) (plan_of (L := [(laws_FnFleet.l0.s k, cO (cR (cL (cR (cR (cR (cR (cR (cR (cR (cR (cR (cR (cR (cR (cR (cR (cB Try.f12)))))))))))))))))), (laws_FnFleet.l1.s k, cO (cR (cL (cR (cR (cR (cR (cR (cR (cR (cR (cR (cR (cR (cR (cR (cR (cR (cB Try.f12)))))))))))))))))))]) (by kernel_rfl) ⟨laws_FnFleet.l0.ok k, laws_FnFleet.l1.ok k, trivial⟩) (fun x y h => (laws_FnFleet.ev k x).trans h)
end Go.Proofs.YthoibokhmkjkdaaE

namespace Go.Proofs.YthoibokhmkjkdaaE
open Go
set_option linter.unusedVariables false
def Ever (p : Nat → Prop) : Prop := ∃ K, ∀ k, K ≤ k → p k
theorem Ever.of {p : Nat → Prop} (h : ∀ k, p k) : Ever p := ⟨0, fun k _ => h k⟩
theorem Ever.ge {p : Nat → Prop} (K : Nat) (h : ∀ k, K ≤ k → p k) : Ever p := ⟨K, h⟩
theorem Ever.mono {p q : Nat → Prop} (h : Ever p) (f : ∀ k, p k → q k) : Ever q := by
  obtain ⟨K, h⟩ := h
  exact ⟨K, fun k hk => f k (h k hk)⟩
theorem Ever.and {p q : Nat → Prop} (h : Ever p) (g : Ever q) : Ever fun k => p k ∧ q k := by
  obtain ⟨K, h⟩ := h
  obtain ⟨J, g⟩ := g
  exact ⟨K + J, fun k hk => ⟨h k (by omega), g k (by omega)⟩⟩
theorem Ever.ex {p : Nat → Prop} (h : Ever p) : ∃ k, p k := by
  obtain ⟨K, h⟩ := h
  exact ⟨K, h K (Nat.le_refl K)⟩
theorem Ever.all {n : Nat} {p : Nat → Nat → Prop} : (∀ i, i < n → Ever (p i)) → Ever fun k => ∀ i, i < n → p i k := by
  induction n with
  | zero => exact fun _ => ⟨0, fun k _ i hi => absurd hi (Nat.not_lt_zero i)⟩
  | succ n ih =>
    intro h
    refine ((ih fun i hi => h i (Nat.lt_succ_of_lt hi)).and (h n (Nat.lt_succ_self n))).mono fun k hk i hi => ?_
    rcases Nat.eq_or_lt_of_le (Nat.le_of_lt_succ hi) with rfl | hi
    · exact hk.2
    · exact hk.1 i hi
/-- Two facts, then a third. -/
theorem Ever.two {p q r : Nat → Prop} (h : Ever p) (g : Ever q) (f : ∀ k, p k → q k → r k) : Ever r := (h.and g).mono fun k hk => f k hk.1 hk.2
/-- A loop of n rounds: what it has in hand at round i is told by i. -/
theorem ever_loop {R : Type} (L : Nat → Nat → Nat → Option R) (n : Nat) (r : R) (hs : Ever fun k => ∀ i, i < n → ∀ j, L k (j + 1) i = L k j (i + 1)) (hl : Ever fun k => ∀ j, L k (j + 1) n = some r) : Ever fun k => L k k 0 = some r := by
  obtain ⟨K, hs⟩ := hs
  obtain ⟨J, hl⟩ := hl
  refine ⟨K + J + n + 1, fun k hk => ?_⟩
  have hs := hs k (by omega)
  have hl := hl k (by omega)
  have key : ∀ d i j, i + d = n → d < j → L k j i = some r := by
    intro d
    induction d with
    | zero =>
      intro i j hi hj
      obtain ⟨m, rfl⟩ : ∃ m, j = m + 1 := ⟨j - 1, by omega⟩
      obtain rfl : i = n := by omega
      exact hl m
    | succ d ih =>
      intro i j hi hj
      obtain ⟨m, rfl⟩ : ∃ m, j = m + 1 := ⟨j - 1, by omega⟩
      rw [hs i (by omega) m]
      exact ih (i + 1) m (by omega) (by omega)
  exact key n 0 k (by omega) (by omega)
/-- The same, where neither the round nor the end hangs on fuel. -/
theorem loop_of {R : Type} (L : Nat → Nat → Option R) (n : Nat) (r : R) (hs : ∀ i, i < n → ∀ j, L (j + 1) i = L j (i + 1)) (hl : ∀ j, L (j + 1) n = some r) : Ever fun k => L k 0 = some r :=
  ever_loop (fun _ j i => L j i) n r (Ever.of fun _ => hs) (Ever.of fun _ => hl)
theorem loop_at {R : Type} (L : Nat → Nat → Option R) (n : Nat) (r : R) (hs : ∀ i, i < n → ∀ j, L (j + 1) i = L j (i + 1)) (hl : ∀ j, L (j + 1) n = some r) : ∀ k, n < k → L k 0 = some r := by
  have key : ∀ d i j, i + d = n → d < j → L j i = some r := by
    intro d
    induction d with
    | zero =>
      intro i j hi hj
      obtain ⟨m, rfl⟩ : ∃ m, j = m + 1 := ⟨j - 1, by omega⟩
      obtain rfl : i = n := by omega
      exact hl m
    | succ d ih =>
      intro i j hi hj
      obtain ⟨m, rfl⟩ : ∃ m, j = m + 1 := ⟨j - 1, by omega⟩
      rw [hs i (by omega) m]
      exact ih (i + 1) m (by omega) (by omega)
  exact fun k hk => key n 0 k (by omega) hk
theorem bnd {α β : Type} {f : Nat → Option α} {g : Nat → α → Option β} {a : α} {b : β} (h : Ever fun k => f k = some a) (k : Ever fun k => g k a = some b) : Ever fun k => (f k).bind (g k) = some b :=
  h.two k fun k h1 h2 => by rw [h1]; exact h2
theorem some_cond {α : Type} {b : Bool} {x y : Option α} (hx : ∃ v, x = some v) (hy : ∃ v, y = some v) : ∃ v, (bif b then x else y) = some v := by
  cases b
  · exact hy
  · exact hx
theorem some_bind {α β : Type} {x : Option α} {f : α → Option β} (hx : ∃ v, x = some v) (hf : ∀ v, ∃ w, f v = some w) : ∃ w, x.bind f = some w := by
  obtain ⟨v, rfl⟩ := hx
  exact hf v
/-! ### numbers -/
theorem w64 {n : Int} (h0 : -9223372036854775808 ≤ n) (h1 : n < 9223372036854775808) : IntKind.wrap .i64 n = n := by
  simp [IntKind.wrap, IntKind.bits, IntKind.signed]
  omega
theorem wf64 {n : Int} (h : Bnd (.int .i64) n) : -9223372036854775808 ≤ n ∧ n < 9223372036854775808 := by
  have h : (Lit.int .i64 n).wf = true := h
  simp [Lit.wf, IntKind.min, IntKind.max, IntKind.signed, IntKind.bits] at h
  omega
theorem wn {n : Nat} (h : n < 9223372036854775808) : IntKind.wrap .i64 (n : Int) = n := w64 (by omega) (by omega)
theorem wsuc {n : Nat} (h : n < 9223372036854775807) : IntKind.wrap .i64 ((n : Int) + 1) = ((n + 1 : Nat) : Int) := by rw [w64] <;> omega
/-! ### partial answers -/
theorem at_nat {α : Type} {l : List α} {i : Nat} (h : i < l.length) : at? l (i : Int) = some l[i] := by
  unfold at?
  rw [if_pos (by omega), Int.toNat_natCast, List.getElem?_eq_getElem h]
theorem app_ok {α : Type} {n : Nat} {a b : List α} (h : (a.length + b.length) * n ≤ 140737488355328) : app? n a b = some (a ++ b) := if_pos h
theorem cat_some {a b : Str} (h : a.length + b.length ≤ 9223372036854775807) : cat? a b = some (a ++ b) := if_pos h
theorem make_some {α : Type} {b n : Nat} {x : α} (h : n * b ≤ 140737488355328) : make? b (n : Int) (n : Int) x = some (List.replicate n x) := by
  unfold make?
  rw [if_pos ⟨by omega, Int.le_refl _, by rw [Int.toNat_natCast]; exact h⟩, Int.toNat_natCast]
theorem cut_ok {α : Type} {l : List α} {i j : Nat} (h : i ≤ j) (k : j ≤ l.length) : cut? l (i : Int) (j : Int) = some ((l.take j).drop i) := by
  unfold cut?
  rw [if_pos ⟨by omega, by omega, by omega⟩, Int.toNat_natCast, Int.toNat_natCast]
theorem room_some {n b : Nat} (h : n * b ≤ 140737488355328) : room? n b = some () := if_pos h
theorem nz_some {b : Int} (h : b ≠ 0) : nz? b = some () := if_neg h
theorem nneg_some {b : Int} (h : 0 ≤ b) : nneg? b = some () := if_neg (by omega)
theorem take_map_succ {α β : Type} {l : List α} (f : α → β) {i : Nat} (h : i < l.length) : (l.take (i + 1)).map f = (l.take i).map f ++ [f l[i]] := by
  rw [List.take_add_one, List.getElem?_eq_getElem h, List.map_append]
  rfl
theorem take_succ' {α : Type} {l : List α} {i : Nat} (h : i < l.length) : l.take (i + 1) = l.take i ++ [l[i]] := by
  rw [List.take_add_one, List.getElem?_eq_getElem h]
  rfl
/-- A list that is filled, place by place. -/
theorem fill_set {α β : Type} {l : List α} {f : α → β} {z : β} {i : Nat} (h : i < l.length) :
    ((l.take i).map f ++ List.replicate (l.length - i) z).set i (f l[i]) = (l.take (i + 1)).map f ++ List.replicate (l.length - (i + 1)) z := by
  have hl : ((l.take i).map f).length = i := by simp; omega
  rw [List.set_append_right _ _ (by rw [hl]; exact Nat.le_refl i), hl, Nat.sub_self, show l.length - i = (l.length - (i + 1)) + 1 by omega, List.replicate_succ, List.set_cons_zero, take_map_succ f h, List.append_assoc]
  rfl
theorem fill_len {α β : Type} {l : List α} {f : α → β} {z : β} {i : Nat} (h : i ≤ l.length) : ((l.take i).map f ++ List.replicate (l.length - i) z).length = l.length := by simp; omega
end Go.Proofs.YthoibokhmkjkdaaE

namespace Go.Proofs.YthoibokhmkjkdaaE
open Go
set_option linter.unusedVariables false
/-- A loop that ends at the first place where a test fails. -/
theorem ever_stop {R : Type} (L : Nat → Nat → Nat → Option R) (n : Nat) (p : Nat → Bool) (m : Nat) (r : R) (hm : m ≤ n) (hall : ∀ i, i < m → p i = true) (hs : Ever fun k => ∀ i, i < n → p i = true → ∀ j, L k (j + 1) i = L k j (i + 1))
    (hl : Ever fun k => ∀ j, L k (j + 1) m = some r) : Ever fun k => L k k 0 = some r :=
  ever_loop L m r (hs.mono fun k h i hi => h i (by omega) (hall i hi)) hl
/-- Either all places pass, or there is a first that does not. -/
theorem all_or_first (n : Nat) (p : Nat → Bool) : (∀ i, i < n → p i = true) ∨ ∃ m, m < n ∧ p m = false ∧ ∀ i, i < m → p i = true := by
  induction n with
  | zero => exact .inl fun i hi => absurd hi (Nat.not_lt_zero i)
  | succ n ih =>
    rcases ih with h | ⟨m, h1, h2, h3⟩
    · cases hp : p n with
      | true =>
        refine .inl fun i hi => ?_
        rcases Nat.eq_or_lt_of_le (Nat.le_of_lt_succ hi) with rfl | hi
        · exact hp
        · exact h i hi
      | false => exact .inr ⟨n, Nat.lt_succ_self n, hp, h⟩
    · exact .inr ⟨m, Nat.lt_succ_of_lt h1, h2, h3⟩
theorem all_get {α : Type} {l : List α} {q : α → Bool} : (∀ x ∈ l, q x = true) ↔ ∀ i, (h : i < l.length) → q l[i] = true := by
  constructor
  · exact fun h i hi => h _ (List.getElem_mem hi)
  · intro h x hx
    obtain ⟨i, hi, rfl⟩ := List.getElem_of_mem hx
    exact h i hi
/-- All elements pass, or there is a first that does not. -/
theorem list_first {α : Type} (l : List α) (q : α → Bool) : (l.all q = true) ∨ (l.all q = false ∧ ∃ m, ∃ h : m < l.length, q l[m] = false ∧ ∀ i, (hi : i < m) → q (l[i]'(by omega)) = true) := by
  rcases all_or_first l.length (fun i => match l[i]? with | some x => q x | none => true) with h | ⟨m, h1, h2, h3⟩
  · refine .inl (List.all_eq_true.2 (all_get.2 fun i hi => ?_))
    have := h i hi
    rwa [List.getElem?_eq_getElem hi] at this
  · rw [List.getElem?_eq_getElem h1] at h2
    replace h2 : q l[m] = false := h2
    refine .inr ⟨?_, m, h1, h2, fun i hi => ?_⟩
    · cases ha : l.all q with
      | false => rfl
      | true => rw [List.all_eq_true.1 ha _ (List.getElem_mem h1)] at h2; cases h2
    · have := h3 i hi
      rwa [List.getElem?_eq_getElem (by omega)] at this
/-- A loop that tests all places; where a test fails it leaves with what q says. -/
theorem loop_test {R : Type} (L : Nat → Nat → Option (Unit ⊕ R)) (n : Nat) (p : Nat → Bool) (q : Nat → R) (hs : ∀ i, i < n → p i = true → ∀ j, L (j + 1) i = L j (i + 1)) (hf : ∀ i, i < n → p i = false → ∀ j, L (j + 1) i = some (.inr (q i))) (he : ∀ j, L (j + 1) n = some (.inl ())) :
    ((List.range n).all p = true ∧ ∀ k, n < k → L k 0 = some (.inl ())) ∨ ((List.range n).all p = false ∧ ∃ i, i < n ∧ p i = false ∧ ∀ k, n < k → L k 0 = some (.inr (q i))) := by
  rcases all_or_first n p with h | ⟨m, h1, h2, h3⟩
  · refine .inl ⟨List.all_eq_true.2 fun i hi => h i (List.mem_range.1 hi), loop_at L n _ (fun i hi => hs i hi (h i hi)) he⟩
  · refine .inr ⟨?_, m, h1, h2, fun k hk => loop_at L m _ (fun i hi => hs i (by omega) (h3 i hi)) (hf m h1 h2) k (by omega)⟩
    cases ha : (List.range n).all p with
    | false => rfl
    | true => rw [List.all_eq_true.1 ha m (List.mem_range.2 h1)] at h2; cases h2
end Go.Proofs.YthoibokhmkjkdaaE
