/- What the law FnExactAnswerText needs, part 7 of 8: the Lean functions of the Go functions that it reaches, with the proofs that the calls come to what they say, and plain facts about them. Conditions: those that each theorem states. Written by a session and by its programs (after the kit's printer). -/
import Derived.Laws.BitsLemmas
import Derived.Lib.ItoaNum
import Derived.Test.YtaajcllchbnjiaaDoorXFnExactAnswerText5
namespace Go.Proofs.YtaajcllchbnjiaaDoorE
open Go Go.RowKit
set_option linter.unusedVariables false
def laws_szStringS.l0 : Nat → List Str → Int → Int → Option (Int ⊕ Int)
  | 0, _, _, _ => none
  | j + 1, a1, a2, a3 =>
    bif decide (a3 < ((a1.length) : Int)) then
      Option.bind (at? a1 a3) fun v4 =>
      let e5 := IntKind.wrap .i64 (a2 - ((v4.length) : Int))
      bif decide (e5 < 0) then
        some (.inr (-1))
      else
      laws_szStringS.l0 j a1 e5 (IntKind.wrap .i64 (a3 + 1))
    else
    some (.inl a2)
def laws_szStringS (k : Nat) (a1 : List Str) (a2 : Int) : Option (Int) :=
  let e3 := IntKind.wrap .i64 (a2 - ((a1.length) : Int))
  bif decide (e3 < 0) then
    some (-1)
  else
  Option.bind (laws_szStringS.l0 k a1 e3 0) fun
    | .inl y4 =>
      some y4
    | .inr y5 =>
      some y5
def laws_szStringS.sig : Sig := { ps := [.val false (.sl .str) (ros (.sl .str)), .val false (.int .i64) (ros (.int .i64))], rs := [.val false [.v (.int .i64)]], ntmps := 28 }
def laws_szStringS.con (k : Nat) : Con := laws_szStringS.sig.con (fun x => laws_szStringS k x.1 x.2)
def laws_szStringS.C (k : Nat) : Ctx := { ti := TAB, con := conL [] }
theorem laws_szStringS.cok (k : Nat) : CtxOk Tryd.prog (laws_szStringS.C k) := ctx_ok TABok trivial
def laws_szStringS.l0.ish : Shape := { tmps := [(0, .one (.bor .str)), (1, .one (.v (.int .i64))), (5, .one (.v (.int .i64)))], slots := [], nb := 0 }
def laws_szStringS.l0.outs : List (Ex × Shape) := [(.exit 0, { tmps := [(1, .one (.v (.int .i64)))], slots := [], nb := 0 }), (.ret, { tmps := [(4, .one (.v (.int .i64)))], slots := [], nb := 0 })]
def laws_szStringS.l0.F (k j : Nat) (x : Prod' laws_szStringS.l0.ish.tys) : Option (Outs laws_szStringS.l0.outs) := laws_szStringS.l0 j x.1 x.2.1 x.2.2
def laws_szStringS.l0.s (k : Nat) : Summ := { n := 28, ish := laws_szStringS.l0.ish, outs := laws_szStringS.l0.outs, f := laws_szStringS.l0.F k k }
theorem laws_szStringS.l0.ev (k j : Nat) (x : Prod' laws_szStringS.l0.ish.tys) : V (laws_szStringS.C k) .auto (cO (cO (cR (cL (cR (cR (cR (cB Tryd.f54)))))))) (mk laws_szStringS.l0.ish 28 x) (fun e st' => match e with | .nrm => (rd laws_szStringS.l0.ish st').bind (laws_szStringS.l0.F k j) | e => rdOut e st' laws_szStringS.l0.outs) = laws_szStringS.l0.F k (j + 1) x := by kernel_rfl
theorem laws_szStringS.l0.ok (k : Nat) : SumOk Tryd.prog (laws_szStringS.C k) (.loop (cO (cO (cR (cL (cR (cR (cR (cB Tryd.f54))))))))) (laws_szStringS.l0.s k) := sum_ok (by kernel_rfl) (sum_loop (p := .auto) (F := laws_szStringS.l0.F k) (laws_szStringS.cok k) (by kernel_rfl) (plan_of (L := []) (by kernel_rfl) trivial) (fun _ => rfl) (fun j x y h => (laws_szStringS.l0.ev k j x).trans h) k rfl)
theorem laws_szStringS.ev (k : Nat) (x : Prod' laws_szStringS.sig.ins) : laws_szStringS.sig.ev (laws_szStringS.C k) (.two .auto (.two .auto (.two .auto (.two (.two .auto (.one (.sum (laws_szStringS.l0.s k)))) .auto)))) Tryd.f54.results.toList (cB Tryd.f54) x = laws_szStringS k x.1 x.2 := by kernel_rfl
theorem laws_szStringS.ok (k : Nat) : ConOk Tryd.prog 54 (laws_szStringS.con k) := sig_ok (p := (.two .auto (.two .auto (.two .auto (.two (.two .auto (.one (.sum (laws_szStringS.l0.s k)))) .auto))))) (laws_szStringS.cok k) Tryd.func54 (by kernel_rfl) (show Tryd.f54.body = some (cB Tryd.f54) by kernel_rfl) (by kernel_rfl) (by kernel_rfl) (plan_of (L := [(laws_szStringS.l0.s k, cO (cR (cL (cR (cR (cR (cB Tryd.f54)))))))]) (by kernel_rfl) ⟨laws_szStringS.l0.ok k, trivial⟩) (fun x y h => (laws_szStringS.ev k x).trans h)
def laws_szDirty (a1 : G103) (a2 : Int) : Option (Int) :=
  let e3 := IntKind.wrap .i64 (a2 - ((a1.2.length) : Int))
  bif decide (e3 < 0) then
    some (-1)
  else
  some e3
def laws_szDirty.sig : Sig := { ps := [.val true T103 (ros T103), .val false (.int .i64) (ros (.int .i64))], rs := [.val false [.v (.int .i64)]], ntmps := 13 }
def laws_szDirty.con (k : Nat) : Con := laws_szDirty.sig.con (fun x => laws_szDirty x.1 x.2)
def laws_szDirty.C (k : Nat) : Ctx := { ti := TAB, con := conL [] }
theorem laws_szDirty.cok (k : Nat) : CtxOk Tryd.prog (laws_szDirty.C k) := ctx_ok TABok trivial
theorem laws_szDirty.ev (k : Nat) (x : Prod' laws_szDirty.sig.ins) : laws_szDirty.sig.ev (laws_szDirty.C k) .auto Tryd.f67.results.toList (cB Tryd.f67) x = laws_szDirty x.1 x.2 := by kernel_rfl
theorem laws_szDirty.ok (k : Nat) : ConOk Tryd.prog 67 (laws_szDirty.con k) := sig_ok (p := .auto) (laws_szDirty.cok k) Tryd.func67 (by kernel_rfl) (show Tryd.f67.body = some (cB Tryd.f67) by kernel_rfl) (by kernel_rfl) (by kernel_rfl) (plan_of (L := []) (by kernel_rfl) trivial) (fun x y h => (laws_szDirty.ev k x).trans h)
def laws_szDirtyS.l0 : Nat → List G103 → Int → Int → Option (Int ⊕ Int)
  | 0, _, _, _ => none
  | j + 1, a1, a2, a3 =>
    bif decide (a3 < ((a1.length) : Int)) then
      Option.bind (at? a1 a3) fun v4 =>
      Option.bind (laws_szDirty v4 a2) fun v5 =>
      bif decide (v5 < 0) then
        some (.inr (-1))
      else
      laws_szDirtyS.l0 j a1 v5 (IntKind.wrap .i64 (a3 + 1))
    else
    some (.inl a2)
def laws_szDirtyS (k : Nat) (a1 : List G103) (a2 : Int) : Option (Int) :=
  let e3 := IntKind.wrap .i64 (a2 - ((a1.length) : Int))
  bif decide (e3 < 0) then
    some (-1)
  else
  Option.bind (laws_szDirtyS.l0 k a1 e3 0) fun
    | .inl y4 =>
      some y4
    | .inr y5 =>
      some y5
def laws_szDirtyS.sig : Sig := { ps := [.val false (.sl T103) (ros (.sl T103)), .val false (.int .i64) (ros (.int .i64))], rs := [.val false [.v (.int .i64)]], ntmps := 27 }
def laws_szDirtyS.con (k : Nat) : Con := laws_szDirtyS.sig.con (fun x => laws_szDirtyS k x.1 x.2)
def laws_szDirtyS.C (k : Nat) : Ctx := { ti := TAB, con := conL [(67, laws_szDirty.con k)] }
theorem laws_szDirtyS.cok (k : Nat) : CtxOk Tryd.prog (laws_szDirtyS.C k) := ctx_ok TABok ⟨laws_szDirty.ok k, trivial⟩
def laws_szDirtyS.l0.ish : Shape := { tmps := [(0, .one (.bor T103)), (1, .one (.v (.int .i64))), (5, .one (.v (.int .i64)))], slots := [], nb := 0 }
def laws_szDirtyS.l0.outs : List (Ex × Shape) := [(.exit 0, { tmps := [(1, .one (.v (.int .i64)))], slots := [], nb := 0 }), (.ret, { tmps := [(4, .one (.v (.int .i64)))], slots := [], nb := 0 })]
def laws_szDirtyS.l0.F (k j : Nat) (x : Prod' laws_szDirtyS.l0.ish.tys) : Option (Outs laws_szDirtyS.l0.outs) := laws_szDirtyS.l0 j x.1 x.2.1 x.2.2
def laws_szDirtyS.l0.s (k : Nat) : Summ := { n := 27, ish := laws_szDirtyS.l0.ish, outs := laws_szDirtyS.l0.outs, f := laws_szDirtyS.l0.F k k }
theorem laws_szDirtyS.l0.ev (k j : Nat) (x : Prod' laws_szDirtyS.l0.ish.tys) : V (laws_szDirtyS.C k) .auto (cO (cO (cR (cL (cR (cR (cR (cB Tryd.f55)))))))) (mk laws_szDirtyS.l0.ish 27 x) (fun e st' => match e with | .nrm => (rd laws_szDirtyS.l0.ish st').bind (laws_szDirtyS.l0.F k j) | e => rdOut e st' laws_szDirtyS.l0.outs) = laws_szDirtyS.l0.F k (j + 1) x := by kernel_rfl
theorem laws_szDirtyS.l0.ok (k : Nat) : SumOk Tryd.prog (laws_szDirtyS.C k) (.loop (cO (cO (cR (cL (cR (cR (cR (cB Tryd.f55))))))))) (laws_szDirtyS.l0.s k) := sum_ok (by kernel_rfl) (sum_loop (p := .auto) (F := laws_szDirtyS.l0.F k) (laws_szDirtyS.cok k) (by kernel_rfl) (plan_of (L := []) (by kernel_rfl) trivial) (fun _ => rfl) (fun j x y h => (laws_szDirtyS.l0.ev k j x).trans h) k rfl)
theorem laws_szDirtyS.ev (k : Nat) (x : Prod' laws_szDirtyS.sig.ins) : laws_szDirtyS.sig.ev (laws_szDirtyS.C k) (.two .auto (.two .auto (.two .auto (.two (.two .auto (.one (.sum (laws_szDirtyS.l0.s k)))) .auto)))) Tryd.f55.results.toList (cB Tryd.f55) x = laws_szDirtyS k x.1 x.2 := by kernel_rfl
theorem laws_szDirtyS.ok (k : Nat) : ConOk Tryd.prog 55 (laws_szDirtyS.con k) := sig_ok (p := (.two .auto (.two .auto (.two .auto (.two (.two .auto (.one (.sum (laws_szDirtyS.l0.s k)))) .auto))))) (laws_szDirtyS.cok k) Tryd.func55 (by kernel_rfl) (show Tryd.f55.body = some (cB Tryd.f55) by kernel_rfl) (by kernel_rfl) (by kernel_rfl) (plan_of (L := [(laws_szDirtyS.l0.s k, cO (cR (cL (cR (cR (cR (cB Tryd.f55)))))))]) (by kernel_rfl) ⟨laws_szDirtyS.l0.ok k, trivial⟩) (fun x y h => (laws_szDirtyS.ev k x).trans h)
def laws_szFlash (k : Nat) (a1 : G25) (a2 : Int) : Option (Int) :=
  Option.bind (laws_szStringS k a1.1 a2) fun v3 =>
  bif decide (v3 < 0) then
    some (-1)
  else
  Option.bind (laws_szDirtyS k a1.2 v3) fun v4 =>
  bif decide (v4 < 0) then
    some (-1)
  else
  some v4
def laws_szFlash.sig : Sig := { ps := [.val true T25 (ros T25), .val false (.int .i64) (ros (.int .i64))], rs := [.val false [.v (.int .i64)]], ntmps := 18 }
def laws_szFlash.con (k : Nat) : Con := laws_szFlash.sig.con (fun x => laws_szFlash k x.1 x.2)
def laws_szFlash.C (k : Nat) : Ctx := { ti := TAB, con := conL [(54, laws_szStringS.con k), (55, laws_szDirtyS.con k)], rob := true }
theorem laws_szFlash.cok (k : Nat) : CtxOk Tryd.prog (laws_szFlash.C k) := ctx_ok TABok ⟨laws_szStringS.ok k, laws_szDirtyS.ok k, trivial⟩
theorem laws_szFlash.ev (k : Nat) (x : Prod' laws_szFlash.sig.ins) : laws_szFlash.sig.ev (laws_szFlash.C k) .auto Tryd.f33.results.toList (cB Tryd.f33) x = laws_szFlash k x.1 x.2 := by kernel_rfl
theorem laws_szFlash.ok (k : Nat) : ConOk Tryd.prog 33 (laws_szFlash.con k) := sig_ok (p := .auto) (laws_szFlash.cok k) Tryd.func33 (by kernel_rfl) (show Tryd.f33.body = some (cB Tryd.f33) by kernel_rfl) (by kernel_rfl) (by kernel_rfl) (plan_of (L := []) (by kernel_rfl) trivial) (fun x y h => (laws_szFlash.ev k x).trans h)
def laws_szMachine (k : Nat) (a1 : G27) (a2 : Int) : Option (Int) :=
  Option.bind (laws_szFlash k a1.2 a2) fun v3 =>
  bif decide (v3 < 0) then
    some (-1)
  else
  some v3
def laws_szMachine.sig : Sig := { ps := [.val true T27 (ros T27), .val false (.int .i64) (ros (.int .i64))], rs := [.val false [.v (.int .i64)]], ntmps := 12 }
def laws_szMachine.con (k : Nat) : Con := laws_szMachine.sig.con (fun x => laws_szMachine k x.1 x.2)
def laws_szMachine.C (k : Nat) : Ctx := { ti := TAB, con := conL [(33, laws_szFlash.con k)], rob := true }
theorem laws_szMachine.cok (k : Nat) : CtxOk Tryd.prog (laws_szMachine.C k) := ctx_ok TABok ⟨laws_szFlash.ok k, trivial⟩
theorem laws_szMachine.ev (k : Nat) (x : Prod' laws_szMachine.sig.ins) : laws_szMachine.sig.ev (laws_szMachine.C k) .auto Tryd.f15.results.toList (cB Tryd.f15) x = laws_szMachine k x.1 x.2 := by kernel_rfl
theorem laws_szMachine.ok (k : Nat) : ConOk Tryd.prog 15 (laws_szMachine.con k) := sig_ok (p := .auto) (laws_szMachine.cok k) Tryd.func15 (by kernel_rfl) (show Tryd.f15.body = some (cB Tryd.f15) by kernel_rfl) (by kernel_rfl) (by kernel_rfl) (plan_of (L := []) (by kernel_rfl) trivial) (fun x y h => (laws_szMachine.ev k x).trans h)
def laws_szInt64S (a1 : List Int) (a2 : Int) : Option (Int) :=
  let e3 := IntKind.wrap .i64 (a2 - ((a1.length) : Int))
  bif decide (e3 < 0) then
    some (-1)
  else
  some e3
def laws_szInt64S.sig : Sig := { ps := [.val false (.sl (.int .i64)) (ros (.sl (.int .i64))), .val false (.int .i64) (ros (.int .i64))], rs := [.val false [.v (.int .i64)]], ntmps := 12 }
def laws_szInt64S.con (k : Nat) : Con := laws_szInt64S.sig.con (fun x => laws_szInt64S x.1 x.2)
def laws_szInt64S.C (k : Nat) : Ctx := { ti := TAB, con := conL [] }
theorem laws_szInt64S.cok (k : Nat) : CtxOk Tryd.prog (laws_szInt64S.C k) := ctx_ok TABok trivial
theorem laws_szInt64S.ev (k : Nat) (x : Prod' laws_szInt64S.sig.ins) : laws_szInt64S.sig.ev (laws_szInt64S.C k) .auto Tryd.f16.results.toList (cB Tryd.f16) x = laws_szInt64S x.1 x.2 := by kernel_rfl
theorem laws_szInt64S.ok (k : Nat) : ConOk Tryd.prog 16 (laws_szInt64S.con k) := sig_ok (p := .auto) (laws_szInt64S.cok k) Tryd.func16 (by kernel_rfl) (show Tryd.f16.body = some (cB Tryd.f16) by kernel_rfl) (by kernel_rfl) (by kernel_rfl) (plan_of (L := []) (by kernel_rfl) trivial) (fun x y h => (laws_szInt64S.ev k x).trans h)
def laws_szDoOut (k : Nat) (a1 : G30) (a2 : Int) : Option (Int) :=
  Option.bind (laws_szMachine k a1.1 a2) fun v3 =>
  bif decide (v3 < 0) then
    some (-1)
  else
  let e4 := IntKind.wrap .i64 (v3 - ((a1.2.1.length) : Int))
  bif decide (e4 < 0) then
    some (-1)
  else
  Option.bind (laws_szInt64S a1.2.2.1 e4) fun v5 =>
  bif decide (v5 < 0) then
    some (-1)
  else
  some v5
def laws_szDoOut.sig : Sig := { ps := [.val true T30 (ros T30), .val false (.int .i64) (ros (.int .i64))], rs := [.val false [.v (.int .i64)]], ntmps := 25 }
def laws_szDoOut.con (k : Nat) : Con := laws_szDoOut.sig.con (fun x => laws_szDoOut k x.1 x.2)
def laws_szDoOut.C (k : Nat) : Ctx := { ti := TAB, con := conL [(15, laws_szMachine.con k), (16, laws_szInt64S.con k)], rob := true }
theorem laws_szDoOut.cok (k : Nat) : CtxOk Tryd.prog (laws_szDoOut.C k) := ctx_ok TABok ⟨laws_szMachine.ok k, laws_szInt64S.ok k, trivial⟩
theorem laws_szDoOut.ev (k : Nat) (x : Prod' laws_szDoOut.sig.ins) : laws_szDoOut.sig.ev (laws_szDoOut.C k) .auto Tryd.f5.results.toList (cB Tryd.f5) x = laws_szDoOut k x.1 x.2 := by kernel_rfl
theorem laws_szDoOut.ok (k : Nat) : ConOk Tryd.prog 5 (laws_szDoOut.con k) := sig_ok (p := .auto) (laws_szDoOut.cok k) Tryd.func5 (by kernel_rfl) (show Tryd.f5.body = some (cB Tryd.f5) by kernel_rfl) (by kernel_rfl) (by kernel_rfl) (plan_of (L := []) (by kernel_rfl) trivial) (fun x y h => (laws_szDoOut.ev k x).trans h)
def spec_l01Dec.l0 : Nat → Int → Str → Option (Str)
  | 0, _, _ => none
  | j + 1, a1, a2 =>
    bif a1 != 0 then
      Option.bind (nz? 10) fun v3 =>
      let e4 := IntKind.wrap .i64 (Int.tdiv a1 10)
      bif decide ((Int.tmod a1 10) < 0) then
        Option.bind (cat? (listByte [(IntKind.wrap .u8 (IntKind.wrap .i64 (48 + (IntKind.wrap .i64 (0 - (Int.tmod a1 10))))))]) a2) fun v5 =>
        Option.bind (nz? 10) fun v6 =>
        spec_l01Dec.l0 j e4 v5
      else
      Option.bind (cat? (listByte [(IntKind.wrap .u8 (IntKind.wrap .i64 (48 + (Int.tmod a1 10))))]) a2) fun v7 =>
      Option.bind (nz? 10) fun v8 =>
      spec_l01Dec.l0 j e4 v7
    else
    some a2
def spec_l01Dec (k : Nat) (a1 : Int) : Option (Str) :=
  bif a1 == 0 then
    some ([48] : Str)
  else
  Option.bind (spec_l01Dec.l0 k a1 []) fun y2 =>
  bif decide (a1 < 0) then
    Option.bind (cat? ([45] : Str) y2) fun v3 =>
    some v3
  else
  some y2
def spec_l01Dec.sig : Sig := { ps := [.val false (.int .i64) (ros (.int .i64))], rs := [.val false [.v .str]], ntmps := 31 }
def spec_l01Dec.con (k : Nat) : Con := spec_l01Dec.sig.con (fun x => spec_l01Dec k x)
def spec_l01Dec.C (k : Nat) : Ctx := { ti := TAB, con := conL [] }
theorem spec_l01Dec.cok (k : Nat) : CtxOk Tryd.prog (spec_l01Dec.C k) := ctx_ok TABok trivial
def spec_l01Dec.l0.ish : Shape := { tmps := [(0, .one (.v (.int .i64))), (4, .one (.v .str))], slots := [], nb := 0 }
def spec_l01Dec.l0.outs : List (Ex × Shape) := [(.exit 0, { tmps := [(4, .one (.v .str))], slots := [], nb := 0 })]
def spec_l01Dec.l0.F (k j : Nat) (x : Prod' spec_l01Dec.l0.ish.tys) : Option (Outs spec_l01Dec.l0.outs) := spec_l01Dec.l0 j x.1 x.2
def spec_l01Dec.l0.s (k : Nat) : Summ := { n := 31, ish := spec_l01Dec.l0.ish, outs := spec_l01Dec.l0.outs, f := spec_l01Dec.l0.F k k }
theorem spec_l01Dec.l0.ev (k j : Nat) (x : Prod' spec_l01Dec.l0.ish.tys) : V (spec_l01Dec.C k) .auto (cO (cO (cL (cR (cR (cR (cR (cB Tryd.f27)))))))) (mk spec_l01Dec.l0.ish 31 x) (fun e st' => match e with | .nrm => (rd spec_l01Dec.l0.ish st').bind (spec_l01Dec.l0.F k j) | e => rdOut e st' spec_l01Dec.l0.outs) = spec_l01Dec.l0.F k (j + 1) x := by kernel_rfl
theorem spec_l01Dec.l0.ok (k : Nat) : SumOk Tryd.prog (spec_l01Dec.C k) (.loop (cO (cO (cL (cR (cR (cR (cR (cB Tryd.f27))))))))) (spec_l01Dec.l0.s k) := sum_ok (by kernel_rfl) (sum_loop (p := .auto) (F := spec_l01Dec.l0.F k) (spec_l01Dec.cok k) (by kernel_rfl) (plan_of (L := []) (by kernel_rfl) trivial) (fun _ => rfl) (fun j x y h => (spec_l01Dec.l0.ev k j x).trans h) k rfl)
theorem spec_l01Dec.ev (k : Nat) (x : Prod' spec_l01Dec.sig.ins) : spec_l01Dec.sig.ev (spec_l01Dec.C k) (.two .auto (.two .auto (.two .auto (.two .auto (.two (.one (.sum (spec_l01Dec.l0.s k))) .auto))))) Tryd.f27.results.toList (cB Tryd.f27) x = spec_l01Dec k x := by kernel_rfl
theorem spec_l01Dec.ok (k : Nat) : ConOk Tryd.prog 27 (spec_l01Dec.con k) := sig_ok (p := (.two .auto (.two .auto (.two .auto (.two .auto (.two (.one (.sum (spec_l01Dec.l0.s k))) .auto)))))) (spec_l01Dec.cok k) Tryd.func27 (by kernel_rfl) (show Tryd.f27.body = some (cB Tryd.f27) by kernel_rfl) (by kernel_rfl) (by kernel_rfl) (plan_of (L := [(spec_l01Dec.l0.s k, cO (cL (cR (cR (cR (cR (cB Tryd.f27)))))))]) (by kernel_rfl) ⟨spec_l01Dec.l0.ok k, trivial⟩) (fun x y h => (spec_l01Dec.ev k x).trans h)
def spec_l03Max (a1 : Int) (a2 : Int) : Option (Int) :=
  bif decide (a2 < a1) then
    some a1
  else
  some a2
def spec_l03Max.sig : Sig := { ps := [.val false (.int .i64) (ros (.int .i64)), .val false (.int .i64) (ros (.int .i64))], rs := [.val false [.v (.int .i64)]], ntmps := 10 }
def spec_l03Max.con (k : Nat) : Con := spec_l03Max.sig.con (fun x => spec_l03Max x.1 x.2)
def spec_l03Max.C (k : Nat) : Ctx := { ti := TAB, con := conL [] }
theorem spec_l03Max.cok (k : Nat) : CtxOk Tryd.prog (spec_l03Max.C k) := ctx_ok TABok trivial
theorem spec_l03Max.ev (k : Nat) (x : Prod' spec_l03Max.sig.ins) : spec_l03Max.sig.ev (spec_l03Max.C k) .auto Tryd.f34.results.toList (cB Tryd.f34) x = spec_l03Max x.1 x.2 := by kernel_rfl
theorem spec_l03Max.ok (k : Nat) : ConOk Tryd.prog 34 (spec_l03Max.con k) := sig_ok (p := .auto) (spec_l03Max.cok k) Tryd.func34 (by kernel_rfl) (show Tryd.f34.body = some (cB Tryd.f34) by kernel_rfl) (by kernel_rfl) (by kernel_rfl) (plan_of (L := []) (by kernel_rfl) trivial) (fun x y h => (spec_l03Max.ev k x).trans h)
def spec_l16Dec (k : Nat) (a1 : Int) : Option (Str) :=
  Option.bind (spec_l03Max 0 a1) fun v2 =>
  Option.bind (spec_l01Dec k v2) fun v3 =>
  some v3
def spec_l16Dec.sig : Sig := { ps := [.val false (.int .i64) (ros (.int .i64))], rs := [.val false [.v .str]], ntmps := 6 }
def spec_l16Dec.con (k : Nat) : Con := spec_l16Dec.sig.con (fun x => spec_l16Dec k x)
def spec_l16Dec.C (k : Nat) : Ctx := { ti := TAB, con := conL [(27, spec_l01Dec.con k), (34, spec_l03Max.con k)] }
theorem spec_l16Dec.cok (k : Nat) : CtxOk Tryd.prog (spec_l16Dec.C k) := ctx_ok TABok ⟨spec_l01Dec.ok k, spec_l03Max.ok k, trivial⟩
theorem spec_l16Dec.ev (k : Nat) (x : Prod' spec_l16Dec.sig.ins) : spec_l16Dec.sig.ev (spec_l16Dec.C k) .auto Tryd.f17.results.toList (cB Tryd.f17) x = spec_l16Dec k x := by kernel_rfl
theorem spec_l16Dec.ok (k : Nat) : ConOk Tryd.prog 17 (spec_l16Dec.con k) := sig_ok (p := .auto) (spec_l16Dec.cok k) Tryd.func17 (by kernel_rfl) (show Tryd.f17.body = some (cB Tryd.f17) by kernel_rfl) (by kernel_rfl) (by kernel_rfl) (plan_of (L := []) (by kernel_rfl) trivial) (fun x y h => (spec_l16Dec.ev k x).trans h)
def spec_l16Hex.l0 : Nat → Str → Str → Int → List Int → Option ((List Int))
  | 0, _, _, _, _ => none
  | j + 1, a1, a2, a3, a4 =>
    bif decide (a3 < ((a1.length) : Int)) then
      Option.bind (at? a1 a3) fun v5 =>
      Option.bind (nneg? 4) fun v6 =>
      Option.bind (at? a2 (shr .u8 (v5.toNat : Int) 4)) fun v7 =>
      Option.bind (at? a1 a3) fun v8 =>
      Option.bind (at? a2 (intBits .and .u8 (v8.toNat : Int) 15)) fun v9 =>
      Option.bind (app? 1 a4 [(v7.toNat : Int), (v9.toNat : Int)]) fun v10 =>
      spec_l16Hex.l0 j a1 a2 (IntKind.wrap .i64 (a3 + 1)) v10
    else
    some a4
def spec_l16Hex (k : Nat) (a1 : Str) : Option (Str) :=
  Option.bind (spec_l16Hex.l0 k a1 ([48, 49, 50, 51, 52, 53, 54, 55, 56, 57, 97, 98, 99, 100, 101, 102] : Str) 0 []) fun y2 =>
  some (listByte y2)
def spec_l16Hex.sig : Sig := { ps := [.val false .str (ros .str)], rs := [.val false [.v .str]], ntmps := 30 }
def spec_l16Hex.con (k : Nat) : Con := spec_l16Hex.sig.con (fun x => spec_l16Hex k x)
def spec_l16Hex.C (k : Nat) : Ctx := { ti := TAB, con := conL [] }
theorem spec_l16Hex.cok (k : Nat) : CtxOk Tryd.prog (spec_l16Hex.C k) := ctx_ok TABok trivial
def spec_l16Hex.l0.ish : Shape := { tmps := [(0, .one (.v .str)), (3, .one (.v .str)), (4, .one (.own 1)), (5, .one (.v (.int .i64)))], slots := [(1, .arr false 5 (.int .u8))], nb := 2 }
def spec_l16Hex.l0.outs : List (Ex × Shape) := [(.exit 0, { tmps := [(4, .one (.own 2))], slots := [(2, .arr false 5 (.int .u8))], nb := 3 })]
def spec_l16Hex.l0.F (k j : Nat) (x : Prod' spec_l16Hex.l0.ish.tys) : Option (Outs spec_l16Hex.l0.outs) := spec_l16Hex.l0 j x.1 x.2.1 x.2.2.1 x.2.2.2
def spec_l16Hex.l0.s (k : Nat) : Summ := { n := 30, ish := spec_l16Hex.l0.ish, outs := spec_l16Hex.l0.outs, f := spec_l16Hex.l0.F k k }
theorem spec_l16Hex.l0.ev (k j : Nat) (x : Prod' spec_l16Hex.l0.ish.tys) : V (spec_l16Hex.C k) .auto (cO (cO (cR (cL (cR (cR (cR (cB Tryd.f18)))))))) (mk spec_l16Hex.l0.ish 30 x) (fun e st' => match e with | .nrm => (rd spec_l16Hex.l0.ish st').bind (spec_l16Hex.l0.F k j) | e => rdOut e st' spec_l16Hex.l0.outs) = spec_l16Hex.l0.F k (j + 1) x := by kernel_rfl
theorem spec_l16Hex.l0.ok (k : Nat) : SumOk Tryd.prog (spec_l16Hex.C k) (.loop (cO (cO (cR (cL (cR (cR (cR (cB Tryd.f18))))))))) (spec_l16Hex.l0.s k) := sum_ok (by kernel_rfl) (sum_loop (p := .auto) (F := spec_l16Hex.l0.F k) (spec_l16Hex.cok k) (by kernel_rfl) (plan_of (L := []) (by kernel_rfl) trivial) (fun _ => rfl) (fun j x y h => (spec_l16Hex.l0.ev k j x).trans h) k rfl)
theorem spec_l16Hex.ev (k : Nat) (x : Prod' spec_l16Hex.sig.ins) : spec_l16Hex.sig.ev (spec_l16Hex.C k) (.two .auto (.two .auto (.two .auto (.two (.two .auto (.one (.sum (spec_l16Hex.l0.s k)))) .auto)))) Tryd.f18.results.toList (cB Tryd.f18) x = spec_l16Hex k x := by kernel_rfl
theorem spec_l16Hex.ok (k : Nat) : ConOk Tryd.prog 18 (spec_l16Hex.con k) := sig_ok (p := (.two .auto (.two .auto (.two .auto (.two (.two .auto (.one (.sum (spec_l16Hex.l0.s k)))) .auto))))) (spec_l16Hex.cok k) Tryd.func18 (by kernel_rfl) (show Tryd.f18.body = some (cB Tryd.f18) by kernel_rfl) (by kernel_rfl) (by kernel_rfl) (plan_of (L := [(spec_l16Hex.l0.s k, cO (cR (cL (cR (cR (cR (cB Tryd.f18)))))))]) (by kernel_rfl) ⟨spec_l16Hex.l0.ok k, trivial⟩) (fun x y h => (spec_l16Hex.ev k x).trans h)
def spec_AnswerText.j0 (k : Nat) (a1 : Int) (a2 : List Str) (a3 : List G103) (a4 : Str) (a5 : List Int) (a6 : Int) (a7 : List Int) : Option ((List Int)) :=
  bif a6 != 0 then
    Option.bind (spec_l16Dec k a6) fun v8 =>
    Option.bind (cat? ([101, 114, 114, 111, 114, 32] : Str) v8) fun v9 =>
    Option.bind (room? (v9.length) 1) fun v10 =>
    some (byteList v9)
  else
  some a7
def spec_AnswerText.l1 (k : Nat) : Nat → Int → List Str → List G103 → Str → List Int → Int → Int → List Int → Option ((List Int))
  | 0, _, _, _, _, _, _, _, _ => none
  | j + 1, a1, a2, a3, a4, a5, a6, a7, a8 =>
    bif decide (a7 < ((a5.length) : Int)) then
      Option.bind (at? a5 a7) fun v9 =>
      Option.bind (spec_l16Dec k v9) fun v10 =>
      Option.bind (cat? ([32] : Str) v10) fun v11 =>
      Option.bind (app? 1 a8 (byteList v11)) fun v12 =>
      spec_AnswerText.l1 k j a1 a2 a3 a4 a5 a6 (IntKind.wrap .i64 (a7 + 1)) v12
    else
    some a8
def spec_AnswerText (k : Nat) (a1 : G30) : Option (Str) :=
  Option.bind (spec_AnswerText.j0 k a1.1.1 a1.1.2.1 a1.1.2.2 a1.2.1 a1.2.2.1 a1.2.2.2 [111, 107]) fun y2 =>
  Option.bind (spec_AnswerText.l1 k k a1.1.1 a1.1.2.1 a1.1.2.2 a1.2.1 a1.2.2.1 a1.2.2.2 0 y2) fun y3 =>
  bif !(a1.2.1 == []) then
    Option.bind (spec_l16Hex k a1.2.1) fun v4 =>
    Option.bind (cat? ([32] : Str) v4) fun v5 =>
    Option.bind (app? 1 y3 (byteList v5)) fun v6 =>
    some (listByte v6)
  else
  some (listByte y3)
def spec_AnswerText.sig : Sig := { ps := [.val true T30 (ros T30)], rs := [.val false [.v .str]], ntmps := 42 }
def spec_AnswerText.con (k : Nat) : Con := spec_AnswerText.sig.con (fun x => spec_AnswerText k x)
def spec_AnswerText.C (k : Nat) : Ctx := { ti := TAB, con := conL [(17, spec_l16Dec.con k), (18, spec_l16Hex.con k)], rob := true }
theorem spec_AnswerText.cok (k : Nat) : CtxOk Tryd.prog (spec_AnswerText.C k) := ctx_ok TABok ⟨spec_l16Dec.ok k, spec_l16Hex.ok k, trivial⟩
def spec_AnswerText.j0.ish : Shape := { tmps := [(1, .eptr [.v (.int .i64), .bor .str, .bor T103, .v .str, .bor (.int .i64), .v (.int .i64)]), (3, .one (.own 1))], slots := [(1, .arr true 5 (.int .u8))], nb := 2 }
def spec_AnswerText.j0.outs : List (Ex × Shape) := [(.nrm, { tmps := [(3, .one (.own 2))], slots := [(2, .arr true 5 (.int .u8))], nb := 3 })]
def spec_AnswerText.j0.F (k : Nat) (x : Prod' spec_AnswerText.j0.ish.tys) : Option (Outs spec_AnswerText.j0.outs) := spec_AnswerText.j0 k x.1 x.2.1 x.2.2.1 x.2.2.2.1 x.2.2.2.2.1 x.2.2.2.2.2.1 x.2.2.2.2.2.2
def spec_AnswerText.j0.s (k : Nat) : Summ := { n := 42, ish := spec_AnswerText.j0.ish, outs := spec_AnswerText.j0.outs, f := spec_AnswerText.j0.F k }
theorem spec_AnswerText.j0.ev (k : Nat) (x : Prod' spec_AnswerText.j0.ish.tys) : V (spec_AnswerText.C k) .auto (cL (cR (cR (cB Tryd.f6)))) (mk spec_AnswerText.j0.ish 42 x) (fun e st' => rdOut e st' spec_AnswerText.j0.outs) = spec_AnswerText.j0.F k x := by kernel_rfl
theorem spec_AnswerText.j0.ok (k : Nat) : SumOk Tryd.prog (spec_AnswerText.C k) (cL (cR (cR (cB Tryd.f6)))) (spec_AnswerText.j0.s k) := sum_ok (by kernel_rfl) (sum_code (p := .auto) (spec_AnswerText.cok k) (by kernel_rfl) (plan_of (L := []) (by kernel_rfl) trivial) (fun x y h => (spec_AnswerText.j0.ev k x).trans h))
def spec_AnswerText.l1.ish : Shape := { tmps := [(1, .eptr [.v (.int .i64), .bor .str, .bor T103, .v .str, .bor (.int .i64), .v (.int .i64)]), (3, .one (.own 3)), (4, .one (.v (.int .i64)))], slots := [(3, .arr true 5 (.int .u8))], nb := 4 }
def spec_AnswerText.l1.outs : List (Ex × Shape) := [(.exit 0, { tmps := [(3, .one (.own 4))], slots := [(4, .arr true 5 (.int .u8))], nb := 5 })]
def spec_AnswerText.l1.F (k j : Nat) (x : Prod' spec_AnswerText.l1.ish.tys) : Option (Outs spec_AnswerText.l1.outs) := spec_AnswerText.l1 k j x.1 x.2.1 x.2.2.1 x.2.2.2.1 x.2.2.2.2.1 x.2.2.2.2.2.1 x.2.2.2.2.2.2.1 x.2.2.2.2.2.2.2
def spec_AnswerText.l1.s (k : Nat) : Summ := { n := 42, ish := spec_AnswerText.l1.ish, outs := spec_AnswerText.l1.outs, f := spec_AnswerText.l1.F k k }
theorem spec_AnswerText.l1.ev (k j : Nat) (x : Prod' spec_AnswerText.l1.ish.tys) : V (spec_AnswerText.C k) .auto (cO (cO (cR (cL (cR (cR (cR (cB Tryd.f6)))))))) (mk spec_AnswerText.l1.ish 42 x) (fun e st' => match e with | .nrm => (rd spec_AnswerText.l1.ish st').bind (spec_AnswerText.l1.F k j) | e => rdOut e st' spec_AnswerText.l1.outs) = spec_AnswerText.l1.F k (j + 1) x := by kernel_rfl
theorem spec_AnswerText.l1.ok (k : Nat) : SumOk Tryd.prog (spec_AnswerText.C k) (.loop (cO (cO (cR (cL (cR (cR (cR (cB Tryd.f6))))))))) (spec_AnswerText.l1.s k) := sum_ok (by kernel_rfl) (sum_loop (p := .auto) (F := spec_AnswerText.l1.F k) (spec_AnswerText.cok k) (by kernel_rfl) (plan_of (L := []) (by kernel_rfl) trivial) (fun _ => rfl) (fun j x y h => (spec_AnswerText.l1.ev k j x).trans h) k rfl)
theorem spec_AnswerText.ev (k : Nat) (x : Prod' spec_AnswerText.sig.ins) : spec_AnswerText.sig.ev (spec_AnswerText.C k) (.two .auto (.two .auto (.two (.sum (spec_AnswerText.j0.s k)) (.two (.two .auto (.one (.sum (spec_AnswerText.l1.s k)))) .auto)))) Tryd.f6.results.toList (cB Tryd.f6) x = spec_AnswerText k x := by kernel_rfl
theorem spec_AnswerText.ok (k : Nat) : ConOk Tryd.prog 6 (spec_AnswerText.con k) := sig_ok (p := (.two .auto (.two .auto (.two (.sum (spec_AnswerText.j0.s k)) (.two (.two .auto (.one (.sum (spec_AnswerText.l1.s k)))) .auto))))) (spec_AnswerText.cok k) Tryd.func6 (by kernel_rfl) (show Tryd.f6.body = some (cB Tryd.f6) by kernel_rfl) (by kernel_rfl) (by kernel_rfl) (plan_of (L := [(spec_AnswerText.j0.s k, cL (cR (cR (cB Tryd.f6)))), (spec_AnswerText.l1.s k, cO (cR (cL (cR (cR (cR (cB Tryd.f6)))))))]) (by kernel_rfl) ⟨spec_AnswerText.j0.ok k, spec_AnswerText.l1.ok k, trivial⟩) (fun x y h => (spec_AnswerText.ev k x).trans h)
def laws_toStringS.l0 : Nat → List Str → Int → List Str → Option ((List Str))
  | 0, _, _, _ => none
  | j + 1, a1, a2, a3 =>
    bif decide (a2 < ((a1.length) : Int)) then
      Option.bind (at? a1 a2) fun v4 =>
      Option.bind (at? a3 a2) fun v5 =>
      Option.bind (at? a3 a2) fun v6 =>
      laws_toStringS.l0 j a1 (IntKind.wrap .i64 (a2 + 1)) (List.set a3 (Int.toNat a2) v4)
    else
    some a3
def laws_toStringS (k : Nat) (a1 : List Str) : Option (List Str) :=
  Option.bind (make? 16 ((a1.length) : Int) ((a1.length) : Int) []) fun v2 =>
  Option.bind (laws_toStringS.l0 k a1 0 v2) fun y3 =>
  some y3
def laws_toStringS.sig : Sig := { ps := [.val false (.sl .str) (ros (.sl .str))], rs := [.val false [.own 9 .str]], ntmps := 22 }
def laws_toStringS.con (k : Nat) : Con := laws_toStringS.sig.con (fun x => laws_toStringS k x)
def laws_toStringS.C (k : Nat) : Ctx := { ti := TAB, con := conL [] }
theorem laws_toStringS.cok (k : Nat) : CtxOk Tryd.prog (laws_toStringS.C k) := ctx_ok TABok trivial
def laws_toStringS.l0.ish : Shape := { tmps := [(0, .one (.bor .str)), (3, .one (.own 1)), (4, .one (.v (.int .i64)))], slots := [(1, .arr false 9 .str)], nb := 2 }
def laws_toStringS.l0.outs : List (Ex × Shape) := [(.exit 0, { tmps := [(3, .one (.own 2))], slots := [(2, .arr false 9 .str)], nb := 3 })]
def laws_toStringS.l0.F (k j : Nat) (x : Prod' laws_toStringS.l0.ish.tys) : Option (Outs laws_toStringS.l0.outs) := laws_toStringS.l0 j x.1 x.2.1 x.2.2
def laws_toStringS.l0.s (k : Nat) : Summ := { n := 22, ish := laws_toStringS.l0.ish, outs := laws_toStringS.l0.outs, f := laws_toStringS.l0.F k k }
theorem laws_toStringS.l0.ev (k j : Nat) (x : Prod' laws_toStringS.l0.ish.tys) : V (laws_toStringS.C k) .auto (cO (cO (cR (cL (cR (cR (cB Tryd.f56))))))) (mk laws_toStringS.l0.ish 22 x) (fun e st' => match e with | .nrm => (rd laws_toStringS.l0.ish st').bind (laws_toStringS.l0.F k j) | e => rdOut e st' laws_toStringS.l0.outs) = laws_toStringS.l0.F k (j + 1) x := by kernel_rfl
theorem laws_toStringS.l0.ok (k : Nat) : SumOk Tryd.prog (laws_toStringS.C k) (.loop (cO (cO (cR (cL (cR (cR (cB Tryd.f56)))))))) (laws_toStringS.l0.s k) := sum_ok (by kernel_rfl) (sum_loop (p := .auto) (F := laws_toStringS.l0.F k) (laws_toStringS.cok k) (by kernel_rfl) (plan_of (L := []) (by kernel_rfl) trivial) (fun _ => rfl) (fun j x y h => (laws_toStringS.l0.ev k j x).trans h) k rfl)
theorem laws_toStringS.ev (k : Nat) (x : Prod' laws_toStringS.sig.ins) : laws_toStringS.sig.ev (laws_toStringS.C k) (.two .auto (.two .auto (.two (.two .auto (.one (.sum (laws_toStringS.l0.s k)))) .auto))) Tryd.f56.results.toList (cB Tryd.f56) x = laws_toStringS k x := by kernel_rfl
theorem laws_toStringS.ok (k : Nat) : ConOk Tryd.prog 56 (laws_toStringS.con k) := sig_ok (p := (.two .auto (.two .auto (.two (.two .auto (.one (.sum (laws_toStringS.l0.s k)))) .auto)))) (laws_toStringS.cok k) Tryd.func56 (by kernel_rfl) (show Tryd.f56.body = some (cB Tryd.f56) by kernel_rfl) (by kernel_rfl) (by kernel_rfl) (plan_of (L := [(laws_toStringS.l0.s k, cO (cR (cL (cR (cR (cB Tryd.f56))))))]) (by kernel_rfl) ⟨laws_toStringS.l0.ok k, trivial⟩) (fun x y h => (laws_toStringS.ev k x).trans h)
def laws_toDirty (a1 : G103) : Option (Int × Str) :=
  some (a1.1, a1.2)
def laws_toDirty.sig : Sig := { ps := [.val true T103 (ros T103)], rs := [.val true [.v (.int .i64), .v .str]], ntmps := 11 }
def laws_toDirty.con (k : Nat) : Con := laws_toDirty.sig.con (fun x => laws_toDirty x)
def laws_toDirty.C (k : Nat) : Ctx := { ti := TAB, con := conL [] }
theorem laws_toDirty.cok (k : Nat) : CtxOk Tryd.prog (laws_toDirty.C k) := ctx_ok TABok trivial
theorem laws_toDirty.ev (k : Nat) (x : Prod' laws_toDirty.sig.ins) : laws_toDirty.sig.ev (laws_toDirty.C k) .auto Tryd.f68.results.toList (cB Tryd.f68) x = laws_toDirty x := by kernel_rfl
theorem laws_toDirty.ok (k : Nat) : ConOk Tryd.prog 68 (laws_toDirty.con k) := sig_ok (p := .auto) (laws_toDirty.cok k) Tryd.func68 (by kernel_rfl) (show Tryd.f68.body = some (cB Tryd.f68) by kernel_rfl) (by kernel_rfl) (by kernel_rfl) (plan_of (L := []) (by kernel_rfl) trivial) (fun x y h => (laws_toDirty.ev k x).trans h)
def laws_toDirtyS.l0 : Nat → List G103 → Int → List G103 → Option ((List G103))
  | 0, _, _, _ => none
  | j + 1, a1, a2, a3 =>
    bif decide (a2 < ((a1.length) : Int)) then
      Option.bind (at? a1 a2) fun v4 =>
      Option.bind (laws_toDirty v4) fun v5 =>
      Option.bind (at? a3 a2) fun v6 =>
      Option.bind (at? a3 a2) fun v7 =>
      laws_toDirtyS.l0 j a1 (IntKind.wrap .i64 (a2 + 1)) (List.set a3 (Int.toNat a2) v5)
    else
    some a3
def laws_toDirtyS (k : Nat) (a1 : List G103) : Option (List G103) :=
  Option.bind (make? 24 ((a1.length) : Int) ((a1.length) : Int) (0, [])) fun v2 =>
  Option.bind (laws_toDirtyS.l0 k a1 0 v2) fun y3 =>
  some y3
def laws_toDirtyS.sig : Sig := { ps := [.val false (.sl T103) (ros (.sl T103))], rs := [.val false [.own 104 T103]], ntmps := 23 }
def laws_toDirtyS.con (k : Nat) : Con := laws_toDirtyS.sig.con (fun x => laws_toDirtyS k x)
def laws_toDirtyS.C (k : Nat) : Ctx := { ti := TAB, con := conL [(68, laws_toDirty.con k)] }
theorem laws_toDirtyS.cok (k : Nat) : CtxOk Tryd.prog (laws_toDirtyS.C k) := ctx_ok TABok ⟨laws_toDirty.ok k, trivial⟩
def laws_toDirtyS.l0.ish : Shape := { tmps := [(0, .one (.bor T103)), (3, .one (.own 1)), (4, .one (.v (.int .i64)))], slots := [(1, .arr false 104 T103)], nb := 2 }
def laws_toDirtyS.l0.outs : List (Ex × Shape) := [(.exit 0, { tmps := [(3, .one (.own 2))], slots := [(2, .arr false 104 T103)], nb := 3 })]
def laws_toDirtyS.l0.F (k j : Nat) (x : Prod' laws_toDirtyS.l0.ish.tys) : Option (Outs laws_toDirtyS.l0.outs) := laws_toDirtyS.l0 j x.1 x.2.1 x.2.2
def laws_toDirtyS.l0.s (k : Nat) : Summ := { n := 23, ish := laws_toDirtyS.l0.ish, outs := laws_toDirtyS.l0.outs, f := laws_toDirtyS.l0.F k k }
theorem laws_toDirtyS.l0.ev (k j : Nat) (x : Prod' laws_toDirtyS.l0.ish.tys) : V (laws_toDirtyS.C k) .auto (cO (cO (cR (cL (cR (cR (cB Tryd.f57))))))) (mk laws_toDirtyS.l0.ish 23 x) (fun e st' => match e with | .nrm => (rd laws_toDirtyS.l0.ish st').bind (laws_toDirtyS.l0.F k j) | e => rdOut e st' laws_toDirtyS.l0.outs) = laws_toDirtyS.l0.F k (j + 1) x := by kernel_rfl
theorem laws_toDirtyS.l0.ok (k : Nat) : SumOk Tryd.prog (laws_toDirtyS.C k) (.loop (cO (cO (cR (cL (cR (cR (cB Tryd.f57)))))))) (laws_toDirtyS.l0.s k) := sum_ok (by kernel_rfl) (sum_loop (p := .auto) (F := laws_toDirtyS.l0.F k) (laws_toDirtyS.cok k) (by kernel_rfl) (plan_of (L := []) (by kernel_rfl) trivial) (fun _ => rfl) (fun j x y h => (laws_toDirtyS.l0.ev k j x).trans h) k rfl)
theorem laws_toDirtyS.ev (k : Nat) (x : Prod' laws_toDirtyS.sig.ins) : laws_toDirtyS.sig.ev (laws_toDirtyS.C k) (.two .auto (.two .auto (.two (.two .auto (.one (.sum (laws_toDirtyS.l0.s k)))) .auto))) Tryd.f57.results.toList (cB Tryd.f57) x = laws_toDirtyS k x := by kernel_rfl
theorem laws_toDirtyS.ok (k : Nat) : ConOk Tryd.prog 57 (laws_toDirtyS.con k) := sig_ok (p := (.two .auto (.two .auto (.two (.two .auto (.one (.sum (laws_toDirtyS.l0.s k)))) .auto)))) (laws_toDirtyS.cok k) Tryd.func57 (by kernel_rfl) (show Tryd.f57.body = some (cB Tryd.f57) by kernel_rfl) (by kernel_rfl) (by kernel_rfl) (plan_of (L := [(laws_toDirtyS.l0.s k, cO (cR (cL (cR (cR (cB Tryd.f57))))))]) (by kernel_rfl) ⟨laws_toDirtyS.l0.ok k, trivial⟩) (fun x y h => (laws_toDirtyS.ev k x).trans h)
def laws_toFlash (k : Nat) (a1 : G25) : Option (List Str × List G103) :=
  Option.bind (laws_toStringS k a1.1) fun v2 =>
  Option.bind (laws_toDirtyS k a1.2) fun v3 =>
  some (v2, v3)
def laws_toFlash.sig : Sig := { ps := [.val true T25 (ros T25)], rs := [.val true [.own 9 .str, .own 104 T103]], ntmps := 13 }
def laws_toFlash.con (k : Nat) : Con := laws_toFlash.sig.con (fun x => laws_toFlash k x)
def laws_toFlash.C (k : Nat) : Ctx := { ti := TAB, con := conL [(56, laws_toStringS.con k), (57, laws_toDirtyS.con k)], rob := true }
theorem laws_toFlash.cok (k : Nat) : CtxOk Tryd.prog (laws_toFlash.C k) := ctx_ok TABok ⟨laws_toStringS.ok k, laws_toDirtyS.ok k, trivial⟩
theorem laws_toFlash.ev (k : Nat) (x : Prod' laws_toFlash.sig.ins) : laws_toFlash.sig.ev (laws_toFlash.C k) .auto Tryd.f35.results.toList (cB Tryd.f35) x = laws_toFlash k x := by kernel_rfl
theorem laws_toFlash.ok (k : Nat) : ConOk Tryd.prog 35 (laws_toFlash.con k) := sig_ok (p := .auto) (laws_toFlash.cok k) Tryd.func35 (by kernel_rfl) (show Tryd.f35.body = some (cB Tryd.f35) by kernel_rfl) (by kernel_rfl) (by kernel_rfl) (plan_of (L := []) (by kernel_rfl) trivial) (fun x y h => (laws_toFlash.ev k x).trans h)
def laws_toMachine (k : Nat) (a1 : G27) : Option (Int × List Str × List G103) :=
  Option.bind (laws_toFlash k a1.2) fun v2 =>
  some (a1.1, v2.1, v2.2)
def laws_toMachine.sig : Sig := { ps := [.val true T27 (ros T27)], rs := [.val true [.v (.int .i64), .own 9 .str, .own 104 T103]], ntmps := 12 }
def laws_toMachine.con (k : Nat) : Con := laws_toMachine.sig.con (fun x => laws_toMachine k x)
def laws_toMachine.C (k : Nat) : Ctx := { ti := TAB, con := conL [(35, laws_toFlash.con k)], rob := true }
theorem laws_toMachine.cok (k : Nat) : CtxOk Tryd.prog (laws_toMachine.C k) := ctx_ok TABok ⟨laws_toFlash.ok k, trivial⟩
theorem laws_toMachine.ev (k : Nat) (x : Prod' laws_toMachine.sig.ins) : laws_toMachine.sig.ev (laws_toMachine.C k) .auto Tryd.f19.results.toList (cB Tryd.f19) x = laws_toMachine k x := by kernel_rfl
theorem laws_toMachine.ok (k : Nat) : ConOk Tryd.prog 19 (laws_toMachine.con k) := sig_ok (p := .auto) (laws_toMachine.cok k) Tryd.func19 (by kernel_rfl) (show Tryd.f19.body = some (cB Tryd.f19) by kernel_rfl) (by kernel_rfl) (by kernel_rfl) (plan_of (L := []) (by kernel_rfl) trivial) (fun x y h => (laws_toMachine.ev k x).trans h)
def laws_toInt64S.l0 : Nat → List Int → Int → List Int → Option ((List Int))
  | 0, _, _, _ => none
  | j + 1, a1, a2, a3 =>
    bif decide (a2 < ((a1.length) : Int)) then
      Option.bind (at? a1 a2) fun v4 =>
      Option.bind (at? a3 a2) fun v5 =>
      Option.bind (at? a3 a2) fun v6 =>
      laws_toInt64S.l0 j a1 (IntKind.wrap .i64 (a2 + 1)) (List.set a3 (Int.toNat a2) v4)
    else
    some a3
def laws_toInt64S (k : Nat) (a1 : List Int) : Option (List Int) :=
  Option.bind (make? 8 ((a1.length) : Int) ((a1.length) : Int) 0) fun v2 =>
  Option.bind (laws_toInt64S.l0 k a1 0 v2) fun y3 =>
  some y3
def laws_toInt64S.sig : Sig := { ps := [.val false (.sl (.int .i64)) (ros (.sl (.int .i64)))], rs := [.val false [.own 2 (.int .i64)]], ntmps := 22 }
def laws_toInt64S.con (k : Nat) : Con := laws_toInt64S.sig.con (fun x => laws_toInt64S k x)
def laws_toInt64S.C (k : Nat) : Ctx := { ti := TAB, con := conL [] }
theorem laws_toInt64S.cok (k : Nat) : CtxOk Tryd.prog (laws_toInt64S.C k) := ctx_ok TABok trivial
def laws_toInt64S.l0.ish : Shape := { tmps := [(0, .one (.bor (.int .i64))), (3, .one (.own 1)), (4, .one (.v (.int .i64)))], slots := [(1, .arr false 2 (.int .i64))], nb := 2 }
def laws_toInt64S.l0.outs : List (Ex × Shape) := [(.exit 0, { tmps := [(3, .one (.own 2))], slots := [(2, .arr false 2 (.int .i64))], nb := 3 })]
def laws_toInt64S.l0.F (k j : Nat) (x : Prod' laws_toInt64S.l0.ish.tys) : Option (Outs laws_toInt64S.l0.outs) := laws_toInt64S.l0 j x.1 x.2.1 x.2.2
def laws_toInt64S.l0.s (k : Nat) : Summ := { n := 22, ish := laws_toInt64S.l0.ish, outs := laws_toInt64S.l0.outs, f := laws_toInt64S.l0.F k k }
theorem laws_toInt64S.l0.ev (k j : Nat) (x : Prod' laws_toInt64S.l0.ish.tys) : V (laws_toInt64S.C k) .auto (cO (cO (cR (cL (cR (cR (cB Tryd.f20))))))) (mk laws_toInt64S.l0.ish 22 x) (fun e st' => match e with | .nrm => (rd laws_toInt64S.l0.ish st').bind (laws_toInt64S.l0.F k j) | e => rdOut e st' laws_toInt64S.l0.outs) = laws_toInt64S.l0.F k (j + 1) x := by kernel_rfl
theorem laws_toInt64S.l0.ok (k : Nat) : SumOk Tryd.prog (laws_toInt64S.C k) (.loop (cO (cO (cR (cL (cR (cR (cB Tryd.f20)))))))) (laws_toInt64S.l0.s k) := sum_ok (by kernel_rfl) (sum_loop (p := .auto) (F := laws_toInt64S.l0.F k) (laws_toInt64S.cok k) (by kernel_rfl) (plan_of (L := []) (by kernel_rfl) trivial) (fun _ => rfl) (fun j x y h => (laws_toInt64S.l0.ev k j x).trans h) k rfl)
theorem laws_toInt64S.ev (k : Nat) (x : Prod' laws_toInt64S.sig.ins) : laws_toInt64S.sig.ev (laws_toInt64S.C k) (.two .auto (.two .auto (.two (.two .auto (.one (.sum (laws_toInt64S.l0.s k)))) .auto))) Tryd.f20.results.toList (cB Tryd.f20) x = laws_toInt64S k x := by kernel_rfl
theorem laws_toInt64S.ok (k : Nat) : ConOk Tryd.prog 20 (laws_toInt64S.con k) := sig_ok (p := (.two .auto (.two .auto (.two (.two .auto (.one (.sum (laws_toInt64S.l0.s k)))) .auto)))) (laws_toInt64S.cok k) Tryd.func20 (by kernel_rfl) (show Tryd.f20.body = some (cB Tryd.f20) by kernel_rfl) (by kernel_rfl) (by kernel_rfl) (plan_of (L := [(laws_toInt64S.l0.s k, cO (cR (cL (cR (cR (cB Tryd.f20))))))]) (by kernel_rfl) ⟨laws_toInt64S.l0.ok k, trivial⟩) (fun x y h => (laws_toInt64S.ev k x).trans h)
def laws_toDoOut (k : Nat) (a1 : G30) : Option (Int × List Str × List G103 × Str × List Int × Int) :=
  Option.bind (laws_toMachine k a1.1) fun v2 =>
  Option.bind (laws_toInt64S k a1.2.2.1) fun v3 =>
  some (v2.1, v2.2.1, v2.2.2, a1.2.1, v3, a1.2.2.2)
def laws_toDoOut.sig : Sig := { ps := [.val true T30 (ros T30)], rs := [.val true [.v (.int .i64), .own 9 .str, .own 104 T103, .v .str, .own 2 (.int .i64), .v (.int .i64)]], ntmps := 19 }
def laws_toDoOut.con (k : Nat) : Con := laws_toDoOut.sig.con (fun x => laws_toDoOut k x)
def laws_toDoOut.C (k : Nat) : Ctx := { ti := TAB, con := conL [(19, laws_toMachine.con k), (20, laws_toInt64S.con k)], rob := true }
theorem laws_toDoOut.cok (k : Nat) : CtxOk Tryd.prog (laws_toDoOut.C k) := ctx_ok TABok ⟨laws_toMachine.ok k, laws_toInt64S.ok k, trivial⟩
theorem laws_toDoOut.ev (k : Nat) (x : Prod' laws_toDoOut.sig.ins) : laws_toDoOut.sig.ev (laws_toDoOut.C k) .auto Tryd.f7.results.toList (cB Tryd.f7) x = laws_toDoOut k x := by kernel_rfl
theorem laws_toDoOut.ok (k : Nat) : ConOk Tryd.prog 7 (laws_toDoOut.con k) := sig_ok (p := .auto) (laws_toDoOut.cok k) Tryd.func7 (by kernel_rfl) (show Tryd.f7.body = some (cB Tryd.f7) by kernel_rfl) (by kernel_rfl) (by kernel_rfl) (plan_of (L := []) (by kernel_rfl) trivial) (fun x y h => (laws_toDoOut.ev k x).trans h)
/-- strconv.FormatInt to the base of ten. -/
def int_strconv_FormatInt (n b : Int) : Option Str := if b = 10 ∧ -9223372036854775808 ≤ n ∧ n ≤ 9223372036854775807 then some (Lib.itoa n) else none
def int_strconv_FormatInt.sig : Sig := { ps := [.val false (.int .i64) (ros (.int .i64)), .val false (.int .i64) (ros (.int .i64))], rs := [.val false [.v .str]], ntmps := 0 }
def int_strconv_FormatInt.con (k : Nat) : Con := int_strconv_FormatInt.sig.con (fun x => int_strconv_FormatInt x.1 x.2)
theorem int_strconv_FormatInt.ok (k : Nat) : ConOk Tryd.prog 69 (int_strconv_FormatInt.con k) := hand_glob (enter_of Tryd.func69 (by kernel_rfl) (show Tryd.f69.body = some (cB Tryd.f69) by kernel_rfl)) (by kernel_rfl) (by kernel_rfl) (by
  intro (x : Int × Int) (y : Str) w hg h
  obtain ⟨n, b⟩ := x
  replace h : int_strconv_FormatInt n b = some y := h
  unfold int_strconv_FormatInt at h
  split at h
  · rename_i h0
    obtain ⟨rfl, h0, h1⟩ := h0
    injection h with h
    subst h
    have htab : Lib.TabIs Tryd.prog w "internal/strconv.uint64pow10" .u64 Lib.pow10Tab := tab_of (n := 2) (by kernel_rfl) (hg 2 (.int .u64) Lib.pow10Tab (by kernel_rfl))
    refine (Tryd.internal_strconv_FormatInt_10 n h0 h1 w htab).mono ?_
    rintro e w' ⟨rfl, k, os, rfl⟩
    exact ⟨[.string (ba (Lib.itoa n))], rfl, rfl, rfl, Lib.below_grow _ w (Nat.le_refl _) k os⟩
  · cases h)
def strconv_FormatInt (a1 : Int) (a2 : Int) : Option (Str) :=
  Option.bind (int_strconv_FormatInt a1 a2) fun v3 =>
  some v3
def strconv_FormatInt.sig : Sig := { ps := [.val false (.int .i64) (ros (.int .i64)), .val false (.int .i64) (ros (.int .i64))], rs := [.val false [.v .str]], ntmps := 8 }
def strconv_FormatInt.con (k : Nat) : Con := strconv_FormatInt.sig.con (fun x => strconv_FormatInt x.1 x.2)
def strconv_FormatInt.C (k : Nat) : Ctx := { ti := TAB, con := conL [(69, int_strconv_FormatInt.con k)] }
theorem strconv_FormatInt.cok (k : Nat) : CtxOk Tryd.prog (strconv_FormatInt.C k) := ctx_ok TABok ⟨int_strconv_FormatInt.ok k, trivial⟩
theorem strconv_FormatInt.ev (k : Nat) (x : Prod' strconv_FormatInt.sig.ins) : strconv_FormatInt.sig.ev (strconv_FormatInt.C k) .auto Tryd.f58.results.toList (cB Tryd.f58) x = strconv_FormatInt x.1 x.2 := by kernel_rfl
theorem strconv_FormatInt.ok (k : Nat) : ConOk Tryd.prog 58 (strconv_FormatInt.con k) := sig_ok (p := .auto) (strconv_FormatInt.cok k) Tryd.func58 (by kernel_rfl) (show Tryd.f58.body = some (cB Tryd.f58) by kernel_rfl) (by kernel_rfl) (by kernel_rfl) (plan_of (L := []) (by kernel_rfl) trivial) (fun x y h => (strconv_FormatInt.ev k x).trans h)
def impl_decimal (a1 : Int) : Option (Str) :=
  Option.bind (strconv_FormatInt (imax 0 a1) 10) fun v2 =>
  some v2
def impl_decimal.sig : Sig := { ps := [.val false (.int .i64) (ros (.int .i64))], rs := [.val false [.v .str]], ntmps := 6 }
def impl_decimal.con (k : Nat) : Con := impl_decimal.sig.con (fun x => impl_decimal x)
def impl_decimal.C (k : Nat) : Ctx := { ti := TAB, con := conL [(58, strconv_FormatInt.con k)] }
theorem impl_decimal.cok (k : Nat) : CtxOk Tryd.prog (impl_decimal.C k) := ctx_ok TABok ⟨strconv_FormatInt.ok k, trivial⟩
theorem impl_decimal.ev (k : Nat) (x : Prod' impl_decimal.sig.ins) : impl_decimal.sig.ev (impl_decimal.C k) .auto Tryd.f36.results.toList (cB Tryd.f36) x = impl_decimal x := by kernel_rfl
theorem impl_decimal.ok (k : Nat) : ConOk Tryd.prog 36 (impl_decimal.con k) := sig_ok (p := .auto) (impl_decimal.cok k) Tryd.func36 (by kernel_rfl) (show Tryd.f36.body = some (cB Tryd.f36) by kernel_rfl) (by kernel_rfl) (by kernel_rfl) (plan_of (L := []) (by kernel_rfl) trivial) (fun x y h => (impl_decimal.ev k x).trans h)
def impl_hexText.l0 : Nat → Str → Int → Int → List Int → Option ((List Int))
  | 0, _, _, _, _ => none
  | j + 1, a1, a2, a3, a4 =>
    bif decide (a3 < a2) then
      Option.bind (at? a1 a3) fun v5 =>
      Option.bind (nneg? 4) fun v6 =>
      Option.bind (at? ([48, 49, 50, 51, 52, 53, 54, 55, 56, 57, 97, 98, 99, 100, 101, 102] : Str) (shr .u8 (v5.toNat : Int) 4)) fun v7 =>
      Option.bind (at? a1 a3) fun v8 =>
      Option.bind (at? ([48, 49, 50, 51, 52, 53, 54, 55, 56, 57, 97, 98, 99, 100, 101, 102] : Str) (intBits .and .u8 (v8.toNat : Int) 15)) fun v9 =>
      Option.bind (app? 1 a4 [(v7.toNat : Int), (v9.toNat : Int)]) fun v10 =>
      impl_hexText.l0 j a1 a2 (IntKind.wrap .i64 (a3 + 1)) v10
    else
    some a4
def impl_hexText (k : Nat) (a1 : Str) : Option (Str) :=
  Option.bind (impl_hexText.l0 k a1 ((a1.length) : Int) 0 []) fun y2 =>
  some (listByte y2)
def impl_hexText.sig : Sig := { ps := [.val false .str (ros .str)], rs := [.val false [.v .str]], ntmps := 26 }
def impl_hexText.con (k : Nat) : Con := impl_hexText.sig.con (fun x => impl_hexText k x)
def impl_hexText.C (k : Nat) : Ctx := { ti := TAB, con := conL [] }
theorem impl_hexText.cok (k : Nat) : CtxOk Tryd.prog (impl_hexText.C k) := ctx_ok TABok trivial
def impl_hexText.l0.ish : Shape := { tmps := [(0, .one (.v .str)), (3, .one (.own 0)), (6, .one (.v (.int .i64))), (7, .one (.v (.int .i64)))], slots := [(0, .arr false 5 (.int .u8))], nb := 1 }
def impl_hexText.l0.outs : List (Ex × Shape) := [(.exit 0, { tmps := [(3, .one (.own 1))], slots := [(1, .arr false 5 (.int .u8))], nb := 2 })]
def impl_hexText.l0.F (k j : Nat) (x : Prod' impl_hexText.l0.ish.tys) : Option (Outs impl_hexText.l0.outs) := impl_hexText.l0 j x.1 x.2.1 x.2.2.1 x.2.2.2
def impl_hexText.l0.s (k : Nat) : Summ := { n := 26, ish := impl_hexText.l0.ish, outs := impl_hexText.l0.outs, f := impl_hexText.l0.F k k }
theorem impl_hexText.l0.ev (k j : Nat) (x : Prod' impl_hexText.l0.ish.tys) : V (impl_hexText.C k) .auto (cO (cO (cR (cL (cR (cR (cB Tryd.f37))))))) (mk impl_hexText.l0.ish 26 x) (fun e st' => match e with | .nrm => (rd impl_hexText.l0.ish st').bind (impl_hexText.l0.F k j) | e => rdOut e st' impl_hexText.l0.outs) = impl_hexText.l0.F k (j + 1) x := by kernel_rfl
theorem impl_hexText.l0.ok (k : Nat) : SumOk Tryd.prog (impl_hexText.C k) (.loop (cO (cO (cR (cL (cR (cR (cB Tryd.f37)))))))) (impl_hexText.l0.s k) := sum_ok (by kernel_rfl) (sum_loop (p := .auto) (F := impl_hexText.l0.F k) (impl_hexText.cok k) (by kernel_rfl) (plan_of (L := []) (by kernel_rfl) trivial) (fun _ => rfl) (fun j x y h => (impl_hexText.l0.ev k j x).trans h) k rfl)
theorem impl_hexText.ev (k : Nat) (x : Prod' impl_hexText.sig.ins) : impl_hexText.sig.ev (impl_hexText.C k) (.two .auto (.two .auto (.two (.two .auto (.one (.sum (impl_hexText.l0.s k)))) .auto))) Tryd.f37.results.toList (cB Tryd.f37) x = impl_hexText k x := by kernel_rfl
theorem impl_hexText.ok (k : Nat) : ConOk Tryd.prog 37 (impl_hexText.con k) := sig_ok (p := (.two .auto (.two .auto (.two (.two .auto (.one (.sum (impl_hexText.l0.s k)))) .auto)))) (impl_hexText.cok k) Tryd.func37 (by kernel_rfl) (show Tryd.f37.body = some (cB Tryd.f37) by kernel_rfl) (by kernel_rfl) (by kernel_rfl) (plan_of (L := [(impl_hexText.l0.s k, cO (cR (cL (cR (cR (cB Tryd.f37))))))]) (by kernel_rfl) ⟨impl_hexText.l0.ok k, trivial⟩) (fun x y h => (impl_hexText.ev k x).trans h)
def impl_answerText.j0 (a1 : Int) (a2 : List Str) (a3 : List G103) (a4 : Str) (a5 : List Int) (a6 : Int) (a7 : Str) : Option (Str) :=
  bif a6 != 0 then
    Option.bind (impl_decimal a6) fun v8 =>
    Option.bind (cat? ([101, 114, 114, 111, 114, 32] : Str) v8) fun v9 =>
    some v9
  else
  some a7
def impl_answerText.l1 : Nat → Str → List Int → Int → Int → Option (Str)
  | 0, _, _, _, _ => none
  | j + 1, a1, a2, a3, a4 =>
    bif decide (a4 < a3) then
      Option.bind (at? a2 a4) fun v5 =>
      Option.bind (impl_decimal v5) fun v6 =>
      Option.bind (cat? ([32] : Str) v6) fun v7 =>
      Option.bind (cat? a1 v7) fun v8 =>
      impl_answerText.l1 j v8 a2 a3 (IntKind.wrap .i64 (a4 + 1))
    else
    some a1
def impl_answerText (k : Nat) (a1 : G30) : Option (Str) :=
  Option.bind (impl_answerText.j0 a1.1.1 a1.1.2.1 a1.1.2.2 a1.2.1 a1.2.2.1 a1.2.2.2 ([111, 107] : Str)) fun y2 =>
  Option.bind (impl_answerText.l1 k y2 a1.2.2.1 ((a1.2.2.1.length) : Int) 0) fun y3 =>
  bif !(a1.2.1 == []) then
    Option.bind (impl_hexText k a1.2.1) fun v4 =>
    Option.bind (cat? ([32] : Str) v4) fun v5 =>
    Option.bind (cat? y3 v5) fun v6 =>
    some v6
  else
  some y3
def impl_answerText.sig : Sig := { ps := [.val true T30 (ros T30)], rs := [.val false [.v .str]], ntmps := 36 }
def impl_answerText.con (k : Nat) : Con := impl_answerText.sig.con (fun x => impl_answerText k x)
def impl_answerText.C (k : Nat) : Ctx := { ti := TAB, con := conL [(36, impl_decimal.con k), (37, impl_hexText.con k)], rob := true }
theorem impl_answerText.cok (k : Nat) : CtxOk Tryd.prog (impl_answerText.C k) := ctx_ok TABok ⟨impl_decimal.ok k, impl_hexText.ok k, trivial⟩
def impl_answerText.j0.ish : Shape := { tmps := [(1, .eptr [.v (.int .i64), .bor .str, .bor T103, .v .str, .bor (.int .i64), .v (.int .i64)]), (3, .one (.v .str))], slots := [], nb := 0 }
def impl_answerText.j0.outs : List (Ex × Shape) := [(.nrm, { tmps := [(3, .one (.v .str))], slots := [], nb := 0 })]
def impl_answerText.j0.F (k : Nat) (x : Prod' impl_answerText.j0.ish.tys) : Option (Outs impl_answerText.j0.outs) := impl_answerText.j0 x.1 x.2.1 x.2.2.1 x.2.2.2.1 x.2.2.2.2.1 x.2.2.2.2.2.1 x.2.2.2.2.2.2
def impl_answerText.j0.s (k : Nat) : Summ := { n := 36, ish := impl_answerText.j0.ish, outs := impl_answerText.j0.outs, f := impl_answerText.j0.F k }
theorem impl_answerText.j0.ev (k : Nat) (x : Prod' impl_answerText.j0.ish.tys) : V (impl_answerText.C k) .auto (cL (cR (cR (cB Tryd.f21)))) (mk impl_answerText.j0.ish 36 x) (fun e st' => rdOut e st' impl_answerText.j0.outs) = impl_answerText.j0.F k x := by kernel_rfl
theorem impl_answerText.j0.ok (k : Nat) : SumOk Tryd.prog (impl_answerText.C k) (cL (cR (cR (cB Tryd.f21)))) (impl_answerText.j0.s k) := sum_ok (by kernel_rfl) (sum_code (p := .auto) (impl_answerText.cok k) (by kernel_rfl) (plan_of (L := []) (by kernel_rfl) trivial) (fun x y h => (impl_answerText.j0.ev k x).trans h))
def impl_answerText.l1.ish : Shape := { tmps := [(3, .one (.v .str)), (14, .one (.bor (.int .i64))), (15, .one (.v (.int .i64))), (16, .one (.v (.int .i64)))], slots := [], nb := 0 }
def impl_answerText.l1.outs : List (Ex × Shape) := [(.exit 0, { tmps := [(3, .one (.v .str))], slots := [], nb := 0 })]
def impl_answerText.l1.F (k j : Nat) (x : Prod' impl_answerText.l1.ish.tys) : Option (Outs impl_answerText.l1.outs) := impl_answerText.l1 j x.1 x.2.1 x.2.2.1 x.2.2.2
def impl_answerText.l1.s (k : Nat) : Summ := { n := 36, ish := impl_answerText.l1.ish, outs := impl_answerText.l1.outs, f := impl_answerText.l1.F k k }
theorem impl_answerText.l1.ev (k j : Nat) (x : Prod' impl_answerText.l1.ish.tys) : V (impl_answerText.C k) .auto (cO (cO (cR (cL (cR (cR (cR (cB Tryd.f21)))))))) (mk impl_answerText.l1.ish 36 x) (fun e st' => match e with | .nrm => (rd impl_answerText.l1.ish st').bind (impl_answerText.l1.F k j) | e => rdOut e st' impl_answerText.l1.outs) = impl_answerText.l1.F k (j + 1) x := by kernel_rfl
theorem impl_answerText.l1.ok (k : Nat) : SumOk Tryd.prog (impl_answerText.C k) (.loop (cO (cO (cR (cL (cR (cR (cR (cB Tryd.f21))))))))) (impl_answerText.l1.s k) := sum_ok (by kernel_rfl) (sum_loop (p := .auto) (F := impl_answerText.l1.F k) (impl_answerText.cok k) (by kernel_rfl) (plan_of (L := []) (by kernel_rfl) trivial) (fun _ => rfl) (fun j x y h => (impl_answerText.l1.ev k j x).trans h) k rfl)
theorem impl_answerText.ev (k : Nat) (x : Prod' impl_answerText.sig.ins) : impl_answerText.sig.ev (impl_answerText.C k) (.two .auto (.two .auto (.two (.sum (impl_answerText.j0.s k)) (.two (.two .auto (.one (.sum (impl_answerText.l1.s k)))) .auto)))) Tryd.f21.results.toList (cB Tryd.f21) x = impl_answerText k x := by kernel_rfl
theorem impl_answerText.ok (k : Nat) : ConOk Tryd.prog 21 (impl_answerText.con k) := sig_ok (p := (.two .auto (.two .auto (.two (.sum (impl_answerText.j0.s k)) (.two (.two .auto (.one (.sum (impl_answerText.l1.s k)))) .auto))))) (impl_answerText.cok k) Tryd.func21 (by kernel_rfl) (show Tryd.f21.body = some (cB Tryd.f21) by kernel_rfl) (by kernel_rfl) (by kernel_rfl) (plan_of (L := [(impl_answerText.j0.s k, cL (cR (cR (cB Tryd.f21)))), (impl_answerText.l1.s k, cO (cR (cL (cR (cR (cR (cB Tryd.f21)))))))]) (by kernel_rfl) ⟨impl_answerText.j0.ok k, impl_answerText.l1.ok k, trivial⟩) (fun x y h => (impl_answerText.ev k x).trans h)
def impl_AnswerText (k : Nat) (a1 : G30) : Option (Str) :=
  Option.bind (impl_answerText k a1) fun v2 =>
  some v2
def impl_AnswerText.sig : Sig := { ps := [.val true T30 (ros T30)], rs := [.val false [.v .str]], ntmps := 5 }
def impl_AnswerText.con (k : Nat) : Con := impl_AnswerText.sig.con (fun x => impl_AnswerText k x)
def impl_AnswerText.C (k : Nat) : Ctx := { ti := TAB, con := conL [(21, impl_answerText.con k)], rob := true }
theorem impl_AnswerText.cok (k : Nat) : CtxOk Tryd.prog (impl_AnswerText.C k) := ctx_ok TABok ⟨impl_answerText.ok k, trivial⟩
theorem impl_AnswerText.ev (k : Nat) (x : Prod' impl_AnswerText.sig.ins) : impl_AnswerText.sig.ev (impl_AnswerText.C k) .auto Tryd.f8.results.toList (cB Tryd.f8) x = impl_AnswerText k x := by kernel_rfl
theorem impl_AnswerText.ok (k : Nat) : ConOk Tryd.prog 8 (impl_AnswerText.con k) := sig_ok (p := .auto) (impl_AnswerText.cok k) Tryd.func8 (by kernel_rfl) (show Tryd.f8.body = some (cB Tryd.f8) by kernel_rfl) (by kernel_rfl) (by kernel_rfl) (plan_of (L := []) (by kernel_rfl) trivial) (fun x y h => (impl_AnswerText.ev k x).trans h)
def laws_eqStringS.l0 : Nat → List Str → List Str → Int → Option (Unit ⊕ Bool)
  | 0, _, _, _ => none
  | j + 1, a1, a2, a3 =>
    bif decide (a3 < ((a1.length) : Int)) then
      Option.bind (at? a1 a3) fun v4 =>
      Option.bind (at? a2 a3) fun v5 =>
      bif !(v4 == v5) then
        some (.inr false)
      else
      laws_eqStringS.l0 j a1 a2 (IntKind.wrap .i64 (a3 + 1))
    else
    some (.inl ())
def laws_eqStringS (k : Nat) (a1 : List Str) (a2 : List Str) : Option (Bool) :=
  bif ((a1.length) : Int) != ((a2.length) : Int) then
    some false
  else
  Option.bind (laws_eqStringS.l0 k a1 a2 0) fun
    | .inl y3 =>
      some true
    | .inr y4 =>
      some y4
def laws_eqStringS.sig : Sig := { ps := [.val false (.sl .str) (ros (.sl .str)), .val false (.sl .str) (ros (.sl .str))], rs := [.val false [.v .bool]], ntmps := 26 }
def laws_eqStringS.con (k : Nat) : Con := laws_eqStringS.sig.con (fun x => laws_eqStringS k x.1 x.2)
def laws_eqStringS.C (k : Nat) : Ctx := { ti := TAB, con := conL [] }
theorem laws_eqStringS.cok (k : Nat) : CtxOk Tryd.prog (laws_eqStringS.C k) := ctx_ok TABok trivial
def laws_eqStringS.l0.ish : Shape := { tmps := [(0, .one (.bor .str)), (1, .one (.bor .str)), (5, .one (.v (.int .i64)))], slots := [], nb := 0 }
def laws_eqStringS.l0.outs : List (Ex × Shape) := [(.exit 0, { tmps := [], slots := [], nb := 0 }), (.ret, { tmps := [(4, .one (.v .bool))], slots := [], nb := 0 })]
def laws_eqStringS.l0.F (k j : Nat) (x : Prod' laws_eqStringS.l0.ish.tys) : Option (Outs laws_eqStringS.l0.outs) := laws_eqStringS.l0 j x.1 x.2.1 x.2.2
def laws_eqStringS.l0.s (k : Nat) : Summ := { n := 26, ish := laws_eqStringS.l0.ish, outs := laws_eqStringS.l0.outs, f := laws_eqStringS.l0.F k k }
theorem laws_eqStringS.l0.ev (k j : Nat) (x : Prod' laws_eqStringS.l0.ish.tys) : V (laws_eqStringS.C k) .auto (cO (cO (cR (cL (cR (cR (cB Tryd.f59))))))) (mk laws_eqStringS.l0.ish 26 x) (fun e st' => match e with | .nrm => (rd laws_eqStringS.l0.ish st').bind (laws_eqStringS.l0.F k j) | e => rdOut e st' laws_eqStringS.l0.outs) = laws_eqStringS.l0.F k (j + 1) x := by kernel_rfl
theorem laws_eqStringS.l0.ok (k : Nat) : SumOk Tryd.prog (laws_eqStringS.C k) (.loop (cO (cO (cR (cL (cR (cR (cB Tryd.f59)))))))) (laws_eqStringS.l0.s k) := sum_ok (by kernel_rfl) (sum_loop (p := .auto) (F := laws_eqStringS.l0.F k) (laws_eqStringS.cok k) (by kernel_rfl) (plan_of (L := []) (by kernel_rfl) trivial) (fun _ => rfl) (fun j x y h => (laws_eqStringS.l0.ev k j x).trans h) k rfl)
theorem laws_eqStringS.ev (k : Nat) (x : Prod' laws_eqStringS.sig.ins) : laws_eqStringS.sig.ev (laws_eqStringS.C k) (.two .auto (.two .auto (.two (.two .auto (.one (.sum (laws_eqStringS.l0.s k)))) .auto))) Tryd.f59.results.toList (cB Tryd.f59) x = laws_eqStringS k x.1 x.2 := by kernel_rfl
theorem laws_eqStringS.ok (k : Nat) : ConOk Tryd.prog 59 (laws_eqStringS.con k) := sig_ok (p := (.two .auto (.two .auto (.two (.two .auto (.one (.sum (laws_eqStringS.l0.s k)))) .auto)))) (laws_eqStringS.cok k) Tryd.func59 (by kernel_rfl) (show Tryd.f59.body = some (cB Tryd.f59) by kernel_rfl) (by kernel_rfl) (by kernel_rfl) (plan_of (L := [(laws_eqStringS.l0.s k, cO (cR (cL (cR (cR (cB Tryd.f59))))))]) (by kernel_rfl) ⟨laws_eqStringS.l0.ok k, trivial⟩) (fun x y h => (laws_eqStringS.ev k x).trans h)
def laws_eqDirty (a1 : G103) (a2 : G103) : Option (Bool) :=
  bif a1.1 != a2.1 then
    some false
  else
  bif !(a1.2 == a2.2) then
    some false
  else
  some true
def laws_eqDirty.sig : Sig := { ps := [.val true T103 (ros T103), .val true T103 (ros T103)], rs := [.val false [.v .bool]], ntmps := 15 }
def laws_eqDirty.con (k : Nat) : Con := laws_eqDirty.sig.con (fun x => laws_eqDirty x.1 x.2)
def laws_eqDirty.C (k : Nat) : Ctx := { ti := TAB, con := conL [] }
theorem laws_eqDirty.cok (k : Nat) : CtxOk Tryd.prog (laws_eqDirty.C k) := ctx_ok TABok trivial
theorem laws_eqDirty.ev (k : Nat) (x : Prod' laws_eqDirty.sig.ins) : laws_eqDirty.sig.ev (laws_eqDirty.C k) .auto Tryd.f70.results.toList (cB Tryd.f70) x = laws_eqDirty x.1 x.2 := by kernel_rfl
theorem laws_eqDirty.ok (k : Nat) : ConOk Tryd.prog 70 (laws_eqDirty.con k) := sig_ok (p := .auto) (laws_eqDirty.cok k) Tryd.func70 (by kernel_rfl) (show Tryd.f70.body = some (cB Tryd.f70) by kernel_rfl) (by kernel_rfl) (by kernel_rfl) (plan_of (L := []) (by kernel_rfl) trivial) (fun x y h => (laws_eqDirty.ev k x).trans h)
def laws_eqDirtyS.l0 : Nat → List G103 → List G103 → Int → Option (Unit ⊕ Bool)
  | 0, _, _, _ => none
  | j + 1, a1, a2, a3 =>
    bif decide (a3 < ((a1.length) : Int)) then
      Option.bind (at? a1 a3) fun v4 =>
      Option.bind (at? a2 a3) fun v5 =>
      Option.bind (laws_eqDirty v4 v5) fun v6 =>
      bif !v6 then
        some (.inr false)
      else
      laws_eqDirtyS.l0 j a1 a2 (IntKind.wrap .i64 (a3 + 1))
    else
    some (.inl ())
def laws_eqDirtyS (k : Nat) (a1 : List G103) (a2 : List G103) : Option (Bool) :=
  bif ((a1.length) : Int) != ((a2.length) : Int) then
    some false
  else
  Option.bind (laws_eqDirtyS.l0 k a1 a2 0) fun
    | .inl y3 =>
      some true
    | .inr y4 =>
      some y4
def laws_eqDirtyS.sig : Sig := { ps := [.val false (.sl T103) (ros (.sl T103)), .val false (.sl T103) (ros (.sl T103))], rs := [.val false [.v .bool]], ntmps := 27 }
def laws_eqDirtyS.con (k : Nat) : Con := laws_eqDirtyS.sig.con (fun x => laws_eqDirtyS k x.1 x.2)
def laws_eqDirtyS.C (k : Nat) : Ctx := { ti := TAB, con := conL [(70, laws_eqDirty.con k)] }
theorem laws_eqDirtyS.cok (k : Nat) : CtxOk Tryd.prog (laws_eqDirtyS.C k) := ctx_ok TABok ⟨laws_eqDirty.ok k, trivial⟩
def laws_eqDirtyS.l0.ish : Shape := { tmps := [(0, .one (.bor T103)), (1, .one (.bor T103)), (5, .one (.v (.int .i64)))], slots := [], nb := 0 }
def laws_eqDirtyS.l0.outs : List (Ex × Shape) := [(.exit 0, { tmps := [], slots := [], nb := 0 }), (.ret, { tmps := [(4, .one (.v .bool))], slots := [], nb := 0 })]
def laws_eqDirtyS.l0.F (k j : Nat) (x : Prod' laws_eqDirtyS.l0.ish.tys) : Option (Outs laws_eqDirtyS.l0.outs) := laws_eqDirtyS.l0 j x.1 x.2.1 x.2.2
def laws_eqDirtyS.l0.s (k : Nat) : Summ := { n := 27, ish := laws_eqDirtyS.l0.ish, outs := laws_eqDirtyS.l0.outs, f := laws_eqDirtyS.l0.F k k }
theorem laws_eqDirtyS.l0.ev (k j : Nat) (x : Prod' laws_eqDirtyS.l0.ish.tys) : V (laws_eqDirtyS.C k) .auto (cO (cO (cR (cL (cR (cR (cB Tryd.f60))))))) (mk laws_eqDirtyS.l0.ish 27 x) (fun e st' => match e with | .nrm => (rd laws_eqDirtyS.l0.ish st').bind (laws_eqDirtyS.l0.F k j) | e => rdOut e st' laws_eqDirtyS.l0.outs) = laws_eqDirtyS.l0.F k (j + 1) x := by kernel_rfl
theorem laws_eqDirtyS.l0.ok (k : Nat) : SumOk Tryd.prog (laws_eqDirtyS.C k) (.loop (cO (cO (cR (cL (cR (cR (cB Tryd.f60)))))))) (laws_eqDirtyS.l0.s k) := sum_ok (by kernel_rfl) (sum_loop (p := .auto) (F := laws_eqDirtyS.l0.F k) (laws_eqDirtyS.cok k) (by kernel_rfl) (plan_of (L := []) (by kernel_rfl) trivial) (fun _ => rfl) (fun j x y h => (laws_eqDirtyS.l0.ev k j x).trans h) k rfl)
theorem laws_eqDirtyS.ev (k : Nat) (x : Prod' laws_eqDirtyS.sig.ins) : laws_eqDirtyS.sig.ev (laws_eqDirtyS.C k) (.two .auto (.two .auto (.two (.two .auto (.one (.sum (laws_eqDirtyS.l0.s k)))) .auto))) Tryd.f60.results.toList (cB Tryd.f60) x = laws_eqDirtyS k x.1 x.2 := by kernel_rfl
theorem laws_eqDirtyS.ok (k : Nat) : ConOk Tryd.prog 60 (laws_eqDirtyS.con k) := sig_ok (p := (.two .auto (.two .auto (.two (.two .auto (.one (.sum (laws_eqDirtyS.l0.s k)))) .auto)))) (laws_eqDirtyS.cok k) Tryd.func60 (by kernel_rfl) (show Tryd.f60.body = some (cB Tryd.f60) by kernel_rfl) (by kernel_rfl) (by kernel_rfl) (plan_of (L := [(laws_eqDirtyS.l0.s k, cO (cR (cL (cR (cR (cB Tryd.f60))))))]) (by kernel_rfl) ⟨laws_eqDirtyS.l0.ok k, trivial⟩) (fun x y h => (laws_eqDirtyS.ev k x).trans h)
end Go.Proofs.YtaajcllchbnjiaaDoorE

namespace Go.Proofs.YtaajcllchbnjiaaDoorE
open Go Go.RowKit
set_option linter.unusedVariables false
def laws_eqFlash (k : Nat) (a1 : G25) (a2 : G25) : Option (Bool) :=
  Option.bind (laws_eqStringS k a1.1 a2.1) fun v3 =>
  bif !v3 then
    some false
  else
  Option.bind (laws_eqDirtyS k a1.2 a2.2) fun v4 =>
  bif !v4 then
    some false
  else
  some true
def laws_eqFlash.sig : Sig := { ps := [.val true T25 (ros T25), .val true T25 (ros T25)], rs := [.val false [.v .bool]], ntmps := 17 }
def laws_eqFlash.con (k : Nat) : Con := laws_eqFlash.sig.con (fun x => laws_eqFlash k x.1 x.2)
def laws_eqFlash.C (k : Nat) : Ctx := { ti := TAB, con := conL [(59, laws_eqStringS.con k), (60, laws_eqDirtyS.con k)], rob := true }
theorem laws_eqFlash.cok (k : Nat) : CtxOk Tryd.prog (laws_eqFlash.C k) := ctx_ok TABok ⟨laws_eqStringS.ok k, laws_eqDirtyS.ok k, trivial⟩
theorem laws_eqFlash.ev (k : Nat) (x : Prod' laws_eqFlash.sig.ins) : laws_eqFlash.sig.ev (laws_eqFlash.C k) .auto Tryd.f38.results.toList (cB Tryd.f38) x = laws_eqFlash k x.1 x.2 := by kernel_rfl
theorem laws_eqFlash.ok (k : Nat) : ConOk Tryd.prog 38 (laws_eqFlash.con k) := sig_ok (p := .auto) (laws_eqFlash.cok k) Tryd.func38 (by kernel_rfl) (show Tryd.f38.body = some (cB Tryd.f38) by kernel_rfl) (by kernel_rfl) (by kernel_rfl) (plan_of (L := []) (by kernel_rfl) trivial) (fun x y h => (laws_eqFlash.ev k x).trans h)
def laws_eqMachine (k : Nat) (a1 : G27) (a2 : G27) : Option (Bool) :=
  bif a1.1 != a2.1 then
    some false
  else
  Option.bind (laws_eqFlash k a1.2 a2.2) fun v3 =>
  bif !v3 then
    some false
  else
  some true
def laws_eqMachine.sig : Sig := { ps := [.val true T27 (ros T27), .val true T27 (ros T27)], rs := [.val false [.v .bool]], ntmps := 16 }
def laws_eqMachine.con (k : Nat) : Con := laws_eqMachine.sig.con (fun x => laws_eqMachine k x.1 x.2)
def laws_eqMachine.C (k : Nat) : Ctx := { ti := TAB, con := conL [(38, laws_eqFlash.con k)], rob := true }
theorem laws_eqMachine.cok (k : Nat) : CtxOk Tryd.prog (laws_eqMachine.C k) := ctx_ok TABok ⟨laws_eqFlash.ok k, trivial⟩
theorem laws_eqMachine.ev (k : Nat) (x : Prod' laws_eqMachine.sig.ins) : laws_eqMachine.sig.ev (laws_eqMachine.C k) .auto Tryd.f22.results.toList (cB Tryd.f22) x = laws_eqMachine k x.1 x.2 := by kernel_rfl
theorem laws_eqMachine.ok (k : Nat) : ConOk Tryd.prog 22 (laws_eqMachine.con k) := sig_ok (p := .auto) (laws_eqMachine.cok k) Tryd.func22 (by kernel_rfl) (show Tryd.f22.body = some (cB Tryd.f22) by kernel_rfl) (by kernel_rfl) (by kernel_rfl) (plan_of (L := []) (by kernel_rfl) trivial) (fun x y h => (laws_eqMachine.ev k x).trans h)
def laws_eqInt64S.l0 : Nat → List Int → List Int → Int → Option (Unit ⊕ Bool)
  | 0, _, _, _ => none
  | j + 1, a1, a2, a3 =>
    bif decide (a3 < ((a1.length) : Int)) then
      Option.bind (at? a1 a3) fun v4 =>
      Option.bind (at? a2 a3) fun v5 =>
      bif v4 != v5 then
        some (.inr false)
      else
      laws_eqInt64S.l0 j a1 a2 (IntKind.wrap .i64 (a3 + 1))
    else
    some (.inl ())
def laws_eqInt64S (k : Nat) (a1 : List Int) (a2 : List Int) : Option (Bool) :=
  bif ((a1.length) : Int) != ((a2.length) : Int) then
    some false
  else
  Option.bind (laws_eqInt64S.l0 k a1 a2 0) fun
    | .inl y3 =>
      some true
    | .inr y4 =>
      some y4
def laws_eqInt64S.sig : Sig := { ps := [.val false (.sl (.int .i64)) (ros (.sl (.int .i64))), .val false (.sl (.int .i64)) (ros (.sl (.int .i64)))], rs := [.val false [.v .bool]], ntmps := 26 }
def laws_eqInt64S.con (k : Nat) : Con := laws_eqInt64S.sig.con (fun x => laws_eqInt64S k x.1 x.2)
def laws_eqInt64S.C (k : Nat) : Ctx := { ti := TAB, con := conL [] }
theorem laws_eqInt64S.cok (k : Nat) : CtxOk Tryd.prog (laws_eqInt64S.C k) := ctx_ok TABok trivial
def laws_eqInt64S.l0.ish : Shape := { tmps := [(0, .one (.bor (.int .i64))), (1, .one (.bor (.int .i64))), (5, .one (.v (.int .i64)))], slots := [], nb := 0 }
def laws_eqInt64S.l0.outs : List (Ex × Shape) := [(.exit 0, { tmps := [], slots := [], nb := 0 }), (.ret, { tmps := [(4, .one (.v .bool))], slots := [], nb := 0 })]
def laws_eqInt64S.l0.F (k j : Nat) (x : Prod' laws_eqInt64S.l0.ish.tys) : Option (Outs laws_eqInt64S.l0.outs) := laws_eqInt64S.l0 j x.1 x.2.1 x.2.2
def laws_eqInt64S.l0.s (k : Nat) : Summ := { n := 26, ish := laws_eqInt64S.l0.ish, outs := laws_eqInt64S.l0.outs, f := laws_eqInt64S.l0.F k k }
theorem laws_eqInt64S.l0.ev (k j : Nat) (x : Prod' laws_eqInt64S.l0.ish.tys) : V (laws_eqInt64S.C k) .auto (cO (cO (cR (cL (cR (cR (cB Tryd.f23))))))) (mk laws_eqInt64S.l0.ish 26 x) (fun e st' => match e with | .nrm => (rd laws_eqInt64S.l0.ish st').bind (laws_eqInt64S.l0.F k j) | e => rdOut e st' laws_eqInt64S.l0.outs) = laws_eqInt64S.l0.F k (j + 1) x := by kernel_rfl
theorem laws_eqInt64S.l0.ok (k : Nat) : SumOk Tryd.prog (laws_eqInt64S.C k) (.loop (cO (cO (cR (cL (cR (cR (cB Tryd.f23)))))))) (laws_eqInt64S.l0.s k) := sum_ok (by kernel_rfl) (sum_loop (p := .auto) (F := laws_eqInt64S.l0.F k) (laws_eqInt64S.cok k) (by kernel_rfl) (plan_of (L := []) (by kernel_rfl) trivial) (fun _ => rfl) (fun j x y h => (laws_eqInt64S.l0.ev k j x).trans h) k rfl)
theorem laws_eqInt64S.ev (k : Nat) (x : Prod' laws_eqInt64S.sig.ins) : laws_eqInt64S.sig.ev (laws_eqInt64S.C k) (.two .auto (.two .auto (.two (.two .auto (.one (.sum (laws_eqInt64S.l0.s k)))) .auto))) Tryd.f23.results.toList (cB Tryd.f23) x = laws_eqInt64S k x.1 x.2 := by kernel_rfl
theorem laws_eqInt64S.ok (k : Nat) : ConOk Tryd.prog 23 (laws_eqInt64S.con k) := sig_ok (p := (.two .auto (.two .auto (.two (.two .auto (.one (.sum (laws_eqInt64S.l0.s k)))) .auto)))) (laws_eqInt64S.cok k) Tryd.func23 (by kernel_rfl) (show Tryd.f23.body = some (cB Tryd.f23) by kernel_rfl) (by kernel_rfl) (by kernel_rfl) (plan_of (L := [(laws_eqInt64S.l0.s k, cO (cR (cL (cR (cR (cB Tryd.f23))))))]) (by kernel_rfl) ⟨laws_eqInt64S.l0.ok k, trivial⟩) (fun x y h => (laws_eqInt64S.ev k x).trans h)
def laws_eqDoOut (k : Nat) (a1 : G30) (a2 : G30) : Option (Bool) :=
  Option.bind (laws_eqMachine k a1.1 a2.1) fun v3 =>
  bif !v3 then
    some false
  else
  bif !(a1.2.1 == a2.2.1) then
    some false
  else
  Option.bind (laws_eqInt64S k a1.2.2.1 a2.2.2.1) fun v4 =>
  bif !v4 then
    some false
  else
  bif a1.2.2.2 != a2.2.2.2 then
    some false
  else
  some true
def laws_eqDoOut.sig : Sig := { ps := [.val true T30 (ros T30), .val true T30 (ros T30)], rs := [.val false [.v .bool]], ntmps := 27 }
def laws_eqDoOut.con (k : Nat) : Con := laws_eqDoOut.sig.con (fun x => laws_eqDoOut k x.1 x.2)
def laws_eqDoOut.C (k : Nat) : Ctx := { ti := TAB, con := conL [(22, laws_eqMachine.con k), (23, laws_eqInt64S.con k)], rob := true }
theorem laws_eqDoOut.cok (k : Nat) : CtxOk Tryd.prog (laws_eqDoOut.C k) := ctx_ok TABok ⟨laws_eqMachine.ok k, laws_eqInt64S.ok k, trivial⟩
theorem laws_eqDoOut.ev (k : Nat) (x : Prod' laws_eqDoOut.sig.ins) : laws_eqDoOut.sig.ev (laws_eqDoOut.C k) .auto Tryd.f9.results.toList (cB Tryd.f9) x = laws_eqDoOut k x.1 x.2 := by kernel_rfl
theorem laws_eqDoOut.ok (k : Nat) : ConOk Tryd.prog 9 (laws_eqDoOut.con k) := sig_ok (p := .auto) (laws_eqDoOut.cok k) Tryd.func9 (by kernel_rfl) (show Tryd.f9.body = some (cB Tryd.f9) by kernel_rfl) (by kernel_rfl) (by kernel_rfl) (plan_of (L := []) (by kernel_rfl) trivial) (fun x y h => (laws_eqDoOut.ev k x).trans h)
def laws_FnExactAnswerText (k : Nat) (a1 : G30) : Option (Bool) :=
  Option.bind (laws_szDoOut k a1 1048576) fun v2 =>
  bif decide (v2 < 0) then
    some true
  else
  Option.bind (laws_toDoOut k a1) fun v3 =>
  Option.bind (spec_AnswerText k ((v3.1, (v3.2.1, v3.2.2.1)), v3.2.2.2)) fun v4 =>
  Option.bind (laws_toDoOut k a1) fun v5 =>
  let e6 := ((v5.1, (v5.2.1, v5.2.2.1)), v5.2.2.2)
  Option.bind (impl_AnswerText k e6) fun v7 =>
  bif !(v7 == v4) then
    some false
  else
  Option.bind (laws_toDoOut k a1) fun v8 =>
  Option.bind (laws_eqDoOut k e6 ((v8.1, (v8.2.1, v8.2.2.1)), v8.2.2.2)) fun v9 =>
  bif !v9 then
    some false
  else
  some true
def laws_FnExactAnswerText.sig : Sig := { ps := [.val true T30 (ros T30)], rs := [.val false [.v .bool]], ntmps := 27 }
def laws_FnExactAnswerText.con (k : Nat) : Con := laws_FnExactAnswerText.sig.con (fun x => laws_FnExactAnswerText k x)
def laws_FnExactAnswerText.C (k : Nat) : Ctx := { ti := TAB, con := conL [(5, laws_szDoOut.con k), (6, spec_AnswerText.con k), (7, laws_toDoOut.con k), (8, impl_AnswerText.con k), (9, laws_eqDoOut.con k)], rob := true }
theorem laws_FnExactAnswerText.cok (k : Nat) : CtxOk Tryd.prog (laws_FnExactAnswerText.C k) := ctx_ok TABok ⟨laws_szDoOut.ok k, spec_AnswerText.ok k, laws_toDoOut.ok k, impl_AnswerText.ok k, laws_eqDoOut.ok k, trivial⟩
theorem laws_FnExactAnswerText.ev (k : Nat) (x : Prod' laws_FnExactAnswerText.sig.ins) : laws_FnExactAnswerText.sig.ev (laws_FnExactAnswerText.C k) .auto Tryd.f3.results.toList (cB Tryd.f3) x = laws_FnExactAnswerText k x := by kernel_rfl
theorem laws_FnExactAnswerText.ok (k : Nat) : ConOk Tryd.prog 3 (laws_FnExactAnswerText.con k) := sig_ok (p := .auto) (laws_FnExactAnswerText.cok k) Tryd.func3 (by kernel_rfl) (show Tryd.f3.body = some (cB Tryd.f3) by kernel_rfl) (by kernel_rfl) (by kernel_rfl) (plan_of (L := []) (by kernel_rfl) trivial) (fun x y h => (laws_FnExactAnswerText.ev k x).trans h)
end Go.Proofs.YtaajcllchbnjiaaDoorE

namespace Go.Proofs.YtaajcllchbnjiaaDoorE
open Go
set_option linter.unusedVariables false
def Ever (p : Nat → Prop) : Prop := ∃ K, ∀ k, K ≤ k → p k
theorem Ever.of {p : Nat → Prop} (h : ∀ k, p k) : Ever p := ⟨0, fun k _ => h k⟩
theorem Ever.ge {p : Nat → Prop} (K : Nat) (h : ∀ k, K ≤ k → p k) : Ever p := ⟨K, h⟩
theorem Ever.mono {p q : Nat → Prop} (h : Ever p) (f : ∀ k, p k → q k) : Ever q := by
  obtain ⟨K, h⟩ := h
  exact ⟨K, fun k hk => f k (h k hk)⟩
theorem Ever.and {p q : Nat → Prop} (h : Ever p) (g : Ever q) : Ever fun k => p k ∧ q k := by
  obtain ⟨K, h⟩ := h
  obtain ⟨J, g⟩ := g
  exact ⟨K + J, fun k hk => ⟨h k (by omega), g k (by omega)⟩⟩
theorem Ever.ex {p : Nat → Prop} (h : Ever p) : ∃ k, p k := by
  obtain ⟨K, h⟩ := h
  exact ⟨K, h K (Nat.le_refl K)⟩
theorem Ever.all {n : Nat} {p : Nat → Nat → Prop} : (∀ i, i < n → Ever (p i)) → Ever fun k => ∀ i, i < n → p i k := by
  induction n with
  | zero => exact fun _ => ⟨0, fun k _ i hi => absurd hi (Nat.not_lt_zero i)⟩
  | succ n ih =>
    intro h
    refine ((ih fun i hi => h i (Nat.lt_succ_of_lt hi)).and (h n (Nat.lt_succ_self n))).mono fun k hk i hi => ?_
    rcases Nat.eq_or_lt_of_le (Nat.le_of_lt_succ hi) with rfl | hi
    · exact hk.2
    · exact hk.1 i hi
/-- Two facts, then a third. -/
theorem Ever.two {p q r : Nat → Prop} (h : Ever p) (g : Ever q) (f : ∀ k, p k → q k → r k) : Ever r := (h.and g).mono fun k hk => f k hk.1 hk.2
/-- A loop of n rounds: what it has in hand at round i is told by i. -/
theorem ever_loop {R : Type} (L : Nat → Nat → Nat → Option R) (n : Nat) (r : R) (hs : Ever fun k => ∀ i, i < n → ∀ j, L k (j + 1) i = L k j (i + 1)) (hl : Ever fun k => ∀ j, L k (j + 1) n = some r) : Ever fun k => L k k 0 = some r := by
  obtain ⟨K, hs⟩ := hs
  obtain ⟨J, hl⟩ := hl
  refine ⟨K + J + n + 1, fun k hk => ?_⟩
  have hs := hs k (by omega)
  have hl := hl k (by omega)
  have key : ∀ d i j, i + d = n → d < j → L k j i = some r := by
    intro d
    induction d with
    | zero =>
      intro i j hi hj
      obtain ⟨m, rfl⟩ : ∃ m, j = m + 1 := ⟨j - 1, by omega⟩
      obtain rfl : i = n := by omega
      exact hl m
    | succ d ih =>
      intro i j hi hj
      obtain ⟨m, rfl⟩ : ∃ m, j = m + 1 := ⟨j - 1, by omega⟩
      rw [hs i (by omega) m]
      exact ih (i + 1) m (by omega) (by omega)
  exact key n 0 k (by omega) (by omega)
/-- The same, where neither the round nor the end hangs on fuel. -/
theorem loop_of {R : Type} (L : Nat → Nat → Option R) (n : Nat) (r : R) (hs : ∀ i, i < n → ∀ j, L (j + 1) i = L j (i + 1)) (hl : ∀ j, L (j + 1) n = some r) : Ever fun k => L k 0 = some r :=
  ever_loop (fun _ j i => L j i) n r (Ever.of fun _ => hs) (Ever.of fun _ => hl)
theorem loop_at {R : Type} (L : Nat → Nat → Option R) (n : Nat) (r : R) (hs : ∀ i, i < n → ∀ j, L (j + 1) i = L j (i + 1)) (hl : ∀ j, L (j + 1) n = some r) : ∀ k, n < k → L k 0 = some r := by
  have key : ∀ d i j, i + d = n → d < j → L j i = some r := by
    intro d
    induction d with
    | zero =>
      intro i j hi hj
      obtain ⟨m, rfl⟩ : ∃ m, j = m + 1 := ⟨j - 1, by omega⟩
      obtain rfl : i = n := by omega
      exact hl m
    | succ d ih =>
      intro i j hi hj
      obtain ⟨m, rfl⟩ : ∃ m, j = m + 1 := ⟨j - 1, by omega⟩
      rw [hs i (by omega) m]
      exact ih (i + 1) m (by omega) (by omega)
  exact fun k hk => key n 0 k (by omega) hk
theorem bnd {α β : Type} {f : Nat → Option α} {g : Nat → α → Option β} {a : α} {b : β} (h : Ever fun k => f k = some a) (k : Ever fun k => g k a = some b) : Ever fun k => (f k).bind (g k) = some b :=
  h.two k fun k h1 h2 => by rw [h1]; exact h2
theorem some_cond {α : Type} {b : Bool} {x y : Option α} (hx : ∃ v, x = some v) (hy : ∃ v, y = some v) : ∃ v, (bif b then x else y) = some v := by
  cases b
  · exact hy
  · exact hx
theorem some_bind {α β : Type} {x : Option α} {f : α → Option β} (hx : ∃ v, x = some v) (hf : ∀ v, ∃ w, f v = some w) : ∃ w, x.bind f = some w := by
  obtain ⟨v, rfl⟩ := hx
  exact hf v
/-! ### numbers -/
theorem w64 {n : Int} (h0 : -9223372036854775808 ≤ n) (h1 : n < 9223372036854775808) : IntKind.wrap .i64 n = n := by
  simp [IntKind.wrap, IntKind.bits, IntKind.signed]
  omega
theorem wf64 {n : Int} (h : Bnd (.int .i64) n) : -9223372036854775808 ≤ n ∧ n < 9223372036854775808 := by
  have h : (Lit.int .i64 n).wf = true := h
  simp [Lit.wf, IntKind.min, IntKind.max, IntKind.signed, IntKind.bits] at h
  omega
theorem wn {n : Nat} (h : n < 9223372036854775808) : IntKind.wrap .i64 (n : Int) = n := w64 (by omega) (by omega)
theorem wsuc {n : Nat} (h : n < 9223372036854775807) : IntKind.wrap .i64 ((n : Int) + 1) = ((n + 1 : Nat) : Int) := by rw [w64] <;> omega
/-! ### partial answers -/
theorem at_nat {α : Type} {l : List α} {i : Nat} (h : i < l.length) : at? l (i : Int) = some l[i] := by
  unfold at?
  rw [if_pos (by omega), Int.toNat_natCast, List.getElem?_eq_getElem h]
theorem app_ok {α : Type} {n : Nat} {a b : List α} (h : (a.length + b.length) * n ≤ 140737488355328) : app? n a b = some (a ++ b) := if_pos h
theorem cat_some {a b : Str} (h : a.length + b.length ≤ 9223372036854775807) : cat? a b = some (a ++ b) := if_pos h
theorem make_some {α : Type} {b n : Nat} {x : α} (h : n * b ≤ 140737488355328) : make? b (n : Int) (n : Int) x = some (List.replicate n x) := by
  unfold make?
  rw [if_pos ⟨by omega, Int.le_refl _, by rw [Int.toNat_natCast]; exact h⟩, Int.toNat_natCast]
theorem cut_ok {α : Type} {l : List α} {i j : Nat} (h : i ≤ j) (k : j ≤ l.length) : cut? l (i : Int) (j : Int) = some ((l.take j).drop i) := by
  unfold cut?
  rw [if_pos ⟨by omega, by omega, by omega⟩, Int.toNat_natCast, Int.toNat_natCast]
theorem room_some {n b : Nat} (h : n * b ≤ 140737488355328) : room? n b = some () := if_pos h
theorem nz_some {b : Int} (h : b ≠ 0) : nz? b = some () := if_neg h
theorem nneg_some {b : Int} (h : 0 ≤ b) : nneg? b = some () := if_neg (by omega)
theorem take_map_succ {α β : Type} {l : List α} (f : α → β) {i : Nat} (h : i < l.length) : (l.take (i + 1)).map f = (l.take i).map f ++ [f l[i]] := by
  rw [List.take_add_one, List.getElem?_eq_getElem h, List.map_append]
  rfl
theorem take_succ' {α : Type} {l : List α} {i : Nat} (h : i < l.length) : l.take (i + 1) = l.take i ++ [l[i]] := by
  rw [List.take_add_one, List.getElem?_eq_getElem h]
  rfl
/-- A list that is filled, place by place. -/
theorem fill_set {α β : Type} {l : List α} {f : α → β} {z : β} {i : Nat} (h : i < l.length) :
    ((l.take i).map f ++ List.replicate (l.length - i) z).set i (f l[i]) = (l.take (i + 1)).map f ++ List.replicate (l.length - (i + 1)) z := by
  have hl : ((l.take i).map f).length = i := by simp; omega
  rw [List.set_append_right _ _ (by rw [hl]; exact Nat.le_refl i), hl, Nat.sub_self, show l.length - i = (l.length - (i + 1)) + 1 by omega, List.replicate_succ, List.set_cons_zero, take_map_succ f h, List.append_assoc]
  rfl
theorem fill_len {α β : Type} {l : List α} {f : α → β} {z : β} {i : Nat} (h : i ≤ l.length) : ((l.take i).map f ++ List.replicate (l.length - i) z).length = l.length := by simp; omega
end Go.Proofs.YtaajcllchbnjiaaDoorE

namespace Go.Proofs.YtaajcllchbnjiaaDoorE
open Go
set_option linter.unusedVariables false
/-- A step is taken for each element, until one of them ends it. -/
def runL {α S R : Type} (f : S → α → S ⊕ R) (g : S → R) : List α → S → R
  | [], s => g s
  | x :: l, s => match f s x with
    | .inl s' => runL f g l s'
    | .inr r => r
theorem runL_inl {α S R : Type} {f : S → α → S ⊕ R} {g : S → R} {x : α} {l : List α} {s s' : S} (h : f s x = .inl s') : runL f g (x :: l) s = runL f g l s' := by
  have e : runL f g (x :: l) s = match f s x with | .inl s' => runL f g l s' | .inr r => r := rfl
  rw [e, h]
theorem runL_inr {α S R : Type} {f : S → α → S ⊕ R} {g : S → R} {x : α} {l : List α} {s : S} {r : R} (h : f s x = .inr r) : runL f g (x :: l) s = r := by
  have e : runL f g (x :: l) s = match f s x with | .inl s' => runL f g l s' | .inr r => r := rfl
  rw [e, h]
theorem loop_from {α S R : Type} (L : Nat → S → Int → Option R) (l : List α) (f : S → α → S ⊕ R) (g : S → R) (I : Nat → S → Prop)
    (hs : ∀ (i : Nat) (h : i < l.length) (s : S), I i s → (∃ s', f s l[i] = .inl s' ∧ I (i + 1) s' ∧ ∀ j, L (j + 1) s (i : Int) = L j s' ((i + 1 : Nat) : Int)) ∨ ∃ r, f s l[i] = .inr r ∧ ∀ j, L (j + 1) s (i : Int) = some r)
    (he : ∀ (s : S), I l.length s → ∀ j, L (j + 1) s (l.length : Int) = some (g s)) : ∀ (d i : Nat) (s : S), i + d = l.length → I i s → ∀ j, d < j → L j s (i : Int) = some (runL f g (l.drop i) s) := by
  intro d
  induction d with
  | zero =>
    intro i s hi hI j hj
    obtain ⟨j, rfl⟩ : ∃ q, j = q + 1 := ⟨j - 1, by omega⟩
    obtain rfl : i = l.length := by omega
    rw [List.drop_length, he s hI]
    rfl
  | succ d ih =>
    intro i s hi hI j hj
    obtain ⟨j, rfl⟩ : ∃ q, j = q + 1 := ⟨j - 1, by omega⟩
    have hlt : i < l.length := by omega
    rw [List.drop_eq_getElem_cons hlt]
    rcases hs i hlt s hI with ⟨s', h1, h2, h3⟩ | ⟨r, h1, h3⟩
    · rw [h3 j]
      show _ = some (match f s l[i] with | .inl s' => runL f g (l.drop (i + 1)) s' | .inr r => r)
      rw [h1]
      exact ih (i + 1) s' (by omega) h2 j (by omega)
    · rw [h3 j]
      show _ = some (match f s l[i] with | .inl s' => runL f g (l.drop (i + 1)) s' | .inr r => r)
      rw [h1]
theorem loop_fold {α S R : Type} (L : Nat → S → Int → Option R) (l : List α) (f : S → α → S ⊕ R) (g : S → R) (I : Nat → S → Prop)
    (hs : ∀ (i : Nat) (h : i < l.length) (s : S), I i s → (∃ s', f s l[i] = .inl s' ∧ I (i + 1) s' ∧ ∀ j, L (j + 1) s (i : Int) = L j s' ((i + 1 : Nat) : Int)) ∨ ∃ r, f s l[i] = .inr r ∧ ∀ j, L (j + 1) s (i : Int) = some r)
    (he : ∀ (s : S), I l.length s → ∀ j, L (j + 1) s (l.length : Int) = some (g s)) {s : S} (hI : I 0 s) {k : Nat} (hk : l.length < k) : L k s 0 = some (runL f g l s) :=
  loop_from L l f g I hs he l.length 0 s (Nat.zero_add _) hI k hk
/-- A loop that tests each element with a partial function that answers, and leaves at the first that passes. -/
def firstI {α : Type} (p : α → Bool) : List α → Nat → Option Nat
  | [], _ => none
  | x :: l, i => if p x then some i else firstI p l (i + 1)
theorem loop_find {α R : Type} (L : Nat → Int → Option R) (l : List α) (p : α → Bool) (a : R) (b : Nat → R)
    (hs : ∀ (i : Nat) (h : i < l.length), (p l[i] = false → ∀ j, L (j + 1) (i : Int) = L j ((i + 1 : Nat) : Int)) ∧ (p l[i] = true → ∀ j, L (j + 1) (i : Int) = some (b i)))
    (he : ∀ j, L (j + 1) (l.length : Int) = some a) {k : Nat} (hk : l.length < k) : L k 0 = some (match firstI p l 0 with | some i => b i | none => a) := by
  have key : ∀ (d i : Nat), i + d = l.length → ∀ j, d < j → L j (i : Int) = some (match firstI p (l.drop i) i with | some i => b i | none => a) := by
    intro d
    induction d with
    | zero =>
      intro i hi j hj
      obtain ⟨j, rfl⟩ : ∃ q, j = q + 1 := ⟨j - 1, by omega⟩
      obtain rfl : i = l.length := by omega
      rw [List.drop_length, he]
      rfl
    | succ d ih =>
      intro i hi j hj
      obtain ⟨j, rfl⟩ : ∃ q, j = q + 1 := ⟨j - 1, by omega⟩
      have hlt : i < l.length := by omega
      rw [List.drop_eq_getElem_cons hlt]
      obtain ⟨h1, h2⟩ := hs i hlt
      cases hp : p l[i] with
      | true => rw [h2 hp j]; simp [firstI, hp]
      | false =>
        rw [h1 hp j, ih (i + 1) (by omega) j (by omega)]
        simp [firstI, hp]
  have := key l.length 0 (Nat.zero_add _) k hk
  rwa [List.drop_zero] at this
theorem firstI_some {α : Type} {p : α → Bool} : ∀ {l : List α} {n i : Nat}, firstI p l n = some i → n ≤ i ∧ ∃ h : i - n < l.length, p (l[i - n]) = true ∧ ∀ j, (hj : j < i - n) → p (l[j]'(by omega)) = false
  | [], _, _, h => by cases h
  | x :: l, n, i, h => by
    unfold firstI at h
    split at h
    · rename_i hp
      cases h
      refine ⟨Nat.le_refl _, by simp, ?_, fun j hj => by omega⟩
      simpa using hp
    · rename_i hp
      obtain ⟨h1, h2, h3, h4⟩ := firstI_some h
      refine ⟨by omega, by simp only [List.length_cons]; omega, ?_, fun j hj => ?_⟩
      · have e : i - n = (i - (n + 1)) + 1 := by omega
        simpa [e] using h3
      · cases j with
        | zero => simpa using hp
        | succ j => simpa using h4 j (by omega)
theorem firstI_none {α : Type} {p : α → Bool} : ∀ {l : List α} {n : Nat}, firstI p l n = none ↔ ∀ x ∈ l, p x = false
  | [], n => by simp [firstI]
  | x :: l, n => by
    unfold firstI
    split
    · rename_i hp
      simp [hp]
    · rename_i hp
      rw [firstI_none]
      simp at hp
      simp [hp]
theorem firstI_any {α : Type} {p : α → Bool} {l : List α} {n : Nat} : (firstI p l n).isSome = l.any p := by
  cases h : firstI p l n with
  | none =>
    have := firstI_none.1 h
    symm
    simp only [Option.isSome_none, List.any_eq_false]
    intro x hx
    rw [this x hx]
    exact nofun
  | some i =>
    obtain ⟨_, h2, h3, _⟩ := firstI_some h
    symm
    exact List.any_eq_true.2 ⟨_, List.getElem_mem h2, h3⟩
/-- A list that is copied place by place. -/
theorem copy_loop {α : Type} (L : Nat → Int → List α → Option (List α)) (l : List α) (z : α)
    (hs : ∀ (i : Nat) (h : i < l.length) (c : List α), c.length = l.length → ∀ j, L (j + 1) (i : Int) c = L j ((i + 1 : Nat) : Int) (c.set i l[i]))
    (he : ∀ (c : List α) j, L (j + 1) (l.length : Int) c = some c) {k : Nat} (hk : l.length < k) : L k 0 (List.replicate l.length z) = some l := by
  have key : ∀ (d i : Nat), i + d = l.length → ∀ j, d < j → L j (i : Int) (l.take i ++ List.replicate (l.length - i) z) = some l := by
    intro d
    induction d with
    | zero =>
      intro i hi j hj
      obtain ⟨j, rfl⟩ : ∃ q, j = q + 1 := ⟨j - 1, by omega⟩
      obtain rfl : i = l.length := by omega
      rw [he, Nat.sub_self, List.take_length]
      simp
    | succ d ih =>
      intro i hi j hj
      obtain ⟨j, rfl⟩ : ∃ q, j = q + 1 := ⟨j - 1, by omega⟩
      have hlt : i < l.length := by omega
      rw [hs i hlt _ (by simp; omega)]
      have e : (l.take i ++ List.replicate (l.length - i) z).set i l[i] = l.take (i + 1) ++ List.replicate (l.length - (i + 1)) z := by
        have hl : (l.take i).length = i := by simp; omega
        rw [List.set_append_right _ _ (by omega), hl, Nat.sub_self, show l.length - i = (l.length - (i + 1)) + 1 by omega, List.replicate_succ, List.set_cons_zero, take_succ' hlt, List.append_assoc]
        rfl
      rw [e]
      exact ih (i + 1) (by omega) j (by omega)
  have := key l.length 0 (Nat.zero_add _) k hk
  simpa using this
theorem dlt {a b : Nat} (h : a < b) : decide ((a : Int) < (b : Int)) = true := decide_eq_true (by omega)
theorem dnlt {a b : Nat} (h : b ≤ a) : decide ((a : Int) < (b : Int)) = false := decide_eq_false (by omega)
theorem bnd' {α β : Type} {x : Option α} {f : α → Option β} {a : α} {b : Option β} (h : x = some a) (k : f a = b) : x.bind f = b := by rw [h]; exact k
theorem cat_loop {α : Type} (L : Nat → Nat → Str → Int → Option Str) (l : List α) (f : α → Str) (B M : Nat) (hB : ∀ x ∈ l, (f x).length ≤ B)
    (hs : ∀ i, (h : i < l.length) → Ever fun k => ∀ acc j, acc.length ≤ M → L k (j + 1) acc (i : Int) = L k j (acc ++ f l[i]) ((i + 1 : Nat) : Int))
    (he : ∀ k acc j, L k (j + 1) acc (l.length : Int) = some acc) (acc : Str) (ha : acc.length + B * l.length ≤ M) : Ever fun k => L k k acc 0 = some (acc ++ (l.map f).flatten) := by
  have hall : Ever fun k => ∀ i, i < l.length → ∀ (h : i < l.length) acc j, acc.length ≤ M → L k (j + 1) acc (i : Int) = L k j (acc ++ f l[i]) ((i + 1 : Nat) : Int) := Ever.all fun i hi => (hs i hi).mono fun k hk h => hk
  obtain ⟨K, hK⟩ := hall
  refine Ever.ge (K + l.length + 1) fun k hk => ?_
  have hK := hK k (by omega)
  have key : ∀ (d i : Nat) (acc : Str), i + d = l.length → acc.length + B * d ≤ M → ∀ j, d < j → L k j acc (i : Int) = some (acc ++ ((l.drop i).map f).flatten) := by
    intro d
    induction d with
    | zero =>
      intro i acc hi hacc j hj
      obtain ⟨j, rfl⟩ : ∃ q, j = q + 1 := ⟨j - 1, by omega⟩
      obtain rfl : i = l.length := by omega
      rw [he, List.drop_length]
      simp
    | succ d ih =>
      intro i acc hi hacc j hj
      obtain ⟨j, rfl⟩ : ∃ q, j = q + 1 := ⟨j - 1, by omega⟩
      have h : i < l.length := by omega
      have hf := hB _ (List.getElem_mem h)
      rw [Nat.mul_succ] at hacc
      rw [hK i h h acc j (by omega), ih (i + 1) _ (by omega) (by rw [List.length_append]; omega) j (by omega), List.drop_eq_getElem_cons h, List.map_cons, List.flatten_cons, List.append_assoc]
  have := key l.length 0 acc (Nat.zero_add _) ha k (by omega)
  rwa [List.drop_zero] at this
end Go.Proofs.YtaajcllchbnjiaaDoorE

namespace Go.Proofs.YtaajcllchbnjiaaDoorE
open Go
set_option linter.unusedVariables false
theorem u8w (n : Int) : IntKind.wrap .u8 n = n % 256 := by simp [IntKind.wrap, IntKind.bits, IntKind.signed]
theorem u32w (n : Int) : IntKind.wrap .u32 n = n % 4294967296 := by simp [IntKind.wrap, IntKind.bits, IntKind.signed]
theorem u64w (n : Int) : IntKind.wrap .u64 n = n % 18446744073709551616 := by simp [IntKind.wrap, IntKind.bits, IntKind.signed]
theorem bx32 (a b : Nat) (ha : a < 4294967296) (hb : b < 4294967296) : intBits .xor .u32 (a : Int) (b : Int) = ((a ^^^ b : Nat) : Int) := by
  have hx : a ^^^ b < 2 ^ 32 := Nat.xor_lt_two_pow (by omega) (by omega)
  show IntKind.wrap .u32 (((BitVec.ofInt 32 (a : Int)) ^^^ (BitVec.ofInt 32 (b : Int))).toNat : Int) = _
  rw [BitVec.ofInt_natCast, BitVec.ofInt_natCast, BitVec.toNat_xor, BitVec.toNat_ofNat, BitVec.toNat_ofNat, u32w, Nat.mod_eq_of_lt (show a < 2 ^ 32 by omega), Nat.mod_eq_of_lt (show b < 2 ^ 32 by omega)]
  omega
theorem band1 (a : Nat) (ha : a < 4294967296) : intBits .and .u32 (a : Int) 1 = ((a % 2 : Nat) : Int) := by
  have h : a &&& 1 = a % 2 := Nat.and_one_is_mod a
  show IntKind.wrap .u32 (((BitVec.ofInt 32 (a : Int)) &&& (BitVec.ofInt 32 ((1 : Nat) : Int))).toNat : Int) = _
  rw [BitVec.ofInt_natCast, BitVec.ofInt_natCast, BitVec.toNat_and, BitVec.toNat_ofNat, BitVec.toNat_ofNat, u32w, Nat.mod_eq_of_lt (show a < 2 ^ 32 by omega), Nat.mod_eq_of_lt (show 1 < 2 ^ 32 by omega), h]
  omega
theorem band64 (a : Nat) (ha : a < 18446744073709551616) : intBits .and .u64 (a : Int) 1 = ((a % 2 : Nat) : Int) := by
  have h : a &&& 1 = a % 2 := Nat.and_one_is_mod a
  show IntKind.wrap .u64 (((BitVec.ofInt 64 (a : Int)) &&& (BitVec.ofInt 64 ((1 : Nat) : Int))).toNat : Int) = _
  rw [BitVec.ofInt_natCast, BitVec.ofInt_natCast, BitVec.toNat_and, BitVec.toNat_ofNat, BitVec.toNat_ofNat, u64w, Nat.mod_eq_of_lt (show a < 2 ^ 64 by omega), Nat.mod_eq_of_lt (show 1 < 2 ^ 64 by omega), h]
  omega
theorem bor64 (a b : Nat) (ha : a < 18446744073709551616) (hb : b < 18446744073709551616) : intBits .or .u64 (a : Int) (b : Int) = ((a ||| b : Nat) : Int) := by
  show IntKind.wrap .u64 (((BitVec.ofInt 64 (a : Int)) ||| (BitVec.ofInt 64 (b : Int))).toNat : Int) = _
  have hx : a ||| b < 2 ^ 64 := Nat.or_lt_two_pow (by omega) (by omega)
  rw [BitVec.ofInt_natCast, BitVec.ofInt_natCast, BitVec.toNat_or, BitVec.toNat_ofNat, BitVec.toNat_ofNat, u64w, Nat.mod_eq_of_lt (show a < 2 ^ 64 by omega), Nat.mod_eq_of_lt (show b < 2 ^ 64 by omega)]
  omega
theorem and127 : ∀ a : Nat, a < 256 → intBits .and .u8 ((a : Nat) : Int) 127 = ((a % 128 : Nat) : Int) := by decide +kernel
theorem noti64 (a : Nat) (h : a < 9223372036854775808) : intBits .xor .i64 (-1) (a : Int) = -(a : Int) - 1 := by
  show IntKind.wrap .i64 (((BitVec.ofInt 64 (-1)) ^^^ (BitVec.ofInt 64 (a : Int))).toNat : Int) = _
  have e : (BitVec.ofInt 64 (-1)) = BitVec.allOnes 64 := by decide
  rw [BitVec.ofInt_natCast, e, BitVec.allOnes_xor, BitVec.toNat_not, BitVec.toNat_ofNat, IntKind.wrap_i64, Nat.mod_eq_of_lt (show a < 2 ^ 64 by omega)]
  omega
theorem shr_nat (k : IntKind) (r m : Nat) (h : m ≤ k.bits) : shr k (r : Int) (m : Int) = ((r / 2 ^ m : Nat) : Int) := by
  unfold shr
  rw [Int.toNat_natCast, Nat.min_eq_left h, Int.fdiv_eq_ediv_of_nonneg _ (by exact Int.le_of_lt (Int.pow_pos (by omega)))]
  push_cast
  rfl
theorem byte_lt (c : UInt8) : c.toNat < 256 := c.toNat_lt
theorem byte_of (c : UInt8) : UInt8.ofNat ((c.toNat : Nat) : Int).toNat = c := by simp
/-! ### the CRC -/
def crcBit (r : Nat) : Nat := if r % 2 = 1 then (r / 2) ^^^ 3988292384 else r / 2
def crcBits : Nat → Nat → Nat
  | 0, r => r
  | n + 1, r => crcBits n (crcBit r)
def crcRun : Str → Nat → Nat
  | [], r => r
  | c :: l, r => crcRun l (crcBits 8 (r ^^^ c.toNat))
def crcOf (c : Nat) (s : Str) : Nat := (crcRun s (c ^^^ 4294967295)) ^^^ 4294967295
theorem x32 {a b : Nat} (ha : a < 4294967296) (hb : b < 4294967296) : a ^^^ b < 4294967296 := Nat.xor_lt_two_pow (n := 32) ha hb
theorem crcBit_lt {r : Nat} (h : r < 4294967296) : crcBit r < 4294967296 := by
  unfold crcBit
  split
  · exact x32 (by omega) (by omega)
  · omega
theorem crcBits_lt : ∀ (n : Nat) {r : Nat}, r < 4294967296 → crcBits n r < 4294967296
  | 0, _, h => h
  | n + 1, _, h => crcBits_lt n (crcBit_lt h)
theorem crcRun_lt : ∀ (l : Str) {r : Nat}, r < 4294967296 → crcRun l r < 4294967296
  | [], _, h => h
  | c :: l, r, h => crcRun_lt l (crcBits_lt 8 (x32 h (by have := byte_lt c; omega)))
theorem crcOf_lt {c : Nat} (s : Str) (h : c < 4294967296) : crcOf c s < 4294967296 := x32 (crcRun_lt _ (x32 h (by omega))) (by omega)
/-- The four bytes of a CRC. -/
def four (n : Nat) : Str := listByte [((n % 256 : Nat) : Int), ((n / 256 % 256 : Nat) : Int), ((n / 65536 % 256 : Nat) : Int), ((n / 16777216 % 256 : Nat) : Int)]
def sealOf (s : Str) : Str := s ++ four (crcOf 0 s)
theorem four_len (n : Nat) : (four n).length = 4 := rfl
theorem sealOf_len (s : Str) : (sealOf s).length = s.length + 4 := by unfold sealOf; rw [List.length_append, four_len]
/-- What stands ahead of the seal. -/
def bodyOf (s : Str) : Str := s.take (s.length - 4)
theorem body_len (s : Str) : (bodyOf s).length = s.length - 4 := by unfold bodyOf; simp
theorem seal_inj {a b : Str} : sealOf a = sealOf b ↔ a = b := by
  constructor
  · intro h
    exact List.append_inj_left' h (by rw [four_len, four_len])
  · rintro rfl; rfl
theorem tail_iff (s : Str) : (four (crcOf 0 (bodyOf s)) = s.drop (s.length - 4)) ↔ sealOf (bodyOf s) = s := by
  have e : s = bodyOf s ++ s.drop (s.length - 4) := (List.take_append_drop _ _).symm
  unfold sealOf
  constructor
  · intro h; rw [h]; exact e.symm
  · intro h
    exact List.append_cancel_left (h.trans e)
theorem body_seal (s : Str) : bodyOf (sealOf s) = s := by
  unfold bodyOf
  rw [sealOf_len, Nat.add_sub_cancel]
  unfold sealOf
  simp
def unsealI (s : Str) : Str × Int := if s.length < 4 then ([], 4) else if sealOf (bodyOf s) = s then (bodyOf s, 0) else ([], 5)
theorem unseal_ok {s : Str} (h : (unsealI s).2 = 0) : unsealI s = (bodyOf s, 0) ∧ sealOf (bodyOf s) = s ∧ 4 ≤ s.length := by
  unfold unsealI at h ⊢
  by_cases h4 : s.length < 4
  · rw [if_pos h4] at h; simp at h
  · rw [if_neg h4] at h ⊢
    by_cases he : sealOf (bodyOf s) = s
    · rw [if_pos he]; exact ⟨rfl, he, by omega⟩
    · rw [if_neg he] at h; simp at h
theorem unseal_no {s : Str} (h : (unsealI s).2 ≠ 0) : (unsealI s).1 = [] := by
  unfold unsealI at h ⊢
  by_cases h4 : s.length < 4
  · rw [if_pos h4]
  · rw [if_neg h4] at h ⊢
    by_cases he : sealOf (bodyOf s) = s
    · rw [if_pos he] at h; exact absurd rfl h
    · rw [if_neg he]
theorem unseal_len (s : Str) : (unsealI s).1.length ≤ s.length := by
  unfold unsealI
  split
  · simp
  · split
    · rw [body_len]; omega
    · simp
theorem unseal_seal (s : Str) : unsealI (sealOf s) = (s, 0) := by
  unfold unsealI
  rw [body_seal, if_neg (by rw [sealOf_len]; omega), if_pos rfl]
/-! ### numbers as bytes -/
/-- The zigzag number. -/
def zig (n : Int) : Nat := if n < 0 then (-2 * n - 1).toNat else (2 * n).toNat
/-- The groups of seven bits of a number, as bytes; f: a bound on their count. -/
def groups : Nat → Nat → List Int
  | 0, _ => []
  | f + 1, u => if 128 ≤ u then ((u % 128 + 128 : Nat) : Int) :: groups f (u / 128) else [(u : Int)]
def putOf (n : Int) : Str := listByte (groups 10 (zig n))
def Num (n : Int) : Prop := -9223372036854775808 ≤ n ∧ n < 9223372036854775808
theorem zig_lt {n : Int} (h : Num n) : zig n < 18446744073709551616 := by unfold Num at h; unfold zig; split <;> omega
theorem groups_len : ∀ (f u : Nat), (groups f u).length ≤ f
  | 0, _ => by simp [groups]
  | f + 1, u => by
    unfold groups
    split
    · simp only [List.length_cons]; have := groups_len f (u / 128); omega
    · simp
theorem listByte_len (l : List Int) : (listByte l).length = l.length := by simp [listByte]
theorem putOf_len (n : Int) : (putOf n).length ≤ 10 := by
  unfold putOf
  rw [listByte_len]
  exact groups_len 10 _
theorem putOf_pos (n : Int) : 1 ≤ (putOf n).length := by
  unfold putOf
  rw [listByte_len]
  unfold groups
  split <;> simp
def putTextOf (s : Str) : Str := putOf (s.length : Int) ++ s
theorem putTextOf_len (s : Str) : (putTextOf s).length ≤ 10 + s.length := by
  unfold putTextOf
  have := putOf_len (s.length : Int)
  rw [List.length_append]
  omega
/-! ### numbers, read back -/
def unz (u : Nat) : Int := if u % 2 = 1 then -((u / 2 : Nat) : Int) - 1 else ((u / 2 : Nat) : Int)
/-- A number's groups, read: the number, how many bytes, the code. -/
def gn : Nat → Nat → Nat → Str → Int × Nat × Int
  | 0, _, _, _ => (0, 0, 3)
  | _ + 1, _, _, [] => (0, 0, 4)
  | f + 1, i, u, b :: l => if i = 9 ∧ 1 < b.toNat then (0, 0, 3) else if 128 ≤ b.toNat then gn f (i + 1) (u + b.toNat % 128 * 128 ^ i) l else if b.toNat = 0 ∧ 0 < i then (0, 0, 3) else (unz (u + b.toNat % 128 * 128 ^ i), i + 1, 0)
/-- What the readers make of it: the number, the place behind it, the code. -/
def fin (a : Nat) (r : Int × Nat × Int) : Int × Int × Int := if r.2.2 = 0 then (r.1, ((a + r.2.1 : Nat) : Int), 0) else (0, 0, r.2.2)
def getNumZ (s : Str) (a : Nat) : Int × Int × Int := fin a (gn 10 0 0 (s.drop a))
theorem p128 (i : Nat) : (2 : Nat) ^ (7 * i) = 128 ^ i := by rw [Nat.pow_mul]
theorem step_lt {i u b : Nat} (_ : i ≤ 8) (hu : u < 128 ^ i) : u + b % 128 * 128 ^ i < 128 ^ (i + 1) := by
  have h1 : b % 128 ≤ 127 := by omega
  have h2 : b % 128 * 128 ^ i ≤ 127 * 128 ^ i := Nat.mul_le_mul_right _ h1
  rw [Nat.pow_succ]
  omega
theorem pow_le9 {i : Nat} (hi : i ≤ 9) : 128 ^ i ≤ 9223372036854775808 := by
  have : 128 ^ i ≤ 128 ^ 9 := Nat.pow_le_pow_right (by omega) hi
  simpa using this
theorem term_lt {i b : Nat} (hi : i ≤ 9) (h9 : i = 9 → b ≤ 1) : b % 128 * 128 ^ i < 18446744073709551616 := by
  by_cases h : i = 9
  · have := h9 h
    subst h
    have : b % 128 ≤ 1 := by omega
    have := Nat.mul_le_mul_right (128 ^ 9) this
    simp at this ⊢
    omega
  · have h1 : 128 ^ i ≤ 128 ^ 8 := Nat.pow_le_pow_right (by omega) (by omega)
    have h2 : b % 128 ≤ 127 := by omega
    have := Nat.mul_le_mul h2 h1
    simp at this
    omega
theorem sum_lt {i u b : Nat} (hi : i ≤ 9) (hu : u < 128 ^ i) (h9 : i = 9 → b ≤ 1) : u + b % 128 * 128 ^ i < 18446744073709551616 := by
  by_cases h : i = 9
  · have := h9 h
    subst h
    have h1 : b % 128 ≤ 1 := by omega
    have := Nat.mul_le_mul_right (128 ^ 9) h1
    simp at this hu ⊢
    omega
  · have h1 := step_lt (b := b) (show i ≤ 8 by omega) hu
    have h2 := pow_le9 (show i + 1 ≤ 9 by omega)
    omega
theorem shl_eq {i b : Nat} (hi : i ≤ 9) (h9 : i = 9 → b ≤ 1) : shl .u64 ((b % 128 : Nat) : Int) ((7 * i : Nat) : Int) = ((b % 128 * 128 ^ i : Nat) : Int) := by
  unfold shl
  rw [Int.toNat_natCast, Nat.min_eq_left (by simp [IntKind.bits]; omega), u64w]
  have e : ((b % 128 : Nat) : Int) * 2 ^ (7 * i) = ((b % 128 * 128 ^ i : Nat) : Int) := by rw [← p128]; push_cast; rfl
  rw [e]
  have := term_lt hi h9
  omega
theorem or_sum {i u b : Nat} (hu : u < 128 ^ i) : u ||| (b % 128 * 128 ^ i) = u + b % 128 * 128 ^ i := by
  have h := @Nat.shiftLeft_add_eq_or_of_lt (7 * i) u (by rw [p128]; exact hu) (b % 128)
  rw [Nat.shiftLeft_eq, p128] at h
  rw [Nat.or_comm, ← h, Nat.add_comm]
theorem zig_unz (v : Nat) : zig (unz v) = v := by
  unfold unz
  split
  · unfold zig; split <;> omega
  · unfold zig; split <;> omega
theorem unz_zig (n : Int) : unz (zig n) = n := by
  unfold zig
  split
  · unfold unz; split <;> omega
  · unfold unz; split <;> omega
theorem unz_range {v : Nat} (h : v < 18446744073709551616) : Num (unz v) := by
  unfold Num unz
  split <;> omega
theorem gn_canon : ∀ (f i u : Nat) (l : Str), i + f = 10 → i ≤ 9 → u < 128 ^ i → (gn f i u l).2.2 = 0 →
    ∃ v, gn f i u l = (unz (u + v * 128 ^ i), i + (groups f v).length, 0) ∧ l = listByte (groups f v) ++ l.drop (groups f v).length ∧ u + v * 128 ^ i < 18446744073709551616 ∧ (0 < i → v ≠ 0)
  | 0, i, u, l, hf, h9, _, _ => by omega
  | f + 1, i, u, [], hf, h9, hu, h0 => by simp [gn] at h0
  | f + 1, i, u, c :: l, hf, hi9, hu, h0 => by
    have hb := byte_lt c
    have hbc := byte_of c
    simp only [gn] at h0 ⊢
    generalize hcb : c.toNat = b at h0 hb hbc ⊢
    by_cases h9 : i = 9 ∧ 1 < b
    · rw [if_pos h9] at h0; simp at h0
    rw [if_neg h9] at h0 ⊢
    have hb9 : i = 9 → b ≤ 1 := fun h => by
      rcases Nat.lt_or_ge 1 b with h1 | h1
      · exact absurd ⟨h, h1⟩ h9
      · exact h1
    by_cases h128 : 128 ≤ b
    · have hi8 : i ≤ 8 := by
        by_cases h : i = 9
        · have := hb9 h; omega
        · omega
      rw [if_pos h128] at h0 ⊢
      obtain ⟨v, e1, e2, e3, e4⟩ := gn_canon f (i + 1) (u + b % 128 * 128 ^ i) l (by omega) (by omega) (step_lt hi8 hu) h0
      have hv := e4 (by omega)
      have hs : u + b % 128 * 128 ^ i + v * 128 ^ (i + 1) = u + (b % 128 + 128 * v) * 128 ^ i := by
        rw [Nat.pow_succ, Nat.add_mul, Nat.mul_comm (128 ^ i) 128, ← Nat.mul_assoc, Nat.mul_comm v 128, Nat.add_assoc]
      have hg : groups (f + 1) (b % 128 + 128 * v) = (b : Int) :: groups f v := by
        have h1 : 128 ≤ b % 128 + 128 * v := by omega
        have h2 : (b % 128 + 128 * v) / 128 = v := by omega
        have h3 : (b % 128 + 128 * v) % 128 + 128 = b := by omega
        simp only [groups, if_pos h1, h2, h3]
      refine ⟨b % 128 + 128 * v, ?_, ?_, ?_, ?_⟩
      · rw [e1, hs, hg, List.length_cons, Nat.add_assoc, Nat.add_comm 1]
      · rw [hg]
        show c :: l = UInt8.ofNat ((b : Nat) : Int).toNat :: (listByte (groups f v) ++ l.drop (groups f v).length)
        rw [hbc, ← e2]
      · rw [← hs]; exact e3
      · intro _; omega
    · rw [if_neg h128] at h0 ⊢
      by_cases hz : b = 0 ∧ 0 < i
      · rw [if_pos hz] at h0; simp at h0
      rw [if_neg hz] at h0 ⊢
      have hm : b % 128 = b := by omega
      have hsl := sum_lt (b := b) hi9 hu hb9
      rw [hm] at hsl ⊢
      have hg : groups (f + 1) b = [(b : Int)] := by simp only [groups, if_neg h128]
      refine ⟨b, ?_, ?_, hsl, ?_⟩
      · rw [hg]; rfl
      · rw [hg]
        show c :: l = UInt8.ofNat ((b : Nat) : Int).toNat :: l
        rw [hbc]
      · intro hi hb0; exact hz ⟨hb0, hi⟩
/-- At a stands the encoding of n, and it ends at a'. -/
structure Got (s : Str) (a : Nat) (n : Int) (a' : Nat) : Prop where
  at' : a' = a + (putOf n).length
  le : a' ≤ s.length
  eq : s.drop a = putOf n ++ s.drop a'
  range : Num n
theorem num_cases (s : Str) (a : Nat) : (∃ (n : Int) (a' : Nat), getNumZ s a = (n, (a' : Int), 0) ∧ Got s a n a') ∨ ∃ c, c ≠ 0 ∧ getNumZ s a = (0, 0, c) := by
  unfold getNumZ fin
  by_cases h : (gn 10 0 0 (s.drop a)).2.2 = 0
  · left
    obtain ⟨v, e1, e2, e3, _⟩ := gn_canon 10 0 0 (s.drop a) (by omega) (by omega) (by omega) h
    simp only [Nat.pow_zero, Nat.mul_one, Nat.zero_add] at e1 e3
    have hB : putOf (unz v) = listByte (groups 10 v) := by unfold putOf; rw [zig_unz]
    have hsz : (putOf (unz v)).length = (groups 10 v).length := by rw [hB, listByte_len]
    refine ⟨unz v, a + (putOf (unz v)).length, ?_, rfl, ?_, ?_, unz_range e3⟩
    · rw [e1, hsz]
      rfl
    · have := congrArg List.length e2
      simp only [List.length_append, listByte_len, List.length_drop] at this
      have hp : 0 < (groups 10 v).length := by unfold groups; split <;> simp
      omega
    · rw [hsz, ← List.drop_drop, hB]
      exact e2
  · right
    exact ⟨_, h, by rw [if_neg h]⟩
/-- What was encoded is read back, whatever follows. -/
theorem gn_put : ∀ (f i u v : Nat) (l : Str), i + f = 10 → i ≤ 9 → v < 128 ^ f → u + v * 128 ^ i < 18446744073709551616 → (0 < i → v ≠ 0) → gn f i u (listByte (groups f v) ++ l) = (unz (u + v * 128 ^ i), i + (groups f v).length, 0)
  | 0, i, u, v, l, hf, h9, _, _, _ => by omega
  | f + 1, i, u, v, l, hf, hi9, hv, hb, hz => by
    have h9' : i = 9 → v ≤ 1 := fun h => by subst h; simp at hb; omega
    by_cases h128 : 128 ≤ v
    · have hi8 : i ≤ 8 := by
        by_cases h : i = 9
        · have := h9' h; omega
        · omega
      have hg : groups (f + 1) v = ((v % 128 + 128 : Nat) : Int) :: groups f (v / 128) := by simp only [groups, if_pos h128]
      have ht : (UInt8.ofNat (((v % 128 + 128 : Nat) : Int)).toNat).toNat = v % 128 + 128 := by
        rw [Int.toNat_natCast, UInt8.toNat_ofNat']
        omega
      rw [hg]
      show gn (f + 1) i u (UInt8.ofNat (((v % 128 + 128 : Nat) : Int)).toNat :: (listByte (groups f (v / 128)) ++ l)) = _
      simp only [gn]
      rw [ht, if_neg (by omega), if_pos (by omega)]
      have hs : u + (v % 128 + 128) % 128 * 128 ^ i + v / 128 * 128 ^ (i + 1) = u + v * 128 ^ i := by
        have e : (v % 128 + 128) % 128 = v % 128 := by omega
        have e2 : v % 128 * 128 ^ i + v / 128 * (128 * 128 ^ i) = v * 128 ^ i := by
          rw [← Nat.mul_assoc, ← Nat.add_mul]
          congr 1
          omega
        rw [e, Nat.pow_succ, Nat.mul_comm (128 ^ i) 128, Nat.add_assoc, e2]
      rw [gn_put f (i + 1) _ (v / 128) l (by omega) (by omega) (by rw [Nat.pow_succ] at hv; exact Nat.div_lt_of_lt_mul (by rw [Nat.mul_comm]; exact hv)) (by rw [hs]; exact hb) (fun _ => by omega), hs]
      simp only [List.length_cons, Prod.mk.injEq, and_true, true_and]
      omega
    · have hg : groups (f + 1) v = [(v : Int)] := by simp only [groups, if_neg h128]
      have ht : (UInt8.ofNat ((v : Int)).toNat).toNat = v := by
        rw [Int.toNat_natCast, UInt8.toNat_ofNat']
        omega
      rw [hg]
      show gn (f + 1) i u (UInt8.ofNat ((v : Int)).toNat :: l) = _
      simp only [gn]
      rw [ht, if_neg (fun q => by have := h9' q.1; omega), if_neg h128, if_neg (fun q => hz q.2 q.1), Nat.mod_eq_of_lt (by omega)]
      rfl
theorem get_put (n : Int) (h : Num n) (s : Str) (a : Nat) (t : Str) (hs : s.drop a = putOf n ++ t) : getNumZ s a = (n, ((a + (putOf n).length : Nat) : Int), 0) := by
  unfold getNumZ
  have hz := zig_lt h
  rw [hs]
  unfold putOf
  rw [gn_put 10 0 0 (zig n) t rfl (by omega) (by omega) (by omega) (fun q => absurd q (by omega))]
  simp only [Nat.pow_zero, Nat.mul_one, Nat.zero_add, unz_zig, listByte_len]
  rfl
/-! ### texts, read back -/
def getTextZ (s : Str) (a : Nat) : Str × Int × Int :=
  if (getNumZ s a).2.2 = 0 then
    if 0 ≤ (getNumZ s a).1 ∧ (getNumZ s a).1 ≤ 8000 then
      if (getNumZ s a).1 > (s.length : Int) - (getNumZ s a).2.1 then ([], 0, 4)
      else ((s.take ((getNumZ s a).2.1 + (getNumZ s a).1).toNat).drop (getNumZ s a).2.1.toNat, (getNumZ s a).2.1 + (getNumZ s a).1, 0)
    else ([], 0, 3)
  else ([], 0, (getNumZ s a).2.2)
/-- At a stands the encoding of the text t, and it ends at a'. -/
structure GotT (s : Str) (a : Nat) (t : Str) (a' : Nat) : Prop where
  at' : a' = a + (putTextOf t).length
  le : a' ≤ s.length
  eq : s.drop a = putTextOf t ++ s.drop a'
  size : t.length ≤ 8000
theorem text_cases (s : Str) (a : Nat) : (∃ t a', getTextZ s a = (t, ((a' : Nat) : Int), 0) ∧ GotT s a t a') ∨ ∃ c, c ≠ 0 ∧ getTextZ s a = ([], 0, c) := by
  unfold getTextZ
  rcases num_cases s a with ⟨n, a', e, g⟩ | ⟨c, hc, e⟩
  · rw [e]
    simp only [if_true]
    by_cases hn : 0 ≤ n ∧ n ≤ 8000
    · rw [if_pos hn]
      have hle := g.le
      by_cases hs : n > (s.length : Int) - (a' : Int)
      · rw [if_pos hs]
        exact .inr ⟨4, by omega, rfl⟩
      · rw [if_neg hs]
        obtain ⟨m, rfl⟩ : ∃ m : Nat, n = (m : Int) := ⟨n.toNat, by omega⟩
        have e1 : ((a' : Int) + (m : Int)).toNat = a' + m := by omega
        rw [e1, Int.toNat_natCast]
        have hB : (s.take (a' + m)).drop a' = (s.drop a').take m := by
          rw [List.drop_take, Nat.add_sub_cancel_left]
        have hsz : ((s.take (a' + m)).drop a').length = m := by
          rw [hB, List.length_take, List.length_drop]
          omega
        refine .inl ⟨_, a' + m, by push_cast; rfl, ?_, ?_, ?_, ?_⟩
        · unfold putTextOf
          rw [List.length_append, hsz]
          have := g.at'
          omega
        · omega
        · unfold putTextOf
          rw [hsz, hB, g.eq, List.append_assoc, ← List.drop_drop, List.take_append_drop]
        · rw [hsz]; omega
    · rw [if_neg hn]
      exact .inr ⟨3, by omega, rfl⟩
  · rw [e]
    simp only
    rw [if_neg hc]
    exact .inr ⟨c, hc, rfl⟩
/-- One number, read: the number, the place, whether it failed. -/
def numR (s : Str) (a : Nat) : Int × Str × Int × Bool := if (getNumZ s a).2.2 = 0 then ((getNumZ s a).1, s, (getNumZ s a).2.1, false) else (0, s, (a : Int), true)
theorem numR_cases (s : Str) (a : Nat) : (∃ n a', numR s a = (n, s, ((a' : Nat) : Int), false) ∧ Got s a n a') ∨ numR s a = (0, s, (a : Int), true) := by
  unfold numR
  rcases num_cases s a with ⟨n, a', e, g⟩ | ⟨c, hc, e⟩
  · left; exact ⟨n, a', by rw [e]; rfl, g⟩
  · right; rw [e, if_neg hc]
/-- One text, read: the text, the place, whether it failed. -/
def textR (s : Str) (a : Nat) : Str × Str × Int × Bool := if (getTextZ s a).2.2 = 0 then ((getTextZ s a).1, s, (getTextZ s a).2.1, false) else ([], s, (a : Int), true)
theorem textR_cases (s : Str) (a : Nat) : (∃ t a', textR s a = (t, s, ((a' : Nat) : Int), false) ∧ GotT s a t a') ∨ textR s a = ([], s, (a : Int), true) := by
  unfold textR
  rcases text_cases s a with ⟨n, a', e, g⟩ | ⟨c, hc, e⟩
  · left; exact ⟨n, a', by rw [e]; rfl, g⟩
  · right; rw [e, if_neg hc]
end Go.Proofs.YtaajcllchbnjiaaDoorE

namespace Go.Proofs.YtaajcllchbnjiaaDoorE
open Go
set_option linter.unusedVariables false
theorem loop_inv {S R : Type} (L : Nat → S → Option R) (m : S → Nat) (I : S → Prop) (Q : R → Prop) (step : ∀ s, I s → (∃ r, (∀ j, L (j + 1) s = some r) ∧ Q r) ∨ ∃ s', I s' ∧ m s' < m s ∧ ∀ j, L (j + 1) s = L j s') : ∀ (n : Nat) (s : S) (j : Nat), I s → m s ≤ n → n < j → ∃ r, L j s = some r ∧ Q r := by
  intro n
  induction n with
  | zero =>
    intro s j hi hm hj
    obtain ⟨j, rfl⟩ : ∃ q, j = q + 1 := ⟨j - 1, by omega⟩
    rcases step s hi with ⟨r, hr, hq⟩ | ⟨s', _, hm', _⟩
    · exact ⟨r, hr j, hq⟩
    · omega
  | succ n ih =>
    intro s j hi hm hj
    obtain ⟨j, rfl⟩ : ∃ q, j = q + 1 := ⟨j - 1, by omega⟩
    rcases step s hi with ⟨r, hr, hq⟩ | ⟨s', hi', hm', hs⟩
    · exact ⟨r, hr j, hq⟩
    · rw [hs j]
      exact ih s' j hi' (by omega) (by omega)
/-- The same, whatever the fuel. -/
theorem loop_uni {S R : Type} (L : Nat → S → Option R) (m : S → Nat) (I : S → Prop) (Q : R → Prop) (step : ∀ s, I s → (∃ r, (∀ j, L (j + 1) s = some r) ∧ Q r) ∨ ∃ s', I s' ∧ m s' < m s ∧ ∀ j, L (j + 1) s = L j s') : ∀ (n : Nat) (s : S), I s → m s ≤ n → ∃ r, Q r ∧ ∀ j, n < j → L j s = some r := by
  intro n
  induction n with
  | zero =>
    intro s hi hm
    rcases step s hi with ⟨r, hr, hq⟩ | ⟨s', _, hm', _⟩
    · refine ⟨r, hq, fun j hj => ?_⟩
      obtain ⟨j, rfl⟩ : ∃ q, j = q + 1 := ⟨j - 1, by omega⟩
      exact hr j
    · omega
  | succ n ih =>
    intro s hi hm
    rcases step s hi with ⟨r, hr, hq⟩ | ⟨s', hi', hm', hs⟩
    · refine ⟨r, hq, fun j hj => ?_⟩
      obtain ⟨j, rfl⟩ : ∃ q, j = q + 1 := ⟨j - 1, by omega⟩
      exact hr j
    · obtain ⟨r, hq, hr⟩ := ih s' hi' (by omega)
      refine ⟨r, hq, fun j hj => ?_⟩
      obtain ⟨j, rfl⟩ : ∃ q, j = q + 1 := ⟨j - 1, by omega⟩
      rw [hs j]
      exact hr j (by omega)
theorem at_in {α : Type} {l : List α} {i : Int} (h : 0 ≤ i) (h2 : i < (l.length : Int)) : ∃ x, at? l i = some x ∧ x ∈ l := by
  obtain ⟨n, rfl⟩ : ∃ n : Nat, i = (n : Int) := ⟨i.toNat, by omega⟩
  exact ⟨l[n]'(by omega), at_nat (by omega), List.getElem_mem _⟩
theorem wid {n : Int} (h0 : 0 ≤ n) (h1 : n < 9223372036854775808) : IntKind.wrap .i64 n = n := w64 (by omega) h1
theorem wuid {n : Int} (h0 : 0 ≤ n) (h1 : n < 18446744073709551616) : IntKind.wrap .u64 n = n := by rw [u64w]; omega
theorem cut_in {α : Type} {l : List α} {i j : Int} (h0 : 0 ≤ i) (h1 : i ≤ j) (h2 : j ≤ (l.length : Int)) : ∃ t, cut? l i j = some t ∧ (t.length : Int) = j - i := by
  obtain ⟨a, rfl⟩ : ∃ n : Nat, i = (n : Int) := ⟨i.toNat, by omega⟩
  obtain ⟨b, rfl⟩ : ∃ n : Nat, j = (n : Int) := ⟨j.toNat, by omega⟩
  refine ⟨_, cut_ok (by omega) (by omega), ?_⟩
  rw [List.length_drop, List.length_take]
  omega
end Go.Proofs.YtaajcllchbnjiaaDoorE

namespace Go.Proofs.YtaajcllchbnjiaaDoorE
open Go
set_option linter.unusedVariables false
/-- From some fuel on it comes to one value, of which Q is known. -/
def Ev {α : Type} (f : Nat → Option α) (Q : α → Prop) : Prop := ∃ p, Q p ∧ Ever fun k => f k = some p
theorem Ev.bind {α β : Type} {f : Nat → Option α} {g : Nat → α → Option β} {Q : α → Prop} {R : β → Prop} (h : Ev f Q) (k : ∀ p, Q p → Ev (fun k => g k p) R) : Ev (fun k => (f k).bind (g k)) R := by
  obtain ⟨p, hp, e⟩ := h
  obtain ⟨q, hq, e2⟩ := k p hp
  exact ⟨q, hq, (e.and e2).mono fun k h => (congrArg (fun z => Option.bind z (g k)) h.1).trans h.2⟩
theorem Ev.ret {α : Type} {p : α} {Q : α → Prop} (h : Q p) : Ev (fun _ => some p) Q := ⟨p, h, Ever.of fun _ => rfl⟩
theorem Ev.of {α : Type} {x : Option α} {Q : α → Prop} (h : ∃ p, x = some p ∧ Q p) : Ev (fun _ => x) Q := by
  obtain ⟨p, e, h⟩ := h
  exact ⟨p, h, Ever.of fun _ => e⟩
theorem Ev.ever {α : Type} {f : Nat → Option α} {p : α} {Q : α → Prop} (h : Ever fun k => f k = some p) (q : Q p) : Ev f Q := ⟨p, q, h⟩
theorem Ev.mono {α : Type} {f : Nat → Option α} {Q R : α → Prop} (h : Ev f Q) (k : ∀ p, Q p → R p) : Ev f R := by
  obtain ⟨p, hp, e⟩ := h
  exact ⟨p, k p hp, e⟩
theorem Ev.cond {α : Type} {b : Bool} {f g : Nat → Option α} {Q : α → Prop} (h1 : b = true → Ev f Q) (h2 : b = false → Ev g Q) : Ev (fun k => bif b then f k else g k) Q := by
  cases b with
  | true => exact h1 rfl
  | false => exact h2 rfl
/-- A bind that surely has its value. -/
theorem Ev.bnd {α β : Type} {x : Option α} {g : Nat → α → Option β} {R : β → Prop} {p : α} (h : x = some p) (k : Ev (fun k => g k p) R) : Ev (fun k => x.bind (g k)) R := by
  rw [h]
  exact k
theorem loop_ev {S R : Type} (L : Nat → Nat → S → Option R) (m : S → Nat) (I : S → Prop) (Q : R → Prop) (step : ∀ s, I s → (∃ r, (Ever fun k => ∀ j, L k (j + 1) s = some r) ∧ Q r) ∨ ∃ s', I s' ∧ m s' < m s ∧ Ever fun k => ∀ j, L k (j + 1) s = L k j s') : ∀ (n : Nat) (s : S), I s → m s ≤ n → ∃ r, Q r ∧ Ever fun k => ∀ j, n < j → L k j s = some r := by
  intro n
  induction n with
  | zero =>
    intro s hi hm
    rcases step s hi with ⟨r, hr, hq⟩ | ⟨s', _, hm', _⟩
    · refine ⟨r, hq, hr.mono fun k hr j hj => ?_⟩
      obtain ⟨j, rfl⟩ : ∃ q, j = q + 1 := ⟨j - 1, by omega⟩
      exact hr j
    · omega
  | succ n ih =>
    intro s hi hm
    rcases step s hi with ⟨r, hr, hq⟩ | ⟨s', hi', hm', hs⟩
    · refine ⟨r, hq, hr.mono fun k hr j hj => ?_⟩
      obtain ⟨j, rfl⟩ : ∃ q, j = q + 1 := ⟨j - 1, by omega⟩
      exact hr j
    · obtain ⟨r, hq, hr⟩ := ih s' hi' (by omega)
      refine ⟨r, hq, (hr.and hs).mono fun k h j hj => ?_⟩
      obtain ⟨j, rfl⟩ : ∃ q, j = q + 1 := ⟨j - 1, by omega⟩
      rw [h.2 j]
      exact h.1 j (by omega)
theorem Ev.loop {S R : Type} (L : Nat → Nat → S → Option R) (m : S → Nat) (I : S → Prop) (Q : R → Prop) (s : S) (hs : I s) (step : ∀ s, I s → (∃ r, (Ever fun k => ∀ j, L k (j + 1) s = some r) ∧ Q r) ∨ ∃ s', I s' ∧ m s' < m s ∧ Ever fun k => ∀ j, L k (j + 1) s = L k j s') : Ev (fun k => L k k s) Q := by
  obtain ⟨r, hq, K, h⟩ := loop_ev L m I Q step (m s) s hs (Nat.le_refl _)
  exact ⟨r, hq, K + m s + 1, fun k hk => h k (by omega) k (by omega)⟩
end Go.Proofs.YtaajcllchbnjiaaDoorE

namespace Go.Proofs.YtaajcllchbnjiaaDoorE
open Go
set_option linter.unusedVariables false
abbrev DirtyT := Int × Str
abbrev FlashT := List Str × List DirtyT
abbrev MachT := Int × FlashT
theorem szLoop_ev {α : Type} (L : Nat → Int → Int → Option (Int ⊕ Int)) (l : List α) (len : α → Nat) (n : Int) (h0 : 0 ≤ n)
    (hs : ∀ i, (h : i < l.length) → ∀ s, 0 ≤ s → s ≤ n → ∀ j, L (j + 1) s (i : Int) = if s < (len l[i] : Int) then some (.inr (-1)) else L j (s - (len l[i] : Int)) ((i + 1 : Nat) : Int))
    (he : ∀ s j, L (j + 1) s (l.length : Int) = some (.inl s)) : Ev (fun k => L k n 0) fun r => (∃ v, r = .inl v ∧ 0 ≤ v ∧ v ≤ n ∧ ∀ x ∈ l, (len x : Int) ≤ n) ∨ r = .inr (-1) := by
  refine Ev.loop (fun k j (z : Int × Nat) => L j z.1 (z.2 : Int)) (fun z => l.length - z.2) (fun z => 0 ≤ z.1 ∧ z.1 ≤ n ∧ z.2 ≤ l.length ∧ ∀ x ∈ l.take z.2, (len x : Int) ≤ n) _ (n, 0) ⟨h0, Int.le_refl _, Nat.zero_le _, fun x hx => by simp at hx⟩ ?_
  rintro ⟨s, i⟩ ⟨q0, q1, q2, q3⟩
  have q0 : 0 ≤ s := q0
  have q1 : s ≤ n := q1
  have q2 : i ≤ l.length := q2
  by_cases hi : i < l.length
  · by_cases hb : s < (len l[i] : Int)
    · left
      refine ⟨.inr (-1), Ever.of fun k j => ?_, .inr rfl⟩
      show L (j + 1) s (i : Int) = _
      rw [hs i hi s q0 q1, if_pos hb]
    · right
      refine ⟨(s - (len l[i] : Int), i + 1), ⟨by show 0 ≤ s - _; omega, by show s - _ ≤ n; omega, hi, fun x hx => ?_⟩, by show l.length - (i + 1) < l.length - i; omega, Ever.of fun k j => ?_⟩
      · have hx : x ∈ l.take (i + 1) := hx
        rw [take_succ' hi] at hx
        rcases List.mem_append.1 hx with hx | hx
        · exact q3 x hx
        · rw [List.mem_singleton.1 hx]; omega
      · show L (j + 1) s (i : Int) = L j (s - (len l[i] : Int)) ((i + 1 : Nat) : Int)
        rw [hs i hi s q0 q1, if_neg hb]
  · left
    obtain rfl : i = l.length := by omega
    refine ⟨.inl s, Ever.of fun k j => he s j, .inl ⟨s, rfl, q0, q1, fun x hx => q3 x (by rw [List.take_length]; exact hx)⟩⟩
theorem szStringS_ev (l : List Str) (n : Int) (hl : l.length ≤ 140737488351232) (hx : ∀ x ∈ l, x.length ≤ 140737488351232) (h0 : 0 ≤ n) (h1 : n ≤ 1048576) : Ev (fun k => laws_szStringS k l n) fun v => v ≤ n ∧ (0 ≤ v → (l.length : Int) ≤ n ∧ ∀ x ∈ l, (x.length : Int) ≤ n) := by
  unfold laws_szStringS
  rw [w64 (n := n - (l.length : Int)) (by omega) (by omega)]
  refine Ev.cond (fun h => Ev.ret ⟨by omega, fun h => by omega⟩) fun h => ?_
  have h : 0 ≤ n - (l.length : Int) := by simpa using h
  refine Ev.bind (szLoop_ev (fun j s i => laws_szStringS.l0 j l s i) l List.length (n - (l.length : Int)) h (fun i hi s s0 s1 j => ?_) fun s j => ?_) fun r hr => ?_
  · show laws_szStringS.l0 (j + 1) l s (i : Int) = _
    have hb := hx _ (List.getElem_mem hi)
    rw [laws_szStringS.l0, dlt hi, at_nat hi, wsuc (by omega), ]
    simp only [cond_true, Option.bind_some]
    rw [w64 (n := s - ((l[i]).length : Int)) (by omega) (by omega)]
    by_cases hc : s < ((l[i]).length : Int)
    · rw [if_pos hc, decide_eq_true (by omega : s - ((l[i]).length : Int) < 0)]; rfl
    · rw [if_neg hc, decide_eq_false (by omega : ¬ (s - ((l[i]).length : Int) < 0))]; rfl
  · show laws_szStringS.l0 (j + 1) l s (l.length : Int) = _
    unfold laws_szStringS.l0
    rw [dnlt (Nat.le_refl _)]
    rfl
  · rcases hr with ⟨v, rfl, v0, v1, v2⟩ | rfl
    · exact Ev.ret ⟨by omega, fun _ => ⟨by omega, fun x hx => by have := v2 x hx; omega⟩⟩
    · exact Ev.ret ⟨by omega, fun h => by omega⟩
theorem szDirtyS_ev (l : List DirtyT) (n : Int) (hl : l.length ≤ 140737488351232) (hx : ∀ x ∈ l, x.2.length ≤ 140737488351232) (h0 : 0 ≤ n) (h1 : n ≤ 1048576) : Ev (fun k => laws_szDirtyS k l n) fun v => v ≤ n ∧ (0 ≤ v → (l.length : Int) ≤ n ∧ ∀ x ∈ l, (x.2.length : Int) ≤ n) := by
  unfold laws_szDirtyS
  rw [w64 (n := n - (l.length : Int)) (by omega) (by omega)]
  refine Ev.cond (fun h => Ev.ret ⟨by omega, fun h => by omega⟩) fun h => ?_
  have h : 0 ≤ n - (l.length : Int) := by simpa using h
  refine Ev.bind (szLoop_ev (fun j s i => laws_szDirtyS.l0 j l s i) l (fun x => x.2.length) (n - (l.length : Int)) h (fun i hi s s0 s1 j => ?_) fun s j => ?_) fun r hr => ?_
  · show laws_szDirtyS.l0 (j + 1) l s (i : Int) = _
    have hb := hx _ (List.getElem_mem hi)
    have e : laws_szDirty l[i] s = some (if s < ((l[i]).2.length : Int) then -1 else s - ((l[i]).2.length : Int)) := by
      unfold laws_szDirty
      rw [w64 (n := s - ((l[i]).2.length : Int)) (by omega) (by omega)]
      dsimp only
      by_cases hc : s < ((l[i]).2.length : Int)
      · rw [if_pos hc, decide_eq_true (by omega : s - ((l[i]).2.length : Int) < 0)]; rfl
      · rw [if_neg hc, decide_eq_false (by omega : ¬ (s - ((l[i]).2.length : Int) < 0))]; rfl
    rw [laws_szDirtyS.l0, dlt hi, at_nat hi, wsuc (by omega)]
    simp only [cond_true, Option.bind_some]
    rw [e]
    simp only [Option.bind_some]
    by_cases hc : s < ((l[i]).2.length : Int)
    · rw [if_pos hc, if_pos hc]; rfl
    · rw [if_neg hc, if_neg hc, decide_eq_false (by omega : ¬ (s - ((l[i]).2.length : Int) < 0))]; rfl
  · show laws_szDirtyS.l0 (j + 1) l s (l.length : Int) = _
    unfold laws_szDirtyS.l0
    rw [dnlt (Nat.le_refl _)]
    rfl
  · rcases hr with ⟨v, rfl, v0, v1, v2⟩ | rfl
    · exact Ev.ret ⟨by omega, fun _ => ⟨by omega, fun x hx => by have := v2 x hx; omega⟩⟩
    · exact Ev.ret ⟨by omega, fun h => by omega⟩
def FlashBig (f : FlashT) : Prop := (f.1.length ≤ 140737488351232 ∧ ∀ x ∈ f.1, x.length ≤ 140737488351232) ∧ f.2.length ≤ 140737488351232 ∧ ∀ x ∈ f.2, x.2.length ≤ 140737488351232
def FlashFit (f : FlashT) (n : Int) : Prop := ((f.1.length : Int) ≤ n ∧ ∀ x ∈ f.1, (x.length : Int) ≤ n) ∧ (f.2.length : Int) ≤ n ∧ ∀ x ∈ f.2, (x.2.length : Int) ≤ n
theorem szFlash_ev (f : FlashT) (n : Int) (hb : FlashBig f) (h0 : 0 ≤ n) (h1 : n ≤ 1048576) : Ev (fun k => laws_szFlash k f n) fun v => v ≤ n ∧ (0 ≤ v → FlashFit f n) := by
  unfold laws_szFlash
  refine Ev.bind (szStringS_ev f.1 n hb.1.1 hb.1.2 h0 h1) fun v hv => Ev.cond (fun _ => Ev.ret ⟨by omega, fun h => by omega⟩) fun hc => ?_
  have hc : 0 ≤ v := by simpa using hc
  refine Ev.bind (szDirtyS_ev f.2 v hb.2.1 hb.2.2 hc (by omega)) fun u hu => Ev.cond (fun _ => Ev.ret ⟨by omega, fun h => by omega⟩) fun hd => Ev.ret ⟨by omega, fun hu0 => ?_⟩
  obtain ⟨a1, a2⟩ := hv.2 hc
  obtain ⟨b1, b2⟩ := hu.2 hu0
  exact ⟨⟨a1, a2⟩, by omega, fun x hx => by have := b2 x hx; omega⟩
theorem szMachine_ev (m : MachT) (n : Int) (hb : FlashBig m.2) (h0 : 0 ≤ n) (h1 : n ≤ 1048576) : Ev (fun k => laws_szMachine k m n) fun v => v ≤ n ∧ (0 ≤ v → FlashFit m.2 n) := by
  unfold laws_szMachine
  exact Ev.bind (szFlash_ev m.2 n hb h0 h1) fun v hv => Ev.cond (fun _ => Ev.ret ⟨by omega, fun h => by omega⟩) fun _ => Ev.ret hv
theorem szInt64S_eq (l : List Int) (n : Int) (hl : l.length ≤ 140737488351232) (h0 : 0 ≤ n) (h1 : n ≤ 1048576) : ∃ v, laws_szInt64S l n = some v ∧ v ≤ n ∧ (0 ≤ v → (l.length : Int) ≤ n) := by
  unfold laws_szInt64S
  rw [w64 (n := n - (l.length : Int)) (by omega) (by omega)]
  dsimp only
  by_cases hc : n - (l.length : Int) < 0
  · rw [decide_eq_true hc]; exact ⟨-1, rfl, by omega, fun h => by omega⟩
  · rw [decide_eq_false hc]; exact ⟨_, rfl, by omega, fun h => by omega⟩
/-! ### copies -/
theorem toStringS_eq (l : List Str) (hl : l.length ≤ 1048576) : Ever fun k => laws_toStringS k l = some l := by
  refine Ever.ge (l.length + 1) fun k hk => ?_
  unfold laws_toStringS
  rw [make_some (by omega)]
  simp only [Option.bind_some]
  rw [copy_loop (fun j i c => laws_toStringS.l0 j l i c) l ([] : Str) (fun i hi c hc j => by
    show laws_toStringS.l0 (j + 1) l (i : Int) c = _
    rw [laws_toStringS.l0, dlt hi, at_nat hi, at_nat (by omega : i < c.length), wsuc (by omega)]
    rfl) (fun c j => by
    show laws_toStringS.l0 (j + 1) l (l.length : Int) c = _
    unfold laws_toStringS.l0
    rw [dnlt (Nat.le_refl _)]
    rfl) (k := k) (by omega)]
  rfl
theorem toDirtyS_eq (l : List DirtyT) (hl : l.length ≤ 1048576) : Ever fun k => laws_toDirtyS k l = some l := by
  refine Ever.ge (l.length + 1) fun k hk => ?_
  unfold laws_toDirtyS
  rw [make_some (by omega)]
  simp only [Option.bind_some]
  rw [copy_loop (fun j i c => laws_toDirtyS.l0 j l i c) l ((0, []) : DirtyT) (fun i hi c hc j => by
    show laws_toDirtyS.l0 (j + 1) l (i : Int) c = _
    rw [laws_toDirtyS.l0, dlt hi, at_nat hi, at_nat (by omega : i < c.length), wsuc (by omega)]
    rfl) (fun c j => by
    show laws_toDirtyS.l0 (j + 1) l (l.length : Int) c = _
    unfold laws_toDirtyS.l0
    rw [dnlt (Nat.le_refl _)]
    rfl) (k := k) (by omega)]
  rfl
theorem toInt64S_eq (l : List Int) (hl : l.length ≤ 1048576) : Ever fun k => laws_toInt64S k l = some l := by
  refine Ever.ge (l.length + 1) fun k hk => ?_
  unfold laws_toInt64S
  rw [make_some (by omega)]
  simp only [Option.bind_some]
  rw [copy_loop (fun j i c => laws_toInt64S.l0 j l i c) l (0 : Int) (fun i hi c hc j => by
    show laws_toInt64S.l0 (j + 1) l (i : Int) c = _
    rw [laws_toInt64S.l0, dlt hi, at_nat hi, at_nat (by omega : i < c.length), wsuc (by omega)]
    rfl) (fun c j => by
    show laws_toInt64S.l0 (j + 1) l (l.length : Int) c = _
    unfold laws_toInt64S.l0
    rw [dnlt (Nat.le_refl _)]
    rfl) (k := k) (by omega)]
  rfl
theorem toFlash_eq (f : FlashT) (n : Int) (hf : FlashFit f n) (hn : n ≤ 1048576) : Ever fun k => laws_toFlash k f = some f := by
  have h1 := hf.1.1
  have h2 := hf.2.1
  refine ((toStringS_eq f.1 (by omega)).and (toDirtyS_eq f.2 (by omega))).mono fun k ⟨e1, e2⟩ => ?_
  unfold laws_toFlash
  rw [e1, e2]
  rfl
theorem toMachine_eq (m : MachT) (n : Int) (hf : FlashFit m.2 n) (hn : n ≤ 1048576) : Ever fun k => laws_toMachine k m = some m := by
  refine (toFlash_eq m.2 n hf hn).mono fun k e => ?_
  unfold laws_toMachine
  rw [e]
  rfl
/-! ### comparisons -/
theorem eqStringS_refl (l : List Str) (hl : l.length ≤ 1048576) : Ever fun k => laws_eqStringS k l l = some true := by
  have key : Ever fun k => laws_eqStringS.l0 k l l 0 = some (.inl ()) := by
    refine loop_of (fun j i => laws_eqStringS.l0 j l l (i : Int)) l.length _ (fun i hi j => ?_) fun j => ?_
    · conv => lhs; unfold laws_eqStringS.l0
      rw [dlt hi, at_nat hi, wsuc (by omega)]
      simp only [cond_true, Option.bind_some, beq_self_eq_true, Bool.not_true, cond_false]
    · conv => lhs; unfold laws_eqStringS.l0
      rw [dnlt (Nat.le_refl _)]
      rfl
  refine key.mono fun k hk => ?_
  unfold laws_eqStringS
  rw [hk]
  simp
theorem eqDirtyS_refl (l : List DirtyT) (hl : l.length ≤ 1048576) : Ever fun k => laws_eqDirtyS k l l = some true := by
  have hd : ∀ x : DirtyT, laws_eqDirty x x = some true := fun x => by
    unfold laws_eqDirty
    simp only [bne_self_eq_false, beq_self_eq_true, Bool.not_true, cond_false]
  have key : Ever fun k => laws_eqDirtyS.l0 k l l 0 = some (.inl ()) := by
    refine loop_of (fun j i => laws_eqDirtyS.l0 j l l (i : Int)) l.length _ (fun i hi j => ?_) fun j => ?_
    · conv => lhs; unfold laws_eqDirtyS.l0
      rw [dlt hi, at_nat hi, wsuc (by omega)]
      simp only [cond_true, Option.bind_some, hd, Bool.not_true, cond_false]
    · conv => lhs; unfold laws_eqDirtyS.l0
      rw [dnlt (Nat.le_refl _)]
      rfl
  refine key.mono fun k hk => ?_
  unfold laws_eqDirtyS
  rw [hk]
  simp
theorem eqInt64S_refl (l : List Int) (hl : l.length ≤ 1048576) : Ever fun k => laws_eqInt64S k l l = some true := by
  have key : Ever fun k => laws_eqInt64S.l0 k l l 0 = some (.inl ()) := by
    refine loop_of (fun j i => laws_eqInt64S.l0 j l l (i : Int)) l.length _ (fun i hi j => ?_) fun j => ?_
    · conv => lhs; unfold laws_eqInt64S.l0
      rw [dlt hi, at_nat hi, wsuc (by omega)]
      simp only [cond_true, Option.bind_some, bne_self_eq_false, cond_false]
    · conv => lhs; unfold laws_eqInt64S.l0
      rw [dnlt (Nat.le_refl _)]
      rfl
  refine key.mono fun k hk => ?_
  unfold laws_eqInt64S
  rw [hk]
  simp
theorem eqMachine_refl (m : MachT) (n : Int) (hf : FlashFit m.2 n) (hn : n ≤ 1048576) : Ever fun k => laws_eqMachine k m m = some true := by
  have h1 := hf.1.1
  have h2 := hf.2.1
  refine ((eqStringS_refl m.2.1 (by omega)).and (eqDirtyS_refl m.2.2 (by omega))).mono fun k ⟨e1, e2⟩ => ?_
  unfold laws_eqMachine laws_eqFlash
  rw [e1, e2]
  simp only [bne_self_eq_false, Option.bind_some, Bool.not_true, cond_false]
end Go.Proofs.YtaajcllchbnjiaaDoorE

namespace Go.Proofs.YtaajcllchbnjiaaDoorE
open Go
set_option linter.unusedVariables false
theorem beqd (a b : Int) : (a == b) = decide (a = b) := by rw [Bool.eq_iff_iff]; simp
theorem w8u (i : Nat) (h : i < 9223372036854775807) : IntKind.wrap .i64 ((i : Int) + 1) = ((i + 1 : Nat) : Int) := wsuc h
theorem half32 (r : Nat) : shr .u32 (r : Int) 1 = ((r / 2 : Nat) : Int) := shr_nat .u32 r 1 (by decide)
theorem beq_str (s t : Str) : (s == t) = decide (s = t) := by rw [Bool.eq_iff_iff]; simp
end Go.Proofs.YtaajcllchbnjiaaDoorE

namespace Go.Proofs.YtaajcllchbnjiaaDoorE
open Go
set_option linter.unusedVariables false
theorem listByte_byteList (s : Str) : listByte (byteList s) = s := by
  unfold listByte byteList
  rw [List.map_map]
  have : ((fun n : Int => UInt8.ofNat n.toNat) ∘ fun b : UInt8 => (b.toNat : Int)) = id := by
    funext b
    simp
  rw [this, List.map_id]
theorem listByte_app (a b : List Int) : listByte (a ++ b) = listByte a ++ listByte b := by simp [listByte]
theorem byteList_app (a b : Str) : byteList (a ++ b) = byteList a ++ byteList b := by simp [byteList]
theorem byteList_len (s : Str) : (byteList s).length = s.length := by simp [byteList]
/-! ### decimal -/
theorem dec_small {u : Nat} (h : u < 10) : Lib.decDigits u = [UInt8.ofNat (48 + u)] := by
  rw [Lib.decDigits, dif_pos h]
theorem dec_big {u : Nat} (h : ¬ u < 10) : Lib.decDigits u = Lib.decDigits (u / 10) ++ [UInt8.ofNat (48 + u % 10)] := by
  rw [Lib.decDigits, dif_neg h]
theorem dec_len : ∀ (d u : Nat), u < 10 ^ (d + 1) → (Lib.decDigits u).length ≤ d + 1
  | 0, u, h => by
    rw [dec_small (by simpa using h)]
    simp
  | d + 1, u, h => by
    by_cases hu : u < 10
    · rw [dec_small hu]; simp
    · rw [dec_big hu, List.length_append]
      have := dec_len d (u / 10) (by rw [Nat.pow_succ] at h; omega)
      simp
      omega
/-- A number, as it is written: what is below nothing is nothing. -/
def decM (n : Int) : Str := Lib.decDigits n.toNat
theorem decM_len {n : Int} (h : n < 9223372036854775808) : (decM n).length ≤ 20 := dec_len 19 n.toNat (by omega)
theorem iDec (n : Int) (h : n < 9223372036854775808) : impl_decimal n = some (decM n) := by
  have hm : imax 0 n = ((n.toNat : Nat) : Int) := by
    unfold imax
    by_cases h0 : n > 0
    · rw [if_pos h0]; omega
    · rw [if_neg h0]; omega
  unfold impl_decimal strconv_FormatInt int_strconv_FormatInt decM
  rw [hm, if_pos ⟨rfl, by omega, by omega⟩]
  simp only [Option.bind_some]
  unfold Lib.itoa
  rw [if_neg (by omega), Int.toNat_natCast]
theorem sDecL : ∀ (d u : Nat) (acc : Str) (j : Nat), u < 10 ^ d → u < 9223372036854775808 → acc.length + d ≤ 100 → d < j → spec_l01Dec.l0 j (u : Int) acc = some ((if u = 0 then [] else Lib.decDigits u) ++ acc)
  | d, 0, acc, j, _, _, _, hj => by
    obtain ⟨j, rfl⟩ : ∃ q, j = q + 1 := ⟨j - 1, by omega⟩
    unfold spec_l01Dec.l0
    rfl
  | 0, u + 1, acc, j, h, _, _, _ => by simp at h
  | d + 1, u + 1, acc, j, h, h63, ha, hj => by
    obtain ⟨j, rfl⟩ : ∃ q, j = q + 1 := ⟨j - 1, by omega⟩
    generalize hu : u + 1 = v at h h63 ⊢
    have hv : v ≠ 0 := by omega
    have e1 : Int.tmod (v : Int) 10 = ((v % 10 : Nat) : Int) := by rw [Int.tmod_eq_emod_of_nonneg (by omega)]; omega
    have e2 : Int.tdiv (v : Int) 10 = ((v / 10 : Nat) : Int) := by rw [Int.tdiv_eq_ediv_of_nonneg (by omega)]; omega
    have e3 : IntKind.wrap .i64 (48 + ((v % 10 : Nat) : Int)) = ((48 + v % 10 : Nat) : Int) := by rw [w64 (by omega) (by omega)]; omega
    have e4 : IntKind.wrap .u8 ((48 + v % 10 : Nat) : Int) = ((48 + v % 10 : Nat) : Int) := by
      simp [IntKind.wrap, IntKind.bits, IntKind.signed]
      omega
    have e5 : listByte [((48 + v % 10 : Nat) : Int)] = [UInt8.ofNat (48 + v % 10)] := rfl
    rw [spec_l01Dec.l0, show ((v : Int) != 0) = true by simp; omega, e1, e2, e3, e4, e5, decide_eq_false (by omega : ¬ (((v % 10 : Nat) : Int) < 0)), nz_some (by omega), w64 (n := ((v / 10 : Nat) : Int)) (by omega) (by omega)]
    simp only [cond_true, cond_false, Option.bind_some]
    rw [cat_some (by simp; omega)]
    simp only [Option.bind_some]
    rw [sDecL d (v / 10) _ j (by rw [Nat.pow_succ] at h; omega) (by omega) (by simp; omega) (by omega), if_neg hv]
    congr 1
    by_cases h10 : v < 10
    · rw [dec_small h10, if_pos (by omega)]
      rw [Nat.mod_eq_of_lt h10]
      simp
    · rw [dec_big h10, if_neg (by omega)]
      simp
theorem sDec (n : Int) (h : n < 9223372036854775808) : ∀ k, 30 ≤ k → spec_l16Dec k n = some (decM n) := by
  intro k hk
  have hm : spec_l03Max 0 n = some ((n.toNat : Nat) : Int) := by
    unfold spec_l03Max
    by_cases h0 : n < 0
    · rw [decide_eq_true h0, cond_true, show n.toNat = 0 by omega]; rfl
    · rw [decide_eq_false h0, cond_false, show ((n.toNat : Nat) : Int) = n by omega]
  unfold spec_l16Dec decM
  rw [hm]
  simp only [Option.bind_some]
  generalize hu : n.toNat = u
  have hu2 : u < 9223372036854775808 := by omega
  unfold spec_l01Dec
  by_cases h0 : u = 0
  · subst h0
    rw [dec_small (by omega : 0 < 10)]
    rfl
  · rw [show ((u : Int) == 0) = false by rw [beqd]; exact decide_eq_false (by omega)]
    simp only [cond_false]
    rw [sDecL 20 u [] k (by omega) hu2 (by simp) (by omega), if_neg h0]
    simp only [Option.bind_some, List.append_nil]
    rw [decide_eq_false (by omega : ¬ ((u : Int) < 0))]
    rfl
/-! ### hexadecimal -/
def hexD : Str := [48, 49, 50, 51, 52, 53, 54, 55, 56, 57, 97, 98, 99, 100, 101, 102]
def hexP (b : UInt8) : List Int := [((hexD.getD (b.toNat / 16) 0).toNat : Int), ((hexD.getD (b.toNat % 16) 0).toNat : Int)]
theorem hex_hi : ∀ n : Nat, n < 256 → at? hexD (shr .u8 ((n : Nat) : Int) 4) = some (hexD.getD (n / 16) 0) := by decide +kernel
theorem hex_lo : ∀ n : Nat, n < 256 → at? hexD (intBits .and .u8 ((n : Nat) : Int) 15) = some (hexD.getD (n % 16) 0) := by decide +kernel
def hexL (s : Str) : List Int := s.flatMap hexP
theorem hexL_len (s : Str) : (hexL s).length = 2 * s.length := by
  unfold hexL
  induction s with
  | nil => rfl
  | cons b s ih => rw [List.flatMap_cons, List.length_append, ih, List.length_cons]; show 2 + _ = _; omega
def hexM (s : Str) : Str := listByte (hexL s)
theorem hex_loop (L : Nat → Int → List Int → Option (List Int)) (s : Str) (hl : s.length ≤ 1048576)
    (hs : ∀ i, (h : i < s.length) → ∀ acc j, acc.length ≤ 4000000 → L (j + 1) (i : Int) acc = L j ((i + 1 : Nat) : Int) (acc ++ hexP s[i]))
    (he : ∀ acc j, L (j + 1) (s.length : Int) acc = some acc) : ∀ k, s.length < k → L k 0 [] = some (hexL s) := by
  intro k hk
  have key : ∀ (d i : Nat), i + d = s.length → ∀ j, d < j → L j (i : Int) (hexL (s.take i)) = some (hexL s) := by
    intro d
    induction d with
    | zero =>
      intro i hi j hj
      obtain ⟨j, rfl⟩ : ∃ q, j = q + 1 := ⟨j - 1, by omega⟩
      obtain rfl : i = s.length := by omega
      rw [he, List.take_length]
    | succ d ih =>
      intro i hi j hj
      obtain ⟨j, rfl⟩ : ∃ q, j = q + 1 := ⟨j - 1, by omega⟩
      have h : i < s.length := by omega
      rw [hs i h _ j (by rw [hexL_len, List.length_take]; omega)]
      have := ih (i + 1) (by omega) j (by omega)
      rw [take_succ' h] at this
      unfold hexL at this ⊢
      rw [List.flatMap_append] at this
      simpa using this
  exact key s.length 0 (Nat.zero_add _) k hk
theorem byte_lt' (b : UInt8) : b.toNat < 256 := b.toNat_lt
theorem sHex (s : Str) (hl : s.length ≤ 1048576) : ∀ k, s.length < k → spec_l16Hex k s = some (hexM s) := by
  intro k hk
  have run := hex_loop (fun j i acc => spec_l16Hex.l0 j s hexD i acc) s hl (fun i h acc j ha => by
    show spec_l16Hex.l0 (j + 1) s hexD (i : Int) acc = _
    rw [spec_l16Hex.l0, dlt h, at_nat h, nneg_some (by omega), wsuc (by omega)]
    simp only [cond_true, Option.bind_some]
    rw [hex_hi _ (byte_lt' _), hex_lo _ (byte_lt' _)]
    simp only [Option.bind_some]
    rw [app_ok (by simp; omega)]
    rfl) (fun acc j => by
    show spec_l16Hex.l0 (j + 1) s hexD (s.length : Int) acc = _
    unfold spec_l16Hex.l0
    rw [dnlt (Nat.le_refl _)]
    rfl) k hk
  unfold spec_l16Hex
  have run : spec_l16Hex.l0 k s [48, 49, 50, 51, 52, 53, 54, 55, 56, 57, 97, 98, 99, 100, 101, 102] 0 [] = some (hexL s) := run
  rw [run]
  rfl
theorem iHex (s : Str) (hl : s.length ≤ 1048576) : ∀ k, s.length < k → impl_hexText k s = some (hexM s) := by
  intro k hk
  have run := hex_loop (fun j i acc => impl_hexText.l0 j s (s.length : Int) i acc) s hl (fun i h acc j ha => by
    show impl_hexText.l0 (j + 1) s (s.length : Int) (i : Int) acc = _
    rw [impl_hexText.l0, dlt h, at_nat h, nneg_some (by omega), wsuc (by omega)]
    simp only [cond_true, Option.bind_some]
    have e1 := hex_hi _ (byte_lt' s[i])
    have e2 := hex_lo _ (byte_lt' s[i])
    unfold hexD at e1 e2
    rw [e1, e2]
    simp only [Option.bind_some]
    rw [app_ok (by simp; omega)]
    rfl) (fun acc j => by
    show impl_hexText.l0 (j + 1) s (s.length : Int) (s.length : Int) acc = _
    unfold impl_hexText.l0
    rw [dnlt (Nat.le_refl _)]
    rfl) k hk
  unfold impl_hexText
  have run : impl_hexText.l0 k s (s.length : Int) 0 [] = some (hexL s) := run
  rw [run]
  rfl
theorem hexM_len (s : Str) : (hexM s).length = 2 * s.length := by
  unfold hexM
  rw [show (listByte (hexL s)).length = (hexL s).length by simp [listByte], hexL_len]
end Go.Proofs.YtaajcllchbnjiaaDoorE

namespace Go.Proofs.YtaajcllchbnjiaaDoorE
open Go
def laws_FnExactAnswerText.Pure : Prop := ∀ (y0 : G30), Bnd T30 y0 → ∃ k : Nat, laws_FnExactAnswerText k y0 = some true
end Go.Proofs.YtaajcllchbnjiaaDoorE
