/- What the law FnExactImageRead needs, part 6 of 6: the Lean functions of the Go functions that it reaches, with the proofs that the calls come to what they say, and plain facts about them; the last theorem is the law. Conditions: those that each theorem states. Written by a session and by its programs (after the kit's printer). -/
import Derived.Test.YthoibokhmkjkdaaRows
import Derived.Carry
import Derived.Handed
import Derived.Test.YthoibokhmkjkdaaXFnExactImageRead4
namespace Go.Proofs.YthoibokhmkjkdaaE
open Go Go.RowKit
set_option linter.unusedVariables false
def spec_ImageRight.l0 : Nat → List Str → Int → Option (Unit ⊕ Bool)
  | 0, _, _ => none
  | j + 1, a1, a2 =>
    bif decide (a2 < ((a1.length) : Int)) then
      Option.bind (at? a1 a2) fun v3 =>
      bif ((v3.length) : Int) != 8 then
        some (.inr false)
      else
      spec_ImageRight.l0 j a1 (IntKind.wrap .i64 (a2 + 1))
    else
    some (.inl ())
def spec_ImageRight (k : Nat) (a1 : List Str) : Option (Bool) :=
  bif (decide (((a1.length) : Int) < 1)) || (decide (8 < ((a1.length) : Int))) then
    some false
  else
  Option.bind (spec_ImageRight.l0 k a1 0) fun
    | .inl y2 =>
      some true
    | .inr y3 =>
      some y3
def spec_ImageRight.sig : Sig := { ps := [.val false (.sl .str) (ros (.sl .str))], rs := [.val false [.v .bool]], ntmps := 24 }
def spec_ImageRight.con (k : Nat) : Con := spec_ImageRight.sig.con (fun x => spec_ImageRight k x)
def spec_ImageRight.C (k : Nat) : Ctx := { ti := TAB, con := conL [] }
theorem spec_ImageRight.cok (k : Nat) : CtxOk Try.prog (spec_ImageRight.C k) := ctx_ok TABok trivial
def spec_ImageRight.l0.ish : Shape := { tmps := [(0, .one (.bor .str)), (3, .one (.v (.int .i64)))], slots := [], nb := 0 }
def spec_ImageRight.l0.outs : List (Ex × Shape) := [(.exit 0, { tmps := [], slots := [], nb := 0 }), (.ret, { tmps := [(2, .one (.v .bool))], slots := [], nb := 0 })]
def spec_ImageRight.l0.F (k j : Nat) (x : Prod' spec_ImageRight.l0.ish.tys) : Option (Outs spec_ImageRight.l0.outs) := spec_ImageRight.l0 j x.1 x.2
def spec_ImageRight.l0.s (k : Nat) : Summ := { n := 24, ish := spec_ImageRight.l0.ish, outs := spec_ImageRight.l0.outs, f := spec_ImageRight.l0.F k k }
theorem spec_ImageRight.l0.ev (k j : Nat) (x : Prod' spec_ImageRight.l0.ish.tys) : V (spec_ImageRight.C k) .auto (cO (cO (cR (cL (cR (cR (cB Try.f87))))))) (mk spec_ImageRight.l0.ish 24 x) (fun e st' => match e with | .nrm => (rd spec_ImageRight.l0.ish st').bind (spec_ImageRight.l0.F k j) | e => rdOut e st' spec_ImageRight.l0.outs) = spec_ImageRight.l0.F k (j + 1) x := by kernel_rfl
theorem spec_ImageRight.l0.ok (k : Nat) : SumOk Try.prog (spec_ImageRight.C k) (.loop (cO (cO (cR (cL (cR (cR (cB Try.f87)))))))) (spec_ImageRight.l0.s k) := sum_ok (by kernel_rfl) (sum_loop (p := .auto) (F := spec_ImageRight.l0.F k) (spec_ImageRight.cok k) (by kernel_rfl) (plan_of (L := []) (by kernel_rfl) trivial) (fun _ => rfl) (fun j x y h => (spec_ImageRight.l0.ev k j x).trans h) k rfl)
theorem spec_ImageRight.ev (k : Nat) (x : Prod' spec_ImageRight.sig.ins) : spec_ImageRight.sig.ev (spec_ImageRight.C k) (.two .auto (.two .auto (.two (.two .auto (.one (.sum (spec_ImageRight.l0.s k)))) .auto))) Try.f87.results.toList (cB Try.f87) x = spec_ImageRight k x := by kernel_rfl
theorem spec_ImageRight.ok (k : Nat) : ConOk Try.prog 87 (spec_ImageRight.con k) := sig_ok (p := (.two .auto (.two .auto (.two (.two .auto (.one (.sum (spec_ImageRight.l0.s k)))) .auto)))) (spec_ImageRight.cok k) Try.func87 (by kernel_rfl) (show Try.f87.body = some (cB Try.f87) by kernel_rfl) (by kernel_rfl) (by kernel_rfl) (plan_of (L := [(spec_ImageRight.l0.s k, cO (cR (cL (cR (cR (cB Try.f87))))))]) (by kernel_rfl) ⟨spec_ImageRight.l0.ok k, trivial⟩) (fun x y h => (spec_ImageRight.ev k x).trans h)
def spec_l17Letter.l0 : Nat → Str → Int → Option (Unit ⊕ Int)
  | 0, _, _ => none
  | j + 1, a1, a2 =>
    bif decide (a2 < 8) then
      Option.bind (at? a1 a2) fun v3 =>
      Option.bind (at? a1 0) fun v4 =>
      bif (v3.toNat : Int) != (v4.toNat : Int) then
        some (.inr 0)
      else
      spec_l17Letter.l0 j a1 (IntKind.wrap .i64 (a2 + 1))
    else
    some (.inl ())
def spec_l17Letter (k : Nat) (a1 : Str) : Option (Int) :=
  bif ((a1.length) : Int) != 8 then
    some 0
  else
  Option.bind (at? a1 0) fun v2 =>
  bif decide ((v2.toNat : Int) < 97) then
    some 0
  else
  Option.bind (at? a1 0) fun v3 =>
  bif decide (122 < (v3.toNat : Int)) then
    some 0
  else
  Option.bind (spec_l17Letter.l0 k a1 1) fun
    | .inl y4 =>
      Option.bind (at? a1 0) fun v5 =>
      some (v5.toNat : Int)
    | .inr y6 =>
      some y6
def spec_l17Letter.sig : Sig := { ps := [.val false .str (ros .str)], rs := [.val false [.v (.int .u8)]], ntmps := 29 }
def spec_l17Letter.con (k : Nat) : Con := spec_l17Letter.sig.con (fun x => spec_l17Letter k x)
def spec_l17Letter.C (k : Nat) : Ctx := { ti := TAB, con := conL [] }
theorem spec_l17Letter.cok (k : Nat) : CtxOk Try.prog (spec_l17Letter.C k) := ctx_ok TABok trivial
def spec_l17Letter.l0.ish : Shape := { tmps := [(0, .one (.v .str)), (3, .one (.v (.int .i64)))], slots := [], nb := 0 }
def spec_l17Letter.l0.outs : List (Ex × Shape) := [(.exit 0, { tmps := [], slots := [], nb := 0 }), (.ret, { tmps := [(2, .one (.v (.int .u8)))], slots := [], nb := 0 })]
def spec_l17Letter.l0.F (k j : Nat) (x : Prod' spec_l17Letter.l0.ish.tys) : Option (Outs spec_l17Letter.l0.outs) := spec_l17Letter.l0 j x.1 x.2
def spec_l17Letter.l0.s (k : Nat) : Summ := { n := 29, ish := spec_l17Letter.l0.ish, outs := spec_l17Letter.l0.outs, f := spec_l17Letter.l0.F k k }
theorem spec_l17Letter.l0.ev (k j : Nat) (x : Prod' spec_l17Letter.l0.ish.tys) : V (spec_l17Letter.C k) .auto (cO (cO (cR (cL (cR (cR (cB Try.f88))))))) (mk spec_l17Letter.l0.ish 29 x) (fun e st' => match e with | .nrm => (rd spec_l17Letter.l0.ish st').bind (spec_l17Letter.l0.F k j) | e => rdOut e st' spec_l17Letter.l0.outs) = spec_l17Letter.l0.F k (j + 1) x := by kernel_rfl
theorem spec_l17Letter.l0.ok (k : Nat) : SumOk Try.prog (spec_l17Letter.C k) (.loop (cO (cO (cR (cL (cR (cR (cB Try.f88)))))))) (spec_l17Letter.l0.s k) := sum_ok (by kernel_rfl) (sum_loop (p := .auto) (F := spec_l17Letter.l0.F k) (spec_l17Letter.cok k) (by kernel_rfl) (plan_of (L := []) (by kernel_rfl) trivial) (fun _ => rfl) (fun j x y h => (spec_l17Letter.l0.ev k j x).trans h) k rfl)
theorem spec_l17Letter.ev (k : Nat) (x : Prod' spec_l17Letter.sig.ins) : spec_l17Letter.sig.ev (spec_l17Letter.C k) (.two .auto (.two .auto (.two (.two .auto (.one (.sum (spec_l17Letter.l0.s k)))) .auto))) Try.f88.results.toList (cB Try.f88) x = spec_l17Letter k x := by kernel_rfl
theorem spec_l17Letter.ok (k : Nat) : ConOk Try.prog 88 (spec_l17Letter.con k) := sig_ok (p := (.two .auto (.two .auto (.two (.two .auto (.one (.sum (spec_l17Letter.l0.s k)))) .auto)))) (spec_l17Letter.cok k) Try.func88 (by kernel_rfl) (show Try.f88.body = some (cB Try.f88) by kernel_rfl) (by kernel_rfl) (by kernel_rfl) (plan_of (L := [(spec_l17Letter.l0.s k, cO (cR (cL (cR (cR (cB Try.f88))))))]) (by kernel_rfl) ⟨spec_l17Letter.l0.ok k, trivial⟩) (fun x y h => (spec_l17Letter.ev k x).trans h)
def spec_ImageText.l0 (k : Nat) : Nat → List Str → Int → List Int → Option ((List Int) ⊕ Str)
  | 0, _, _, _ => none
  | j + 1, a1, a2, a3 =>
    bif decide (a2 < ((a1.length) : Int)) then
      Option.bind (spec_ImageRight k a1) fun v4 =>
      bif v4 then
        Option.bind (at? a1 a2) fun v5 =>
        Option.bind (spec_l17Letter k v5) fun v6 =>
        bif v6 == 0 then
          some (.inr ([]))
        else
        Option.bind (app? 1 a3 [v6]) fun v7 =>
        spec_ImageText.l0 k j a1 (IntKind.wrap .i64 (a2 + 1)) v7
      else
      some (.inl a3)
    else
    some (.inl a3)
def spec_ImageText (k : Nat) (a1 : List Str) : Option (Str) :=
  Option.bind (spec_ImageText.l0 k k a1 0 []) fun
    | .inl y2 =>
      some (listByte y2)
    | .inr y3 =>
      some y3
def spec_ImageText.sig : Sig := { ps := [.val false (.sl .str) (ros (.sl .str))], rs := [.val false [.v .str]], ntmps := 30 }
def spec_ImageText.con (k : Nat) : Con := spec_ImageText.sig.con (fun x => spec_ImageText k x)
def spec_ImageText.C (k : Nat) : Ctx := { ti := TAB, con := conL [(87, spec_ImageRight.con k), (88, spec_l17Letter.con k)] }
theorem spec_ImageText.cok (k : Nat) : CtxOk Try.prog (spec_ImageText.C k) := ctx_ok TABok ⟨spec_ImageRight.ok k, spec_l17Letter.ok k, trivial⟩
def spec_ImageText.l0.ish : Shape := { tmps := [(0, .one (.bor .str)), (3, .one (.own 1)), (4, .one (.v (.int .i64)))], slots := [(1, .arr false 5 (.int .u8))], nb := 2 }
def spec_ImageText.l0.outs : List (Ex × Shape) := [(.exit 0, { tmps := [(3, .one (.own 2))], slots := [(2, .arr false 5 (.int .u8))], nb := 3 }), (.ret, { tmps := [(2, .one (.v .str))], slots := [], nb := 2 })]
def spec_ImageText.l0.F (k j : Nat) (x : Prod' spec_ImageText.l0.ish.tys) : Option (Outs spec_ImageText.l0.outs) := spec_ImageText.l0 k j x.1 x.2.1 x.2.2
def spec_ImageText.l0.s (k : Nat) : Summ := { n := 30, ish := spec_ImageText.l0.ish, outs := spec_ImageText.l0.outs, f := spec_ImageText.l0.F k k }
theorem spec_ImageText.l0.ev (k j : Nat) (x : Prod' spec_ImageText.l0.ish.tys) : V (spec_ImageText.C k) .auto (cO (cO (cR (cL (cR (cR (cB Try.f32))))))) (mk spec_ImageText.l0.ish 30 x) (fun e st' => match e with | .nrm => (rd spec_ImageText.l0.ish st').bind (spec_ImageText.l0.F k j) | e => rdOut e st' spec_ImageText.l0.outs) = spec_ImageText.l0.F k (j + 1) x := by kernel_rfl
theorem spec_ImageText.l0.ok (k : Nat) : SumOk Try.prog (spec_ImageText.C k) (.loop (cO (cO (cR (cL (cR (cR (cB Try.f32)))))))) (spec_ImageText.l0.s k) := sum_ok (by kernel_rfl) (sum_loop (p := .auto) (F := spec_ImageText.l0.F k) (spec_ImageText.cok k) (by kernel_rfl) (plan_of (L := []) (by kernel_rfl) trivial) (fun _ => rfl) (fun j x y h => (spec_ImageText.l0.ev k j x).trans h) k rfl)
theorem spec_ImageText.ev (k : Nat) (x : Prod' spec_ImageText.sig.ins) : spec_ImageText.sig.ev (spec_ImageText.C k) (.two .auto (.two .auto (.two (.two .auto (.one (.sum (spec_ImageText.l0.s k)))) .auto))) Try.f32.results.toList (cB Try.f32) x = spec_ImageText k x := by kernel_rfl
theorem spec_ImageText.ok (k : Nat) : ConOk Try.prog 32 (spec_ImageText.con k) := sig_ok (p := (.two .auto (.two .auto (.two (.two .auto (.one (.sum (spec_ImageText.l0.s k)))) .auto)))) (spec_ImageText.cok k) Try.func32 (by kernel_rfl) (show Try.f32.body = some (cB Try.f32) by kernel_rfl) (by kernel_rfl) (by kernel_rfl) (plan_of (L := [(spec_ImageText.l0.s k, cO (cR (cL (cR (cR (cB Try.f32))))))]) (by kernel_rfl) ⟨spec_ImageText.l0.ok k, trivial⟩) (fun x y h => (spec_ImageText.ev k x).trans h)
def spec_l07Ill (a1 : Int) : Option (List Str × Int) :=
  some ([], a1)
def spec_l07Ill.sig : Sig := { ps := [.val false (.int .i64) (ros (.int .i64))], rs := [.val true [.own 9 .str, .v (.int .i64)]], ntmps := 5 }
def spec_l07Ill.con (k : Nat) : Con := spec_l07Ill.sig.con (fun x => spec_l07Ill x)
def spec_l07Ill.C (k : Nat) : Ctx := { ti := TAB, con := conL [] }
theorem spec_l07Ill.cok (k : Nat) : CtxOk Try.prog (spec_l07Ill.C k) := ctx_ok TABok trivial
theorem spec_l07Ill.ev (k : Nat) (x : Prod' spec_l07Ill.sig.ins) : spec_l07Ill.sig.ev (spec_l07Ill.C k) .auto Try.f124.results.toList (cB Try.f124) x = spec_l07Ill x := by kernel_rfl
theorem spec_l07Ill.ok (k : Nat) : ConOk Try.prog 124 (spec_l07Ill.con k) := sig_ok (p := .auto) (spec_l07Ill.cok k) Try.func124 (by kernel_rfl) (show Try.f124.body = some (cB Try.f124) by kernel_rfl) (by kernel_rfl) (by kernel_rfl) (plan_of (L := []) (by kernel_rfl) trivial) (fun x y h => (spec_l07Ill.ev k x).trans h)
def spec_l17Block.l0 : Nat → Int → Int → List Int → Option ((List Int))
  | 0, _, _, _ => none
  | j + 1, a1, a2, a3 =>
    bif decide (a2 < 8) then
      Option.bind (app? 1 a3 [a1]) fun v4 =>
      spec_l17Block.l0 j a1 (IntKind.wrap .i64 (a2 + 1)) v4
    else
    some a3
def spec_l17Block (k : Nat) (a1 : Int) : Option (Str) :=
  Option.bind (spec_l17Block.l0 k a1 0 []) fun y2 =>
  some (listByte y2)
def spec_l17Block.sig : Sig := { ps := [.val false (.int .u8) (ros (.int .u8))], rs := [.val false [.v .str]], ntmps := 16 }
def spec_l17Block.con (k : Nat) : Con := spec_l17Block.sig.con (fun x => spec_l17Block k x)
def spec_l17Block.C (k : Nat) : Ctx := { ti := TAB, con := conL [] }
theorem spec_l17Block.cok (k : Nat) : CtxOk Try.prog (spec_l17Block.C k) := ctx_ok TABok trivial
def spec_l17Block.l0.ish : Shape := { tmps := [(0, .one (.v (.int .u8))), (3, .one (.own 1)), (4, .one (.v (.int .i64)))], slots := [(1, .arr false 5 (.int .u8))], nb := 2 }
def spec_l17Block.l0.outs : List (Ex × Shape) := [(.exit 0, { tmps := [(3, .one (.own 2))], slots := [(2, .arr false 5 (.int .u8))], nb := 3 })]
def spec_l17Block.l0.F (k j : Nat) (x : Prod' spec_l17Block.l0.ish.tys) : Option (Outs spec_l17Block.l0.outs) := spec_l17Block.l0 j x.1 x.2.1 x.2.2
def spec_l17Block.l0.s (k : Nat) : Summ := { n := 16, ish := spec_l17Block.l0.ish, outs := spec_l17Block.l0.outs, f := spec_l17Block.l0.F k k }
theorem spec_l17Block.l0.ev (k j : Nat) (x : Prod' spec_l17Block.l0.ish.tys) : V (spec_l17Block.C k) .auto (cO (cO (cR (cL (cR (cR (cB Try.f125))))))) (mk spec_l17Block.l0.ish 16 x) (fun e st' => match e with | .nrm => (rd spec_l17Block.l0.ish st').bind (spec_l17Block.l0.F k j) | e => rdOut e st' spec_l17Block.l0.outs) = spec_l17Block.l0.F k (j + 1) x := by kernel_rfl
theorem spec_l17Block.l0.ok (k : Nat) : SumOk Try.prog (spec_l17Block.C k) (.loop (cO (cO (cR (cL (cR (cR (cB Try.f125)))))))) (spec_l17Block.l0.s k) := sum_ok (by kernel_rfl) (sum_loop (p := .auto) (F := spec_l17Block.l0.F k) (spec_l17Block.cok k) (by kernel_rfl) (plan_of (L := []) (by kernel_rfl) trivial) (fun _ => rfl) (fun j x y h => (spec_l17Block.l0.ev k j x).trans h) k rfl)
theorem spec_l17Block.ev (k : Nat) (x : Prod' spec_l17Block.sig.ins) : spec_l17Block.sig.ev (spec_l17Block.C k) (.two .auto (.two .auto (.two (.two .auto (.one (.sum (spec_l17Block.l0.s k)))) .auto))) Try.f125.results.toList (cB Try.f125) x = spec_l17Block k x := by kernel_rfl
theorem spec_l17Block.ok (k : Nat) : ConOk Try.prog 125 (spec_l17Block.con k) := sig_ok (p := (.two .auto (.two .auto (.two (.two .auto (.one (.sum (spec_l17Block.l0.s k)))) .auto)))) (spec_l17Block.cok k) Try.func125 (by kernel_rfl) (show Try.f125.body = some (cB Try.f125) by kernel_rfl) (by kernel_rfl) (by kernel_rfl) (plan_of (L := [(spec_l17Block.l0.s k, cO (cR (cL (cR (cR (cB Try.f125))))))]) (by kernel_rfl) ⟨spec_l17Block.l0.ok k, trivial⟩) (fun x y h => (spec_l17Block.ev k x).trans h)
def spec_ImageRead.l0 (k : Nat) : Nat → Str → Int → List Str → Option ((List Str))
  | 0, _, _, _ => none
  | j + 1, a1, a2, a3 =>
    bif decide (a2 < ((a1.length) : Int)) then
      Option.bind (at? a1 a2) fun v4 =>
      Option.bind (spec_l17Block k (v4.toNat : Int)) fun v5 =>
      Option.bind (app? 16 a3 [v5]) fun v6 =>
      spec_ImageRead.l0 k j a1 (IntKind.wrap .i64 (a2 + 1)) v6
    else
    some a3
def spec_ImageRead (k : Nat) (a1 : Str) : Option (List Str × Int) :=
  bif decide (8000 < ((a1.length) : Int)) then
    Option.bind (spec_l07Ill 2) fun v2 =>
    some (v2.1, v2.2)
  else
  Option.bind (spec_ImageRead.l0 k k a1 0 []) fun y3 =>
  bif a1 == [] then
    Option.bind (spec_l07Ill 3) fun v4 =>
    some (v4.1, v4.2)
  else
  Option.bind (spec_ImageText k y3) fun v5 =>
  bif !(v5 == a1) then
    Option.bind (spec_l07Ill 3) fun v6 =>
    some (v6.1, v6.2)
  else
  some (y3, 0)
def spec_ImageRead.sig : Sig := { ps := [.val false .str (ros .str)], rs := [.val true [.own 9 .str, .v (.int .i64)]], ntmps := 34 }
def spec_ImageRead.con (k : Nat) : Con := spec_ImageRead.sig.con (fun x => spec_ImageRead k x)
def spec_ImageRead.C (k : Nat) : Ctx := { ti := TAB, con := conL [(32, spec_ImageText.con k), (124, spec_l07Ill.con k), (125, spec_l17Block.con k)] }
theorem spec_ImageRead.cok (k : Nat) : CtxOk Try.prog (spec_ImageRead.C k) := ctx_ok TABok ⟨spec_ImageText.ok k, spec_l07Ill.ok k, spec_l17Block.ok k, trivial⟩
def spec_ImageRead.l0.ish : Shape := { tmps := [(0, .one (.v .str)), (3, .one (.own 2)), (4, .one (.v (.int .i64)))], slots := [(2, .arr false 9 .str)], nb := 3 }
def spec_ImageRead.l0.outs : List (Ex × Shape) := [(.exit 0, { tmps := [(3, .one (.own 3))], slots := [(3, .arr false 9 .str)], nb := 4 })]
def spec_ImageRead.l0.F (k j : Nat) (x : Prod' spec_ImageRead.l0.ish.tys) : Option (Outs spec_ImageRead.l0.outs) := spec_ImageRead.l0 k j x.1 x.2.1 x.2.2
def spec_ImageRead.l0.s (k : Nat) : Summ := { n := 34, ish := spec_ImageRead.l0.ish, outs := spec_ImageRead.l0.outs, f := spec_ImageRead.l0.F k k }
theorem spec_ImageRead.l0.ev (k j : Nat) (x : Prod' spec_ImageRead.l0.ish.tys) : V (spec_ImageRead.C k) .auto (cO (cO (cR (cL (cR (cR (cR (cB Try.f65)))))))) (mk spec_ImageRead.l0.ish 34 x) (fun e st' => match e with | .nrm => (rd spec_ImageRead.l0.ish st').bind (spec_ImageRead.l0.F k j) | e => rdOut e st' spec_ImageRead.l0.outs) = spec_ImageRead.l0.F k (j + 1) x := by kernel_rfl
theorem spec_ImageRead.l0.ok (k : Nat) : SumOk Try.prog (spec_ImageRead.C k) (.loop (cO (cO (cR (cL (cR (cR (cR (cB Try.f65))))))))) (spec_ImageRead.l0.s k) := sum_ok (by kernel_rfl) (sum_loop (p := .auto) (F := spec_ImageRead.l0.F k) (spec_ImageRead.cok k) (by kernel_rfl) (plan_of (L := []) (by kernel_rfl) trivial) (fun _ => rfl) (fun j x y h => (spec_ImageRead.l0.ev k j x).trans h) k rfl)
theorem spec_ImageRead.ev (k : Nat) (x : Prod' spec_ImageRead.sig.ins) : spec_ImageRead.sig.ev (spec_ImageRead.C k) (.two .auto (.two .auto (.two .auto (.two (.two .auto (.one (.sum (spec_ImageRead.l0.s k)))) .auto)))) Try.f65.results.toList (cB Try.f65) x = spec_ImageRead k x := by kernel_rfl
theorem spec_ImageRead.ok (k : Nat) : ConOk Try.prog 65 (spec_ImageRead.con k) := sig_ok (p := (.two .auto (.two .auto (.two .auto (.two (.two .auto (.one (.sum (spec_ImageRead.l0.s k)))) .auto))))) (spec_ImageRead.cok k) Try.func65 (by kernel_rfl) (show Try.f65.body = some (cB Try.f65) by kernel_rfl) (by kernel_rfl) (by kernel_rfl) (plan_of (L := [(spec_ImageRead.l0.s k, cO (cR (cL (cR (cR (cR (cB Try.f65)))))))]) (by kernel_rfl) ⟨spec_ImageRead.l0.ok k, trivial⟩) (fun x y h => (spec_ImageRead.ev k x).trans h)
def impl_within (a1 : Int) (a2 : Int) (a3 : Int) : Option (Bool) :=
  some ((decide (a2 ≤ a1)) && (decide (a1 ≤ a3)))
def impl_within.sig : Sig := { ps := [.val false (.int .i64) (ros (.int .i64)), .val false (.int .i64) (ros (.int .i64)), .val false (.int .i64) (ros (.int .i64))], rs := [.val false [.v .bool]], ntmps := 15 }
def impl_within.con (k : Nat) : Con := impl_within.sig.con (fun x => impl_within x.1 x.2.1 x.2.2)
def impl_within.C (k : Nat) : Ctx := { ti := TAB, con := conL [] }
theorem impl_within.cok (k : Nat) : CtxOk Try.prog (impl_within.C k) := ctx_ok TABok trivial
theorem impl_within.ev (k : Nat) (x : Prod' impl_within.sig.ins) : impl_within.sig.ev (impl_within.C k) .auto Try.f76.results.toList (cB Try.f76) x = impl_within x.1 x.2.1 x.2.2 := by kernel_rfl
theorem impl_within.ok (k : Nat) : ConOk Try.prog 76 (impl_within.con k) := sig_ok (p := .auto) (impl_within.cok k) Try.func76 (by kernel_rfl) (show Try.f76.body = some (cB Try.f76) by kernel_rfl) (by kernel_rfl) (by kernel_rfl) (plan_of (L := []) (by kernel_rfl) trivial) (fun x y h => (impl_within.ev k x).trans h)
def impl_isBlocks (a1 : Int) : Option (Bool) :=
  Option.bind (impl_within a1 1 8) fun v2 =>
  some v2
def impl_isBlocks.sig : Sig := { ps := [.val false (.int .i64) (ros (.int .i64))], rs := [.val false [.v .bool]], ntmps := 5 }
def impl_isBlocks.con (k : Nat) : Con := impl_isBlocks.sig.con (fun x => impl_isBlocks x)
def impl_isBlocks.C (k : Nat) : Ctx := { ti := TAB, con := conL [(76, impl_within.con k)] }
theorem impl_isBlocks.cok (k : Nat) : CtxOk Try.prog (impl_isBlocks.C k) := ctx_ok TABok ⟨impl_within.ok k, trivial⟩
theorem impl_isBlocks.ev (k : Nat) (x : Prod' impl_isBlocks.sig.ins) : impl_isBlocks.sig.ev (impl_isBlocks.C k) .auto Try.f140.results.toList (cB Try.f140) x = impl_isBlocks x := by kernel_rfl
theorem impl_isBlocks.ok (k : Nat) : ConOk Try.prog 140 (impl_isBlocks.con k) := sig_ok (p := .auto) (impl_isBlocks.cok k) Try.func140 (by kernel_rfl) (show Try.f140.body = some (cB Try.f140) by kernel_rfl) (by kernel_rfl) (by kernel_rfl) (plan_of (L := []) (by kernel_rfl) trivial) (fun x y h => (impl_isBlocks.ev k x).trans h)
def impl_size_string (a1 : List Str) : Option (Int) :=
  some ((a1.length) : Int)
def impl_size_string.sig : Sig := { ps := [.val false (.sl .str) (ros (.sl .str))], rs := [.val false [.v (.int .i64)]], ntmps := 5 }
def impl_size_string.con (k : Nat) : Con := impl_size_string.sig.con (fun x => impl_size_string x)
def impl_size_string.C (k : Nat) : Ctx := { ti := TAB, con := conL [] }
theorem impl_size_string.cok (k : Nat) : CtxOk Try.prog (impl_size_string.C k) := ctx_ok TABok trivial
theorem impl_size_string.ev (k : Nat) (x : Prod' impl_size_string.sig.ins) : impl_size_string.sig.ev (impl_size_string.C k) .auto Try.f141.results.toList (cB Try.f141) x = impl_size_string x := by kernel_rfl
theorem impl_size_string.ok (k : Nat) : ConOk Try.prog 141 (impl_size_string.con k) := sig_ok (p := .auto) (impl_size_string.cok k) Try.func141 (by kernel_rfl) (show Try.f141.body = some (cB Try.f141) by kernel_rfl) (by kernel_rfl) (by kernel_rfl) (plan_of (L := []) (by kernel_rfl) trivial) (fun x y h => (impl_size_string.ev k x).trans h)
def impl_isImage_1 (a1 : Str) : Option (Bool) :=
  some (((a1.length) : Int) != 8)
def impl_isImage_1.sig : Sig := { ps := [.val false .str (ros .str)], rs := [.val false [.v .bool]], ntmps := 6 }
def impl_isImage_1.con (k : Nat) : Con := impl_isImage_1.sig.con (fun x => impl_isImage_1 x)
def impl_isImage_1.C (k : Nat) : Ctx := { ti := TAB, con := conL [] }
theorem impl_isImage_1.cok (k : Nat) : CtxOk Try.prog (impl_isImage_1.C k) := ctx_ok TABok trivial
theorem impl_isImage_1.ev (k : Nat) (x : Prod' impl_isImage_1.sig.ins) : impl_isImage_1.sig.ev (impl_isImage_1.C k) .auto Try.f143.results.toList (cB Try.f143) x = impl_isImage_1 x := by kernel_rfl
theorem impl_isImage_1.ok (k : Nat) : ConOk Try.prog 143 (impl_isImage_1.con k) := sig_ok (p := .auto) (impl_isImage_1.cok k) Try.func143 (by kernel_rfl) (show Try.f143.body = some (cB Try.f143) by kernel_rfl) (by kernel_rfl) (by kernel_rfl) (plan_of (L := []) (by kernel_rfl) trivial) (fun x y h => (impl_isImage_1.ev k x).trans h)
def slices_IndexFunc_string_143.l0 : Nat → List Str → Int → Int → Option (Unit ⊕ Int)
  | 0, _, _, _ => none
  | j + 1, a1, a2, a3 =>
    bif decide (a3 < a2) then
      Option.bind (at? a1 a3) fun v4 =>
      Option.bind (impl_isImage_1 v4) fun v5 =>
      bif v5 then
        some (.inr a3)
      else
      slices_IndexFunc_string_143.l0 j a1 a2 (IntKind.wrap .i64 (a3 + 1))
    else
    some (.inl ())
def slices_IndexFunc_string_143 (k : Nat) (a1 : List Str) : Option (Int) :=
  Option.bind (slices_IndexFunc_string_143.l0 k a1 ((a1.length) : Int) 0) fun
    | .inl y2 =>
      some (-1)
    | .inr y3 =>
      some y3
def slices_IndexFunc_string_143.sig : Sig := { ps := [.val false (.sl .str) (ros (.sl .str)), .fn 143 []], rs := [.val false [.v (.int .i64)]], ntmps := 19 }
def slices_IndexFunc_string_143.con (k : Nat) : Con := slices_IndexFunc_string_143.sig.con (fun x => slices_IndexFunc_string_143 k x)
def slices_IndexFunc_string_143.C (k : Nat) : Ctx := { ti := TAB, con := conL [(143, impl_isImage_1.con k)] }
theorem slices_IndexFunc_string_143.cok (k : Nat) : CtxOk Try.prog (slices_IndexFunc_string_143.C k) := ctx_ok TABok ⟨impl_isImage_1.ok k, trivial⟩
def slices_IndexFunc_string_143.l0.ish : Shape := { tmps := [(0, .one (.bor .str)), (1, .fn 143 []), (7, .one (.v (.int .i64))), (8, .one (.v (.int .i64)))], slots := [], nb := 0 }
def slices_IndexFunc_string_143.l0.outs : List (Ex × Shape) := [(.exit 0, { tmps := [], slots := [], nb := 0 }), (.ret, { tmps := [(4, .one (.v (.int .i64)))], slots := [], nb := 0 })]
def slices_IndexFunc_string_143.l0.F (k j : Nat) (x : Prod' slices_IndexFunc_string_143.l0.ish.tys) : Option (Outs slices_IndexFunc_string_143.l0.outs) := slices_IndexFunc_string_143.l0 j x.1 x.2.1 x.2.2
def slices_IndexFunc_string_143.l0.s (k : Nat) : Summ := { n := 19, ish := slices_IndexFunc_string_143.l0.ish, outs := slices_IndexFunc_string_143.l0.outs, f := slices_IndexFunc_string_143.l0.F k k }
theorem slices_IndexFunc_string_143.l0.ev (k j : Nat) (x : Prod' slices_IndexFunc_string_143.l0.ish.tys) : V (slices_IndexFunc_string_143.C k) .auto (cO (cO (cR (cL (cR (cB Try.f173)))))) (mk slices_IndexFunc_string_143.l0.ish 19 x) (fun e st' => match e with | .nrm => (rd slices_IndexFunc_string_143.l0.ish st').bind (slices_IndexFunc_string_143.l0.F k j) | e => rdOut e st' slices_IndexFunc_string_143.l0.outs) = slices_IndexFunc_string_143.l0.F k (j + 1) x := by kernel_rfl
theorem slices_IndexFunc_string_143.l0.ok (k : Nat) : SumOk Try.prog (slices_IndexFunc_string_143.C k) (.loop (cO (cO (cR (cL (cR (cB Try.f173))))))) (slices_IndexFunc_string_143.l0.s k) := sum_ok (by kernel_rfl) (sum_loop (p := .auto) (F := slices_IndexFunc_string_143.l0.F k) (slices_IndexFunc_string_143.cok k) (by kernel_rfl) (plan_of (L := []) (by kernel_rfl) trivial) (fun _ => rfl) (fun j x y h => (slices_IndexFunc_string_143.l0.ev k j x).trans h) k rfl)
theorem slices_IndexFunc_string_143.ev (k : Nat) (x : Prod' slices_IndexFunc_string_143.sig.ins) : slices_IndexFunc_string_143.sig.ev (slices_IndexFunc_string_143.C k) (.two .auto (.two (.two .auto (.one (.sum (slices_IndexFunc_string_143.l0.s k)))) .auto)) Try.f173.results.toList (cB Try.f173) x = slices_IndexFunc_string_143 k x := by kernel_rfl
theorem slices_IndexFunc_string_143.ok (k : Nat) : ConOk Try.prog 173 (slices_IndexFunc_string_143.con k) := sig_ok (p := (.two .auto (.two (.two .auto (.one (.sum (slices_IndexFunc_string_143.l0.s k)))) .auto))) (slices_IndexFunc_string_143.cok k) Try.func173 (by kernel_rfl) (show Try.f173.body = some (cB Try.f173) by kernel_rfl) (by kernel_rfl) (by kernel_rfl) (plan_of (L := [(slices_IndexFunc_string_143.l0.s k, cO (cR (cL (cR (cB Try.f173)))))]) (by kernel_rfl) ⟨slices_IndexFunc_string_143.l0.ok k, trivial⟩) (fun x y h => (slices_IndexFunc_string_143.ev k x).trans h)
def slices_ContainsFunc_string_143 (k : Nat) (a1 : List Str) : Option (Bool) :=
  Option.bind (slices_IndexFunc_string_143 k a1) fun v2 =>
  some (decide (0 ≤ v2))
def slices_ContainsFunc_string_143.sig : Sig := { ps := [.val false (.sl .str) (ros (.sl .str)), .fn 143 []], rs := [.val false [.v .bool]], ntmps := 9 }
def slices_ContainsFunc_string_143.con (k : Nat) : Con := slices_ContainsFunc_string_143.sig.con (fun x => slices_ContainsFunc_string_143 k x)
def slices_ContainsFunc_string_143.C (k : Nat) : Ctx := { ti := TAB, con := conL [(173, slices_IndexFunc_string_143.con k)] }
theorem slices_ContainsFunc_string_143.cok (k : Nat) : CtxOk Try.prog (slices_ContainsFunc_string_143.C k) := ctx_ok TABok ⟨slices_IndexFunc_string_143.ok k, trivial⟩
theorem slices_ContainsFunc_string_143.ev (k : Nat) (x : Prod' slices_ContainsFunc_string_143.sig.ins) : slices_ContainsFunc_string_143.sig.ev (slices_ContainsFunc_string_143.C k) .auto Try.f142.results.toList (cB Try.f142) x = slices_ContainsFunc_string_143 k x := by kernel_rfl
theorem slices_ContainsFunc_string_143.ok (k : Nat) : ConOk Try.prog 142 (slices_ContainsFunc_string_143.con k) := sig_ok (p := .auto) (slices_ContainsFunc_string_143.cok k) Try.func142 (by kernel_rfl) (show Try.f142.body = some (cB Try.f142) by kernel_rfl) (by kernel_rfl) (by kernel_rfl) (plan_of (L := []) (by kernel_rfl) trivial) (fun x y h => (slices_ContainsFunc_string_143.ev k x).trans h)
def impl_isImage (k : Nat) (a1 : List Str) : Option (Bool) :=
  Option.bind (impl_size_string a1) fun v2 =>
  Option.bind (impl_isBlocks v2) fun v3 =>
  bif v3 then
    Option.bind (slices_ContainsFunc_string_143 k a1) fun v4 =>
    some (!v4)
  else
  some false
def impl_isImage.sig : Sig := { ps := [.val false (.sl .str) (ros (.sl .str))], rs := [.val false [.v .bool]], ntmps := 11 }
def impl_isImage.con (k : Nat) : Con := impl_isImage.sig.con (fun x => impl_isImage k x)
def impl_isImage.C (k : Nat) : Ctx := { ti := TAB, con := conL [(140, impl_isBlocks.con k), (141, impl_size_string.con k), (142, slices_ContainsFunc_string_143.con k)] }
theorem impl_isImage.cok (k : Nat) : CtxOk Try.prog (impl_isImage.C k) := ctx_ok TABok ⟨impl_isBlocks.ok k, impl_size_string.ok k, slices_ContainsFunc_string_143.ok k, trivial⟩
theorem impl_isImage.ev (k : Nat) (x : Prod' impl_isImage.sig.ins) : impl_isImage.sig.ev (impl_isImage.C k) .auto Try.f89.results.toList (cB Try.f89) x = impl_isImage k x := by kernel_rfl
theorem impl_isImage.ok (k : Nat) : ConOk Try.prog 89 (impl_isImage.con k) := sig_ok (p := .auto) (impl_isImage.cok k) Try.func89 (by kernel_rfl) (show Try.f89.body = some (cB Try.f89) by kernel_rfl) (by kernel_rfl) (by kernel_rfl) (plan_of (L := []) (by kernel_rfl) trivial) (fun x y h => (impl_isImage.ev k x).trans h)
/-- strings.Count of a text of one byte. -/
def strings_Count (a b : Str) : Option Int := match b with
  | [c] => some ((Lib.countByte a c : Nat) : Int)
  | _ => none
def strings_Count.sig : Sig := { ps := [.val false .str (ros .str), .val false .str (ros .str)], rs := [.val false [.v (.int .i64)]], ntmps := 0 }
def strings_Count.con (k : Nat) : Con := strings_Count.sig.con (fun x => strings_Count x.1 x.2)
theorem strings_Count.ok (k : Nat) : ConOk Try.prog 174 (strings_Count.con k) := hand_scal (enter_of Try.func174 (by kernel_rfl) (show Try.f174.body = some (cB Try.f174) by kernel_rfl)) (by kernel_rfl) (by kernel_rfl) (by
  intro (x : Str × Str) (y : Int) w h
  obtain ⟨a, b⟩ := x
  replace h : strings_Count a b = some y := h
  match b, h with
  | [], h => cases h
  | _ :: _ :: _, h => cases h
  | [c], h =>
    injection h with h
    subst h
    refine (Try.strings_Count_one (ba a) c w).mono ?_
    rintro e w' ⟨rfl, rfl⟩
    exact ⟨[.int .i64 ((Lib.countByte a c : Nat) : Int)], rfl, rfl, rfl, Go.RowKit.Below.refl _ _⟩)
def impl_letterOf (a1 : Str) : Option (Str) :=
  bif ((a1.length) : Int) != 8 then
    some ([])
  else
  Option.bind (at? a1 0) fun v2 =>
  bif decide ((v2.toNat : Int) < 97) then
    some ([])
  else
  Option.bind (at? a1 0) fun v3 =>
  bif decide (122 < (v3.toNat : Int)) then
    some ([])
  else
  let e4 := cut? a1 0 1
  Option.bind (e4) fun v5 =>
  Option.bind (strings_Count a1 v5) fun v6 =>
  bif v6 != 8 then
    some ([])
  else
  Option.bind (e4) fun v7 =>
  some v7
def impl_letterOf.sig : Sig := { ps := [.val false .str (ros .str)], rs := [.val false [.v .str]], ntmps := 25 }
def impl_letterOf.con (k : Nat) : Con := impl_letterOf.sig.con (fun x => impl_letterOf x)
def impl_letterOf.C (k : Nat) : Ctx := { ti := TAB, con := conL [(174, strings_Count.con k)] }
theorem impl_letterOf.cok (k : Nat) : CtxOk Try.prog (impl_letterOf.C k) := ctx_ok TABok ⟨strings_Count.ok k, trivial⟩
theorem impl_letterOf.ev (k : Nat) (x : Prod' impl_letterOf.sig.ins) : impl_letterOf.sig.ev (impl_letterOf.C k) .auto Try.f144.results.toList (cB Try.f144) x = impl_letterOf x := by kernel_rfl
theorem impl_letterOf.ok (k : Nat) : ConOk Try.prog 144 (impl_letterOf.con k) := sig_ok (p := .auto) (impl_letterOf.cok k) Try.func144 (by kernel_rfl) (show Try.f144.body = some (cB Try.f144) by kernel_rfl) (by kernel_rfl) (by kernel_rfl) (plan_of (L := []) (by kernel_rfl) trivial) (fun x y h => (impl_letterOf.ev k x).trans h)
def impl_imageText.l0 : Nat → Str → List Str → Int → Int → Option (Str ⊕ Str)
  | 0, _, _, _, _ => none
  | j + 1, a1, a2, a3, a4 =>
    bif decide (a4 < a3) then
      Option.bind (at? a2 a4) fun v5 =>
      Option.bind (impl_letterOf v5) fun v6 =>
      bif v6 == [] then
        some (.inr ([]))
      else
      Option.bind (cat? a1 v6) fun v7 =>
      impl_imageText.l0 j v7 a2 a3 (IntKind.wrap .i64 (a4 + 1))
    else
    some (.inl a1)
def impl_imageText (k : Nat) (a1 : List Str) : Option (Str) :=
  Option.bind (impl_imageText.l0 k [] a1 ((a1.length) : Int) 0) fun
    | .inl y2 =>
      some y2
    | .inr y3 =>
      some y3
def impl_imageText.sig : Sig := { ps := [.val false (.sl .str) (ros (.sl .str))], rs := [.val false [.v .str]], ntmps := 22 }
def impl_imageText.con (k : Nat) : Con := impl_imageText.sig.con (fun x => impl_imageText k x)
def impl_imageText.C (k : Nat) : Ctx := { ti := TAB, con := conL [(144, impl_letterOf.con k)] }
theorem impl_imageText.cok (k : Nat) : CtxOk Try.prog (impl_imageText.C k) := ctx_ok TABok ⟨impl_letterOf.ok k, trivial⟩
def impl_imageText.l0.ish : Shape := { tmps := [(3, .one (.v .str)), (7, .one (.bor .str)), (8, .one (.v (.int .i64))), (9, .one (.v (.int .i64)))], slots := [], nb := 0 }
def impl_imageText.l0.outs : List (Ex × Shape) := [(.exit 0, { tmps := [(3, .one (.v .str))], slots := [], nb := 0 }), (.ret, { tmps := [(2, .one (.v .str))], slots := [], nb := 0 })]
def impl_imageText.l0.F (k j : Nat) (x : Prod' impl_imageText.l0.ish.tys) : Option (Outs impl_imageText.l0.outs) := impl_imageText.l0 j x.1 x.2.1 x.2.2.1 x.2.2.2
def impl_imageText.l0.s (k : Nat) : Summ := { n := 22, ish := impl_imageText.l0.ish, outs := impl_imageText.l0.outs, f := impl_imageText.l0.F k k }
theorem impl_imageText.l0.ev (k j : Nat) (x : Prod' impl_imageText.l0.ish.tys) : V (impl_imageText.C k) .auto (cO (cO (cR (cL (cR (cR (cB Try.f90))))))) (mk impl_imageText.l0.ish 22 x) (fun e st' => match e with | .nrm => (rd impl_imageText.l0.ish st').bind (impl_imageText.l0.F k j) | e => rdOut e st' impl_imageText.l0.outs) = impl_imageText.l0.F k (j + 1) x := by kernel_rfl
theorem impl_imageText.l0.ok (k : Nat) : SumOk Try.prog (impl_imageText.C k) (.loop (cO (cO (cR (cL (cR (cR (cB Try.f90)))))))) (impl_imageText.l0.s k) := sum_ok (by kernel_rfl) (sum_loop (p := .auto) (F := impl_imageText.l0.F k) (impl_imageText.cok k) (by kernel_rfl) (plan_of (L := []) (by kernel_rfl) trivial) (fun _ => rfl) (fun j x y h => (impl_imageText.l0.ev k j x).trans h) k rfl)
theorem impl_imageText.ev (k : Nat) (x : Prod' impl_imageText.sig.ins) : impl_imageText.sig.ev (impl_imageText.C k) (.two .auto (.two .auto (.two (.two .auto (.one (.sum (impl_imageText.l0.s k)))) .auto))) Try.f90.results.toList (cB Try.f90) x = impl_imageText k x := by kernel_rfl
theorem impl_imageText.ok (k : Nat) : ConOk Try.prog 90 (impl_imageText.con k) := sig_ok (p := (.two .auto (.two .auto (.two (.two .auto (.one (.sum (impl_imageText.l0.s k)))) .auto)))) (impl_imageText.cok k) Try.func90 (by kernel_rfl) (show Try.f90.body = some (cB Try.f90) by kernel_rfl) (by kernel_rfl) (by kernel_rfl) (plan_of (L := [(impl_imageText.l0.s k, cO (cR (cL (cR (cR (cB Try.f90))))))]) (by kernel_rfl) ⟨impl_imageText.l0.ok k, trivial⟩) (fun x y h => (impl_imageText.ev k x).trans h)
/-- strings.Repeat where the copies fit into memory. -/
def strings_Repeat (a : Str) (n : Int) : Option Str := if 0 ≤ n ∧ (a.length : Int) * n ≤ 140737488355328 ∧ n ≤ 9223372036854775807 then some (Lib.repeatL a n.toNat) else none
def strings_Repeat.sig : Sig := { ps := [.val false .str (ros .str), .val false (.int .i64) (ros (.int .i64))], rs := [.val false [.v .str]], ntmps := 0 }
def strings_Repeat.con (k : Nat) : Con := strings_Repeat.sig.con (fun x => strings_Repeat x.1 x.2)
theorem strings_Repeat.ok (k : Nat) : ConOk Try.prog 168 (strings_Repeat.con k) := hand_scal (enter_of Try.func168 (by kernel_rfl) (show Try.f168.body = some (cB Try.f168) by kernel_rfl)) (by kernel_rfl) (by kernel_rfl) (by
  intro (x : Str × Int) (y : Str) w h
  obtain ⟨a, n⟩ := x
  replace h : strings_Repeat a n = some y := h
  unfold strings_Repeat at h
  split at h
  · rename_i h0
    obtain ⟨h0, h1, h2⟩ := h0
    injection h with h
    subst h
    obtain ⟨c, rfl⟩ : ∃ c : Nat, n = (c : Int) := ⟨n.toNat, by omega⟩
    have h3 : ((a.length * c : Nat) : Int) ≤ 140737488355328 := by rw [Int.natCast_mul]; exact h1
    have h1' : a.length * c ≤ 140737488355328 := by omega
    refine (Try.strings_Repeat (ba a) c w (by omega) h1').mono ?_
    rintro e w' ⟨rfl, bel⟩
    exact ⟨[.string (ba (Lib.repeatL a c))], rfl, rfl, rfl, bel⟩
  · cases h)
def impl_imageRead.l0 : Nat → Str → Int → Int → List Str → Option ((List Str))
  | 0, _, _, _, _ => none
  | j + 1, a1, a2, a3, a4 =>
    bif decide (a3 < a2) then
      let e5 := IntKind.wrap .i64 (a3 + 1)
      Option.bind (cut? a1 a3 e5) fun v6 =>
      Option.bind (strings_Repeat v6 8) fun v7 =>
      Option.bind (app? 16 a4 [v7]) fun v8 =>
      impl_imageRead.l0 j a1 a2 e5 v8
    else
    some a4
def impl_imageRead (k : Nat) (a1 : Str) : Option (List Str × Bool) :=
  bif decide (8 < ((a1.length) : Int)) then
    some ([], false)
  else
  Option.bind (impl_imageRead.l0 k a1 ((a1.length) : Int) 0 []) fun y2 =>
  Option.bind (impl_isImage k y2) fun v3 =>
  bif v3 then
    Option.bind (impl_imageText k y2) fun v4 =>
    some (y2, v4 == a1)
  else
  some (y2, false)
def impl_imageRead.sig : Sig := { ps := [.val false .str (ros .str)], rs := [.val false [.own 9 .str], .val false [.v .bool]], ntmps := 33 }
def impl_imageRead.con (k : Nat) : Con := impl_imageRead.sig.con (fun x => impl_imageRead k x)
def impl_imageRead.C (k : Nat) : Ctx := { ti := TAB, con := conL [(89, impl_isImage.con k), (90, impl_imageText.con k), (168, strings_Repeat.con k)] }
theorem impl_imageRead.cok (k : Nat) : CtxOk Try.prog (impl_imageRead.C k) := ctx_ok TABok ⟨impl_isImage.ok k, impl_imageText.ok k, strings_Repeat.ok k, trivial⟩
def impl_imageRead.l0.ish : Shape := { tmps := [(0, .one (.v .str)), (4, .one (.own 0)), (10, .one (.v (.int .i64))), (11, .one (.v (.int .i64)))], slots := [(0, .arr false 9 .str)], nb := 1 }
def impl_imageRead.l0.outs : List (Ex × Shape) := [(.exit 0, { tmps := [(4, .one (.own 1))], slots := [(1, .arr false 9 .str)], nb := 2 })]
def impl_imageRead.l0.F (k j : Nat) (x : Prod' impl_imageRead.l0.ish.tys) : Option (Outs impl_imageRead.l0.outs) := impl_imageRead.l0 j x.1 x.2.1 x.2.2.1 x.2.2.2
def impl_imageRead.l0.s (k : Nat) : Summ := { n := 33, ish := impl_imageRead.l0.ish, outs := impl_imageRead.l0.outs, f := impl_imageRead.l0.F k k }
theorem impl_imageRead.l0.ev (k j : Nat) (x : Prod' impl_imageRead.l0.ish.tys) : V (impl_imageRead.C k) .auto (cO (cO (cR (cL (cR (cR (cR (cB Try.f126)))))))) (mk impl_imageRead.l0.ish 33 x) (fun e st' => match e with | .nrm => (rd impl_imageRead.l0.ish st').bind (impl_imageRead.l0.F k j) | e => rdOut e st' impl_imageRead.l0.outs) = impl_imageRead.l0.F k (j + 1) x := by kernel_rfl
theorem impl_imageRead.l0.ok (k : Nat) : SumOk Try.prog (impl_imageRead.C k) (.loop (cO (cO (cR (cL (cR (cR (cR (cB Try.f126))))))))) (impl_imageRead.l0.s k) := sum_ok (by kernel_rfl) (sum_loop (p := .auto) (F := impl_imageRead.l0.F k) (impl_imageRead.cok k) (by kernel_rfl) (plan_of (L := []) (by kernel_rfl) trivial) (fun _ => rfl) (fun j x y h => (impl_imageRead.l0.ev k j x).trans h) k rfl)
theorem impl_imageRead.ev (k : Nat) (x : Prod' impl_imageRead.sig.ins) : impl_imageRead.sig.ev (impl_imageRead.C k) (.two .auto (.two .auto (.two .auto (.two (.two .auto (.one (.sum (impl_imageRead.l0.s k)))) .auto)))) Try.f126.results.toList (cB Try.f126) x = impl_imageRead k x := by kernel_rfl
theorem impl_imageRead.ok (k : Nat) : ConOk Try.prog 126 (impl_imageRead.con k) := sig_ok (p := (.two .auto (.two .auto (.two .auto (.two (.two .auto (.one (.sum (impl_imageRead.l0.s k)))) .auto))))) (impl_imageRead.cok k) Try.func126 (by kernel_rfl) (show Try.f126.body = some (cB Try.f126) by kernel_rfl) (by kernel_rfl) (by kernel_rfl) (plan_of (L := [(impl_imageRead.l0.s k, cO (cR (cL (cR (cR (cR (cB Try.f126)))))))]) (by kernel_rfl) ⟨impl_imageRead.l0.ok k, trivial⟩) (fun x y h => (impl_imageRead.ev k x).trans h)
def impl_ImageRead (k : Nat) (a1 : Str) : Option (List Str × Int) :=
  bif decide (8000 < ((a1.length) : Int)) then
    some ([], 2)
  else
  Option.bind (impl_imageRead k a1) fun v2 =>
  bif !v2.2 then
    some ([], 3)
  else
  some (v2.1, 0)
def impl_ImageRead.sig : Sig := { ps := [.val false .str (ros .str)], rs := [.val true [.own 9 .str, .v (.int .i64)]], ntmps := 19 }
def impl_ImageRead.con (k : Nat) : Con := impl_ImageRead.sig.con (fun x => impl_ImageRead k x)
def impl_ImageRead.C (k : Nat) : Ctx := { ti := TAB, con := conL [(126, impl_imageRead.con k)] }
theorem impl_ImageRead.cok (k : Nat) : CtxOk Try.prog (impl_ImageRead.C k) := ctx_ok TABok ⟨impl_imageRead.ok k, trivial⟩
theorem impl_ImageRead.ev (k : Nat) (x : Prod' impl_ImageRead.sig.ins) : impl_ImageRead.sig.ev (impl_ImageRead.C k) .auto Try.f66.results.toList (cB Try.f66) x = impl_ImageRead k x := by kernel_rfl
theorem impl_ImageRead.ok (k : Nat) : ConOk Try.prog 66 (impl_ImageRead.con k) := sig_ok (p := .auto) (impl_ImageRead.cok k) Try.func66 (by kernel_rfl) (show Try.f66.body = some (cB Try.f66) by kernel_rfl) (by kernel_rfl) (by kernel_rfl) (plan_of (L := []) (by kernel_rfl) trivial) (fun x y h => (impl_ImageRead.ev k x).trans h)
def laws_eqStringS.l0 : Nat → List Str → List Str → Int → Option (Unit ⊕ Bool)
  | 0, _, _, _ => none
  | j + 1, a1, a2, a3 =>
    bif decide (a3 < ((a1.length) : Int)) then
      Option.bind (at? a1 a3) fun v4 =>
      Option.bind (at? a2 a3) fun v5 =>
      bif !(v4 == v5) then
        some (.inr false)
      else
      laws_eqStringS.l0 j a1 a2 (IntKind.wrap .i64 (a3 + 1))
    else
    some (.inl ())
def laws_eqStringS (k : Nat) (a1 : List Str) (a2 : List Str) : Option (Bool) :=
  bif ((a1.length) : Int) != ((a2.length) : Int) then
    some false
  else
  Option.bind (laws_eqStringS.l0 k a1 a2 0) fun
    | .inl y3 =>
      some true
    | .inr y4 =>
      some y4
def laws_eqStringS.sig : Sig := { ps := [.val false (.sl .str) (ros (.sl .str)), .val false (.sl .str) (ros (.sl .str))], rs := [.val false [.v .bool]], ntmps := 26 }
def laws_eqStringS.con (k : Nat) : Con := laws_eqStringS.sig.con (fun x => laws_eqStringS k x.1 x.2)
def laws_eqStringS.C (k : Nat) : Ctx := { ti := TAB, con := conL [] }
theorem laws_eqStringS.cok (k : Nat) : CtxOk Try.prog (laws_eqStringS.C k) := ctx_ok TABok trivial
def laws_eqStringS.l0.ish : Shape := { tmps := [(0, .one (.bor .str)), (1, .one (.bor .str)), (5, .one (.v (.int .i64)))], slots := [], nb := 0 }
def laws_eqStringS.l0.outs : List (Ex × Shape) := [(.exit 0, { tmps := [], slots := [], nb := 0 }), (.ret, { tmps := [(4, .one (.v .bool))], slots := [], nb := 0 })]
def laws_eqStringS.l0.F (k j : Nat) (x : Prod' laws_eqStringS.l0.ish.tys) : Option (Outs laws_eqStringS.l0.outs) := laws_eqStringS.l0 j x.1 x.2.1 x.2.2
def laws_eqStringS.l0.s (k : Nat) : Summ := { n := 26, ish := laws_eqStringS.l0.ish, outs := laws_eqStringS.l0.outs, f := laws_eqStringS.l0.F k k }
theorem laws_eqStringS.l0.ev (k j : Nat) (x : Prod' laws_eqStringS.l0.ish.tys) : V (laws_eqStringS.C k) .auto (cO (cO (cR (cL (cR (cR (cB Try.f35))))))) (mk laws_eqStringS.l0.ish 26 x) (fun e st' => match e with | .nrm => (rd laws_eqStringS.l0.ish st').bind (laws_eqStringS.l0.F k j) | e => rdOut e st' laws_eqStringS.l0.outs) = laws_eqStringS.l0.F k (j + 1) x := by kernel_rfl
theorem laws_eqStringS.l0.ok (k : Nat) : SumOk Try.prog (laws_eqStringS.C k) (.loop (cO (cO (cR (cL (cR (cR (cB Try.f35)))))))) (laws_eqStringS.l0.s k) := sum_ok (by kernel_rfl) (sum_loop (p := .auto) (F := laws_eqStringS.l0.F k) (laws_eqStringS.cok k) (by kernel_rfl) (plan_of (L := []) (by kernel_rfl) trivial) (fun _ => rfl) (fun j x y h => (laws_eqStringS.l0.ev k j x).trans h) k rfl)
theorem laws_eqStringS.ev (k : Nat) (x : Prod' laws_eqStringS.sig.ins) : laws_eqStringS.sig.ev (laws_eqStringS.C k) (.two .auto (.two .auto (.two (.two .auto (.one (.sum (laws_eqStringS.l0.s k)))) .auto))) Try.f35.results.toList (cB Try.f35) x = laws_eqStringS k x.1 x.2 := by kernel_rfl
theorem laws_eqStringS.ok (k : Nat) : ConOk Try.prog 35 (laws_eqStringS.con k) := sig_ok (p := (.two .auto (.two .auto (.two (.two .auto (.one (.sum (laws_eqStringS.l0.s k)))) .auto)))) (laws_eqStringS.cok k) Try.func35 (by kernel_rfl) (show Try.f35.body = some (cB Try.f35) by kernel_rfl) (by kernel_rfl) (by kernel_rfl) (plan_of (L := [(laws_eqStringS.l0.s k, cO (cR (cL (cR (cR (cB Try.f35))))))]) (by kernel_rfl) ⟨laws_eqStringS.l0.ok k, trivial⟩) (fun x y h => (laws_eqStringS.ev k x).trans h)
def laws_eqImageOut (k : Nat) (a1 : G103) (a2 : G103) : Option (Bool) :=
  Option.bind (laws_eqStringS k a1.1 a2.1) fun v3 =>
  bif !v3 then
    some false
  else
  bif a1.2 != a2.2 then
    some false
  else
  some true
def laws_eqImageOut.sig : Sig := { ps := [.val true T103 (ros T103), .val true T103 (ros T103)], rs := [.val false [.v .bool]], ntmps := 16 }
def laws_eqImageOut.con (k : Nat) : Con := laws_eqImageOut.sig.con (fun x => laws_eqImageOut k x.1 x.2)
def laws_eqImageOut.C (k : Nat) : Ctx := { ti := TAB, con := conL [(35, laws_eqStringS.con k)] }
theorem laws_eqImageOut.cok (k : Nat) : CtxOk Try.prog (laws_eqImageOut.C k) := ctx_ok TABok ⟨laws_eqStringS.ok k, trivial⟩
theorem laws_eqImageOut.ev (k : Nat) (x : Prod' laws_eqImageOut.sig.ins) : laws_eqImageOut.sig.ev (laws_eqImageOut.C k) .auto Try.f67.results.toList (cB Try.f67) x = laws_eqImageOut k x.1 x.2 := by kernel_rfl
theorem laws_eqImageOut.ok (k : Nat) : ConOk Try.prog 67 (laws_eqImageOut.con k) := sig_ok (p := .auto) (laws_eqImageOut.cok k) Try.func67 (by kernel_rfl) (show Try.f67.body = some (cB Try.f67) by kernel_rfl) (by kernel_rfl) (by kernel_rfl) (plan_of (L := []) (by kernel_rfl) trivial) (fun x y h => (laws_eqImageOut.ev k x).trans h)
def laws_markText.l0 : Nat → Int → Str → Option (Str)
  | 0, _, _ => none
  | j + 1, a1, a2 =>
    bif decide (0 < a1) then
      Option.bind (nz? 10) fun v3 =>
      Option.bind (cat? (listByte [(IntKind.wrap .u8 (IntKind.wrap .i64 (48 + (Int.tmod a1 10))))]) a2) fun v4 =>
      Option.bind (nz? 10) fun v5 =>
      laws_markText.l0 j (IntKind.wrap .i64 (Int.tdiv a1 10)) v4
    else
    some a2
def laws_markText (k : Nat) (a1 : Int) : Option (Str) :=
  bif decide (a1 ≤ 0) then
    some ([109, 48])
  else
  Option.bind (laws_markText.l0 k a1 []) fun y2 =>
  Option.bind (cat? [109] y2) fun v3 =>
  some v3
def laws_markText.sig : Sig := { ps := [.val false (.int .i64) (ros (.int .i64))], rs := [.val false [.v .str]], ntmps := 20 }
def laws_markText.con (k : Nat) : Con := laws_markText.sig.con (fun x => laws_markText k x)
def laws_markText.C (k : Nat) : Ctx := { ti := TAB, con := conL [] }
theorem laws_markText.cok (k : Nat) : CtxOk Try.prog (laws_markText.C k) := ctx_ok TABok trivial
def laws_markText.l0.ish : Shape := { tmps := [(0, .one (.v (.int .i64))), (3, .one (.v .str))], slots := [], nb := 0 }
def laws_markText.l0.outs : List (Ex × Shape) := [(.exit 0, { tmps := [(3, .one (.v .str))], slots := [], nb := 0 })]
def laws_markText.l0.F (k j : Nat) (x : Prod' laws_markText.l0.ish.tys) : Option (Outs laws_markText.l0.outs) := laws_markText.l0 j x.1 x.2
def laws_markText.l0.s (k : Nat) : Summ := { n := 20, ish := laws_markText.l0.ish, outs := laws_markText.l0.outs, f := laws_markText.l0.F k k }
theorem laws_markText.l0.ev (k j : Nat) (x : Prod' laws_markText.l0.ish.tys) : V (laws_markText.C k) .auto (cO (cO (cL (cR (cR (cR (cB Try.f169))))))) (mk laws_markText.l0.ish 20 x) (fun e st' => match e with | .nrm => (rd laws_markText.l0.ish st').bind (laws_markText.l0.F k j) | e => rdOut e st' laws_markText.l0.outs) = laws_markText.l0.F k (j + 1) x := by kernel_rfl
theorem laws_markText.l0.ok (k : Nat) : SumOk Try.prog (laws_markText.C k) (.loop (cO (cO (cL (cR (cR (cR (cB Try.f169)))))))) (laws_markText.l0.s k) := sum_ok (by kernel_rfl) (sum_loop (p := .auto) (F := laws_markText.l0.F k) (laws_markText.cok k) (by kernel_rfl) (plan_of (L := []) (by kernel_rfl) trivial) (fun _ => rfl) (fun j x y h => (laws_markText.l0.ev k j x).trans h) k rfl)
theorem laws_markText.ev (k : Nat) (x : Prod' laws_markText.sig.ins) : laws_markText.sig.ev (laws_markText.C k) (.two .auto (.two .auto (.two .auto (.two (.one (.sum (laws_markText.l0.s k))) .auto)))) Try.f169.results.toList (cB Try.f169) x = laws_markText k x := by kernel_rfl
theorem laws_markText.ok (k : Nat) : ConOk Try.prog 169 (laws_markText.con k) := sig_ok (p := (.two .auto (.two .auto (.two .auto (.two (.one (.sum (laws_markText.l0.s k))) .auto))))) (laws_markText.cok k) Try.func169 (by kernel_rfl) (show Try.f169.body = some (cB Try.f169) by kernel_rfl) (by kernel_rfl) (by kernel_rfl) (plan_of (L := [(laws_markText.l0.s k, cO (cL (cR (cR (cR (cB Try.f169))))))]) (by kernel_rfl) ⟨laws_markText.l0.ok k, trivial⟩) (fun x y h => (laws_markText.ev k x).trans h)
def laws_markStringS.l0 (k : Nat) : Nat → Int → Int → List Str → Option ((Int × List Str))
  | 0, _, _, _ => none
  | j + 1, a1, a2, a3 =>
    bif decide (a2 < ((a3.length) : Int)) then
      Option.bind (laws_markText k a1) fun v4 =>
      Option.bind (at? a3 a2) fun v5 =>
      Option.bind (at? a3 a2) fun v6 =>
      laws_markStringS.l0 k j (IntKind.wrap .i64 (a1 + 1)) (IntKind.wrap .i64 (a2 + 1)) (List.set a3 (Int.toNat a2) v4)
    else
    some (a1, a3)
def laws_markStringS (k : Nat) (a1 : List Str) (a2 : Int) : Option (Int × List Str) :=
  Option.bind (laws_markStringS.l0 k k a2 0 a1) fun y3 =>
  some (y3.1, y3.2)
def laws_markStringS.sig : Sig := { ps := [.val false (.sl .str) [.own 9], .val false (.int .i64) (ros (.int .i64))], rs := [.val false [.v (.int .i64)]], ntmps := 20 }
def laws_markStringS.con (k : Nat) : Con := laws_markStringS.sig.con (fun x => laws_markStringS k x.1 x.2)
def laws_markStringS.C (k : Nat) : Ctx := { ti := TAB, con := conL [(169, laws_markText.con k)] }
theorem laws_markStringS.cok (k : Nat) : CtxOk Try.prog (laws_markStringS.C k) := ctx_ok TABok ⟨laws_markText.ok k, trivial⟩
def laws_markStringS.l0.ish : Shape := { tmps := [(0, .one (.pin 0)), (1, .one (.v (.int .i64))), (5, .one (.v (.int .i64)))], slots := [(0, .pin 9 .str)], nb := 1 }
def laws_markStringS.l0.outs : List (Ex × Shape) := [(.exit 0, { tmps := [(1, .one (.v (.int .i64)))], slots := [(0, .pin 9 .str)], nb := 1 })]
def laws_markStringS.l0.F (k j : Nat) (x : Prod' laws_markStringS.l0.ish.tys) : Option (Outs laws_markStringS.l0.outs) := laws_markStringS.l0 k j x.1 x.2.1 x.2.2
def laws_markStringS.l0.s (k : Nat) : Summ := { n := 20, ish := laws_markStringS.l0.ish, outs := laws_markStringS.l0.outs, f := laws_markStringS.l0.F k k }
theorem laws_markStringS.l0.ev (k j : Nat) (x : Prod' laws_markStringS.l0.ish.tys) : V (laws_markStringS.C k) .auto (cO (cO (cR (cL (cR (cB Try.f127)))))) (mk laws_markStringS.l0.ish 20 x) (fun e st' => match e with | .nrm => (rd laws_markStringS.l0.ish st').bind (laws_markStringS.l0.F k j) | e => rdOut e st' laws_markStringS.l0.outs) = laws_markStringS.l0.F k (j + 1) x := by kernel_rfl
theorem laws_markStringS.l0.ok (k : Nat) : SumOk Try.prog (laws_markStringS.C k) (.loop (cO (cO (cR (cL (cR (cB Try.f127))))))) (laws_markStringS.l0.s k) := sum_ok (by kernel_rfl) (sum_loop (p := .auto) (F := laws_markStringS.l0.F k) (laws_markStringS.cok k) (by kernel_rfl) (plan_of (L := []) (by kernel_rfl) trivial) (fun _ => rfl) (fun j x y h => (laws_markStringS.l0.ev k j x).trans h) k rfl)
theorem laws_markStringS.ev (k : Nat) (x : Prod' laws_markStringS.sig.ins) : laws_markStringS.sig.ev (laws_markStringS.C k) (.two .auto (.two (.two .auto (.one (.sum (laws_markStringS.l0.s k)))) .auto)) Try.f127.results.toList (cB Try.f127) x = laws_markStringS k x.1 x.2 := by kernel_rfl
theorem laws_markStringS.ok (k : Nat) : ConOk Try.prog 127 (laws_markStringS.con k) := sig_ok (p := (.two .auto (.two (.two .auto (.one (.sum (laws_markStringS.l0.s k)))) .auto))) (laws_markStringS.cok k) Try.func127 (by kernel_rfl) (show Try.f127.body = some (cB Try.f127) by kernel_rfl) (by kernel_rfl) (by kernel_rfl) (plan_of (L := [(laws_markStringS.l0.s k, cO (cR (cL (cR (cB Try.f127)))))]) (by kernel_rfl) ⟨laws_markStringS.l0.ok k, trivial⟩) (fun x y h => (laws_markStringS.ev k x).trans h)
def laws_markImageOut (k : Nat) (a1 : G103) (a2 : Int) : Option (Int × List Str) :=
  Option.bind (laws_markStringS k a1.1 a2) fun v3 =>
  some (v3.1, v3.2)
def laws_markImageOut.sig : Sig := { ps := [.val true T103 [.own 9, .v], .val false (.int .i64) (ros (.int .i64))], rs := [.val false [.v (.int .i64)]], ntmps := 10 }
def laws_markImageOut.con (k : Nat) : Con := laws_markImageOut.sig.con (fun x => laws_markImageOut k x.1 x.2)
def laws_markImageOut.C (k : Nat) : Ctx := { ti := TAB, con := conL [(127, laws_markStringS.con k)] }
theorem laws_markImageOut.cok (k : Nat) : CtxOk Try.prog (laws_markImageOut.C k) := ctx_ok TABok ⟨laws_markStringS.ok k, trivial⟩
theorem laws_markImageOut.ev (k : Nat) (x : Prod' laws_markImageOut.sig.ins) : laws_markImageOut.sig.ev (laws_markImageOut.C k) .auto Try.f68.results.toList (cB Try.f68) x = laws_markImageOut k x.1 x.2 := by kernel_rfl
theorem laws_markImageOut.ok (k : Nat) : ConOk Try.prog 68 (laws_markImageOut.con k) := sig_ok (p := .auto) (laws_markImageOut.cok k) Try.func68 (by kernel_rfl) (show Try.f68.body = some (cB Try.f68) by kernel_rfl) (by kernel_rfl) (by kernel_rfl) (plan_of (L := []) (by kernel_rfl) trivial) (fun x y h => (laws_markImageOut.ev k x).trans h)
def laws_heldStringS.l0 (k : Nat) : Nat → List Str → Int → Int → Option (Int ⊕ Int)
  | 0, _, _, _ => none
  | j + 1, a1, a2, a3 =>
    bif decide (a3 < ((a1.length) : Int)) then
      Option.bind (at? a1 a3) fun v4 =>
      Option.bind (laws_markText k a2) fun v5 =>
      bif !(v4 == v5) then
        some (.inr (-1))
      else
      laws_heldStringS.l0 k j a1 (IntKind.wrap .i64 (a2 + 1)) (IntKind.wrap .i64 (a3 + 1))
    else
    some (.inl a2)
def laws_heldStringS (k : Nat) (a1 : List Str) (a2 : Int) : Option (Int) :=
  Option.bind (laws_heldStringS.l0 k k a1 a2 0) fun
    | .inl y3 =>
      some y3
    | .inr y4 =>
      some y4
def laws_heldStringS.sig : Sig := { ps := [.val false (.sl .str) (ros (.sl .str)), .val false (.int .i64) (ros (.int .i64))], rs := [.val false [.v (.int .i64)]], ntmps := 22 }
def laws_heldStringS.con (k : Nat) : Con := laws_heldStringS.sig.con (fun x => laws_heldStringS k x.1 x.2)
def laws_heldStringS.C (k : Nat) : Ctx := { ti := TAB, con := conL [(169, laws_markText.con k)] }
theorem laws_heldStringS.cok (k : Nat) : CtxOk Try.prog (laws_heldStringS.C k) := ctx_ok TABok ⟨laws_markText.ok k, trivial⟩
def laws_heldStringS.l0.ish : Shape := { tmps := [(0, .one (.bor .str)), (1, .one (.v (.int .i64))), (5, .one (.v (.int .i64)))], slots := [], nb := 0 }
def laws_heldStringS.l0.outs : List (Ex × Shape) := [(.exit 0, { tmps := [(1, .one (.v (.int .i64)))], slots := [], nb := 0 }), (.ret, { tmps := [(4, .one (.v (.int .i64)))], slots := [], nb := 0 })]
def laws_heldStringS.l0.F (k j : Nat) (x : Prod' laws_heldStringS.l0.ish.tys) : Option (Outs laws_heldStringS.l0.outs) := laws_heldStringS.l0 k j x.1 x.2.1 x.2.2
def laws_heldStringS.l0.s (k : Nat) : Summ := { n := 22, ish := laws_heldStringS.l0.ish, outs := laws_heldStringS.l0.outs, f := laws_heldStringS.l0.F k k }
theorem laws_heldStringS.l0.ev (k j : Nat) (x : Prod' laws_heldStringS.l0.ish.tys) : V (laws_heldStringS.C k) .auto (cO (cO (cR (cL (cR (cB Try.f128)))))) (mk laws_heldStringS.l0.ish 22 x) (fun e st' => match e with | .nrm => (rd laws_heldStringS.l0.ish st').bind (laws_heldStringS.l0.F k j) | e => rdOut e st' laws_heldStringS.l0.outs) = laws_heldStringS.l0.F k (j + 1) x := by kernel_rfl
theorem laws_heldStringS.l0.ok (k : Nat) : SumOk Try.prog (laws_heldStringS.C k) (.loop (cO (cO (cR (cL (cR (cB Try.f128))))))) (laws_heldStringS.l0.s k) := sum_ok (by kernel_rfl) (sum_loop (p := .auto) (F := laws_heldStringS.l0.F k) (laws_heldStringS.cok k) (by kernel_rfl) (plan_of (L := []) (by kernel_rfl) trivial) (fun _ => rfl) (fun j x y h => (laws_heldStringS.l0.ev k j x).trans h) k rfl)
theorem laws_heldStringS.ev (k : Nat) (x : Prod' laws_heldStringS.sig.ins) : laws_heldStringS.sig.ev (laws_heldStringS.C k) (.two .auto (.two (.two .auto (.one (.sum (laws_heldStringS.l0.s k)))) .auto)) Try.f128.results.toList (cB Try.f128) x = laws_heldStringS k x.1 x.2 := by kernel_rfl
theorem laws_heldStringS.ok (k : Nat) : ConOk Try.prog 128 (laws_heldStringS.con k) := sig_ok (p := (.two .auto (.two (.two .auto (.one (.sum (laws_heldStringS.l0.s k)))) .auto))) (laws_heldStringS.cok k) Try.func128 (by kernel_rfl) (show Try.f128.body = some (cB Try.f128) by kernel_rfl) (by kernel_rfl) (by kernel_rfl) (plan_of (L := [(laws_heldStringS.l0.s k, cO (cR (cL (cR (cB Try.f128)))))]) (by kernel_rfl) ⟨laws_heldStringS.l0.ok k, trivial⟩) (fun x y h => (laws_heldStringS.ev k x).trans h)
def laws_heldImageOut (k : Nat) (a1 : G103) (a2 : Int) : Option (Int) :=
  Option.bind (laws_heldStringS k a1.1 a2) fun v3 =>
  bif decide (v3 < 0) then
    some (-1)
  else
  some v3
def laws_heldImageOut.sig : Sig := { ps := [.val true T103 (ros T103), .val false (.int .i64) (ros (.int .i64))], rs := [.val false [.v (.int .i64)]], ntmps := 12 }
def laws_heldImageOut.con (k : Nat) : Con := laws_heldImageOut.sig.con (fun x => laws_heldImageOut k x.1 x.2)
def laws_heldImageOut.C (k : Nat) : Ctx := { ti := TAB, con := conL [(128, laws_heldStringS.con k)] }
theorem laws_heldImageOut.cok (k : Nat) : CtxOk Try.prog (laws_heldImageOut.C k) := ctx_ok TABok ⟨laws_heldStringS.ok k, trivial⟩
theorem laws_heldImageOut.ev (k : Nat) (x : Prod' laws_heldImageOut.sig.ins) : laws_heldImageOut.sig.ev (laws_heldImageOut.C k) .auto Try.f69.results.toList (cB Try.f69) x = laws_heldImageOut k x.1 x.2 := by kernel_rfl
theorem laws_heldImageOut.ok (k : Nat) : ConOk Try.prog 69 (laws_heldImageOut.con k) := sig_ok (p := .auto) (laws_heldImageOut.cok k) Try.func69 (by kernel_rfl) (show Try.f69.body = some (cB Try.f69) by kernel_rfl) (by kernel_rfl) (by kernel_rfl) (plan_of (L := []) (by kernel_rfl) trivial) (fun x y h => (laws_heldImageOut.ev k x).trans h)
def laws_FnExactImageRead (k : Nat) (a1 : Str) : Option (Bool) :=
  bif decide (1048576 < ((a1.length) : Int)) then
    some true
  else
  Option.bind (spec_ImageRead k a1) fun v2 =>
  Option.bind (impl_ImageRead k a1) fun v3 =>
  Option.bind (laws_eqImageOut k v3 v2) fun v4 =>
  bif !v4 then
    some false
  else
  Option.bind (laws_markImageOut k v3 1) fun v5 =>
  Option.bind (laws_heldImageOut k (v5.2, v3.2) 1) fun v6 =>
  bif decide (v6 < 0) then
    some false
  else
  bif v6 != v5.1 then
    some false
  else
  Option.bind (impl_ImageRead k a1) fun v7 =>
  Option.bind (laws_eqImageOut k v7 v2) fun v8 =>
  bif !v8 then
    some false
  else
  Option.bind (laws_heldImageOut k (v5.2, v3.2) 1) fun v9 =>
  bif decide (v9 < 0) then
    some false
  else
  bif v9 != v5.1 then
    some false
  else
  some true
def laws_FnExactImageRead.sig : Sig := { ps := [.val false .str (ros .str)], rs := [.val false [.v .bool]], ntmps := 44 }
def laws_FnExactImageRead.con (k : Nat) : Con := laws_FnExactImageRead.sig.con (fun x => laws_FnExactImageRead k x)
def laws_FnExactImageRead.C (k : Nat) : Ctx := { ti := TAB, con := conL [(65, spec_ImageRead.con k), (66, impl_ImageRead.con k), (67, laws_eqImageOut.con k), (68, laws_markImageOut.con k), (69, laws_heldImageOut.con k)] }
theorem laws_FnExactImageRead.cok (k : Nat) : CtxOk Try.prog (laws_FnExactImageRead.C k) := ctx_ok TABok ⟨spec_ImageRead.ok k, impl_ImageRead.ok k, laws_eqImageOut.ok k, laws_markImageOut.ok k, laws_heldImageOut.ok k, trivial⟩
theorem laws_FnExactImageRead.ev (k : Nat) (x : Prod' laws_FnExactImageRead.sig.ins) : laws_FnExactImageRead.sig.ev (laws_FnExactImageRead.C k) .auto Try.f14.results.toList (cB Try.f14) x = laws_FnExactImageRead k x := by kernel_rfl
theorem laws_FnExactImageRead.ok (k : Nat) : ConOk Try.prog 14 (laws_FnExactImageRead.con k) := sig_ok (p := .auto) (laws_FnExactImageRead.cok k) Try.func14 (by kernel_rfl) (show Try.f14.body = some (cB Try.f14) by kernel_rfl) (by kernel_rfl) (by kernel_rfl) (plan_of (L := []) (by kernel_rfl) trivial) (fun x y h => (laws_FnExactImageRead.ev k x).trans h)
end Go.Proofs.YthoibokhmkjkdaaE

namespace Go.Proofs.YthoibokhmkjkdaaE
open Go
set_option linter.unusedVariables false
def Ever (p : Nat → Prop) : Prop := ∃ K, ∀ k, K ≤ k → p k
theorem Ever.of {p : Nat → Prop} (h : ∀ k, p k) : Ever p := ⟨0, fun k _ => h k⟩
theorem Ever.mono {p q : Nat → Prop} (h : Ever p) (f : ∀ k, p k → q k) : Ever q := by
  obtain ⟨K, h⟩ := h
  exact ⟨K, fun k hk => f k (h k hk)⟩
theorem Ever.and {p q : Nat → Prop} (h : Ever p) (g : Ever q) : Ever fun k => p k ∧ q k := by
  obtain ⟨K, h⟩ := h
  obtain ⟨J, g⟩ := g
  exact ⟨K + J, fun k hk => ⟨h k (by omega), g k (by omega)⟩⟩
theorem Ever.ex {p : Nat → Prop} (h : Ever p) : ∃ k, p k := by
  obtain ⟨K, h⟩ := h
  exact ⟨K, h K (Nat.le_refl K)⟩
theorem Ever.all {n : Nat} {p : Nat → Nat → Prop} : (∀ i, i < n → Ever (p i)) → Ever fun k => ∀ i, i < n → p i k := by
  induction n with
  | zero => exact fun _ => ⟨0, fun k _ i hi => absurd hi (Nat.not_lt_zero i)⟩
  | succ n ih =>
    intro h
    refine ((ih fun i hi => h i (Nat.lt_succ_of_lt hi)).and (h n (Nat.lt_succ_self n))).mono fun k hk i hi => ?_
    rcases Nat.eq_or_lt_of_le (Nat.le_of_lt_succ hi) with rfl | hi
    · exact hk.2
    · exact hk.1 i hi
/-- Two facts, then a third. -/
theorem Ever.two {p q r : Nat → Prop} (h : Ever p) (g : Ever q) (f : ∀ k, p k → q k → r k) : Ever r := (h.and g).mono fun k hk => f k hk.1 hk.2
/-- A loop of n rounds: what it has in hand at round i is told by i. -/
theorem ever_loop {R : Type} (L : Nat → Nat → Nat → Option R) (n : Nat) (r : R) (hs : Ever fun k => ∀ i, i < n → ∀ j, L k (j + 1) i = L k j (i + 1)) (hl : Ever fun k => ∀ j, L k (j + 1) n = some r) : Ever fun k => L k k 0 = some r := by
  obtain ⟨K, hs⟩ := hs
  obtain ⟨J, hl⟩ := hl
  refine ⟨K + J + n + 1, fun k hk => ?_⟩
  have hs := hs k (by omega)
  have hl := hl k (by omega)
  have key : ∀ d i j, i + d = n → d < j → L k j i = some r := by
    intro d
    induction d with
    | zero =>
      intro i j hi hj
      obtain ⟨m, rfl⟩ : ∃ m, j = m + 1 := ⟨j - 1, by omega⟩
      obtain rfl : i = n := by omega
      exact hl m
    | succ d ih =>
      intro i j hi hj
      obtain ⟨m, rfl⟩ : ∃ m, j = m + 1 := ⟨j - 1, by omega⟩
      rw [hs i (by omega) m]
      exact ih (i + 1) m (by omega) (by omega)
  exact key n 0 k (by omega) (by omega)
/-- The same, where neither the round nor the end hangs on fuel. -/
theorem loop_of {R : Type} (L : Nat → Nat → Option R) (n : Nat) (r : R) (hs : ∀ i, i < n → ∀ j, L (j + 1) i = L j (i + 1)) (hl : ∀ j, L (j + 1) n = some r) : Ever fun k => L k 0 = some r :=
  ever_loop (fun _ j i => L j i) n r (Ever.of fun _ => hs) (Ever.of fun _ => hl)
theorem bnd {α β : Type} {f : Nat → Option α} {g : Nat → α → Option β} {a : α} {b : β} (h : Ever fun k => f k = some a) (k : Ever fun k => g k a = some b) : Ever fun k => (f k).bind (g k) = some b :=
  h.two k fun k h1 h2 => by rw [h1]; exact h2
/-! ### numbers -/
theorem w64 {n : Int} (h0 : -9223372036854775808 ≤ n) (h1 : n < 9223372036854775808) : IntKind.wrap .i64 n = n := by
  simp [IntKind.wrap, IntKind.bits, IntKind.signed]
  omega
theorem wf64 {n : Int} (h : Bnd (.int .i64) n) : -9223372036854775808 ≤ n ∧ n < 9223372036854775808 := by
  have h : (Lit.int .i64 n).wf = true := h
  simp [Lit.wf, IntKind.min, IntKind.max, IntKind.signed, IntKind.bits] at h
  omega
theorem wn {n : Nat} (h : n < 9223372036854775808) : IntKind.wrap .i64 (n : Int) = n := w64 (by omega) (by omega)
theorem wsuc {n : Nat} (h : n < 9223372036854775807) : IntKind.wrap .i64 ((n : Int) + 1) = ((n + 1 : Nat) : Int) := by rw [w64] <;> omega
/-! ### partial answers -/
theorem at_nat {α : Type} {l : List α} {i : Nat} (h : i < l.length) : at? l (i : Int) = some l[i] := by
  unfold at?
  rw [if_pos (by omega), Int.toNat_natCast, List.getElem?_eq_getElem h]
theorem app_ok {α : Type} {n : Nat} {a b : List α} (h : (a.length + b.length) * n ≤ 140737488355328) : app? n a b = some (a ++ b) := if_pos h
theorem cat_some {a b : Str} (h : a.length + b.length ≤ 9223372036854775807) : cat? a b = some (a ++ b) := if_pos h
theorem make_some {α : Type} {b n : Nat} {x : α} (h : n * b ≤ 140737488355328) : make? b (n : Int) (n : Int) x = some (List.replicate n x) := by
  unfold make?
  rw [if_pos ⟨by omega, Int.le_refl _, by rw [Int.toNat_natCast]; exact h⟩, Int.toNat_natCast]
theorem cut_ok {α : Type} {l : List α} {i j : Nat} (h : i ≤ j) (k : j ≤ l.length) : cut? l (i : Int) (j : Int) = some ((l.take j).drop i) := by
  unfold cut?
  rw [if_pos ⟨by omega, by omega, by omega⟩, Int.toNat_natCast, Int.toNat_natCast]
theorem room_some {n b : Nat} (h : n * b ≤ 140737488355328) : room? n b = some () := if_pos h
theorem nz_some {b : Int} (h : b ≠ 0) : nz? b = some () := if_neg h
theorem nneg_some {b : Int} (h : 0 ≤ b) : nneg? b = some () := if_neg (by omega)
theorem take_map_succ {α β : Type} {l : List α} (f : α → β) {i : Nat} (h : i < l.length) : (l.take (i + 1)).map f = (l.take i).map f ++ [f l[i]] := by
  rw [List.take_add_one, List.getElem?_eq_getElem h, List.map_append]
  rfl
theorem take_succ' {α : Type} {l : List α} {i : Nat} (h : i < l.length) : l.take (i + 1) = l.take i ++ [l[i]] := by
  rw [List.take_add_one, List.getElem?_eq_getElem h]
  rfl
/-- A list that is filled, place by place. -/
theorem fill_set {α β : Type} {l : List α} {f : α → β} {z : β} {i : Nat} (h : i < l.length) :
    ((l.take i).map f ++ List.replicate (l.length - i) z).set i (f l[i]) = (l.take (i + 1)).map f ++ List.replicate (l.length - (i + 1)) z := by
  have hl : ((l.take i).map f).length = i := by simp; omega
  rw [List.set_append_right _ _ (by rw [hl]; exact Nat.le_refl i), hl, Nat.sub_self, show l.length - i = (l.length - (i + 1)) + 1 by omega, List.replicate_succ, List.set_cons_zero, take_map_succ f h, List.append_assoc]
  rfl
theorem fill_len {α β : Type} {l : List α} {f : α → β} {z : β} {i : Nat} (h : i ≤ l.length) : ((l.take i).map f ++ List.replicate (l.length - i) z).length = l.length := by simp; omega
end Go.Proofs.YthoibokhmkjkdaaE

namespace Go.Proofs.YthoibokhmkjkdaaE
open Go
set_option linter.unusedVariables false
/-- A loop that ends at the first place where a test fails. -/
theorem ever_stop {R : Type} (L : Nat → Nat → Nat → Option R) (n : Nat) (p : Nat → Bool) (m : Nat) (r : R) (hm : m ≤ n) (hall : ∀ i, i < m → p i = true) (hs : Ever fun k => ∀ i, i < n → p i = true → ∀ j, L k (j + 1) i = L k j (i + 1))
    (hl : Ever fun k => ∀ j, L k (j + 1) m = some r) : Ever fun k => L k k 0 = some r :=
  ever_loop L m r (hs.mono fun k h i hi => h i (by omega) (hall i hi)) hl
/-- Either all places pass, or there is a first that does not. -/
theorem all_or_first (n : Nat) (p : Nat → Bool) : (∀ i, i < n → p i = true) ∨ ∃ m, m < n ∧ p m = false ∧ ∀ i, i < m → p i = true := by
  induction n with
  | zero => exact .inl fun i hi => absurd hi (Nat.not_lt_zero i)
  | succ n ih =>
    rcases ih with h | ⟨m, h1, h2, h3⟩
    · cases hp : p n with
      | true =>
        refine .inl fun i hi => ?_
        rcases Nat.eq_or_lt_of_le (Nat.le_of_lt_succ hi) with rfl | hi
        · exact hp
        · exact h i hi
      | false => exact .inr ⟨n, Nat.lt_succ_self n, hp, h⟩
    · exact .inr ⟨m, Nat.lt_succ_of_lt h1, h2, h3⟩
theorem all_get {α : Type} {l : List α} {q : α → Bool} : (∀ x ∈ l, q x = true) ↔ ∀ i, (h : i < l.length) → q l[i] = true := by
  constructor
  · exact fun h i hi => h _ (List.getElem_mem hi)
  · intro h x hx
    obtain ⟨i, hi, rfl⟩ := List.getElem_of_mem hx
    exact h i hi
/-- All elements pass, or there is a first that does not. -/
theorem list_first {α : Type} (l : List α) (q : α → Bool) : (l.all q = true) ∨ (l.all q = false ∧ ∃ m, ∃ h : m < l.length, q l[m] = false ∧ ∀ i, (hi : i < m) → q (l[i]'(by omega)) = true) := by
  rcases all_or_first l.length (fun i => match l[i]? with | some x => q x | none => true) with h | ⟨m, h1, h2, h3⟩
  · refine .inl (List.all_eq_true.2 (all_get.2 fun i hi => ?_))
    have := h i hi
    rwa [List.getElem?_eq_getElem hi] at this
  · rw [List.getElem?_eq_getElem h1] at h2
    replace h2 : q l[m] = false := h2
    refine .inr ⟨?_, m, h1, h2, fun i hi => ?_⟩
    · cases ha : l.all q with
      | false => rfl
      | true => rw [List.all_eq_true.1 ha _ (List.getElem_mem h1)] at h2; cases h2
    · have := h3 i hi
      rwa [List.getElem?_eq_getElem (by omega)] at this
end Go.Proofs.YthoibokhmkjkdaaE

namespace Go.Proofs.YthoibokhmkjkdaaE
open Go
set_option linter.unusedVariables false
def mtL : Nat → Int → Str → Str
  | 0, _, o => o
  | d + 1, n, o => if 0 < n then mtL d (n.tdiv 10) (listByte [IntKind.wrap .u8 (IntKind.wrap .i64 (48 + n.tmod 10))] ++ o) else o
/-- The text of a mark. -/
def mt (n : Int) : Str := if n ≤ 0 then [109, 48] else [109] ++ mtL 20 n []
theorem mtL_len : ∀ (d : Nat) (n : Int) (o : Str), (mtL d n o).length ≤ o.length + d
  | 0, _, _ => Nat.le_refl _
  | d + 1, n, o => by
    unfold mtL
    split
    · have := mtL_len d (n.tdiv 10) (listByte [IntKind.wrap .u8 (IntKind.wrap .i64 (48 + n.tmod 10))] ++ o)
      simp [listByte] at this ⊢
      omega
    · omega
theorem markL : ∀ (d : Nat) (n : Int) (o : Str) (j : Nat), n < 10 ^ d → n < 9223372036854775808 → o.length + d ≤ 1000 → d < j → laws_markText.l0 j n o = some (mtL d n o)
  | d, n, o, 0, _, _, _, h => absurd h (Nat.not_lt_zero d)
  | 0, n, o, j + 1, h, _, _, _ => by
    have : ¬ (0 < n) := by
      have : n < 1 := h
      omega
    unfold laws_markText.l0 mtL
    rw [decide_eq_false this]
    rfl
  | d + 1, n, o, j + 1, h, hb, ho, hj => by
    unfold laws_markText.l0 mtL
    by_cases hn : 0 < n
    · have e : n.tdiv 10 = n / 10 := Int.tdiv_eq_ediv_of_nonneg (by omega)
      rw [decide_eq_true hn, if_pos hn, nz_some (by omega : (10 : Int) ≠ 0)]
      simp only [cond_true, Option.bind_some]
      rw [cat_some (by simp [listByte]; omega)]
      simp only [Option.bind_some]
      rw [w64 (by rw [e]; omega) (by rw [e]; omega)]
      refine markL d (n.tdiv 10) _ j ?_ (by rw [e]; omega) (by simp [listByte]; omega) (by omega)
      rw [e]
      have h' : n < 10 ^ d * 10 := by rw [← Int.pow_succ]; exact h
      omega
    · rw [decide_eq_false hn, if_neg hn]
      rfl
theorem markText_eq (n : Int) (h : n < 9223372036854775808) : Ever fun k => laws_markText k n = some (mt n) := by
  refine ⟨21, fun k hk => ?_⟩
  unfold laws_markText mt
  by_cases hn : n ≤ 0
  · rw [decide_eq_true hn, if_pos hn]; rfl
  · rw [decide_eq_false hn, if_neg hn]
    simp only [cond_false]
    rw [markL 20 n [] k (by have : (10 : Int) ^ 20 = 100000000000000000000 := by rfl
                            omega) h (by simp) (by omega)]
    simp only [Option.bind_some]
    have hl := mtL_len 20 n []
    rw [cat_some (by simp at hl ⊢; omega)]
    rfl
theorem beq_self_str (s : Str) : (s == s) = true := by simp
/-- The marks of a list of strings. -/
def marks (n : Nat) (k : Int) : List Str := (List.range n).map fun (i : Nat) => mt (k + (i : Int))
end Go.Proofs.YthoibokhmkjkdaaE

namespace Go.Proofs.YthoibokhmkjkdaaE
open Go
set_option linter.unusedVariables false
theorem getElem_range_map {β : Type} (f : Nat → β) (n i : Nat) (h : i < n) : ((List.range n).map f)[i]'(by simpa using h) = f i := by simp
/-- What a list looks like when its first places have been written. -/
theorem mark_step {β : Type} (l : List β) (f : Nat → β) (i : Nat) (h : i < l.length) : ((List.range i).map f ++ l.drop i).set i (f i) = (List.range (i + 1)).map f ++ l.drop (i + 1) := by
  rw [List.set_append_right _ _ (by simp), List.length_map, List.length_range, Nat.sub_self, List.drop_eq_getElem_cons h, List.set_cons_zero, List.range_succ, List.map_append, List.append_assoc]
  rfl
theorem mark_len {β : Type} (l : List β) (f : Nat → β) (i : Nat) (h : i ≤ l.length) : ((List.range i).map f ++ l.drop i).length = l.length := by simp; omega
theorem markStringS_eq (l : List Str) (k0 : Nat) (h : k0 + l.length < 9223372036854775807) : Ever fun k => laws_markStringS k l (k0 : Int) = some (((k0 + l.length : Nat) : Int), marks l.length k0) := by
  have hm := Ever.all (n := l.length) (p := fun i k => laws_markText k ((k0 + i : Nat) : Int) = some (mt ((k0 + i : Nat) : Int))) fun i hi => markText_eq _ (by omega)
  have key : Ever fun k => laws_markStringS.l0 k k (k0 : Int) 0 l = some (((k0 + l.length : Nat) : Int), marks l.length k0) := by
    refine ever_loop (fun k j i => laws_markStringS.l0 k j ((k0 + i : Nat) : Int) (i : Int) ((List.range i).map (fun (i : Nat) => mt ((k0 + i : Nat) : Int)) ++ l.drop i)) l.length _ (hm.mono fun k hk i hi j => ?_) (Ever.of fun k j => ?_)
    · have hlen := mark_len l (fun (i : Nat) => mt ((k0 + i : Nat) : Int)) i (by omega)
      conv => lhs; unfold laws_markStringS.l0
      rw [hlen, decide_eq_true (by omega : (i : Int) < (l.length : Int))]
      simp only [cond_true]
      rw [hk i hi]
      simp only [Option.bind_some]
      rw [at_nat (by rw [hlen]; exact hi)]
      simp only [Option.bind_some]
      rw [Int.toNat_natCast, mark_step l (fun (i : Nat) => mt ((k0 + i : Nat) : Int)) i hi, wsuc (by omega), wsuc (by omega)]
      rfl
    · conv => lhs; unfold laws_markStringS.l0
      have hlen := mark_len l (fun (i : Nat) => mt ((k0 + i : Nat) : Int)) l.length (Nat.le_refl _)
      rw [hlen, decide_eq_false (by omega : ¬ ((l.length : Int) < (l.length : Int)))]
      simp only [cond_false]
      rw [List.drop_length, List.append_nil]
      refine congrArg some (congrArg (Prod.mk _) (List.map_congr_left fun i hi => ?_))
      rw [Int.natCast_add]
  refine key.mono fun k hk => ?_
  unfold laws_markStringS
  rw [hk]
  rfl
theorem heldStringS_eq (n : Nat) (k0 : Nat) (h : k0 + n < 9223372036854775807) : Ever fun k => laws_heldStringS k (marks n k0) (k0 : Int) = some ((k0 + n : Nat) : Int) := by
  have hm := Ever.all (n := n) (p := fun i k => laws_markText k ((k0 + i : Nat) : Int) = some (mt ((k0 + i : Nat) : Int))) fun i hi => markText_eq _ (by omega)
  have hl : (marks n k0).length = n := by simp [marks]
  have key : Ever fun k => laws_heldStringS.l0 k k (marks n k0) (k0 : Int) 0 = some (.inl ((k0 + n : Nat) : Int)) := by
    refine ever_loop (fun k j i => laws_heldStringS.l0 k j (marks n k0) ((k0 + i : Nat) : Int) (i : Int)) n _ (hm.mono fun k hk i hi j => ?_) (Ever.of fun k j => ?_)
    · conv => lhs; unfold laws_heldStringS.l0
      rw [hl, decide_eq_true (by omega : (i : Int) < (n : Int))]
      simp only [cond_true]
      rw [at_nat (by rw [hl]; exact hi)]
      simp only [Option.bind_some]
      rw [hk i hi]
      have e : (marks n k0)[i]'(by rw [hl]; exact hi) = mt ((k0 + i : Nat) : Int) := by
        simp [marks]
      simp only [Option.bind_some, e, beq_self_str, Bool.not_true, cond_false]
      rw [wsuc (by omega), wsuc (by omega)]
      rfl
    · conv => lhs; unfold laws_heldStringS.l0
      rw [hl, decide_eq_false (by omega : ¬ ((n : Int) < (n : Int)))]
      rfl
  refine key.mono fun k hk => ?_
  unfold laws_heldStringS
  rw [hk]
  rfl
theorem eqStringS_self (l : List Str) (h : l.length < 9223372036854775807) : Ever fun k => laws_eqStringS k l l = some true := by
  have key : Ever fun k => laws_eqStringS.l0 k l l 0 = some (.inl ()) := by
    refine loop_of (fun j i => laws_eqStringS.l0 j l l (i : Int)) l.length _ (fun i hi j => ?_) fun j => ?_
    · conv => lhs; unfold laws_eqStringS.l0
      rw [decide_eq_true (by omega : (i : Int) < (l.length : Int))]
      simp only [cond_true]
      rw [at_nat hi]
      simp only [Option.bind_some, beq_self_str, Bool.not_true, cond_false]
      rw [wsuc (by omega)]
    · conv => lhs; unfold laws_eqStringS.l0
      rw [decide_eq_false (by omega : ¬ ((l.length : Int) < (l.length : Int)))]
      rfl
  refine key.mono fun k hk => ?_
  unfold laws_eqStringS
  rw [hk]
  simp
end Go.Proofs.YthoibokhmkjkdaaE

namespace Go.Proofs.YthoibokhmkjkdaaE
open Go
def laws_FnExactImageRead.Pure : Prop := ∀ (y0 : Str), Bnd .str y0 → ∃ k : Nat, laws_FnExactImageRead k y0 = some true
end Go.Proofs.YthoibokhmkjkdaaE

namespace Go.Proofs.YthoibokhmkjkdaaE
open Go
set_option linter.unusedVariables false
namespace ImRead
def blk (c : UInt8) : Str := List.replicate 8 c
def isL (c : UInt8) : Bool := decide (97 ≤ c.toNat) && decide (c.toNat ≤ 122)
/-- What both find. -/
def found (t : Str) : List Str × Int := if 8000 < t.length then ([], 2) else if 1 ≤ t.length ∧ t.length ≤ 8 ∧ t.all isL = true then (t.map blk, 0) else ([], 3)
theorem blk_get (c : UInt8) (i : Nat) (h : i < 8) : (blk c)[i]'(by simpa [blk] using h) = c := List.getElem_replicate _
theorem blk_at (c : UInt8) (i : Nat) (h : i < 8) : at? (blk c) (i : Int) = some c := by
  rw [at_nat (by simpa [blk] using h), blk_get c i h]
theorem blk_at0 (c : UInt8) : at? (blk c) 0 = some c := blk_at c 0 (by omega)
theorem blk_len (c : UInt8) : (blk c).length = 8 := by simp [blk]
theorem listByte_nat (c : UInt8) : listByte [((c.toNat : Nat) : Int)] = [c] := by
  simp [listByte]
theorem listByte_rep (c : UInt8) (n : Nat) : listByte (List.replicate n ((c.toNat : Nat) : Int)) = List.replicate n c := by
  simp [listByte]
theorem listByte_map (t : Str) : listByte (t.map fun c => ((c.toNat : Nat) : Int)) = t := by
  unfold listByte
  rw [List.map_map]
  conv => rhs; rw [← List.map_id t]
  refine List.map_congr_left fun c _ => ?_
  simp
theorem block_eq (c : UInt8) : Ever fun k => spec_l17Block k ((c.toNat : Nat) : Int) = some (blk c) := by
  have key : Ever fun k => spec_l17Block.l0 k ((c.toNat : Nat) : Int) 0 [] = some (List.replicate 8 ((c.toNat : Nat) : Int)) := by
    refine loop_of (fun j i => spec_l17Block.l0 j ((c.toNat : Nat) : Int) (i : Int) (List.replicate i ((c.toNat : Nat) : Int))) 8 _ (fun i hi j => ?_) fun j => ?_
    · conv => lhs; unfold spec_l17Block.l0
      rw [decide_eq_true (by omega : (i : Int) < 8)]
      simp only [cond_true]
      rw [app_ok (by simp; omega)]
      simp only [Option.bind_some]
      rw [wsuc (by omega), ← List.replicate_succ']
    · conv => lhs; unfold spec_l17Block.l0
      rfl
  refine key.mono fun k hk => ?_
  unfold spec_l17Block
  rw [hk]
  simp only [Option.bind_some, listByte_rep]
  rfl
theorem specRead_l (t : Str) (h : t.length ≤ 8000) : Ever fun k => spec_ImageRead.l0 k k t 0 [] = some (t.map blk) := by
  have hb := Ever.all (n := t.length) (p := fun i k => ∀ c, t[i]? = some c → spec_l17Block k ((c.toNat : Nat) : Int) = some (blk c)) fun i hi => (block_eq t[i]).mono fun k hk c hc => by
    rw [List.getElem?_eq_getElem hi] at hc
    cases hc
    exact hk
  refine ever_loop (fun k j i => spec_ImageRead.l0 k j t (i : Int) ((t.take i).map blk)) t.length _ (hb.mono fun k hk i hi j => ?_) (Ever.of fun k j => ?_)
  · conv => lhs; unfold spec_ImageRead.l0
    rw [decide_eq_true (by omega : (i : Int) < (t.length : Int))]
    simp only [cond_true]
    rw [at_nat hi]
    simp only [Option.bind_some]
    rw [hk i hi t[i] (List.getElem?_eq_getElem hi)]
    simp only [Option.bind_some]
    rw [app_ok (by simp; omega)]
    simp only [Option.bind_some]
    rw [wsuc (by omega), take_map_succ blk hi]
  · conv => lhs; unfold spec_ImageRead.l0
    rw [decide_eq_false (by omega : ¬ ((t.length : Int) < (t.length : Int)))]
    simp only [cond_false, List.take_length]
theorem right_eq (t : Str) (h : t.length ≤ 8000) : Ever fun k => spec_ImageRight k (t.map blk) = some (decide (1 ≤ t.length) && decide (t.length ≤ 8)) := by
  have key : Ever fun k => spec_ImageRight.l0 k (t.map blk) 0 = some (.inl ()) := by
    refine loop_of (fun j i => spec_ImageRight.l0 j (t.map blk) (i : Int)) t.length _ (fun i hi j => ?_) fun j => ?_
    · conv => lhs; unfold spec_ImageRight.l0
      rw [List.length_map, decide_eq_true (by omega : (i : Int) < (t.length : Int))]
      simp only [cond_true]
      rw [at_nat (by simpa using hi)]
      simp only [Option.bind_some, List.getElem_map, blk_len]
      rw [wsuc (by omega)]
      rfl
    · conv => lhs; unfold spec_ImageRight.l0
      rw [List.length_map, decide_eq_false (by omega : ¬ ((t.length : Int) < (t.length : Int)))]
      rfl
  refine key.mono fun k hk => ?_
  unfold spec_ImageRight
  rw [hk, List.length_map]
  by_cases h1 : 1 ≤ t.length
  · by_cases h2 : t.length ≤ 8
    · rw [decide_eq_false (by omega : ¬ ((t.length : Int) < 1)), decide_eq_false (by omega : ¬ (8 < (t.length : Int))), decide_eq_true h1, decide_eq_true h2]
      rfl
    · rw [decide_eq_true (by omega : 8 < (t.length : Int)), decide_eq_false h2]
      simp
  · rw [decide_eq_true (by omega : (t.length : Int) < 1), decide_eq_false h1]
    simp
theorem letter_eq (c : UInt8) : Ever fun k => spec_l17Letter k (blk c) = some (if isL c = true then ((c.toNat : Nat) : Int) else 0) := by
  have key : Ever fun k => spec_l17Letter.l0 k (blk c) 1 = some (.inl ()) := by
    refine loop_of (fun j i => spec_l17Letter.l0 j (blk c) ((i + 1 : Nat) : Int)) 7 _ (fun i hi j => ?_) fun j => ?_
    · conv => lhs; unfold spec_l17Letter.l0
      rw [decide_eq_true (by omega : ((i + 1 : Nat) : Int) < 8)]
      simp only [cond_true]
      rw [blk_at c (i + 1) (by omega)]
      simp only [Option.bind_some]
      rw [blk_at0 c]
      simp only [Option.bind_some]
      rw [wsuc (by omega)]
      simp
    · conv => lhs; unfold spec_l17Letter.l0
      rfl
  refine key.mono fun k hk => ?_
  unfold spec_l17Letter
  rw [hk, blk_len, blk_at0 c]
  simp only [Option.bind_some]
  unfold isL
  by_cases h1 : 97 ≤ c.toNat
  · by_cases h2 : c.toNat ≤ 122
    · rw [decide_eq_true h1, decide_eq_true h2, decide_eq_false (by omega : ¬ ((c.toNat : Int) < 97)), decide_eq_false (by omega : ¬ (122 < (c.toNat : Int)))]
      rfl
    · rw [decide_eq_true h1, decide_eq_false h2, decide_eq_false (by omega : ¬ ((c.toNat : Int) < 97)), decide_eq_true (by omega : 122 < (c.toNat : Int))]
      rfl
  · rw [decide_eq_false h1, decide_eq_true (by omega : (c.toNat : Int) < 97)]
    rfl
theorem isL_ne {c : UInt8} (h : isL c = true) : ((c.toNat : Nat) : Int) ≠ 0 := by
  unfold isL at h
  have := of_decide_eq_true ((Bool.and_eq_true _ _).mp h).1
  omega
theorem letters (t : Str) : Ever fun k => ∀ i, (h : i < t.length) → spec_l17Letter k (blk t[i]) = some (if isL t[i] = true then ((t[i].toNat : Nat) : Int) else 0) := by
  refine (Ever.all (n := t.length) (p := fun i k => ∀ c, t[i]? = some c → spec_l17Letter k (blk c) = some (if isL c = true then ((c.toNat : Nat) : Int) else 0)) fun i hi => (letter_eq t[i]).mono fun k hk c hc => ?_).mono fun k hk i hi => hk i hi _ (List.getElem?_eq_getElem hi)
  rw [List.getElem?_eq_getElem hi] at hc
  cases hc
  exact hk
theorem specText (t : Str) (h : t.length ≤ 8000) : Ever fun k => spec_ImageText k (t.map blk) = some (if 1 ≤ t.length ∧ t.length ≤ 8 ∧ t.all isL = true then t else []) := by
  by_cases hr : 1 ≤ t.length ∧ t.length ≤ 8
  · -- a right image
    have hright : Ever fun k => spec_ImageRight k (t.map blk) = some true := (right_eq t h).mono fun k hk => by rw [hk, decide_eq_true hr.1, decide_eq_true hr.2]; rfl
    have hboth := hright.and (letters t)
    have step : ∀ k, (spec_ImageRight k (t.map blk) = some true ∧ ∀ i, (h : i < t.length) → spec_l17Letter k (blk t[i]) = some (if isL t[i] = true then ((t[i].toNat : Nat) : Int) else 0)) → ∀ i, (hi : i < t.length) → isL t[i] = true → ∀ j,
        spec_ImageText.l0 k (j + 1) (t.map blk) (i : Int) ((t.take i).map fun c => ((c.toNat : Nat) : Int)) = spec_ImageText.l0 k j (t.map blk) ((i + 1 : Nat) : Int) ((t.take (i + 1)).map fun c => ((c.toNat : Nat) : Int)) := by
      intro k ⟨hk1, hk2⟩ i hi hL j
      conv => lhs; unfold spec_ImageText.l0
      rw [List.length_map, decide_eq_true (by omega : (i : Int) < (t.length : Int))]
      simp only [cond_true]
      rw [hk1]
      simp only [Option.bind_some, cond_true]
      rw [at_nat (by simpa using hi)]
      simp only [Option.bind_some, List.getElem_map]
      rw [hk2 i hi, if_pos hL]
      simp only [Option.bind_some]
      rw [beq_false_of_ne (isL_ne hL)]
      simp only [cond_false]
      rw [app_ok (by simp; omega)]
      simp only [Option.bind_some]
      rw [wsuc (by omega), take_map_succ _ hi]
    rcases list_first t isL with ha | ⟨ha, m, hm, hm2, hm3⟩
    · have key : Ever fun k => spec_ImageText.l0 k k (t.map blk) 0 [] = some (.inl (t.map fun c => ((c.toNat : Nat) : Int))) := by
        refine ever_loop (fun k j i => spec_ImageText.l0 k j (t.map blk) (i : Int) ((t.take i).map fun c => ((c.toNat : Nat) : Int))) t.length _ ?_ (Ever.of fun k j => ?_)
        · exact hboth.mono fun k hk i hi j => step k hk i hi (List.all_eq_true.1 ha _ (List.getElem_mem hi)) j
        conv => lhs; unfold spec_ImageText.l0
        rw [List.length_map, decide_eq_false (by omega : ¬ ((t.length : Int) < (t.length : Int))), List.take_length]
        rfl
      refine key.mono fun k hk => ?_
      unfold spec_ImageText
      rw [hk, if_pos ⟨hr.1, hr.2, ha⟩]
      simp only [Option.bind_some, listByte_map]
    · have key : Ever fun k => spec_ImageText.l0 k k (t.map blk) 0 [] = some (.inr []) := by
        refine ever_loop (fun k j i => spec_ImageText.l0 k j (t.map blk) (i : Int) ((t.take i).map fun c => ((c.toNat : Nat) : Int))) m _ ?_ (hboth.mono fun k hk j => ?_)
        · exact hboth.mono fun k hk i hi j => step k hk i (by omega) (hm3 i hi) j
        conv => lhs; unfold spec_ImageText.l0
        rw [List.length_map, decide_eq_true (by omega : (m : Int) < (t.length : Int))]
        simp only [cond_true]
        rw [hk.1]
        simp only [Option.bind_some, cond_true]
        rw [at_nat (by simpa using hm)]
        simp only [Option.bind_some, List.getElem_map]
        rw [hk.2 m hm, if_neg (by rw [hm2]; simp)]
        rfl
      refine key.mono fun k hk => ?_
      unfold spec_ImageText
      rw [hk, if_neg (fun q => by rw [ha] at q; exact absurd q.2.2 (by simp))]
      rfl
  · have hright : Ever fun k => spec_ImageRight k (t.map blk) = some false := (right_eq t h).mono fun k hk => by
      rw [hk]
      by_cases h1 : 1 ≤ t.length
      · rw [decide_eq_true h1, decide_eq_false (fun h2 => hr ⟨h1, h2⟩)]; rfl
      · rw [decide_eq_false h1]; rfl
    have key : Ever fun k => spec_ImageText.l0 k k (t.map blk) 0 [] = some (.inl []) := by
      refine ever_loop (fun k j i => spec_ImageText.l0 k j (t.map blk) (i : Int) []) 0 _ (Ever.of fun k i hi => absurd hi (Nat.not_lt_zero i)) (hright.mono fun k hk j => ?_)
      conv => lhs; unfold spec_ImageText.l0
      rw [hk]
      simp only [Option.bind_some, cond_false]
      cases decide (((0 : Nat) : Int) < ((t.map blk).length : Int)) <;> rfl
    refine key.mono fun k hk => ?_
    unfold spec_ImageText
    rw [hk, if_neg (fun q => hr ⟨q.1, q.2.1⟩)]
    rfl
theorem spec_eq (t : Str) : Ever fun k => spec_ImageRead k t = some (found t) := by
  by_cases h : 8000 < t.length
  · refine Ever.of fun k => ?_
    unfold spec_ImageRead found
    rw [decide_eq_true (by omega : 8000 < (t.length : Int)), if_pos h]
    rfl
  · refine ((specRead_l t (by omega)).and (specText t (by omega))).mono fun k hk => ?_
    unfold spec_ImageRead found
    rw [decide_eq_false (by omega : ¬ (8000 < (t.length : Int))), if_neg h, hk.1]
    simp only [cond_false, Option.bind_some]
    cases t with
    | nil => rfl
    | cons c t =>
      have e : ((c :: t) == ([] : Str)) = false := rfl
      rw [e, hk.2]
      simp only [cond_false, Option.bind_some]
      split
      · rename_i hr
        rw [beq_self_str]
        rfl
      · rename_i hr
        have e2 : (([] : Str) == (c :: t)) = false := rfl
        rw [e2]
        rfl
/-! the program's -/
theorem repeat_eq (c : UInt8) : strings_Repeat [c] 8 = some (blk c) := by
  unfold strings_Repeat
  rw [if_pos ⟨by omega, by simp, by omega⟩]
  have : Lib.repeatL [c] 8 = List.replicate (8 * 1) c := Lib.repeatL_replicate c 1 8
  rw [show (8 : Int).toNat = 8 from rfl, this]
  rfl
theorem implRead_l (t : Str) (h : t.length ≤ 8) : Ever fun k => impl_imageRead.l0 k t (t.length : Int) 0 [] = some (t.map blk) := by
  refine loop_of (fun j i => impl_imageRead.l0 j t (t.length : Int) (i : Int) ((t.take i).map blk)) t.length _ (fun i hi j => ?_) fun j => ?_
  · conv => lhs; unfold impl_imageRead.l0
    rw [decide_eq_true (by omega : (i : Int) < (t.length : Int))]
    simp only [cond_true]
    rw [wsuc (by omega), cut_ok (by omega) (by omega)]
    simp only [Option.bind_some]
    have e : (t.take (i + 1)).drop i = [t[i]] := by
      have hlen : (t.take i).length = i := by simp; omega
      rw [take_succ' hi, List.drop_append_of_le_length (by rw [hlen]; exact Nat.le_refl i), List.drop_of_length_le (by rw [hlen]; exact Nat.le_refl i)]
      rfl
    rw [e, repeat_eq]
    simp only [Option.bind_some]
    rw [app_ok (by simp; omega)]
    simp only [Option.bind_some]
    rw [take_map_succ blk hi]
  · conv => lhs; unfold impl_imageRead.l0
    rw [decide_eq_false (by omega : ¬ ((t.length : Int) < (t.length : Int)))]
    simp only [cond_false, List.take_length]
theorem isImage_eq (t : Str) (h : t.length ≤ 8) : Ever fun k => impl_isImage k (t.map blk) = some (decide (1 ≤ t.length)) := by
  have key : Ever fun k => slices_IndexFunc_string_143.l0 k (t.map blk) (t.length : Int) 0 = some (.inl ()) := by
    refine loop_of (fun j i => slices_IndexFunc_string_143.l0 j (t.map blk) (t.length : Int) (i : Int)) t.length _ (fun i hi j => ?_) fun j => ?_
    · conv => lhs; unfold slices_IndexFunc_string_143.l0
      rw [decide_eq_true (by omega : (i : Int) < (t.length : Int))]
      simp only [cond_true]
      rw [at_nat (by simpa using hi)]
      simp only [Option.bind_some, List.getElem_map]
      unfold impl_isImage_1
      rw [blk_len]
      simp only [Option.bind_some]
      rw [wsuc (by omega)]
      rfl
    · conv => lhs; unfold slices_IndexFunc_string_143.l0
      rw [decide_eq_false (by omega : ¬ ((t.length : Int) < (t.length : Int)))]
      rfl
  refine key.mono fun k hk => ?_
  unfold impl_isImage impl_size_string impl_isBlocks impl_within slices_ContainsFunc_string_143 slices_IndexFunc_string_143
  simp only [List.length_map, Option.bind_some]
  by_cases h1 : 1 ≤ t.length
  · rw [decide_eq_true (by omega : (1 : Int) ≤ (t.length : Int)), decide_eq_true (by omega : (t.length : Int) ≤ 8), hk, decide_eq_true h1]
    rfl
  · rw [decide_eq_false (by omega : ¬ ((1 : Int) ≤ (t.length : Int))), decide_eq_false h1]
    rfl
theorem letterOf_eq (c : UInt8) : impl_letterOf (blk c) = some (if isL c = true then [c] else []) := by
  unfold impl_letterOf
  have hcut : cut? (blk c) 0 1 = some [c] := by
    have := cut_ok (l := blk c) (i := 0) (j := 1) (by omega) (by rw [blk_len]; omega)
    exact this
  have hcount : strings_Count (blk c) [c] = some 8 := by
    show some (((blk c).count c : Nat) : Int) = some 8
    simp [blk]
  have h0 : at? (blk c) 0 = some c := blk_at c 0 (by omega)
  rw [blk_len, h0]
  simp only [Option.bind_some, hcut, hcount]
  unfold isL
  by_cases h1 : 97 ≤ c.toNat
  · by_cases h2 : c.toNat ≤ 122
    · rw [decide_eq_true h1, decide_eq_true h2, decide_eq_false (by omega : ¬ ((c.toNat : Int) < 97)), decide_eq_false (by omega : ¬ (122 < (c.toNat : Int)))]
      rfl
    · rw [decide_eq_true h1, decide_eq_false h2, decide_eq_false (by omega : ¬ ((c.toNat : Int) < 97)), decide_eq_true (by omega : 122 < (c.toNat : Int))]
      rfl
  · rw [decide_eq_false h1, decide_eq_true (by omega : (c.toNat : Int) < 97)]
    rfl
theorem implText (t : Str) (h : t.length ≤ 8) : Ever fun k => impl_imageText k (t.map blk) = some (if t.all isL = true then t else []) := by
  have step : ∀ i, (hi : i < t.length) → isL t[i] = true → ∀ j, impl_imageText.l0 (j + 1) (t.take i) (t.map blk) (t.length : Int) (i : Int) = impl_imageText.l0 j (t.take (i + 1)) (t.map blk) (t.length : Int) ((i + 1 : Nat) : Int) := by
    intro i hi hL j
    conv => lhs; unfold impl_imageText.l0
    rw [decide_eq_true (by omega : (i : Int) < (t.length : Int))]
    simp only [cond_true]
    rw [at_nat (by simpa using hi)]
    simp only [Option.bind_some, List.getElem_map]
    rw [letterOf_eq, if_pos hL]
    simp only [Option.bind_some]
    have e : (([t[i]] : Str) == []) = false := rfl
    rw [e]
    simp only [cond_false]
    rw [cat_some (by simp; omega)]
    simp only [Option.bind_some]
    rw [wsuc (by omega), take_succ' hi]
  rcases list_first t isL with ha | ⟨ha, m, hm, hm2, hm3⟩
  · have key : Ever fun k => impl_imageText.l0 k [] (t.map blk) (t.length : Int) 0 = some (.inl t) := by
      refine loop_of (fun j i => impl_imageText.l0 j (t.take i) (t.map blk) (t.length : Int) (i : Int)) t.length _ (fun i hi j => step i hi (List.all_eq_true.1 ha _ (List.getElem_mem hi)) j) fun j => ?_
      conv => lhs; unfold impl_imageText.l0
      rw [decide_eq_false (by omega : ¬ ((t.length : Int) < (t.length : Int))), List.take_length]
      rfl
    refine key.mono fun k hk => ?_
    unfold impl_imageText
    rw [List.length_map, hk, if_pos ha]
    rfl
  · have key : Ever fun k => impl_imageText.l0 k [] (t.map blk) (t.length : Int) 0 = some (.inr []) := by
      refine loop_of (fun j i => impl_imageText.l0 j (t.take i) (t.map blk) (t.length : Int) (i : Int)) m _ (fun i hi j => step i (by omega) (hm3 i hi) j) fun j => ?_
      conv => lhs; unfold impl_imageText.l0
      rw [decide_eq_true (by omega : (m : Int) < (t.length : Int))]
      simp only [cond_true]
      rw [at_nat (by simpa using hm)]
      simp only [Option.bind_some, List.getElem_map]
      rw [letterOf_eq, if_neg (by rw [hm2]; simp)]
      rfl
    refine key.mono fun k hk => ?_
    unfold impl_imageText
    rw [List.length_map, hk, if_neg (by rw [ha]; simp)]
    rfl
theorem impl_eq (t : Str) : Ever fun k => impl_ImageRead k t = some (found t) := by
  by_cases h : 8000 < t.length
  · refine Ever.of fun k => ?_
    unfold impl_ImageRead found
    rw [decide_eq_true (by omega : 8000 < (t.length : Int)), if_pos h]
    rfl
  · by_cases h8 : 8 < t.length
    · refine Ever.of fun k => ?_
      unfold impl_ImageRead impl_imageRead found
      rw [decide_eq_false (by omega : ¬ (8000 < (t.length : Int))), if_neg h, decide_eq_true (by omega : 8 < (t.length : Int)), if_neg (fun q => by omega)]
      rfl
    · refine (((implRead_l t (by omega)).and (isImage_eq t (by omega))).and (implText t (by omega))).mono fun k hk => ?_
      unfold impl_ImageRead impl_imageRead found
      rw [decide_eq_false (by omega : ¬ (8000 < (t.length : Int))), if_neg h, decide_eq_false (by omega : ¬ (8 < (t.length : Int))), hk.1.1]
      simp only [cond_false, Option.bind_some]
      rw [hk.1.2]
      simp only [Option.bind_some]
      by_cases h1 : 1 ≤ t.length
      · rw [decide_eq_true h1, hk.2]
        simp only [cond_true, Option.bind_some]
        by_cases ha : t.all isL = true
        · rw [if_pos ha, if_pos ⟨h1, by omega, ha⟩, beq_self_str]
          rfl
        · rw [if_neg ha, if_neg (fun q => ha q.2.2)]
          have e : (([] : Str) == t) = false := by
            cases t with
            | nil => exact absurd h1 (by simp)
            | cons _ _ => rfl
          rw [e]
          rfl
      · rw [decide_eq_false h1, if_neg (fun q => h1 q.1)]
        rfl
theorem found_len (t : Str) : (found t).1.length ≤ 8 := by
  unfold found
  split
  · simp
  · split
    · rename_i h; simpa using h.2.1
    · simp
end ImRead
open ImRead in
theorem laws_FnExactImageRead.proved : laws_FnExactImageRead.Pure := by
  intro t ht
  by_cases hb : 1048576 < t.length
  · refine ⟨0, ?_⟩
    unfold laws_FnExactImageRead
    rw [decide_eq_true (by omega : 1048576 < (t.length : Int))]
    rfl
  · have hl := found_len t
    have heq := eqStringS_self (found t).1 (by omega)
    have hmark := markStringS_eq (found t).1 1 (by omega)
    have hheld := heldStringS_eq (found t).1.length 1 (by omega)
    obtain ⟨k, ⟨⟨⟨⟨h1, h2⟩, h3⟩, h4⟩, h5⟩⟩ := (((((spec_eq t).and (impl_eq t)).and heq).and hmark).and hheld).ex
    refine ⟨k, ?_⟩
    unfold laws_FnExactImageRead
    rw [decide_eq_false (by omega : ¬ (1048576 < (t.length : Int))), h1, h2]
    have e1 : laws_eqImageOut k (found t) (found t) = some true := by
      unfold laws_eqImageOut
      rw [h3]
      simp
    have e2 : laws_markImageOut k (found t) 1 = some (((1 + (found t).1.length : Nat) : Int), marks (found t).1.length 1) := by
      unfold laws_markImageOut
      have h4 : laws_markStringS k (found t).1 1 = _ := h4
      rw [h4]
      rfl
    have e3 : laws_heldImageOut k (marks (found t).1.length 1, (found t).2) 1 = some ((1 + (found t).1.length : Nat) : Int) := by
      unfold laws_heldImageOut
      have h5 : laws_heldStringS k (marks (found t).1.length 1) 1 = _ := h5
      rw [h5]
      simp only [Option.bind_some]
      rw [decide_eq_false (by omega : ¬ (((1 + (found t).1.length : Nat) : Int) < 0))]
      rfl
    simp only [cond_false, Option.bind_some, e1, e2, e3, Bool.not_true]
    rw [decide_eq_false (by omega : ¬ (((1 + (found t).1.length : Nat) : Int) < 0))]
    simp
end Go.Proofs.YthoibokhmkjkdaaE

namespace Go.Proofs.Ythoibokhmkjkdaa.fnExactImageRead
open Go Go.ChangeShapes Go.WideShapes Go.ChangeAt Go.RowKit Go.Proofs.YthoibokhmkjkdaaE
set_option linter.unusedVariables false
theorem own : ownKnob Try.prog.godebug = none := by kernel_rfl
theorem laidOut : laidOutB Try.prog = true := by kernel_rfl
theorem go (k : Nat) (y0 : Str) : (laws_FnExactImageRead.con k).f [argC false .str y0] = .opt (Prod' laws_FnExactImageRead.sig.outs) (laws_FnExactImageRead k y0) laws_FnExactImageRead.sig.enc := by kernel_rfl
set_option maxRecDepth 100000 in
theorem lifted (os : Os) (started : os.Started) (H : Type) (enc : TypeId × Value → H) :
    ReturnsInHanded {} Try.checked os 14 .any (Rows.fnExactImageReadSpec.pre6 enc Try.prog Try.f14 Rows.fnExactImageReadRow.domain false) (Rows.fnExactImageReadSpec.post enc Try.prog Try.f14 false true false false) := by
  refine returnsInHanded_of_change_sized (C := Try.checked) own started (by kernel_rfl) Try.func14
    (ChangeSpec.witness6 (enc := enc) (C := Try.checked) false ⟨#[], #[.string ByteArray.empty], []⟩ 8 (by kernel_rfl) (by kernel_rfl) (by kernel_rfl) (by kernel_rfl)) ?_
  intro W base args ds gs before hval0 hW hcnd hsz0 _
  have hsz : (DataW.weightsEach Try.prog (Try.f14.params.toList ++ Rows.fnExactImageReadSpec.plain.varTypes Try.prog) (ds ++ gs)).all (· ≤ reachBytes) = true := hsz0
  have hval : ∀ (j : Nat) t v, Try.f14.params[j]? = some t → args[j]? = some v → Value.okWide Try.prog W .any base t v := hval0
  have hW' := hW
  obtain ⟨p, q, hA0, hV, rfl, hfz, hnd⟩ := hW
  have hA : DataW.TrodAll enc Try.prog W 0 (fun _ => true) true Try.f14.params.toList args.toList ds p := hA0
  rw [Try.params14] at hA hval hsz
  obtain ⟨v0, vs0, d0, ds0, p0, q0, hargs, rfl, rfl, h0, r0⟩ := trodAll_cons hA
  obtain ⟨rfl, rfl, rfl⟩ := trodAll_nil r0
  obtain rfl : args = #[v0] := by cases args; simp_all
  obtain ⟨rfl, rfl⟩ := trodVars_none hV
  have lt0 := trod_lt_all h0
  have z0 := weights_arg hsz (j := 0) (t := 9) rfl rfl
  obtain ⟨y0, b0, c0⟩ := arg_rep (ty := .str) (n := 20) (ag := false) (by kernel_rfl) (by kernel_rfl) (hval 0 9 v0 rfl rfl) h0 z0
  obtain ⟨k, hp⟩ := laws_FnExactImageRead.proved y0 b0
  have hrr : ((laws_FnExactImageRead.con k).f [argC false .str y0]).val = some ⟨[.val false [.leaf (.bool true)]], []⟩ := by
    refine (congrArg CR.val (go k y0)).trans ?_
    rw [hp]
    kernel_rfl
  refine (law_true (laws_FnExactImageRead.ok k) hrr (vs := [v0]) (cargs_cons (c0 _) cargs_nil)).mono fun e W' ⟨he, bel0⟩ => ?_
  have bel : Below W.heap.size W W' := bel0
  subst he
  exact ⟨_, rfl, _, _, _, [], _, [], hW', trodAll_mk1 (shutB Try.underlying4 _), (trodAll_cons_mk (Below.trod laidOut (by kernel_rfl) (of_decide_eq_true (by kernel_rfl)) h0 bel lt0) trodAll_mk0), rfl, bel.frame _, fun h => by cases h⟩
theorem over : Rows.fnExactImageReadRow.holds Try.pinned (OpenSpec.ofChange Rows.fnExactImageReadSpec) :=
  OpenClaim.holds_of_wide 14 Try.f14 rfl rfl rfl rfl rfl rfl rfl ⟨rfl, rfl, rfl, rfl, rfl⟩ rfl rfl rfl rfl rfl (by kernel_rfl) Try.func14 (by kernel_rfl)
    (of_decide_eq_true (by kernel_rfl)) (by unfold Func.isWrapper; first | (rw [if_pos (by decide +kernel)]; kernel_rfl) | (rw [if_neg (by decide +kernel)]; exact ⟨rfl, rfl⟩))
    (fun os started H enc _ => lifted os started H enc)
theorem proved : Rows.FnExactImageReadSaid := over
end Go.Proofs.Ythoibokhmkjkdaa.fnExactImageRead
namespace Go.Proofs.Ythoibokhmkjkdaa
/-- The row, under a short name, for the claim. -/
theorem fnExactImageRead_holds : Rows.FnExactImageReadSaid := fnExactImageRead.proved
#print axioms fnExactImageRead_holds
end Go.Proofs.Ythoibokhmkjkdaa
