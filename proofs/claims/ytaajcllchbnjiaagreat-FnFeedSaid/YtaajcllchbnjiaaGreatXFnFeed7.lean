/- What the law FnFeed needs, part 8 of 11: the Lean functions of the Go functions that it reaches, with the proofs that the calls come to what they say, and plain facts about them. Conditions: those that each theorem states. Written by a session and by its programs (after the kit's printer). -/
import Derived.Test.YtaajcllchbnjiaaGreatXFnFeed6
namespace Go.Proofs.YtaajcllchbnjiaaGreatE
open Go Go.RowKit
set_option linter.unusedVariables false
def impl_putNum.j0 (a1 : Int) (a2 : Int) : Option (Int) :=
  bif decide (a1 < 0) then
    some (intBits .xor .u64 (IntKind.max .u64) a2)
  else
  some a2
def impl_putNum.l1 : Nat → Int → List Int → Option ((Int × List Int))
  | 0, _, _ => none
  | j + 1, a1, a2 =>
    bif decide (127 < a1) then
      Option.bind (app? 1 a2 [(intBits .or .u8 (IntKind.wrap .u8 a1) 128)]) fun v3 =>
      Option.bind (nneg? 7) fun v4 =>
      impl_putNum.l1 j (shr .u64 a1 7) v3
    else
    some (a1, a2)
def impl_putNum (k : Nat) (a1 : Int) : Option (Str) :=
  Option.bind (nneg? 1) fun v2 =>
  Option.bind (impl_putNum.j0 a1 (shl .u64 (IntKind.wrap .u64 a1) 1)) fun y3 =>
  Option.bind (impl_putNum.l1 k y3 []) fun y4 =>
  Option.bind (app? 1 y4.2 [(IntKind.wrap .u8 y4.1)]) fun v5 =>
  some (listByte v5)
def impl_putNum.sig : Sig := { ps := [.val false (.int .i64) (ros (.int .i64))], rs := [.val false [.v .str]], ntmps := 28 }
def impl_putNum.con (k : Nat) : Con := impl_putNum.sig.con (fun x => impl_putNum k x)
def impl_putNum.C (k : Nat) : Ctx := { ti := TAB, con := conL [] }
theorem impl_putNum.cok (k : Nat) : CtxOk Tryz.prog (impl_putNum.C k) := ctx_ok TABok trivial
def impl_putNum.j0.ish : Shape := { tmps := [(0, .one (.v (.int .i64))), (3, .one (.v (.int .u64)))], slots := [], nb := 0 }
def impl_putNum.j0.outs : List (Ex × Shape) := [(.nrm, { tmps := [(3, .one (.v (.int .u64)))], slots := [], nb := 0 })]
def impl_putNum.j0.F (k : Nat) (x : Prod' impl_putNum.j0.ish.tys) : Option (Outs impl_putNum.j0.outs) := impl_putNum.j0 x.1 x.2
def impl_putNum.j0.s (k : Nat) : Summ := { n := 28, ish := impl_putNum.j0.ish, outs := impl_putNum.j0.outs, f := impl_putNum.j0.F k }
theorem impl_putNum.j0.ev (k : Nat) (x : Prod' impl_putNum.j0.ish.tys) : V (impl_putNum.C k) .auto (cL (cR (cR (cB Tryz.f61)))) (mk impl_putNum.j0.ish 28 x) (fun e st' => rdOut e st' impl_putNum.j0.outs) = impl_putNum.j0.F k x := by kernel_rfl
theorem impl_putNum.j0.ok (k : Nat) : SumOk Tryz.prog (impl_putNum.C k) (cL (cR (cR (cB Tryz.f61)))) (impl_putNum.j0.s k) := sum_ok (by kernel_rfl) (sum_code (p := .auto) (impl_putNum.cok k) (by kernel_rfl) (plan_of (L := []) (by kernel_rfl) trivial) (fun x y h => (impl_putNum.j0.ev k x).trans h))
def impl_putNum.l1.ish : Shape := { tmps := [(3, .one (.v (.int .u64))), (4, .one (.own 0))], slots := [(0, .arr false 5 (.int .u8))], nb := 1 }
def impl_putNum.l1.outs : List (Ex × Shape) := [(.exit 0, { tmps := [(3, .one (.v (.int .u64))), (4, .one (.own 1))], slots := [(1, .arr false 5 (.int .u8))], nb := 2 })]
def impl_putNum.l1.F (k j : Nat) (x : Prod' impl_putNum.l1.ish.tys) : Option (Outs impl_putNum.l1.outs) := impl_putNum.l1 j x.1 x.2
def impl_putNum.l1.s (k : Nat) : Summ := { n := 28, ish := impl_putNum.l1.ish, outs := impl_putNum.l1.outs, f := impl_putNum.l1.F k k }
theorem impl_putNum.l1.ev (k j : Nat) (x : Prod' impl_putNum.l1.ish.tys) : V (impl_putNum.C k) .auto (cO (cO (cL (cR (cR (cR (cR (cB Tryz.f61)))))))) (mk impl_putNum.l1.ish 28 x) (fun e st' => match e with | .nrm => (rd impl_putNum.l1.ish st').bind (impl_putNum.l1.F k j) | e => rdOut e st' impl_putNum.l1.outs) = impl_putNum.l1.F k (j + 1) x := by kernel_rfl
theorem impl_putNum.l1.ok (k : Nat) : SumOk Tryz.prog (impl_putNum.C k) (.loop (cO (cO (cL (cR (cR (cR (cR (cB Tryz.f61))))))))) (impl_putNum.l1.s k) := sum_ok (by kernel_rfl) (sum_loop (p := .auto) (F := impl_putNum.l1.F k) (impl_putNum.cok k) (by kernel_rfl) (plan_of (L := []) (by kernel_rfl) trivial) (fun _ => rfl) (fun j x y h => (impl_putNum.l1.ev k j x).trans h) k rfl)
theorem impl_putNum.ev (k : Nat) (x : Prod' impl_putNum.sig.ins) : impl_putNum.sig.ev (impl_putNum.C k) (.two .auto (.two .auto (.two (.sum (impl_putNum.j0.s k)) (.two .auto (.two (.one (.sum (impl_putNum.l1.s k))) .auto))))) Tryz.f61.results.toList (cB Tryz.f61) x = impl_putNum k x := by kernel_rfl
theorem impl_putNum.ok (k : Nat) : ConOk Tryz.prog 61 (impl_putNum.con k) := sig_ok (p := (.two .auto (.two .auto (.two (.sum (impl_putNum.j0.s k)) (.two .auto (.two (.one (.sum (impl_putNum.l1.s k))) .auto)))))) (impl_putNum.cok k) Tryz.func61 (by kernel_rfl) (show Tryz.f61.body = some (cB Tryz.f61) by kernel_rfl) (by kernel_rfl) (by kernel_rfl) (plan_of (L := [(impl_putNum.j0.s k, cL (cR (cR (cB Tryz.f61)))), (impl_putNum.l1.s k, cO (cL (cR (cR (cR (cR (cB Tryz.f61)))))))]) (by kernel_rfl) ⟨impl_putNum.j0.ok k, impl_putNum.l1.ok k, trivial⟩) (fun x y h => (impl_putNum.ev k x).trans h)
def impl_putText (k : Nat) (a1 : Str) : Option (Str) :=
  Option.bind (impl_putNum k ((a1.length) : Int)) fun v2 =>
  Option.bind (cat? v2 a1) fun v3 =>
  some v3
def impl_putText.sig : Sig := { ps := [.val false .str (ros .str)], rs := [.val false [.v .str]], ntmps := 8 }
def impl_putText.con (k : Nat) : Con := impl_putText.sig.con (fun x => impl_putText k x)
def impl_putText.C (k : Nat) : Ctx := { ti := TAB, con := conL [(61, impl_putNum.con k)] }
theorem impl_putText.cok (k : Nat) : CtxOk Tryz.prog (impl_putText.C k) := ctx_ok TABok ⟨impl_putNum.ok k, trivial⟩
theorem impl_putText.ev (k : Nat) (x : Prod' impl_putText.sig.ins) : impl_putText.sig.ev (impl_putText.C k) .auto Tryz.f26.results.toList (cB Tryz.f26) x = impl_putText k x := by kernel_rfl
theorem impl_putText.ok (k : Nat) : ConOk Tryz.prog 26 (impl_putText.con k) := sig_ok (p := .auto) (impl_putText.cok k) Tryz.func26 (by kernel_rfl) (show Tryz.f26.body = some (cB Tryz.f26) by kernel_rfl) (by kernel_rfl) (by kernel_rfl) (plan_of (L := []) (by kernel_rfl) trivial) (fun x y h => (impl_putText.ev k x).trans h)
def impl_crcMore.l0 : Nat → Str → Int → Int → Int → Option (Int)
  | 0, _, _, _, _ => none
  | j + 1, a1, a2, a3, a4 =>
    bif decide (a4 < 8) then
      Option.bind (at? a1 a3) fun v5 =>
      Option.bind (nneg? a4) fun v6 =>
      Option.bind (nneg? 1) fun v7 =>
      let e8 := IntKind.wrap .i64 (a4 + 1)
      bif (intBits .and .u32 (intBits .xor .u32 a2 (shr .u32 (IntKind.wrap .u32 (v5.toNat : Int)) a4)) 1) == 1 then
        impl_crcMore.l0 j a1 (intBits .xor .u32 (shr .u32 a2 1) 3988292384) a3 e8
      else
      impl_crcMore.l0 j a1 (shr .u32 a2 1) a3 e8
    else
    some a2
def impl_crcMore.l1 (k : Nat) : Nat → Str → Int → Int → Int → Option (Int)
  | 0, _, _, _, _ => none
  | j + 1, a1, a2, a3, a4 =>
    bif decide (a4 < a3) then
      Option.bind (impl_crcMore.l0 k a1 a2 a4 0) fun y5 =>
      impl_crcMore.l1 k j a1 y5 a3 (IntKind.wrap .i64 (a4 + 1))
    else
    some a2
def impl_crcMore (k : Nat) (a1 : Int) (a2 : Str) : Option (Int) :=
  Option.bind (impl_crcMore.l1 k k a2 (intBits .xor .u32 (IntKind.max .u32) a1) ((a2.length) : Int) 0) fun y3 =>
  some (intBits .xor .u32 (IntKind.max .u32) y3)
def impl_crcMore.sig : Sig := { ps := [.val false (.int .u32) (ros (.int .u32)), .val false .str (ros .str)], rs := [.val false [.v (.int .u32)]], ntmps := 38 }
def impl_crcMore.con (k : Nat) : Con := impl_crcMore.sig.con (fun x => impl_crcMore k x.1 x.2)
def impl_crcMore.C (k : Nat) : Ctx := { ti := TAB, con := conL [] }
theorem impl_crcMore.cok (k : Nat) : CtxOk Tryz.prog (impl_crcMore.C k) := ctx_ok TABok trivial
def impl_crcMore.l0.ish : Shape := { tmps := [(1, .one (.v .str)), (5, .one (.v (.int .u32))), (6, .one (.v (.int .i64))), (16, .one (.v (.int .i64)))], slots := [], nb := 0 }
def impl_crcMore.l0.outs : List (Ex × Shape) := [(.exit 2, { tmps := [(5, .one (.v (.int .u32)))], slots := [], nb := 0 })]
def impl_crcMore.l0.F (k j : Nat) (x : Prod' impl_crcMore.l0.ish.tys) : Option (Outs impl_crcMore.l0.outs) := impl_crcMore.l0 j x.1 x.2.1 x.2.2.1 x.2.2.2
def impl_crcMore.l0.s (k : Nat) : Summ := { n := 38, ish := impl_crcMore.l0.ish, outs := impl_crcMore.l0.outs, f := impl_crcMore.l0.F k k }
theorem impl_crcMore.l0.ev (k j : Nat) (x : Prod' impl_crcMore.l0.ish.tys) : V (impl_crcMore.C k) .auto (cO (cO (cR (cR (cO (cL (cR (cR (cO (cO (cR (cL (cR (cR (cB Tryz.f63))))))))))))))) (mk impl_crcMore.l0.ish 38 x) (fun e st' => match e with | .nrm => (rd impl_crcMore.l0.ish st').bind (impl_crcMore.l0.F k j) | e => rdOut e st' impl_crcMore.l0.outs) = impl_crcMore.l0.F k (j + 1) x := by kernel_rfl
theorem impl_crcMore.l0.ok (k : Nat) : SumOk Tryz.prog (impl_crcMore.C k) (.loop (cO (cO (cR (cR (cO (cL (cR (cR (cO (cO (cR (cL (cR (cR (cB Tryz.f63)))))))))))))))) (impl_crcMore.l0.s k) := sum_ok (by kernel_rfl) (sum_loop (p := .auto) (F := impl_crcMore.l0.F k) (impl_crcMore.cok k) (by kernel_rfl) (plan_of (L := []) (by kernel_rfl) trivial) (fun _ => rfl) (fun j x y h => (impl_crcMore.l0.ev k j x).trans h) k rfl)
def impl_crcMore.l1.ish : Shape := { tmps := [(1, .one (.v .str)), (5, .one (.v (.int .u32))), (12, .one (.v (.int .i64))), (13, .one (.v (.int .i64)))], slots := [], nb := 0 }
def impl_crcMore.l1.outs : List (Ex × Shape) := [(.exit 0, { tmps := [(5, .one (.v (.int .u32)))], slots := [], nb := 0 })]
def impl_crcMore.l1.F (k j : Nat) (x : Prod' impl_crcMore.l1.ish.tys) : Option (Outs impl_crcMore.l1.outs) := impl_crcMore.l1 k j x.1 x.2.1 x.2.2.1 x.2.2.2
def impl_crcMore.l1.s (k : Nat) : Summ := { n := 38, ish := impl_crcMore.l1.ish, outs := impl_crcMore.l1.outs, f := impl_crcMore.l1.F k k }
theorem impl_crcMore.l1.ev (k j : Nat) (x : Prod' impl_crcMore.l1.ish.tys) : V (impl_crcMore.C k) (.two .auto (.two .auto (.two (.one (.two .auto (.two .auto (.one (.sum (impl_crcMore.l0.s k)))))) .auto))) (cO (cO (cR (cL (cR (cR (cB Tryz.f63))))))) (mk impl_crcMore.l1.ish 38 x) (fun e st' => match e with | .nrm => (rd impl_crcMore.l1.ish st').bind (impl_crcMore.l1.F k j) | e => rdOut e st' impl_crcMore.l1.outs) = impl_crcMore.l1.F k (j + 1) x := by kernel_rfl
theorem impl_crcMore.l1.ok (k : Nat) : SumOk Tryz.prog (impl_crcMore.C k) (.loop (cO (cO (cR (cL (cR (cR (cB Tryz.f63)))))))) (impl_crcMore.l1.s k) := sum_ok (by kernel_rfl) (sum_loop (p := (.two .auto (.two .auto (.two (.one (.two .auto (.two .auto (.one (.sum (impl_crcMore.l0.s k)))))) .auto)))) (F := impl_crcMore.l1.F k) (impl_crcMore.cok k) (by kernel_rfl) (plan_of (L := [(impl_crcMore.l0.s k, cO (cR (cR (cO (cL (cR (cR (cO (cO (cR (cL (cR (cR (cB Tryz.f63))))))))))))))]) (by kernel_rfl) ⟨impl_crcMore.l0.ok k, trivial⟩) (fun _ => rfl) (fun j x y h => (impl_crcMore.l1.ev k j x).trans h) k rfl)
theorem impl_crcMore.ev (k : Nat) (x : Prod' impl_crcMore.sig.ins) : impl_crcMore.sig.ev (impl_crcMore.C k) (.two .auto (.two .auto (.two (.two .auto (.one (.sum (impl_crcMore.l1.s k)))) .auto))) Tryz.f63.results.toList (cB Tryz.f63) x = impl_crcMore k x.1 x.2 := by kernel_rfl
theorem impl_crcMore.ok (k : Nat) : ConOk Tryz.prog 63 (impl_crcMore.con k) := sig_ok (p := (.two .auto (.two .auto (.two (.two .auto (.one (.sum (impl_crcMore.l1.s k)))) .auto)))) (impl_crcMore.cok k) Tryz.func63 (by kernel_rfl) (show Tryz.f63.body = some (cB Tryz.f63) by kernel_rfl) (by kernel_rfl) (by kernel_rfl) (plan_of (L := [(impl_crcMore.l1.s k, cO (cR (cL (cR (cR (cB Tryz.f63))))))]) (by kernel_rfl) ⟨impl_crcMore.l1.ok k, trivial⟩) (fun x y h => (impl_crcMore.ev k x).trans h)
def impl_seal (k : Nat) (a1 : Str) : Option (Str) :=
  Option.bind (impl_crcMore k 0 a1) fun v2 =>
  Option.bind (nneg? 8) fun v3 =>
  Option.bind (nneg? 16) fun v4 =>
  Option.bind (nneg? 24) fun v5 =>
  Option.bind (cat? a1 (listByte [(IntKind.wrap .u8 v2), (IntKind.wrap .u8 (shr .u32 v2 8)), (IntKind.wrap .u8 (shr .u32 v2 16)), (IntKind.wrap .u8 (shr .u32 v2 24))])) fun v6 =>
  some v6
def impl_seal.sig : Sig := { ps := [.val false .str (ros .str)], rs := [.val false [.v .str]], ntmps := 21 }
def impl_seal.con (k : Nat) : Con := impl_seal.sig.con (fun x => impl_seal k x)
def impl_seal.C (k : Nat) : Ctx := { ti := TAB, con := conL [(63, impl_crcMore.con k)] }
theorem impl_seal.cok (k : Nat) : CtxOk Tryz.prog (impl_seal.C k) := ctx_ok TABok ⟨impl_crcMore.ok k, trivial⟩
theorem impl_seal.ev (k : Nat) (x : Prod' impl_seal.sig.ins) : impl_seal.sig.ev (impl_seal.C k) .auto Tryz.f29.results.toList (cB Tryz.f29) x = impl_seal k x := by kernel_rfl
theorem impl_seal.ok (k : Nat) : ConOk Tryz.prog 29 (impl_seal.con k) := sig_ok (p := .auto) (impl_seal.cok k) Tryz.func29 (by kernel_rfl) (show Tryz.f29.body = some (cB Tryz.f29) by kernel_rfl) (by kernel_rfl) (by kernel_rfl) (plan_of (L := []) (by kernel_rfl) trivial) (fun x y h => (impl_seal.ev k x).trans h)
def impl_putNums.l0 (k : Nat) : Nat → Str → List Int → Int → Int → Option (Str)
  | 0, _, _, _, _ => none
  | j + 1, a1, a2, a3, a4 =>
    bif decide (a4 < a3) then
      Option.bind (at? a2 a4) fun v5 =>
      Option.bind (impl_putNum k v5) fun v6 =>
      Option.bind (cat? a1 v6) fun v7 =>
      impl_putNums.l0 k j v7 a2 a3 (IntKind.wrap .i64 (a4 + 1))
    else
    some a1
def impl_putNums (k : Nat) (a1 : List Int) : Option (Str) :=
  Option.bind (impl_putNums.l0 k k [] a1 ((a1.length) : Int) 0) fun y2 =>
  some y2
def impl_putNums.sig : Sig := { ps := [.val false (.sl (.int .i64)) (ros (.sl (.int .i64)))], rs := [.val false [.v .str]], ntmps := 18 }
def impl_putNums.con (k : Nat) : Con := impl_putNums.sig.con (fun x => impl_putNums k x)
def impl_putNums.C (k : Nat) : Ctx := { ti := TAB, con := conL [(61, impl_putNum.con k)] }
theorem impl_putNums.cok (k : Nat) : CtxOk Tryz.prog (impl_putNums.C k) := ctx_ok TABok ⟨impl_putNum.ok k, trivial⟩
def impl_putNums.l0.ish : Shape := { tmps := [(3, .one (.v .str)), (6, .one (.bor (.int .i64))), (7, .one (.v (.int .i64))), (8, .one (.v (.int .i64)))], slots := [], nb := 0 }
def impl_putNums.l0.outs : List (Ex × Shape) := [(.exit 0, { tmps := [(3, .one (.v .str))], slots := [], nb := 0 })]
def impl_putNums.l0.F (k j : Nat) (x : Prod' impl_putNums.l0.ish.tys) : Option (Outs impl_putNums.l0.outs) := impl_putNums.l0 k j x.1 x.2.1 x.2.2.1 x.2.2.2
def impl_putNums.l0.s (k : Nat) : Summ := { n := 18, ish := impl_putNums.l0.ish, outs := impl_putNums.l0.outs, f := impl_putNums.l0.F k k }
theorem impl_putNums.l0.ev (k j : Nat) (x : Prod' impl_putNums.l0.ish.tys) : V (impl_putNums.C k) .auto (cO (cO (cR (cL (cR (cR (cB Tryz.f62))))))) (mk impl_putNums.l0.ish 18 x) (fun e st' => match e with | .nrm => (rd impl_putNums.l0.ish st').bind (impl_putNums.l0.F k j) | e => rdOut e st' impl_putNums.l0.outs) = impl_putNums.l0.F k (j + 1) x := by kernel_rfl
theorem impl_putNums.l0.ok (k : Nat) : SumOk Tryz.prog (impl_putNums.C k) (.loop (cO (cO (cR (cL (cR (cR (cB Tryz.f62)))))))) (impl_putNums.l0.s k) := sum_ok (by kernel_rfl) (sum_loop (p := .auto) (F := impl_putNums.l0.F k) (impl_putNums.cok k) (by kernel_rfl) (plan_of (L := []) (by kernel_rfl) trivial) (fun _ => rfl) (fun j x y h => (impl_putNums.l0.ev k j x).trans h) k rfl)
theorem impl_putNums.ev (k : Nat) (x : Prod' impl_putNums.sig.ins) : impl_putNums.sig.ev (impl_putNums.C k) (.two .auto (.two .auto (.two (.two .auto (.one (.sum (impl_putNums.l0.s k)))) .auto))) Tryz.f62.results.toList (cB Tryz.f62) x = impl_putNums k x := by kernel_rfl
theorem impl_putNums.ok (k : Nat) : ConOk Tryz.prog 62 (impl_putNums.con k) := sig_ok (p := (.two .auto (.two .auto (.two (.two .auto (.one (.sum (impl_putNums.l0.s k)))) .auto)))) (impl_putNums.cok k) Tryz.func62 (by kernel_rfl) (show Tryz.f62.body = some (cB Tryz.f62) by kernel_rfl) (by kernel_rfl) (by kernel_rfl) (plan_of (L := [(impl_putNums.l0.s k, cO (cR (cL (cR (cR (cB Tryz.f62))))))]) (by kernel_rfl) ⟨impl_putNums.l0.ok k, trivial⟩) (fun x y h => (impl_putNums.ev k x).trans h)
def impl_headBytes (k : Nat) (a1 : G29) : Option (Str) :=
  Option.bind (impl_putNums k [a1.1, a1.2.1, a1.2.2.1]) fun v2 =>
  Option.bind (impl_putText k a1.2.2.2) fun v3 =>
  Option.bind (cat? v2 v3) fun v4 =>
  Option.bind (impl_seal k v4) fun v5 =>
  some v5
def impl_headBytes.sig : Sig := { ps := [.val true T29 (ros T29)], rs := [.val false [.v .str]], ntmps := 16 }
def impl_headBytes.con (k : Nat) : Con := impl_headBytes.sig.con (fun x => impl_headBytes k x)
def impl_headBytes.C (k : Nat) : Ctx := { ti := TAB, con := conL [(26, impl_putText.con k), (29, impl_seal.con k), (62, impl_putNums.con k)] }
theorem impl_headBytes.cok (k : Nat) : CtxOk Tryz.prog (impl_headBytes.C k) := ctx_ok TABok ⟨impl_putText.ok k, impl_seal.ok k, impl_putNums.ok k, trivial⟩
theorem impl_headBytes.ev (k : Nat) (x : Prod' impl_headBytes.sig.ins) : impl_headBytes.sig.ev (impl_headBytes.C k) .auto Tryz.f27.results.toList (cB Tryz.f27) x = impl_headBytes k x := by kernel_rfl
theorem impl_headBytes.ok (k : Nat) : ConOk Tryz.prog 27 (impl_headBytes.con k) := sig_ok (p := .auto) (impl_headBytes.cok k) Tryz.func27 (by kernel_rfl) (show Tryz.f27.body = some (cB Tryz.f27) by kernel_rfl) (by kernel_rfl) (by kernel_rfl) (plan_of (L := []) (by kernel_rfl) trivial) (fun x y h => (impl_headBytes.ev k x).trans h)
def impl_size_impl_Step (a1 : List G29) : Option (Int) :=
  some ((a1.length) : Int)
def impl_size_impl_Step.sig : Sig := { ps := [.val false (.sl T29) (ros (.sl T29))], rs := [.val false [.v (.int .i64)]], ntmps := 5 }
def impl_size_impl_Step.con (k : Nat) : Con := impl_size_impl_Step.sig.con (fun x => impl_size_impl_Step x)
def impl_size_impl_Step.C (k : Nat) : Ctx := { ti := TAB, con := conL [] }
theorem impl_size_impl_Step.cok (k : Nat) : CtxOk Tryz.prog (impl_size_impl_Step.C k) := ctx_ok TABok trivial
theorem impl_size_impl_Step.ev (k : Nat) (x : Prod' impl_size_impl_Step.sig.ins) : impl_size_impl_Step.sig.ev (impl_size_impl_Step.C k) .auto Tryz.f28.results.toList (cB Tryz.f28) x = impl_size_impl_Step x := by kernel_rfl
theorem impl_size_impl_Step.ok (k : Nat) : ConOk Tryz.prog 28 (impl_size_impl_Step.con k) := sig_ok (p := .auto) (impl_size_impl_Step.cok k) Tryz.func28 (by kernel_rfl) (show Tryz.f28.body = some (cB Tryz.f28) by kernel_rfl) (by kernel_rfl) (by kernel_rfl) (plan_of (L := []) (by kernel_rfl) trivial) (fun x y h => (impl_size_impl_Step.ev k x).trans h)
def impl_stepBytes (k : Nat) (a1 : G29) : Option (Str) :=
  Option.bind (impl_putNums k [a1.1, a1.2.1, a1.2.2.1]) fun v2 =>
  Option.bind (impl_putText k a1.2.2.2) fun v3 =>
  Option.bind (cat? v2 v3) fun v4 =>
  some v4
def impl_stepBytes.sig : Sig := { ps := [.val true T29 (ros T29)], rs := [.val false [.v .str]], ntmps := 15 }
def impl_stepBytes.con (k : Nat) : Con := impl_stepBytes.sig.con (fun x => impl_stepBytes k x)
def impl_stepBytes.C (k : Nat) : Ctx := { ti := TAB, con := conL [(26, impl_putText.con k), (62, impl_putNums.con k)] }
theorem impl_stepBytes.cok (k : Nat) : CtxOk Tryz.prog (impl_stepBytes.C k) := ctx_ok TABok ⟨impl_putText.ok k, impl_putNums.ok k, trivial⟩
theorem impl_stepBytes.ev (k : Nat) (x : Prod' impl_stepBytes.sig.ins) : impl_stepBytes.sig.ev (impl_stepBytes.C k) .auto Tryz.f30.results.toList (cB Tryz.f30) x = impl_stepBytes k x := by kernel_rfl
theorem impl_stepBytes.ok (k : Nat) : ConOk Tryz.prog 30 (impl_stepBytes.con k) := sig_ok (p := .auto) (impl_stepBytes.cok k) Tryz.func30 (by kernel_rfl) (show Tryz.f30.body = some (cB Tryz.f30) by kernel_rfl) (by kernel_rfl) (by kernel_rfl) (plan_of (L := []) (by kernel_rfl) trivial) (fun x y h => (impl_stepBytes.ev k x).trans h)
def impl_StreamOf.l0 (k : Nat) : Nat → Str → List G29 → Int → Int → Option (Str)
  | 0, _, _, _, _ => none
  | j + 1, a1, a2, a3, a4 =>
    bif decide (a4 < a3) then
      Option.bind (at? a2 a4) fun v5 =>
      Option.bind (impl_stepBytes k v5) fun v6 =>
      Option.bind (impl_seal k v6) fun v7 =>
      Option.bind (impl_putText k v7) fun v8 =>
      Option.bind (cat? a1 v8) fun v9 =>
      impl_StreamOf.l0 k j v9 a2 a3 (IntKind.wrap .i64 (a4 + 1))
    else
    some a1
def impl_StreamOf (k : Nat) (a1 : G25) : Option (Str) :=
  Option.bind (impl_isPackage k a1) fun v2 =>
  let e3 := ((a1.2.2.length) : Int)
  bif (!v2) || (e3 == 0) then
    some ([])
  else
  Option.bind (impl_planOf k a1.2.2) fun v4 =>
  Option.bind (impl_slotsOf k v4) fun v5 =>
  bif decide (4 < v5) then
    some ([])
  else
  Option.bind (impl_size_impl_Step a1.2.2) fun v6 =>
  Option.bind (impl_headBytes k (a1.1, (v6, (v5, a1.2.1)))) fun v7 =>
  Option.bind (impl_putText k v7) fun v8 =>
  Option.bind (impl_StreamOf.l0 k k v8 a1.2.2 e3 0) fun y9 =>
  some y9
def impl_StreamOf.sig : Sig := { ps := [.val true T25 (ros T25)], rs := [.val false [.v .str]], ntmps := 48 }
def impl_StreamOf.con (k : Nat) : Con := impl_StreamOf.sig.con (fun x => impl_StreamOf k x)
def impl_StreamOf.C (k : Nat) : Ctx := { ti := TAB, con := conL [(23, impl_isPackage.con k), (24, impl_slotsOf.con k), (25, impl_planOf.con k), (26, impl_putText.con k), (27, impl_headBytes.con k), (28, impl_size_impl_Step.con k), (29, impl_seal.con k), (30, impl_stepBytes.con k)], rob := true }
theorem impl_StreamOf.cok (k : Nat) : CtxOk Tryz.prog (impl_StreamOf.C k) := ctx_ok TABok ⟨impl_isPackage.ok k, impl_slotsOf.ok k, impl_planOf.ok k, impl_putText.ok k, impl_headBytes.ok k, impl_size_impl_Step.ok k, impl_seal.ok k, impl_stepBytes.ok k, trivial⟩
def impl_StreamOf.l0.ish : Shape := { tmps := [(4, .one (.v .str)), (34, .one (.bor T29)), (35, .one (.v (.int .i64))), (36, .one (.v (.int .i64)))], slots := [], nb := 1 }
def impl_StreamOf.l0.outs : List (Ex × Shape) := [(.exit 0, { tmps := [(4, .one (.v .str))], slots := [], nb := 1 })]
def impl_StreamOf.l0.F (k j : Nat) (x : Prod' impl_StreamOf.l0.ish.tys) : Option (Outs impl_StreamOf.l0.outs) := impl_StreamOf.l0 k j x.1 x.2.1 x.2.2.1 x.2.2.2
def impl_StreamOf.l0.s (k : Nat) : Summ := { n := 48, ish := impl_StreamOf.l0.ish, outs := impl_StreamOf.l0.outs, f := impl_StreamOf.l0.F k k }
theorem impl_StreamOf.l0.ev (k j : Nat) (x : Prod' impl_StreamOf.l0.ish.tys) : V (impl_StreamOf.C k) .auto (cO (cO (cR (cL (cR (cR (cR (cR (cR (cB Tryz.f5)))))))))) (mk impl_StreamOf.l0.ish 48 x) (fun e st' => match e with | .nrm => (rd impl_StreamOf.l0.ish st').bind (impl_StreamOf.l0.F k j) | e => rdOut e st' impl_StreamOf.l0.outs) = impl_StreamOf.l0.F k (j + 1) x := by kernel_rfl
theorem impl_StreamOf.l0.ok (k : Nat) : SumOk Tryz.prog (impl_StreamOf.C k) (.loop (cO (cO (cR (cL (cR (cR (cR (cR (cR (cB Tryz.f5))))))))))) (impl_StreamOf.l0.s k) := sum_ok (by kernel_rfl) (sum_loop (p := .auto) (F := impl_StreamOf.l0.F k) (impl_StreamOf.cok k) (by kernel_rfl) (plan_of (L := []) (by kernel_rfl) trivial) (fun _ => rfl) (fun j x y h => (impl_StreamOf.l0.ev k j x).trans h) k rfl)
theorem impl_StreamOf.ev (k : Nat) (x : Prod' impl_StreamOf.sig.ins) : impl_StreamOf.sig.ev (impl_StreamOf.C k) (.two .auto (.two .auto (.two .auto (.two .auto (.two .auto (.two (.two .auto (.one (.sum (impl_StreamOf.l0.s k)))) .auto)))))) Tryz.f5.results.toList (cB Tryz.f5) x = impl_StreamOf k x := by kernel_rfl
theorem impl_StreamOf.ok (k : Nat) : ConOk Tryz.prog 5 (impl_StreamOf.con k) := sig_ok (p := (.two .auto (.two .auto (.two .auto (.two .auto (.two .auto (.two (.two .auto (.one (.sum (impl_StreamOf.l0.s k)))) .auto))))))) (impl_StreamOf.cok k) Tryz.func5 (by kernel_rfl) (show Tryz.f5.body = some (cB Tryz.f5) by kernel_rfl) (by kernel_rfl) (by kernel_rfl) (plan_of (L := [(impl_StreamOf.l0.s k, cO (cR (cL (cR (cR (cR (cR (cR (cB Tryz.f5)))))))))]) (by kernel_rfl) ⟨impl_StreamOf.l0.ok k, trivial⟩) (fun x y h => (impl_StreamOf.ev k x).trans h)
def spec_HeadRight (a1 : G29) : Option (Bool) :=
  Option.bind (spec_l03Is a1.1 1 8) fun v2 =>
  bif v2 then
    Option.bind (spec_l03Is a1.2.1 1 20) fun v3 =>
    bif v3 then
      Option.bind (spec_l03Is a1.2.2.1 0 4) fun v4 =>
      some (v4 && (((a1.2.2.2.length) : Int) == 32))
    else
    some false
  else
  some false
def spec_HeadRight.sig : Sig := { ps := [.val true T29 (ros T29)], rs := [.val false [.v .bool]], ntmps := 22 }
def spec_HeadRight.con (k : Nat) : Con := spec_HeadRight.sig.con (fun x => spec_HeadRight x)
def spec_HeadRight.C (k : Nat) : Ctx := { ti := TAB, con := conL [(47, spec_l03Is.con k)] }
theorem spec_HeadRight.cok (k : Nat) : CtxOk Tryz.prog (spec_HeadRight.C k) := ctx_ok TABok ⟨spec_l03Is.ok k, trivial⟩
theorem spec_HeadRight.ev (k : Nat) (x : Prod' spec_HeadRight.sig.ins) : spec_HeadRight.sig.ev (spec_HeadRight.C k) .auto Tryz.f20.results.toList (cB Tryz.f20) x = spec_HeadRight x := by kernel_rfl
theorem spec_HeadRight.ok (k : Nat) : ConOk Tryz.prog 20 (spec_HeadRight.con k) := sig_ok (p := .auto) (spec_HeadRight.cok k) Tryz.func20 (by kernel_rfl) (show Tryz.f20.body = some (cB Tryz.f20) by kernel_rfl) (by kernel_rfl) (by kernel_rfl) (plan_of (L := []) (by kernel_rfl) trivial) (fun x y h => (spec_HeadRight.ev k x).trans h)
def spec_FeedRight (a1 : G31) : Option (Bool) :=
  bif decide (500 < ((a1.2.2.length) : Int)) then
    some false
  else
  bif (a1.1.1 == 0) && ((a1.1.2.1 == 0) && ((a1.1.2.2.1 == 0) && (a1.1.2.2.2 == []))) then
    some (a1.2.1 == 0)
  else
  Option.bind (spec_HeadRight a1.1) fun v2 =>
  bif v2 then
    Option.bind (spec_l03Is a1.2.1 0 a1.1.2.1) fun v3 =>
    some v3
  else
  some false
def spec_FeedRight.sig : Sig := { ps := [.val true T31 (ros T31)], rs := [.val false [.v .bool]], ntmps := 25 }
def spec_FeedRight.con (k : Nat) : Con := spec_FeedRight.sig.con (fun x => spec_FeedRight x)
def spec_FeedRight.C (k : Nat) : Ctx := { ti := TAB, con := conL [(20, spec_HeadRight.con k), (47, spec_l03Is.con k)] }
theorem spec_FeedRight.cok (k : Nat) : CtxOk Tryz.prog (spec_FeedRight.C k) := ctx_ok TABok ⟨spec_HeadRight.ok k, spec_l03Is.ok k, trivial⟩
theorem spec_FeedRight.ev (k : Nat) (x : Prod' spec_FeedRight.sig.ins) : spec_FeedRight.sig.ev (spec_FeedRight.C k) .auto Tryz.f15.results.toList (cB Tryz.f15) x = spec_FeedRight x := by kernel_rfl
theorem spec_FeedRight.ok (k : Nat) : ConOk Tryz.prog 15 (spec_FeedRight.con k) := sig_ok (p := .auto) (spec_FeedRight.cok k) Tryz.func15 (by kernel_rfl) (show Tryz.f15.body = some (cB Tryz.f15) by kernel_rfl) (by kernel_rfl) (by kernel_rfl) (plan_of (L := []) (by kernel_rfl) trivial) (fun x y h => (spec_FeedRight.ev k x).trans h)
def spec_GetNum.l0 : Nat → Str → Int → Int → Int → Int → Int → Int → Option ((Int × Int × Int) ⊕ (Int × Int × Int))
  | 0, _, _, _, _, _, _, _ => none
  | j + 1, a1, a2, a3, a4, a5, a6, a7 =>
    bif decide (a4 < 10) then
      bif decide ((IntKind.wrap .i64 (((a1.length) : Int) - a4)) ≤ a2) then
        some (.inr (0, 0, 4))
      else
      let e8 := IntKind.wrap .i64 (a2 + a4)
      Option.bind (at? a1 e8) fun v9 =>
      bif (a4 == 9) && (decide (1 < (IntKind.wrap .u64 (v9.toNat : Int)))) then
        some (.inr (0, 0, 3))
      else
      Option.bind (nz? 128) fun v10 =>
      let e11 := IntKind.wrap .u64 (IntKind.wrap .i64 (7 * a4))
      Option.bind (nneg? e11) fun v12 =>
      let e13 := IntKind.wrap .u64 (a3 + (shl .u64 (Int.tmod (IntKind.wrap .u64 (v9.toNat : Int)) 128) e11))
      bif decide ((IntKind.wrap .u64 (v9.toNat : Int)) < 128) then
        bif ((IntKind.wrap .u64 (v9.toNat : Int)) == 0) && (decide (0 < a4)) then
          some (.inr (0, 0, 3))
        else
        Option.bind (nz? 2) fun v14 =>
        Option.bind (nz? 2) fun v15 =>
        let e16 := IntKind.wrap .i64 (e8 + 1)
        let e17 := IntKind.wrap .i64 (IntKind.wrap .u64 (Int.tdiv e13 2))
        bif (Int.tmod e13 2) == 1 then
          some (.inr (IntKind.wrap .i64 ((IntKind.wrap .i64 (0 - e17)) - 1), e16, 0))
        else
        some (.inr (e17, e16, 0))
      else
      spec_GetNum.l0 j a1 a2 e13 (IntKind.wrap .i64 (a4 + 1)) a5 a6 a7
    else
    some (.inl (a5, a6, a7))
def spec_GetNum (k : Nat) (a1 : Str) (a2 : Int) : Option (Int × Int × Int) :=
  bif decide (8000 < ((a1.length) : Int)) then
    some (0, 0, 2)
  else
  bif decide (a2 < 0) then
    some (0, 0, 1)
  else
  Option.bind (spec_GetNum.l0 k a1 a2 0 0 0 0 0) fun
    | .inl y3 =>
      some (0, 0, 3)
    | .inr y4 =>
      some (y4.1, y4.2.1, y4.2.2)
def spec_GetNum.sig : Sig := { ps := [.val false .str (ros .str), .val false (.int .i64) (ros (.int .i64))], rs := [.val true [.v (.int .i64), .v (.int .i64), .v (.int .i64)]], ntmps := 73 }
def spec_GetNum.con (k : Nat) : Con := spec_GetNum.sig.con (fun x => spec_GetNum k x.1 x.2)
def spec_GetNum.C (k : Nat) : Ctx := { ti := TAB, con := conL [] }
theorem spec_GetNum.cok (k : Nat) : CtxOk Tryz.prog (spec_GetNum.C k) := ctx_ok TABok trivial
def spec_GetNum.l0.ish : Shape := { tmps := [(0, .one (.v .str)), (1, .one (.v (.int .i64))), (4, .one (.ptr 0 0)), (5, .one (.v (.int .u64))), (6, .one (.v (.int .i64)))], slots := [(0, .box 112 [.v (.int .i64), .v (.int .i64), .v (.int .i64)])], nb := 1 }
def spec_GetNum.l0.outs : List (Ex × Shape) := [(.exit 0, { tmps := [], slots := [(0, .box 112 [.v (.int .i64), .v (.int .i64), .v (.int .i64)])], nb := 1 }), (.ret, { tmps := [], slots := [(0, .box 112 [.v (.int .i64), .v (.int .i64), .v (.int .i64)])], nb := 1 })]
def spec_GetNum.l0.F (k j : Nat) (x : Prod' spec_GetNum.l0.ish.tys) : Option (Outs spec_GetNum.l0.outs) := spec_GetNum.l0 j x.1 x.2.1 x.2.2.1 x.2.2.2.1 x.2.2.2.2.1 x.2.2.2.2.2.1 x.2.2.2.2.2.2
def spec_GetNum.l0.s (k : Nat) : Summ := { n := 73, ish := spec_GetNum.l0.ish, outs := spec_GetNum.l0.outs, f := spec_GetNum.l0.F k k }
theorem spec_GetNum.l0.ev (k j : Nat) (x : Prod' spec_GetNum.l0.ish.tys) : V (spec_GetNum.C k) .auto (cO (cO (cR (cL (cR (cR (cR (cR (cB Tryz.f75))))))))) (mk spec_GetNum.l0.ish 73 x) (fun e st' => match e with | .nrm => (rd spec_GetNum.l0.ish st').bind (spec_GetNum.l0.F k j) | e => rdOut e st' spec_GetNum.l0.outs) = spec_GetNum.l0.F k (j + 1) x := by kernel_rfl
theorem spec_GetNum.l0.ok (k : Nat) : SumOk Tryz.prog (spec_GetNum.C k) (.loop (cO (cO (cR (cL (cR (cR (cR (cR (cB Tryz.f75)))))))))) (spec_GetNum.l0.s k) := sum_ok (by kernel_rfl) (sum_loop (p := .auto) (F := spec_GetNum.l0.F k) (spec_GetNum.cok k) (by kernel_rfl) (plan_of (L := []) (by kernel_rfl) trivial) (fun _ => rfl) (fun j x y h => (spec_GetNum.l0.ev k j x).trans h) k rfl)
theorem spec_GetNum.ev (k : Nat) (x : Prod' spec_GetNum.sig.ins) : spec_GetNum.sig.ev (spec_GetNum.C k) (.two .auto (.two .auto (.two .auto (.two .auto (.two (.two .auto (.one (.sum (spec_GetNum.l0.s k)))) .auto))))) Tryz.f75.results.toList (cB Tryz.f75) x = spec_GetNum k x.1 x.2 := by kernel_rfl
theorem spec_GetNum.ok (k : Nat) : ConOk Tryz.prog 75 (spec_GetNum.con k) := sig_ok (p := (.two .auto (.two .auto (.two .auto (.two .auto (.two (.two .auto (.one (.sum (spec_GetNum.l0.s k)))) .auto)))))) (spec_GetNum.cok k) Tryz.func75 (by kernel_rfl) (show Tryz.f75.body = some (cB Tryz.f75) by kernel_rfl) (by kernel_rfl) (by kernel_rfl) (plan_of (L := [(spec_GetNum.l0.s k, cO (cR (cL (cR (cR (cR (cR (cB Tryz.f75))))))))]) (by kernel_rfl) ⟨spec_GetNum.l0.ok k, trivial⟩) (fun x y h => (spec_GetNum.ev k x).trans h)
def spec_GetText (k : Nat) (a1 : Str) (a2 : Int) : Option (Str × Int × Int) :=
  Option.bind (spec_GetNum k a1 a2) fun v3 =>
  bif v3.2.2 != 0 then
    some ([], 0, v3.2.2)
  else
  bif (decide (v3.1 < 0)) || (decide (8000 < v3.1)) then
    some ([], 0, 3)
  else
  bif decide ((IntKind.wrap .i64 (((a1.length) : Int) - v3.1)) < v3.2.1) then
    some ([], 0, 4)
  else
  let e4 := IntKind.wrap .i64 (v3.2.1 + v3.1)
  Option.bind (cut? a1 v3.2.1 e4) fun v5 =>
  some (v5, e4, 0)
def spec_GetText.sig : Sig := { ps := [.val false .str (ros .str), .val false (.int .i64) (ros (.int .i64))], rs := [.val true [.v .str, .v (.int .i64), .v (.int .i64)]], ntmps := 48 }
def spec_GetText.con (k : Nat) : Con := spec_GetText.sig.con (fun x => spec_GetText k x.1 x.2)
def spec_GetText.C (k : Nat) : Ctx := { ti := TAB, con := conL [(75, spec_GetNum.con k)] }
theorem spec_GetText.cok (k : Nat) : CtxOk Tryz.prog (spec_GetText.C k) := ctx_ok TABok ⟨spec_GetNum.ok k, trivial⟩
theorem spec_GetText.ev (k : Nat) (x : Prod' spec_GetText.sig.ins) : spec_GetText.sig.ev (spec_GetText.C k) .auto Tryz.f45.results.toList (cB Tryz.f45) x = spec_GetText k x.1 x.2 := by kernel_rfl
theorem spec_GetText.ok (k : Nat) : ConOk Tryz.prog 45 (spec_GetText.con k) := sig_ok (p := .auto) (spec_GetText.cok k) Tryz.func45 (by kernel_rfl) (show Tryz.f45.body = some (cB Tryz.f45) by kernel_rfl) (by kernel_rfl) (by kernel_rfl) (plan_of (L := []) (by kernel_rfl) trivial) (fun x y h => (spec_GetText.ev k x).trans h)
def spec_l01Four (a1 : Int) : Option (Str) :=
  Option.bind (nneg? 8) fun v2 =>
  Option.bind (nneg? 16) fun v3 =>
  Option.bind (nneg? 24) fun v4 =>
  some (listByte [(IntKind.wrap .u8 a1), (IntKind.wrap .u8 (shr .i64 a1 8)), (IntKind.wrap .u8 (shr .i64 a1 16)), (IntKind.wrap .u8 (shr .i64 a1 24))])
def spec_l01Four.sig : Sig := { ps := [.val false (.int .i64) (ros (.int .i64))], rs := [.val false [.v .str]], ntmps := 16 }
def spec_l01Four.con (k : Nat) : Con := spec_l01Four.sig.con (fun x => spec_l01Four x)
def spec_l01Four.C (k : Nat) : Ctx := { ti := TAB, con := conL [] }
theorem spec_l01Four.cok (k : Nat) : CtxOk Tryz.prog (spec_l01Four.C k) := ctx_ok TABok trivial
theorem spec_l01Four.ev (k : Nat) (x : Prod' spec_l01Four.sig.ins) : spec_l01Four.sig.ev (spec_l01Four.C k) .auto Tryz.f68.results.toList (cB Tryz.f68) x = spec_l01Four x := by kernel_rfl
theorem spec_l01Four.ok (k : Nat) : ConOk Tryz.prog 68 (spec_l01Four.con k) := sig_ok (p := .auto) (spec_l01Four.cok k) Tryz.func68 (by kernel_rfl) (show Tryz.f68.body = some (cB Tryz.f68) by kernel_rfl) (by kernel_rfl) (by kernel_rfl) (plan_of (L := []) (by kernel_rfl) trivial) (fun x y h => (spec_l01Four.ev k x).trans h)
def spec_l01Crc.l0 : Nat → Int → Int → Option (Int)
  | 0, _, _ => none
  | j + 1, a1, a2 =>
    bif decide (a2 < 8) then
      let e3 := IntKind.wrap .i64 (a2 + 1)
      bif (intBits .and .u32 a1 1) == 1 then
        Option.bind (nneg? 1) fun v4 =>
        spec_l01Crc.l0 j (intBits .xor .u32 (shr .u32 a1 1) 3988292384) e3
      else
      Option.bind (nneg? 1) fun v5 =>
      spec_l01Crc.l0 j (shr .u32 a1 1) e3
    else
    some a1
def spec_l01Crc.l1 (k : Nat) : Nat → Str → Int → Int → Option (Int)
  | 0, _, _, _ => none
  | j + 1, a1, a2, a3 =>
    bif decide (a3 < ((a1.length) : Int)) then
      Option.bind (at? a1 a3) fun v4 =>
      Option.bind (spec_l01Crc.l0 k (intBits .xor .u32 a2 (IntKind.wrap .u32 (v4.toNat : Int))) 0) fun y5 =>
      spec_l01Crc.l1 k j a1 y5 (IntKind.wrap .i64 (a3 + 1))
    else
    some a2
def spec_l01Crc (k : Nat) (a1 : Int) (a2 : Str) : Option (Int) :=
  Option.bind (spec_l01Crc.l1 k k a2 (intBits .xor .u32 (IntKind.wrap .u32 a1) 4294967295) 0) fun y3 =>
  some (IntKind.wrap .i64 (intBits .xor .u32 y3 4294967295))
def spec_l01Crc.sig : Sig := { ps := [.val false (.int .i64) (ros (.int .i64)), .val false .str (ros .str)], rs := [.val false [.v (.int .i64)]], ntmps := 38 }
def spec_l01Crc.con (k : Nat) : Con := spec_l01Crc.sig.con (fun x => spec_l01Crc k x.1 x.2)
def spec_l01Crc.C (k : Nat) : Ctx := { ti := TAB, con := conL [] }
theorem spec_l01Crc.cok (k : Nat) : CtxOk Tryz.prog (spec_l01Crc.C k) := ctx_ok TABok trivial
def spec_l01Crc.l0.ish : Shape := { tmps := [(5, .one (.v (.int .u32))), (7, .one (.v (.int .i64)))], slots := [], nb := 0 }
def spec_l01Crc.l0.outs : List (Ex × Shape) := [(.exit 2, { tmps := [(5, .one (.v (.int .u32)))], slots := [], nb := 0 })]
def spec_l01Crc.l0.F (k j : Nat) (x : Prod' spec_l01Crc.l0.ish.tys) : Option (Outs spec_l01Crc.l0.outs) := spec_l01Crc.l0 j x.1 x.2
def spec_l01Crc.l0.s (k : Nat) : Summ := { n := 38, ish := spec_l01Crc.l0.ish, outs := spec_l01Crc.l0.outs, f := spec_l01Crc.l0.F k k }
theorem spec_l01Crc.l0.ev (k j : Nat) (x : Prod' spec_l01Crc.l0.ish.tys) : V (spec_l01Crc.C k) .auto (cO (cO (cR (cR (cO (cL (cR (cO (cO (cR (cL (cR (cR (cB Tryz.f69)))))))))))))) (mk spec_l01Crc.l0.ish 38 x) (fun e st' => match e with | .nrm => (rd spec_l01Crc.l0.ish st').bind (spec_l01Crc.l0.F k j) | e => rdOut e st' spec_l01Crc.l0.outs) = spec_l01Crc.l0.F k (j + 1) x := by kernel_rfl
theorem spec_l01Crc.l0.ok (k : Nat) : SumOk Tryz.prog (spec_l01Crc.C k) (.loop (cO (cO (cR (cR (cO (cL (cR (cO (cO (cR (cL (cR (cR (cB Tryz.f69))))))))))))))) (spec_l01Crc.l0.s k) := sum_ok (by kernel_rfl) (sum_loop (p := .auto) (F := spec_l01Crc.l0.F k) (spec_l01Crc.cok k) (by kernel_rfl) (plan_of (L := []) (by kernel_rfl) trivial) (fun _ => rfl) (fun j x y h => (spec_l01Crc.l0.ev k j x).trans h) k rfl)
def spec_l01Crc.l1.ish : Shape := { tmps := [(1, .one (.v .str)), (5, .one (.v (.int .u32))), (6, .one (.v (.int .i64)))], slots := [], nb := 0 }
def spec_l01Crc.l1.outs : List (Ex × Shape) := [(.exit 0, { tmps := [(5, .one (.v (.int .u32)))], slots := [], nb := 0 })]
def spec_l01Crc.l1.F (k j : Nat) (x : Prod' spec_l01Crc.l1.ish.tys) : Option (Outs spec_l01Crc.l1.outs) := spec_l01Crc.l1 k j x.1 x.2.1 x.2.2
def spec_l01Crc.l1.s (k : Nat) : Summ := { n := 38, ish := spec_l01Crc.l1.ish, outs := spec_l01Crc.l1.outs, f := spec_l01Crc.l1.F k k }
theorem spec_l01Crc.l1.ev (k j : Nat) (x : Prod' spec_l01Crc.l1.ish.tys) : V (spec_l01Crc.C k) (.two .auto (.two (.one (.two .auto (.two .auto (.one (.sum (spec_l01Crc.l0.s k)))))) .auto)) (cO (cO (cR (cL (cR (cR (cB Tryz.f69))))))) (mk spec_l01Crc.l1.ish 38 x) (fun e st' => match e with | .nrm => (rd spec_l01Crc.l1.ish st').bind (spec_l01Crc.l1.F k j) | e => rdOut e st' spec_l01Crc.l1.outs) = spec_l01Crc.l1.F k (j + 1) x := by kernel_rfl
theorem spec_l01Crc.l1.ok (k : Nat) : SumOk Tryz.prog (spec_l01Crc.C k) (.loop (cO (cO (cR (cL (cR (cR (cB Tryz.f69)))))))) (spec_l01Crc.l1.s k) := sum_ok (by kernel_rfl) (sum_loop (p := (.two .auto (.two (.one (.two .auto (.two .auto (.one (.sum (spec_l01Crc.l0.s k)))))) .auto))) (F := spec_l01Crc.l1.F k) (spec_l01Crc.cok k) (by kernel_rfl) (plan_of (L := [(spec_l01Crc.l0.s k, cO (cR (cR (cO (cL (cR (cO (cO (cR (cL (cR (cR (cB Tryz.f69)))))))))))))]) (by kernel_rfl) ⟨spec_l01Crc.l0.ok k, trivial⟩) (fun _ => rfl) (fun j x y h => (spec_l01Crc.l1.ev k j x).trans h) k rfl)
theorem spec_l01Crc.ev (k : Nat) (x : Prod' spec_l01Crc.sig.ins) : spec_l01Crc.sig.ev (spec_l01Crc.C k) (.two .auto (.two .auto (.two (.two .auto (.one (.sum (spec_l01Crc.l1.s k)))) .auto))) Tryz.f69.results.toList (cB Tryz.f69) x = spec_l01Crc k x.1 x.2 := by kernel_rfl
theorem spec_l01Crc.ok (k : Nat) : ConOk Tryz.prog 69 (spec_l01Crc.con k) := sig_ok (p := (.two .auto (.two .auto (.two (.two .auto (.one (.sum (spec_l01Crc.l1.s k)))) .auto)))) (spec_l01Crc.cok k) Tryz.func69 (by kernel_rfl) (show Tryz.f69.body = some (cB Tryz.f69) by kernel_rfl) (by kernel_rfl) (by kernel_rfl) (plan_of (L := [(spec_l01Crc.l1.s k, cO (cR (cL (cR (cR (cB Tryz.f69))))))]) (by kernel_rfl) ⟨spec_l01Crc.l1.ok k, trivial⟩) (fun x y h => (spec_l01Crc.ev k x).trans h)
def spec_Seal (k : Nat) (a1 : Str) : Option (Str) :=
  bif decide (7996 < ((a1.length) : Int)) then
    some ([])
  else
  Option.bind (spec_l01Crc k 0 a1) fun v2 =>
  Option.bind (spec_l01Four v2) fun v3 =>
  Option.bind (cat? a1 v3) fun v4 =>
  some v4
def spec_Seal.sig : Sig := { ps := [.val false .str (ros .str)], rs := [.val false [.v .str]], ntmps := 11 }
def spec_Seal.con (k : Nat) : Con := spec_Seal.sig.con (fun x => spec_Seal k x)
def spec_Seal.C (k : Nat) : Ctx := { ti := TAB, con := conL [(68, spec_l01Four.con k), (69, spec_l01Crc.con k)] }
theorem spec_Seal.cok (k : Nat) : CtxOk Tryz.prog (spec_Seal.C k) := ctx_ok TABok ⟨spec_l01Four.ok k, spec_l01Crc.ok k, trivial⟩
theorem spec_Seal.ev (k : Nat) (x : Prod' spec_Seal.sig.ins) : spec_Seal.sig.ev (spec_Seal.C k) .auto Tryz.f37.results.toList (cB Tryz.f37) x = spec_Seal k x := by kernel_rfl
theorem spec_Seal.ok (k : Nat) : ConOk Tryz.prog 37 (spec_Seal.con k) := sig_ok (p := .auto) (spec_Seal.cok k) Tryz.func37 (by kernel_rfl) (show Tryz.f37.body = some (cB Tryz.f37) by kernel_rfl) (by kernel_rfl) (by kernel_rfl) (plan_of (L := []) (by kernel_rfl) trivial) (fun x y h => (spec_Seal.ev k x).trans h)
def spec_l01Fold (a1 : Int) : Option (Int) :=
  bif decide (a1 < 0) then
    some (IntKind.wrap .u64 ((IntKind.wrap .u64 (2 * (IntKind.wrap .u64 (IntKind.wrap .i64 (0 - (IntKind.wrap .i64 (a1 + 1))))))) + 1))
  else
  some (IntKind.wrap .u64 (2 * (IntKind.wrap .u64 a1)))
def spec_l01Fold.sig : Sig := { ps := [.val false (.int .i64) (ros (.int .i64))], rs := [.val false [.v (.int .u64)]], ntmps := 14 }
def spec_l01Fold.con (k : Nat) : Con := spec_l01Fold.sig.con (fun x => spec_l01Fold x)
def spec_l01Fold.C (k : Nat) : Ctx := { ti := TAB, con := conL [] }
theorem spec_l01Fold.cok (k : Nat) : CtxOk Tryz.prog (spec_l01Fold.C k) := ctx_ok TABok trivial
theorem spec_l01Fold.ev (k : Nat) (x : Prod' spec_l01Fold.sig.ins) : spec_l01Fold.sig.ev (spec_l01Fold.C k) .auto Tryz.f78.results.toList (cB Tryz.f78) x = spec_l01Fold x := by kernel_rfl
theorem spec_l01Fold.ok (k : Nat) : ConOk Tryz.prog 78 (spec_l01Fold.con k) := sig_ok (p := .auto) (spec_l01Fold.cok k) Tryz.func78 (by kernel_rfl) (show Tryz.f78.body = some (cB Tryz.f78) by kernel_rfl) (by kernel_rfl) (by kernel_rfl) (plan_of (L := []) (by kernel_rfl) trivial) (fun x y h => (spec_l01Fold.ev k x).trans h)
def spec_PutNum.l0 : Nat → Int → List Int → Option ((Int × List Int))
  | 0, _, _ => none
  | j + 1, a1, a2 =>
    bif decide (128 ≤ a1) then
      Option.bind (nz? 128) fun v3 =>
      Option.bind (app? 1 a2 [(IntKind.wrap .u8 (IntKind.wrap .u64 ((Int.tmod a1 128) + 128)))]) fun v4 =>
      Option.bind (nz? 128) fun v5 =>
      spec_PutNum.l0 j (IntKind.wrap .u64 (Int.tdiv a1 128)) v4
    else
    some (a1, a2)
def spec_PutNum (k : Nat) (a1 : Int) : Option (Str) :=
  Option.bind (spec_l01Fold a1) fun v2 =>
  Option.bind (spec_PutNum.l0 k v2 []) fun y3 =>
  Option.bind (app? 1 y3.2 [(IntKind.wrap .u8 y3.1)]) fun v4 =>
  some (listByte v4)
def spec_PutNum.sig : Sig := { ps := [.val false (.int .i64) (ros (.int .i64))], rs := [.val false [.v .str]], ntmps := 25 }
def spec_PutNum.con (k : Nat) : Con := spec_PutNum.sig.con (fun x => spec_PutNum k x)
def spec_PutNum.C (k : Nat) : Ctx := { ti := TAB, con := conL [(78, spec_l01Fold.con k)] }
theorem spec_PutNum.cok (k : Nat) : CtxOk Tryz.prog (spec_PutNum.C k) := ctx_ok TABok ⟨spec_l01Fold.ok k, trivial⟩
def spec_PutNum.l0.ish : Shape := { tmps := [(3, .one (.v (.int .u64))), (4, .one (.own 1))], slots := [(1, .arr false 5 (.int .u8))], nb := 2 }
def spec_PutNum.l0.outs : List (Ex × Shape) := [(.exit 0, { tmps := [(3, .one (.v (.int .u64))), (4, .one (.own 2))], slots := [(2, .arr false 5 (.int .u8))], nb := 3 })]
def spec_PutNum.l0.F (k j : Nat) (x : Prod' spec_PutNum.l0.ish.tys) : Option (Outs spec_PutNum.l0.outs) := spec_PutNum.l0 j x.1 x.2
def spec_PutNum.l0.s (k : Nat) : Summ := { n := 25, ish := spec_PutNum.l0.ish, outs := spec_PutNum.l0.outs, f := spec_PutNum.l0.F k k }
theorem spec_PutNum.l0.ev (k j : Nat) (x : Prod' spec_PutNum.l0.ish.tys) : V (spec_PutNum.C k) .auto (cO (cO (cL (cR (cR (cR (cB Tryz.f48))))))) (mk spec_PutNum.l0.ish 25 x) (fun e st' => match e with | .nrm => (rd spec_PutNum.l0.ish st').bind (spec_PutNum.l0.F k j) | e => rdOut e st' spec_PutNum.l0.outs) = spec_PutNum.l0.F k (j + 1) x := by kernel_rfl
theorem spec_PutNum.l0.ok (k : Nat) : SumOk Tryz.prog (spec_PutNum.C k) (.loop (cO (cO (cL (cR (cR (cR (cB Tryz.f48)))))))) (spec_PutNum.l0.s k) := sum_ok (by kernel_rfl) (sum_loop (p := .auto) (F := spec_PutNum.l0.F k) (spec_PutNum.cok k) (by kernel_rfl) (plan_of (L := []) (by kernel_rfl) trivial) (fun _ => rfl) (fun j x y h => (spec_PutNum.l0.ev k j x).trans h) k rfl)
theorem spec_PutNum.ev (k : Nat) (x : Prod' spec_PutNum.sig.ins) : spec_PutNum.sig.ev (spec_PutNum.C k) (.two .auto (.two .auto (.two .auto (.two (.one (.sum (spec_PutNum.l0.s k))) .auto)))) Tryz.f48.results.toList (cB Tryz.f48) x = spec_PutNum k x := by kernel_rfl
theorem spec_PutNum.ok (k : Nat) : ConOk Tryz.prog 48 (spec_PutNum.con k) := sig_ok (p := (.two .auto (.two .auto (.two .auto (.two (.one (.sum (spec_PutNum.l0.s k))) .auto))))) (spec_PutNum.cok k) Tryz.func48 (by kernel_rfl) (show Tryz.f48.body = some (cB Tryz.f48) by kernel_rfl) (by kernel_rfl) (by kernel_rfl) (plan_of (L := [(spec_PutNum.l0.s k, cO (cL (cR (cR (cR (cB Tryz.f48))))))]) (by kernel_rfl) ⟨spec_PutNum.l0.ok k, trivial⟩) (fun x y h => (spec_PutNum.ev k x).trans h)
def spec_PutText (k : Nat) (a1 : Str) : Option (Str) :=
  bif decide (8000 < ((a1.length) : Int)) then
    some ([])
  else
  Option.bind (spec_PutNum k ((a1.length) : Int)) fun v2 =>
  Option.bind (cat? v2 a1) fun v3 =>
  some v3
def spec_PutText.sig : Sig := { ps := [.val false .str (ros .str)], rs := [.val false [.v .str]], ntmps := 11 }
def spec_PutText.con (k : Nat) : Con := spec_PutText.sig.con (fun x => spec_PutText k x)
def spec_PutText.C (k : Nat) : Ctx := { ti := TAB, con := conL [(48, spec_PutNum.con k)] }
theorem spec_PutText.cok (k : Nat) : CtxOk Tryz.prog (spec_PutText.C k) := ctx_ok TABok ⟨spec_PutNum.ok k, trivial⟩
theorem spec_PutText.ev (k : Nat) (x : Prod' spec_PutText.sig.ins) : spec_PutText.sig.ev (spec_PutText.C k) .auto Tryz.f41.results.toList (cB Tryz.f41) x = spec_PutText k x := by kernel_rfl
theorem spec_PutText.ok (k : Nat) : ConOk Tryz.prog 41 (spec_PutText.con k) := sig_ok (p := .auto) (spec_PutText.cok k) Tryz.func41 (by kernel_rfl) (show Tryz.f41.body = some (cB Tryz.f41) by kernel_rfl) (by kernel_rfl) (by kernel_rfl) (plan_of (L := []) (by kernel_rfl) trivial) (fun x y h => (spec_PutText.ev k x).trans h)
def spec_HeadBytes (k : Nat) (a1 : G29) : Option (Str) :=
  Option.bind (spec_HeadRight a1) fun v2 =>
  bif !v2 then
    some ([])
  else
  Option.bind (spec_PutNum k a1.1) fun v3 =>
  Option.bind (spec_PutNum k a1.2.1) fun v4 =>
  Option.bind (cat? v3 v4) fun v5 =>
  Option.bind (spec_PutNum k a1.2.2.1) fun v6 =>
  Option.bind (cat? v5 v6) fun v7 =>
  Option.bind (spec_PutText k a1.2.2.2) fun v8 =>
  Option.bind (cat? v7 v8) fun v9 =>
  Option.bind (spec_Seal k v9) fun v10 =>
  some v10
def spec_HeadBytes.sig : Sig := { ps := [.val true T29 (ros T29)], rs := [.val false [.v .str]], ntmps := 22 }
def spec_HeadBytes.con (k : Nat) : Con := spec_HeadBytes.sig.con (fun x => spec_HeadBytes k x)
def spec_HeadBytes.C (k : Nat) : Ctx := { ti := TAB, con := conL [(20, spec_HeadRight.con k), (37, spec_Seal.con k), (41, spec_PutText.con k), (48, spec_PutNum.con k)] }
theorem spec_HeadBytes.cok (k : Nat) : CtxOk Tryz.prog (spec_HeadBytes.C k) := ctx_ok TABok ⟨spec_HeadRight.ok k, spec_Seal.ok k, spec_PutText.ok k, spec_PutNum.ok k, trivial⟩
theorem spec_HeadBytes.ev (k : Nat) (x : Prod' spec_HeadBytes.sig.ins) : spec_HeadBytes.sig.ev (spec_HeadBytes.C k) .auto Tryz.f16.results.toList (cB Tryz.f16) x = spec_HeadBytes k x := by kernel_rfl
theorem spec_HeadBytes.ok (k : Nat) : ConOk Tryz.prog 16 (spec_HeadBytes.con k) := sig_ok (p := .auto) (spec_HeadBytes.cok k) Tryz.func16 (by kernel_rfl) (show Tryz.f16.body = some (cB Tryz.f16) by kernel_rfl) (by kernel_rfl) (by kernel_rfl) (plan_of (L := []) (by kernel_rfl) trivial) (fun x y h => (spec_HeadBytes.ev k x).trans h)
def spec_Unseal (k : Nat) (a1 : Str) : Option (Str × Int × Int) :=
  bif decide (8000 < ((a1.length) : Int)) then
    some ([], 0, 2)
  else
  bif decide (((a1.length) : Int) < 4) then
    some ([], 0, 4)
  else
  let e2 := IntKind.wrap .i64 (((a1.length) : Int) - 4)
  Option.bind (cut? a1 0 e2) fun v3 =>
  Option.bind (spec_l01Crc k 0 v3) fun v4 =>
  Option.bind (spec_l01Four v4) fun v5 =>
  Option.bind (cut? a1 e2 ((a1.length) : Int)) fun v6 =>
  bif !(v5 == v6) then
    some ([], 0, 5)
  else
  some (v3, 0, 0)
def spec_Unseal.sig : Sig := { ps := [.val false .str (ros .str)], rs := [.val true [.v .str, .v (.int .i64), .v (.int .i64)]], ntmps := 29 }
def spec_Unseal.con (k : Nat) : Con := spec_Unseal.sig.con (fun x => spec_Unseal k x)
def spec_Unseal.C (k : Nat) : Ctx := { ti := TAB, con := conL [(68, spec_l01Four.con k), (69, spec_l01Crc.con k)] }
theorem spec_Unseal.cok (k : Nat) : CtxOk Tryz.prog (spec_Unseal.C k) := ctx_ok TABok ⟨spec_l01Four.ok k, spec_l01Crc.ok k, trivial⟩
theorem spec_Unseal.ev (k : Nat) (x : Prod' spec_Unseal.sig.ins) : spec_Unseal.sig.ev (spec_Unseal.C k) .auto Tryz.f38.results.toList (cB Tryz.f38) x = spec_Unseal k x := by kernel_rfl
theorem spec_Unseal.ok (k : Nat) : ConOk Tryz.prog 38 (spec_Unseal.con k) := sig_ok (p := .auto) (spec_Unseal.cok k) Tryz.func38 (by kernel_rfl) (show Tryz.f38.body = some (cB Tryz.f38) by kernel_rfl) (by kernel_rfl) (by kernel_rfl) (plan_of (L := []) (by kernel_rfl) trivial) (fun x y h => (spec_Unseal.ev k x).trans h)
def spec_l06Reader_num (k : Nat) (a1 : G78) : Option (Int × Str × Int × Bool) :=
  Option.bind (spec_GetNum k a1.1 a1.2.1) fun v2 =>
  bif a1.2.2 || (v2.2.2 != 0) then
    some (0, a1.1, a1.2.1, true)
  else
  some (v2.1, a1.1, v2.2.1, a1.2.2)
def spec_l06Reader_num.sig : Sig := { ps := [.ref 78 T78 (kept T78)], rs := [.val false [.v (.int .i64)]], ntmps := 32 }
def spec_l06Reader_num.con (k : Nat) : Con := spec_l06Reader_num.sig.con (fun x => spec_l06Reader_num k x)
def spec_l06Reader_num.C (k : Nat) : Ctx := { ti := TAB, con := conL [(75, spec_GetNum.con k)] }
theorem spec_l06Reader_num.cok (k : Nat) : CtxOk Tryz.prog (spec_l06Reader_num.C k) := ctx_ok TABok ⟨spec_GetNum.ok k, trivial⟩
theorem spec_l06Reader_num.ev (k : Nat) (x : Prod' spec_l06Reader_num.sig.ins) : spec_l06Reader_num.sig.ev (spec_l06Reader_num.C k) .auto Tryz.f50.results.toList (cB Tryz.f50) x = spec_l06Reader_num k x := by kernel_rfl
theorem spec_l06Reader_num.ok (k : Nat) : ConOk Tryz.prog 50 (spec_l06Reader_num.con k) := sig_ok (p := .auto) (spec_l06Reader_num.cok k) Tryz.func50 (by kernel_rfl) (show Tryz.f50.body = some (cB Tryz.f50) by kernel_rfl) (by kernel_rfl) (by kernel_rfl) (plan_of (L := []) (by kernel_rfl) trivial) (fun x y h => (spec_l06Reader_num.ev k x).trans h)
def spec_l06Reader_text (k : Nat) (a1 : G78) : Option (Str × Str × Int × Bool) :=
  Option.bind (spec_GetText k a1.1 a1.2.1) fun v2 =>
  bif a1.2.2 || (v2.2.2 != 0) then
    some ([], a1.1, a1.2.1, true)
  else
  some (v2.1, a1.1, v2.2.1, a1.2.2)
def spec_l06Reader_text.sig : Sig := { ps := [.ref 78 T78 (kept T78)], rs := [.val false [.v .str]], ntmps := 32 }
def spec_l06Reader_text.con (k : Nat) : Con := spec_l06Reader_text.sig.con (fun x => spec_l06Reader_text k x)
def spec_l06Reader_text.C (k : Nat) : Ctx := { ti := TAB, con := conL [(45, spec_GetText.con k)] }
theorem spec_l06Reader_text.cok (k : Nat) : CtxOk Tryz.prog (spec_l06Reader_text.C k) := ctx_ok TABok ⟨spec_GetText.ok k, trivial⟩
theorem spec_l06Reader_text.ev (k : Nat) (x : Prod' spec_l06Reader_text.sig.ins) : spec_l06Reader_text.sig.ev (spec_l06Reader_text.C k) .auto Tryz.f51.results.toList (cB Tryz.f51) x = spec_l06Reader_text k x := by kernel_rfl
theorem spec_l06Reader_text.ok (k : Nat) : ConOk Tryz.prog 51 (spec_l06Reader_text.con k) := sig_ok (p := .auto) (spec_l06Reader_text.cok k) Tryz.func51 (by kernel_rfl) (show Tryz.f51.body = some (cB Tryz.f51) by kernel_rfl) (by kernel_rfl) (by kernel_rfl) (plan_of (L := []) (by kernel_rfl) trivial) (fun x y h => (spec_l06Reader_text.ev k x).trans h)
def spec_HeadRead (k : Nat) (a1 : Str) : Option (Int × Int × Int × Str × Int) :=
  Option.bind (spec_Unseal k a1) fun v2 =>
  bif v2.2.2 != 0 then
    some (0, 0, 0, [], v2.2.2)
  else
  Option.bind (spec_l06Reader_num k (v2.1, (0, false))) fun v3 =>
  Option.bind (spec_l06Reader_num k v3.2) fun v4 =>
  Option.bind (spec_l06Reader_num k v4.2) fun v5 =>
  Option.bind (spec_l06Reader_text k v5.2) fun v6 =>
  bif v6.2.2.2 then
    some (0, 0, 0, [], 3)
  else
  Option.bind (spec_HeadBytes k (v3.1, (v4.1, (v5.1, v6.1)))) fun v7 =>
  bif !(v7 == a1) then
    some (0, 0, 0, [], 3)
  else
  some (v3.1, v4.1, v5.1, v6.1, 0)
def spec_HeadRead.sig : Sig := { ps := [.val false .str (ros .str)], rs := [.val true [.v (.int .i64), .v (.int .i64), .v (.int .i64), .v .str, .v (.int .i64)]], ntmps := 43 }
def spec_HeadRead.con (k : Nat) : Con := spec_HeadRead.sig.con (fun x => spec_HeadRead k x)
def spec_HeadRead.C (k : Nat) : Ctx := { ti := TAB, con := conL [(16, spec_HeadBytes.con k), (38, spec_Unseal.con k), (50, spec_l06Reader_num.con k), (51, spec_l06Reader_text.con k)] }
theorem spec_HeadRead.cok (k : Nat) : CtxOk Tryz.prog (spec_HeadRead.C k) := ctx_ok TABok ⟨spec_HeadBytes.ok k, spec_Unseal.ok k, spec_l06Reader_num.ok k, spec_l06Reader_text.ok k, trivial⟩
theorem spec_HeadRead.ev (k : Nat) (x : Prod' spec_HeadRead.sig.ins) : spec_HeadRead.sig.ev (spec_HeadRead.C k) .auto Tryz.f18.results.toList (cB Tryz.f18) x = spec_HeadRead k x := by kernel_rfl
theorem spec_HeadRead.ok (k : Nat) : ConOk Tryz.prog 18 (spec_HeadRead.con k) := sig_ok (p := .auto) (spec_HeadRead.cok k) Tryz.func18 (by kernel_rfl) (show Tryz.f18.body = some (cB Tryz.f18) by kernel_rfl) (by kernel_rfl) (by kernel_rfl) (plan_of (L := []) (by kernel_rfl) trivial) (fun x y h => (spec_HeadRead.ev k x).trans h)
def spec_l06Bytes (k : Nat) (a1 : G29) : Option (Str) :=
  Option.bind (spec_PutNum k a1.1) fun v2 =>
  Option.bind (spec_PutNum k a1.2.1) fun v3 =>
  Option.bind (cat? v2 v3) fun v4 =>
  Option.bind (spec_PutNum k a1.2.2.1) fun v5 =>
  Option.bind (cat? v4 v5) fun v6 =>
  Option.bind (spec_PutText k a1.2.2.2) fun v7 =>
  Option.bind (cat? v6 v7) fun v8 =>
  some v8
def spec_l06Bytes.sig : Sig := { ps := [.val true T29 (ros T29)], rs := [.val false [.v .str]], ntmps := 18 }
def spec_l06Bytes.con (k : Nat) : Con := spec_l06Bytes.sig.con (fun x => spec_l06Bytes k x)
def spec_l06Bytes.C (k : Nat) : Ctx := { ti := TAB, con := conL [(41, spec_PutText.con k), (48, spec_PutNum.con k)] }
theorem spec_l06Bytes.cok (k : Nat) : CtxOk Tryz.prog (spec_l06Bytes.C k) := ctx_ok TABok ⟨spec_PutText.ok k, spec_PutNum.ok k, trivial⟩
theorem spec_l06Bytes.ev (k : Nat) (x : Prod' spec_l06Bytes.sig.ins) : spec_l06Bytes.sig.ev (spec_l06Bytes.C k) .auto Tryz.f42.results.toList (cB Tryz.f42) x = spec_l06Bytes k x := by kernel_rfl
theorem spec_l06Bytes.ok (k : Nat) : ConOk Tryz.prog 42 (spec_l06Bytes.con k) := sig_ok (p := .auto) (spec_l06Bytes.cok k) Tryz.func42 (by kernel_rfl) (show Tryz.f42.body = some (cB Tryz.f42) by kernel_rfl) (by kernel_rfl) (by kernel_rfl) (plan_of (L := []) (by kernel_rfl) trivial) (fun x y h => (spec_l06Bytes.ev k x).trans h)
def spec_StepBytes (k : Nat) (a1 : G29) : Option (Str) :=
  Option.bind (spec_StepRight a1 8) fun v2 =>
  bif !v2 then
    some ([])
  else
  Option.bind (spec_l06Bytes k a1) fun v3 =>
  some v3
def spec_StepBytes.sig : Sig := { ps := [.val true T29 (ros T29)], rs := [.val false [.v .str]], ntmps := 8 }
def spec_StepBytes.con (k : Nat) : Con := spec_StepBytes.sig.con (fun x => spec_StepBytes k x)
def spec_StepBytes.C (k : Nat) : Ctx := { ti := TAB, con := conL [(42, spec_l06Bytes.con k), (77, spec_StepRight.con k)] }
theorem spec_StepBytes.cok (k : Nat) : CtxOk Tryz.prog (spec_StepBytes.C k) := ctx_ok TABok ⟨spec_l06Bytes.ok k, spec_StepRight.ok k, trivial⟩
theorem spec_StepBytes.ev (k : Nat) (x : Prod' spec_StepBytes.sig.ins) : spec_StepBytes.sig.ev (spec_StepBytes.C k) .auto Tryz.f100.results.toList (cB Tryz.f100) x = spec_StepBytes k x := by kernel_rfl
theorem spec_StepBytes.ok (k : Nat) : ConOk Tryz.prog 100 (spec_StepBytes.con k) := sig_ok (p := .auto) (spec_StepBytes.cok k) Tryz.func100 (by kernel_rfl) (show Tryz.f100.body = some (cB Tryz.f100) by kernel_rfl) (by kernel_rfl) (by kernel_rfl) (plan_of (L := []) (by kernel_rfl) trivial) (fun x y h => (spec_StepBytes.ev k x).trans h)
def spec_StepRead (k : Nat) (a1 : Str) : Option (Int × Int × Int × Str × Int) :=
  bif decide (8000 < ((a1.length) : Int)) then
    some (0, 0, 0, [], 2)
  else
  Option.bind (spec_l06Reader_num k (a1, (0, false))) fun v2 =>
  Option.bind (spec_l06Reader_num k v2.2) fun v3 =>
  Option.bind (spec_l06Reader_num k v3.2) fun v4 =>
  Option.bind (spec_l06Reader_text k v4.2) fun v5 =>
  bif v5.2.2.2 then
    some (0, 0, 0, [], 3)
  else
  Option.bind (spec_StepBytes k (v2.1, (v3.1, (v4.1, v5.1)))) fun v6 =>
  bif !(v6 == a1) then
    some (0, 0, 0, [], 3)
  else
  some (v2.1, v3.1, v4.1, v5.1, 0)
def spec_StepRead.sig : Sig := { ps := [.val false .str (ros .str)], rs := [.val true [.v (.int .i64), .v (.int .i64), .v (.int .i64), .v .str, .v (.int .i64)]], ntmps := 37 }
def spec_StepRead.con (k : Nat) : Con := spec_StepRead.sig.con (fun x => spec_StepRead k x)
def spec_StepRead.C (k : Nat) : Ctx := { ti := TAB, con := conL [(50, spec_l06Reader_num.con k), (51, spec_l06Reader_text.con k), (100, spec_StepBytes.con k)] }
theorem spec_StepRead.cok (k : Nat) : CtxOk Tryz.prog (spec_StepRead.C k) := ctx_ok TABok ⟨spec_l06Reader_num.ok k, spec_l06Reader_text.ok k, spec_StepBytes.ok k, trivial⟩
theorem spec_StepRead.ev (k : Nat) (x : Prod' spec_StepRead.sig.ins) : spec_StepRead.sig.ev (spec_StepRead.C k) .auto Tryz.f76.results.toList (cB Tryz.f76) x = spec_StepRead k x := by kernel_rfl
theorem spec_StepRead.ok (k : Nat) : ConOk Tryz.prog 76 (spec_StepRead.con k) := sig_ok (p := .auto) (spec_StepRead.cok k) Tryz.func76 (by kernel_rfl) (show Tryz.f76.body = some (cB Tryz.f76) by kernel_rfl) (by kernel_rfl) (by kernel_rfl) (plan_of (L := []) (by kernel_rfl) trivial) (fun x y h => (spec_StepRead.ev k x).trans h)
def spec_l18Take (k : Nat) (a1 : G40) (a2 : Str) : Option (Bool × Int × Int × Int × Str × Int × Str × List G51 × Int) :=
  let e3 := (0, (0, (0, [])))
  bif (a1.1.1.1 == 0) && ((a1.1.1.2.1 == 0) && ((a1.1.1.2.2.1 == 0) && (a1.1.1.2.2.2 == []))) then
    Option.bind (spec_HeadRead k a2) fun v4 =>
    Option.bind (app? 80 a1.2.1 [(1, (v4.2.1, (v4.2.2.1, (v4.2.2.2.1, e3))))]) fun v5 =>
    some (v4.2.2.2.2 == 0, v4.1, v4.2.1, v4.2.2.1, v4.2.2.2.1, a1.1.2.1, a1.1.2.2, v5, a1.2.2)
  else
  Option.bind (spec_Unseal k a2) fun v6 =>
  Option.bind (spec_StepRead k v6.1) fun v7 =>
  bif v6.2.2 != 0 then
    some (false, a1.1.1.1, a1.1.1.2.1, a1.1.1.2.2.1, a1.1.1.2.2.2, a1.1.2.1, a1.1.2.2, a1.2.1, a1.2.2)
  else
  bif v7.2.2.2.2 != 0 then
    some (false, a1.1.1.1, a1.1.1.2.1, a1.1.1.2.2.1, a1.1.1.2.2.2, a1.1.2.1, a1.1.2.2, a1.2.1, a1.2.2)
  else
  let e8 := (v7.1, (v7.2.1, (v7.2.2.1, v7.2.2.2.1)))
  Option.bind (spec_StepRight e8 a1.1.1.1) fun v9 =>
  bif !v9 then
    some (false, a1.1.1.1, a1.1.1.2.1, a1.1.1.2.2.1, a1.1.1.2.2.2, a1.1.2.1, a1.1.2.2, a1.2.1, a1.2.2)
  else
  bif decide (a1.1.1.2.1 ≤ a1.1.2.1) then
    some (false, a1.1.1.1, a1.1.1.2.1, a1.1.1.2.2.1, a1.1.1.2.2.2, a1.1.2.1, a1.1.2.2, a1.2.1, a1.2.2)
  else
  Option.bind (app? 80 a1.2.1 ([(2, (0, (0, ([], e8))))])) fun v10 =>
  let e11 := IntKind.wrap .i64 (a1.1.2.1 + 1)
  bif e11 == a1.1.1.2.1 then
    Option.bind (app? 80 v10 ([(3, (0, (0, ([], e3))))])) fun v12 =>
    some (true, a1.1.1.1, a1.1.1.2.1, a1.1.1.2.2.1, a1.1.1.2.2.2, e11, a1.1.2.2, v12, a1.2.2)
  else
  some (true, a1.1.1.1, a1.1.1.2.1, a1.1.1.2.2.1, a1.1.1.2.2.2, e11, a1.1.2.2, v10, a1.2.2)
def spec_l18Take.sig : Sig := { ps := [.ref 40 T40 [.v, .v, .v, .v, .v, .v, .own 51, .v], .val false .str (ros .str)], rs := [.val false [.v .bool]], ntmps := 128 }
def spec_l18Take.con (k : Nat) : Con := spec_l18Take.sig.con (fun x => spec_l18Take k x.1 x.2)
def spec_l18Take.C (k : Nat) : Ctx := { ti := TAB, con := conL [(18, spec_HeadRead.con k), (38, spec_Unseal.con k), (76, spec_StepRead.con k), (77, spec_StepRight.con k)] }
theorem spec_l18Take.cok (k : Nat) : CtxOk Tryz.prog (spec_l18Take.C k) := ctx_ok TABok ⟨spec_HeadRead.ok k, spec_Unseal.ok k, spec_StepRead.ok k, spec_StepRight.ok k, trivial⟩
theorem spec_l18Take.ev (k : Nat) (x : Prod' spec_l18Take.sig.ins) : spec_l18Take.sig.ev (spec_l18Take.C k) .auto Tryz.f46.results.toList (cB Tryz.f46) x = spec_l18Take k x.1 x.2 := by kernel_rfl
theorem spec_l18Take.ok (k : Nat) : ConOk Tryz.prog 46 (spec_l18Take.con k) := sig_ok (p := .auto) (spec_l18Take.cok k) Tryz.func46 (by kernel_rfl) (show Tryz.f46.body = some (cB Tryz.f46) by kernel_rfl) (by kernel_rfl) (by kernel_rfl) (plan_of (L := []) (by kernel_rfl) trivial) (fun x y h => (spec_l18Take.ev k x).trans h)
def spec_FeedPut.l0 (k : Nat) : Nat → Str → Int → Int → Int → Int → Str → Int → Str → Int → Int → Int → Int → Str → Int → Str → Int → List G51 → List G51 → Option ((Int × Int × Int × Int × Str × Int × Str × Int × Int × Int × Int × Str × Int × Str × Int × List G51 × List G51) ⊕ (Int × Int × Int × Str × Int × Str × Int × Int × Int × Int × Str × Int × Str × Int × List G51 × List G51))
  | 0, _, _, _, _, _, _, _, _, _, _, _, _, _, _, _, _, _, _ => none
  | j + 1, a1, a2, a3, a4, a5, a6, a7, a8, a9, a10, a11, a12, a13, a14, a15, a16, a17, a18 =>
    Option.bind (spec_GetText k a1 a2) fun v19 =>
    bif v19.2.2 == 4 then
      some (.inl (a2, a3, a4, a5, a6, a7, a8, a9, a10, a11, a12, a13, a14, a15, a16, a17, a18))
    else
    bif v19.2.2 != 0 then
      some (.inr (0, 0, 0, [], 0, [], 3, a10, a11, a12, a13, a14, a15, a16, [], a18))
    else
    Option.bind (spec_l18Take k (((a10, (a11, (a12, a13))), (a14, a15)), (a18, a16)) v19.1) fun v20 =>
    bif !v20.1 then
      some (.inr (0, 0, 0, [], 0, [], 3, v20.2.1, v20.2.2.1, v20.2.2.2.1, v20.2.2.2.2.1, v20.2.2.2.2.2.1, v20.2.2.2.2.2.2.1, v20.2.2.2.2.2.2.2.2, [], v20.2.2.2.2.2.2.2.1))
    else
    spec_FeedPut.l0 k j a1 v19.2.1 a3 a4 a5 a6 a7 a8 a9 v20.2.1 v20.2.2.1 v20.2.2.2.1 v20.2.2.2.2.1 v20.2.2.2.2.2.1 v20.2.2.2.2.2.2.1 v20.2.2.2.2.2.2.2.2 a17 v20.2.2.2.2.2.2.2.1
def spec_FeedPut (k : Nat) (a1 : G31) (a2 : Str) : Option (Int × Int × Int × Str × Int × Str × List G51 × Int) :=
  bif decide (8000 < ((a2.length) : Int)) then
    some (0, 0, 0, [], 0, [], [], 2)
  else
  Option.bind (spec_FeedRight a1) fun v3 =>
  bif !v3 then
    some (0, 0, 0, [], 0, [], [], 1)
  else
  Option.bind (cat? a1.2.2 a2) fun v4 =>
  bif decide (8000 < ((v4.length) : Int)) then
    some (0, 0, 0, [], 0, [], [], 2)
  else
  Option.bind (spec_FeedPut.l0 k k v4 0 0 0 0 [] 0 [] 0 a1.1.1 a1.1.2.1 a1.1.2.2.1 a1.1.2.2.2 a1.2.1 a1.2.2 0 [] []) fun
    | .inl y5 =>
      Option.bind (cut? v4 y5.1 ((v4.length) : Int)) fun v6 =>
      bif (decide (500 < ((v6.length) : Int))) || (((decide (0 < y5.2.2.2.2.2.2.2.2.2.1)) && (y5.2.2.2.2.2.2.2.2.2.2.2.2.1 == y5.2.2.2.2.2.2.2.2.2.1)) && (!(v6 == []))) then
        some (0, 0, 0, [], 0, [], [], 3)
      else
      some (y5.2.2.2.2.2.2.2.2.1, y5.2.2.2.2.2.2.2.2.2.1, y5.2.2.2.2.2.2.2.2.2.2.1, y5.2.2.2.2.2.2.2.2.2.2.2.1, y5.2.2.2.2.2.2.2.2.2.2.2.2.1, v6, y5.2.2.2.2.2.2.2.2.2.2.2.2.2.2.2.2, y5.2.2.2.2.2.2.2.2.2.2.2.2.2.2.1)
    | .inr y7 =>
      some (y7.1, y7.2.1, y7.2.2.1, y7.2.2.2.1, y7.2.2.2.2.1, y7.2.2.2.2.2.1, y7.2.2.2.2.2.2.2.2.2.2.2.2.2.2.1, y7.2.2.2.2.2.2.1)
def spec_FeedPut.sig : Sig := { ps := [.val true T31 (ros T31), .val false .str (ros .str)], rs := [.val true [.v (.int .i64), .v (.int .i64), .v (.int .i64), .v .str, .v (.int .i64), .v .str, .own 51 T51, .v (.int .i64)]], ntmps := 82 }
def spec_FeedPut.con (k : Nat) : Con := spec_FeedPut.sig.con (fun x => spec_FeedPut k x.1 x.2)
def spec_FeedPut.C (k : Nat) : Ctx := { ti := TAB, con := conL [(15, spec_FeedRight.con k), (45, spec_GetText.con k), (46, spec_l18Take.con k)] }
theorem spec_FeedPut.cok (k : Nat) : CtxOk Tryz.prog (spec_FeedPut.C k) := ctx_ok TABok ⟨spec_FeedRight.ok k, spec_GetText.ok k, spec_l18Take.ok k, trivial⟩
def spec_FeedPut.l0.ish : Shape := { tmps := [(4, .one (.ptr 1 0)), (5, .one (.v .str)), (6, .one (.ptr 2 0)), (7, .one (.v (.int .i64)))], slots := [(1, .box 40 [.v (.int .i64), .v (.int .i64), .v (.int .i64), .v .str, .v (.int .i64), .v .str, .own 3, .v (.int .i64)]), (2, .box 40 [.v (.int .i64), .v (.int .i64), .v (.int .i64), .v .str, .v (.int .i64), .v .str, .own 4, .v (.int .i64)]), (3, .arr false 51 T51), (4, .arr false 51 T51)], nb := 5 }
def spec_FeedPut.l0.outs : List (Ex × Shape) := [(.exit 0, { tmps := [(7, .one (.v (.int .i64)))], slots := [(1, .box 40 [.v (.int .i64), .v (.int .i64), .v (.int .i64), .v .str, .v (.int .i64), .v .str, .own 5, .v (.int .i64)]), (2, .box 40 [.v (.int .i64), .v (.int .i64), .v (.int .i64), .v .str, .v (.int .i64), .v .str, .own 6, .v (.int .i64)]), (5, .arr false 51 T51), (6, .arr false 51 T51)], nb := 7 }), (.ret, { tmps := [], slots := [(1, .box 40 [.v (.int .i64), .v (.int .i64), .v (.int .i64), .v .str, .v (.int .i64), .v .str, .own 5, .v (.int .i64)]), (2, .box 40 [.v (.int .i64), .v (.int .i64), .v (.int .i64), .v .str, .v (.int .i64), .v .str, .own 6, .v (.int .i64)]), (5, .arr false 51 T51), (6, .arr false 51 T51)], nb := 7 })]
def spec_FeedPut.l0.F (k j : Nat) (x : Prod' spec_FeedPut.l0.ish.tys) : Option (Outs spec_FeedPut.l0.outs) := spec_FeedPut.l0 k j x.1 x.2.1 x.2.2.1 x.2.2.2.1 x.2.2.2.2.1 x.2.2.2.2.2.1 x.2.2.2.2.2.2.1 x.2.2.2.2.2.2.2.1 x.2.2.2.2.2.2.2.2.1 x.2.2.2.2.2.2.2.2.2.1 x.2.2.2.2.2.2.2.2.2.2.1 x.2.2.2.2.2.2.2.2.2.2.2.1 x.2.2.2.2.2.2.2.2.2.2.2.2.1 x.2.2.2.2.2.2.2.2.2.2.2.2.2.1 x.2.2.2.2.2.2.2.2.2.2.2.2.2.2.1 x.2.2.2.2.2.2.2.2.2.2.2.2.2.2.2.1 x.2.2.2.2.2.2.2.2.2.2.2.2.2.2.2.2.1 x.2.2.2.2.2.2.2.2.2.2.2.2.2.2.2.2.2
def spec_FeedPut.l0.s (k : Nat) : Summ := { n := 82, ish := spec_FeedPut.l0.ish, outs := spec_FeedPut.l0.outs, f := spec_FeedPut.l0.F k k }
theorem spec_FeedPut.l0.ev (k j : Nat) (x : Prod' spec_FeedPut.l0.ish.tys) : V (spec_FeedPut.C k) .auto (cO (cO (cL (cR (cR (cR (cR (cR (cR (cR (cB Tryz.f13))))))))))) (mk spec_FeedPut.l0.ish 82 x) (fun e st' => match e with | .nrm => (rd spec_FeedPut.l0.ish st').bind (spec_FeedPut.l0.F k j) | e => rdOut e st' spec_FeedPut.l0.outs) = spec_FeedPut.l0.F k (j + 1) x := by kernel_rfl
theorem spec_FeedPut.l0.ok (k : Nat) : SumOk Tryz.prog (spec_FeedPut.C k) (.loop (cO (cO (cL (cR (cR (cR (cR (cR (cR (cR (cB Tryz.f13)))))))))))) (spec_FeedPut.l0.s k) := sum_ok (by kernel_rfl) (sum_loop (p := .auto) (F := spec_FeedPut.l0.F k) (spec_FeedPut.cok k) (by kernel_rfl) (plan_of (L := []) (by kernel_rfl) trivial) (fun _ => rfl) (fun j x y h => (spec_FeedPut.l0.ev k j x).trans h) k rfl)
theorem spec_FeedPut.ev (k : Nat) (x : Prod' spec_FeedPut.sig.ins) : spec_FeedPut.sig.ev (spec_FeedPut.C k) (.two .auto (.two .auto (.two .auto (.two .auto (.two .auto (.two .auto (.two .auto (.two (.one (.sum (spec_FeedPut.l0.s k))) .auto)))))))) Tryz.f13.results.toList (cB Tryz.f13) x = spec_FeedPut k x.1 x.2 := by kernel_rfl
theorem spec_FeedPut.ok (k : Nat) : ConOk Tryz.prog 13 (spec_FeedPut.con k) := sig_ok (p := (.two .auto (.two .auto (.two .auto (.two .auto (.two .auto (.two .auto (.two .auto (.two (.one (.sum (spec_FeedPut.l0.s k))) .auto))))))))) (spec_FeedPut.cok k) Tryz.func13 (by kernel_rfl) (show Tryz.f13.body = some (cB Tryz.f13) by kernel_rfl) (by kernel_rfl) (by kernel_rfl) (plan_of (L := [(spec_FeedPut.l0.s k, cO (cL (cR (cR (cR (cR (cR (cR (cR (cB Tryz.f13))))))))))]) (by kernel_rfl) ⟨spec_FeedPut.l0.ok k, trivial⟩) (fun x y h => (spec_FeedPut.ev k x).trans h)
end Go.Proofs.YtaajcllchbnjiaaGreatE

namespace Go.Proofs.YtaajcllchbnjiaaGreatE
open Go Go.RowKit
set_option linter.unusedVariables false
def spec_PackageRight (k : Nat) (a1 : G25) : Option (Bool) :=
  Option.bind (spec_StepsCode k a1.2.2 a1.1) fun v2 =>
  some ((v2 == 0) && (((a1.2.1.length) : Int) == 32))
def spec_PackageRight.sig : Sig := { ps := [.val true T25 (ros T25)], rs := [.val false [.v .bool]], ntmps := 15 }
def spec_PackageRight.con (k : Nat) : Con := spec_PackageRight.sig.con (fun x => spec_PackageRight k x)
def spec_PackageRight.C (k : Nat) : Ctx := { ti := TAB, con := conL [(70, spec_StepsCode.con k)], rob := true }
theorem spec_PackageRight.cok (k : Nat) : CtxOk Tryz.prog (spec_PackageRight.C k) := ctx_ok TABok ⟨spec_StepsCode.ok k, trivial⟩
theorem spec_PackageRight.ev (k : Nat) (x : Prod' spec_PackageRight.sig.ins) : spec_PackageRight.sig.ev (spec_PackageRight.C k) .auto Tryz.f39.results.toList (cB Tryz.f39) x = spec_PackageRight k x := by kernel_rfl
theorem spec_PackageRight.ok (k : Nat) : ConOk Tryz.prog 39 (spec_PackageRight.con k) := sig_ok (p := .auto) (spec_PackageRight.cok k) Tryz.func39 (by kernel_rfl) (show Tryz.f39.body = some (cB Tryz.f39) by kernel_rfl) (by kernel_rfl) (by kernel_rfl) (plan_of (L := []) (by kernel_rfl) trivial) (fun x y h => (spec_PackageRight.ev k x).trans h)
def spec_SlotsOf.l0 : Nat → List G86 → Int → Int → Option (Int)
  | 0, _, _, _ => none
  | j + 1, a1, a2, a3 =>
    bif (decide (a3 < ((a1.length) : Int))) && (decide (((a1.length) : Int) ≤ 40)) then
      Option.bind (at? a1 a3) fun v4 =>
      let e5 := IntKind.wrap .i64 (a3 + 1)
      bif v4.1 == 1 then
        spec_SlotsOf.l0 j a1 (IntKind.wrap .i64 (a2 + 1)) e5
      else
      spec_SlotsOf.l0 j a1 a2 e5
    else
    some a2
def spec_SlotsOf (k : Nat) (a1 : List G86) : Option (Int) :=
  Option.bind (spec_SlotsOf.l0 k a1 0 0) fun y2 =>
  some y2
def spec_SlotsOf.sig : Sig := { ps := [.val false (.sl T86) (ros (.sl T86))], rs := [.val false [.v (.int .i64)]], ntmps := 25 }
def spec_SlotsOf.con (k : Nat) : Con := spec_SlotsOf.sig.con (fun x => spec_SlotsOf k x)
def spec_SlotsOf.C (k : Nat) : Ctx := { ti := TAB, con := conL [] }
theorem spec_SlotsOf.cok (k : Nat) : CtxOk Tryz.prog (spec_SlotsOf.C k) := ctx_ok TABok trivial
def spec_SlotsOf.l0.ish : Shape := { tmps := [(0, .one (.bor T86)), (3, .one (.v (.int .i64))), (4, .one (.v (.int .i64)))], slots := [], nb := 0 }
def spec_SlotsOf.l0.outs : List (Ex × Shape) := [(.exit 0, { tmps := [(3, .one (.v (.int .i64)))], slots := [], nb := 0 })]
def spec_SlotsOf.l0.F (k j : Nat) (x : Prod' spec_SlotsOf.l0.ish.tys) : Option (Outs spec_SlotsOf.l0.outs) := spec_SlotsOf.l0 j x.1 x.2.1 x.2.2
def spec_SlotsOf.l0.s (k : Nat) : Summ := { n := 25, ish := spec_SlotsOf.l0.ish, outs := spec_SlotsOf.l0.outs, f := spec_SlotsOf.l0.F k k }
theorem spec_SlotsOf.l0.ev (k j : Nat) (x : Prod' spec_SlotsOf.l0.ish.tys) : V (spec_SlotsOf.C k) .auto (cO (cO (cR (cL (cR (cR (cB Tryz.f71))))))) (mk spec_SlotsOf.l0.ish 25 x) (fun e st' => match e with | .nrm => (rd spec_SlotsOf.l0.ish st').bind (spec_SlotsOf.l0.F k j) | e => rdOut e st' spec_SlotsOf.l0.outs) = spec_SlotsOf.l0.F k (j + 1) x := by kernel_rfl
theorem spec_SlotsOf.l0.ok (k : Nat) : SumOk Tryz.prog (spec_SlotsOf.C k) (.loop (cO (cO (cR (cL (cR (cR (cB Tryz.f71)))))))) (spec_SlotsOf.l0.s k) := sum_ok (by kernel_rfl) (sum_loop (p := .auto) (F := spec_SlotsOf.l0.F k) (spec_SlotsOf.cok k) (by kernel_rfl) (plan_of (L := []) (by kernel_rfl) trivial) (fun _ => rfl) (fun j x y h => (spec_SlotsOf.l0.ev k j x).trans h) k rfl)
theorem spec_SlotsOf.ev (k : Nat) (x : Prod' spec_SlotsOf.sig.ins) : spec_SlotsOf.sig.ev (spec_SlotsOf.C k) (.two .auto (.two .auto (.two (.two .auto (.one (.sum (spec_SlotsOf.l0.s k)))) .auto))) Tryz.f71.results.toList (cB Tryz.f71) x = spec_SlotsOf k x := by kernel_rfl
theorem spec_SlotsOf.ok (k : Nat) : ConOk Tryz.prog 71 (spec_SlotsOf.con k) := sig_ok (p := (.two .auto (.two .auto (.two (.two .auto (.one (.sum (spec_SlotsOf.l0.s k)))) .auto)))) (spec_SlotsOf.cok k) Tryz.func71 (by kernel_rfl) (show Tryz.f71.body = some (cB Tryz.f71) by kernel_rfl) (by kernel_rfl) (by kernel_rfl) (plan_of (L := [(spec_SlotsOf.l0.s k, cO (cR (cL (cR (cR (cB Tryz.f71))))))]) (by kernel_rfl) ⟨spec_SlotsOf.l0.ok k, trivial⟩) (fun x y h => (spec_SlotsOf.ev k x).trans h)
def spec_Writes.l0 : Nat → List G29 → Int → List G29 → Option ((List G29))
  | 0, _, _, _ => none
  | j + 1, a1, a2, a3 =>
    bif (decide (a2 < ((a1.length) : Int))) && (decide (((a1.length) : Int) ≤ 20)) then
      Option.bind (at? a1 a2) fun v4 =>
      let e5 := IntKind.wrap .i64 (a2 + 1)
      bif v4.1 != 5 then
        Option.bind (at? a1 a2) fun v6 =>
        Option.bind (app? 40 a3 [v6]) fun v7 =>
        spec_Writes.l0 j a1 e5 v7
      else
      spec_Writes.l0 j a1 e5 a3
    else
    some a3
def spec_Writes (k : Nat) (a1 : List G29) : Option (List G29) :=
  Option.bind (spec_Writes.l0 k a1 0 []) fun y2 =>
  some y2
def spec_Writes.sig : Sig := { ps := [.val false (.sl T29) (ros (.sl T29))], rs := [.val false [.own 49 T29]], ntmps := 31 }
def spec_Writes.con (k : Nat) : Con := spec_Writes.sig.con (fun x => spec_Writes k x)
def spec_Writes.C (k : Nat) : Ctx := { ti := TAB, con := conL [] }
theorem spec_Writes.cok (k : Nat) : CtxOk Tryz.prog (spec_Writes.C k) := ctx_ok TABok trivial
def spec_Writes.l0.ish : Shape := { tmps := [(0, .one (.bor T29)), (3, .one (.own 1)), (4, .one (.v (.int .i64)))], slots := [(1, .arr false 49 T29)], nb := 2 }
def spec_Writes.l0.outs : List (Ex × Shape) := [(.exit 0, { tmps := [(3, .one (.own 2))], slots := [(2, .arr false 49 T29)], nb := 3 })]
def spec_Writes.l0.F (k j : Nat) (x : Prod' spec_Writes.l0.ish.tys) : Option (Outs spec_Writes.l0.outs) := spec_Writes.l0 j x.1 x.2.1 x.2.2
def spec_Writes.l0.s (k : Nat) : Summ := { n := 31, ish := spec_Writes.l0.ish, outs := spec_Writes.l0.outs, f := spec_Writes.l0.F k k }
theorem spec_Writes.l0.ev (k j : Nat) (x : Prod' spec_Writes.l0.ish.tys) : V (spec_Writes.C k) .auto (cO (cO (cR (cL (cR (cR (cB Tryz.f112))))))) (mk spec_Writes.l0.ish 31 x) (fun e st' => match e with | .nrm => (rd spec_Writes.l0.ish st').bind (spec_Writes.l0.F k j) | e => rdOut e st' spec_Writes.l0.outs) = spec_Writes.l0.F k (j + 1) x := by kernel_rfl
theorem spec_Writes.l0.ok (k : Nat) : SumOk Tryz.prog (spec_Writes.C k) (.loop (cO (cO (cR (cL (cR (cR (cB Tryz.f112)))))))) (spec_Writes.l0.s k) := sum_ok (by kernel_rfl) (sum_loop (p := .auto) (F := spec_Writes.l0.F k) (spec_Writes.cok k) (by kernel_rfl) (plan_of (L := []) (by kernel_rfl) trivial) (fun _ => rfl) (fun j x y h => (spec_Writes.l0.ev k j x).trans h) k rfl)
theorem spec_Writes.ev (k : Nat) (x : Prod' spec_Writes.sig.ins) : spec_Writes.sig.ev (spec_Writes.C k) (.two .auto (.two .auto (.two (.two .auto (.one (.sum (spec_Writes.l0.s k)))) .auto))) Tryz.f112.results.toList (cB Tryz.f112) x = spec_Writes k x := by kernel_rfl
theorem spec_Writes.ok (k : Nat) : ConOk Tryz.prog 112 (spec_Writes.con k) := sig_ok (p := (.two .auto (.two .auto (.two (.two .auto (.one (.sum (spec_Writes.l0.s k)))) .auto)))) (spec_Writes.cok k) Tryz.func112 (by kernel_rfl) (show Tryz.f112.body = some (cB Tryz.f112) by kernel_rfl) (by kernel_rfl) (by kernel_rfl) (plan_of (L := [(spec_Writes.l0.s k, cO (cR (cL (cR (cR (cB Tryz.f112))))))]) (by kernel_rfl) ⟨spec_Writes.l0.ok k, trivial⟩) (fun x y h => (spec_Writes.ev k x).trans h)
def spec_l11Reads (a1 : G29) (a2 : Int) : Option (Bool) :=
  some (((a1.1 == 3) || (a1.1 == 4)) && (a1.2.2.1 == a2))
def spec_l11Reads.sig : Sig := { ps := [.val true T29 (ros T29), .val false (.int .i64) (ros (.int .i64))], rs := [.val false [.v .bool]], ntmps := 19 }
def spec_l11Reads.con (k : Nat) : Con := spec_l11Reads.sig.con (fun x => spec_l11Reads x.1 x.2)
def spec_l11Reads.C (k : Nat) : Ctx := { ti := TAB, con := conL [] }
theorem spec_l11Reads.cok (k : Nat) : CtxOk Tryz.prog (spec_l11Reads.C k) := ctx_ok TABok trivial
theorem spec_l11Reads.ev (k : Nat) (x : Prod' spec_l11Reads.sig.ins) : spec_l11Reads.sig.ev (spec_l11Reads.C k) .auto Tryz.f125.results.toList (cB Tryz.f125) x = spec_l11Reads x.1 x.2 := by kernel_rfl
theorem spec_l11Reads.ok (k : Nat) : ConOk Tryz.prog 125 (spec_l11Reads.con k) := sig_ok (p := .auto) (spec_l11Reads.cok k) Tryz.func125 (by kernel_rfl) (show Tryz.f125.body = some (cB Tryz.f125) by kernel_rfl) (by kernel_rfl) (by kernel_rfl) (plan_of (L := []) (by kernel_rfl) trivial) (fun x y h => (spec_l11Reads.ev k x).trans h)
def spec_l11Blocked.l0 : Nat → List G29 → List Bool → Int → Int → Option (Unit ⊕ Bool)
  | 0, _, _, _, _ => none
  | j + 1, a1, a2, a3, a4 =>
    bif decide (a4 < ((a1.length) : Int)) then
      let e5 := IntKind.wrap .i64 (a4 + 1)
      bif a4 != a3 then
        Option.bind (at? a2 a4) fun v6 =>
        bif v6 then
          Option.bind (at? a1 a4) fun v7 =>
          Option.bind (at? a1 a3) fun v8 =>
          Option.bind (spec_l11Reads v7 v8.2.1) fun v9 =>
          bif v9 then
            some (.inr true)
          else
          spec_l11Blocked.l0 j a1 a2 a3 e5
        else
        spec_l11Blocked.l0 j a1 a2 a3 e5
      else
      spec_l11Blocked.l0 j a1 a2 a3 e5
    else
    some (.inl ())
def spec_l11Blocked (k : Nat) (a1 : List G29) (a2 : List Bool) (a3 : List Bool) (a4 : Int) : Option (Bool) :=
  Option.bind (at? a1 a4) fun v5 =>
  Option.bind (at? a3 v5.2.1) fun v6 =>
  bif v6 then
    some false
  else
  Option.bind (spec_l11Blocked.l0 k a1 a2 a4 0) fun
    | .inl y7 =>
      some false
    | .inr y8 =>
      some y8
def spec_l11Blocked.sig : Sig := { ps := [.val false (.sl T29) (ros (.sl T29)), .val false (.sl .bool) (ros (.sl .bool)), .val false (.sl .bool) (ros (.sl .bool)), .val false (.int .i64) (ros (.int .i64))], rs := [.val false [.v .bool]], ntmps := 45 }
def spec_l11Blocked.con (k : Nat) : Con := spec_l11Blocked.sig.con (fun x => spec_l11Blocked k x.1 x.2.1 x.2.2.1 x.2.2.2)
def spec_l11Blocked.C (k : Nat) : Ctx := { ti := TAB, con := conL [(125, spec_l11Reads.con k)] }
theorem spec_l11Blocked.cok (k : Nat) : CtxOk Tryz.prog (spec_l11Blocked.C k) := ctx_ok TABok ⟨spec_l11Reads.ok k, trivial⟩
def spec_l11Blocked.l0.ish : Shape := { tmps := [(0, .one (.bor T29)), (1, .one (.bor .bool)), (3, .one (.v (.int .i64))), (9, .one (.v (.int .i64)))], slots := [], nb := 0 }
def spec_l11Blocked.l0.outs : List (Ex × Shape) := [(.exit 0, { tmps := [], slots := [], nb := 0 }), (.ret, { tmps := [(8, .one (.v .bool))], slots := [], nb := 0 })]
def spec_l11Blocked.l0.F (k j : Nat) (x : Prod' spec_l11Blocked.l0.ish.tys) : Option (Outs spec_l11Blocked.l0.outs) := spec_l11Blocked.l0 j x.1 x.2.1 x.2.2.1 x.2.2.2
def spec_l11Blocked.l0.s (k : Nat) : Summ := { n := 45, ish := spec_l11Blocked.l0.ish, outs := spec_l11Blocked.l0.outs, f := spec_l11Blocked.l0.F k k }
theorem spec_l11Blocked.l0.ev (k j : Nat) (x : Prod' spec_l11Blocked.l0.ish.tys) : V (spec_l11Blocked.C k) .auto (cO (cO (cR (cL (cR (cR (cB Tryz.f121))))))) (mk spec_l11Blocked.l0.ish 45 x) (fun e st' => match e with | .nrm => (rd spec_l11Blocked.l0.ish st').bind (spec_l11Blocked.l0.F k j) | e => rdOut e st' spec_l11Blocked.l0.outs) = spec_l11Blocked.l0.F k (j + 1) x := by kernel_rfl
theorem spec_l11Blocked.l0.ok (k : Nat) : SumOk Tryz.prog (spec_l11Blocked.C k) (.loop (cO (cO (cR (cL (cR (cR (cB Tryz.f121)))))))) (spec_l11Blocked.l0.s k) := sum_ok (by kernel_rfl) (sum_loop (p := .auto) (F := spec_l11Blocked.l0.F k) (spec_l11Blocked.cok k) (by kernel_rfl) (plan_of (L := []) (by kernel_rfl) trivial) (fun _ => rfl) (fun j x y h => (spec_l11Blocked.l0.ev k j x).trans h) k rfl)
theorem spec_l11Blocked.ev (k : Nat) (x : Prod' spec_l11Blocked.sig.ins) : spec_l11Blocked.sig.ev (spec_l11Blocked.C k) (.two .auto (.two .auto (.two (.two .auto (.one (.sum (spec_l11Blocked.l0.s k)))) .auto))) Tryz.f121.results.toList (cB Tryz.f121) x = spec_l11Blocked k x.1 x.2.1 x.2.2.1 x.2.2.2 := by kernel_rfl
theorem spec_l11Blocked.ok (k : Nat) : ConOk Tryz.prog 121 (spec_l11Blocked.con k) := sig_ok (p := (.two .auto (.two .auto (.two (.two .auto (.one (.sum (spec_l11Blocked.l0.s k)))) .auto)))) (spec_l11Blocked.cok k) Tryz.func121 (by kernel_rfl) (show Tryz.f121.body = some (cB Tryz.f121) by kernel_rfl) (by kernel_rfl) (by kernel_rfl) (plan_of (L := [(spec_l11Blocked.l0.s k, cO (cR (cL (cR (cR (cB Tryz.f121))))))]) (by kernel_rfl) ⟨spec_l11Blocked.l0.ok k, trivial⟩) (fun x y h => (spec_l11Blocked.ev k x).trans h)
def spec_l11Next.l0 (k : Nat) : Nat → List G29 → List Bool → List Bool → Int → Int → Int → Option ((Int × Int))
  | 0, _, _, _, _, _, _ => none
  | j + 1, a1, a2, a3, a4, a5, a6 =>
    bif decide (a6 < ((a1.length) : Int)) then
      Option.bind (at? a2 a6) fun v7 =>
      let e8 := IntKind.wrap .i64 (a6 + 1)
      bif !v7 then
        spec_l11Next.l0 k j a1 a2 a3 a4 a5 e8
      else
      bif decide (a5 < 0) then
        bif decide (a4 < 0) then
          Option.bind (spec_l11Blocked k a1 a2 a3 a6) fun v9 =>
          bif !v9 then
            spec_l11Next.l0 k j a1 a2 a3 a6 a6 e8
          else
          spec_l11Next.l0 k j a1 a2 a3 a4 a6 e8
        else
        spec_l11Next.l0 k j a1 a2 a3 a4 a6 e8
      else
      bif decide (a4 < 0) then
        Option.bind (spec_l11Blocked k a1 a2 a3 a6) fun v10 =>
        bif !v10 then
          spec_l11Next.l0 k j a1 a2 a3 a6 a5 e8
        else
        spec_l11Next.l0 k j a1 a2 a3 a4 a5 e8
      else
      spec_l11Next.l0 k j a1 a2 a3 a4 a5 e8
    else
    some (a4, a5)
def spec_l11Next (k : Nat) (a1 : List G29) (a2 : List Bool) (a3 : List Bool) : Option (Int × Int) :=
  Option.bind (spec_l11Next.l0 k k a1 a2 a3 (-1) (-1) 0) fun y4 =>
  some (y4.1, y4.2)
def spec_l11Next.sig : Sig := { ps := [.val false (.sl T29) (ros (.sl T29)), .val false (.sl .bool) (ros (.sl .bool)), .val false (.sl .bool) (ros (.sl .bool))], rs := [.val false [.v (.int .i64)], .val false [.v (.int .i64)]], ntmps := 38 }
def spec_l11Next.con (k : Nat) : Con := spec_l11Next.sig.con (fun x => spec_l11Next k x.1 x.2.1 x.2.2)
def spec_l11Next.C (k : Nat) : Ctx := { ti := TAB, con := conL [(121, spec_l11Blocked.con k)] }
theorem spec_l11Next.cok (k : Nat) : CtxOk Tryz.prog (spec_l11Next.C k) := ctx_ok TABok ⟨spec_l11Blocked.ok k, trivial⟩
def spec_l11Next.l0.ish : Shape := { tmps := [(0, .one (.bor T29)), (1, .one (.bor .bool)), (2, .one (.bor .bool)), (8, .one (.v (.int .i64))), (9, .one (.v (.int .i64))), (10, .one (.v (.int .i64)))], slots := [], nb := 0 }
def spec_l11Next.l0.outs : List (Ex × Shape) := [(.exit 0, { tmps := [(8, .one (.v (.int .i64))), (9, .one (.v (.int .i64)))], slots := [], nb := 0 })]
def spec_l11Next.l0.F (k j : Nat) (x : Prod' spec_l11Next.l0.ish.tys) : Option (Outs spec_l11Next.l0.outs) := spec_l11Next.l0 k j x.1 x.2.1 x.2.2.1 x.2.2.2.1 x.2.2.2.2.1 x.2.2.2.2.2
def spec_l11Next.l0.s (k : Nat) : Summ := { n := 38, ish := spec_l11Next.l0.ish, outs := spec_l11Next.l0.outs, f := spec_l11Next.l0.F k k }
theorem spec_l11Next.l0.ev (k j : Nat) (x : Prod' spec_l11Next.l0.ish.tys) : V (spec_l11Next.C k) .auto (cO (cO (cR (cL (cR (cR (cB Tryz.f113))))))) (mk spec_l11Next.l0.ish 38 x) (fun e st' => match e with | .nrm => (rd spec_l11Next.l0.ish st').bind (spec_l11Next.l0.F k j) | e => rdOut e st' spec_l11Next.l0.outs) = spec_l11Next.l0.F k (j + 1) x := by kernel_rfl
theorem spec_l11Next.l0.ok (k : Nat) : SumOk Tryz.prog (spec_l11Next.C k) (.loop (cO (cO (cR (cL (cR (cR (cB Tryz.f113)))))))) (spec_l11Next.l0.s k) := sum_ok (by kernel_rfl) (sum_loop (p := .auto) (F := spec_l11Next.l0.F k) (spec_l11Next.cok k) (by kernel_rfl) (plan_of (L := []) (by kernel_rfl) trivial) (fun _ => rfl) (fun j x y h => (spec_l11Next.l0.ev k j x).trans h) k rfl)
theorem spec_l11Next.ev (k : Nat) (x : Prod' spec_l11Next.sig.ins) : spec_l11Next.sig.ev (spec_l11Next.C k) (.two .auto (.two .auto (.two (.two .auto (.one (.sum (spec_l11Next.l0.s k)))) .auto))) Tryz.f113.results.toList (cB Tryz.f113) x = spec_l11Next k x.1 x.2.1 x.2.2 := by kernel_rfl
theorem spec_l11Next.ok (k : Nat) : ConOk Tryz.prog 113 (spec_l11Next.con k) := sig_ok (p := (.two .auto (.two .auto (.two (.two .auto (.one (.sum (spec_l11Next.l0.s k)))) .auto)))) (spec_l11Next.cok k) Tryz.func113 (by kernel_rfl) (show Tryz.f113.body = some (cB Tryz.f113) by kernel_rfl) (by kernel_rfl) (by kernel_rfl) (plan_of (L := [(spec_l11Next.l0.s k, cO (cR (cL (cR (cR (cB Tryz.f113))))))]) (by kernel_rfl) ⟨spec_l11Next.l0.ok k, trivial⟩) (fun x y h => (spec_l11Next.ev k x).trans h)
def spec_l11Plan.l0 : Nat → Int → List G29 → List Bool → Option ((List G29 × List Bool))
  | 0, _, _, _ => none
  | j + 1, a1, a2, a3 =>
    bif decide (a1 < ((a2.length) : Int)) then
      Option.bind (at? a3 a1) fun v4 =>
      Option.bind (at? a3 a1) fun v5 =>
      spec_l11Plan.l0 j (IntKind.wrap .i64 (a1 + 1)) a2 (List.set a3 (Int.toNat a1) true)
    else
    some (a2, a3)
def spec_l11Plan.l1 (k : Nat) : Nat → Int → List G29 → List Bool → List Bool → List G86 → Option ((List G86))
  | 0, _, _, _, _, _ => none
  | j + 1, a1, a2, a3, a4, a5 =>
    Option.bind (spec_l11Next k a2 a3 a4) fun v6 =>
    bif decide (v6.2 < 0) then
      some a5
    else
    bif decide (0 ≤ v6.1) then
      let e7 := at? a2 v6.1
      Option.bind (e7) fun v8 =>
      Option.bind (e7) fun v9 =>
      Option.bind (app? 32 a5 [(2, (v6.1, (v9.2.1, 0)))]) fun v10 =>
      let e11 := at? a3 v6.1
      Option.bind (e11) fun v12 =>
      Option.bind (e11) fun v13 =>
      spec_l11Plan.l1 k j a1 a2 (List.set a3 (Int.toNat v6.1) false) a4 v10
    else
    let e14 := at? a2 v6.2
    Option.bind (e14) fun v15 =>
    Option.bind (e14) fun v16 =>
    Option.bind (app? 32 a5 [(1, (v6.2, (v16.2.1, a1)))]) fun v17 =>
    Option.bind (e14) fun v18 =>
    Option.bind (e14) fun v19 =>
    let e20 := at? a4 v19.2.1
    Option.bind (e20) fun v21 =>
    Option.bind (e20) fun v22 =>
    spec_l11Plan.l1 k j (IntKind.wrap .i64 (a1 + 1)) a2 a3 (List.set a4 (Int.toNat v19.2.1) true) v17
def spec_l11Plan (k : Nat) (a1 : List G29) : Option (List G86) :=
  Option.bind (spec_Writes k a1) fun v2 =>
  Option.bind (make? 1 ((v2.length) : Int) ((v2.length) : Int) false) fun v3 =>
  Option.bind (spec_l11Plan.l0 k 0 v2 v3) fun y4 =>
  Option.bind (make? 1 8 8 false) fun v5 =>
  Option.bind (spec_l11Plan.l1 k k 0 y4.1 y4.2 v5 []) fun y6 =>
  some y6
def spec_l11Plan.sig : Sig := { ps := [.val false (.sl T29) (ros (.sl T29))], rs := [.val false [.own 86 T86]], ntmps := 74 }
def spec_l11Plan.con (k : Nat) : Con := spec_l11Plan.sig.con (fun x => spec_l11Plan k x)
def spec_l11Plan.C (k : Nat) : Ctx := { ti := TAB, con := conL [(112, spec_Writes.con k), (113, spec_l11Next.con k)] }
theorem spec_l11Plan.cok (k : Nat) : CtxOk Tryz.prog (spec_l11Plan.C k) := ctx_ok TABok ⟨spec_Writes.ok k, spec_l11Next.ok k, trivial⟩
def spec_l11Plan.l0.ish : Shape := { tmps := [(3, .one (.own 2)), (4, .one (.own 3)), (5, .one (.v (.int .i64)))], slots := [(2, .arr false 49 T29), (3, .arr false 4 .bool)], nb := 4 }
def spec_l11Plan.l0.outs : List (Ex × Shape) := [(.exit 0, { tmps := [(3, .one (.own 4)), (4, .one (.own 5))], slots := [(4, .arr false 49 T29), (5, .arr false 4 .bool)], nb := 6 })]
def spec_l11Plan.l0.F (k j : Nat) (x : Prod' spec_l11Plan.l0.ish.tys) : Option (Outs spec_l11Plan.l0.outs) := spec_l11Plan.l0 j x.1 x.2.1 x.2.2
def spec_l11Plan.l0.s (k : Nat) : Summ := { n := 74, ish := spec_l11Plan.l0.ish, outs := spec_l11Plan.l0.outs, f := spec_l11Plan.l0.F k k }
theorem spec_l11Plan.l0.ev (k j : Nat) (x : Prod' spec_l11Plan.l0.ish.tys) : V (spec_l11Plan.C k) .auto (cO (cO (cR (cL (cR (cR (cR (cB Tryz.f97)))))))) (mk spec_l11Plan.l0.ish 74 x) (fun e st' => match e with | .nrm => (rd spec_l11Plan.l0.ish st').bind (spec_l11Plan.l0.F k j) | e => rdOut e st' spec_l11Plan.l0.outs) = spec_l11Plan.l0.F k (j + 1) x := by kernel_rfl
theorem spec_l11Plan.l0.ok (k : Nat) : SumOk Tryz.prog (spec_l11Plan.C k) (.loop (cO (cO (cR (cL (cR (cR (cR (cB Tryz.f97))))))))) (spec_l11Plan.l0.s k) := sum_ok (by kernel_rfl) (sum_loop (p := .auto) (F := spec_l11Plan.l0.F k) (spec_l11Plan.cok k) (by kernel_rfl) (plan_of (L := []) (by kernel_rfl) trivial) (fun _ => rfl) (fun j x y h => (spec_l11Plan.l0.ev k j x).trans h) k rfl)
def spec_l11Plan.l1.ish : Shape := { tmps := [(3, .one (.own 8)), (4, .one (.own 9)), (6, .one (.own 10)), (7, .one (.own 11)), (8, .one (.v (.int .i64)))], slots := [(8, .arr false 49 T29), (9, .arr false 4 .bool), (10, .arr false 4 .bool), (11, .arr false 86 T86)], nb := 12 }
def spec_l11Plan.l1.outs : List (Ex × Shape) := [(.ret, { tmps := [(2, .one (.own 12))], slots := [(12, .arr false 86 T86)], nb := 13 })]
def spec_l11Plan.l1.F (k j : Nat) (x : Prod' spec_l11Plan.l1.ish.tys) : Option (Outs spec_l11Plan.l1.outs) := spec_l11Plan.l1 k j x.1 x.2.1 x.2.2.1 x.2.2.2.1 x.2.2.2.2
def spec_l11Plan.l1.s (k : Nat) : Summ := { n := 74, ish := spec_l11Plan.l1.ish, outs := spec_l11Plan.l1.outs, f := spec_l11Plan.l1.F k k }
theorem spec_l11Plan.l1.ev (k j : Nat) (x : Prod' spec_l11Plan.l1.ish.tys) : V (spec_l11Plan.C k) .auto (cO (cO (cR (cR (cR (cR (cR (cR (cR (cB Tryz.f97)))))))))) (mk spec_l11Plan.l1.ish 74 x) (fun e st' => match e with | .nrm => (rd spec_l11Plan.l1.ish st').bind (spec_l11Plan.l1.F k j) | e => rdOut e st' spec_l11Plan.l1.outs) = spec_l11Plan.l1.F k (j + 1) x := by kernel_rfl
theorem spec_l11Plan.l1.ok (k : Nat) : SumOk Tryz.prog (spec_l11Plan.C k) (.loop (cO (cO (cR (cR (cR (cR (cR (cR (cR (cB Tryz.f97))))))))))) (spec_l11Plan.l1.s k) := sum_ok (by kernel_rfl) (sum_loop (p := .auto) (F := spec_l11Plan.l1.F k) (spec_l11Plan.cok k) (by kernel_rfl) (plan_of (L := []) (by kernel_rfl) trivial) (fun _ => rfl) (fun j x y h => (spec_l11Plan.l1.ev k j x).trans h) k rfl)
theorem spec_l11Plan.ev (k : Nat) (x : Prod' spec_l11Plan.sig.ins) : spec_l11Plan.sig.ev (spec_l11Plan.C k) (.two .auto (.two .auto (.two .auto (.two (.two .auto (.one (.sum (spec_l11Plan.l0.s k)))) (.two .auto (.two .auto (.two .auto (.one (.sum (spec_l11Plan.l1.s k)))))))))) Tryz.f97.results.toList (cB Tryz.f97) x = spec_l11Plan k x := by kernel_rfl
theorem spec_l11Plan.ok (k : Nat) : ConOk Tryz.prog 97 (spec_l11Plan.con k) := sig_ok (p := (.two .auto (.two .auto (.two .auto (.two (.two .auto (.one (.sum (spec_l11Plan.l0.s k)))) (.two .auto (.two .auto (.two .auto (.one (.sum (spec_l11Plan.l1.s k))))))))))) (spec_l11Plan.cok k) Tryz.func97 (by kernel_rfl) (show Tryz.f97.body = some (cB Tryz.f97) by kernel_rfl) (by kernel_rfl) (by kernel_rfl) (plan_of (L := [(spec_l11Plan.l0.s k, cO (cR (cL (cR (cR (cR (cB Tryz.f97))))))), (spec_l11Plan.l1.s k, cO (cR (cR (cR (cR (cR (cR (cR (cB Tryz.f97)))))))))]) (by kernel_rfl) ⟨spec_l11Plan.l0.ok k, spec_l11Plan.l1.ok k, trivial⟩) (fun x y h => (spec_l11Plan.ev k x).trans h)
def spec_PlanOf (k : Nat) (a1 : List G29) (a2 : Int) : Option (List G86 × Int) :=
  bif decide (400 < ((a1.length) : Int)) then
    some ([], 2)
  else
  Option.bind (spec_StepsCode k a1 a2) fun v3 =>
  bif v3 != 0 then
    some ([], v3)
  else
  Option.bind (spec_l11Plan k a1) fun v4 =>
  some (v4, 0)
def spec_PlanOf.sig : Sig := { ps := [.val false (.sl T29) (ros (.sl T29)), .val false (.int .i64) (ros (.int .i64))], rs := [.val true [.own 86 T86, .v (.int .i64)]], ntmps := 20 }
def spec_PlanOf.con (k : Nat) : Con := spec_PlanOf.sig.con (fun x => spec_PlanOf k x.1 x.2)
def spec_PlanOf.C (k : Nat) : Ctx := { ti := TAB, con := conL [(70, spec_StepsCode.con k), (97, spec_l11Plan.con k)] }
theorem spec_PlanOf.cok (k : Nat) : CtxOk Tryz.prog (spec_PlanOf.C k) := ctx_ok TABok ⟨spec_StepsCode.ok k, spec_l11Plan.ok k, trivial⟩
theorem spec_PlanOf.ev (k : Nat) (x : Prod' spec_PlanOf.sig.ins) : spec_PlanOf.sig.ev (spec_PlanOf.C k) .auto Tryz.f72.results.toList (cB Tryz.f72) x = spec_PlanOf k x.1 x.2 := by kernel_rfl
theorem spec_PlanOf.ok (k : Nat) : ConOk Tryz.prog 72 (spec_PlanOf.con k) := sig_ok (p := .auto) (spec_PlanOf.cok k) Tryz.func72 (by kernel_rfl) (show Tryz.f72.body = some (cB Tryz.f72) by kernel_rfl) (by kernel_rfl) (by kernel_rfl) (plan_of (L := []) (by kernel_rfl) trivial) (fun x y h => (spec_PlanOf.ev k x).trans h)
def spec_l18Head (k : Nat) (a1 : G25) : Option (Int × Int × Int × Str) :=
  Option.bind (spec_PlanOf k a1.2.2 a1.1) fun v2 =>
  Option.bind (spec_SlotsOf k v2.1) fun v3 =>
  some (a1.1, ((a1.2.2.length) : Int), v3, a1.2.1)
def spec_l18Head.sig : Sig := { ps := [.val true T25 (ros T25)], rs := [.val true [.v (.int .i64), .v (.int .i64), .v (.int .i64), .v .str]], ntmps := 18 }
def spec_l18Head.con (k : Nat) : Con := spec_l18Head.sig.con (fun x => spec_l18Head k x)
def spec_l18Head.C (k : Nat) : Ctx := { ti := TAB, con := conL [(71, spec_SlotsOf.con k), (72, spec_PlanOf.con k)], rob := true }
theorem spec_l18Head.cok (k : Nat) : CtxOk Tryz.prog (spec_l18Head.C k) := ctx_ok TABok ⟨spec_SlotsOf.ok k, spec_PlanOf.ok k, trivial⟩
theorem spec_l18Head.ev (k : Nat) (x : Prod' spec_l18Head.sig.ins) : spec_l18Head.sig.ev (spec_l18Head.C k) .auto Tryz.f40.results.toList (cB Tryz.f40) x = spec_l18Head k x := by kernel_rfl
theorem spec_l18Head.ok (k : Nat) : ConOk Tryz.prog 40 (spec_l18Head.con k) := sig_ok (p := .auto) (spec_l18Head.cok k) Tryz.func40 (by kernel_rfl) (show Tryz.f40.body = some (cB Tryz.f40) by kernel_rfl) (by kernel_rfl) (by kernel_rfl) (plan_of (L := []) (by kernel_rfl) trivial) (fun x y h => (spec_l18Head.ev k x).trans h)
def spec_StreamOf.l0 (k : Nat) : Nat → Int → Str → List G29 → Str → Int → Option (Str)
  | 0, _, _, _, _, _ => none
  | j + 1, a1, a2, a3, a4, a5 =>
    bif decide (a5 < ((a3.length) : Int)) then
      Option.bind (at? a3 a5) fun v6 =>
      Option.bind (spec_l06Bytes k v6) fun v7 =>
      Option.bind (spec_Seal k v7) fun v8 =>
      Option.bind (spec_PutText k v8) fun v9 =>
      Option.bind (cat? a4 v9) fun v10 =>
      spec_StreamOf.l0 k j a1 a2 a3 v10 (IntKind.wrap .i64 (a5 + 1))
    else
    some a4
def spec_StreamOf (k : Nat) (a1 : G25) : Option (Str) :=
  Option.bind (spec_PackageRight k a1) fun v2 =>
  bif !v2 then
    some ([])
  else
  Option.bind (spec_l18Head k a1) fun v3 =>
  Option.bind (spec_HeadRight v3) fun v4 =>
  bif !v4 then
    some ([])
  else
  Option.bind (spec_l18Head k a1) fun v5 =>
  Option.bind (spec_HeadBytes k v5) fun v6 =>
  Option.bind (spec_PutText k v6) fun v7 =>
  Option.bind (spec_StreamOf.l0 k k a1.1 a1.2.1 a1.2.2 v7 0) fun y8 =>
  some y8
def spec_StreamOf.sig : Sig := { ps := [.val true T25 (ros T25)], rs := [.val false [.v .str]], ntmps := 36 }
def spec_StreamOf.con (k : Nat) : Con := spec_StreamOf.sig.con (fun x => spec_StreamOf k x)
def spec_StreamOf.C (k : Nat) : Ctx := { ti := TAB, con := conL [(16, spec_HeadBytes.con k), (20, spec_HeadRight.con k), (37, spec_Seal.con k), (39, spec_PackageRight.con k), (40, spec_l18Head.con k), (41, spec_PutText.con k), (42, spec_l06Bytes.con k)], rob := true }
theorem spec_StreamOf.cok (k : Nat) : CtxOk Tryz.prog (spec_StreamOf.C k) := ctx_ok TABok ⟨spec_HeadBytes.ok k, spec_HeadRight.ok k, spec_Seal.ok k, spec_PackageRight.ok k, spec_l18Head.ok k, spec_PutText.ok k, spec_l06Bytes.ok k, trivial⟩
def spec_StreamOf.l0.ish : Shape := { tmps := [(1, .eptr [.v (.int .i64), .v .str, .bor T29]), (3, .one (.v .str)), (4, .one (.v (.int .i64)))], slots := [], nb := 0 }
def spec_StreamOf.l0.outs : List (Ex × Shape) := [(.exit 0, { tmps := [(3, .one (.v .str))], slots := [], nb := 0 })]
def spec_StreamOf.l0.F (k j : Nat) (x : Prod' spec_StreamOf.l0.ish.tys) : Option (Outs spec_StreamOf.l0.outs) := spec_StreamOf.l0 k j x.1 x.2.1 x.2.2.1 x.2.2.2.1 x.2.2.2.2
def spec_StreamOf.l0.s (k : Nat) : Summ := { n := 36, ish := spec_StreamOf.l0.ish, outs := spec_StreamOf.l0.outs, f := spec_StreamOf.l0.F k k }
theorem spec_StreamOf.l0.ev (k j : Nat) (x : Prod' spec_StreamOf.l0.ish.tys) : V (spec_StreamOf.C k) .auto (cO (cO (cR (cL (cR (cR (cR (cB Tryz.f10)))))))) (mk spec_StreamOf.l0.ish 36 x) (fun e st' => match e with | .nrm => (rd spec_StreamOf.l0.ish st').bind (spec_StreamOf.l0.F k j) | e => rdOut e st' spec_StreamOf.l0.outs) = spec_StreamOf.l0.F k (j + 1) x := by kernel_rfl
theorem spec_StreamOf.l0.ok (k : Nat) : SumOk Tryz.prog (spec_StreamOf.C k) (.loop (cO (cO (cR (cL (cR (cR (cR (cB Tryz.f10))))))))) (spec_StreamOf.l0.s k) := sum_ok (by kernel_rfl) (sum_loop (p := .auto) (F := spec_StreamOf.l0.F k) (spec_StreamOf.cok k) (by kernel_rfl) (plan_of (L := []) (by kernel_rfl) trivial) (fun _ => rfl) (fun j x y h => (spec_StreamOf.l0.ev k j x).trans h) k rfl)
theorem spec_StreamOf.ev (k : Nat) (x : Prod' spec_StreamOf.sig.ins) : spec_StreamOf.sig.ev (spec_StreamOf.C k) (.two .auto (.two .auto (.two .auto (.two (.two .auto (.one (.sum (spec_StreamOf.l0.s k)))) .auto)))) Tryz.f10.results.toList (cB Tryz.f10) x = spec_StreamOf k x := by kernel_rfl
theorem spec_StreamOf.ok (k : Nat) : ConOk Tryz.prog 10 (spec_StreamOf.con k) := sig_ok (p := (.two .auto (.two .auto (.two .auto (.two (.two .auto (.one (.sum (spec_StreamOf.l0.s k)))) .auto))))) (spec_StreamOf.cok k) Tryz.func10 (by kernel_rfl) (show Tryz.f10.body = some (cB Tryz.f10) by kernel_rfl) (by kernel_rfl) (by kernel_rfl) (plan_of (L := [(spec_StreamOf.l0.s k, cO (cR (cL (cR (cR (cR (cB Tryz.f10)))))))]) (by kernel_rfl) ⟨spec_StreamOf.l0.ok k, trivial⟩) (fun x y h => (spec_StreamOf.ev k x).trans h)
def spec_l01Src_spoil (a1 : G101) (a2 : Str) : Option (Str × List Int × Int × Int × Int) :=
  Option.bind (spec_l01Src_n a1 (IntKind.wrap .i64 (((a2.length) : Int) + 1))) fun v3 =>
  Option.bind (spec_l01Src_n v3.2 17) fun v4 =>
  Option.bind (at? ([32, 10, 48, 97, 45, 110, 44, 58, 93, 255, 40, 120, 126, 49, 128, 225, 59] : Str) v4.1) fun v5 =>
  let e6 := listByte [(v5.toNat : Int)]
  let e7 := cut? a2 0 v3.1
  let e8 := cut? a2 v3.1 ((a2.length) : Int)
  bif v3.1 == ((a2.length) : Int) then
    Option.bind (e7) fun v9 =>
    Option.bind (cat? v9 e6) fun v10 =>
    Option.bind (e8) fun v11 =>
    Option.bind (cat? v10 v11) fun v12 =>
    some (v12, v4.2.1, v4.2.2.1, v4.2.2.2.1, v4.2.2.2.2)
  else
  Option.bind (spec_l01Src_one v4.2 3) fun v13 =>
  bif v13.1 then
    Option.bind (e7) fun v14 =>
    Option.bind (cat? v14 e6) fun v15 =>
    Option.bind (e8) fun v16 =>
    Option.bind (cat? v15 v16) fun v17 =>
    some (v17, v13.2.1, v13.2.2.1, v13.2.2.2.1, v13.2.2.2.2)
  else
  Option.bind (spec_l01Src_one v13.2 2) fun v18 =>
  let e19 := cut? a2 (IntKind.wrap .i64 (v3.1 + 1)) ((a2.length) : Int)
  bif v18.1 then
    Option.bind (e7) fun v20 =>
    Option.bind (e19) fun v21 =>
    Option.bind (cat? v20 v21) fun v22 =>
    some (v22, v18.2.1, v18.2.2.1, v18.2.2.2.1, v18.2.2.2.2)
  else
  Option.bind (e7) fun v23 =>
  Option.bind (cat? v23 e6) fun v24 =>
  Option.bind (e19) fun v25 =>
  Option.bind (cat? v24 v25) fun v26 =>
  some (v26, v18.2.1, v18.2.2.1, v18.2.2.2.1, v18.2.2.2.2)
def spec_l01Src_spoil.sig : Sig := { ps := [.ref 101 T101 (kept T101), .val false .str (ros .str)], rs := [.val false [.v .str]], ntmps := 54 }
def spec_l01Src_spoil.con (k : Nat) : Con := spec_l01Src_spoil.sig.con (fun x => spec_l01Src_spoil x.1 x.2)
def spec_l01Src_spoil.C (k : Nat) : Ctx := { ti := TAB, con := conL [(35, spec_l01Src_n.con k), (65, spec_l01Src_one.con k)] }
theorem spec_l01Src_spoil.cok (k : Nat) : CtxOk Tryz.prog (spec_l01Src_spoil.C k) := ctx_ok TABok ⟨spec_l01Src_n.ok k, spec_l01Src_one.ok k, trivial⟩
theorem spec_l01Src_spoil.ev (k : Nat) (x : Prod' spec_l01Src_spoil.sig.ins) : spec_l01Src_spoil.sig.ev (spec_l01Src_spoil.C k) .auto Tryz.f36.results.toList (cB Tryz.f36) x = spec_l01Src_spoil x.1 x.2 := by kernel_rfl
theorem spec_l01Src_spoil.ok (k : Nat) : ConOk Tryz.prog 36 (spec_l01Src_spoil.con k) := sig_ok (p := .auto) (spec_l01Src_spoil.cok k) Tryz.func36 (by kernel_rfl) (show Tryz.f36.body = some (cB Tryz.f36) by kernel_rfl) (by kernel_rfl) (by kernel_rfl) (plan_of (L := []) (by kernel_rfl) trivial) (fun x y h => (spec_l01Src_spoil.ev k x).trans h)
def spec_l01Src_l18Stream (k : Nat) (a1 : G101) : Option (Str × List Int × Int × Int × Int) :=
  Option.bind (spec_l01Src_l08Package k a1) fun v2 =>
  Option.bind (spec_StreamOf k (v2.1, (v2.2.1, v2.2.2.1))) fun v3 =>
  Option.bind (spec_l01Src_one v2.2.2.2.2 8) fun v4 =>
  bif v4.1 then
    Option.bind (spec_l01Src_spoil v4.2 v3) fun v5 =>
    some (v5.1, v5.2.1, v5.2.2.1, v5.2.2.2.1, v5.2.2.2.2)
  else
  some (v3, v4.2.1, v4.2.2.1, v4.2.2.2.1, v4.2.2.2.2)
def spec_l01Src_l18Stream.sig : Sig := { ps := [.ref 101 T101 (kept T101)], rs := [.val false [.v .str]], ntmps := 19 }
def spec_l01Src_l18Stream.con (k : Nat) : Con := spec_l01Src_l18Stream.sig.con (fun x => spec_l01Src_l18Stream k x)
def spec_l01Src_l18Stream.C (k : Nat) : Ctx := { ti := TAB, con := conL [(10, spec_StreamOf.con k), (36, spec_l01Src_spoil.con k), (52, spec_l01Src_l08Package.con k), (65, spec_l01Src_one.con k)] }
theorem spec_l01Src_l18Stream.cok (k : Nat) : CtxOk Tryz.prog (spec_l01Src_l18Stream.C k) := ctx_ok TABok ⟨spec_StreamOf.ok k, spec_l01Src_spoil.ok k, spec_l01Src_l08Package.ok k, spec_l01Src_one.ok k, trivial⟩
theorem spec_l01Src_l18Stream.ev (k : Nat) (x : Prod' spec_l01Src_l18Stream.sig.ins) : spec_l01Src_l18Stream.sig.ev (spec_l01Src_l18Stream.C k) .auto Tryz.f64.results.toList (cB Tryz.f64) x = spec_l01Src_l18Stream k x := by kernel_rfl
theorem spec_l01Src_l18Stream.ok (k : Nat) : ConOk Tryz.prog 64 (spec_l01Src_l18Stream.con k) := sig_ok (p := .auto) (spec_l01Src_l18Stream.cok k) Tryz.func64 (by kernel_rfl) (show Tryz.f64.body = some (cB Tryz.f64) by kernel_rfl) (by kernel_rfl) (by kernel_rfl) (plan_of (L := []) (by kernel_rfl) trivial) (fun x y h => (spec_l01Src_l18Stream.ev k x).trans h)
def spec_l01Src_l18Feed (k : Nat) (a1 : G101) : Option (Int × Int × Int × Str × Int × Str × Str × List Int × Int × Int × Int) :=
  Option.bind (spec_l01Src_l18Stream k a1) fun v2 =>
  let e3 := ((v2.1.length) : Int)
  Option.bind (spec_l01Src_n v2.2 (IntKind.wrap .i64 (e3 + 1))) fun v4 =>
  Option.bind (cut? v2.1 0 v4.1) fun v5 =>
  Option.bind (spec_FeedPut k ((0, (0, (0, []))), (0, [])) v5) fun v6 =>
  Option.bind (spec_l01Src_one v4.2 15) fun v7 =>
  let e8 := cut? v2.1 v4.1 e3
  bif v7.1 then
    Option.bind (spec_l01Src_n v7.2 3) fun v9 =>
    bif v9.1 == 0 then
      Option.bind (spec_l01Src_n v9.2 9) fun v10 =>
      Option.bind (e8) fun v11 =>
      some (v6.1, v6.2.1, v6.2.2.1, v6.2.2.2.1, IntKind.wrap .i64 (v10.1 - 1), v6.2.2.2.2.2.1, v11, v10.2.1, v10.2.2.1, v10.2.2.2.1, v10.2.2.2.2)
    else
    bif v9.1 == 1 then
      Option.bind (spec_l01Src_n v9.2 3) fun v12 =>
      let e13 := IntKind.wrap .i64 (499 + v12.1)
      Option.bind (make? 1 e13 e13 0) fun v14 =>
      Option.bind (e8) fun v15 =>
      some (v6.1, v6.2.1, v6.2.2.1, v6.2.2.2.1, v6.2.2.2.2.1, listByte v14, v15, v12.2.1, v12.2.2.1, v12.2.2.2.1, v12.2.2.2.2)
    else
    Option.bind (e8) fun v16 =>
    some (v6.1, v6.2.1, 9, v6.2.2.2.1, v6.2.2.2.2.1, v6.2.2.2.2.2.1, v16, v9.2.1, v9.2.2.1, v9.2.2.2.1, v9.2.2.2.2)
  else
  Option.bind (e8) fun v17 =>
  some (v6.1, v6.2.1, v6.2.2.1, v6.2.2.2.1, v6.2.2.2.2.1, v6.2.2.2.2.2.1, v17, v7.2.1, v7.2.2.1, v7.2.2.2.1, v7.2.2.2.2)
def spec_l01Src_l18Feed.sig : Sig := { ps := [.ref 101 T101 (kept T101)], rs := [.val true [.v (.int .i64), .v (.int .i64), .v (.int .i64), .v .str, .v (.int .i64), .v .str], .val false [.v .str]], ntmps := 46 }
def spec_l01Src_l18Feed.con (k : Nat) : Con := spec_l01Src_l18Feed.sig.con (fun x => spec_l01Src_l18Feed k x)
def spec_l01Src_l18Feed.C (k : Nat) : Ctx := { ti := TAB, con := conL [(13, spec_FeedPut.con k), (35, spec_l01Src_n.con k), (64, spec_l01Src_l18Stream.con k), (65, spec_l01Src_one.con k)] }
theorem spec_l01Src_l18Feed.cok (k : Nat) : CtxOk Tryz.prog (spec_l01Src_l18Feed.C k) := ctx_ok TABok ⟨spec_FeedPut.ok k, spec_l01Src_n.ok k, spec_l01Src_l18Stream.ok k, spec_l01Src_one.ok k, trivial⟩
theorem spec_l01Src_l18Feed.ev (k : Nat) (x : Prod' spec_l01Src_l18Feed.sig.ins) : spec_l01Src_l18Feed.sig.ev (spec_l01Src_l18Feed.C k) .auto Tryz.f32.results.toList (cB Tryz.f32) x = spec_l01Src_l18Feed k x := by kernel_rfl
theorem spec_l01Src_l18Feed.ok (k : Nat) : ConOk Tryz.prog 32 (spec_l01Src_l18Feed.con k) := sig_ok (p := .auto) (spec_l01Src_l18Feed.cok k) Tryz.func32 (by kernel_rfl) (show Tryz.f32.body = some (cB Tryz.f32) by kernel_rfl) (by kernel_rfl) (by kernel_rfl) (plan_of (L := []) (by kernel_rfl) trivial) (fun x y h => (spec_l01Src_l18Feed.ev k x).trans h)
def spec_DrawFeedPut (k : Nat) (a1 : List Int) : Option (Int × Int × Int × Str × Int × Str × Str) :=
  Option.bind (spec_l01Source k a1) fun v2 =>
  Option.bind (spec_l01Src_l18Feed k v2) fun v3 =>
  some (v3.1, v3.2.1, v3.2.2.1, v3.2.2.2.1, v3.2.2.2.2.1, v3.2.2.2.2.2.1, v3.2.2.2.2.2.2.1)
def spec_DrawFeedPut.sig : Sig := { ps := [.val false (.sl (.int .u8)) (kept (.sl (.int .u8)))], rs := [.val true [.v (.int .i64), .v (.int .i64), .v (.int .i64), .v .str, .v (.int .i64), .v .str], .val false [.v .str]], ntmps := 9 }
def spec_DrawFeedPut.con (k : Nat) : Con := spec_DrawFeedPut.sig.con (fun x => spec_DrawFeedPut k x)
def spec_DrawFeedPut.C (k : Nat) : Ctx := { ti := TAB, con := conL [(31, spec_l01Source.con k), (32, spec_l01Src_l18Feed.con k)] }
theorem spec_DrawFeedPut.cok (k : Nat) : CtxOk Tryz.prog (spec_DrawFeedPut.C k) := ctx_ok TABok ⟨spec_l01Source.ok k, spec_l01Src_l18Feed.ok k, trivial⟩
theorem spec_DrawFeedPut.ev (k : Nat) (x : Prod' spec_DrawFeedPut.sig.ins) : spec_DrawFeedPut.sig.ev (spec_DrawFeedPut.C k) .auto Tryz.f6.results.toList (cB Tryz.f6) x = spec_DrawFeedPut k x := by kernel_rfl
theorem spec_DrawFeedPut.ok (k : Nat) : ConOk Tryz.prog 6 (spec_DrawFeedPut.con k) := sig_ok (p := .auto) (spec_DrawFeedPut.cok k) Tryz.func6 (by kernel_rfl) (show Tryz.f6.body = some (cB Tryz.f6) by kernel_rfl) (by kernel_rfl) (by kernel_rfl) (plan_of (L := []) (by kernel_rfl) trivial) (fun x y h => (spec_DrawFeedPut.ev k x).trans h)
def spec_l01Src_l18HeadOf (k : Nat) (a1 : G101) : Option (Int × Int × Int × Str × List Int × Int × Int × Int) :=
  Option.bind (spec_l01Src_l08Package k a1) fun v2 =>
  Option.bind (spec_l01Src_n v2.2.2.2.2 3) fun v3 =>
  Option.bind (spec_l01Src_one v3.2 8) fun v4 =>
  let e5 := ((v2.2.2.1.length) : Int)
  bif v4.1 then
    Option.bind (spec_l01Src_n v4.2 3) fun v6 =>
    let e7 := at? [(-1), 4, 5] v6.1
    Option.bind (e7) fun v8 =>
    Option.bind (e7) fun v9 =>
    some (v2.1, e5, v9, v2.2.1, v6.2.1, v6.2.2.1, v6.2.2.2.1, v6.2.2.2.2)
  else
  some (v2.1, e5, v3.1, v2.2.1, v4.2.1, v4.2.2.1, v4.2.2.2.1, v4.2.2.2.2)
def spec_l01Src_l18HeadOf.sig : Sig := { ps := [.ref 101 T101 (kept T101)], rs := [.val true [.v (.int .i64), .v (.int .i64), .v (.int .i64), .v .str]], ntmps := 30 }
def spec_l01Src_l18HeadOf.con (k : Nat) : Con := spec_l01Src_l18HeadOf.sig.con (fun x => spec_l01Src_l18HeadOf k x)
def spec_l01Src_l18HeadOf.C (k : Nat) : Ctx := { ti := TAB, con := conL [(35, spec_l01Src_n.con k), (52, spec_l01Src_l08Package.con k), (65, spec_l01Src_one.con k)] }
theorem spec_l01Src_l18HeadOf.cok (k : Nat) : CtxOk Tryz.prog (spec_l01Src_l18HeadOf.C k) := ctx_ok TABok ⟨spec_l01Src_n.ok k, spec_l01Src_l08Package.ok k, spec_l01Src_one.ok k, trivial⟩
theorem spec_l01Src_l18HeadOf.ev (k : Nat) (x : Prod' spec_l01Src_l18HeadOf.sig.ins) : spec_l01Src_l18HeadOf.sig.ev (spec_l01Src_l18HeadOf.C k) .auto Tryz.f33.results.toList (cB Tryz.f33) x = spec_l01Src_l18HeadOf k x := by kernel_rfl
theorem spec_l01Src_l18HeadOf.ok (k : Nat) : ConOk Tryz.prog 33 (spec_l01Src_l18HeadOf.con k) := sig_ok (p := .auto) (spec_l01Src_l18HeadOf.cok k) Tryz.func33 (by kernel_rfl) (show Tryz.f33.body = some (cB Tryz.f33) by kernel_rfl) (by kernel_rfl) (by kernel_rfl) (plan_of (L := []) (by kernel_rfl) trivial) (fun x y h => (spec_l01Src_l18HeadOf.ev k x).trans h)
def spec_DrawHeadBytes (k : Nat) (a1 : List Int) : Option (Int × Int × Int × Str) :=
  Option.bind (spec_l01Source k a1) fun v2 =>
  Option.bind (spec_l01Src_l18HeadOf k v2) fun v3 =>
  some (v3.1, v3.2.1, v3.2.2.1, v3.2.2.2.1)
def spec_DrawHeadBytes.sig : Sig := { ps := [.val false (.sl (.int .u8)) (kept (.sl (.int .u8)))], rs := [.val true [.v (.int .i64), .v (.int .i64), .v (.int .i64), .v .str]], ntmps := 6 }
def spec_DrawHeadBytes.con (k : Nat) : Con := spec_DrawHeadBytes.sig.con (fun x => spec_DrawHeadBytes k x)
def spec_DrawHeadBytes.C (k : Nat) : Ctx := { ti := TAB, con := conL [(31, spec_l01Source.con k), (33, spec_l01Src_l18HeadOf.con k)] }
theorem spec_DrawHeadBytes.cok (k : Nat) : CtxOk Tryz.prog (spec_DrawHeadBytes.C k) := ctx_ok TABok ⟨spec_l01Source.ok k, spec_l01Src_l18HeadOf.ok k, trivial⟩
theorem spec_DrawHeadBytes.ev (k : Nat) (x : Prod' spec_DrawHeadBytes.sig.ins) : spec_DrawHeadBytes.sig.ev (spec_DrawHeadBytes.C k) .auto Tryz.f7.results.toList (cB Tryz.f7) x = spec_DrawHeadBytes k x := by kernel_rfl
theorem spec_DrawHeadBytes.ok (k : Nat) : ConOk Tryz.prog 7 (spec_DrawHeadBytes.con k) := sig_ok (p := .auto) (spec_DrawHeadBytes.cok k) Tryz.func7 (by kernel_rfl) (show Tryz.f7.body = some (cB Tryz.f7) by kernel_rfl) (by kernel_rfl) (by kernel_rfl) (plan_of (L := []) (by kernel_rfl) trivial) (fun x y h => (spec_DrawHeadBytes.ev k x).trans h)
def impl_isHead (a1 : G29) : Option (Bool) :=
  Option.bind (impl_isBlocks a1.1) fun v2 =>
  bif v2 then
    Option.bind (impl_within a1.2.1 1 20) fun v3 =>
    bif v3 then
      Option.bind (impl_within a1.2.2.1 0 4) fun v4 =>
      some (v4 && (((a1.2.2.2.length) : Int) == 32))
    else
    some false
  else
  some false
def impl_isHead.sig : Sig := { ps := [.val true T29 (ros T29)], rs := [.val false [.v .bool]], ntmps := 22 }
def impl_isHead.con (k : Nat) : Con := impl_isHead.sig.con (fun x => impl_isHead x)
def impl_isHead.C (k : Nat) : Ctx := { ti := TAB, con := conL [(66, impl_isBlocks.con k), (67, impl_within.con k)] }
theorem impl_isHead.cok (k : Nat) : CtxOk Tryz.prog (impl_isHead.C k) := ctx_ok TABok ⟨impl_isBlocks.ok k, impl_within.ok k, trivial⟩
theorem impl_isHead.ev (k : Nat) (x : Prod' impl_isHead.sig.ins) : impl_isHead.sig.ev (impl_isHead.C k) .auto Tryz.f34.results.toList (cB Tryz.f34) x = impl_isHead x := by kernel_rfl
theorem impl_isHead.ok (k : Nat) : ConOk Tryz.prog 34 (impl_isHead.con k) := sig_ok (p := .auto) (impl_isHead.cok k) Tryz.func34 (by kernel_rfl) (show Tryz.f34.body = some (cB Tryz.f34) by kernel_rfl) (by kernel_rfl) (by kernel_rfl) (plan_of (L := []) (by kernel_rfl) trivial) (fun x y h => (impl_isHead.ev k x).trans h)
def impl_HeadBytes (k : Nat) (a1 : G29) : Option (Str) :=
  Option.bind (impl_isHead a1) fun v2 =>
  bif !v2 then
    some ([])
  else
  Option.bind (impl_headBytes k a1) fun v3 =>
  some v3
def impl_HeadBytes.sig : Sig := { ps := [.val true T29 (ros T29)], rs := [.val false [.v .str]], ntmps := 8 }
def impl_HeadBytes.con (k : Nat) : Con := impl_HeadBytes.sig.con (fun x => impl_HeadBytes k x)
def impl_HeadBytes.C (k : Nat) : Ctx := { ti := TAB, con := conL [(27, impl_headBytes.con k), (34, impl_isHead.con k)] }
theorem impl_HeadBytes.cok (k : Nat) : CtxOk Tryz.prog (impl_HeadBytes.C k) := ctx_ok TABok ⟨impl_headBytes.ok k, impl_isHead.ok k, trivial⟩
theorem impl_HeadBytes.ev (k : Nat) (x : Prod' impl_HeadBytes.sig.ins) : impl_HeadBytes.sig.ev (impl_HeadBytes.C k) .auto Tryz.f8.results.toList (cB Tryz.f8) x = impl_HeadBytes k x := by kernel_rfl
theorem impl_HeadBytes.ok (k : Nat) : ConOk Tryz.prog 8 (impl_HeadBytes.con k) := sig_ok (p := .auto) (impl_HeadBytes.cok k) Tryz.func8 (by kernel_rfl) (show Tryz.f8.body = some (cB Tryz.f8) by kernel_rfl) (by kernel_rfl) (by kernel_rfl) (plan_of (L := []) (by kernel_rfl) trivial) (fun x y h => (impl_HeadBytes.ev k x).trans h)
def spec_DrawHeadRead (k : Nat) (a1 : List Int) : Option (Str) :=
  Option.bind (spec_l01Source k a1) fun v2 =>
  Option.bind (spec_l01Src_l18HeadOf k v2) fun v3 =>
  Option.bind (spec_HeadBytes k (v3.1, (v3.2.1, (v3.2.2.1, v3.2.2.2.1)))) fun v4 =>
  Option.bind (spec_l01Src_n v3.2.2.2.2 5) fun v5 =>
  bif v5.1 == 0 then
    Option.bind (spec_l01Src_spoil v5.2 v4) fun v6 =>
    some v6.1
  else
  bif v5.1 == 1 then
    Option.bind (spec_l01Src_n v5.2 (IntKind.wrap .i64 (((v4.length) : Int) + 1))) fun v7 =>
    Option.bind (cut? v4 0 v7.1) fun v8 =>
    some v8
  else
  bif v5.1 == 2 then
    Option.bind (spec_Unseal k v4) fun v9 =>
    Option.bind (spec_l01Src_spoil v5.2 v9.1) fun v10 =>
    Option.bind (spec_Seal k v10.1) fun v11 =>
    some v11
  else
  some v4
def spec_DrawHeadRead.sig : Sig := { ps := [.val false (.sl (.int .u8)) (kept (.sl (.int .u8)))], rs := [.val false [.v .str]], ntmps := 35 }
def spec_DrawHeadRead.con (k : Nat) : Con := spec_DrawHeadRead.sig.con (fun x => spec_DrawHeadRead k x)
def spec_DrawHeadRead.C (k : Nat) : Ctx := { ti := TAB, con := conL [(16, spec_HeadBytes.con k), (31, spec_l01Source.con k), (33, spec_l01Src_l18HeadOf.con k), (35, spec_l01Src_n.con k), (36, spec_l01Src_spoil.con k), (37, spec_Seal.con k), (38, spec_Unseal.con k)] }
theorem spec_DrawHeadRead.cok (k : Nat) : CtxOk Tryz.prog (spec_DrawHeadRead.C k) := ctx_ok TABok ⟨spec_HeadBytes.ok k, spec_l01Source.ok k, spec_l01Src_l18HeadOf.ok k, spec_l01Src_n.ok k, spec_l01Src_spoil.ok k, spec_Seal.ok k, spec_Unseal.ok k, trivial⟩
theorem spec_DrawHeadRead.ev (k : Nat) (x : Prod' spec_DrawHeadRead.sig.ins) : spec_DrawHeadRead.sig.ev (spec_DrawHeadRead.C k) .auto Tryz.f9.results.toList (cB Tryz.f9) x = spec_DrawHeadRead k x := by kernel_rfl
theorem spec_DrawHeadRead.ok (k : Nat) : ConOk Tryz.prog 9 (spec_DrawHeadRead.con k) := sig_ok (p := .auto) (spec_DrawHeadRead.cok k) Tryz.func9 (by kernel_rfl) (show Tryz.f9.body = some (cB Tryz.f9) by kernel_rfl) (by kernel_rfl) (by kernel_rfl) (plan_of (L := []) (by kernel_rfl) trivial) (fun x y h => (spec_DrawHeadRead.ev k x).trans h)
def laws_lwFeed.l0 : Nat → Int → Int → Int → Str → Int → Str → List G51 → Int → Int → Int → Int → Str → Int → Str → List G51 → Int → Int → Option (Unit ⊕ Bool)
  | 0, _, _, _, _, _, _, _, _, _, _, _, _, _, _, _, _, _ => none
  | j + 1, a1, a2, a3, a4, a5, a6, a7, a8, a9, a10, a11, a12, a13, a14, a15, a16, a17 =>
    bif decide (a17 < ((a7.length) : Int)) then
      Option.bind (at? a7 a17) fun v18 =>
      Option.bind (at? a15 a17) fun v19 =>
      bif !((v18.1 == v19.1) && ((v18.2.1 == v19.2.1) && ((v18.2.2.1 == v19.2.2.1) && ((v18.2.2.2.1 == v19.2.2.2.1) && ((v18.2.2.2.2.1 == v19.2.2.2.2.1) && ((v18.2.2.2.2.2.1 == v19.2.2.2.2.2.1) && ((v18.2.2.2.2.2.2.1 == v19.2.2.2.2.2.2.1) && (v18.2.2.2.2.2.2.2 == v19.2.2.2.2.2.2.2)))))))) then
        some (.inr false)
      else
      laws_lwFeed.l0 j a1 a2 a3 a4 a5 a6 a7 a8 a9 a10 a11 a12 a13 a14 a15 a16 (IntKind.wrap .i64 (a17 + 1))
    else
    some (.inl ())
def laws_lwFeed (k : Nat) (a1 : G40) (a2 : G40) : Option (Bool) :=
  bif ((a1.2.2 != a2.2.2) || (!((a1.1.1.1 == a2.1.1.1) && ((a1.1.1.2.1 == a2.1.1.2.1) && ((a1.1.1.2.2.1 == a2.1.1.2.2.1) && ((a1.1.1.2.2.2 == a2.1.1.2.2.2) && ((a1.1.2.1 == a2.1.2.1) && (a1.1.2.2 == a2.1.2.2)))))))) || (((a1.2.1.length) : Int) != ((a2.2.1.length) : Int)) then
    some false
  else
  Option.bind (laws_lwFeed.l0 k a1.1.1.1 a1.1.1.2.1 a1.1.1.2.2.1 a1.1.1.2.2.2 a1.1.2.1 a1.1.2.2 a1.2.1 a1.2.2 a2.1.1.1 a2.1.1.2.1 a2.1.1.2.2.1 a2.1.1.2.2.2 a2.1.2.1 a2.1.2.2 a2.2.1 a2.2.2 0) fun
    | .inl y3 =>
      some true
    | .inr y4 =>
      some y4
def laws_lwFeed.sig : Sig := { ps := [.val true T40 (ros T40), .val true T40 (ros T40)], rs := [.val false [.v .bool]], ntmps := 45 }
def laws_lwFeed.con (k : Nat) : Con := laws_lwFeed.sig.con (fun x => laws_lwFeed k x.1 x.2)
def laws_lwFeed.C (k : Nat) : Ctx := { ti := TAB, con := conL [], rob := true }
theorem laws_lwFeed.cok (k : Nat) : CtxOk Tryz.prog (laws_lwFeed.C k) := ctx_ok TABok trivial
def laws_lwFeed.l0.ish : Shape := { tmps := [(2, .eptr [.v (.int .i64), .v (.int .i64), .v (.int .i64), .v .str, .v (.int .i64), .v .str, .bor T51, .v (.int .i64)]), (3, .eptr [.v (.int .i64), .v (.int .i64), .v (.int .i64), .v .str, .v (.int .i64), .v .str, .bor T51, .v (.int .i64)]), (5, .one (.v (.int .i64)))], slots := [], nb := 0 }
def laws_lwFeed.l0.outs : List (Ex × Shape) := [(.exit 0, { tmps := [], slots := [], nb := 0 }), (.ret, { tmps := [(4, .one (.v .bool))], slots := [], nb := 0 })]
def laws_lwFeed.l0.F (k j : Nat) (x : Prod' laws_lwFeed.l0.ish.tys) : Option (Outs laws_lwFeed.l0.outs) := laws_lwFeed.l0 j x.1 x.2.1 x.2.2.1 x.2.2.2.1 x.2.2.2.2.1 x.2.2.2.2.2.1 x.2.2.2.2.2.2.1 x.2.2.2.2.2.2.2.1 x.2.2.2.2.2.2.2.2.1 x.2.2.2.2.2.2.2.2.2.1 x.2.2.2.2.2.2.2.2.2.2.1 x.2.2.2.2.2.2.2.2.2.2.2.1 x.2.2.2.2.2.2.2.2.2.2.2.2.1 x.2.2.2.2.2.2.2.2.2.2.2.2.2.1 x.2.2.2.2.2.2.2.2.2.2.2.2.2.2.1 x.2.2.2.2.2.2.2.2.2.2.2.2.2.2.2.1 x.2.2.2.2.2.2.2.2.2.2.2.2.2.2.2.2
def laws_lwFeed.l0.s (k : Nat) : Summ := { n := 45, ish := laws_lwFeed.l0.ish, outs := laws_lwFeed.l0.outs, f := laws_lwFeed.l0.F k k }
theorem laws_lwFeed.l0.ev (k j : Nat) (x : Prod' laws_lwFeed.l0.ish.tys) : V (laws_lwFeed.C k) .auto (cO (cO (cR (cL (cR (cR (cB Tryz.f11))))))) (mk laws_lwFeed.l0.ish 45 x) (fun e st' => match e with | .nrm => (rd laws_lwFeed.l0.ish st').bind (laws_lwFeed.l0.F k j) | e => rdOut e st' laws_lwFeed.l0.outs) = laws_lwFeed.l0.F k (j + 1) x := by kernel_rfl
theorem laws_lwFeed.l0.ok (k : Nat) : SumOk Tryz.prog (laws_lwFeed.C k) (.loop (cO (cO (cR (cL (cR (cR (cB Tryz.f11)))))))) (laws_lwFeed.l0.s k) := sum_ok (by kernel_rfl) (sum_loop (p := .auto) (F := laws_lwFeed.l0.F k) (laws_lwFeed.cok k) (by kernel_rfl) (plan_of (L := []) (by kernel_rfl) trivial) (fun _ => rfl) (fun j x y h => (laws_lwFeed.l0.ev k j x).trans h) k rfl)
theorem laws_lwFeed.ev (k : Nat) (x : Prod' laws_lwFeed.sig.ins) : laws_lwFeed.sig.ev (laws_lwFeed.C k) (.two .auto (.two .auto (.two (.two .auto (.one (.sum (laws_lwFeed.l0.s k)))) .auto))) Tryz.f11.results.toList (cB Tryz.f11) x = laws_lwFeed k x.1 x.2 := by kernel_rfl
theorem laws_lwFeed.ok (k : Nat) : ConOk Tryz.prog 11 (laws_lwFeed.con k) := sig_ok (p := (.two .auto (.two .auto (.two (.two .auto (.one (.sum (laws_lwFeed.l0.s k)))) .auto)))) (laws_lwFeed.cok k) Tryz.func11 (by kernel_rfl) (show Tryz.f11.body = some (cB Tryz.f11) by kernel_rfl) (by kernel_rfl) (by kernel_rfl) (plan_of (L := [(laws_lwFeed.l0.s k, cO (cR (cL (cR (cR (cB Tryz.f11))))))]) (by kernel_rfl) ⟨laws_lwFeed.l0.ok k, trivial⟩) (fun x y h => (laws_lwFeed.ev k x).trans h)
def impl_isFeed (a1 : G31) : Option (Bool) :=
  bif decide (500 < ((a1.2.2.length) : Int)) then
    some false
  else
  bif ((a1.1.1 == 0) && ((a1.1.2.1 == 0) && ((a1.1.2.2.1 == 0) && (a1.1.2.2.2 == [])))) && (a1.2.1 == 0) then
    some true
  else
  Option.bind (impl_isHead a1.1) fun v2 =>
  bif v2 then
    Option.bind (impl_within a1.2.1 0 a1.1.2.1) fun v3 =>
    some v3
  else
  some false
def impl_isFeed.sig : Sig := { ps := [.val true T31 (ros T31)], rs := [.val false [.v .bool]], ntmps := 29 }
def impl_isFeed.con (k : Nat) : Con := impl_isFeed.sig.con (fun x => impl_isFeed x)
def impl_isFeed.C (k : Nat) : Ctx := { ti := TAB, con := conL [(34, impl_isHead.con k), (67, impl_within.con k)] }
theorem impl_isFeed.cok (k : Nat) : CtxOk Tryz.prog (impl_isFeed.C k) := ctx_ok TABok ⟨impl_isHead.ok k, impl_within.ok k, trivial⟩
theorem impl_isFeed.ev (k : Nat) (x : Prod' impl_isFeed.sig.ins) : impl_isFeed.sig.ev (impl_isFeed.C k) .auto Tryz.f43.results.toList (cB Tryz.f43) x = impl_isFeed x := by kernel_rfl
theorem impl_isFeed.ok (k : Nat) : ConOk Tryz.prog 43 (impl_isFeed.con k) := sig_ok (p := .auto) (impl_isFeed.cok k) Tryz.func43 (by kernel_rfl) (show Tryz.f43.body = some (cB Tryz.f43) by kernel_rfl) (by kernel_rfl) (by kernel_rfl) (plan_of (L := []) (by kernel_rfl) trivial) (fun x y h => (impl_isFeed.ev k x).trans h)
def impl_getNum.l0 : Nat → Str → Int → Int → Int → Option ((Int × Int × Int))
  | 0, _, _, _, _ => none
  | j + 1, a1, a2, a3, a4 =>
    bif decide ((IntKind.wrap .i64 (((a1.length) : Int) - a4)) ≤ a2) then
      some (0, 0, 4)
    else
    let e5 := IntKind.wrap .i64 (a2 + a4)
    Option.bind (at? a1 e5) fun v6 =>
    bif (a4 == 9) && (decide (1 < (v6.toNat : Int))) then
      some (0, 0, 3)
    else
    let e7 := IntKind.wrap .i64 (7 * a4)
    Option.bind (nneg? e7) fun v8 =>
    let e9 := intBits .or .u64 a3 (shl .u64 (IntKind.wrap .u64 (intBits .and .u8 (v6.toNat : Int) 127)) e7)
    bif decide (127 < (v6.toNat : Int)) then
      impl_getNum.l0 j a1 a2 e9 (IntKind.wrap .i64 (a4 + 1))
    else
    bif ((v6.toNat : Int) == 0) && (decide (0 < a4)) then
      some (0, 0, 3)
    else
    Option.bind (nneg? 1) fun v10 =>
    let e11 := IntKind.wrap .i64 (e5 + 1)
    let e12 := IntKind.wrap .i64 (shr .u64 e9 1)
    bif (intBits .and .u64 e9 1) == 1 then
      some (intBits .xor .i64 (-1) e12, e11, 0)
    else
    some (e12, e11, 0)
def impl_getNum (k : Nat) (a1 : Str) (a2 : Int) : Option (Int × Int × Int) :=
  bif decide (a2 < 0) then
    some (0, 0, 1)
  else
  Option.bind (impl_getNum.l0 k a1 a2 0 0) fun y3 =>
  some (y3.1, y3.2.1, y3.2.2)
def impl_getNum.sig : Sig := { ps := [.val false .str (ros .str), .val false (.int .i64) (ros (.int .i64))], rs := [.val false [.v (.int .i64)], .val false [.v (.int .i64)], .val false [.v (.int .i64)]], ntmps := 61 }
def impl_getNum.con (k : Nat) : Con := impl_getNum.sig.con (fun x => impl_getNum k x.1 x.2)
def impl_getNum.C (k : Nat) : Ctx := { ti := TAB, con := conL [] }
theorem impl_getNum.cok (k : Nat) : CtxOk Tryz.prog (impl_getNum.C k) := ctx_ok TABok trivial
def impl_getNum.l0.ish : Shape := { tmps := [(0, .one (.v .str)), (1, .one (.v (.int .i64))), (7, .one (.v (.int .u64))), (8, .one (.v (.int .i64)))], slots := [], nb := 0 }
def impl_getNum.l0.outs : List (Ex × Shape) := [(.ret, { tmps := [(4, .one (.v (.int .i64))), (5, .one (.v (.int .i64))), (6, .one (.v (.int .i64)))], slots := [], nb := 0 })]
def impl_getNum.l0.F (k j : Nat) (x : Prod' impl_getNum.l0.ish.tys) : Option (Outs impl_getNum.l0.outs) := impl_getNum.l0 j x.1 x.2.1 x.2.2.1 x.2.2.2
def impl_getNum.l0.s (k : Nat) : Summ := { n := 61, ish := impl_getNum.l0.ish, outs := impl_getNum.l0.outs, f := impl_getNum.l0.F k k }
theorem impl_getNum.l0.ev (k j : Nat) (x : Prod' impl_getNum.l0.ish.tys) : V (impl_getNum.C k) .auto (cO (cO (cR (cR (cR (cR (cB Tryz.f98))))))) (mk impl_getNum.l0.ish 61 x) (fun e st' => match e with | .nrm => (rd impl_getNum.l0.ish st').bind (impl_getNum.l0.F k j) | e => rdOut e st' impl_getNum.l0.outs) = impl_getNum.l0.F k (j + 1) x := by kernel_rfl
theorem impl_getNum.l0.ok (k : Nat) : SumOk Tryz.prog (impl_getNum.C k) (.loop (cO (cO (cR (cR (cR (cR (cB Tryz.f98)))))))) (impl_getNum.l0.s k) := sum_ok (by kernel_rfl) (sum_loop (p := .auto) (F := impl_getNum.l0.F k) (impl_getNum.cok k) (by kernel_rfl) (plan_of (L := []) (by kernel_rfl) trivial) (fun _ => rfl) (fun j x y h => (impl_getNum.l0.ev k j x).trans h) k rfl)
theorem impl_getNum.ev (k : Nat) (x : Prod' impl_getNum.sig.ins) : impl_getNum.sig.ev (impl_getNum.C k) (.two .auto (.two .auto (.two .auto (.two .auto (.one (.sum (impl_getNum.l0.s k))))))) Tryz.f98.results.toList (cB Tryz.f98) x = impl_getNum k x.1 x.2 := by kernel_rfl
theorem impl_getNum.ok (k : Nat) : ConOk Tryz.prog 98 (impl_getNum.con k) := sig_ok (p := (.two .auto (.two .auto (.two .auto (.two .auto (.one (.sum (impl_getNum.l0.s k)))))))) (impl_getNum.cok k) Tryz.func98 (by kernel_rfl) (show Tryz.f98.body = some (cB Tryz.f98) by kernel_rfl) (by kernel_rfl) (by kernel_rfl) (plan_of (L := [(impl_getNum.l0.s k, cO (cR (cR (cR (cR (cB Tryz.f98))))))]) (by kernel_rfl) ⟨impl_getNum.l0.ok k, trivial⟩) (fun x y h => (impl_getNum.ev k x).trans h)
def impl_getText (k : Nat) (a1 : Str) (a2 : Int) : Option (Str × Int × Int) :=
  Option.bind (impl_getNum k a1 a2) fun v3 =>
  bif v3.2.2 != 0 then
    some ([], 0, v3.2.2)
  else
  Option.bind (impl_within v3.1 0 8000) fun v4 =>
  bif !v4 then
    some ([], 0, 3)
  else
  bif decide ((IntKind.wrap .i64 (((a1.length) : Int) - v3.2.1)) < v3.1) then
    some ([], 0, 4)
  else
  let e5 := IntKind.wrap .i64 (v3.2.1 + v3.1)
  Option.bind (cut? a1 v3.2.1 e5) fun v6 =>
  some (v6, e5, 0)
def impl_getText.sig : Sig := { ps := [.val false .str (ros .str), .val false (.int .i64) (ros (.int .i64))], rs := [.val false [.v .str], .val false [.v (.int .i64)], .val false [.v (.int .i64)]], ntmps := 41 }
def impl_getText.con (k : Nat) : Con := impl_getText.sig.con (fun x => impl_getText k x.1 x.2)
def impl_getText.C (k : Nat) : Ctx := { ti := TAB, con := conL [(67, impl_within.con k), (98, impl_getNum.con k)] }
theorem impl_getText.cok (k : Nat) : CtxOk Tryz.prog (impl_getText.C k) := ctx_ok TABok ⟨impl_within.ok k, impl_getNum.ok k, trivial⟩
theorem impl_getText.ev (k : Nat) (x : Prod' impl_getText.sig.ins) : impl_getText.sig.ev (impl_getText.C k) .auto Tryz.f73.results.toList (cB Tryz.f73) x = impl_getText k x.1 x.2 := by kernel_rfl
theorem impl_getText.ok (k : Nat) : ConOk Tryz.prog 73 (impl_getText.con k) := sig_ok (p := .auto) (impl_getText.cok k) Tryz.func73 (by kernel_rfl) (show Tryz.f73.body = some (cB Tryz.f73) by kernel_rfl) (by kernel_rfl) (by kernel_rfl) (plan_of (L := []) (by kernel_rfl) trivial) (fun x y h => (impl_getText.ev k x).trans h)
def impl_unseal (k : Nat) (a1 : Str) : Option (Str × Int) :=
  bif decide (((a1.length) : Int) < 4) then
    some ([], 4)
  else
  Option.bind (cut? a1 0 (IntKind.wrap .i64 (((a1.length) : Int) - 4))) fun v2 =>
  Option.bind (impl_seal k v2) fun v3 =>
  bif !(v3 == a1) then
    some ([], 5)
  else
  some (v2, 0)
def impl_unseal.sig : Sig := { ps := [.val false .str (ros .str)], rs := [.val false [.v .str], .val false [.v (.int .i64)]], ntmps := 18 }
def impl_unseal.con (k : Nat) : Con := impl_unseal.sig.con (fun x => impl_unseal k x)
def impl_unseal.C (k : Nat) : Ctx := { ti := TAB, con := conL [(29, impl_seal.con k)] }
theorem impl_unseal.cok (k : Nat) : CtxOk Tryz.prog (impl_unseal.C k) := ctx_ok TABok ⟨impl_seal.ok k, trivial⟩
theorem impl_unseal.ev (k : Nat) (x : Prod' impl_unseal.sig.ins) : impl_unseal.sig.ev (impl_unseal.C k) .auto Tryz.f79.results.toList (cB Tryz.f79) x = impl_unseal k x := by kernel_rfl
theorem impl_unseal.ok (k : Nat) : ConOk Tryz.prog 79 (impl_unseal.con k) := sig_ok (p := .auto) (impl_unseal.cok k) Tryz.func79 (by kernel_rfl) (show Tryz.f79.body = some (cB Tryz.f79) by kernel_rfl) (by kernel_rfl) (by kernel_rfl) (plan_of (L := []) (by kernel_rfl) trivial) (fun x y h => (impl_unseal.ev k x).trans h)
def impl_reader_num (k : Nat) (a1 : G78) : Option (Int × Str × Int × Bool) :=
  Option.bind (impl_getNum k a1.1 a1.2.1) fun v2 =>
  bif v2.2.2 != 0 then
    some (0, a1.1, a1.2.1, true)
  else
  some (v2.1, a1.1, v2.2.1, a1.2.2)
def impl_reader_num.sig : Sig := { ps := [.ref 122 T78 (kept T78)], rs := [.val false [.v (.int .i64)]], ntmps := 29 }
def impl_reader_num.con (k : Nat) : Con := impl_reader_num.sig.con (fun x => impl_reader_num k x)
def impl_reader_num.C (k : Nat) : Ctx := { ti := TAB, con := conL [(98, impl_getNum.con k)] }
theorem impl_reader_num.cok (k : Nat) : CtxOk Tryz.prog (impl_reader_num.C k) := ctx_ok TABok ⟨impl_getNum.ok k, trivial⟩
theorem impl_reader_num.ev (k : Nat) (x : Prod' impl_reader_num.sig.ins) : impl_reader_num.sig.ev (impl_reader_num.C k) .auto Tryz.f80.results.toList (cB Tryz.f80) x = impl_reader_num k x := by kernel_rfl
theorem impl_reader_num.ok (k : Nat) : ConOk Tryz.prog 80 (impl_reader_num.con k) := sig_ok (p := .auto) (impl_reader_num.cok k) Tryz.func80 (by kernel_rfl) (show Tryz.f80.body = some (cB Tryz.f80) by kernel_rfl) (by kernel_rfl) (by kernel_rfl) (plan_of (L := []) (by kernel_rfl) trivial) (fun x y h => (impl_reader_num.ev k x).trans h)
def impl_reader_word (k : Nat) (a1 : G78) : Option (Str × Str × Int × Bool) :=
  Option.bind (impl_getText k a1.1 a1.2.1) fun v2 =>
  bif v2.2.2 != 0 then
    some ([], a1.1, a1.2.1, true)
  else
  some (v2.1, a1.1, v2.2.1, a1.2.2)
def impl_reader_word.sig : Sig := { ps := [.ref 122 T78 (kept T78)], rs := [.val false [.v .str]], ntmps := 29 }
def impl_reader_word.con (k : Nat) : Con := impl_reader_word.sig.con (fun x => impl_reader_word k x)
def impl_reader_word.C (k : Nat) : Ctx := { ti := TAB, con := conL [(73, impl_getText.con k)] }
theorem impl_reader_word.cok (k : Nat) : CtxOk Tryz.prog (impl_reader_word.C k) := ctx_ok TABok ⟨impl_getText.ok k, trivial⟩
theorem impl_reader_word.ev (k : Nat) (x : Prod' impl_reader_word.sig.ins) : impl_reader_word.sig.ev (impl_reader_word.C k) .auto Tryz.f81.results.toList (cB Tryz.f81) x = impl_reader_word k x := by kernel_rfl
theorem impl_reader_word.ok (k : Nat) : ConOk Tryz.prog 81 (impl_reader_word.con k) := sig_ok (p := .auto) (impl_reader_word.cok k) Tryz.func81 (by kernel_rfl) (show Tryz.f81.body = some (cB Tryz.f81) by kernel_rfl) (by kernel_rfl) (by kernel_rfl) (plan_of (L := []) (by kernel_rfl) trivial) (fun x y h => (impl_reader_word.ev k x).trans h)
end Go.Proofs.YtaajcllchbnjiaaGreatE
