/- What the law FnExactAgentNext needs, part 8 of 13: the Lean functions of the Go functions that it reaches, with the proofs that the calls come to what they say, and plain facts about them. Conditions: those that each theorem states. Written by a session and by its programs (after the kit's printer). -/
import Derived.Test.YtfbancgdmghnkaaGreatDoorXFnExactAgentNext6
namespace Go.Proofs.YtfbancgdmghnkaaGreatDoorE
open Go Go.RowKit
set_option linter.unusedVariables false
def Zab.l0 : Nat → Int → List Str → List Zld → Int → Option (Unit ⊕ Str)
 | 0, _, _, _, _ => none
 | j + 1, a1, a2, a3, a4 =>
  bif decide (a4 < ((a3.length) : Int)) then
   Option.bind (at? a3 a4) fun v5 =>
   bif v5.1 == a1 then
    Option.bind (at? a3 a4) fun v6 =>
    some (.inr (v6.2))
   else
   Zab.l0 j a1 a2 a3 (IntKind.wrap .i64 (a4 + 1))
  else
  some (.inl ())
def Zab (k : Nat) (a1 : G30) (a2 : Int) : Option (Str) :=
 Option.bind (Zab.l0 k a2 a1.1 a1.2 0) fun
  | .inl y3 =>
   Option.bind (at? a1.1 a2) fun v4 =>
   some v4
  | .inr y5 =>
   some y5
def Zab.sig : Sig := { ps := [.val true T30 (ros T30), .val false (.int .i64) (ros (.int .i64))], rs := [.val false [.v .str]], ntmps := 32 }
def Zab.con (k : Nat) : Con := Zab.sig.con (fun x => Zab k x.1 x.2)
def Zab.C (k : Nat) : Ctx := { ti := TAB, con := Zh [], rob := true }
theorem Zab.cok (k : Nat) : CtxOk Tryz.prog (Zab.C k) := Zj Zi trivial
def Zab.l0.ish : Shape := { tmps := [(1, .one (.v (.int .i64))), (2, .eptr [.bor .str, .bor Z7c]), (5, .one (.v (.int .i64)))], slots := [], nb := 0 }
def Zab.l0.outs : List (Ex × Shape) := [(.exit 0, { tmps := [], slots := [], nb := 0 }), (.ret, { tmps := [(4, .one (.v .str))], slots := [], nb := 0 })]
def Zab.l0.F (k j : Nat) (x : Za Zab.l0.ish.tys) : Option (Zy Zab.l0.outs) := Zab.l0 j x.1 x.2.1 x.2.2.1 x.2.2.2
def Zab.l0.s (k : Nat) : Summ := { n := 32, ish := Zab.l0.ish, outs := Zab.l0.outs, f := Zab.l0.F k k }
theorem Zab.l0.ev (k j : Nat) (x : Za Zab.l0.ish.tys) : V (Zab.C k) .auto (cO (cO (cR (cL (cR (cB Tryz.f65)))))) (mk Zab.l0.ish 32 x) (fun e st' => match e with | .nrm => (rd Zab.l0.ish st').bind (Zab.l0.F k j) | e => Z0 e st' Zab.l0.outs) = Zab.l0.F k (j + 1) x := by kernel_rfl
theorem Zab.l0.ok (k : Nat) : Z1 Tryz.prog (Zab.C k) (.loop (cO (cO (cR (cL (cR (cB Tryz.f65))))))) (Zab.l0.s k) := Z5 (by kernel_rfl) (sum_loop (p := .auto) (F := Zab.l0.F k) (Zab.cok k) (by kernel_rfl) (Zd (L := []) (by kernel_rfl) trivial) (fun _ => rfl) (fun j x y h => (Zab.l0.ev k j x).trans h) k rfl)
theorem Zab.ev (k : Nat) (x : Za Zab.sig.ins) : Zab.sig.ev (Zab.C k) (.two .auto (.two (.two .auto (.one (.sum (Zab.l0.s k)))) .auto)) Tryz.f65.results.toList (cB Tryz.f65) x = Zab k x.1 x.2 := by kernel_rfl
theorem Zab.ok (k : Nat) : Zf Tryz.prog 65 (Zab.con k) := Zk (p := (.two .auto (.two (.two .auto (.one (.sum (Zab.l0.s k)))) .auto))) (Zab.cok k) Tryz.func65 (by kernel_rfl) (show Tryz.f65.body = some (cB Tryz.f65) by kernel_rfl) (by kernel_rfl) (by kernel_rfl) (Zd (L := [(Zab.l0.s k, cO (cR (cL (cR (cB Tryz.f65)))))]) (by kernel_rfl) ⟨Zab.l0.ok k, trivial⟩) (fun x y h => (Zab.ev k x).trans h)
def Zve (a1 : Int) : Option (Str) :=
 Option.bind (Z6c 8) fun v2 =>
 Option.bind (Z6c 16) fun v3 =>
 Option.bind (Z6c 24) fun v4 =>
 some (Zbd [(IntKind.wrap .u8 a1), (IntKind.wrap .u8 (shr .i64 a1 8)), (IntKind.wrap .u8 (shr .i64 a1 16)), (IntKind.wrap .u8 (shr .i64 a1 24))])
def Zve.sig : Sig := { ps := [.val false (.int .i64) (ros (.int .i64))], rs := [.val false [.v .str]], ntmps := 16 }
def Zve.con (k : Nat) : Con := Zve.sig.con (fun x => Zve x)
def Zve.C (k : Nat) : Ctx := { ti := TAB, con := Zh [] }
theorem Zve.cok (k : Nat) : CtxOk Tryz.prog (Zve.C k) := Zj Zi trivial
theorem Zve.ev (k : Nat) (x : Za Zve.sig.ins) : Zve.sig.ev (Zve.C k) .auto Tryz.f158.results.toList (cB Tryz.f158) x = Zve x := by kernel_rfl
theorem Zve.ok (k : Nat) : Zf Tryz.prog 158 (Zve.con k) := Zk (p := .auto) (Zve.cok k) Tryz.func158 (by kernel_rfl) (show Tryz.f158.body = some (cB Tryz.f158) by kernel_rfl) (by kernel_rfl) (by kernel_rfl) (Zd (L := []) (by kernel_rfl) trivial) (fun x y h => (Zve.ev k x).trans h)
def Zv.l0 : Nat → Int → Int → Option (Int)
 | 0, _, _ => none
 | j + 1, a1, a2 =>
  bif decide (a2 < 8) then
   let e3 := IntKind.wrap .i64 (a2 + 1)
   bif (intBits .and .u32 a1 1) == 1 then
    Option.bind (Z6c 1) fun v4 =>
    Zv.l0 j (intBits .xor .u32 (shr .u32 a1 1) 3988292384) e3
   else
   Option.bind (Z6c 1) fun v5 =>
   Zv.l0 j (shr .u32 a1 1) e3
  else
  some a1
def Zv.l1 (k : Nat) : Nat → Str → Int → Int → Option (Int)
 | 0, _, _, _ => none
 | j + 1, a1, a2, a3 =>
  bif decide (a3 < ((a1.length) : Int)) then
   Option.bind (at? a1 a3) fun v4 =>
   Option.bind (Zv.l0 k (intBits .xor .u32 a2 (IntKind.wrap .u32 (v4.toNat : Int))) 0) fun y5 =>
   Zv.l1 k j a1 y5 (IntKind.wrap .i64 (a3 + 1))
  else
  some a2
def Zv (k : Nat) (a1 : Int) (a2 : Str) : Option (Int) :=
 Option.bind (Zv.l1 k k a2 (intBits .xor .u32 (IntKind.wrap .u32 a1) 4294967295) 0) fun y3 =>
 some (IntKind.wrap .i64 (intBits .xor .u32 y3 4294967295))
def Zv.sig : Sig := { ps := [.val false (.int .i64) (ros (.int .i64)), .val false .str (ros .str)], rs := [.val false [.v (.int .i64)]], ntmps := 38 }
def Zv.con (k : Nat) : Con := Zv.sig.con (fun x => Zv k x.1 x.2)
def Zv.C (k : Nat) : Ctx := { ti := TAB, con := Zh [] }
theorem Zv.cok (k : Nat) : CtxOk Tryz.prog (Zv.C k) := Zj Zi trivial
def Zv.l0.ish : Shape := { tmps := [(5, .one (.v (.int .u32))), (7, .one (.v (.int .i64)))], slots := [], nb := 0 }
def Zv.l0.outs : List (Ex × Shape) := [(.exit 2, { tmps := [(5, .one (.v (.int .u32)))], slots := [], nb := 0 })]
def Zv.l0.F (k j : Nat) (x : Za Zv.l0.ish.tys) : Option (Zy Zv.l0.outs) := Zv.l0 j x.1 x.2
def Zv.l0.s (k : Nat) : Summ := { n := 38, ish := Zv.l0.ish, outs := Zv.l0.outs, f := Zv.l0.F k k }
theorem Zv.l0.ev (k j : Nat) (x : Za Zv.l0.ish.tys) : V (Zv.C k) .auto (cO (cO (cR (cR (cO (cL (cR (cO (cO (cR (cL (cR (cR (cB Tryz.f159)))))))))))))) (mk Zv.l0.ish 38 x) (fun e st' => match e with | .nrm => (rd Zv.l0.ish st').bind (Zv.l0.F k j) | e => Z0 e st' Zv.l0.outs) = Zv.l0.F k (j + 1) x := by kernel_rfl
theorem Zv.l0.ok (k : Nat) : Z1 Tryz.prog (Zv.C k) (.loop (cO (cO (cR (cR (cO (cL (cR (cO (cO (cR (cL (cR (cR (cB Tryz.f159))))))))))))))) (Zv.l0.s k) := Z5 (by kernel_rfl) (sum_loop (p := .auto) (F := Zv.l0.F k) (Zv.cok k) (by kernel_rfl) (Zd (L := []) (by kernel_rfl) trivial) (fun _ => rfl) (fun j x y h => (Zv.l0.ev k j x).trans h) k rfl)
def Zv.l1.ish : Shape := { tmps := [(1, .one (.v .str)), (5, .one (.v (.int .u32))), (6, .one (.v (.int .i64)))], slots := [], nb := 0 }
def Zv.l1.outs : List (Ex × Shape) := [(.exit 0, { tmps := [(5, .one (.v (.int .u32)))], slots := [], nb := 0 })]
def Zv.l1.F (k j : Nat) (x : Za Zv.l1.ish.tys) : Option (Zy Zv.l1.outs) := Zv.l1 k j x.1 x.2.1 x.2.2
def Zv.l1.s (k : Nat) : Summ := { n := 38, ish := Zv.l1.ish, outs := Zv.l1.outs, f := Zv.l1.F k k }
theorem Zv.l1.ev (k j : Nat) (x : Za Zv.l1.ish.tys) : V (Zv.C k) (.two .auto (.two (.one (.two .auto (.two .auto (.one (.sum (Zv.l0.s k)))))) .auto)) (cO (cO (cR (cL (cR (cR (cB Tryz.f159))))))) (mk Zv.l1.ish 38 x) (fun e st' => match e with | .nrm => (rd Zv.l1.ish st').bind (Zv.l1.F k j) | e => Z0 e st' Zv.l1.outs) = Zv.l1.F k (j + 1) x := by kernel_rfl
theorem Zv.l1.ok (k : Nat) : Z1 Tryz.prog (Zv.C k) (.loop (cO (cO (cR (cL (cR (cR (cB Tryz.f159)))))))) (Zv.l1.s k) := Z5 (by kernel_rfl) (sum_loop (p := (.two .auto (.two (.one (.two .auto (.two .auto (.one (.sum (Zv.l0.s k)))))) .auto))) (F := Zv.l1.F k) (Zv.cok k) (by kernel_rfl) (Zd (L := [(Zv.l0.s k, cO (cR (cR (cO (cL (cR (cO (cO (cR (cL (cR (cR (cB Tryz.f159)))))))))))))]) (by kernel_rfl) ⟨Zv.l0.ok k, trivial⟩) (fun _ => rfl) (fun j x y h => (Zv.l1.ev k j x).trans h) k rfl)
theorem Zv.ev (k : Nat) (x : Za Zv.sig.ins) : Zv.sig.ev (Zv.C k) (.two .auto (.two .auto (.two (.two .auto (.one (.sum (Zv.l1.s k)))) .auto))) Tryz.f159.results.toList (cB Tryz.f159) x = Zv k x.1 x.2 := by kernel_rfl
theorem Zv.ok (k : Nat) : Zf Tryz.prog 159 (Zv.con k) := Zk (p := (.two .auto (.two .auto (.two (.two .auto (.one (.sum (Zv.l1.s k)))) .auto)))) (Zv.cok k) Tryz.func159 (by kernel_rfl) (show Tryz.f159.body = some (cB Tryz.f159) by kernel_rfl) (by kernel_rfl) (by kernel_rfl) (Zd (L := [(Zv.l1.s k, cO (cR (cL (cR (cR (cB Tryz.f159))))))]) (by kernel_rfl) ⟨Zv.l1.ok k, trivial⟩) (fun x y h => (Zv.ev k x).trans h)
def Z2e (k : Nat) (a1 : Str) : Option (Str × Int × Int) :=
 bif decide (8000 < ((a1.length) : Int)) then
  some ([], 0, 2)
 else
 bif decide (((a1.length) : Int) < 4) then
  some ([], 0, 4)
 else
 let e2 := IntKind.wrap .i64 (((a1.length) : Int) - 4)
 Option.bind (Zkd a1 0 e2) fun v3 =>
 Option.bind (Zv k 0 v3) fun v4 =>
 Option.bind (Zve v4) fun v5 =>
 Option.bind (Zkd a1 e2 ((a1.length) : Int)) fun v6 =>
 bif !(v5 == v6) then
  some ([], 0, 5)
 else
 some (v3, 0, 0)
def Z2e.sig : Sig := { ps := [.val false .str (ros .str)], rs := [.val true [.v .str, .v (.int .i64), .v (.int .i64)]], ntmps := 29 }
def Z2e.con (k : Nat) : Con := Z2e.sig.con (fun x => Z2e k x)
def Z2e.C (k : Nat) : Ctx := { ti := TAB, con := Zh [(158, Zve.con k), (159, Zv.con k)] }
theorem Z2e.cok (k : Nat) : CtxOk Tryz.prog (Z2e.C k) := Zj Zi ⟨Zve.ok k, Zv.ok k, trivial⟩
theorem Z2e.ev (k : Nat) (x : Za Z2e.sig.ins) : Z2e.sig.ev (Z2e.C k) .auto Tryz.f132.results.toList (cB Tryz.f132) x = Z2e k x := by kernel_rfl
theorem Z2e.ok (k : Nat) : Zf Tryz.prog 132 (Z2e.con k) := Zk (p := .auto) (Z2e.cok k) Tryz.func132 (by kernel_rfl) (show Tryz.f132.body = some (cB Tryz.f132) by kernel_rfl) (by kernel_rfl) (by kernel_rfl) (Zd (L := []) (by kernel_rfl) trivial) (fun x y h => (Z2e.ev k x).trans h)
def Zkb.l0 : Nat → Str → Int → Int → Int → Int → Int → Int → Option ((Int × Int × Int) ⊕ (Int × Int × Int))
 | 0, _, _, _, _, _, _, _ => none
 | j + 1, a1, a2, a3, a4, a5, a6, a7 =>
  bif decide (a4 < 10) then
   bif decide ((IntKind.wrap .i64 (((a1.length) : Int) - a4)) ≤ a2) then
    some (.inr (0, 0, 4))
   else
   let e8 := IntKind.wrap .i64 (a2 + a4)
   Option.bind (at? a1 e8) fun v9 =>
   bif (a4 == 9) && (decide (1 < (IntKind.wrap .u64 (v9.toNat : Int)))) then
    some (.inr (0, 0, 3))
   else
   Option.bind (nz? 128) fun v10 =>
   let e11 := IntKind.wrap .u64 (IntKind.wrap .i64 (7 * a4))
   Option.bind (Z6c e11) fun v12 =>
   let e13 := IntKind.wrap .u64 (a3 + (shl .u64 (Int.tmod (IntKind.wrap .u64 (v9.toNat : Int)) 128) e11))
   bif decide ((IntKind.wrap .u64 (v9.toNat : Int)) < 128) then
    bif ((IntKind.wrap .u64 (v9.toNat : Int)) == 0) && (decide (0 < a4)) then
     some (.inr (0, 0, 3))
    else
    Option.bind (nz? 2) fun v14 =>
    Option.bind (nz? 2) fun v15 =>
    let e16 := IntKind.wrap .i64 (e8 + 1)
    let e17 := IntKind.wrap .i64 (IntKind.wrap .u64 (Int.tdiv e13 2))
    bif (Int.tmod e13 2) == 1 then
     some (.inr (IntKind.wrap .i64 ((IntKind.wrap .i64 (0 - e17)) - 1), e16, 0))
    else
    some (.inr (e17, e16, 0))
   else
   Zkb.l0 j a1 a2 e13 (IntKind.wrap .i64 (a4 + 1)) a5 a6 a7
  else
  some (.inl (a5, a6, a7))
def Zkb (k : Nat) (a1 : Str) (a2 : Int) : Option (Int × Int × Int) :=
 bif decide (8000 < ((a1.length) : Int)) then
  some (0, 0, 2)
 else
 bif decide (a2 < 0) then
  some (0, 0, 1)
 else
 Option.bind (Zkb.l0 k a1 a2 0 0 0 0 0) fun
  | .inl y3 =>
   some (0, 0, 3)
  | .inr y4 =>
   some (y4.1, y4.2.1, y4.2.2)
def Zkb.sig : Sig := { ps := [.val false .str (ros .str), .val false (.int .i64) (ros (.int .i64))], rs := [.val true [.v (.int .i64), .v (.int .i64), .v (.int .i64)]], ntmps := 73 }
def Zkb.con (k : Nat) : Con := Zkb.sig.con (fun x => Zkb k x.1 x.2)
def Zkb.C (k : Nat) : Ctx := { ti := TAB, con := Zh [] }
theorem Zkb.cok (k : Nat) : CtxOk Tryz.prog (Zkb.C k) := Zj Zi trivial
def Zkb.l0.ish : Shape := { tmps := [(0, .one (.v .str)), (1, .one (.v (.int .i64))), (4, .one (.ptr 0 0)), (5, .one (.v (.int .u64))), (6, .one (.v (.int .i64)))], slots := [(0, .box 184 [.v (.int .i64), .v (.int .i64), .v (.int .i64)])], nb := 1 }
def Zkb.l0.outs : List (Ex × Shape) := [(.exit 0, { tmps := [], slots := [(0, .box 184 [.v (.int .i64), .v (.int .i64), .v (.int .i64)])], nb := 1 }), (.ret, { tmps := [], slots := [(0, .box 184 [.v (.int .i64), .v (.int .i64), .v (.int .i64)])], nb := 1 })]
def Zkb.l0.F (k j : Nat) (x : Za Zkb.l0.ish.tys) : Option (Zy Zkb.l0.outs) := Zkb.l0 j x.1 x.2.1 x.2.2.1 x.2.2.2.1 x.2.2.2.2.1 x.2.2.2.2.2.1 x.2.2.2.2.2.2
def Zkb.l0.s (k : Nat) : Summ := { n := 73, ish := Zkb.l0.ish, outs := Zkb.l0.outs, f := Zkb.l0.F k k }
theorem Zkb.l0.ev (k j : Nat) (x : Za Zkb.l0.ish.tys) : V (Zkb.C k) .auto (cO (cO (cR (cL (cR (cR (cR (cR (cB Tryz.f133))))))))) (mk Zkb.l0.ish 73 x) (fun e st' => match e with | .nrm => (rd Zkb.l0.ish st').bind (Zkb.l0.F k j) | e => Z0 e st' Zkb.l0.outs) = Zkb.l0.F k (j + 1) x := by kernel_rfl
theorem Zkb.l0.ok (k : Nat) : Z1 Tryz.prog (Zkb.C k) (.loop (cO (cO (cR (cL (cR (cR (cR (cR (cB Tryz.f133)))))))))) (Zkb.l0.s k) := Z5 (by kernel_rfl) (sum_loop (p := .auto) (F := Zkb.l0.F k) (Zkb.cok k) (by kernel_rfl) (Zd (L := []) (by kernel_rfl) trivial) (fun _ => rfl) (fun j x y h => (Zkb.l0.ev k j x).trans h) k rfl)
theorem Zkb.ev (k : Nat) (x : Za Zkb.sig.ins) : Zkb.sig.ev (Zkb.C k) (.two .auto (.two .auto (.two .auto (.two .auto (.two (.two .auto (.one (.sum (Zkb.l0.s k)))) .auto))))) Tryz.f133.results.toList (cB Tryz.f133) x = Zkb k x.1 x.2 := by kernel_rfl
theorem Zkb.ok (k : Nat) : Zf Tryz.prog 133 (Zkb.con k) := Zk (p := (.two .auto (.two .auto (.two .auto (.two .auto (.two (.two .auto (.one (.sum (Zkb.l0.s k)))) .auto)))))) (Zkb.cok k) Tryz.func133 (by kernel_rfl) (show Tryz.f133.body = some (cB Tryz.f133) by kernel_rfl) (by kernel_rfl) (by kernel_rfl) (Zd (L := [(Zkb.l0.s k, cO (cR (cL (cR (cR (cR (cR (cB Tryz.f133))))))))]) (by kernel_rfl) ⟨Zkb.l0.ok k, trivial⟩) (fun x y h => (Zkb.ev k x).trans h)
def Zne (k : Nat) (a1 : Str) (a2 : Int) : Option (Str × Int × Int) :=
 Option.bind (Zkb k a1 a2) fun v3 =>
 bif v3.2.2 != 0 then
  some ([], 0, v3.2.2)
 else
 bif (decide (v3.1 < 0)) || (decide (8000 < v3.1)) then
  some ([], 0, 3)
 else
 bif decide ((IntKind.wrap .i64 (((a1.length) : Int) - v3.1)) < v3.2.1) then
  some ([], 0, 4)
 else
 let e4 := IntKind.wrap .i64 (v3.2.1 + v3.1)
 Option.bind (Zkd a1 v3.2.1 e4) fun v5 =>
 some (v5, e4, 0)
def Zne.sig : Sig := { ps := [.val false .str (ros .str), .val false (.int .i64) (ros (.int .i64))], rs := [.val true [.v .str, .v (.int .i64), .v (.int .i64)]], ntmps := 48 }
def Zne.con (k : Nat) : Con := Zne.sig.con (fun x => Zne k x.1 x.2)
def Zne.C (k : Nat) : Ctx := { ti := TAB, con := Zh [(133, Zkb.con k)] }
theorem Zne.cok (k : Nat) : CtxOk Tryz.prog (Zne.C k) := Zj Zi ⟨Zkb.ok k, trivial⟩
theorem Zne.ev (k : Nat) (x : Za Zne.sig.ins) : Zne.sig.ev (Zne.C k) .auto Tryz.f134.results.toList (cB Tryz.f134) x = Zne k x.1 x.2 := by kernel_rfl
theorem Zne.ok (k : Nat) : Zf Tryz.prog 134 (Zne.con k) := Zk (p := .auto) (Zne.cok k) Tryz.func134 (by kernel_rfl) (show Tryz.f134.body = some (cB Tryz.f134) by kernel_rfl) (by kernel_rfl) (by kernel_rfl) (Zd (L := []) (by kernel_rfl) trivial) (fun x y h => (Zne.ev k x).trans h)
def Zre (k : Nat) (a1 : Str) : Option (Str) :=
 bif decide (7996 < ((a1.length) : Int)) then
  some ([])
 else
 Option.bind (Zv k 0 a1) fun v2 =>
 Option.bind (Zve v2) fun v3 =>
 Option.bind (Z6e a1 v3) fun v4 =>
 some v4
def Zre.sig : Sig := { ps := [.val false .str (ros .str)], rs := [.val false [.v .str]], ntmps := 11 }
def Zre.con (k : Nat) : Con := Zre.sig.con (fun x => Zre k x)
def Zre.C (k : Nat) : Ctx := { ti := TAB, con := Zh [(158, Zve.con k), (159, Zv.con k)] }
theorem Zre.cok (k : Nat) : CtxOk Tryz.prog (Zre.C k) := Zj Zi ⟨Zve.ok k, Zv.ok k, trivial⟩
theorem Zre.ev (k : Nat) (x : Za Zre.sig.ins) : Zre.sig.ev (Zre.C k) .auto Tryz.f160.results.toList (cB Tryz.f160) x = Zre k x := by kernel_rfl
theorem Zre.ok (k : Nat) : Zf Tryz.prog 160 (Zre.con k) := Zk (p := .auto) (Zre.cok k) Tryz.func160 (by kernel_rfl) (show Tryz.f160.body = some (cB Tryz.f160) by kernel_rfl) (by kernel_rfl) (by kernel_rfl) (Zd (L := []) (by kernel_rfl) trivial) (fun x y h => (Zre.ev k x).trans h)
def Z0g (a1 : Int) : Option (Int) :=
 bif decide (a1 < 0) then
  some (IntKind.wrap .u64 ((IntKind.wrap .u64 (2 * (IntKind.wrap .u64 (IntKind.wrap .i64 (0 - (IntKind.wrap .i64 (a1 + 1))))))) + 1))
 else
 some (IntKind.wrap .u64 (2 * (IntKind.wrap .u64 a1)))
def Z0g.sig : Sig := { ps := [.val false (.int .i64) (ros (.int .i64))], rs := [.val false [.v (.int .u64)]], ntmps := 14 }
def Z0g.con (k : Nat) : Con := Z0g.sig.con (fun x => Z0g x)
def Z0g.C (k : Nat) : Ctx := { ti := TAB, con := Zh [] }
theorem Z0g.cok (k : Nat) : CtxOk Tryz.prog (Z0g.C k) := Zj Zi trivial
theorem Z0g.ev (k : Nat) (x : Za Z0g.sig.ins) : Z0g.sig.ev (Z0g.C k) .auto Tryz.f178.results.toList (cB Tryz.f178) x = Z0g x := by kernel_rfl
theorem Z0g.ok (k : Nat) : Zf Tryz.prog 178 (Z0g.con k) := Zk (p := .auto) (Z0g.cok k) Tryz.func178 (by kernel_rfl) (show Tryz.f178.body = some (cB Tryz.f178) by kernel_rfl) (by kernel_rfl) (by kernel_rfl) (Zd (L := []) (by kernel_rfl) trivial) (fun x y h => (Z0g.ev k x).trans h)
def Z7.l0 : Nat → Int → List Int → Option ((Int × List Int))
 | 0, _, _ => none
 | j + 1, a1, a2 =>
  bif decide (128 ≤ a1) then
   Option.bind (nz? 128) fun v3 =>
   Option.bind (Z2d 1 a2 [(IntKind.wrap .u8 (IntKind.wrap .u64 ((Int.tmod a1 128) + 128)))]) fun v4 =>
   Option.bind (nz? 128) fun v5 =>
   Z7.l0 j (IntKind.wrap .u64 (Int.tdiv a1 128)) v4
  else
  some (a1, a2)
def Z7 (k : Nat) (a1 : Int) : Option (Str) :=
 Option.bind (Z0g a1) fun v2 =>
 Option.bind (Z7.l0 k v2 []) fun y3 =>
 Option.bind (Z2d 1 y3.2 [(IntKind.wrap .u8 y3.1)]) fun v4 =>
 some (Zbd v4)
def Z7.sig : Sig := { ps := [.val false (.int .i64) (ros (.int .i64))], rs := [.val false [.v .str]], ntmps := 25 }
def Z7.con (k : Nat) : Con := Z7.sig.con (fun x => Z7 k x)
def Z7.C (k : Nat) : Ctx := { ti := TAB, con := Zh [(178, Z0g.con k)] }
theorem Z7.cok (k : Nat) : CtxOk Tryz.prog (Z7.C k) := Zj Zi ⟨Z0g.ok k, trivial⟩
def Z7.l0.ish : Shape := { tmps := [(3, .one (.v (.int .u64))), (4, .one (.own 1))], slots := [(1, .arr false 5 (.int .u8))], nb := 2 }
def Z7.l0.outs : List (Ex × Shape) := [(.exit 0, { tmps := [(3, .one (.v (.int .u64))), (4, .one (.own 2))], slots := [(2, .arr false 5 (.int .u8))], nb := 3 })]
def Z7.l0.F (k j : Nat) (x : Za Z7.l0.ish.tys) : Option (Zy Z7.l0.outs) := Z7.l0 j x.1 x.2
def Z7.l0.s (k : Nat) : Summ := { n := 25, ish := Z7.l0.ish, outs := Z7.l0.outs, f := Z7.l0.F k k }
theorem Z7.l0.ev (k j : Nat) (x : Za Z7.l0.ish.tys) : V (Z7.C k) .auto (cO (cO (cL (cR (cR (cR (cB Tryz.f161))))))) (mk Z7.l0.ish 25 x) (fun e st' => match e with | .nrm => (rd Z7.l0.ish st').bind (Z7.l0.F k j) | e => Z0 e st' Z7.l0.outs) = Z7.l0.F k (j + 1) x := by kernel_rfl
theorem Z7.l0.ok (k : Nat) : Z1 Tryz.prog (Z7.C k) (.loop (cO (cO (cL (cR (cR (cR (cB Tryz.f161)))))))) (Z7.l0.s k) := Z5 (by kernel_rfl) (sum_loop (p := .auto) (F := Z7.l0.F k) (Z7.cok k) (by kernel_rfl) (Zd (L := []) (by kernel_rfl) trivial) (fun _ => rfl) (fun j x y h => (Z7.l0.ev k j x).trans h) k rfl)
theorem Z7.ev (k : Nat) (x : Za Z7.sig.ins) : Z7.sig.ev (Z7.C k) (.two .auto (.two .auto (.two .auto (.two (.one (.sum (Z7.l0.s k))) .auto)))) Tryz.f161.results.toList (cB Tryz.f161) x = Z7 k x := by kernel_rfl
theorem Z7.ok (k : Nat) : Zf Tryz.prog 161 (Z7.con k) := Zk (p := (.two .auto (.two .auto (.two .auto (.two (.one (.sum (Z7.l0.s k))) .auto))))) (Z7.cok k) Tryz.func161 (by kernel_rfl) (show Tryz.f161.body = some (cB Tryz.f161) by kernel_rfl) (by kernel_rfl) (by kernel_rfl) (Zd (L := [(Z7.l0.s k, cO (cL (cR (cR (cR (cB Tryz.f161))))))]) (by kernel_rfl) ⟨Z7.l0.ok k, trivial⟩) (fun x y h => (Z7.ev k x).trans h)
def Z6d (k : Nat) (a1 : Str) : Option (Str) :=
 bif decide (8000 < ((a1.length) : Int)) then
  some ([])
 else
 Option.bind (Z7 k ((a1.length) : Int)) fun v2 =>
 Option.bind (Z6e v2 a1) fun v3 =>
 some v3
def Z6d.sig : Sig := { ps := [.val false .str (ros .str)], rs := [.val false [.v .str]], ntmps := 11 }
def Z6d.con (k : Nat) : Con := Z6d.sig.con (fun x => Z6d k x)
def Z6d.C (k : Nat) : Ctx := { ti := TAB, con := Zh [(161, Z7.con k)] }
theorem Z6d.cok (k : Nat) : CtxOk Tryz.prog (Z6d.C k) := Zj Zi ⟨Z7.ok k, trivial⟩
theorem Z6d.ev (k : Nat) (x : Za Z6d.sig.ins) : Z6d.sig.ev (Z6d.C k) .auto Tryz.f162.results.toList (cB Tryz.f162) x = Z6d k x := by kernel_rfl
theorem Z6d.ok (k : Nat) : Zf Tryz.prog 162 (Z6d.con k) := Zk (p := .auto) (Z6d.cok k) Tryz.func162 (by kernel_rfl) (show Tryz.f162.body = some (cB Tryz.f162) by kernel_rfl) (by kernel_rfl) (by kernel_rfl) (Zd (L := []) (by kernel_rfl) trivial) (fun x y h => (Z6d.ev k x).trans h)
def Zjf (k : Nat) (a1 : Int) (a2 : Str) : Option (Str) :=
 Option.bind (Znb a1 1 1000000) fun v3 =>
 bif (!v3) || (decide (80 < ((a2.length) : Int))) then
  some ([])
 else
 Option.bind (Z7 k a1) fun v4 =>
 Option.bind (Z6d k a2) fun v5 =>
 Option.bind (Z6e v4 v5) fun v6 =>
 Option.bind (Zre k v6) fun v7 =>
 some v7
def Zjf.sig : Sig := { ps := [.val false (.int .i64) (ros (.int .i64)), .val false .str (ros .str)], rs := [.val false [.v .str]], ntmps := 19 }
def Zjf.con (k : Nat) : Con := Zjf.sig.con (fun x => Zjf k x.1 x.2)
def Zjf.C (k : Nat) : Ctx := { ti := TAB, con := Zh [(59, Znb.con k), (160, Zre.con k), (161, Z7.con k), (162, Z6d.con k)] }
theorem Zjf.cok (k : Nat) : CtxOk Tryz.prog (Zjf.C k) := Zj Zi ⟨Znb.ok k, Zre.ok k, Z7.ok k, Z6d.ok k, trivial⟩
theorem Zjf.ev (k : Nat) (x : Za Zjf.sig.ins) : Zjf.sig.ev (Zjf.C k) .auto Tryz.f135.results.toList (cB Tryz.f135) x = Zjf k x.1 x.2 := by kernel_rfl
theorem Zjf.ok (k : Nat) : Zf Tryz.prog 135 (Zjf.con k) := Zk (p := .auto) (Zjf.cok k) Tryz.func135 (by kernel_rfl) (show Tryz.f135.body = some (cB Tryz.f135) by kernel_rfl) (by kernel_rfl) (by kernel_rfl) (Zd (L := []) (by kernel_rfl) trivial) (fun x y h => (Zjf.ev k x).trans h)
def Zle (k : Nat) (a1 : Str) : Option (Int × Str × Int) :=
 Option.bind (Z2e k a1) fun v2 =>
 bif v2.2.2 != 0 then
  some (0, [], v2.2.2)
 else
 Option.bind (Zkb k v2.1 0) fun v3 =>
 Option.bind (Zne k v2.1 v3.2.1) fun v4 =>
 bif (v3.2.2 != 0) || (v4.2.2 != 0) then
  some (0, [], 3)
 else
 Option.bind (Zjf k v3.1 v4.1) fun v5 =>
 bif !(v5 == a1) then
  some (0, [], 3)
 else
 some (v3.1, v4.1, 0)
def Zle.sig : Sig := { ps := [.val false .str (ros .str)], rs := [.val true [.v (.int .i64), .v .str, .v (.int .i64)]], ntmps := 45 }
def Zle.con (k : Nat) : Con := Zle.sig.con (fun x => Zle k x)
def Zle.C (k : Nat) : Ctx := { ti := TAB, con := Zh [(132, Z2e.con k), (133, Zkb.con k), (134, Zne.con k), (135, Zjf.con k)] }
theorem Zle.cok (k : Nat) : CtxOk Tryz.prog (Zle.C k) := Zj Zi ⟨Z2e.ok k, Zkb.ok k, Zne.ok k, Zjf.ok k, trivial⟩
theorem Zle.ev (k : Nat) (x : Za Zle.sig.ins) : Zle.sig.ev (Zle.C k) .auto Tryz.f98.results.toList (cB Tryz.f98) x = Zle k x := by kernel_rfl
theorem Zle.ok (k : Nat) : Zf Tryz.prog 98 (Zle.con k) := Zk (p := .auto) (Zle.cok k) Tryz.func98 (by kernel_rfl) (show Tryz.f98.body = some (cB Tryz.f98) by kernel_rfl) (by kernel_rfl) (by kernel_rfl) (Zd (L := []) (by kernel_rfl) trivial) (fun x y h => (Zle.ev k x).trans h)
def Z4g (k : Nat) (a1 : G30) : Option (Int × Str × Int × Int) :=
 Option.bind (Zab k a1 0) fun v2 =>
 Option.bind (Zle k v2) fun v3 =>
 Option.bind (Zab k a1 1) fun v4 =>
 Option.bind (Zle k v4) fun v5 =>
 bif (v3.2.2 == 0) && ((v5.2.2 != 0) || (decide (v5.1 ≤ v3.1))) then
  some (v3.1, v3.2.1, v3.2.2, 0)
 else
 bif v5.2.2 == 0 then
  some (v5.1, v5.2.1, v5.2.2, 1)
 else
 some (0, [], 6, (-1))
def Z4g.sig : Sig := { ps := [.val true T30 (ros T30)], rs := [.val true [.v (.int .i64), .v .str, .v (.int .i64)], .val false [.v (.int .i64)]], ntmps := 35 }
def Z4g.con (k : Nat) : Con := Z4g.sig.con (fun x => Z4g k x)
def Z4g.C (k : Nat) : Ctx := { ti := TAB, con := Zh [(65, Zab.con k), (98, Zle.con k)], rob := true }
theorem Z4g.cok (k : Nat) : CtxOk Tryz.prog (Z4g.C k) := Zj Zi ⟨Zab.ok k, Zle.ok k, trivial⟩
theorem Z4g.ev (k : Nat) (x : Za Z4g.sig.ins) : Z4g.sig.ev (Z4g.C k) .auto Tryz.f63.results.toList (cB Tryz.f63) x = Z4g k x := by kernel_rfl
theorem Z4g.ok (k : Nat) : Zf Tryz.prog 63 (Z4g.con k) := Zk (p := .auto) (Z4g.cok k) Tryz.func63 (by kernel_rfl) (show Tryz.f63.body = some (cB Tryz.f63) by kernel_rfl) (by kernel_rfl) (by kernel_rfl) (Zd (L := []) (by kernel_rfl) trivial) (fun x y h => (Z4g.ev k x).trans h)
def Z1c (k : Nat) (a1 : Zer) : Option (Int × Str × Int × Bool) :=
 Option.bind (Zkb k a1.1 a1.2.1) fun v2 =>
 bif a1.2.2 || (v2.2.2 != 0) then
  some (0, a1.1, a1.2.1, true)
 else
 some (v2.1, a1.1, v2.2.1, a1.2.2)
def Z1c.sig : Sig := { ps := [.ref 144 Zak (Z7i Zak)], rs := [.val false [.v (.int .i64)]], ntmps := 32 }
def Z1c.con (k : Nat) : Con := Z1c.sig.con (fun x => Z1c k x)
def Z1c.C (k : Nat) : Ctx := { ti := TAB, con := Zh [(133, Zkb.con k)] }
theorem Z1c.cok (k : Nat) : CtxOk Tryz.prog (Z1c.C k) := Zj Zi ⟨Zkb.ok k, trivial⟩
theorem Z1c.ev (k : Nat) (x : Za Z1c.sig.ins) : Z1c.sig.ev (Z1c.C k) .auto Tryz.f99.results.toList (cB Tryz.f99) x = Z1c k x := by kernel_rfl
theorem Z1c.ok (k : Nat) : Zf Tryz.prog 99 (Z1c.con k) := Zk (p := .auto) (Z1c.cok k) Tryz.func99 (by kernel_rfl) (show Tryz.f99.body = some (cB Tryz.f99) by kernel_rfl) (by kernel_rfl) (by kernel_rfl) (Zd (L := []) (by kernel_rfl) trivial) (fun x y h => (Z1c.ev k x).trans h)
def Zqb.l0 : Nat → Int → Int → List Int → Option ((List Int))
 | 0, _, _, _ => none
 | j + 1, a1, a2, a3 =>
  bif decide (a2 < 24) then
   Option.bind (Z6c a2) fun v4 =>
   let e5 := IntKind.wrap .i64 (a2 + 1)
   bif (intBits .and .i64 (shr .i64 a1 a2) 1) == 1 then
    Option.bind (Z2d 8 a3 [a2]) fun v6 =>
    Zqb.l0 j a1 e5 v6
   else
   Zqb.l0 j a1 e5 a3
  else
  some a3
def Zqb (k : Nat) (a1 : Int) : Option (List Int) :=
 bif (decide (a1 < 0)) || (decide (16777216 ≤ a1)) then
  some ([])
 else
 Option.bind (Zqb.l0 k a1 0 []) fun y2 =>
 some y2
def Zqb.sig : Sig := { ps := [.val false (.int .i64) (ros (.int .i64))], rs := [.val false [.own 2 (.int .i64)]], ntmps := 27 }
def Zqb.con (k : Nat) : Con := Zqb.sig.con (fun x => Zqb k x)
def Zqb.C (k : Nat) : Ctx := { ti := TAB, con := Zh [] }
theorem Zqb.cok (k : Nat) : CtxOk Tryz.prog (Zqb.C k) := Zj Zi trivial
def Zqb.l0.ish : Shape := { tmps := [(0, .one (.v (.int .i64))), (3, .one (.own 1)), (4, .one (.v (.int .i64)))], slots := [(1, .arr false 2 (.int .i64))], nb := 2 }
def Zqb.l0.outs : List (Ex × Shape) := [(.exit 0, { tmps := [(3, .one (.own 2))], slots := [(2, .arr false 2 (.int .i64))], nb := 3 })]
def Zqb.l0.F (k j : Nat) (x : Za Zqb.l0.ish.tys) : Option (Zy Zqb.l0.outs) := Zqb.l0 j x.1 x.2.1 x.2.2
def Zqb.l0.s (k : Nat) : Summ := { n := 27, ish := Zqb.l0.ish, outs := Zqb.l0.outs, f := Zqb.l0.F k k }
theorem Zqb.l0.ev (k j : Nat) (x : Za Zqb.l0.ish.tys) : V (Zqb.C k) .auto (cO (cO (cR (cL (cR (cR (cR (cB Tryz.f100)))))))) (mk Zqb.l0.ish 27 x) (fun e st' => match e with | .nrm => (rd Zqb.l0.ish st').bind (Zqb.l0.F k j) | e => Z0 e st' Zqb.l0.outs) = Zqb.l0.F k (j + 1) x := by kernel_rfl
theorem Zqb.l0.ok (k : Nat) : Z1 Tryz.prog (Zqb.C k) (.loop (cO (cO (cR (cL (cR (cR (cR (cB Tryz.f100))))))))) (Zqb.l0.s k) := Z5 (by kernel_rfl) (sum_loop (p := .auto) (F := Zqb.l0.F k) (Zqb.cok k) (by kernel_rfl) (Zd (L := []) (by kernel_rfl) trivial) (fun _ => rfl) (fun j x y h => (Zqb.l0.ev k j x).trans h) k rfl)
theorem Zqb.ev (k : Nat) (x : Za Zqb.sig.ins) : Zqb.sig.ev (Zqb.C k) (.two .auto (.two .auto (.two .auto (.two (.two .auto (.one (.sum (Zqb.l0.s k)))) .auto)))) Tryz.f100.results.toList (cB Tryz.f100) x = Zqb k x := by kernel_rfl
theorem Zqb.ok (k : Nat) : Zf Tryz.prog 100 (Zqb.con k) := Zk (p := (.two .auto (.two .auto (.two .auto (.two (.two .auto (.one (.sum (Zqb.l0.s k)))) .auto))))) (Zqb.cok k) Tryz.func100 (by kernel_rfl) (show Tryz.f100.body = some (cB Tryz.f100) by kernel_rfl) (by kernel_rfl) (by kernel_rfl) (Zd (L := [(Zqb.l0.s k, cO (cR (cL (cR (cR (cR (cB Tryz.f100)))))))]) (by kernel_rfl) ⟨Zqb.l0.ok k, trivial⟩) (fun x y h => (Zqb.ev k x).trans h)
def Z5d (k : Nat) (a1 : Zer) : Option (Str × Str × Int × Bool) :=
 Option.bind (Zne k a1.1 a1.2.1) fun v2 =>
 bif a1.2.2 || (v2.2.2 != 0) then
  some ([], a1.1, a1.2.1, true)
 else
 some (v2.1, a1.1, v2.2.1, a1.2.2)
def Z5d.sig : Sig := { ps := [.ref 144 Zak (Z7i Zak)], rs := [.val false [.v .str]], ntmps := 32 }
def Z5d.con (k : Nat) : Con := Z5d.sig.con (fun x => Z5d k x)
def Z5d.C (k : Nat) : Ctx := { ti := TAB, con := Zh [(134, Zne.con k)] }
theorem Z5d.cok (k : Nat) : CtxOk Tryz.prog (Z5d.C k) := Zj Zi ⟨Zne.ok k, trivial⟩
theorem Z5d.ev (k : Nat) (x : Za Z5d.sig.ins) : Z5d.sig.ev (Z5d.C k) .auto Tryz.f101.results.toList (cB Tryz.f101) x = Z5d k x := by kernel_rfl
theorem Z5d.ok (k : Nat) : Zf Tryz.prog 101 (Z5d.con k) := Zk (p := .auto) (Z5d.cok k) Tryz.func101 (by kernel_rfl) (show Tryz.f101.body = some (cB Tryz.f101) by kernel_rfl) (by kernel_rfl) (by kernel_rfl) (Zd (L := []) (by kernel_rfl) trivial) (fun x y h => (Z5d.ev k x).trans h)
def Zsb.l0 : Nat → List Int → Int → Option (Unit ⊕ Bool)
 | 0, _, _ => none
 | j + 1, a1, a2 =>
  bif decide (a2 < ((a1.length) : Int)) then
   Option.bind (at? a1 a2) fun v3 =>
   Option.bind (Znb v3 0 23) fun v4 =>
   bif !v4 then
    some (.inr false)
   else
   let e5 := IntKind.wrap .i64 (a2 + 1)
   bif decide (0 < a2) then
    Option.bind (at? a1 (IntKind.wrap .i64 (a2 - 1))) fun v6 =>
    Option.bind (at? a1 a2) fun v7 =>
    bif decide (v7 ≤ v6) then
     some (.inr false)
    else
    Zsb.l0 j a1 e5
   else
   Zsb.l0 j a1 e5
  else
  some (.inl ())
def Zsb (k : Nat) (a1 : List Int) : Option (Bool) :=
 bif decide (24 < ((a1.length) : Int)) then
  some false
 else
 Option.bind (Zsb.l0 k a1 0) fun
  | .inl y2 =>
   some true
  | .inr y3 =>
   some y3
def Zsb.sig : Sig := { ps := [.val false (.sl (.int .i64)) (ros (.sl (.int .i64)))], rs := [.val false [.v .bool]], ntmps := 35 }
def Zsb.con (k : Nat) : Con := Zsb.sig.con (fun x => Zsb k x)
def Zsb.C (k : Nat) : Ctx := { ti := TAB, con := Zh [(59, Znb.con k)] }
theorem Zsb.cok (k : Nat) : CtxOk Tryz.prog (Zsb.C k) := Zj Zi ⟨Znb.ok k, trivial⟩
def Zsb.l0.ish : Shape := { tmps := [(0, .one (.bor (.int .i64))), (3, .one (.v (.int .i64)))], slots := [], nb := 0 }
def Zsb.l0.outs : List (Ex × Shape) := [(.exit 0, { tmps := [], slots := [], nb := 0 }), (.ret, { tmps := [(2, .one (.v .bool))], slots := [], nb := 0 })]
def Zsb.l0.F (k j : Nat) (x : Za Zsb.l0.ish.tys) : Option (Zy Zsb.l0.outs) := Zsb.l0 j x.1 x.2
def Zsb.l0.s (k : Nat) : Summ := { n := 35, ish := Zsb.l0.ish, outs := Zsb.l0.outs, f := Zsb.l0.F k k }
theorem Zsb.l0.ev (k j : Nat) (x : Za Zsb.l0.ish.tys) : V (Zsb.C k) .auto (cO (cO (cR (cL (cR (cR (cB Tryz.f163))))))) (mk Zsb.l0.ish 35 x) (fun e st' => match e with | .nrm => (rd Zsb.l0.ish st').bind (Zsb.l0.F k j) | e => Z0 e st' Zsb.l0.outs) = Zsb.l0.F k (j + 1) x := by kernel_rfl
theorem Zsb.l0.ok (k : Nat) : Z1 Tryz.prog (Zsb.C k) (.loop (cO (cO (cR (cL (cR (cR (cB Tryz.f163)))))))) (Zsb.l0.s k) := Z5 (by kernel_rfl) (sum_loop (p := .auto) (F := Zsb.l0.F k) (Zsb.cok k) (by kernel_rfl) (Zd (L := []) (by kernel_rfl) trivial) (fun _ => rfl) (fun j x y h => (Zsb.l0.ev k j x).trans h) k rfl)
theorem Zsb.ev (k : Nat) (x : Za Zsb.sig.ins) : Zsb.sig.ev (Zsb.C k) (.two .auto (.two .auto (.two (.two .auto (.one (.sum (Zsb.l0.s k)))) .auto))) Tryz.f163.results.toList (cB Tryz.f163) x = Zsb k x := by kernel_rfl
theorem Zsb.ok (k : Nat) : Zf Tryz.prog 163 (Zsb.con k) := Zk (p := (.two .auto (.two .auto (.two (.two .auto (.one (.sum (Zsb.l0.s k)))) .auto)))) (Zsb.cok k) Tryz.func163 (by kernel_rfl) (show Tryz.f163.body = some (cB Tryz.f163) by kernel_rfl) (by kernel_rfl) (by kernel_rfl) (Zd (L := [(Zsb.l0.s k, cO (cR (cL (cR (cR (cB Tryz.f163))))))]) (by kernel_rfl) ⟨Zsb.l0.ok k, trivial⟩) (fun x y h => (Zsb.ev k x).trans h)
def Ztb.l0 : Nat → List Int → Int → Int → Option (Unit ⊕ Bool)
 | 0, _, _, _ => none
 | j + 1, a1, a2, a3 =>
  bif decide (a3 < ((a1.length) : Int)) then
   Option.bind (at? a1 a3) fun v4 =>
   bif v4 == a2 then
    some (.inr true)
   else
   Ztb.l0 j a1 a2 (IntKind.wrap .i64 (a3 + 1))
  else
  some (.inl ())
def Ztb (k : Nat) (a1 : List Int) (a2 : Int) : Option (Bool) :=
 Option.bind (Ztb.l0 k a1 a2 0) fun
  | .inl y3 =>
   some false
  | .inr y4 =>
   some y4
def Ztb.sig : Sig := { ps := [.val false (.sl (.int .i64)) (ros (.sl (.int .i64))), .val false (.int .i64) (ros (.int .i64))], rs := [.val false [.v .bool]], ntmps := 18 }
def Ztb.con (k : Nat) : Con := Ztb.sig.con (fun x => Ztb k x.1 x.2)
def Ztb.C (k : Nat) : Ctx := { ti := TAB, con := Zh [] }
theorem Ztb.cok (k : Nat) : CtxOk Tryz.prog (Ztb.C k) := Zj Zi trivial
def Ztb.l0.ish : Shape := { tmps := [(0, .one (.bor (.int .i64))), (1, .one (.v (.int .i64))), (5, .one (.v (.int .i64)))], slots := [], nb := 0 }
def Ztb.l0.outs : List (Ex × Shape) := [(.exit 0, { tmps := [], slots := [], nb := 0 }), (.ret, { tmps := [(4, .one (.v .bool))], slots := [], nb := 0 })]
def Ztb.l0.F (k j : Nat) (x : Za Ztb.l0.ish.tys) : Option (Zy Ztb.l0.outs) := Ztb.l0 j x.1 x.2.1 x.2.2
def Ztb.l0.s (k : Nat) : Summ := { n := 18, ish := Ztb.l0.ish, outs := Ztb.l0.outs, f := Ztb.l0.F k k }
theorem Ztb.l0.ev (k j : Nat) (x : Za Ztb.l0.ish.tys) : V (Ztb.C k) .auto (cO (cO (cR (cL (cR (cB Tryz.f164)))))) (mk Ztb.l0.ish 18 x) (fun e st' => match e with | .nrm => (rd Ztb.l0.ish st').bind (Ztb.l0.F k j) | e => Z0 e st' Ztb.l0.outs) = Ztb.l0.F k (j + 1) x := by kernel_rfl
theorem Ztb.l0.ok (k : Nat) : Z1 Tryz.prog (Ztb.C k) (.loop (cO (cO (cR (cL (cR (cB Tryz.f164))))))) (Ztb.l0.s k) := Z5 (by kernel_rfl) (sum_loop (p := .auto) (F := Ztb.l0.F k) (Ztb.cok k) (by kernel_rfl) (Zd (L := []) (by kernel_rfl) trivial) (fun _ => rfl) (fun j x y h => (Ztb.l0.ev k j x).trans h) k rfl)
theorem Ztb.ev (k : Nat) (x : Za Ztb.sig.ins) : Ztb.sig.ev (Ztb.C k) (.two .auto (.two (.two .auto (.one (.sum (Ztb.l0.s k)))) .auto)) Tryz.f164.results.toList (cB Tryz.f164) x = Ztb k x.1 x.2 := by kernel_rfl
theorem Ztb.ok (k : Nat) : Zf Tryz.prog 164 (Ztb.con k) := Zk (p := (.two .auto (.two (.two .auto (.one (.sum (Ztb.l0.s k)))) .auto))) (Ztb.cok k) Tryz.func164 (by kernel_rfl) (show Tryz.f164.body = some (cB Tryz.f164) by kernel_rfl) (by kernel_rfl) (by kernel_rfl) (Zd (L := [(Ztb.l0.s k, cO (cR (cL (cR (cB Tryz.f164)))))]) (by kernel_rfl) ⟨Ztb.l0.ok k, trivial⟩) (fun x y h => (Ztb.ev k x).trans h)
def Zkc.l0 (k : Nat) : Nat → Int → Int → Int → Int → Int → Str → List Int → List Int → Int → Option (Unit ⊕ Bool)
 | 0, _, _, _, _, _, _, _, _, _ => none
 | j + 1, a1, a2, a3, a4, a5, a6, a7, a8, a9 =>
  bif decide (a9 < ((a8.length) : Int)) then
   Option.bind (at? a8 a9) fun v10 =>
   Option.bind (Ztb k a7 v10) fun v11 =>
   bif v11 then
    some (.inr false)
   else
   Zkc.l0 k j a1 a2 a3 a4 a5 a6 a7 a8 (IntKind.wrap .i64 (a9 + 1))
  else
  some (.inl ())
def Zkc (k : Nat) (a1 : G75) : Option (Bool) :=
 Option.bind (Znb a1.1 1 5) fun v2 =>
 bif !v2 then
  some false
 else
 Option.bind (Zsb k a1.2.2.2.2.2.2.1) fun v3 =>
 bif !v3 then
  some false
 else
 Option.bind (Zsb k a1.2.2.2.2.2.2.2) fun v4 =>
 bif !v4 then
  some false
 else
 Option.bind (Zkc.l0 k k a1.1 a1.2.1 a1.2.2.1 a1.2.2.2.1 a1.2.2.2.2.1 a1.2.2.2.2.2.1 a1.2.2.2.2.2.2.1 a1.2.2.2.2.2.2.2 0) fun
  | .inl y5 =>
   let e6 := a1.2.1 == 0
   let e7 := a1.2.2.2.2.1 == 0
   let e8 := ((a1.2.2.2.2.2.2.2.length) : Int)
   bif a1.1 == 1 then
    some (((((e6 && (a1.2.2.1 == 0)) && (a1.2.2.2.1 == 0)) && e7) && (a1.2.2.2.2.2.1 == [])) && (e8 == 0))
   else
   Option.bind (Znb a1.2.2.1 1 20) fun v9 =>
   bif !v9 then
    some false
   else
   Option.bind (Znb a1.2.2.2.1 0 4) fun v10 =>
   bif ((!v10) || (e8 != (IntKind.wrap .i64 (a1.2.2.1 + a1.2.2.2.1)))) || (((a1.2.2.2.2.2.1.length) : Int) != 32) then
    some false
   else
   Option.bind (Znb a1.2.1 0 2) fun v11 =>
   bif v11 then
    Option.bind (Znb a1.2.2.2.2.1 0 40) fun v12 =>
    some ((v12 && (e6 || (a1.1 == 4))) && (e7 || (a1.1 == 5)))
   else
   some false
  | .inr y13 =>
   some y13
def Zkc.sig : Sig := { ps := [.val true T75 (ros T75)], rs := [.val false [.v .bool]], ntmps := 122 }
def Zkc.con (k : Nat) : Con := Zkc.sig.con (fun x => Zkc k x)
def Zkc.C (k : Nat) : Ctx := { ti := TAB, con := Zh [(59, Znb.con k), (163, Zsb.con k), (164, Ztb.con k)], rob := true }
theorem Zkc.cok (k : Nat) : CtxOk Tryz.prog (Zkc.C k) := Zj Zi ⟨Znb.ok k, Zsb.ok k, Ztb.ok k, trivial⟩
def Zkc.l0.ish : Shape := { tmps := [(1, .eptr [.v (.int .i64), .v (.int .i64), .v (.int .i64), .v (.int .i64), .v (.int .i64), .v .str, .bor (.int .i64), .bor (.int .i64)]), (3, .one (.v (.int .i64)))], slots := [], nb := 0 }
def Zkc.l0.outs : List (Ex × Shape) := [(.exit 0, { tmps := [], slots := [], nb := 0 }), (.ret, { tmps := [(2, .one (.v .bool))], slots := [], nb := 0 })]
def Zkc.l0.F (k j : Nat) (x : Za Zkc.l0.ish.tys) : Option (Zy Zkc.l0.outs) := Zkc.l0 k j x.1 x.2.1 x.2.2.1 x.2.2.2.1 x.2.2.2.2.1 x.2.2.2.2.2.1 x.2.2.2.2.2.2.1 x.2.2.2.2.2.2.2.1 x.2.2.2.2.2.2.2.2
def Zkc.l0.s (k : Nat) : Summ := { n := 122, ish := Zkc.l0.ish, outs := Zkc.l0.outs, f := Zkc.l0.F k k }
theorem Zkc.l0.ev (k j : Nat) (x : Za Zkc.l0.ish.tys) : V (Zkc.C k) .auto (cO (cO (cR (cL (cR (cR (cB Tryz.f136))))))) (mk Zkc.l0.ish 122 x) (fun e st' => match e with | .nrm => (rd Zkc.l0.ish st').bind (Zkc.l0.F k j) | e => Z0 e st' Zkc.l0.outs) = Zkc.l0.F k (j + 1) x := by kernel_rfl
theorem Zkc.l0.ok (k : Nat) : Z1 Tryz.prog (Zkc.C k) (.loop (cO (cO (cR (cL (cR (cR (cB Tryz.f136)))))))) (Zkc.l0.s k) := Z5 (by kernel_rfl) (sum_loop (p := .auto) (F := Zkc.l0.F k) (Zkc.cok k) (by kernel_rfl) (Zd (L := []) (by kernel_rfl) trivial) (fun _ => rfl) (fun j x y h => (Zkc.l0.ev k j x).trans h) k rfl)
theorem Zkc.ev (k : Nat) (x : Za Zkc.sig.ins) : Zkc.sig.ev (Zkc.C k) (.two .auto (.two .auto (.two (.two .auto (.one (.sum (Zkc.l0.s k)))) .auto))) Tryz.f136.results.toList (cB Tryz.f136) x = Zkc k x := by kernel_rfl
theorem Zkc.ok (k : Nat) : Zf Tryz.prog 136 (Zkc.con k) := Zk (p := (.two .auto (.two .auto (.two (.two .auto (.one (.sum (Zkc.l0.s k)))) .auto)))) (Zkc.cok k) Tryz.func136 (by kernel_rfl) (show Tryz.f136.body = some (cB Tryz.f136) by kernel_rfl) (by kernel_rfl) (by kernel_rfl) (Zd (L := [(Zkc.l0.s k, cO (cR (cL (cR (cR (cB Tryz.f136))))))]) (by kernel_rfl) ⟨Zkc.l0.ok k, trivial⟩) (fun x y h => (Zkc.ev k x).trans h)
def Zqc.l0 : Nat → List Int → Int → Int → Option (Int)
 | 0, _, _, _ => none
 | j + 1, a1, a2, a3 =>
  bif decide (a3 < ((a1.length) : Int)) then
   Option.bind (at? a1 a3) fun v4 =>
   Option.bind (Z6c v4) fun v5 =>
   Zqc.l0 j a1 (IntKind.wrap .i64 (a2 + (shl .i64 1 v4))) (IntKind.wrap .i64 (a3 + 1))
  else
  some a2
def Zqc (k : Nat) (a1 : List Int) : Option (Int) :=
 Option.bind (Zsb k a1) fun v2 =>
 bif !v2 then
  some (-1)
 else
 Option.bind (Zqc.l0 k a1 0 0) fun y3 =>
 some y3
def Zqc.sig : Sig := { ps := [.val false (.sl (.int .i64)) (ros (.sl (.int .i64)))], rs := [.val false [.v (.int .i64)]], ntmps := 22 }
def Zqc.con (k : Nat) : Con := Zqc.sig.con (fun x => Zqc k x)
def Zqc.C (k : Nat) : Ctx := { ti := TAB, con := Zh [(163, Zsb.con k)] }
theorem Zqc.cok (k : Nat) : CtxOk Tryz.prog (Zqc.C k) := Zj Zi ⟨Zsb.ok k, trivial⟩
def Zqc.l0.ish : Shape := { tmps := [(0, .one (.bor (.int .i64))), (3, .one (.v (.int .i64))), (4, .one (.v (.int .i64)))], slots := [], nb := 0 }
def Zqc.l0.outs : List (Ex × Shape) := [(.exit 0, { tmps := [(3, .one (.v (.int .i64)))], slots := [], nb := 0 })]
def Zqc.l0.F (k j : Nat) (x : Za Zqc.l0.ish.tys) : Option (Zy Zqc.l0.outs) := Zqc.l0 j x.1 x.2.1 x.2.2
def Zqc.l0.s (k : Nat) : Summ := { n := 22, ish := Zqc.l0.ish, outs := Zqc.l0.outs, f := Zqc.l0.F k k }
theorem Zqc.l0.ev (k j : Nat) (x : Za Zqc.l0.ish.tys) : V (Zqc.C k) .auto (cO (cO (cR (cL (cR (cR (cR (cB Tryz.f165)))))))) (mk Zqc.l0.ish 22 x) (fun e st' => match e with | .nrm => (rd Zqc.l0.ish st').bind (Zqc.l0.F k j) | e => Z0 e st' Zqc.l0.outs) = Zqc.l0.F k (j + 1) x := by kernel_rfl
theorem Zqc.l0.ok (k : Nat) : Z1 Tryz.prog (Zqc.C k) (.loop (cO (cO (cR (cL (cR (cR (cR (cB Tryz.f165))))))))) (Zqc.l0.s k) := Z5 (by kernel_rfl) (sum_loop (p := .auto) (F := Zqc.l0.F k) (Zqc.cok k) (by kernel_rfl) (Zd (L := []) (by kernel_rfl) trivial) (fun _ => rfl) (fun j x y h => (Zqc.l0.ev k j x).trans h) k rfl)
theorem Zqc.ev (k : Nat) (x : Za Zqc.sig.ins) : Zqc.sig.ev (Zqc.C k) (.two .auto (.two .auto (.two .auto (.two (.two .auto (.one (.sum (Zqc.l0.s k)))) .auto)))) Tryz.f165.results.toList (cB Tryz.f165) x = Zqc k x := by kernel_rfl
theorem Zqc.ok (k : Nat) : Zf Tryz.prog 165 (Zqc.con k) := Zk (p := (.two .auto (.two .auto (.two .auto (.two (.two .auto (.one (.sum (Zqc.l0.s k)))) .auto))))) (Zqc.cok k) Tryz.func165 (by kernel_rfl) (show Tryz.f165.body = some (cB Tryz.f165) by kernel_rfl) (by kernel_rfl) (by kernel_rfl) (Zd (L := [(Zqc.l0.s k, cO (cR (cL (cR (cR (cR (cB Tryz.f165)))))))]) (by kernel_rfl) ⟨Zqc.l0.ok k, trivial⟩) (fun x y h => (Zqc.ev k x).trans h)
def Zdg (k : Nat) (a1 : G75) : Option (Str) :=
 Option.bind (Z7 k a1.1) fun v2 =>
 Option.bind (Z7 k a1.2.1) fun v3 =>
 Option.bind (Z6e v2 v3) fun v4 =>
 Option.bind (Z7 k a1.2.2.1) fun v5 =>
 Option.bind (Z6e v4 v5) fun v6 =>
 Option.bind (Z7 k a1.2.2.2.1) fun v7 =>
 Option.bind (Z6e v6 v7) fun v8 =>
 Option.bind (Z7 k a1.2.2.2.2.1) fun v9 =>
 Option.bind (Z6e v8 v9) fun v10 =>
 Option.bind (Zqc k a1.2.2.2.2.2.2.1) fun v11 =>
 Option.bind (Z7 k v11) fun v12 =>
 Option.bind (Z6e v10 v12) fun v13 =>
 Option.bind (Zqc k a1.2.2.2.2.2.2.2) fun v14 =>
 Option.bind (Z7 k v14) fun v15 =>
 Option.bind (Z6e v13 v15) fun v16 =>
 Option.bind (Z6d k a1.2.2.2.2.2.1) fun v17 =>
 Option.bind (Z6e v16 v17) fun v18 =>
 some v18
def Zdg.sig : Sig := { ps := [.val true T75 (ros T75)], rs := [.val false [.v .str]], ntmps := 36 }
def Zdg.con (k : Nat) : Con := Zdg.sig.con (fun x => Zdg k x)
def Zdg.C (k : Nat) : Ctx := { ti := TAB, con := Zh [(161, Z7.con k), (162, Z6d.con k), (165, Zqc.con k)], rob := true }
theorem Zdg.cok (k : Nat) : CtxOk Tryz.prog (Zdg.C k) := Zj Zi ⟨Z7.ok k, Z6d.ok k, Zqc.ok k, trivial⟩
theorem Zdg.ev (k : Nat) (x : Za Zdg.sig.ins) : Zdg.sig.ev (Zdg.C k) .auto Tryz.f137.results.toList (cB Tryz.f137) x = Zdg k x := by kernel_rfl
theorem Zdg.ok (k : Nat) : Zf Tryz.prog 137 (Zdg.con k) := Zk (p := .auto) (Zdg.cok k) Tryz.func137 (by kernel_rfl) (show Tryz.f137.body = some (cB Tryz.f137) by kernel_rfl) (by kernel_rfl) (by kernel_rfl) (Zd (L := []) (by kernel_rfl) trivial) (fun x y h => (Zdg.ev k x).trans h)
def Zhg (k : Nat) (a1 : G75) : Option (Str) :=
 Option.bind (Zkc k a1) fun v2 =>
 bif !v2 then
  some ([])
 else
 Option.bind (Zdg k a1) fun v3 =>
 some v3
def Zhg.sig : Sig := { ps := [.val true T75 (ros T75)], rs := [.val false [.v .str]], ntmps := 8 }
def Zhg.con (k : Nat) : Con := Zhg.sig.con (fun x => Zhg k x)
def Zhg.C (k : Nat) : Ctx := { ti := TAB, con := Zh [(136, Zkc.con k), (137, Zdg.con k)], rob := true }
theorem Zhg.cok (k : Nat) : CtxOk Tryz.prog (Zhg.C k) := Zj Zi ⟨Zkc.ok k, Zdg.ok k, trivial⟩
theorem Zhg.ev (k : Nat) (x : Za Zhg.sig.ins) : Zhg.sig.ev (Zhg.C k) .auto Tryz.f102.results.toList (cB Tryz.f102) x = Zhg k x := by kernel_rfl
theorem Zhg.ok (k : Nat) : Zf Tryz.prog 102 (Zhg.con k) := Zk (p := .auto) (Zhg.cok k) Tryz.func102 (by kernel_rfl) (show Tryz.f102.body = some (cB Tryz.f102) by kernel_rfl) (by kernel_rfl) (by kernel_rfl) (Zd (L := []) (by kernel_rfl) trivial) (fun x y h => (Zhg.ev k x).trans h)
def Ztf (k : Nat) (a1 : Str) : Option (Int × Int × Int × Int × Int × Str × List Int × List Int × Int) :=
 bif decide (8000 < ((a1.length) : Int)) then
  some (0, 0, 0, 0, 0, [], [], [], 2)
 else
 Option.bind (Z1c k (a1, (0, false))) fun v2 =>
 Option.bind (Z1c k v2.2) fun v3 =>
 Option.bind (Z1c k v3.2) fun v4 =>
 Option.bind (Z1c k v4.2) fun v5 =>
 Option.bind (Z1c k v5.2) fun v6 =>
 Option.bind (Z1c k v6.2) fun v7 =>
 Option.bind (Zqb k v7.1) fun v8 =>
 Option.bind (Z1c k v7.2) fun v9 =>
 Option.bind (Zqb k v9.1) fun v10 =>
 Option.bind (Z5d k v9.2) fun v11 =>
 bif v11.2.2.2 then
  some (0, 0, 0, 0, 0, [], [], [], 3)
 else
 Option.bind (Zhg k (v2.1, (v3.1, (v4.1, (v5.1, (v6.1, (v11.1, (v8, v10)))))))) fun v12 =>
 bif !(v12 == a1) then
  some (0, 0, 0, 0, 0, [], [], [], 3)
 else
 some (v2.1, v3.1, v4.1, v5.1, v6.1, v11.1, v8, v10, 0)
def Ztf.sig : Sig := { ps := [.val false .str (ros .str)], rs := [.val true [.v (.int .i64), .v (.int .i64), .v (.int .i64), .v (.int .i64), .v (.int .i64), .v .str, .own 2 (.int .i64), .own 2 (.int .i64), .v (.int .i64)]], ntmps := 51 }
def Ztf.con (k : Nat) : Con := Ztf.sig.con (fun x => Ztf k x)
def Ztf.C (k : Nat) : Ctx := { ti := TAB, con := Zh [(99, Z1c.con k), (100, Zqb.con k), (101, Z5d.con k), (102, Zhg.con k)] }
theorem Ztf.cok (k : Nat) : CtxOk Tryz.prog (Ztf.C k) := Zj Zi ⟨Z1c.ok k, Zqb.ok k, Z5d.ok k, Zhg.ok k, trivial⟩
theorem Ztf.ev (k : Nat) (x : Za Ztf.sig.ins) : Ztf.sig.ev (Ztf.C k) .auto Tryz.f64.results.toList (cB Tryz.f64) x = Ztf k x := by kernel_rfl
theorem Ztf.ok (k : Nat) : Zf Tryz.prog 64 (Ztf.con k) := Zk (p := .auto) (Ztf.cok k) Tryz.func64 (by kernel_rfl) (show Tryz.f64.body = some (cB Tryz.f64) by kernel_rfl) (by kernel_rfl) (by kernel_rfl) (Zd (L := []) (by kernel_rfl) trivial) (fun x y h => (Ztf.ev k x).trans h)
def Z3d (k : Nat) (a1 : G32) : Option (Int × Int × Int × Int × Int × Str × List Int × List Int × Bool) :=
 Option.bind (Znb a1.1 1 8) fun v2 =>
 bif !v2 then
  some (0, 0, 0, 0, 0, [], [], [], false)
 else
 Option.bind (Zn k a1.2) fun v3 =>
 bif (!v3) || (((a1.2.1.length) : Int) != (IntKind.wrap .i64 ((IntKind.wrap .i64 (3 + a1.1)) + 24))) then
  some (0, 0, 0, 0, 0, [], [], [], false)
 else
 Option.bind (Z4g k a1.2) fun v4 =>
 bif v4.2.2.1 != 0 then
  some (0, 0, 0, 0, 0, [], [], [], false)
 else
 Option.bind (Ztf k v4.2.1) fun v5 =>
 some (v5.1, v5.2.1, v5.2.2.1, v5.2.2.2.1, v5.2.2.2.2.1, v5.2.2.2.2.2.1, v5.2.2.2.2.2.2.1, v5.2.2.2.2.2.2.2.1, v5.2.2.2.2.2.2.2.2 == 0)
def Z3d.sig : Sig := { ps := [.val true T32 (ros T32)], rs := [.val true [.v (.int .i64), .v (.int .i64), .v (.int .i64), .v (.int .i64), .v (.int .i64), .v .str, .own 2 (.int .i64), .own 2 (.int .i64)], .val false [.v .bool]], ntmps := 47 }
def Z3d.con (k : Nat) : Con := Z3d.sig.con (fun x => Z3d k x)
def Z3d.C (k : Nat) : Ctx := { ti := TAB, con := Zh [(59, Znb.con k), (62, Zn.con k), (63, Z4g.con k), (64, Ztf.con k)], rob := true }
theorem Z3d.cok (k : Nat) : CtxOk Tryz.prog (Z3d.C k) := Zj Zi ⟨Znb.ok k, Zn.ok k, Z4g.ok k, Ztf.ok k, trivial⟩
theorem Z3d.ev (k : Nat) (x : Za Z3d.sig.ins) : Z3d.sig.ev (Z3d.C k) .auto Tryz.f32.results.toList (cB Tryz.f32) x = Z3d k x := by kernel_rfl
theorem Z3d.ok (k : Nat) : Zf Tryz.prog 32 (Z3d.con k) := Zk (p := .auto) (Z3d.cok k) Tryz.func32 (by kernel_rfl) (show Tryz.f32.body = some (cB Tryz.f32) by kernel_rfl) (by kernel_rfl) (by kernel_rfl) (Zd (L := []) (by kernel_rfl) trivial) (fun x y h => (Z3d.ev k x).trans h)
def Zfb.l0 : Nat → List Str → Int → Option (Unit ⊕ Bool)
 | 0, _, _ => none
 | j + 1, a1, a2 =>
  bif decide (a2 < ((a1.length) : Int)) then
   Option.bind (at? a1 a2) fun v3 =>
   bif ((v3.length) : Int) != 8 then
    some (.inr false)
   else
   Zfb.l0 j a1 (IntKind.wrap .i64 (a2 + 1))
  else
  some (.inl ())
def Zfb (k : Nat) (a1 : List Str) : Option (Bool) :=
 bif (decide (((a1.length) : Int) < 1)) || (decide (8 < ((a1.length) : Int))) then
  some false
 else
 Option.bind (Zfb.l0 k a1 0) fun
  | .inl y2 =>
   some true
  | .inr y3 =>
   some y3
def Zfb.sig : Sig := { ps := [.val false (.sl .str) (ros (.sl .str))], rs := [.val false [.v .bool]], ntmps := 24 }
def Zfb.con (k : Nat) : Con := Zfb.sig.con (fun x => Zfb k x)
def Zfb.C (k : Nat) : Ctx := { ti := TAB, con := Zh [] }
theorem Zfb.cok (k : Nat) : CtxOk Tryz.prog (Zfb.C k) := Zj Zi trivial
def Zfb.l0.ish : Shape := { tmps := [(0, .one (.bor .str)), (3, .one (.v (.int .i64)))], slots := [], nb := 0 }
def Zfb.l0.outs : List (Ex × Shape) := [(.exit 0, { tmps := [], slots := [], nb := 0 }), (.ret, { tmps := [(2, .one (.v .bool))], slots := [], nb := 0 })]
def Zfb.l0.F (k j : Nat) (x : Za Zfb.l0.ish.tys) : Option (Zy Zfb.l0.outs) := Zfb.l0 j x.1 x.2
def Zfb.l0.s (k : Nat) : Summ := { n := 24, ish := Zfb.l0.ish, outs := Zfb.l0.outs, f := Zfb.l0.F k k }
theorem Zfb.l0.ev (k j : Nat) (x : Za Zfb.l0.ish.tys) : V (Zfb.C k) .auto (cO (cO (cR (cL (cR (cR (cB Tryz.f33))))))) (mk Zfb.l0.ish 24 x) (fun e st' => match e with | .nrm => (rd Zfb.l0.ish st').bind (Zfb.l0.F k j) | e => Z0 e st' Zfb.l0.outs) = Zfb.l0.F k (j + 1) x := by kernel_rfl
theorem Zfb.l0.ok (k : Nat) : Z1 Tryz.prog (Zfb.C k) (.loop (cO (cO (cR (cL (cR (cR (cB Tryz.f33)))))))) (Zfb.l0.s k) := Z5 (by kernel_rfl) (sum_loop (p := .auto) (F := Zfb.l0.F k) (Zfb.cok k) (by kernel_rfl) (Zd (L := []) (by kernel_rfl) trivial) (fun _ => rfl) (fun j x y h => (Zfb.l0.ev k j x).trans h) k rfl)
theorem Zfb.ev (k : Nat) (x : Za Zfb.sig.ins) : Zfb.sig.ev (Zfb.C k) (.two .auto (.two .auto (.two (.two .auto (.one (.sum (Zfb.l0.s k)))) .auto))) Tryz.f33.results.toList (cB Tryz.f33) x = Zfb k x := by kernel_rfl
theorem Zfb.ok (k : Nat) : Zf Tryz.prog 33 (Zfb.con k) := Zk (p := (.two .auto (.two .auto (.two (.two .auto (.one (.sum (Zfb.l0.s k)))) .auto)))) (Zfb.cok k) Tryz.func33 (by kernel_rfl) (show Tryz.f33.body = some (cB Tryz.f33) by kernel_rfl) (by kernel_rfl) (by kernel_rfl) (Zd (L := [(Zfb.l0.s k, cO (cR (cL (cR (cR (cB Tryz.f33))))))]) (by kernel_rfl) ⟨Zfb.l0.ok k, trivial⟩) (fun x y h => (Zfb.ev k x).trans h)
def Zec.l0 (k : Nat) : Nat → Int → List Str → List Zld → Int → List Str → Option ((List Str))
 | 0, _, _, _, _, _ => none
 | j + 1, a1, a2, a3, a4, a5 =>
  bif decide (a4 < a1) then
   Option.bind (Zab k (a2, a3) (IntKind.wrap .i64 (3 + a4))) fun v6 =>
   Option.bind (Z2d 16 a5 [v6]) fun v7 =>
   Zec.l0 k j a1 a2 a3 (IntKind.wrap .i64 (a4 + 1)) v7
  else
  some a5
def Zec (k : Nat) (a1 : G32) : Option (List Str) :=
 Option.bind (Zec.l0 k k a1.1 a1.2.1 a1.2.2 0 []) fun y2 =>
 some y2
def Zec.sig : Sig := { ps := [.val true T32 (ros T32)], rs := [.val false [.own 9 .str]], ntmps := 21 }
def Zec.con (k : Nat) : Con := Zec.sig.con (fun x => Zec k x)
def Zec.C (k : Nat) : Ctx := { ti := TAB, con := Zh [(65, Zab.con k)], rob := true }
theorem Zec.cok (k : Nat) : CtxOk Tryz.prog (Zec.C k) := Zj Zi ⟨Zab.ok k, trivial⟩
def Zec.l0.ish : Shape := { tmps := [(1, .eptr [.v (.int .i64), .bor .str, .bor Z7c]), (3, .one (.own 1)), (4, .one (.v (.int .i64)))], slots := [(1, .arr false 9 .str)], nb := 2 }
def Zec.l0.outs : List (Ex × Shape) := [(.exit 0, { tmps := [(3, .one (.own 2))], slots := [(2, .arr false 9 .str)], nb := 3 })]
def Zec.l0.F (k j : Nat) (x : Za Zec.l0.ish.tys) : Option (Zy Zec.l0.outs) := Zec.l0 k j x.1 x.2.1 x.2.2.1 x.2.2.2.1 x.2.2.2.2
def Zec.l0.s (k : Nat) : Summ := { n := 21, ish := Zec.l0.ish, outs := Zec.l0.outs, f := Zec.l0.F k k }
theorem Zec.l0.ev (k j : Nat) (x : Za Zec.l0.ish.tys) : V (Zec.C k) .auto (cO (cO (cR (cL (cR (cR (cB Tryz.f34))))))) (mk Zec.l0.ish 21 x) (fun e st' => match e with | .nrm => (rd Zec.l0.ish st').bind (Zec.l0.F k j) | e => Z0 e st' Zec.l0.outs) = Zec.l0.F k (j + 1) x := by kernel_rfl
theorem Zec.l0.ok (k : Nat) : Z1 Tryz.prog (Zec.C k) (.loop (cO (cO (cR (cL (cR (cR (cB Tryz.f34)))))))) (Zec.l0.s k) := Z5 (by kernel_rfl) (sum_loop (p := .auto) (F := Zec.l0.F k) (Zec.cok k) (by kernel_rfl) (Zd (L := []) (by kernel_rfl) trivial) (fun _ => rfl) (fun j x y h => (Zec.l0.ev k j x).trans h) k rfl)
theorem Zec.ev (k : Nat) (x : Za Zec.sig.ins) : Zec.sig.ev (Zec.C k) (.two .auto (.two .auto (.two (.two .auto (.one (.sum (Zec.l0.s k)))) .auto))) Tryz.f34.results.toList (cB Tryz.f34) x = Zec k x := by kernel_rfl
theorem Zec.ok (k : Nat) : Zf Tryz.prog 34 (Zec.con k) := Zk (p := (.two .auto (.two .auto (.two (.two .auto (.one (.sum (Zec.l0.s k)))) .auto)))) (Zec.cok k) Tryz.func34 (by kernel_rfl) (show Tryz.f34.body = some (cB Tryz.f34) by kernel_rfl) (by kernel_rfl) (by kernel_rfl) (Zd (L := [(Zec.l0.s k, cO (cR (cL (cR (cR (cB Tryz.f34))))))]) (by kernel_rfl) ⟨Zec.l0.ok k, trivial⟩) (fun x y h => (Zec.ev k x).trans h)
end Go.Proofs.YtfbancgdmghnkaaGreatDoorE
namespace Go.Proofs.YtfbancgdmghnkaaGreatDoorE
open Go Go.RowKit
set_option linter.unusedVariables false
def Z2f (a1 : G32) (a2 : Int) : Option (Int) :=
 some (IntKind.wrap .i64 ((IntKind.wrap .i64 (3 + a1.1)) + a2))
def Z2f.sig : Sig := { ps := [.val true T32 (ros T32), .val false (.int .i64) (ros (.int .i64))], rs := [.val false [.v (.int .i64)]], ntmps := 10 }
def Z2f.con (k : Nat) : Con := Z2f.sig.con (fun x => Z2f x.1 x.2)
def Z2f.C (k : Nat) : Ctx := { ti := TAB, con := Zh [], rob := true }
theorem Z2f.cok (k : Nat) : CtxOk Tryz.prog (Z2f.C k) := Zj Zi trivial
theorem Z2f.ev (k : Nat) (x : Za Z2f.sig.ins) : Z2f.sig.ev (Z2f.C k) .auto Tryz.f103.results.toList (cB Tryz.f103) x = Z2f x.1 x.2 := by kernel_rfl
theorem Z2f.ok (k : Nat) : Zf Tryz.prog 103 (Z2f.con k) := Zk (p := .auto) (Z2f.cok k) Tryz.func103 (by kernel_rfl) (show Tryz.f103.body = some (cB Tryz.f103) by kernel_rfl) (by kernel_rfl) (by kernel_rfl) (Zd (L := []) (by kernel_rfl) trivial) (fun x y h => (Z2f.ev k x).trans h)
def Zhe (k : Nat) (a1 : G36) : Option (Str) :=
 Option.bind (Z7 k a1.1) fun v2 =>
 Option.bind (Z7 k a1.2.1) fun v3 =>
 Option.bind (Z6e v2 v3) fun v4 =>
 Option.bind (Z7 k a1.2.2.1) fun v5 =>
 Option.bind (Z6e v4 v5) fun v6 =>
 Option.bind (Z6d k a1.2.2.2) fun v7 =>
 Option.bind (Z6e v6 v7) fun v8 =>
 some v8
def Zhe.sig : Sig := { ps := [.val true T36 (ros T36)], rs := [.val false [.v .str]], ntmps := 18 }
def Zhe.con (k : Nat) : Con := Zhe.sig.con (fun x => Zhe k x)
def Zhe.C (k : Nat) : Ctx := { ti := TAB, con := Zh [(161, Z7.con k), (162, Z6d.con k)] }
theorem Zhe.cok (k : Nat) : CtxOk Tryz.prog (Zhe.C k) := Zj Zi ⟨Z7.ok k, Z6d.ok k, trivial⟩
theorem Zhe.ev (k : Nat) (x : Za Zhe.sig.ins) : Zhe.sig.ev (Zhe.C k) .auto Tryz.f180.results.toList (cB Tryz.f180) x = Zhe k x := by kernel_rfl
theorem Zhe.ok (k : Nat) : Zf Tryz.prog 180 (Zhe.con k) := Zk (p := .auto) (Zhe.cok k) Tryz.func180 (by kernel_rfl) (show Tryz.f180.body = some (cB Tryz.f180) by kernel_rfl) (by kernel_rfl) (by kernel_rfl) (Zd (L := []) (by kernel_rfl) trivial) (fun x y h => (Zhe.ev k x).trans h)
def Zjg (k : Nat) (a1 : G36) : Option (Str) :=
 Option.bind (Z8d a1 8) fun v2 =>
 bif !v2 then
  some ([])
 else
 Option.bind (Zhe k a1) fun v3 =>
 some v3
def Zjg.sig : Sig := { ps := [.val true T36 (ros T36)], rs := [.val false [.v .str]], ntmps := 8 }
def Zjg.con (k : Nat) : Con := Zjg.sig.con (fun x => Zjg k x)
def Zjg.C (k : Nat) : Ctx := { ti := TAB, con := Zh [(96, Z8d.con k), (180, Zhe.con k)] }
theorem Zjg.cok (k : Nat) : CtxOk Tryz.prog (Zjg.C k) := Zj Zi ⟨Z8d.ok k, Zhe.ok k, trivial⟩
theorem Zjg.ev (k : Nat) (x : Za Zjg.sig.ins) : Zjg.sig.ev (Zjg.C k) .auto Tryz.f179.results.toList (cB Tryz.f179) x = Zjg k x := by kernel_rfl
theorem Zjg.ok (k : Nat) : Zf Tryz.prog 179 (Zjg.con k) := Zk (p := .auto) (Zjg.cok k) Tryz.func179 (by kernel_rfl) (show Tryz.f179.body = some (cB Tryz.f179) by kernel_rfl) (by kernel_rfl) (by kernel_rfl) (Zd (L := []) (by kernel_rfl) trivial) (fun x y h => (Zjg.ev k x).trans h)
def Zze (k : Nat) (a1 : Str) : Option (Int × Int × Int × Str × Int) :=
 bif decide (8000 < ((a1.length) : Int)) then
  some (0, 0, 0, [], 2)
 else
 Option.bind (Z1c k (a1, (0, false))) fun v2 =>
 Option.bind (Z1c k v2.2) fun v3 =>
 Option.bind (Z1c k v3.2) fun v4 =>
 Option.bind (Z5d k v4.2) fun v5 =>
 bif v5.2.2.2 then
  some (0, 0, 0, [], 3)
 else
 Option.bind (Zjg k (v2.1, (v3.1, (v4.1, v5.1)))) fun v6 =>
 bif !(v6 == a1) then
  some (0, 0, 0, [], 3)
 else
 some (v2.1, v3.1, v4.1, v5.1, 0)
def Zze.sig : Sig := { ps := [.val false .str (ros .str)], rs := [.val true [.v (.int .i64), .v (.int .i64), .v (.int .i64), .v .str, .v (.int .i64)]], ntmps := 37 }
def Zze.con (k : Nat) : Con := Zze.sig.con (fun x => Zze k x)
def Zze.C (k : Nat) : Ctx := { ti := TAB, con := Zh [(99, Z1c.con k), (101, Z5d.con k), (179, Zjg.con k)] }
theorem Zze.cok (k : Nat) : CtxOk Tryz.prog (Zze.C k) := Zj Zi ⟨Z1c.ok k, Z5d.ok k, Zjg.ok k, trivial⟩
theorem Zze.ev (k : Nat) (x : Za Zze.sig.ins) : Zze.sig.ev (Zze.C k) .auto Tryz.f166.results.toList (cB Tryz.f166) x = Zze k x := by kernel_rfl
theorem Zze.ok (k : Nat) : Zf Tryz.prog 166 (Zze.con k) := Zk (p := .auto) (Zze.cok k) Tryz.func166 (by kernel_rfl) (show Tryz.f166.body = some (cB Tryz.f166) by kernel_rfl) (by kernel_rfl) (by kernel_rfl) (Zd (L := []) (by kernel_rfl) trivial) (fun x y h => (Zze.ev k x).trans h)
def Zsf (k : Nat) (a1 : Int) (a2 : G36) : Option (Str) :=
 Option.bind (Znb a1 0 1000000) fun v3 =>
 bif !v3 then
  some ([])
 else
 Option.bind (Z8d a2 8) fun v4 =>
 bif !v4 then
  some ([])
 else
 Option.bind (Z7 k a1) fun v5 =>
 Option.bind (Zhe k a2) fun v6 =>
 Option.bind (Z6e v5 v6) fun v7 =>
 Option.bind (Zre k v7) fun v8 =>
 some v8
def Zsf.sig : Sig := { ps := [.val false (.int .i64) (ros (.int .i64)), .val true T36 (ros T36)], rs := [.val false [.v .str]], ntmps := 19 }
def Zsf.con (k : Nat) : Con := Zsf.sig.con (fun x => Zsf k x.1 x.2)
def Zsf.C (k : Nat) : Ctx := { ti := TAB, con := Zh [(59, Znb.con k), (96, Z8d.con k), (160, Zre.con k), (161, Z7.con k), (180, Zhe.con k)] }
theorem Zsf.cok (k : Nat) : CtxOk Tryz.prog (Zsf.C k) := Zj Zi ⟨Znb.ok k, Z8d.ok k, Zre.ok k, Z7.ok k, Zhe.ok k, trivial⟩
theorem Zsf.ev (k : Nat) (x : Za Zsf.sig.ins) : Zsf.sig.ev (Zsf.C k) .auto Tryz.f167.results.toList (cB Tryz.f167) x = Zsf k x.1 x.2 := by kernel_rfl
theorem Zsf.ok (k : Nat) : Zf Tryz.prog 167 (Zsf.con k) := Zk (p := .auto) (Zsf.cok k) Tryz.func167 (by kernel_rfl) (show Tryz.f167.body = some (cB Tryz.f167) by kernel_rfl) (by kernel_rfl) (by kernel_rfl) (Zd (L := []) (by kernel_rfl) trivial) (fun x y h => (Zsf.ev k x).trans h)
def Zfe (k : Nat) (a1 : Str) (a2 : Int) : Option (Int × Int × Int × Str × Int) :=
 Option.bind (Z2e k a1) fun v3 =>
 bif v3.2.2 != 0 then
  some (0, 0, 0, [], v3.2.2)
 else
 Option.bind (Z1c k (v3.1, (0, false))) fun v4 =>
 Option.bind (Zkd v3.1 v4.2.2.1 ((v3.1.length) : Int)) fun v5 =>
 Option.bind (Zze k v5) fun v6 =>
 bif v4.2.2.2 || (v6.2.2.2.2 != 0) then
  some (0, 0, 0, [], 3)
 else
 Option.bind (Zsf k v4.1 (v6.1, (v6.2.1, (v6.2.2.1, v6.2.2.2.1)))) fun v7 =>
 bif !(v7 == a1) then
  some (0, 0, 0, [], 3)
 else
 bif v4.1 != a2 then
  some (0, 0, 0, [], 6)
 else
 some (v6.1, v6.2.1, v6.2.2.1, v6.2.2.2.1, v6.2.2.2.2)
def Zfe.sig : Sig := { ps := [.val false .str (ros .str), .val false (.int .i64) (ros (.int .i64))], rs := [.val true [.v (.int .i64), .v (.int .i64), .v (.int .i64), .v .str, .v (.int .i64)]], ntmps := 54 }
def Zfe.con (k : Nat) : Con := Zfe.sig.con (fun x => Zfe k x.1 x.2)
def Zfe.C (k : Nat) : Ctx := { ti := TAB, con := Zh [(99, Z1c.con k), (132, Z2e.con k), (166, Zze.con k), (167, Zsf.con k)] }
theorem Zfe.cok (k : Nat) : CtxOk Tryz.prog (Zfe.C k) := Zj Zi ⟨Z1c.ok k, Z2e.ok k, Zze.ok k, Zsf.ok k, trivial⟩
theorem Zfe.ev (k : Nat) (x : Za Zfe.sig.ins) : Zfe.sig.ev (Zfe.C k) .auto Tryz.f138.results.toList (cB Tryz.f138) x = Zfe k x.1 x.2 := by kernel_rfl
theorem Zfe.ok (k : Nat) : Zf Tryz.prog 138 (Zfe.con k) := Zk (p := .auto) (Zfe.cok k) Tryz.func138 (by kernel_rfl) (show Tryz.f138.body = some (cB Tryz.f138) by kernel_rfl) (by kernel_rfl) (by kernel_rfl) (Zd (L := []) (by kernel_rfl) trivial) (fun x y h => (Zfe.ev k x).trans h)
def Zsc.l0 (k : Nat) : Nat → List Str → Int → List G36 → Option ((List G36))
 | 0, _, _, _ => none
 | j + 1, a1, a2, a3 =>
  bif decide (a2 < ((a1.length) : Int)) then
   Option.bind (at? a1 a2) fun v4 =>
   Option.bind (Zfe k v4 a2) fun v5 =>
   bif v5.2.2.2.2 != 0 then
    some a3
   else
   Option.bind (Z2d 40 a3 [(v5.1, (v5.2.1, (v5.2.2.1, v5.2.2.2.1)))]) fun v6 =>
   Zsc.l0 k j a1 (IntKind.wrap .i64 (a2 + 1)) v6
  else
  some a3
def Zsc (k : Nat) (a1 : List Str) : Option (List G36) :=
 Option.bind (Zsc.l0 k k a1 0 []) fun y2 =>
 some y2
def Zsc.sig : Sig := { ps := [.val false (.sl .str) (ros (.sl .str))], rs := [.val false [.own 36 T36]], ntmps := 28 }
def Zsc.con (k : Nat) : Con := Zsc.sig.con (fun x => Zsc k x)
def Zsc.C (k : Nat) : Ctx := { ti := TAB, con := Zh [(138, Zfe.con k)] }
theorem Zsc.cok (k : Nat) : CtxOk Tryz.prog (Zsc.C k) := Zj Zi ⟨Zfe.ok k, trivial⟩
def Zsc.l0.ish : Shape := { tmps := [(0, .one (.bor .str)), (3, .one (.own 1)), (4, .one (.v (.int .i64)))], slots := [(1, .arr false 36 T36)], nb := 2 }
def Zsc.l0.outs : List (Ex × Shape) := [(.exit 0, { tmps := [(3, .one (.own 2))], slots := [(2, .arr false 36 T36)], nb := 3 })]
def Zsc.l0.F (k j : Nat) (x : Za Zsc.l0.ish.tys) : Option (Zy Zsc.l0.outs) := Zsc.l0 k j x.1 x.2.1 x.2.2
def Zsc.l0.s (k : Nat) : Summ := { n := 28, ish := Zsc.l0.ish, outs := Zsc.l0.outs, f := Zsc.l0.F k k }
theorem Zsc.l0.ev (k j : Nat) (x : Za Zsc.l0.ish.tys) : V (Zsc.C k) .auto (cO (cO (cR (cL (cR (cR (cB Tryz.f104))))))) (mk Zsc.l0.ish 28 x) (fun e st' => match e with | .nrm => (rd Zsc.l0.ish st').bind (Zsc.l0.F k j) | e => Z0 e st' Zsc.l0.outs) = Zsc.l0.F k (j + 1) x := by kernel_rfl
theorem Zsc.l0.ok (k : Nat) : Z1 Tryz.prog (Zsc.C k) (.loop (cO (cO (cR (cL (cR (cR (cB Tryz.f104)))))))) (Zsc.l0.s k) := Z5 (by kernel_rfl) (sum_loop (p := .auto) (F := Zsc.l0.F k) (Zsc.cok k) (by kernel_rfl) (Zd (L := []) (by kernel_rfl) trivial) (fun _ => rfl) (fun j x y h => (Zsc.l0.ev k j x).trans h) k rfl)
theorem Zsc.ev (k : Nat) (x : Za Zsc.sig.ins) : Zsc.sig.ev (Zsc.C k) (.two .auto (.two .auto (.two (.two .auto (.one (.sum (Zsc.l0.s k)))) .auto))) Tryz.f104.results.toList (cB Tryz.f104) x = Zsc k x := by kernel_rfl
theorem Zsc.ok (k : Nat) : Zf Tryz.prog 104 (Zsc.con k) := Zk (p := (.two .auto (.two .auto (.two (.two .auto (.one (.sum (Zsc.l0.s k)))) .auto)))) (Zsc.cok k) Tryz.func104 (by kernel_rfl) (show Tryz.f104.body = some (cB Tryz.f104) by kernel_rfl) (by kernel_rfl) (by kernel_rfl) (Zd (L := [(Zsc.l0.s k, cO (cR (cL (cR (cR (cB Tryz.f104))))))]) (by kernel_rfl) ⟨Zsc.l0.ok k, trivial⟩) (fun x y h => (Zsc.ev k x).trans h)
def Zac.l0 (k : Nat) : Nat → Int → List Str → List Zld → Int → Int → Int → Int → Int → Str → List Int → List Int → Int → List Str → Option ((List Str))
 | 0, _, _, _, _, _, _, _, _, _, _, _, _, _ => none
 | j + 1, a1, a2, a3, a4, a5, a6, a7, a8, a9, a10, a11, a12, a13 =>
  bif decide (a12 < ((a11.length) : Int)) then
   Option.bind (at? a11 a12) fun v14 =>
   Option.bind (Z2f (a1, (a2, a3)) v14) fun v15 =>
   Option.bind (Zab k (a2, a3) v15) fun v16 =>
   Option.bind (Z2d 16 a13 [v16]) fun v17 =>
   Zac.l0 k j a1 a2 a3 a4 a5 a6 a7 a8 a9 a10 a11 (IntKind.wrap .i64 (a12 + 1)) v17
  else
  some a13
def Zac (k : Nat) (a1 : G32) (a2 : G75) : Option (List G36) :=
 Option.bind (Zac.l0 k k a1.1 a1.2.1 a1.2.2 a2.1 a2.2.1 a2.2.2.1 a2.2.2.2.1 a2.2.2.2.2.1 a2.2.2.2.2.2.1 a2.2.2.2.2.2.2.1 a2.2.2.2.2.2.2.2 a2.2.2.2.1 []) fun y3 =>
 Option.bind (Zsc k y3) fun v4 =>
 some v4
def Zac.sig : Sig := { ps := [.val true T32 (ros T32), .val true T75 (ros T75)], rs := [.val false [.own 36 T36]], ntmps := 32 }
def Zac.con (k : Nat) : Con := Zac.sig.con (fun x => Zac k x.1 x.2)
def Zac.C (k : Nat) : Ctx := { ti := TAB, con := Zh [(65, Zab.con k), (103, Z2f.con k), (104, Zsc.con k)], rob := true }
theorem Zac.cok (k : Nat) : CtxOk Tryz.prog (Zac.C k) := Zj Zi ⟨Zab.ok k, Z2f.ok k, Zsc.ok k, trivial⟩
def Zac.l0.ish : Shape := { tmps := [(2, .eptr [.v (.int .i64), .bor .str, .bor Z7c]), (3, .eptr [.v (.int .i64), .v (.int .i64), .v (.int .i64), .v (.int .i64), .v (.int .i64), .v .str, .bor (.int .i64), .bor (.int .i64)]), (5, .one (.own 1)), (6, .one (.v (.int .i64)))], slots := [(1, .arr false 9 .str)], nb := 2 }
def Zac.l0.outs : List (Ex × Shape) := [(.exit 0, { tmps := [(5, .one (.own 2))], slots := [(2, .arr false 9 .str)], nb := 3 })]
def Zac.l0.F (k j : Nat) (x : Za Zac.l0.ish.tys) : Option (Zy Zac.l0.outs) := Zac.l0 k j x.1 x.2.1 x.2.2.1 x.2.2.2.1 x.2.2.2.2.1 x.2.2.2.2.2.1 x.2.2.2.2.2.2.1 x.2.2.2.2.2.2.2.1 x.2.2.2.2.2.2.2.2.1 x.2.2.2.2.2.2.2.2.2.1 x.2.2.2.2.2.2.2.2.2.2.1 x.2.2.2.2.2.2.2.2.2.2.2.1 x.2.2.2.2.2.2.2.2.2.2.2.2
def Zac.l0.s (k : Nat) : Summ := { n := 32, ish := Zac.l0.ish, outs := Zac.l0.outs, f := Zac.l0.F k k }
theorem Zac.l0.ev (k j : Nat) (x : Za Zac.l0.ish.tys) : V (Zac.C k) .auto (cO (cO (cR (cL (cR (cR (cB Tryz.f66))))))) (mk Zac.l0.ish 32 x) (fun e st' => match e with | .nrm => (rd Zac.l0.ish st').bind (Zac.l0.F k j) | e => Z0 e st' Zac.l0.outs) = Zac.l0.F k (j + 1) x := by kernel_rfl
theorem Zac.l0.ok (k : Nat) : Z1 Tryz.prog (Zac.C k) (.loop (cO (cO (cR (cL (cR (cR (cB Tryz.f66)))))))) (Zac.l0.s k) := Z5 (by kernel_rfl) (sum_loop (p := .auto) (F := Zac.l0.F k) (Zac.cok k) (by kernel_rfl) (Zd (L := []) (by kernel_rfl) trivial) (fun _ => rfl) (fun j x y h => (Zac.l0.ev k j x).trans h) k rfl)
theorem Zac.ev (k : Nat) (x : Za Zac.sig.ins) : Zac.sig.ev (Zac.C k) (.two .auto (.two .auto (.two (.two .auto (.one (.sum (Zac.l0.s k)))) .auto))) Tryz.f66.results.toList (cB Tryz.f66) x = Zac k x.1 x.2 := by kernel_rfl
theorem Zac.ok (k : Nat) : Zf Tryz.prog 66 (Zac.con k) := Zk (p := (.two .auto (.two .auto (.two (.two .auto (.one (.sum (Zac.l0.s k)))) .auto)))) (Zac.cok k) Tryz.func66 (by kernel_rfl) (show Tryz.f66.body = some (cB Tryz.f66) by kernel_rfl) (by kernel_rfl) (by kernel_rfl) (Zd (L := [(Zac.l0.s k, cO (cR (cL (cR (cR (cB Tryz.f66))))))]) (by kernel_rfl) ⟨Zac.l0.ok k, trivial⟩) (fun x y h => (Zac.ev k x).trans h)
def Zmh (k : Nat) (a1 : G32) (a2 : G75) : Option (Bool) :=
 bif decide (a2.1 ≤ 2) then
  some true
 else
 Option.bind (Zac k a1 a2) fun v3 =>
 Option.bind (Zde k v3 a1.1) fun v4 =>
 bif v4.2 == 0 then
  Option.bind (Zyb k v4.1) fun v5 =>
  bif decide (v5 ≤ a2.2.2.2.1) then
   some (decide (a2.2.2.2.2.1 ≤ ((v4.1.length) : Int)))
  else
  some false
 else
 some false
def Zmh.sig : Sig := { ps := [.val true T32 (ros T32), .val true T75 (ros T75)], rs := [.val false [.v .bool]], ntmps := 34 }
def Zmh.con (k : Nat) : Con := Zmh.sig.con (fun x => Zmh k x.1 x.2)
def Zmh.C (k : Nat) : Ctx := { ti := TAB, con := Zh [(60, Zyb.con k), (61, Zde.con k), (66, Zac.con k)], rob := true }
theorem Zmh.cok (k : Nat) : CtxOk Tryz.prog (Zmh.C k) := Zj Zi ⟨Zyb.ok k, Zde.ok k, Zac.ok k, trivial⟩
theorem Zmh.ev (k : Nat) (x : Za Zmh.sig.ins) : Zmh.sig.ev (Zmh.C k) .auto Tryz.f35.results.toList (cB Tryz.f35) x = Zmh k x.1 x.2 := by kernel_rfl
theorem Zmh.ok (k : Nat) : Zf Tryz.prog 35 (Zmh.con k) := Zk (p := .auto) (Zmh.cok k) Tryz.func35 (by kernel_rfl) (show Tryz.f35.body = some (cB Tryz.f35) by kernel_rfl) (by kernel_rfl) (by kernel_rfl) (Zd (L := []) (by kernel_rfl) trivial) (fun x y h => (Zmh.ev k x).trans h)
def Zuf (k : Nat) (a1 : G32) : Option (Bool) :=
 Option.bind (Z3d k a1) fun v2 =>
 bif v2.2.2.2.2.2.2.2.2 then
  Option.bind (Zec k a1) fun v3 =>
  Option.bind (Zfb k v3) fun v4 =>
  bif v4 then
   Option.bind (Zmh k a1 (v2.1, (v2.2.1, (v2.2.2.1, (v2.2.2.2.1, (v2.2.2.2.2.1, (v2.2.2.2.2.2.1, (v2.2.2.2.2.2.2.1, v2.2.2.2.2.2.2.2.1)))))))) fun v5 =>
   some v5
  else
  some false
 else
 some false
def Zuf.sig : Sig := { ps := [.val true T32 (ros T32)], rs := [.val false [.v .bool]], ntmps := 21 }
def Zuf.con (k : Nat) : Con := Zuf.sig.con (fun x => Zuf k x)
def Zuf.C (k : Nat) : Ctx := { ti := TAB, con := Zh [(32, Z3d.con k), (33, Zfb.con k), (34, Zec.con k), (35, Zmh.con k)], rob := true }
theorem Zuf.cok (k : Nat) : CtxOk Tryz.prog (Zuf.C k) := Zj Zi ⟨Z3d.ok k, Zfb.ok k, Zec.ok k, Zmh.ok k, trivial⟩
theorem Zuf.ev (k : Nat) (x : Za Zuf.sig.ins) : Zuf.sig.ev (Zuf.C k) .auto Tryz.f16.results.toList (cB Tryz.f16) x = Zuf k x := by kernel_rfl
theorem Zuf.ok (k : Nat) : Zf Tryz.prog 16 (Zuf.con k) := Zk (p := .auto) (Zuf.cok k) Tryz.func16 (by kernel_rfl) (show Tryz.f16.body = some (cB Tryz.f16) by kernel_rfl) (by kernel_rfl) (by kernel_rfl) (Zd (L := []) (by kernel_rfl) trivial) (fun x y h => (Zuf.ev k x).trans h)
def Zxh  : Option (List Int) :=
 some ([1779033703, 3144134277, 1013904242, 2773480762, 1359893119, 2600822924, 528734635, 1541459225])
def Zxh.sig : Sig := { ps := [], rs := [.val false [.own 2 (.int .i64)]], ntmps := 2 }
def Zxh.con (k : Nat) : Con := Zxh.sig.con (fun x => Zxh )
def Zxh.C (k : Nat) : Ctx := { ti := TAB, con := Zh [] }
theorem Zxh.cok (k : Nat) : CtxOk Tryz.prog (Zxh.C k) := Zj Zi trivial
theorem Zxh.ev (k : Nat) (x : Za Zxh.sig.ins) : Zxh.sig.ev (Zxh.C k) .auto Tryz.f139.results.toList (cB Tryz.f139) x = Zxh  := by kernel_rfl
theorem Zxh.ok (k : Nat) : Zf Tryz.prog 139 (Zxh.con k) := Zk (p := .auto) (Zxh.cok k) Tryz.func139 (by kernel_rfl) (show Tryz.f139.body = some (cB Tryz.f139) by kernel_rfl) (by kernel_rfl) (by kernel_rfl) (Zd (L := []) (by kernel_rfl) trivial) (fun x y h => (Zxh.ev k x).trans h)
def Zwd (a1 : Int) (a2 : Int) : Option (Int) :=
 Option.bind (Z6c a2) fun v3 =>
 let e4 := IntKind.wrap .u64 (32 - a2)
 Option.bind (Z6c e4) fun v5 =>
 some (intBits .or .u32 (shr .u32 a1 a2) (shl .u32 a1 e4))
def Zwd.sig : Sig := { ps := [.val false (.int .u32) (ros (.int .u32)), .val false (.int .u64) (ros (.int .u64))], rs := [.val false [.v (.int .u32)]], ntmps := 13 }
def Zwd.con (k : Nat) : Con := Zwd.sig.con (fun x => Zwd x.1 x.2)
def Zwd.C (k : Nat) : Ctx := { ti := TAB, con := Zh [] }
theorem Zwd.cok (k : Nat) : CtxOk Tryz.prog (Zwd.C k) := Zj Zi trivial
theorem Zwd.ev (k : Nat) (x : Za Zwd.sig.ins) : Zwd.sig.ev (Zwd.C k) .auto Tryz.f168.results.toList (cB Tryz.f168) x = Zwd x.1 x.2 := by kernel_rfl
theorem Zwd.ok (k : Nat) : Zf Tryz.prog 168 (Zwd.con k) := Zk (p := .auto) (Zwd.cok k) Tryz.func168 (by kernel_rfl) (show Tryz.f168.body = some (cB Tryz.f168) by kernel_rfl) (by kernel_rfl) (by kernel_rfl) (Zd (L := []) (by kernel_rfl) trivial) (fun x y h => (Zwd.ev k x).trans h)
def Znh  : Option (List Int) :=
 some ([1116352408, 1899447441, 3049323471, 3921009573, 961987163, 1508970993, 2453635748, 2870763221, 3624381080, 310598401, 607225278, 1426881987, 1925078388, 2162078206, 2614888103, 3248222580, 3835390401, 4022224774, 264347078, 604807628, 770255983, 1249150122, 1555081692, 1996064986, 2554220882, 2821834349, 2952996808, 3210313671, 3336571891, 3584528711, 113926993, 338241895, 666307205, 773529912, 1294757372, 1396182291, 1695183700, 1986661051, 2177026350, 2456956037, 2730485921, 2820302411, 3259730800, 3345764771, 3516065817, 3600352804, 4094571909, 275423344, 430227734, 506948616, 659060556, 883997877, 958139571, 1322822218, 1537002063, 1747873779, 1955562222, 2024104815, 2227730452, 2361852424, 2428436474, 2756734187, 3204031479, 3329325298])
def Znh.sig : Sig := { ps := [], rs := [.val false [.own 161 (.int .u32)]], ntmps := 2 }
def Znh.con (k : Nat) : Con := Znh.sig.con (fun x => Znh )
def Znh.C (k : Nat) : Ctx := { ti := TAB, con := Zh [] }
theorem Znh.cok (k : Nat) : CtxOk Tryz.prog (Znh.C k) := Zj Zi trivial
theorem Znh.ev (k : Nat) (x : Za Znh.sig.ins) : Znh.sig.ev (Znh.C k) .auto Tryz.f169.results.toList (cB Tryz.f169) x = Znh  := by kernel_rfl
theorem Znh.ok (k : Nat) : Zf Tryz.prog 169 (Znh.con k) := Zk (p := .auto) (Znh.cok k) Tryz.func169 (by kernel_rfl) (show Tryz.f169.body = some (cB Tryz.f169) by kernel_rfl) (by kernel_rfl) (by kernel_rfl) (Zd (L := []) (by kernel_rfl) trivial) (fun x y h => (Znh.ev k x).trans h)
def Zm.l0 : Nat → Str → Int → List Int → Option ((List Int))
 | 0, _, _, _ => none
 | j + 1, a1, a2, a3 =>
  bif decide (a2 < 16) then
   let e4 := IntKind.wrap .i64 (4 * a2)
   Option.bind (at? a1 e4) fun v5 =>
   Option.bind (Z6c 24) fun v6 =>
   Option.bind (at? a1 (IntKind.wrap .i64 (e4 + 1))) fun v7 =>
   Option.bind (Z6c 16) fun v8 =>
   Option.bind (at? a1 (IntKind.wrap .i64 (e4 + 2))) fun v9 =>
   Option.bind (Z6c 8) fun v10 =>
   Option.bind (at? a1 (IntKind.wrap .i64 (e4 + 3))) fun v11 =>
   Option.bind (at? a3 a2) fun v12 =>
   Option.bind (at? a3 a2) fun v13 =>
   Zm.l0 j a1 (IntKind.wrap .i64 (a2 + 1)) (List.set a3 (Int.toNat a2) (intBits .or .u32 (intBits .or .u32 (intBits .or .u32 (shl .u32 (IntKind.wrap .u32 (v5.toNat : Int)) 24) (shl .u32 (IntKind.wrap .u32 (v7.toNat : Int)) 16)) (shl .u32 (IntKind.wrap .u32 (v9.toNat : Int)) 8)) (IntKind.wrap .u32 (v11.toNat : Int))))
  else
  some a3
def Zm.l1 : Nat → Int → List Int → Option ((List Int))
 | 0, _, _ => none
 | j + 1, a1, a2 =>
  bif decide (a1 < 64) then
   let e3 := at? a2 (IntKind.wrap .i64 (a1 - 15))
   Option.bind (e3) fun v4 =>
   Option.bind (e3) fun v5 =>
   let e6 := at? a2 (IntKind.wrap .i64 (a1 - 2))
   Option.bind (e6) fun v7 =>
   Option.bind (e6) fun v8 =>
   let e9 := at? a2 (IntKind.wrap .i64 (a1 - 16))
   Option.bind (e9) fun v10 =>
   Option.bind (e9) fun v11 =>
   Option.bind (Zwd v5 7) fun v12 =>
   Option.bind (Zwd v5 18) fun v13 =>
   Option.bind (Z6c 3) fun v14 =>
   let e15 := at? a2 (IntKind.wrap .i64 (a1 - 7))
   Option.bind (e15) fun v16 =>
   Option.bind (e15) fun v17 =>
   Option.bind (Zwd v8 17) fun v18 =>
   Option.bind (Zwd v8 19) fun v19 =>
   Option.bind (Z6c 10) fun v20 =>
   Option.bind (at? a2 a1) fun v21 =>
   Option.bind (at? a2 a1) fun v22 =>
   Zm.l1 j (IntKind.wrap .i64 (a1 + 1)) (List.set a2 (Int.toNat a1) (IntKind.wrap .u32 ((IntKind.wrap .u32 ((IntKind.wrap .u32 (v11 + (intBits .xor .u32 (intBits .xor .u32 v12 v13) (shr .u32 v5 3)))) + v17)) + (intBits .xor .u32 (intBits .xor .u32 v18 v19) (shr .u32 v8 10)))))
  else
  some a2
def Zm.l2 : Nat → Int → Int → Int → Int → Int → Int → Int → Int → Int → List Int → List Int → Option ((Int × Int × Int × Int × Int × Int × Int × Int))
 | 0, _, _, _, _, _, _, _, _, _, _, _ => none
 | j + 1, a1, a2, a3, a4, a5, a6, a7, a8, a9, a10, a11 =>
  bif decide (a9 < 64) then
   Option.bind (Zwd a5 6) fun v12 =>
   Option.bind (Zwd a5 11) fun v13 =>
   Option.bind (Zwd a5 25) fun v14 =>
   Option.bind (at? a11 a9) fun v15 =>
   Option.bind (at? a11 a9) fun v16 =>
   Option.bind (at? a10 a9) fun v17 =>
   Option.bind (at? a10 a9) fun v18 =>
   Option.bind (Zwd a1 2) fun v19 =>
   Option.bind (Zwd a1 13) fun v20 =>
   Option.bind (Zwd a1 22) fun v21 =>
   let e22 := IntKind.wrap .u32 ((IntKind.wrap .u32 ((IntKind.wrap .u32 ((IntKind.wrap .u32 (a8 + (intBits .xor .u32 (intBits .xor .u32 v12 v13) v14))) + (intBits .xor .u32 (intBits .and .u32 a5 a6) (intBits .and .u32 (intBits .xor .u32 (IntKind.max .u32) a5) a7)))) + v16)) + v18)
   Zm.l2 j (IntKind.wrap .u32 (e22 + (IntKind.wrap .u32 ((intBits .xor .u32 (intBits .xor .u32 v19 v20) v21) + (intBits .xor .u32 (intBits .xor .u32 (intBits .and .u32 a1 a2) (intBits .and .u32 a1 a3)) (intBits .and .u32 a2 a3)))))) a1 a2 a3 (IntKind.wrap .u32 (a4 + e22)) a5 a6 a7 (IntKind.wrap .i64 (a9 + 1)) a10 a11
  else
  some (a1, a2, a3, a4, a5, a6, a7, a8)
def Zm.l3 : Nat → List Int → Int → List Int → List Int → Option ((List Int))
 | 0, _, _, _, _ => none
 | j + 1, a1, a2, a3, a4 =>
  bif decide (a2 < 8) then
   Option.bind (at? a1 a2) fun v5 =>
   Option.bind (at? a3 a2) fun v6 =>
   Option.bind (at? a3 a2) fun v7 =>
   Option.bind (Z2d 8 a4 [(IntKind.wrap .i64 (IntKind.wrap .u32 ((IntKind.wrap .u32 v5) + v7)))]) fun v8 =>
   Zm.l3 j a1 (IntKind.wrap .i64 (a2 + 1)) a3 v8
  else
  some a4
def Zm (k : Nat) (a1 : List Int) (a2 : Str) : Option (List Int) :=
 Option.bind (Zji 4 64 64 0) fun v3 =>
 Option.bind (Zm.l0 k a2 0 v3) fun y4 =>
 Option.bind (Zm.l1 k 16 y4) fun y5 =>
 Option.bind (at? a1 0) fun v6 =>
 Option.bind (at? a1 1) fun v7 =>
 Option.bind (at? a1 2) fun v8 =>
 Option.bind (at? a1 3) fun v9 =>
 Option.bind (at? a1 4) fun v10 =>
 Option.bind (at? a1 5) fun v11 =>
 Option.bind (at? a1 6) fun v12 =>
 Option.bind (at? a1 7) fun v13 =>
 Option.bind (Znh ) fun v14 =>
 Option.bind (Zm.l2 k (IntKind.wrap .u32 v6) (IntKind.wrap .u32 v7) (IntKind.wrap .u32 v8) (IntKind.wrap .u32 v9) (IntKind.wrap .u32 v10) (IntKind.wrap .u32 v11) (IntKind.wrap .u32 v12) (IntKind.wrap .u32 v13) 0 y5 v14) fun y15 =>
 Option.bind (Zm.l3 k a1 0 [y15.1, y15.2.1, y15.2.2.1, y15.2.2.2.1, y15.2.2.2.2.1, y15.2.2.2.2.2.1, y15.2.2.2.2.2.2.1, y15.2.2.2.2.2.2.2] []) fun y16 =>
 some y16
def Zm.sig : Sig := { ps := [.val false (.sl (.int .i64)) (ros (.sl (.int .i64))), .val false .str (ros .str)], rs := [.val false [.own 2 (.int .i64)]], ntmps := 235 }
def Zm.con (k : Nat) : Con := Zm.sig.con (fun x => Zm k x.1 x.2)
def Zm.C (k : Nat) : Ctx := { ti := TAB, con := Zh [(168, Zwd.con k), (169, Znh.con k)] }
theorem Zm.cok (k : Nat) : CtxOk Tryz.prog (Zm.C k) := Zj Zi ⟨Zwd.ok k, Znh.ok k, trivial⟩
def Zm.l0.ish : Shape := { tmps := [(1, .one (.v .str)), (5, .one (.own 1)), (6, .one (.v (.int .i64)))], slots := [(1, .arr false 161 (.int .u32))], nb := 2 }
def Zm.l0.outs : List (Ex × Shape) := [(.exit 0, { tmps := [(5, .one (.own 2))], slots := [(2, .arr false 161 (.int .u32))], nb := 3 })]
def Zm.l0.F (k j : Nat) (x : Za Zm.l0.ish.tys) : Option (Zy Zm.l0.outs) := Zm.l0 j x.1 x.2.1 x.2.2
def Zm.l0.s (k : Nat) : Summ := { n := 235, ish := Zm.l0.ish, outs := Zm.l0.outs, f := Zm.l0.F k k }
theorem Zm.l0.ev (k j : Nat) (x : Za Zm.l0.ish.tys) : V (Zm.C k) .auto (cO (cO (cR (cL (cR (cR (cB Tryz.f140))))))) (mk Zm.l0.ish 235 x) (fun e st' => match e with | .nrm => (rd Zm.l0.ish st').bind (Zm.l0.F k j) | e => Z0 e st' Zm.l0.outs) = Zm.l0.F k (j + 1) x := by kernel_rfl
theorem Zm.l0.ok (k : Nat) : Z1 Tryz.prog (Zm.C k) (.loop (cO (cO (cR (cL (cR (cR (cB Tryz.f140)))))))) (Zm.l0.s k) := Z5 (by kernel_rfl) (sum_loop (p := .auto) (F := Zm.l0.F k) (Zm.cok k) (by kernel_rfl) (Zd (L := []) (by kernel_rfl) trivial) (fun _ => rfl) (fun j x y h => (Zm.l0.ev k j x).trans h) k rfl)
def Zm.l1.ish : Shape := { tmps := [(5, .one (.own 3)), (7, .one (.v (.int .i64)))], slots := [(3, .arr false 161 (.int .u32))], nb := 4 }
def Zm.l1.outs : List (Ex × Shape) := [(.exit 2, { tmps := [(5, .one (.own 4))], slots := [(4, .arr false 161 (.int .u32))], nb := 5 })]
def Zm.l1.F (k j : Nat) (x : Za Zm.l1.ish.tys) : Option (Zy Zm.l1.outs) := Zm.l1 j x.1 x.2
def Zm.l1.s (k : Nat) : Summ := { n := 235, ish := Zm.l1.ish, outs := Zm.l1.outs, f := Zm.l1.F k k }
theorem Zm.l1.ev (k j : Nat) (x : Za Zm.l1.ish.tys) : V (Zm.C k) .auto (cO (cO (cR (cL (cR (cR (cR (cB Tryz.f140)))))))) (mk Zm.l1.ish 235 x) (fun e st' => match e with | .nrm => (rd Zm.l1.ish st').bind (Zm.l1.F k j) | e => Z0 e st' Zm.l1.outs) = Zm.l1.F k (j + 1) x := by kernel_rfl
theorem Zm.l1.ok (k : Nat) : Z1 Tryz.prog (Zm.C k) (.loop (cO (cO (cR (cL (cR (cR (cR (cB Tryz.f140))))))))) (Zm.l1.s k) := Z5 (by kernel_rfl) (sum_loop (p := .auto) (F := Zm.l1.F k) (Zm.cok k) (by kernel_rfl) (Zd (L := []) (by kernel_rfl) trivial) (fun _ => rfl) (fun j x y h => (Zm.l1.ev k j x).trans h) k rfl)
def Zm.l2.ish : Shape := { tmps := [(5, .one (.own 6)), (10, .one (.v (.int .u32))), (11, .one (.v (.int .u32))), (12, .one (.v (.int .u32))), (13, .one (.v (.int .u32))), (14, .one (.v (.int .u32))), (15, .one (.v (.int .u32))), (16, .one (.v (.int .u32))), (17, .one (.v (.int .u32))), (18, .one (.own 7)), (19, .one (.v (.int .i64)))], slots := [(6, .arr false 161 (.int .u32)), (7, .arr false 161 (.int .u32))], nb := 8 }
def Zm.l2.outs : List (Ex × Shape) := [(.exit 4, { tmps := [(10, .one (.v (.int .u32))), (11, .one (.v (.int .u32))), (12, .one (.v (.int .u32))), (13, .one (.v (.int .u32))), (14, .one (.v (.int .u32))), (15, .one (.v (.int .u32))), (16, .one (.v (.int .u32))), (17, .one (.v (.int .u32)))], slots := [], nb := 8 })]
def Zm.l2.F (k j : Nat) (x : Za Zm.l2.ish.tys) : Option (Zy Zm.l2.outs) := Zm.l2 j x.1 x.2.1 x.2.2.1 x.2.2.2.1 x.2.2.2.2.1 x.2.2.2.2.2.1 x.2.2.2.2.2.2.1 x.2.2.2.2.2.2.2.1 x.2.2.2.2.2.2.2.2.1 x.2.2.2.2.2.2.2.2.2.1 x.2.2.2.2.2.2.2.2.2.2
def Zm.l2.s (k : Nat) : Summ := { n := 235, ish := Zm.l2.ish, outs := Zm.l2.outs, f := Zm.l2.F k k }
theorem Zm.l2.ev (k j : Nat) (x : Za Zm.l2.ish.tys) : V (Zm.C k) .auto (cO (cO (cR (cL (cR (cR (cR (cR (cR (cR (cR (cB Tryz.f140)))))))))))) (mk Zm.l2.ish 235 x) (fun e st' => match e with | .nrm => (rd Zm.l2.ish st').bind (Zm.l2.F k j) | e => Z0 e st' Zm.l2.outs) = Zm.l2.F k (j + 1) x := by kernel_rfl
theorem Zm.l2.ok (k : Nat) : Z1 Tryz.prog (Zm.C k) (.loop (cO (cO (cR (cL (cR (cR (cR (cR (cR (cR (cR (cB Tryz.f140))))))))))))) (Zm.l2.s k) := Z5 (by kernel_rfl) (sum_loop (p := .auto) (F := Zm.l2.F k) (Zm.cok k) (by kernel_rfl) (Zd (L := []) (by kernel_rfl) trivial) (fun _ => rfl) (fun j x y h => (Zm.l2.ev k j x).trans h) k rfl)
def Zm.l3.ish : Shape := { tmps := [(0, .one (.bor (.int .i64))), (22, .one (.own 10)), (23, .one (.own 11)), (24, .one (.v (.int .i64)))], slots := [(10, .arr false 161 (.int .u32)), (11, .arr false 2 (.int .i64))], nb := 12 }
def Zm.l3.outs : List (Ex × Shape) := [(.exit 6, { tmps := [(23, .one (.own 12))], slots := [(12, .arr false 2 (.int .i64))], nb := 13 })]
def Zm.l3.F (k j : Nat) (x : Za Zm.l3.ish.tys) : Option (Zy Zm.l3.outs) := Zm.l3 j x.1 x.2.1 x.2.2.1 x.2.2.2
def Zm.l3.s (k : Nat) : Summ := { n := 235, ish := Zm.l3.ish, outs := Zm.l3.outs, f := Zm.l3.F k k }
theorem Zm.l3.ev (k j : Nat) (x : Za Zm.l3.ish.tys) : V (Zm.C k) .auto (cO (cO (cR (cL (cR (cR (cR (cR (cR (cR (cR (cR (cR (cR (cB Tryz.f140))))))))))))))) (mk Zm.l3.ish 235 x) (fun e st' => match e with | .nrm => (rd Zm.l3.ish st').bind (Zm.l3.F k j) | e => Z0 e st' Zm.l3.outs) = Zm.l3.F k (j + 1) x := by kernel_rfl
theorem Zm.l3.ok (k : Nat) : Z1 Tryz.prog (Zm.C k) (.loop (cO (cO (cR (cL (cR (cR (cR (cR (cR (cR (cR (cR (cR (cR (cB Tryz.f140)))))))))))))))) (Zm.l3.s k) := Z5 (by kernel_rfl) (sum_loop (p := .auto) (F := Zm.l3.F k) (Zm.cok k) (by kernel_rfl) (Zd (L := []) (by kernel_rfl) trivial) (fun _ => rfl) (fun j x y h => (Zm.l3.ev k j x).trans h) k rfl)
theorem Zm.ev (k : Nat) (x : Za Zm.sig.ins) : Zm.sig.ev (Zm.C k) (.two .auto (.two .auto (.two (.two .auto (.one (.sum (Zm.l0.s k)))) (.two (.two .auto (.one (.sum (Zm.l1.s k)))) (.two .auto (.two .auto (.two .auto (.two (.two .auto (.one (.sum (Zm.l2.s k)))) (.two .auto (.two .auto (.two (.two .auto (.one (.sum (Zm.l3.s k)))) .auto))))))))))) Tryz.f140.results.toList (cB Tryz.f140) x = Zm k x.1 x.2 := by kernel_rfl
theorem Zm.ok (k : Nat) : Zf Tryz.prog 140 (Zm.con k) := Zk (p := (.two .auto (.two .auto (.two (.two .auto (.one (.sum (Zm.l0.s k)))) (.two (.two .auto (.one (.sum (Zm.l1.s k)))) (.two .auto (.two .auto (.two .auto (.two (.two .auto (.one (.sum (Zm.l2.s k)))) (.two .auto (.two .auto (.two (.two .auto (.one (.sum (Zm.l3.s k)))) .auto)))))))))))) (Zm.cok k) Tryz.func140 (by kernel_rfl) (show Tryz.f140.body = some (cB Tryz.f140) by kernel_rfl) (by kernel_rfl) (by kernel_rfl) (Zd (L := [(Zm.l0.s k, cO (cR (cL (cR (cR (cB Tryz.f140)))))), (Zm.l1.s k, cO (cR (cL (cR (cR (cR (cB Tryz.f140))))))), (Zm.l2.s k, cO (cR (cL (cR (cR (cR (cR (cR (cR (cR (cB Tryz.f140))))))))))), (Zm.l3.s k, cO (cR (cL (cR (cR (cR (cR (cR (cR (cR (cR (cR (cR (cB Tryz.f140))))))))))))))]) (by kernel_rfl) ⟨Zm.l0.ok k, Zm.l1.ok k, Zm.l2.ok k, Zm.l3.ok k, trivial⟩) (fun x y h => (Zm.ev k x).trans h)
def Zl.l0 : Nat → List Int → Option ((List Int))
 | 0, _ => none
 | j + 1, a1 =>
  Option.bind (nz? 64) fun v2 =>
  bif (Int.tmod ((a1.length) : Int) 64) != 56 then
   Option.bind (Z2d 1 a1 [0]) fun v3 =>
   Zl.l0 j v3
  else
  some a1
def Zl.l1 : Nat → Int → Int → List Int → Option ((List Int))
 | 0, _, _, _ => none
 | j + 1, a1, a2, a3 =>
  bif decide (0 ≤ a2) then
   Option.bind (Z6c (IntKind.wrap .u64 a2)) fun v4 =>
   Option.bind (Z2d 1 a3 [(IntKind.wrap .u8 (shr .u64 a1 (IntKind.wrap .u64 a2)))]) fun v5 =>
   Zl.l1 j a1 (IntKind.wrap .i64 (a2 - 8)) v5
  else
  some a3
def Zl.l2 (k : Nat) : Nat → List Int → Int → List Int → Option ((List Int))
 | 0, _, _, _ => none
 | j + 1, a1, a2, a3 =>
  bif decide (a2 < ((a1.length) : Int)) then
   let e4 := IntKind.wrap .i64 (a2 + 64)
   Option.bind (Zkd a1 a2 e4) fun v5 =>
   Option.bind (Zm k a3 (Zbd v5)) fun v6 =>
   Zl.l2 k j a1 e4 v6
  else
  some a3
def Zl.l3 : Nat → Int → List Int → List Int → Option ((List Int))
 | 0, _, _, _ => none
 | j + 1, a1, a2, a3 =>
  bif decide (a1 < 8) then
   Option.bind (at? a2 a1) fun v4 =>
   Option.bind (at? a2 a1) fun v5 =>
   Option.bind (Z6c 24) fun v6 =>
   Option.bind (Z6c 16) fun v7 =>
   Option.bind (Z6c 8) fun v8 =>
   Option.bind (Z2d 1 a3 [(IntKind.wrap .u8 (shr .i64 v5 24)), (IntKind.wrap .u8 (shr .i64 v5 16)), (IntKind.wrap .u8 (shr .i64 v5 8)), (IntKind.wrap .u8 v5)]) fun v9 =>
   Zl.l3 j (IntKind.wrap .i64 (a1 + 1)) a2 v9
  else
  some a3
def Zl (k : Nat) (a1 : Str) : Option (Str) :=
 Option.bind (Z7t (a1.length) 1) fun v2 =>
 Option.bind (Z2d 1 (Zad a1) [128]) fun v3 =>
 Option.bind (Zl.l0 k v3) fun y4 =>
 Option.bind (Zl.l1 k (IntKind.wrap .u64 (IntKind.wrap .i64 (8 * ((a1.length) : Int)))) 56 y4) fun y5 =>
 Option.bind (Zxh ) fun v6 =>
 Option.bind (Zl.l2 k k y5 0 v6) fun y7 =>
 Option.bind (Zl.l3 k 0 y7 []) fun y8 =>
 some (Zbd y8)
def Zl.sig : Sig := { ps := [.val false .str (ros .str)], rs := [.val false [.v .str]], ntmps := 78 }
def Zl.con (k : Nat) : Con := Zl.sig.con (fun x => Zl k x)
def Zl.C (k : Nat) : Ctx := { ti := TAB, con := Zh [(139, Zxh.con k), (140, Zm.con k)] }
theorem Zl.cok (k : Nat) : CtxOk Tryz.prog (Zl.C k) := Zj Zi ⟨Zxh.ok k, Zm.ok k, trivial⟩
def Zl.l0.ish : Shape := { tmps := [(3, .one (.own 3))], slots := [(3, .arr true 5 (.int .u8))], nb := 4 }
def Zl.l0.outs : List (Ex × Shape) := [(.exit 0, { tmps := [(3, .one (.own 4))], slots := [(4, .arr true 5 (.int .u8))], nb := 5 })]
def Zl.l0.F (k j : Nat) (x : Za Zl.l0.ish.tys) : Option (Zy Zl.l0.outs) := Zl.l0 j x
def Zl.l0.s (k : Nat) : Summ := { n := 78, ish := Zl.l0.ish, outs := Zl.l0.outs, f := Zl.l0.F k k }
theorem Zl.l0.ev (k j : Nat) (x : Za Zl.l0.ish.tys) : V (Zl.C k) .auto (cO (cO (cL (cR (cR (cB Tryz.f105)))))) (mk Zl.l0.ish 78 x) (fun e st' => match e with | .nrm => (rd Zl.l0.ish st').bind (Zl.l0.F k j) | e => Z0 e st' Zl.l0.outs) = Zl.l0.F k (j + 1) x := by kernel_rfl
theorem Zl.l0.ok (k : Nat) : Z1 Tryz.prog (Zl.C k) (.loop (cO (cO (cL (cR (cR (cB Tryz.f105))))))) (Zl.l0.s k) := Z5 (by kernel_rfl) (sum_loop (p := .auto) (F := Zl.l0.F k) (Zl.cok k) (by kernel_rfl) (Zd (L := []) (by kernel_rfl) trivial) (fun _ => rfl) (fun j x y h => (Zl.l0.ev k j x).trans h) k rfl)
def Zl.l1.ish : Shape := { tmps := [(3, .one (.own 5)), (4, .one (.v (.int .u64))), (5, .one (.v (.int .i64)))], slots := [(5, .arr true 5 (.int .u8))], nb := 6 }
def Zl.l1.outs : List (Ex × Shape) := [(.exit 2, { tmps := [(3, .one (.own 6))], slots := [(6, .arr true 5 (.int .u8))], nb := 7 })]
def Zl.l1.F (k j : Nat) (x : Za Zl.l1.ish.tys) : Option (Zy Zl.l1.outs) := Zl.l1 j x.1 x.2.1 x.2.2
def Zl.l1.s (k : Nat) : Summ := { n := 78, ish := Zl.l1.ish, outs := Zl.l1.outs, f := Zl.l1.F k k }
theorem Zl.l1.ev (k j : Nat) (x : Za Zl.l1.ish.tys) : V (Zl.C k) .auto (cO (cO (cR (cL (cR (cR (cR (cR (cB Tryz.f105))))))))) (mk Zl.l1.ish 78 x) (fun e st' => match e with | .nrm => (rd Zl.l1.ish st').bind (Zl.l1.F k j) | e => Z0 e st' Zl.l1.outs) = Zl.l1.F k (j + 1) x := by kernel_rfl
theorem Zl.l1.ok (k : Nat) : Z1 Tryz.prog (Zl.C k) (.loop (cO (cO (cR (cL (cR (cR (cR (cR (cB Tryz.f105)))))))))) (Zl.l1.s k) := Z5 (by kernel_rfl) (sum_loop (p := .auto) (F := Zl.l1.F k) (Zl.cok k) (by kernel_rfl) (Zd (L := []) (by kernel_rfl) trivial) (fun _ => rfl) (fun j x y h => (Zl.l1.ev k j x).trans h) k rfl)
def Zl.l2.ish : Shape := { tmps := [(3, .one (.v (.sl (.int .u8)))), (6, .one (.own 8)), (7, .one (.v (.int .i64)))], slots := [(8, .arr false 2 (.int .i64))], nb := 9 }
def Zl.l2.outs : List (Ex × Shape) := [(.exit 4, { tmps := [(6, .one (.own 9))], slots := [(9, .arr false 2 (.int .i64))], nb := 10 })]
def Zl.l2.F (k j : Nat) (x : Za Zl.l2.ish.tys) : Option (Zy Zl.l2.outs) := Zl.l2 k j x.1 x.2.1 x.2.2
def Zl.l2.s (k : Nat) : Summ := { n := 78, ish := Zl.l2.ish, outs := Zl.l2.outs, f := Zl.l2.F k k }
theorem Zl.l2.ev (k j : Nat) (x : Za Zl.l2.ish.tys) : V (Zl.C k) .auto (cO (cO (cR (cL (cR (cR (cR (cR (cR (cR (cB Tryz.f105))))))))))) (mk Zl.l2.ish 78 x) (fun e st' => match e with | .nrm => (rd Zl.l2.ish st').bind (Zl.l2.F k j) | e => Z0 e st' Zl.l2.outs) = Zl.l2.F k (j + 1) x := by kernel_rfl
theorem Zl.l2.ok (k : Nat) : Z1 Tryz.prog (Zl.C k) (.loop (cO (cO (cR (cL (cR (cR (cR (cR (cR (cR (cB Tryz.f105)))))))))))) (Zl.l2.s k) := Z5 (by kernel_rfl) (sum_loop (p := .auto) (F := Zl.l2.F k) (Zl.cok k) (by kernel_rfl) (Zd (L := []) (by kernel_rfl) trivial) (fun _ => rfl) (fun j x y h => (Zl.l2.ev k j x).trans h) k rfl)
def Zl.l3.ish : Shape := { tmps := [(6, .one (.own 11)), (8, .one (.own 12)), (9, .one (.v (.int .i64)))], slots := [(11, .arr false 2 (.int .i64)), (12, .arr false 5 (.int .u8))], nb := 13 }
def Zl.l3.outs : List (Ex × Shape) := [(.exit 6, { tmps := [(8, .one (.own 13))], slots := [(13, .arr false 5 (.int .u8))], nb := 14 })]
def Zl.l3.F (k j : Nat) (x : Za Zl.l3.ish.tys) : Option (Zy Zl.l3.outs) := Zl.l3 j x.1 x.2.1 x.2.2
def Zl.l3.s (k : Nat) : Summ := { n := 78, ish := Zl.l3.ish, outs := Zl.l3.outs, f := Zl.l3.F k k }
theorem Zl.l3.ev (k j : Nat) (x : Za Zl.l3.ish.tys) : V (Zl.C k) .auto (cO (cO (cR (cL (cR (cR (cR (cR (cR (cR (cR (cR (cB Tryz.f105))))))))))))) (mk Zl.l3.ish 78 x) (fun e st' => match e with | .nrm => (rd Zl.l3.ish st').bind (Zl.l3.F k j) | e => Z0 e st' Zl.l3.outs) = Zl.l3.F k (j + 1) x := by kernel_rfl
theorem Zl.l3.ok (k : Nat) : Z1 Tryz.prog (Zl.C k) (.loop (cO (cO (cR (cL (cR (cR (cR (cR (cR (cR (cR (cR (cB Tryz.f105)))))))))))))) (Zl.l3.s k) := Z5 (by kernel_rfl) (sum_loop (p := .auto) (F := Zl.l3.F k) (Zl.cok k) (by kernel_rfl) (Zd (L := []) (by kernel_rfl) trivial) (fun _ => rfl) (fun j x y h => (Zl.l3.ev k j x).trans h) k rfl)
theorem Zl.ev (k : Nat) (x : Za Zl.sig.ins) : Zl.sig.ev (Zl.C k) (.two .auto (.two .auto (.two (.one (.sum (Zl.l0.s k))) (.two .auto (.two (.two .auto (.one (.sum (Zl.l1.s k)))) (.two .auto (.two (.two .auto (.one (.sum (Zl.l2.s k)))) (.two .auto (.two (.two .auto (.one (.sum (Zl.l3.s k)))) .auto))))))))) Tryz.f105.results.toList (cB Tryz.f105) x = Zl k x := by kernel_rfl
theorem Zl.ok (k : Nat) : Zf Tryz.prog 105 (Zl.con k) := Zk (p := (.two .auto (.two .auto (.two (.one (.sum (Zl.l0.s k))) (.two .auto (.two (.two .auto (.one (.sum (Zl.l1.s k)))) (.two .auto (.two (.two .auto (.one (.sum (Zl.l2.s k)))) (.two .auto (.two (.two .auto (.one (.sum (Zl.l3.s k)))) .auto)))))))))) (Zl.cok k) Tryz.func105 (by kernel_rfl) (show Tryz.f105.body = some (cB Tryz.f105) by kernel_rfl) (by kernel_rfl) (by kernel_rfl) (Zd (L := [(Zl.l0.s k, cO (cL (cR (cR (cB Tryz.f105))))), (Zl.l1.s k, cO (cR (cL (cR (cR (cR (cR (cB Tryz.f105)))))))), (Zl.l2.s k, cO (cR (cL (cR (cR (cR (cR (cR (cR (cB Tryz.f105)))))))))), (Zl.l3.s k, cO (cR (cL (cR (cR (cR (cR (cR (cR (cR (cR (cB Tryz.f105))))))))))))]) (by kernel_rfl) ⟨Zl.l0.ok k, Zl.l1.ok k, Zl.l2.ok k, Zl.l3.ok k, trivial⟩) (fun x y h => (Zl.ev k x).trans h)
def Zph (k : Nat) (a1 : Str) : Option (Str) :=
 bif decide (8000 < ((a1.length) : Int)) then
  some ([])
 else
 Option.bind (Zl k a1) fun v2 =>
 some v2
def Zph.sig : Sig := { ps := [.val false .str (ros .str)], rs := [.val false [.v .str]], ntmps := 8 }
def Zph.con (k : Nat) : Con := Zph.sig.con (fun x => Zph k x)
def Zph.C (k : Nat) : Ctx := { ti := TAB, con := Zh [(105, Zl.con k)] }
theorem Zph.cok (k : Nat) : CtxOk Tryz.prog (Zph.C k) := Zj Zi ⟨Zl.ok k, trivial⟩
theorem Zph.ev (k : Nat) (x : Za Zph.sig.ins) : Zph.sig.ev (Zph.C k) .auto Tryz.f67.results.toList (cB Tryz.f67) x = Zph k x := by kernel_rfl
theorem Zph.ok (k : Nat) : Zf Tryz.prog 67 (Zph.con k) := Zk (p := .auto) (Zph.cok k) Tryz.func67 (by kernel_rfl) (show Tryz.f67.body = some (cB Tryz.f67) by kernel_rfl) (by kernel_rfl) (by kernel_rfl) (Zd (L := []) (by kernel_rfl) trivial) (fun x y h => (Zph.ev k x).trans h)
def Zjc.l0 : Nat → List Str → Str → Int → Option (Str)
 | 0, _, _, _ => none
 | j + 1, a1, a2, a3 =>
  bif decide (a3 < ((a1.length) : Int)) then
   Option.bind (at? a1 a3) fun v4 =>
   Option.bind (Z6e a2 v4) fun v5 =>
   Zjc.l0 j a1 v5 (IntKind.wrap .i64 (a3 + 1))
  else
  some a2
def Zjc (k : Nat) (a1 : List Str) : Option (Str) :=
 Option.bind (Zjc.l0 k a1 [] 0) fun y2 =>
 some y2
def Zjc.sig : Sig := { ps := [.val false (.sl .str) (ros (.sl .str))], rs := [.val false [.v .str]], ntmps := 18 }
def Zjc.con (k : Nat) : Con := Zjc.sig.con (fun x => Zjc k x)
def Zjc.C (k : Nat) : Ctx := { ti := TAB, con := Zh [] }
theorem Zjc.cok (k : Nat) : CtxOk Tryz.prog (Zjc.C k) := Zj Zi trivial
def Zjc.l0.ish : Shape := { tmps := [(0, .one (.bor .str)), (3, .one (.v .str)), (4, .one (.v (.int .i64)))], slots := [], nb := 0 }
def Zjc.l0.outs : List (Ex × Shape) := [(.exit 0, { tmps := [(3, .one (.v .str))], slots := [], nb := 0 })]
def Zjc.l0.F (k j : Nat) (x : Za Zjc.l0.ish.tys) : Option (Zy Zjc.l0.outs) := Zjc.l0 j x.1 x.2.1 x.2.2
def Zjc.l0.s (k : Nat) : Summ := { n := 18, ish := Zjc.l0.ish, outs := Zjc.l0.outs, f := Zjc.l0.F k k }
theorem Zjc.l0.ev (k j : Nat) (x : Za Zjc.l0.ish.tys) : V (Zjc.C k) .auto (cO (cO (cR (cL (cR (cR (cB Tryz.f68))))))) (mk Zjc.l0.ish 18 x) (fun e st' => match e with | .nrm => (rd Zjc.l0.ish st').bind (Zjc.l0.F k j) | e => Z0 e st' Zjc.l0.outs) = Zjc.l0.F k (j + 1) x := by kernel_rfl
theorem Zjc.l0.ok (k : Nat) : Z1 Tryz.prog (Zjc.C k) (.loop (cO (cO (cR (cL (cR (cR (cB Tryz.f68)))))))) (Zjc.l0.s k) := Z5 (by kernel_rfl) (sum_loop (p := .auto) (F := Zjc.l0.F k) (Zjc.cok k) (by kernel_rfl) (Zd (L := []) (by kernel_rfl) trivial) (fun _ => rfl) (fun j x y h => (Zjc.l0.ev k j x).trans h) k rfl)
theorem Zjc.ev (k : Nat) (x : Za Zjc.sig.ins) : Zjc.sig.ev (Zjc.C k) (.two .auto (.two .auto (.two (.two .auto (.one (.sum (Zjc.l0.s k)))) .auto))) Tryz.f68.results.toList (cB Tryz.f68) x = Zjc k x := by kernel_rfl
theorem Zjc.ok (k : Nat) : Zf Tryz.prog 68 (Zjc.con k) := Zk (p := (.two .auto (.two .auto (.two (.two .auto (.one (.sum (Zjc.l0.s k)))) .auto)))) (Zjc.cok k) Tryz.func68 (by kernel_rfl) (show Tryz.f68.body = some (cB Tryz.f68) by kernel_rfl) (by kernel_rfl) (by kernel_rfl) (Zd (L := [(Zjc.l0.s k, cO (cR (cL (cR (cR (cB Tryz.f68))))))]) (by kernel_rfl) ⟨Zjc.l0.ok k, trivial⟩) (fun x y h => (Zjc.ev k x).trans h)
def Zsg (k : Nat) (a1 : List Str) : Option (Str) :=
 Option.bind (Zfb k a1) fun v2 =>
 bif !v2 then
  some ([])
 else
 Option.bind (Zjc k a1) fun v3 =>
 Option.bind (Zph k v3) fun v4 =>
 some v4
def Zsg.sig : Sig := { ps := [.val false (.sl .str) (ros (.sl .str))], rs := [.val false [.v .str]], ntmps := 9 }
def Zsg.con (k : Nat) : Con := Zsg.sig.con (fun x => Zsg k x)
def Zsg.C (k : Nat) : Ctx := { ti := TAB, con := Zh [(33, Zfb.con k), (67, Zph.con k), (68, Zjc.con k)] }
theorem Zsg.cok (k : Nat) : CtxOk Tryz.prog (Zsg.C k) := Zj Zi ⟨Zfb.ok k, Zph.ok k, Zjc.ok k, trivial⟩
theorem Zsg.ev (k : Nat) (x : Za Zsg.sig.ins) : Zsg.sig.ev (Zsg.C k) .auto Tryz.f36.results.toList (cB Tryz.f36) x = Zsg k x := by kernel_rfl
theorem Zsg.ok (k : Nat) : Zf Tryz.prog 36 (Zsg.con k) := Zk (p := .auto) (Zsg.cok k) Tryz.func36 (by kernel_rfl) (show Tryz.f36.body = some (cB Tryz.f36) by kernel_rfl) (by kernel_rfl) (by kernel_rfl) (Zd (L := []) (by kernel_rfl) trivial) (fun x y h => (Zsg.ev k x).trans h)
def Zvb.l0 : Nat → List G36 → List G36 → Int → Option (Unit ⊕ Bool)
 | 0, _, _, _ => none
 | j + 1, a1, a2, a3 =>
  bif decide (a3 < ((a1.length) : Int)) then
   Option.bind (at? a1 a3) fun v4 =>
   Option.bind (at? a2 a3) fun v5 =>
   bif !((v4.1 == v5.1) && ((v4.2.1 == v5.2.1) && ((v4.2.2.1 == v5.2.2.1) && (v4.2.2.2 == v5.2.2.2)))) then
    some (.inr false)
   else
   Zvb.l0 j a1 a2 (IntKind.wrap .i64 (a3 + 1))
  else
  some (.inl ())
def Zvb (k : Nat) (a1 : List G36) (a2 : List G36) : Option (Bool) :=
 Option.bind (Zvb.l0 k a1 a2 0) fun
  | .inl y3 =>
   some (((a1.length) : Int) == ((a2.length) : Int))
  | .inr y4 =>
   some y4
def Zvb.sig : Sig := { ps := [.val false (.sl T36) (ros (.sl T36)), .val false (.sl T36) (ros (.sl T36))], rs := [.val false [.v .bool]], ntmps := 26 }
def Zvb.con (k : Nat) : Con := Zvb.sig.con (fun x => Zvb k x.1 x.2)
def Zvb.C (k : Nat) : Ctx := { ti := TAB, con := Zh [] }
theorem Zvb.cok (k : Nat) : CtxOk Tryz.prog (Zvb.C k) := Zj Zi trivial
def Zvb.l0.ish : Shape := { tmps := [(0, .one (.bor T36)), (1, .one (.bor T36)), (5, .one (.v (.int .i64)))], slots := [], nb := 0 }
def Zvb.l0.outs : List (Ex × Shape) := [(.exit 0, { tmps := [], slots := [], nb := 0 }), (.ret, { tmps := [(4, .one (.v .bool))], slots := [], nb := 0 })]
def Zvb.l0.F (k j : Nat) (x : Za Zvb.l0.ish.tys) : Option (Zy Zvb.l0.outs) := Zvb.l0 j x.1 x.2.1 x.2.2
def Zvb.l0.s (k : Nat) : Summ := { n := 26, ish := Zvb.l0.ish, outs := Zvb.l0.outs, f := Zvb.l0.F k k }
theorem Zvb.l0.ev (k j : Nat) (x : Za Zvb.l0.ish.tys) : V (Zvb.C k) .auto (cO (cO (cR (cL (cR (cB Tryz.f69)))))) (mk Zvb.l0.ish 26 x) (fun e st' => match e with | .nrm => (rd Zvb.l0.ish st').bind (Zvb.l0.F k j) | e => Z0 e st' Zvb.l0.outs) = Zvb.l0.F k (j + 1) x := by kernel_rfl
theorem Zvb.l0.ok (k : Nat) : Z1 Tryz.prog (Zvb.C k) (.loop (cO (cO (cR (cL (cR (cB Tryz.f69))))))) (Zvb.l0.s k) := Z5 (by kernel_rfl) (sum_loop (p := .auto) (F := Zvb.l0.F k) (Zvb.cok k) (by kernel_rfl) (Zd (L := []) (by kernel_rfl) trivial) (fun _ => rfl) (fun j x y h => (Zvb.l0.ev k j x).trans h) k rfl)
theorem Zvb.ev (k : Nat) (x : Za Zvb.sig.ins) : Zvb.sig.ev (Zvb.C k) (.two .auto (.two (.two .auto (.one (.sum (Zvb.l0.s k)))) .auto)) Tryz.f69.results.toList (cB Tryz.f69) x = Zvb k x.1 x.2 := by kernel_rfl
theorem Zvb.ok (k : Nat) : Zf Tryz.prog 69 (Zvb.con k) := Zk (p := (.two .auto (.two (.two .auto (.one (.sum (Zvb.l0.s k)))) .auto))) (Zvb.cok k) Tryz.func69 (by kernel_rfl) (show Tryz.f69.body = some (cB Tryz.f69) by kernel_rfl) (by kernel_rfl) (by kernel_rfl) (Zd (L := [(Zvb.l0.s k, cO (cR (cL (cR (cB Tryz.f69)))))]) (by kernel_rfl) ⟨Zvb.l0.ok k, trivial⟩) (fun x y h => (Zvb.ev k x).trans h)
def Zzf (k : Nat) (a1 : G26) (a2 : G32) (a3 : G75) : Option (Int × Int × Int × Str × Int × Int × Int × Str) :=
 Option.bind (Zac k a2 a3) fun v4 =>
 let e5 := ((a1.1.2.2.length) : Int)
 bif ((a3.2.2.1 != e5) || (!(a3.2.2.2.2.2.1 == a1.1.2.1))) || (decide (e5 < ((v4.length) : Int))) then
  some (4, 0, 0, [], 0, 0, 0, [])
 else
 Option.bind (Zkd a1.1.2.2 0 ((v4.length) : Int)) fun v6 =>
 Option.bind (Zvb k v4 v6) fun v7 =>
 bif !v7 then
  some (4, 0, 0, [], 0, 0, 0, [])
 else
 bif ((v4.length) : Int) == e5 then
  some (3, 0, 0, [], 0, 0, 0, [])
 else
 Option.bind (at? a1.1.2.2 ((v4.length) : Int)) fun v8 =>
 some (2, 0, 0, [], v8.1, v8.2.1, v8.2.2.1, v8.2.2.2)
def Zzf.sig : Sig := { ps := [.val true T26 (ros T26), .val true T32 (ros T32), .val true T75 (ros T75)], rs := [.val true [.v (.int .i64), .v (.int .i64), .v (.int .i64), .v .str, .v (.int .i64), .v (.int .i64), .v (.int .i64), .v .str]], ntmps := 57 }
def Zzf.con (k : Nat) : Con := Zzf.sig.con (fun x => Zzf k x.1 x.2.1 x.2.2)
def Zzf.C (k : Nat) : Ctx := { ti := TAB, con := Zh [(66, Zac.con k), (69, Zvb.con k)], rob := true }
theorem Zzf.cok (k : Nat) : CtxOk Tryz.prog (Zzf.C k) := Zj Zi ⟨Zac.ok k, Zvb.ok k, trivial⟩
theorem Zzf.ev (k : Nat) (x : Za Zzf.sig.ins) : Zzf.sig.ev (Zzf.C k) .auto Tryz.f37.results.toList (cB Tryz.f37) x = Zzf k x.1 x.2.1 x.2.2 := by kernel_rfl
theorem Zzf.ok (k : Nat) : Zf Tryz.prog 37 (Zzf.con k) := Zk (p := .auto) (Zzf.cok k) Tryz.func37 (by kernel_rfl) (show Tryz.f37.body = some (cB Tryz.f37) by kernel_rfl) (by kernel_rfl) (by kernel_rfl) (Zd (L := []) (by kernel_rfl) trivial) (fun x y h => (Zzf.ev k x).trans h)
def Zmg (k : Nat) (a1 : G26) (a2 : G32) : Option (Int × Int × Int × Str × Int × Int × Int × Str) :=
 Option.bind (Z3d k a2) fun v3 =>
 bif v3.1 == 1 then
  bif !a1.2 then
   some (8, 0, 0, [], 0, 0, 0, [])
  else
  Option.bind (Zec k a2) fun v4 =>
  Option.bind (Zsg k v4) fun v5 =>
  bif v5 == a1.1.2.1 then
   some (8, 0, 0, [], 0, 0, 0, [])
  else
  Option.bind (Zye k a1.1) fun v6 =>
  some (1, v6.2.1, v6.2.2.1, v6.2.2.2, 0, 0, 0, [])
 else
 bif v3.1 == 2 then
  Option.bind (Zzf k a1 a2 (v3.1, (v3.2.1, (v3.2.2.1, (v3.2.2.2.1, (v3.2.2.2.2.1, (v3.2.2.2.2.2.1, (v3.2.2.2.2.2.2.1, v3.2.2.2.2.2.2.2.1)))))))) fun v7 =>
  some (v7.1, v7.2.1, v7.2.2.1, v7.2.2.2.1, v7.2.2.2.2.1, v7.2.2.2.2.2.1, v7.2.2.2.2.2.2.1, v7.2.2.2.2.2.2.2)
 else
 bif v3.1 == 3 then
  some (11, 0, 0, [], 0, 0, 0, [])
 else
 bif v3.1 == 4 then
  bif a1.2 then
   some (5, 0, 0, [], 0, 0, 0, [])
  else
  some (4, 0, 0, [], 0, 0, 0, [])
 else
 some (6, 0, 0, [], 0, 0, 0, [])
def Zmg.sig : Sig := { ps := [.val true T26 (ros T26), .val true T32 (ros T32)], rs := [.val true [.v (.int .i64), .v (.int .i64), .v (.int .i64), .v .str, .v (.int .i64), .v (.int .i64), .v (.int .i64), .v .str]], ntmps := 56 }
def Zmg.con (k : Nat) : Con := Zmg.sig.con (fun x => Zmg k x.1 x.2)
def Zmg.C (k : Nat) : Ctx := { ti := TAB, con := Zh [(31, Zye.con k), (32, Z3d.con k), (34, Zec.con k), (36, Zsg.con k), (37, Zzf.con k)], rob := true }
theorem Zmg.cok (k : Nat) : CtxOk Tryz.prog (Zmg.C k) := Zj Zi ⟨Zye.ok k, Z3d.ok k, Zec.ok k, Zsg.ok k, Zzf.ok k, trivial⟩
theorem Zmg.ev (k : Nat) (x : Za Zmg.sig.ins) : Zmg.sig.ev (Zmg.C k) .auto Tryz.f17.results.toList (cB Tryz.f17) x = Zmg k x.1 x.2 := by kernel_rfl
theorem Zmg.ok (k : Nat) : Zf Tryz.prog 17 (Zmg.con k) := Zk (p := .auto) (Zmg.cok k) Tryz.func17 (by kernel_rfl) (show Tryz.f17.body = some (cB Tryz.f17) by kernel_rfl) (by kernel_rfl) (by kernel_rfl) (Zd (L := []) (by kernel_rfl) trivial) (fun x y h => (Zmg.ev k x).trans h)
def Zbf (k : Nat) (a1 : G26) (a2 : G32) : Option (Int × Int × Int × Str × Int × Int × Int × Str) :=
 Option.bind (Zqf k a1) fun v3 =>
 bif !v3 then
  some (0, 0, 0, [], 0, 0, 0, [])
 else
 Option.bind (Zuf k a2) fun v4 =>
 bif !v4 then
  some (0, 0, 0, [], 0, 0, 0, [])
 else
 Option.bind (Zmg k a1 a2) fun v5 =>
 some (v5.1, v5.2.1, v5.2.2.1, v5.2.2.2.1, v5.2.2.2.2.1, v5.2.2.2.2.2.1, v5.2.2.2.2.2.2.1, v5.2.2.2.2.2.2.2)
def Zbf.sig : Sig := { ps := [.val true T26 (ros T26), .val true T32 (ros T32)], rs := [.val true [.v (.int .i64), .v (.int .i64), .v (.int .i64), .v .str, .v (.int .i64), .v (.int .i64), .v (.int .i64), .v .str]], ntmps := 17 }
def Zbf.con (k : Nat) : Con := Zbf.sig.con (fun x => Zbf k x.1 x.2)
def Zbf.C (k : Nat) : Ctx := { ti := TAB, con := Zh [(15, Zqf.con k), (16, Zuf.con k), (17, Zmg.con k)], rob := true }
theorem Zbf.cok (k : Nat) : CtxOk Tryz.prog (Zbf.C k) := Zj Zi ⟨Zqf.ok k, Zuf.ok k, Zmg.ok k, trivial⟩
theorem Zbf.ev (k : Nat) (x : Za Zbf.sig.ins) : Zbf.sig.ev (Zbf.C k) .auto Tryz.f6.results.toList (cB Tryz.f6) x = Zbf k x.1 x.2 := by kernel_rfl
theorem Zbf.ok (k : Nat) : Zf Tryz.prog 6 (Zbf.con k) := Zk (p := .auto) (Zbf.cok k) Tryz.func6 (by kernel_rfl) (show Tryz.f6.body = some (cB Tryz.f6) by kernel_rfl) (by kernel_rfl) (by kernel_rfl) (Zd (L := []) (by kernel_rfl) trivial) (fun x y h => (Zbf.ev k x).trans h)
end Go.Proofs.YtfbancgdmghnkaaGreatDoorE
