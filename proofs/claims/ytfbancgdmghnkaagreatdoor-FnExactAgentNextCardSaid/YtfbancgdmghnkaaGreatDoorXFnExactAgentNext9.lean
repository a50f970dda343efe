/- What the law FnExactAgentNext needs, part 10 of 13: the Lean functions of the Go functions that it reaches, with the proofs that the calls come to what they say, and plain facts about them. Conditions: those that each theorem states. Written by a session and by its programs (after the kit's printer). -/
import Derived.Test.YtfbancgdmghnkaaGreatDoorXFnExactAgentNext5
import Derived.Test.YtfbancgdmghnkaaGreatDoorXFnExactAgentNext8
namespace Go.Proofs.YtfbancgdmghnkaaGreatDoorE
open Go Go.RowKit
set_option linter.unusedVariables false
def Zug (k : Nat) (a1 : Str) : Option (Str) :=
 Option.bind (Zx k 0 a1) fun v2 =>
 Option.bind (Z6c 8) fun v3 =>
 Option.bind (Z6c 16) fun v4 =>
 Option.bind (Z6c 24) fun v5 =>
 Option.bind (Z6e a1 (Zbd [(IntKind.wrap .u8 v2), (IntKind.wrap .u8 (shr .u32 v2 8)), (IntKind.wrap .u8 (shr .u32 v2 16)), (IntKind.wrap .u8 (shr .u32 v2 24))])) fun v6 =>
 some v6
def Zug.sig : Sig := { ps := [.val false .str (ros .str)], rs := [.val false [.v .str]], ntmps := 21 }
def Zug.con (k : Nat) : Con := Zug.sig.con (fun x => Zug k x)
def Zug.C (k : Nat) : Ctx := { ti := TAB, con := Zh [(181, Zx.con k)] }
theorem Zug.cok (k : Nat) : CtxOk Tryz.prog (Zug.C k) := Zj Zi ⟨Zx.ok k, trivial⟩
theorem Zug.ev (k : Nat) (x : Za Zug.sig.ins) : Zug.sig.ev (Zug.C k) .auto Tryz.f170.results.toList (cB Tryz.f170) x = Zug k x := by kernel_rfl
theorem Zug.ok (k : Nat) : Zf Tryz.prog 170 (Zug.con k) := Zk (p := .auto) (Zug.cok k) Tryz.func170 (by kernel_rfl) (show Tryz.f170.body = some (cB Tryz.f170) by kernel_rfl) (by kernel_rfl) (by kernel_rfl) (Zd (L := []) (by kernel_rfl) trivial) (fun x y h => (Zug.ev k x).trans h)
def Z4e (k : Nat) (a1 : Str) : Option (Str × Int) :=
 bif decide (((a1.length) : Int) < 4) then
  some ([], 4)
 else
 Option.bind (Zkd a1 0 (IntKind.wrap .i64 (((a1.length) : Int) - 4))) fun v2 =>
 Option.bind (Zug k v2) fun v3 =>
 bif !(v3 == a1) then
  some ([], 5)
 else
 some (v2, 0)
def Z4e.sig : Sig := { ps := [.val false .str (ros .str)], rs := [.val false [.v .str], .val false [.v (.int .i64)]], ntmps := 18 }
def Z4e.con (k : Nat) : Con := Z4e.sig.con (fun x => Z4e k x)
def Z4e.C (k : Nat) : Ctx := { ti := TAB, con := Zh [(170, Zug.con k)] }
theorem Z4e.cok (k : Nat) : CtxOk Tryz.prog (Z4e.C k) := Zj Zi ⟨Zug.ok k, trivial⟩
theorem Z4e.ev (k : Nat) (x : Za Z4e.sig.ins) : Z4e.sig.ev (Z4e.C k) .auto Tryz.f143.results.toList (cB Tryz.f143) x = Z4e k x := by kernel_rfl
theorem Z4e.ok (k : Nat) : Zf Tryz.prog 143 (Z4e.con k) := Zk (p := .auto) (Z4e.cok k) Tryz.func143 (by kernel_rfl) (show Tryz.f143.body = some (cB Tryz.f143) by kernel_rfl) (by kernel_rfl) (by kernel_rfl) (Zd (L := []) (by kernel_rfl) trivial) (fun x y h => (Z4e.ev k x).trans h)
def Zgf (k : Nat) (a1 : Str) : Option (Int × Str × Int) :=
 Option.bind (Z4e k a1) fun v2 =>
 bif v2.2 != 0 then
  some (0, [], v2.2)
 else
 Option.bind (Z0c k (v2.1, (0, false))) fun v3 =>
 Option.bind (Zpd k v3.2) fun v4 =>
 bif v4.2.2.2 || (v4.2.2.1 != ((v2.1.length) : Int)) then
  some (0, [], 3)
 else
 Option.bind (Zgb v3.1 1 1000000) fun v5 =>
 bif (!v5) || (decide (80 < ((v4.1.length) : Int))) then
  some (0, [], 3)
 else
 some (v3.1, v4.1, 0)
def Zgf.sig : Sig := { ps := [.val false .str (ros .str)], rs := [.val true [.v (.int .i64), .v .str, .v (.int .i64)]], ntmps := 51 }
def Zgf.con (k : Nat) : Con := Zgf.sig.con (fun x => Zgf k x)
def Zgf.C (k : Nat) : Ctx := { ti := TAB, con := Zh [(109, Zgb.con k), (114, Z0c.con k), (115, Zpd.con k), (143, Z4e.con k)] }
theorem Zgf.cok (k : Nat) : CtxOk Tryz.prog (Zgf.C k) := Zj Zi ⟨Zgb.ok k, Z0c.ok k, Zpd.ok k, Z4e.ok k, trivial⟩
theorem Zgf.ev (k : Nat) (x : Za Zgf.sig.ins) : Zgf.sig.ev (Zgf.C k) .auto Tryz.f113.results.toList (cB Tryz.f113) x = Zgf k x := by kernel_rfl
theorem Zgf.ok (k : Nat) : Zf Tryz.prog 113 (Zgf.con k) := Zk (p := .auto) (Zgf.cok k) Tryz.func113 (by kernel_rfl) (show Tryz.f113.body = some (cB Tryz.f113) by kernel_rfl) (by kernel_rfl) (by kernel_rfl) (Zd (L := []) (by kernel_rfl) trivial) (fun x y h => (Zgf.ev k x).trans h)
def Zxb.l0 (k : Nat) : Nat → List Str → List Zld → Int → Int → Int → Str → Int → Option ((Int × Int × Str × Int))
 | 0, _, _, _, _, _, _, _ => none
 | j + 1, a1, a2, a3, a4, a5, a6, a7 =>
  bif decide (a4 < 2) then
   Option.bind (Zvd k (a1, a2) a4) fun v8 =>
   Option.bind (Zgf k v8) fun v9 =>
   let e10 := IntKind.wrap .i64 (a4 + 1)
   bif (v9.2.2 == 0) && ((decide (a3 < 0)) || (decide (a5 < v9.1))) then
    Zxb.l0 k j a1 a2 a4 e10 v9.1 v9.2.1 v9.2.2
   else
   Zxb.l0 k j a1 a2 a3 e10 a5 a6 a7
  else
  some (a3, a5, a6, a7)
def Zxb (k : Nat) (a1 : G30) : Option (Int × Str × Int × Int) :=
 Option.bind (Zxb.l0 k k a1.1 a1.2 (-1) 0 0 [] 6) fun y2 =>
 some (y2.2.1, y2.2.2.1, y2.2.2.2, y2.1)
def Zxb.sig : Sig := { ps := [.val true T30 (ros T30)], rs := [.val true [.v (.int .i64), .v .str, .v (.int .i64)], .val false [.v (.int .i64)]], ntmps := 35 }
def Zxb.con (k : Nat) : Con := Zxb.sig.con (fun x => Zxb k x)
def Zxb.C (k : Nat) : Ctx := { ti := TAB, con := Zh [(86, Zvd.con k), (113, Zgf.con k)], rob := true }
theorem Zxb.cok (k : Nat) : CtxOk Tryz.prog (Zxb.C k) := Zj Zi ⟨Zvd.ok k, Zgf.ok k, trivial⟩
def Zxb.l0.ish : Shape := { tmps := [(1, .eptr [.bor .str, .bor Z7c]), (4, .one (.ptr 1 0)), (5, .one (.v (.int .i64))), (9, .one (.v (.int .i64)))], slots := [(1, .box 109 [.v (.int .i64), .v .str, .v (.int .i64)])], nb := 2 }
def Zxb.l0.outs : List (Ex × Shape) := [(.exit 0, { tmps := [(5, .one (.v (.int .i64)))], slots := [(1, .box 109 [.v (.int .i64), .v .str, .v (.int .i64)])], nb := 2 })]
def Zxb.l0.F (k j : Nat) (x : Za Zxb.l0.ish.tys) : Option (Zy Zxb.l0.outs) := Zxb.l0 k j x.1 x.2.1 x.2.2.1 x.2.2.2.1 x.2.2.2.2.1 x.2.2.2.2.2.1 x.2.2.2.2.2.2
def Zxb.l0.s (k : Nat) : Summ := { n := 35, ish := Zxb.l0.ish, outs := Zxb.l0.outs, f := Zxb.l0.F k k }
theorem Zxb.l0.ev (k j : Nat) (x : Za Zxb.l0.ish.tys) : V (Zxb.C k) .auto (cO (cO (cR (cL (cR (cR (cB Tryz.f82))))))) (mk Zxb.l0.ish 35 x) (fun e st' => match e with | .nrm => (rd Zxb.l0.ish st').bind (Zxb.l0.F k j) | e => Z0 e st' Zxb.l0.outs) = Zxb.l0.F k (j + 1) x := by kernel_rfl
theorem Zxb.l0.ok (k : Nat) : Z1 Tryz.prog (Zxb.C k) (.loop (cO (cO (cR (cL (cR (cR (cB Tryz.f82)))))))) (Zxb.l0.s k) := Z5 (by kernel_rfl) (sum_loop (p := .auto) (F := Zxb.l0.F k) (Zxb.cok k) (by kernel_rfl) (Zd (L := []) (by kernel_rfl) trivial) (fun _ => rfl) (fun j x y h => (Zxb.l0.ev k j x).trans h) k rfl)
theorem Zxb.ev (k : Nat) (x : Za Zxb.sig.ins) : Zxb.sig.ev (Zxb.C k) (.two .auto (.two .auto (.two (.two .auto (.one (.sum (Zxb.l0.s k)))) .auto))) Tryz.f82.results.toList (cB Tryz.f82) x = Zxb k x := by kernel_rfl
theorem Zxb.ok (k : Nat) : Zf Tryz.prog 82 (Zxb.con k) := Zk (p := (.two .auto (.two .auto (.two (.two .auto (.one (.sum (Zxb.l0.s k)))) .auto)))) (Zxb.cok k) Tryz.func82 (by kernel_rfl) (show Tryz.f82.body = some (cB Tryz.f82) by kernel_rfl) (by kernel_rfl) (by kernel_rfl) (Zd (L := [(Zxb.l0.s k, cO (cR (cL (cR (cR (cB Tryz.f82))))))]) (by kernel_rfl) ⟨Zxb.l0.ok k, trivial⟩) (fun x y h => (Zxb.ev k x).trans h)
def Zgc.l0 : Nat → Int → Int → List Int → Option ((List Int))
 | 0, _, _, _ => none
 | j + 1, a1, a2, a3 =>
  bif decide (a2 < 24) then
   Option.bind (Z6c a2) fun v4 =>
   let e5 := IntKind.wrap .i64 (a2 + 1)
   bif (intBits .and .i64 (shr .i64 a1 a2) 1) == 1 then
    Option.bind (Z2d 8 a3 [a2]) fun v6 =>
    Zgc.l0 j a1 e5 v6
   else
   Zgc.l0 j a1 e5 a3
  else
  some a3
def Zgc (k : Nat) (a1 : Int) : Option (List Int) :=
 Option.bind (Zgc.l0 k a1 0 []) fun y2 =>
 some y2
def Zgc.sig : Sig := { ps := [.val false (.int .i64) (ros (.int .i64))], rs := [.val false [.own 2 (.int .i64)]], ntmps := 19 }
def Zgc.con (k : Nat) : Con := Zgc.sig.con (fun x => Zgc k x)
def Zgc.C (k : Nat) : Ctx := { ti := TAB, con := Zh [] }
theorem Zgc.cok (k : Nat) : CtxOk Tryz.prog (Zgc.C k) := Zj Zi trivial
def Zgc.l0.ish : Shape := { tmps := [(0, .one (.v (.int .i64))), (3, .one (.own 0)), (5, .one (.v (.int .i64)))], slots := [(0, .arr false 2 (.int .i64))], nb := 1 }
def Zgc.l0.outs : List (Ex × Shape) := [(.exit 0, { tmps := [(3, .one (.own 1))], slots := [(1, .arr false 2 (.int .i64))], nb := 2 })]
def Zgc.l0.F (k j : Nat) (x : Za Zgc.l0.ish.tys) : Option (Zy Zgc.l0.outs) := Zgc.l0 j x.1 x.2.1 x.2.2
def Zgc.l0.s (k : Nat) : Summ := { n := 19, ish := Zgc.l0.ish, outs := Zgc.l0.outs, f := Zgc.l0.F k k }
theorem Zgc.l0.ev (k j : Nat) (x : Za Zgc.l0.ish.tys) : V (Zgc.C k) .auto (cO (cO (cR (cL (cR (cR (cB Tryz.f116))))))) (mk Zgc.l0.ish 19 x) (fun e st' => match e with | .nrm => (rd Zgc.l0.ish st').bind (Zgc.l0.F k j) | e => Z0 e st' Zgc.l0.outs) = Zgc.l0.F k (j + 1) x := by kernel_rfl
theorem Zgc.l0.ok (k : Nat) : Z1 Tryz.prog (Zgc.C k) (.loop (cO (cO (cR (cL (cR (cR (cB Tryz.f116)))))))) (Zgc.l0.s k) := Z5 (by kernel_rfl) (sum_loop (p := .auto) (F := Zgc.l0.F k) (Zgc.cok k) (by kernel_rfl) (Zd (L := []) (by kernel_rfl) trivial) (fun _ => rfl) (fun j x y h => (Zgc.l0.ev k j x).trans h) k rfl)
theorem Zgc.ev (k : Nat) (x : Za Zgc.sig.ins) : Zgc.sig.ev (Zgc.C k) (.two .auto (.two .auto (.two (.two .auto (.one (.sum (Zgc.l0.s k)))) .auto))) Tryz.f116.results.toList (cB Tryz.f116) x = Zgc k x := by kernel_rfl
theorem Zgc.ok (k : Nat) : Zf Tryz.prog 116 (Zgc.con k) := Zk (p := (.two .auto (.two .auto (.two (.two .auto (.one (.sum (Zgc.l0.s k)))) .auto)))) (Zgc.cok k) Tryz.func116 (by kernel_rfl) (show Tryz.f116.body = some (cB Tryz.f116) by kernel_rfl) (by kernel_rfl) (by kernel_rfl) (Zd (L := [(Zgc.l0.s k, cO (cR (cL (cR (cR (cB Tryz.f116))))))]) (by kernel_rfl) ⟨Zgc.l0.ok k, trivial⟩) (fun x y h => (Zgc.ev k x).trans h)
def Zhc.l0 : Nat → List Int → List Int → Int → Int → Option (Unit ⊕ Bool)
 | 0, _, _, _, _ => none
 | j + 1, a1, a2, a3, a4 =>
  bif decide (a4 < a3) then
   Option.bind (at? a2 a4) fun v5 =>
   Option.bind (Zgb v5 0 23) fun v6 =>
   bif !v6 then
    some (.inr false)
   else
   let e7 := IntKind.wrap .i64 (a4 + 1)
   bif decide (0 < a4) then
    Option.bind (at? a1 (IntKind.wrap .i64 (a4 - 1))) fun v8 =>
    bif decide (v5 ≤ v8) then
     some (.inr false)
    else
    Zhc.l0 j a1 a2 a3 e7
   else
   Zhc.l0 j a1 a2 a3 e7
  else
  some (.inl ())
def Zhc (k : Nat) (a1 : List Int) : Option (Bool) :=
 Option.bind (Zhc.l0 k a1 a1 ((a1.length) : Int) 0) fun
  | .inl y2 =>
   some true
  | .inr y3 =>
   some y3
def Zhc.sig : Sig := { ps := [.val false (.sl (.int .i64)) (ros (.sl (.int .i64)))], rs := [.val false [.v .bool]], ntmps := 29 }
def Zhc.con (k : Nat) : Con := Zhc.sig.con (fun x => Zhc k x)
def Zhc.C (k : Nat) : Ctx := { ti := TAB, con := Zh [(109, Zgb.con k)] }
theorem Zhc.cok (k : Nat) : CtxOk Tryz.prog (Zhc.C k) := Zj Zi ⟨Zgb.ok k, trivial⟩
def Zhc.l0.ish : Shape := { tmps := [(0, .one (.bor (.int .i64))), (5, .one (.bor (.int .i64))), (6, .one (.v (.int .i64))), (7, .one (.v (.int .i64)))], slots := [], nb := 0 }
def Zhc.l0.outs : List (Ex × Shape) := [(.exit 0, { tmps := [], slots := [], nb := 0 }), (.ret, { tmps := [(2, .one (.v .bool))], slots := [], nb := 0 })]
def Zhc.l0.F (k j : Nat) (x : Za Zhc.l0.ish.tys) : Option (Zy Zhc.l0.outs) := Zhc.l0 j x.1 x.2.1 x.2.2.1 x.2.2.2
def Zhc.l0.s (k : Nat) : Summ := { n := 29, ish := Zhc.l0.ish, outs := Zhc.l0.outs, f := Zhc.l0.F k k }
theorem Zhc.l0.ev (k j : Nat) (x : Za Zhc.l0.ish.tys) : V (Zhc.C k) .auto (cO (cO (cR (cL (cR (cB Tryz.f146)))))) (mk Zhc.l0.ish 29 x) (fun e st' => match e with | .nrm => (rd Zhc.l0.ish st').bind (Zhc.l0.F k j) | e => Z0 e st' Zhc.l0.outs) = Zhc.l0.F k (j + 1) x := by kernel_rfl
theorem Zhc.l0.ok (k : Nat) : Z1 Tryz.prog (Zhc.C k) (.loop (cO (cO (cR (cL (cR (cB Tryz.f146))))))) (Zhc.l0.s k) := Z5 (by kernel_rfl) (sum_loop (p := .auto) (F := Zhc.l0.F k) (Zhc.cok k) (by kernel_rfl) (Zd (L := []) (by kernel_rfl) trivial) (fun _ => rfl) (fun j x y h => (Zhc.l0.ev k j x).trans h) k rfl)
theorem Zhc.ev (k : Nat) (x : Za Zhc.sig.ins) : Zhc.sig.ev (Zhc.C k) (.two .auto (.two (.two .auto (.one (.sum (Zhc.l0.s k)))) .auto)) Tryz.f146.results.toList (cB Tryz.f146) x = Zhc k x := by kernel_rfl
theorem Zhc.ok (k : Nat) : Zf Tryz.prog 146 (Zhc.con k) := Zk (p := (.two .auto (.two (.two .auto (.one (.sum (Zhc.l0.s k)))) .auto))) (Zhc.cok k) Tryz.func146 (by kernel_rfl) (show Tryz.f146.body = some (cB Tryz.f146) by kernel_rfl) (by kernel_rfl) (by kernel_rfl) (Zd (L := [(Zhc.l0.s k, cO (cR (cL (cR (cB Tryz.f146)))))]) (by kernel_rfl) ⟨Zhc.l0.ok k, trivial⟩) (fun x y h => (Zhc.ev k x).trans h)
def Znc.l0 : Nat → Int → List Int → Int → Int → Option (Int)
 | 0, _, _, _, _ => none
 | j + 1, a1, a2, a3, a4 =>
  bif decide (a4 < a3) then
   Option.bind (at? a2 a4) fun v5 =>
   Option.bind (Z6c v5) fun v6 =>
   Znc.l0 j (intBits .or .i64 a1 (shl .i64 1 v5)) a2 a3 (IntKind.wrap .i64 (a4 + 1))
  else
  some a1
def Znc (k : Nat) (a1 : List Int) : Option (Int) :=
 Option.bind (Znc.l0 k 0 a1 ((a1.length) : Int) 0) fun y2 =>
 some y2
def Znc.sig : Sig := { ps := [.val false (.sl (.int .i64)) (ros (.sl (.int .i64)))], rs := [.val false [.v (.int .i64)]], ntmps := 18 }
def Znc.con (k : Nat) : Con := Znc.sig.con (fun x => Znc k x)
def Znc.C (k : Nat) : Ctx := { ti := TAB, con := Zh [] }
theorem Znc.cok (k : Nat) : CtxOk Tryz.prog (Znc.C k) := Zj Zi trivial
def Znc.l0.ish : Shape := { tmps := [(3, .one (.v (.int .i64))), (6, .one (.bor (.int .i64))), (7, .one (.v (.int .i64))), (8, .one (.v (.int .i64)))], slots := [], nb := 0 }
def Znc.l0.outs : List (Ex × Shape) := [(.exit 0, { tmps := [(3, .one (.v (.int .i64)))], slots := [], nb := 0 })]
def Znc.l0.F (k j : Nat) (x : Za Znc.l0.ish.tys) : Option (Zy Znc.l0.outs) := Znc.l0 j x.1 x.2.1 x.2.2.1 x.2.2.2
def Znc.l0.s (k : Nat) : Summ := { n := 18, ish := Znc.l0.ish, outs := Znc.l0.outs, f := Znc.l0.F k k }
theorem Znc.l0.ev (k j : Nat) (x : Za Znc.l0.ish.tys) : V (Znc.C k) .auto (cO (cO (cR (cL (cR (cR (cB Tryz.f147))))))) (mk Znc.l0.ish 18 x) (fun e st' => match e with | .nrm => (rd Znc.l0.ish st').bind (Znc.l0.F k j) | e => Z0 e st' Znc.l0.outs) = Znc.l0.F k (j + 1) x := by kernel_rfl
theorem Znc.l0.ok (k : Nat) : Z1 Tryz.prog (Znc.C k) (.loop (cO (cO (cR (cL (cR (cR (cB Tryz.f147)))))))) (Znc.l0.s k) := Z5 (by kernel_rfl) (sum_loop (p := .auto) (F := Znc.l0.F k) (Znc.cok k) (by kernel_rfl) (Zd (L := []) (by kernel_rfl) trivial) (fun _ => rfl) (fun j x y h => (Znc.l0.ev k j x).trans h) k rfl)
theorem Znc.ev (k : Nat) (x : Za Znc.sig.ins) : Znc.sig.ev (Znc.C k) (.two .auto (.two .auto (.two (.two .auto (.one (.sum (Znc.l0.s k)))) .auto))) Tryz.f147.results.toList (cB Tryz.f147) x = Znc k x := by kernel_rfl
theorem Znc.ok (k : Nat) : Zf Tryz.prog 147 (Znc.con k) := Zk (p := (.two .auto (.two .auto (.two (.two .auto (.one (.sum (Znc.l0.s k)))) .auto)))) (Znc.cok k) Tryz.func147 (by kernel_rfl) (show Tryz.f147.body = some (cB Tryz.f147) by kernel_rfl) (by kernel_rfl) (by kernel_rfl) (Zd (L := [(Znc.l0.s k, cO (cR (cL (cR (cR (cB Tryz.f147))))))]) (by kernel_rfl) ⟨Znc.l0.ok k, trivial⟩) (fun x y h => (Znc.ev k x).trans h)
def Zqh (a1 : List Int) : Option (Int) :=
 some ((a1.length) : Int)
def Zqh.sig : Sig := { ps := [.val false (.sl (.int .i64)) (ros (.sl (.int .i64)))], rs := [.val false [.v (.int .i64)]], ntmps := 5 }
def Zqh.con (k : Nat) : Con := Zqh.sig.con (fun x => Zqh x)
def Zqh.C (k : Nat) : Ctx := { ti := TAB, con := Zh [] }
theorem Zqh.cok (k : Nat) : CtxOk Tryz.prog (Zqh.C k) := Zj Zi trivial
theorem Zqh.ev (k : Nat) (x : Za Zqh.sig.ins) : Zqh.sig.ev (Zqh.C k) .auto Tryz.f148.results.toList (cB Tryz.f148) x = Zqh x := by kernel_rfl
theorem Zqh.ok (k : Nat) : Zf Tryz.prog 148 (Zqh.con k) := Zk (p := .auto) (Zqh.cok k) Tryz.func148 (by kernel_rfl) (show Tryz.f148.body = some (cB Tryz.f148) by kernel_rfl) (by kernel_rfl) (by kernel_rfl) (Zd (L := []) (by kernel_rfl) trivial) (fun x y h => (Zqh.ev k x).trans h)
def Z9g (k : Nat) (a1 : G75) : Option (Bool) :=
 Option.bind (Zgb a1.1 1 5) fun v2 =>
 bif !v2 then
  some false
 else
 Option.bind (Zhc k a1.2.2.2.2.2.2.1) fun v3 =>
 bif !v3 then
  some false
 else
 Option.bind (Zhc k a1.2.2.2.2.2.2.2) fun v4 =>
 bif !v4 then
  some false
 else
 Option.bind (Znc k a1.2.2.2.2.2.2.1) fun v5 =>
 Option.bind (Znc k a1.2.2.2.2.2.2.2) fun v6 =>
 bif (intBits .and .i64 v5 v6) != 0 then
  some false
 else
 let e7 := a1.2.1 == 0
 let e8 := a1.2.2.2.2.1 == 0
 bif a1.1 == 1 then
  some (((((e7 && (a1.2.2.1 == 0)) && (a1.2.2.2.1 == 0)) && e8) && (a1.2.2.2.2.2.1 == [])) && (((a1.2.2.2.2.2.2.2.length) : Int) == 0))
 else
 Option.bind (Zgb a1.2.2.1 1 20) fun v9 =>
 bif v9 then
  Option.bind (Zgb a1.2.2.2.1 0 4) fun v10 =>
  bif v10 then
   Option.bind (Zqh a1.2.2.2.2.2.2.2) fun v11 =>
   bif v11 == (IntKind.wrap .i64 (a1.2.2.1 + a1.2.2.2.1)) then
    bif ((a1.2.2.2.2.2.1.length) : Int) == 32 then
     Option.bind (Zgb a1.2.1 0 2) fun v12 =>
     bif v12 then
      let e13 := a1.1 == 5
      bif e7 then
       Option.bind (Zgb a1.2.2.2.2.1 0 40) fun v14 =>
       bif v14 then
        bif e8 then
         some true
        else
        some e13
       else
       some false
      else
      bif a1.1 == 4 then
       Option.bind (Zgb a1.2.2.2.2.1 0 40) fun v15 =>
       bif v15 then
        bif e8 then
         some true
        else
        some e13
       else
       some false
      else
      some false
     else
     some false
    else
    some false
   else
   some false
  else
  some false
 else
 some false
def Z9g.sig : Sig := { ps := [.val true T75 (ros T75)], rs := [.val false [.v .bool]], ntmps := 116 }
def Z9g.con (k : Nat) : Con := Z9g.sig.con (fun x => Z9g k x)
def Z9g.C (k : Nat) : Ctx := { ti := TAB, con := Zh [(109, Zgb.con k), (146, Zhc.con k), (147, Znc.con k), (148, Zqh.con k)], rob := true }
theorem Z9g.cok (k : Nat) : CtxOk Tryz.prog (Z9g.C k) := Zj Zi ⟨Zgb.ok k, Zhc.ok k, Znc.ok k, Zqh.ok k, trivial⟩
theorem Z9g.ev (k : Nat) (x : Za Z9g.sig.ins) : Z9g.sig.ev (Z9g.C k) .auto Tryz.f117.results.toList (cB Tryz.f117) x = Z9g k x := by kernel_rfl
theorem Z9g.ok (k : Nat) : Zf Tryz.prog 117 (Z9g.con k) := Zk (p := .auto) (Z9g.cok k) Tryz.func117 (by kernel_rfl) (show Tryz.f117.body = some (cB Tryz.f117) by kernel_rfl) (by kernel_rfl) (by kernel_rfl) (Zd (L := []) (by kernel_rfl) trivial) (fun x y h => (Z9g.ev k x).trans h)
def Ztg (k : Nat) (a1 : Str) : Option (Int × Int × Int × Int × Int × Str × List Int × List Int × Bool) :=
 Option.bind (Z0c k (a1, (0, false))) fun v2 =>
 Option.bind (Z0c k v2.2) fun v3 =>
 Option.bind (Z0c k v3.2) fun v4 =>
 Option.bind (Z0c k v4.2) fun v5 =>
 Option.bind (Z0c k v5.2) fun v6 =>
 Option.bind (Z0c k v6.2) fun v7 =>
 Option.bind (Z0c k v7.2) fun v8 =>
 Option.bind (Zpd k v8.2) fun v9 =>
 bif v9.2.2.2 || (v9.2.2.1 != ((a1.length) : Int)) then
  some (0, 0, 0, 0, 0, [], [], [], false)
 else
 Option.bind (Zgb v7.1 0 16777215) fun v10 =>
 bif !v10 then
  some (0, 0, 0, 0, 0, [], [], [], false)
 else
 Option.bind (Zgb v8.1 0 16777215) fun v11 =>
 bif !v11 then
  some (0, 0, 0, 0, 0, [], [], [], false)
 else
 Option.bind (Zgc k v7.1) fun v12 =>
 Option.bind (Zgc k v8.1) fun v13 =>
 Option.bind (Z9g k (v2.1, (v3.1, (v4.1, (v5.1, (v6.1, (v9.1, (v12, v13)))))))) fun v14 =>
 bif !v14 then
  some (0, 0, 0, 0, 0, [], [], [], false)
 else
 some (v2.1, v3.1, v4.1, v5.1, v6.1, v9.1, v12, v13, true)
def Ztg.sig : Sig := { ps := [.val false .str (ros .str)], rs := [.val true [.v (.int .i64), .v (.int .i64), .v (.int .i64), .v (.int .i64), .v (.int .i64), .v .str, .own 2 (.int .i64), .own 2 (.int .i64)], .val false [.v .bool]], ntmps := 64 }
def Ztg.con (k : Nat) : Con := Ztg.sig.con (fun x => Ztg k x)
def Ztg.C (k : Nat) : Ctx := { ti := TAB, con := Zh [(109, Zgb.con k), (114, Z0c.con k), (115, Zpd.con k), (116, Zgc.con k), (117, Z9g.con k)] }
theorem Ztg.cok (k : Nat) : CtxOk Tryz.prog (Ztg.C k) := Zj Zi ⟨Zgb.ok k, Z0c.ok k, Zpd.ok k, Zgc.ok k, Z9g.ok k, trivial⟩
theorem Ztg.ev (k : Nat) (x : Za Ztg.sig.ins) : Ztg.sig.ev (Ztg.C k) .auto Tryz.f83.results.toList (cB Tryz.f83) x = Ztg k x := by kernel_rfl
theorem Ztg.ok (k : Nat) : Zf Tryz.prog 83 (Ztg.con k) := Zk (p := .auto) (Ztg.cok k) Tryz.func83 (by kernel_rfl) (show Tryz.f83.body = some (cB Tryz.f83) by kernel_rfl) (by kernel_rfl) (by kernel_rfl) (Zd (L := []) (by kernel_rfl) trivial) (fun x y h => (Ztg.ev k x).trans h)
def Z4d (k : Nat) (a1 : G32) : Option (Int × Int × Int × Int × Int × Str × List Int × List Int × Bool) :=
 Option.bind (Z7d a1.1) fun v2 =>
 bif !v2 then
  some (0, 0, 0, 0, 0, [], [], [], false)
 else
 Option.bind (Zic k a1.2) fun v3 =>
 bif !v3 then
  some (0, 0, 0, 0, 0, [], [], [], false)
 else
 Option.bind (Zqd a1.2.1) fun v4 =>
 bif v4 != (IntKind.wrap .i64 ((IntKind.wrap .i64 (3 + a1.1)) + 24)) then
  some (0, 0, 0, 0, 0, [], [], [], false)
 else
 Option.bind (Zxb k a1.2) fun v5 =>
 bif decide (v5.2.2.2 < 0) then
  some (0, 0, 0, 0, 0, [], [], [], false)
 else
 Option.bind (Ztg k v5.2.1) fun v6 =>
 some (v6.1, v6.2.1, v6.2.2.1, v6.2.2.2.1, v6.2.2.2.2.1, v6.2.2.2.2.2.1, v6.2.2.2.2.2.2.1, v6.2.2.2.2.2.2.2.1, v6.2.2.2.2.2.2.2.2)
def Z4d.sig : Sig := { ps := [.val true T32 (ros T32)], rs := [.val true [.v (.int .i64), .v (.int .i64), .v (.int .i64), .v (.int .i64), .v (.int .i64), .v .str, .own 2 (.int .i64), .own 2 (.int .i64)], .val false [.v .bool]], ntmps := 42 }
def Z4d.con (k : Nat) : Con := Z4d.sig.con (fun x => Z4d k x)
def Z4d.C (k : Nat) : Ctx := { ti := TAB, con := Zh [(79, Z7d.con k), (80, Zic.con k), (81, Zqd.con k), (82, Zxb.con k), (83, Ztg.con k)], rob := true }
theorem Z4d.cok (k : Nat) : CtxOk Tryz.prog (Z4d.C k) := Zj Zi ⟨Z7d.ok k, Zic.ok k, Zqd.ok k, Zxb.ok k, Ztg.ok k, trivial⟩
theorem Z4d.ev (k : Nat) (x : Za Z4d.sig.ins) : Z4d.sig.ev (Z4d.C k) .auto Tryz.f44.results.toList (cB Tryz.f44) x = Z4d k x := by kernel_rfl
theorem Z4d.ok (k : Nat) : Zf Tryz.prog 44 (Z4d.con k) := Zk (p := .auto) (Z4d.cok k) Tryz.func44 (by kernel_rfl) (show Tryz.f44.body = some (cB Tryz.f44) by kernel_rfl) (by kernel_rfl) (by kernel_rfl) (Zd (L := []) (by kernel_rfl) trivial) (fun x y h => (Z4d.ev k x).trans h)
def Zyg (a1 : Str) : Option (Bool) :=
 some (((a1.length) : Int) != 8)
def Zyg.sig : Sig := { ps := [.val false .str (ros .str)], rs := [.val false [.v .bool]], ntmps := 6 }
def Zyg.con (k : Nat) : Con := Zyg.sig.con (fun x => Zyg x)
def Zyg.C (k : Nat) : Ctx := { ti := TAB, con := Zh [] }
theorem Zyg.cok (k : Nat) : CtxOk Tryz.prog (Zyg.C k) := Zj Zi trivial
theorem Zyg.ev (k : Nat) (x : Za Zyg.sig.ins) : Zyg.sig.ev (Zyg.C k) .auto Tryz.f85.results.toList (cB Tryz.f85) x = Zyg x := by kernel_rfl
theorem Zyg.ok (k : Nat) : Zf Tryz.prog 85 (Zyg.con k) := Zk (p := .auto) (Zyg.cok k) Tryz.func85 (by kernel_rfl) (show Tryz.f85.body = some (cB Tryz.f85) by kernel_rfl) (by kernel_rfl) (by kernel_rfl) (Zd (L := []) (by kernel_rfl) trivial) (fun x y h => (Zyg.ev k x).trans h)
def Zob.l0 : Nat → List Str → Int → Int → Option (Unit ⊕ Int)
 | 0, _, _, _ => none
 | j + 1, a1, a2, a3 =>
  bif decide (a3 < a2) then
   Option.bind (at? a1 a3) fun v4 =>
   Option.bind (Zyg v4) fun v5 =>
   bif v5 then
    some (.inr a3)
   else
   Zob.l0 j a1 a2 (IntKind.wrap .i64 (a3 + 1))
  else
  some (.inl ())
def Zob (k : Nat) (a1 : List Str) : Option (Int) :=
 Option.bind (Zob.l0 k a1 ((a1.length) : Int) 0) fun
  | .inl y2 =>
   some (-1)
  | .inr y3 =>
   some y3
def Zob.sig : Sig := { ps := [.val false (.sl .str) (ros (.sl .str)), .fn 85 []], rs := [.val false [.v (.int .i64)]], ntmps := 19 }
def Zob.con (k : Nat) : Con := Zob.sig.con (fun x => Zob k x)
def Zob.C (k : Nat) : Ctx := { ti := TAB, con := Zh [(85, Zyg.con k)] }
theorem Zob.cok (k : Nat) : CtxOk Tryz.prog (Zob.C k) := Zj Zi ⟨Zyg.ok k, trivial⟩
def Zob.l0.ish : Shape := { tmps := [(0, .one (.bor .str)), (1, .fn 85 []), (7, .one (.v (.int .i64))), (8, .one (.v (.int .i64)))], slots := [], nb := 0 }
def Zob.l0.outs : List (Ex × Shape) := [(.exit 0, { tmps := [], slots := [], nb := 0 }), (.ret, { tmps := [(4, .one (.v (.int .i64)))], slots := [], nb := 0 })]
def Zob.l0.F (k j : Nat) (x : Za Zob.l0.ish.tys) : Option (Zy Zob.l0.outs) := Zob.l0 j x.1 x.2.1 x.2.2
def Zob.l0.s (k : Nat) : Summ := { n := 19, ish := Zob.l0.ish, outs := Zob.l0.outs, f := Zob.l0.F k k }
theorem Zob.l0.ev (k j : Nat) (x : Za Zob.l0.ish.tys) : V (Zob.C k) .auto (cO (cO (cR (cL (cR (cB Tryz.f118)))))) (mk Zob.l0.ish 19 x) (fun e st' => match e with | .nrm => (rd Zob.l0.ish st').bind (Zob.l0.F k j) | e => Z0 e st' Zob.l0.outs) = Zob.l0.F k (j + 1) x := by kernel_rfl
theorem Zob.l0.ok (k : Nat) : Z1 Tryz.prog (Zob.C k) (.loop (cO (cO (cR (cL (cR (cB Tryz.f118))))))) (Zob.l0.s k) := Z5 (by kernel_rfl) (sum_loop (p := .auto) (F := Zob.l0.F k) (Zob.cok k) (by kernel_rfl) (Zd (L := []) (by kernel_rfl) trivial) (fun _ => rfl) (fun j x y h => (Zob.l0.ev k j x).trans h) k rfl)
theorem Zob.ev (k : Nat) (x : Za Zob.sig.ins) : Zob.sig.ev (Zob.C k) (.two .auto (.two (.two .auto (.one (.sum (Zob.l0.s k)))) .auto)) Tryz.f118.results.toList (cB Tryz.f118) x = Zob k x := by kernel_rfl
theorem Zob.ok (k : Nat) : Zf Tryz.prog 118 (Zob.con k) := Zk (p := (.two .auto (.two (.two .auto (.one (.sum (Zob.l0.s k)))) .auto))) (Zob.cok k) Tryz.func118 (by kernel_rfl) (show Tryz.f118.body = some (cB Tryz.f118) by kernel_rfl) (by kernel_rfl) (by kernel_rfl) (Zd (L := [(Zob.l0.s k, cO (cR (cL (cR (cB Tryz.f118)))))]) (by kernel_rfl) ⟨Zob.l0.ok k, trivial⟩) (fun x y h => (Zob.ev k x).trans h)
def Zwh (k : Nat) (a1 : List Str) : Option (Bool) :=
 Option.bind (Zob k a1) fun v2 =>
 some (decide (0 ≤ v2))
def Zwh.sig : Sig := { ps := [.val false (.sl .str) (ros (.sl .str)), .fn 85 []], rs := [.val false [.v .bool]], ntmps := 9 }
def Zwh.con (k : Nat) : Con := Zwh.sig.con (fun x => Zwh k x)
def Zwh.C (k : Nat) : Ctx := { ti := TAB, con := Zh [(118, Zob.con k)] }
theorem Zwh.cok (k : Nat) : CtxOk Tryz.prog (Zwh.C k) := Zj Zi ⟨Zob.ok k, trivial⟩
theorem Zwh.ev (k : Nat) (x : Za Zwh.sig.ins) : Zwh.sig.ev (Zwh.C k) .auto Tryz.f84.results.toList (cB Tryz.f84) x = Zwh k x := by kernel_rfl
theorem Zwh.ok (k : Nat) : Zf Tryz.prog 84 (Zwh.con k) := Zk (p := .auto) (Zwh.cok k) Tryz.func84 (by kernel_rfl) (show Tryz.f84.body = some (cB Tryz.f84) by kernel_rfl) (by kernel_rfl) (by kernel_rfl) (Zd (L := []) (by kernel_rfl) trivial) (fun x y h => (Zwh.ev k x).trans h)
def Zzg (k : Nat) (a1 : List Str) : Option (Bool) :=
 Option.bind (Zqd a1) fun v2 =>
 Option.bind (Z7d v2) fun v3 =>
 bif v3 then
  Option.bind (Zwh k a1) fun v4 =>
  some (!v4)
 else
 some false
def Zzg.sig : Sig := { ps := [.val false (.sl .str) (ros (.sl .str))], rs := [.val false [.v .bool]], ntmps := 11 }
def Zzg.con (k : Nat) : Con := Zzg.sig.con (fun x => Zzg k x)
def Zzg.C (k : Nat) : Ctx := { ti := TAB, con := Zh [(79, Z7d.con k), (81, Zqd.con k), (84, Zwh.con k)] }
theorem Zzg.cok (k : Nat) : CtxOk Tryz.prog (Zzg.C k) := Zj Zi ⟨Z7d.ok k, Zqd.ok k, Zwh.ok k, trivial⟩
theorem Zzg.ev (k : Nat) (x : Za Zzg.sig.ins) : Zzg.sig.ev (Zzg.C k) .auto Tryz.f45.results.toList (cB Tryz.f45) x = Zzg k x := by kernel_rfl
theorem Zzg.ok (k : Nat) : Zf Tryz.prog 45 (Zzg.con k) := Zk (p := .auto) (Zzg.cok k) Tryz.func45 (by kernel_rfl) (show Tryz.f45.body = some (cB Tryz.f45) by kernel_rfl) (by kernel_rfl) (by kernel_rfl) (Zd (L := []) (by kernel_rfl) trivial) (fun x y h => (Zzg.ev k x).trans h)
def Zbc.l0 (k : Nat) : Nat → Int → List Str → List Zld → Int → Int → List Str → Option ((List Str))
 | 0, _, _, _, _, _, _ => none
 | j + 1, a1, a2, a3, a4, a5, a6 =>
  bif decide (a5 < a4) then
   Option.bind (Zvd k (a2, a3) (IntKind.wrap .i64 (3 + a5))) fun v7 =>
   Option.bind (Z2d 16 a6 [v7]) fun v8 =>
   Zbc.l0 k j a1 a2 a3 a4 (IntKind.wrap .i64 (a5 + 1)) v8
  else
  some a6
def Zbc (k : Nat) (a1 : G32) : Option (List Str) :=
 Option.bind (Zbc.l0 k k a1.1 a1.2.1 a1.2.2 a1.1 0 []) fun y2 =>
 some y2
def Zbc.sig : Sig := { ps := [.val true T32 (ros T32)], rs := [.val false [.own 9 .str]], ntmps := 20 }
def Zbc.con (k : Nat) : Con := Zbc.sig.con (fun x => Zbc k x)
def Zbc.C (k : Nat) : Ctx := { ti := TAB, con := Zh [(86, Zvd.con k)], rob := true }
theorem Zbc.cok (k : Nat) : CtxOk Tryz.prog (Zbc.C k) := Zj Zi ⟨Zvd.ok k, trivial⟩
def Zbc.l0.ish : Shape := { tmps := [(1, .eptr [.v (.int .i64), .bor .str, .bor Z7c]), (3, .one (.own 0)), (6, .one (.v (.int .i64))), (7, .one (.v (.int .i64)))], slots := [(0, .arr false 9 .str)], nb := 1 }
def Zbc.l0.outs : List (Ex × Shape) := [(.exit 0, { tmps := [(3, .one (.own 1))], slots := [(1, .arr false 9 .str)], nb := 2 })]
def Zbc.l0.F (k j : Nat) (x : Za Zbc.l0.ish.tys) : Option (Zy Zbc.l0.outs) := Zbc.l0 k j x.1 x.2.1 x.2.2.1 x.2.2.2.1 x.2.2.2.2.1 x.2.2.2.2.2
def Zbc.l0.s (k : Nat) : Summ := { n := 20, ish := Zbc.l0.ish, outs := Zbc.l0.outs, f := Zbc.l0.F k k }
theorem Zbc.l0.ev (k j : Nat) (x : Za Zbc.l0.ish.tys) : V (Zbc.C k) .auto (cO (cO (cR (cL (cR (cR (cB Tryz.f46))))))) (mk Zbc.l0.ish 20 x) (fun e st' => match e with | .nrm => (rd Zbc.l0.ish st').bind (Zbc.l0.F k j) | e => Z0 e st' Zbc.l0.outs) = Zbc.l0.F k (j + 1) x := by kernel_rfl
theorem Zbc.l0.ok (k : Nat) : Z1 Tryz.prog (Zbc.C k) (.loop (cO (cO (cR (cL (cR (cR (cB Tryz.f46)))))))) (Zbc.l0.s k) := Z5 (by kernel_rfl) (sum_loop (p := .auto) (F := Zbc.l0.F k) (Zbc.cok k) (by kernel_rfl) (Zd (L := []) (by kernel_rfl) trivial) (fun _ => rfl) (fun j x y h => (Zbc.l0.ev k j x).trans h) k rfl)
theorem Zbc.ev (k : Nat) (x : Za Zbc.sig.ins) : Zbc.sig.ev (Zbc.C k) (.two .auto (.two .auto (.two (.two .auto (.one (.sum (Zbc.l0.s k)))) .auto))) Tryz.f46.results.toList (cB Tryz.f46) x = Zbc k x := by kernel_rfl
theorem Zbc.ok (k : Nat) : Zf Tryz.prog 46 (Zbc.con k) := Zk (p := (.two .auto (.two .auto (.two (.two .auto (.one (.sum (Zbc.l0.s k)))) .auto)))) (Zbc.cok k) Tryz.func46 (by kernel_rfl) (show Tryz.f46.body = some (cB Tryz.f46) by kernel_rfl) (by kernel_rfl) (by kernel_rfl) (Zd (L := [(Zbc.l0.s k, cO (cR (cL (cR (cR (cB Tryz.f46))))))]) (by kernel_rfl) ⟨Zbc.l0.ok k, trivial⟩) (fun x y h => (Zbc.ev k x).trans h)
def Zdh (a1 : G32) (a2 : Int) : Option (Int) :=
 some (IntKind.wrap .i64 ((IntKind.wrap .i64 (3 + a1.1)) + a2))
def Zdh.sig : Sig := { ps := [.val true T32 (ros T32), .val false (.int .i64) (ros (.int .i64))], rs := [.val false [.v (.int .i64)]], ntmps := 10 }
def Zdh.con (k : Nat) : Con := Zdh.sig.con (fun x => Zdh x.1 x.2)
def Zdh.C (k : Nat) : Ctx := { ti := TAB, con := Zh [], rob := true }
theorem Zdh.cok (k : Nat) : CtxOk Tryz.prog (Zdh.C k) := Zj Zi trivial
theorem Zdh.ev (k : Nat) (x : Za Zdh.sig.ins) : Zdh.sig.ev (Zdh.C k) .auto Tryz.f119.results.toList (cB Tryz.f119) x = Zdh x.1 x.2 := by kernel_rfl
theorem Zdh.ok (k : Nat) : Zf Tryz.prog 119 (Zdh.con k) := Zk (p := .auto) (Zdh.cok k) Tryz.func119 (by kernel_rfl) (show Tryz.f119.body = some (cB Tryz.f119) by kernel_rfl) (by kernel_rfl) (by kernel_rfl) (Zd (L := []) (by kernel_rfl) trivial) (fun x y h => (Zdh.ev k x).trans h)
def Zxg (k : Nat) (a1 : G32) (a2 : Int) : Option (Str) :=
 Option.bind (Zdh a1 a2) fun v3 =>
 Option.bind (Zvd k a1.2 v3) fun v4 =>
 some v4
def Zxg.sig : Sig := { ps := [.val true T32 (ros T32), .val false (.int .i64) (ros (.int .i64))], rs := [.val false [.v .str]], ntmps := 11 }
def Zxg.con (k : Nat) : Con := Zxg.sig.con (fun x => Zxg k x.1 x.2)
def Zxg.C (k : Nat) : Ctx := { ti := TAB, con := Zh [(86, Zvd.con k), (119, Zdh.con k)], rob := true }
theorem Zxg.cok (k : Nat) : CtxOk Tryz.prog (Zxg.C k) := Zj Zi ⟨Zvd.ok k, Zdh.ok k, trivial⟩
theorem Zxg.ev (k : Nat) (x : Za Zxg.sig.ins) : Zxg.sig.ev (Zxg.C k) .auto Tryz.f87.results.toList (cB Tryz.f87) x = Zxg k x.1 x.2 := by kernel_rfl
theorem Zxg.ok (k : Nat) : Zf Tryz.prog 87 (Zxg.con k) := Zk (p := .auto) (Zxg.cok k) Tryz.func87 (by kernel_rfl) (show Tryz.f87.body = some (cB Tryz.f87) by kernel_rfl) (by kernel_rfl) (by kernel_rfl) (Zd (L := []) (by kernel_rfl) trivial) (fun x y h => (Zxg.ev k x).trans h)
def Z7f (k : Nat) (a1 : Zer) : Option (Int × Int × Int × Str × Str × Int × Bool) :=
 Option.bind (Z0c k a1) fun v2 =>
 Option.bind (Z0c k v2.2) fun v3 =>
 Option.bind (Z0c k v3.2) fun v4 =>
 Option.bind (Zpd k v4.2) fun v5 =>
 some (v2.1, v3.1, v4.1, v5.1, v5.2.1, v5.2.2.1, v5.2.2.2)
def Z7f.sig : Sig := { ps := [.ref 154 Zak (Z7i Zak)], rs := [.val true [.v (.int .i64), .v (.int .i64), .v (.int .i64), .v .str]], ntmps := 12 }
def Z7f.con (k : Nat) : Con := Z7f.sig.con (fun x => Z7f k x)
def Z7f.C (k : Nat) : Ctx := { ti := TAB, con := Zh [(114, Z0c.con k), (115, Zpd.con k)] }
theorem Z7f.cok (k : Nat) : CtxOk Tryz.prog (Z7f.C k) := Zj Zi ⟨Z0c.ok k, Zpd.ok k, trivial⟩
theorem Z7f.ev (k : Nat) (x : Za Z7f.sig.ins) : Z7f.sig.ev (Z7f.C k) .auto Tryz.f149.results.toList (cB Tryz.f149) x = Z7f k x := by kernel_rfl
theorem Z7f.ok (k : Nat) : Zf Tryz.prog 149 (Z7f.con k) := Zk (p := .auto) (Z7f.cok k) Tryz.func149 (by kernel_rfl) (show Tryz.f149.body = some (cB Tryz.f149) by kernel_rfl) (by kernel_rfl) (by kernel_rfl) (Zd (L := []) (by kernel_rfl) trivial) (fun x y h => (Z7f.ev k x).trans h)
def Zaf (k : Nat) (a1 : Str) (a2 : Int) : Option (Int × Int × Int × Str × Int) :=
 Option.bind (Z4e k a1) fun v3 =>
 bif v3.2 != 0 then
  some (0, 0, 0, [], v3.2)
 else
 Option.bind (Z0c k (v3.1, (0, false))) fun v4 =>
 Option.bind (Z7f k v4.2) fun v5 =>
 bif v5.2.2.2.2.2.2 || (v5.2.2.2.2.2.1 != ((v3.1.length) : Int)) then
  some (0, 0, 0, [], 3)
 else
 Option.bind (Z7e v4.1) fun v6 =>
 bif !v6 then
  some (0, 0, 0, [], 3)
 else
 Option.bind (Z3 (v5.1, (v5.2.1, (v5.2.2.1, v5.2.2.2.1))) 8) fun v7 =>
 bif !v7 then
  some (0, 0, 0, [], 3)
 else
 bif v4.1 != a2 then
  some (0, 0, 0, [], 6)
 else
 some (v5.1, v5.2.1, v5.2.2.1, v5.2.2.2.1, 0)
def Zaf.sig : Sig := { ps := [.val false .str (ros .str), .val false (.int .i64) (ros (.int .i64))], rs := [.val true [.v (.int .i64), .v (.int .i64), .v (.int .i64), .v .str], .val false [.v (.int .i64)]], ntmps := 58 }
def Zaf.con (k : Nat) : Con := Zaf.sig.con (fun x => Zaf k x.1 x.2)
def Zaf.C (k : Nat) : Ctx := { ti := TAB, con := Zh [(91, Z3.con k), (114, Z0c.con k), (122, Z7e.con k), (143, Z4e.con k), (149, Z7f.con k)] }
theorem Zaf.cok (k : Nat) : CtxOk Tryz.prog (Zaf.C k) := Zj Zi ⟨Z3.ok k, Z0c.ok k, Z7e.ok k, Z4e.ok k, Z7f.ok k, trivial⟩
theorem Zaf.ev (k : Nat) (x : Za Zaf.sig.ins) : Zaf.sig.ev (Zaf.C k) .auto Tryz.f120.results.toList (cB Tryz.f120) x = Zaf k x.1 x.2 := by kernel_rfl
theorem Zaf.ok (k : Nat) : Zf Tryz.prog 120 (Zaf.con k) := Zk (p := .auto) (Zaf.cok k) Tryz.func120 (by kernel_rfl) (show Tryz.f120.body = some (cB Tryz.f120) by kernel_rfl) (by kernel_rfl) (by kernel_rfl) (Zd (L := []) (by kernel_rfl) trivial) (fun x y h => (Zaf.ev k x).trans h)
def Zvc.l0 (k : Nat) : Nat → List Str → Int → Int → List G36 → Option ((List G36))
 | 0, _, _, _, _ => none
 | j + 1, a1, a2, a3, a4 =>
  bif decide (a3 < a2) then
   Option.bind (at? a1 a3) fun v5 =>
   Option.bind (Zaf k v5 a3) fun v6 =>
   bif v6.2.2.2.2 != 0 then
    some a4
   else
   Option.bind (Z2d 40 a4 [(v6.1, (v6.2.1, (v6.2.2.1, v6.2.2.2.1)))]) fun v7 =>
   Zvc.l0 k j a1 a2 (IntKind.wrap .i64 (a3 + 1)) v7
  else
  some a4
def Zvc (k : Nat) (a1 : List Str) : Option (List G36) :=
 Option.bind (Zvc.l0 k k a1 ((a1.length) : Int) 0 []) fun y2 =>
 some y2
def Zvc.sig : Sig := { ps := [.val false (.sl .str) (ros (.sl .str))], rs := [.val false [.own 36 T36]], ntmps := 29 }
def Zvc.con (k : Nat) : Con := Zvc.sig.con (fun x => Zvc k x)
def Zvc.C (k : Nat) : Ctx := { ti := TAB, con := Zh [(120, Zaf.con k)] }
theorem Zvc.cok (k : Nat) : CtxOk Tryz.prog (Zvc.C k) := Zj Zi ⟨Zaf.ok k, trivial⟩
def Zvc.l0.ish : Shape := { tmps := [(3, .one (.own 0)), (8, .one (.bor .str)), (9, .one (.v (.int .i64))), (10, .one (.v (.int .i64)))], slots := [(0, .arr false 36 T36)], nb := 1 }
def Zvc.l0.outs : List (Ex × Shape) := [(.exit 0, { tmps := [(3, .one (.own 1))], slots := [(1, .arr false 36 T36)], nb := 2 })]
def Zvc.l0.F (k j : Nat) (x : Za Zvc.l0.ish.tys) : Option (Zy Zvc.l0.outs) := Zvc.l0 k j x.1 x.2.1 x.2.2.1 x.2.2.2
def Zvc.l0.s (k : Nat) : Summ := { n := 29, ish := Zvc.l0.ish, outs := Zvc.l0.outs, f := Zvc.l0.F k k }
theorem Zvc.l0.ev (k j : Nat) (x : Za Zvc.l0.ish.tys) : V (Zvc.C k) .auto (cO (cO (cR (cL (cR (cR (cB Tryz.f88))))))) (mk Zvc.l0.ish 29 x) (fun e st' => match e with | .nrm => (rd Zvc.l0.ish st').bind (Zvc.l0.F k j) | e => Z0 e st' Zvc.l0.outs) = Zvc.l0.F k (j + 1) x := by kernel_rfl
theorem Zvc.l0.ok (k : Nat) : Z1 Tryz.prog (Zvc.C k) (.loop (cO (cO (cR (cL (cR (cR (cB Tryz.f88)))))))) (Zvc.l0.s k) := Z5 (by kernel_rfl) (sum_loop (p := .auto) (F := Zvc.l0.F k) (Zvc.cok k) (by kernel_rfl) (Zd (L := []) (by kernel_rfl) trivial) (fun _ => rfl) (fun j x y h => (Zvc.l0.ev k j x).trans h) k rfl)
theorem Zvc.ev (k : Nat) (x : Za Zvc.sig.ins) : Zvc.sig.ev (Zvc.C k) (.two .auto (.two .auto (.two (.two .auto (.one (.sum (Zvc.l0.s k)))) .auto))) Tryz.f88.results.toList (cB Tryz.f88) x = Zvc k x := by kernel_rfl
theorem Zvc.ok (k : Nat) : Zf Tryz.prog 88 (Zvc.con k) := Zk (p := (.two .auto (.two .auto (.two (.two .auto (.one (.sum (Zvc.l0.s k)))) .auto)))) (Zvc.cok k) Tryz.func88 (by kernel_rfl) (show Tryz.f88.body = some (cB Tryz.f88) by kernel_rfl) (by kernel_rfl) (by kernel_rfl) (Zd (L := [(Zvc.l0.s k, cO (cR (cL (cR (cR (cB Tryz.f88))))))]) (by kernel_rfl) ⟨Zvc.l0.ok k, trivial⟩) (fun x y h => (Zvc.ev k x).trans h)
def Z9b.l0 (k : Nat) : Nat → Int → List Str → List Zld → List Int → Int → Int → List Str → Option ((List Str))
 | 0, _, _, _, _, _, _, _ => none
 | j + 1, a1, a2, a3, a4, a5, a6, a7 =>
  bif decide (a6 < a5) then
   Option.bind (at? a4 a6) fun v8 =>
   Option.bind (Zxg k (a1, (a2, a3)) v8) fun v9 =>
   Option.bind (Z2d 16 a7 [v9]) fun v10 =>
   Z9b.l0 k j a1 a2 a3 a4 a5 (IntKind.wrap .i64 (a6 + 1)) v10
  else
  some a7
def Z9b (k : Nat) (a1 : G32) (a2 : G75) : Option (List G36) :=
 Option.bind (Zkd a2.2.2.2.2.2.2.2 a2.2.2.2.1 ((a2.2.2.2.2.2.2.2.length) : Int)) fun v3 =>
 Option.bind (Z9b.l0 k k a1.1 a1.2.1 a1.2.2 v3 ((v3.length) : Int) 0 []) fun y4 =>
 Option.bind (Zvc k y4) fun v5 =>
 some v5
def Z9b.sig : Sig := { ps := [.val true T32 (ros T32), .val true T75 (ros T75)], rs := [.val false [.own 36 T36]], ntmps := 27 }
def Z9b.con (k : Nat) : Con := Z9b.sig.con (fun x => Z9b k x.1 x.2)
def Z9b.C (k : Nat) : Ctx := { ti := TAB, con := Zh [(87, Zxg.con k), (88, Zvc.con k)], rob := true }
theorem Z9b.cok (k : Nat) : CtxOk Tryz.prog (Z9b.C k) := Zj Zi ⟨Zxg.ok k, Zvc.ok k, trivial⟩
def Z9b.l0.ish : Shape := { tmps := [(2, .eptr [.v (.int .i64), .bor .str, .bor Z7c]), (5, .one (.own 0)), (12, .one (.bor (.int .i64))), (13, .one (.v (.int .i64))), (14, .one (.v (.int .i64)))], slots := [(0, .arr false 9 .str)], nb := 1 }
def Z9b.l0.outs : List (Ex × Shape) := [(.exit 0, { tmps := [(5, .one (.own 1))], slots := [(1, .arr false 9 .str)], nb := 2 })]
def Z9b.l0.F (k j : Nat) (x : Za Z9b.l0.ish.tys) : Option (Zy Z9b.l0.outs) := Z9b.l0 k j x.1 x.2.1 x.2.2.1 x.2.2.2.1 x.2.2.2.2.1 x.2.2.2.2.2.1 x.2.2.2.2.2.2
def Z9b.l0.s (k : Nat) : Summ := { n := 27, ish := Z9b.l0.ish, outs := Z9b.l0.outs, f := Z9b.l0.F k k }
theorem Z9b.l0.ev (k j : Nat) (x : Za Z9b.l0.ish.tys) : V (Z9b.C k) .auto (cO (cO (cR (cL (cR (cR (cB Tryz.f47))))))) (mk Z9b.l0.ish 27 x) (fun e st' => match e with | .nrm => (rd Z9b.l0.ish st').bind (Z9b.l0.F k j) | e => Z0 e st' Z9b.l0.outs) = Z9b.l0.F k (j + 1) x := by kernel_rfl
theorem Z9b.l0.ok (k : Nat) : Z1 Tryz.prog (Z9b.C k) (.loop (cO (cO (cR (cL (cR (cR (cB Tryz.f47)))))))) (Z9b.l0.s k) := Z5 (by kernel_rfl) (sum_loop (p := .auto) (F := Z9b.l0.F k) (Z9b.cok k) (by kernel_rfl) (Zd (L := []) (by kernel_rfl) trivial) (fun _ => rfl) (fun j x y h => (Z9b.l0.ev k j x).trans h) k rfl)
theorem Z9b.ev (k : Nat) (x : Za Z9b.sig.ins) : Z9b.sig.ev (Z9b.C k) (.two .auto (.two .auto (.two (.two .auto (.one (.sum (Z9b.l0.s k)))) .auto))) Tryz.f47.results.toList (cB Tryz.f47) x = Z9b k x.1 x.2 := by kernel_rfl
theorem Z9b.ok (k : Nat) : Zf Tryz.prog 47 (Z9b.con k) := Zk (p := (.two .auto (.two .auto (.two (.two .auto (.one (.sum (Z9b.l0.s k)))) .auto)))) (Z9b.cok k) Tryz.func47 (by kernel_rfl) (show Tryz.f47.body = some (cB Tryz.f47) by kernel_rfl) (by kernel_rfl) (by kernel_rfl) (Zd (L := [(Z9b.l0.s k, cO (cR (cL (cR (cR (cB Tryz.f47))))))]) (by kernel_rfl) ⟨Z9b.l0.ok k, trivial⟩) (fun x y h => (Z9b.ev k x).trans h)
def Z6h (a1 : List G93) : Option (Int) :=
 some ((a1.length) : Int)
def Z6h.sig : Sig := { ps := [.val false (.sl T93) (ros (.sl T93))], rs := [.val false [.v (.int .i64)]], ntmps := 5 }
def Z6h.con (k : Nat) : Con := Z6h.sig.con (fun x => Z6h x)
def Z6h.C (k : Nat) : Ctx := { ti := TAB, con := Zh [] }
theorem Z6h.cok (k : Nat) : CtxOk Tryz.prog (Z6h.C k) := Zj Zi trivial
theorem Z6h.ev (k : Nat) (x : Za Z6h.sig.ins) : Z6h.sig.ev (Z6h.C k) .auto Tryz.f49.results.toList (cB Tryz.f49) x = Z6h x := by kernel_rfl
theorem Z6h.ok (k : Nat) : Zf Tryz.prog 49 (Z6h.con k) := Zk (p := .auto) (Z6h.cok k) Tryz.func49 (by kernel_rfl) (show Tryz.f49.body = some (cB Tryz.f49) by kernel_rfl) (by kernel_rfl) (by kernel_rfl) (Zd (L := []) (by kernel_rfl) trivial) (fun x y h => (Z6h.ev k x).trans h)
def Znf (k : Nat) (a1 : G32) : Option (Bool) :=
 Option.bind (Z4d k a1) fun v2 =>
 bif !v2.2.2.2.2.2.2.2.2 then
  some false
 else
 Option.bind (Zbc k a1) fun v3 =>
 Option.bind (Zzg k v3) fun v4 =>
 bif !v4 then
  some false
 else
 bif (v2.1 == 1) || (v2.1 == 2) then
  some true
 else
 Option.bind (Z9b k a1 (v2.1, (v2.2.1, (v2.2.2.1, (v2.2.2.2.1, (v2.2.2.2.2.1, (v2.2.2.2.2.2.1, (v2.2.2.2.2.2.2.1, v2.2.2.2.2.2.2.2.1)))))))) fun v5 =>
 Option.bind (Z5b k v5 a1.1) fun v6 =>
 bif v6 != 0 then
  some false
 else
 Option.bind (Zs k v5) fun v7 =>
 Option.bind (Zlb k v7) fun v8 =>
 bif decide (v8 ≤ v2.2.2.2.1) then
  Option.bind (Z6h v7) fun v9 =>
  some (decide (v2.2.2.2.2.1 ≤ v9))
 else
 some false
def Znf.sig : Sig := { ps := [.val true T32 (ros T32)], rs := [.val false [.v .bool]], ntmps := 50 }
def Znf.con (k : Nat) : Con := Znf.sig.con (fun x => Znf k x)
def Znf.C (k : Nat) : Ctx := { ti := TAB, con := Zh [(42, Zlb.con k), (43, Zs.con k), (44, Z4d.con k), (45, Zzg.con k), (46, Zbc.con k), (47, Z9b.con k), (48, Z5b.con k), (49, Z6h.con k)], rob := true }
theorem Znf.cok (k : Nat) : CtxOk Tryz.prog (Znf.C k) := Zj Zi ⟨Zlb.ok k, Zs.ok k, Z4d.ok k, Zzg.ok k, Zbc.ok k, Z9b.ok k, Z5b.ok k, Z6h.ok k, trivial⟩
theorem Znf.ev (k : Nat) (x : Za Znf.sig.ins) : Znf.sig.ev (Znf.C k) .auto Tryz.f21.results.toList (cB Tryz.f21) x = Znf k x := by kernel_rfl
theorem Znf.ok (k : Nat) : Zf Tryz.prog 21 (Znf.con k) := Zk (p := .auto) (Znf.cok k) Tryz.func21 (by kernel_rfl) (show Tryz.f21.body = some (cB Tryz.f21) by kernel_rfl) (by kernel_rfl) (by kernel_rfl) (Zd (L := []) (by kernel_rfl) trivial) (fun x y h => (Znf.ev k x).trans h)
def strings_Repeat (a : Str) (n : Int) : Option Str := if 0 ≤ n ∧ (a.length : Int) * n ≤ 140737488355328 ∧ n ≤ 9223372036854775807 then some (Lib.repeatL a n.toNat) else none
def strings_Repeat.sig : Sig := { ps := [.val false .str (ros .str), .val false (.int .i64) (ros (.int .i64))], rs := [.val false [.v .str]], ntmps := 0 }
def strings_Repeat.con (k : Nat) : Con := strings_Repeat.sig.con (fun x => strings_Repeat x.1 x.2)
theorem strings_Repeat.ok (k : Nat) : Zf Tryz.prog 124 (strings_Repeat.con k) := Zp7 (Z5y Tryz.func124 (by kernel_rfl) (show Tryz.f124.body = some (cB Tryz.f124) by kernel_rfl)) (by kernel_rfl) (by kernel_rfl) (by
 intro (x : Str × Int) (y : Str) w h
 obtain ⟨a, n⟩ := x
 replace h : strings_Repeat a n = some y := h
 unfold strings_Repeat at h
 split at h
 ·rename_i h0
  obtain ⟨h0, h1, h2⟩ := h0
  injection h with h
  subst h
  obtain ⟨c, rfl⟩ : ∃ c : Nat, n = (c : Int) := ⟨n.toNat, by omega⟩
  have h3 : ((a.length * c : Nat) : Int) ≤ 140737488355328 := by rw [Int.natCast_mul]; exact h1
  have h1' : a.length * c ≤ 140737488355328 := by omega
  refine (Tryz.strings_Repeat (ba a) c w (by omega) h1').mono ?_
  rintro e w' ⟨rfl, bel⟩
  exact ⟨[.string (ba (Lib.repeatL a c))], rfl, rfl, rfl, bel⟩
 ·cases h)
def Z0b.l0 : Nat → Int → Int → List Int → Option ((List Int))
 | 0, _, _, _ => none
 | j + 1, a1, a2, a3 =>
  bif decide (0 ≤ a2) then
   Option.bind (at? a3 a2) fun v4 =>
   Option.bind (at? a3 a2) fun v5 =>
   Option.bind (Z6c 8) fun v6 =>
   Z0b.l0 j (shr .u64 a1 8) (IntKind.wrap .i64 (a2 - 1)) (List.set a3 (Int.toNat a2) (IntKind.wrap .u8 a1))
  else
  some a3
def Z0b (k : Nat) (a1 : Int) (a2 : Int) : Option (Str) :=
 Option.bind (Zji 1 a2 a2 0) fun v3 =>
 Option.bind (Z0b.l0 k a1 (IntKind.wrap .i64 (a2 - 1)) v3) fun y4 =>
 some (Zbd y4)
def Z0b.sig : Sig := { ps := [.val false (.int .u64) (ros (.int .u64)), .val false (.int .i64) (ros (.int .i64))], rs := [.val false [.v .str]], ntmps := 24 }
def Z0b.con (k : Nat) : Con := Z0b.sig.con (fun x => Z0b k x.1 x.2)
def Z0b.C (k : Nat) : Ctx := { ti := TAB, con := Zh [] }
theorem Z0b.cok (k : Nat) : CtxOk Tryz.prog (Z0b.C k) := Zj Zi trivial
def Z0b.l0.ish : Shape := { tmps := [(0, .one (.v (.int .u64))), (5, .one (.own 1)), (6, .one (.v (.int .i64)))], slots := [(1, .arr false 5 (.int .u8))], nb := 2 }
def Z0b.l0.outs : List (Ex × Shape) := [(.exit 0, { tmps := [(5, .one (.own 2))], slots := [(2, .arr false 5 (.int .u8))], nb := 3 })]
def Z0b.l0.F (k j : Nat) (x : Za Z0b.l0.ish.tys) : Option (Zy Z0b.l0.outs) := Z0b.l0 j x.1 x.2.1 x.2.2
def Z0b.l0.s (k : Nat) : Summ := { n := 24, ish := Z0b.l0.ish, outs := Z0b.l0.outs, f := Z0b.l0.F k k }
theorem Z0b.l0.ev (k j : Nat) (x : Za Z0b.l0.ish.tys) : V (Z0b.C k) .auto (cO (cO (cR (cL (cR (cR (cB Tryz.f125))))))) (mk Z0b.l0.ish 24 x) (fun e st' => match e with | .nrm => (rd Z0b.l0.ish st').bind (Z0b.l0.F k j) | e => Z0 e st' Z0b.l0.outs) = Z0b.l0.F k (j + 1) x := by kernel_rfl
theorem Z0b.l0.ok (k : Nat) : Z1 Tryz.prog (Z0b.C k) (.loop (cO (cO (cR (cL (cR (cR (cB Tryz.f125)))))))) (Z0b.l0.s k) := Z5 (by kernel_rfl) (sum_loop (p := .auto) (F := Z0b.l0.F k) (Z0b.cok k) (by kernel_rfl) (Zd (L := []) (by kernel_rfl) trivial) (fun _ => rfl) (fun j x y h => (Z0b.l0.ev k j x).trans h) k rfl)
theorem Z0b.ev (k : Nat) (x : Za Z0b.sig.ins) : Z0b.sig.ev (Z0b.C k) (.two .auto (.two .auto (.two (.two .auto (.one (.sum (Z0b.l0.s k)))) .auto))) Tryz.f125.results.toList (cB Tryz.f125) x = Z0b k x.1 x.2 := by kernel_rfl
theorem Z0b.ok (k : Nat) : Zf Tryz.prog 125 (Z0b.con k) := Zk (p := (.two .auto (.two .auto (.two (.two .auto (.one (.sum (Z0b.l0.s k)))) .auto)))) (Z0b.cok k) Tryz.func125 (by kernel_rfl) (show Tryz.f125.body = some (cB Tryz.f125) by kernel_rfl) (by kernel_rfl) (by kernel_rfl) (Zd (L := [(Z0b.l0.s k, cO (cR (cL (cR (cR (cB Tryz.f125))))))]) (by kernel_rfl) ⟨Z0b.l0.ok k, trivial⟩) (fun x y h => (Z0b.ev k x).trans h)
def Z0f (a1 : Str) : Option (Int) :=
 Option.bind (at? a1 0) fun v2 =>
 Option.bind (Z6c 24) fun v3 =>
 Option.bind (at? a1 1) fun v4 =>
 Option.bind (Z6c 16) fun v5 =>
 Option.bind (at? a1 2) fun v6 =>
 Option.bind (Z6c 8) fun v7 =>
 Option.bind (at? a1 3) fun v8 =>
 some (intBits .or .u32 (intBits .or .u32 (intBits .or .u32 (shl .u32 (IntKind.wrap .u32 (v2.toNat : Int)) 24) (shl .u32 (IntKind.wrap .u32 (v4.toNat : Int)) 16)) (shl .u32 (IntKind.wrap .u32 (v6.toNat : Int)) 8)) (IntKind.wrap .u32 (v8.toNat : Int)))
def Z0f.sig : Sig := { ps := [.val false .str (ros .str)], rs := [.val false [.v (.int .u32)]], ntmps := 21 }
def Z0f.con (k : Nat) : Con := Z0f.sig.con (fun x => Z0f x)
def Z0f.C (k : Nat) : Ctx := { ti := TAB, con := Zh [] }
theorem Z0f.cok (k : Nat) : CtxOk Tryz.prog (Z0f.C k) := Zj Zi trivial
theorem Z0f.ev (k : Nat) (x : Za Z0f.sig.ins) : Z0f.sig.ev (Z0f.C k) .auto Tryz.f153.results.toList (cB Tryz.f153) x = Z0f x := by kernel_rfl
theorem Z0f.ok (k : Nat) : Zf Tryz.prog 153 (Z0f.con k) := Zk (p := .auto) (Z0f.cok k) Tryz.func153 (by kernel_rfl) (show Tryz.f153.body = some (cB Tryz.f153) by kernel_rfl) (by kernel_rfl) (by kernel_rfl) (Zd (L := []) (by kernel_rfl) trivial) (fun x y h => (Z0f.ev k x).trans h)
def Zch (a1 : Int) (a2 : Int) : Option (Int) :=
 let e3 := intBits .and .u64 (IntKind.wrap .u64 a2) 31
 Option.bind (Z6c e3) fun v4 =>
 let e5 := IntKind.wrap .u64 (32 - e3)
 Option.bind (Z6c e5) fun v6 =>
 some (intBits .or .u32 (shl .u32 a1 e3) (shr .u32 a1 e5))
def Zch.sig : Sig := { ps := [.val false (.int .u32) (ros (.int .u32)), .val false (.int .i64) (ros (.int .i64))], rs := [.val false [.v (.int .u32)]], ntmps := 17 }
def Zch.con (k : Nat) : Con := Zch.sig.con (fun x => Zch x.1 x.2)
def Zch.C (k : Nat) : Ctx := { ti := TAB, con := Zh [] }
theorem Zch.cok (k : Nat) : CtxOk Tryz.prog (Zch.C k) := Zj Zi trivial
theorem Zch.ev (k : Nat) (x : Za Zch.sig.ins) : Zch.sig.ev (Zch.C k) .auto Tryz.f174.results.toList (cB Tryz.f174) x = Zch x.1 x.2 := by kernel_rfl
theorem Zch.ok (k : Nat) : Zf Tryz.prog 174 (Zch.con k) := Zk (p := .auto) (Zch.cok k) Tryz.func174 (by kernel_rfl) (show Tryz.f174.body = some (cB Tryz.f174) by kernel_rfl) (by kernel_rfl) (by kernel_rfl) (Zd (L := []) (by kernel_rfl) trivial) (fun x y h => (Zch.ev k x).trans h)
end Go.Proofs.YtfbancgdmghnkaaGreatDoorE
namespace Go.Proofs.YtfbancgdmghnkaaGreatDoorE
open Go Go.RowKit
set_option linter.unusedVariables false
def Zyd (a1 : Int) (a2 : Int) : Option (Int) :=
 Option.bind (Zch a1 (IntKind.wrap .i64 (0 - a2))) fun v3 =>
 some v3
def Zyd.sig : Sig := { ps := [.val false (.int .u32) (ros (.int .u32)), .val false (.int .i64) (ros (.int .i64))], rs := [.val false [.v (.int .u32)]], ntmps := 9 }
def Zyd.con (k : Nat) : Con := Zyd.sig.con (fun x => Zyd x.1 x.2)
def Zyd.C (k : Nat) : Ctx := { ti := TAB, con := Zh [(174, Zch.con k)] }
theorem Zyd.cok (k : Nat) : CtxOk Tryz.prog (Zyd.C k) := Zj Zi ⟨Zch.ok k, trivial⟩
theorem Zyd.ev (k : Nat) (x : Za Zyd.sig.ins) : Zyd.sig.ev (Zyd.C k) .auto Tryz.f154.results.toList (cB Tryz.f154) x = Zyd x.1 x.2 := by kernel_rfl
theorem Zyd.ok (k : Nat) : Zf Tryz.prog 154 (Zyd.con k) := Zk (p := .auto) (Zyd.cok k) Tryz.func154 (by kernel_rfl) (show Tryz.f154.body = some (cB Tryz.f154) by kernel_rfl) (by kernel_rfl) (by kernel_rfl) (Zd (L := []) (by kernel_rfl) trivial) (fun x y h => (Zyd.ev k x).trans h)
def Zp.l0 : Nat → Str → Int → List Int → Option ((List Int))
 | 0, _, _, _ => none
 | j + 1, a1, a2, a3 =>
  bif decide (a2 < 64) then
   let e4 := IntKind.wrap .i64 (a2 + 1)
   bif decide (a2 < 16) then
    Option.bind (Zkd a1 (IntKind.wrap .i64 (4 * a2)) ((a1.length) : Int)) fun v5 =>
    Option.bind (Z0f v5) fun v6 =>
    Option.bind (at? a3 a2) fun v7 =>
    Option.bind (Zxm a3 a2 v6) fun v8 =>
    Zp.l0 j a1 e4 v8
   else
   let e9 := at? a3 (IntKind.wrap .i64 (a2 - 15))
   Option.bind (e9) fun v10 =>
   Option.bind (e9) fun v11 =>
   let e12 := at? a3 (IntKind.wrap .i64 (a2 - 2))
   Option.bind (e12) fun v13 =>
   Option.bind (e12) fun v14 =>
   Option.bind (Zyd v11 7) fun v15 =>
   Option.bind (Zyd v11 18) fun v16 =>
   Option.bind (Z6c 3) fun v17 =>
   Option.bind (Zyd v14 17) fun v18 =>
   Option.bind (Zyd v14 19) fun v19 =>
   Option.bind (Z6c 10) fun v20 =>
   let e21 := at? a3 (IntKind.wrap .i64 (a2 - 16))
   Option.bind (e21) fun v22 =>
   Option.bind (e21) fun v23 =>
   let e24 := at? a3 (IntKind.wrap .i64 (a2 - 7))
   Option.bind (e24) fun v25 =>
   Option.bind (e24) fun v26 =>
   Option.bind (at? a3 a2) fun v27 =>
   Option.bind (Zxm a3 a2 (IntKind.wrap .u32 ((IntKind.wrap .u32 ((IntKind.wrap .u32 (v23 + (intBits .xor .u32 (intBits .xor .u32 v15 v16) (shr .u32 v11 3)))) + v26)) + (intBits .xor .u32 (intBits .xor .u32 v18 v19) (shr .u32 v14 10))))) fun v28 =>
   Zp.l0 j a1 e4 v28
  else
  some a3
def Zp.l1 : Nat → Int → Int → Int → Int → Int → Int → Int → Int → Int → List Int → Option ((Int × Int × Int × Int × Int × Int × Int × Int))
 | 0, _, _, _, _, _, _, _, _, _, _ => none
 | j + 1, a1, a2, a3, a4, a5, a6, a7, a8, a9, a10 =>
  bif decide (a9 < 64) then
   Option.bind (Zyd a5 6) fun v11 =>
   Option.bind (Zyd a5 11) fun v12 =>
   Option.bind (Zyd a5 25) fun v13 =>
   Option.bind (at? Z9k a9) fun v14 =>
   Option.bind (at? a10 a9) fun v15 =>
   Option.bind (at? a10 a9) fun v16 =>
   Option.bind (Zyd a1 2) fun v17 =>
   Option.bind (Zyd a1 13) fun v18 =>
   Option.bind (Zyd a1 22) fun v19 =>
   let e20 := IntKind.wrap .u32 ((IntKind.wrap .u32 ((IntKind.wrap .u32 ((IntKind.wrap .u32 (a8 + (intBits .xor .u32 (intBits .xor .u32 v11 v12) v13))) + (intBits .xor .u32 (intBits .and .u32 a5 a6) (intBits .and .u32 (intBits .xor .u32 (IntKind.max .u32) a5) a7)))) + v14)) + v16)
   Zp.l1 j (IntKind.wrap .u32 (e20 + (IntKind.wrap .u32 ((intBits .xor .u32 (intBits .xor .u32 v17 v18) v19) + (intBits .xor .u32 (intBits .xor .u32 (intBits .and .u32 a1 a2) (intBits .and .u32 a1 a3)) (intBits .and .u32 a2 a3)))))) a1 a2 a3 (IntKind.wrap .u32 (a4 + e20)) a5 a6 a7 (IntKind.wrap .i64 (a9 + 1)) a10
  else
  some (a1, a2, a3, a4, a5, a6, a7, a8)
def Zp.l2 : Nat → Int → Int → Int → Int → Int → Int → Int → Int → Int → List Int → Option ((List Int))
 | 0, _, _, _, _, _, _, _, _, _, _ => none
 | j + 1, a1, a2, a3, a4, a5, a6, a7, a8, a9, a10 =>
  bif decide (a9 < 8) then
   Option.bind (at? [a1, a2, a3, a4, a5, a6, a7, a8] a9) fun v11 =>
   Option.bind (at? a10 a9) fun v12 =>
   Option.bind (at? a10 a9) fun v13 =>
   Option.bind (at? a10 a9) fun v14 =>
   Option.bind (Zxm a10 a9 (IntKind.wrap .u32 (v13 + v11))) fun v15 =>
   Zp.l2 j a1 a2 a3 a4 a5 a6 a7 a8 (IntKind.wrap .i64 (a9 + 1)) v15
  else
  some a10
def Zp (k : Nat) (a1 : List Int) (a2 : Str) : Option (List Int) :=
 Option.bind (Zp.l0 k a2 0 (List.replicate 64 (0 : Int))) fun y3 =>
 Option.bind (at? a1 0) fun v4 =>
 Option.bind (at? a1 0) fun v5 =>
 Option.bind (at? a1 1) fun v6 =>
 Option.bind (at? a1 1) fun v7 =>
 Option.bind (at? a1 2) fun v8 =>
 Option.bind (at? a1 2) fun v9 =>
 Option.bind (at? a1 3) fun v10 =>
 Option.bind (at? a1 3) fun v11 =>
 Option.bind (at? a1 4) fun v12 =>
 Option.bind (at? a1 4) fun v13 =>
 Option.bind (at? a1 5) fun v14 =>
 Option.bind (at? a1 5) fun v15 =>
 Option.bind (at? a1 6) fun v16 =>
 Option.bind (at? a1 6) fun v17 =>
 Option.bind (at? a1 7) fun v18 =>
 Option.bind (at? a1 7) fun v19 =>
 Option.bind (Zp.l1 k v5 v7 v9 v11 v13 v15 v17 v19 0 y3) fun y20 =>
 Option.bind (Zp.l2 k y20.1 y20.2.1 y20.2.2.1 y20.2.2.2.1 y20.2.2.2.2.1 y20.2.2.2.2.2.1 y20.2.2.2.2.2.2.1 y20.2.2.2.2.2.2.2 0 a1) fun y21 =>
 some y21
def Zp.sig : Sig := { ps := [.val false (.sl (.int .u32)) [.own 2000008], .val false .str (ros .str)], rs := [], ntmps := 193 }
def Zp.con (k : Nat) : Con := Zp.sig.con (fun x => Zp k x.1 x.2)
def Zp.C (k : Nat) : Ctx := { ti := TAB, con := Zh [(153, Z0f.con k), (154, Zyd.con k)] }
theorem Zp.cok (k : Nat) : CtxOk Tryz.prog (Zp.C k) := Zj Zi ⟨Z0f.ok k, Zyd.ok k, trivial⟩
def Zp.l0.ish : Shape := { tmps := [(1, .one (.v .str)), (4, .one (.own 2)), (23, .one (.v (.int .i64)))], slots := [(2, .arr false 2000064 (.int .u32))], nb := 3 }
def Zp.l0.outs : List (Ex × Shape) := [(.exit 0, { tmps := [(4, .one (.own 3))], slots := [(3, .arr false 2000064 (.int .u32))], nb := 4 })]
def Zp.l0.F (k j : Nat) (x : Za Zp.l0.ish.tys) : Option (Zy Zp.l0.outs) := Zp.l0 j x.1 x.2.1 x.2.2
def Zp.l0.s (k : Nat) : Summ := { n := 193, ish := Zp.l0.ish, outs := Zp.l0.outs, f := Zp.l0.F k k }
theorem Zp.l0.ev (k j : Nat) (x : Za Zp.l0.ish.tys) : V (Zp.C k) .auto (cO (cO (cR (cL (cR (cB Tryz.f126)))))) (mk Zp.l0.ish 193 x) (fun e st' => match e with | .nrm => (rd Zp.l0.ish st').bind (Zp.l0.F k j) | e => Z0 e st' Zp.l0.outs) = Zp.l0.F k (j + 1) x := by kernel_rfl
theorem Zp.l0.ok (k : Nat) : Z1 Tryz.prog (Zp.C k) (.loop (cO (cO (cR (cL (cR (cB Tryz.f126))))))) (Zp.l0.s k) := Z5 (by kernel_rfl) (sum_loop (p := .auto) (F := Zp.l0.F k) (Zp.cok k) (by kernel_rfl) (Zd (L := []) (by kernel_rfl) trivial) (fun _ => rfl) (fun j x y h => (Zp.l0.ev k j x).trans h) k rfl)
def Zp.l1.ish : Shape := { tmps := [(4, .one (.own 4)), (10, .one (.v (.int .u32))), (11, .one (.v (.int .u32))), (12, .one (.v (.int .u32))), (13, .one (.v (.int .u32))), (14, .one (.v (.int .u32))), (15, .one (.v (.int .u32))), (16, .one (.v (.int .u32))), (17, .one (.v (.int .u32))), (107, .one (.v (.int .i64)))], slots := [(4, .arr false 2000064 (.int .u32))], nb := 5 }
def Zp.l1.outs : List (Ex × Shape) := [(.exit 2, { tmps := [(10, .one (.v (.int .u32))), (11, .one (.v (.int .u32))), (12, .one (.v (.int .u32))), (13, .one (.v (.int .u32))), (14, .one (.v (.int .u32))), (15, .one (.v (.int .u32))), (16, .one (.v (.int .u32))), (17, .one (.v (.int .u32)))], slots := [], nb := 5 })]
def Zp.l1.F (k j : Nat) (x : Za Zp.l1.ish.tys) : Option (Zy Zp.l1.outs) := Zp.l1 j x.1 x.2.1 x.2.2.1 x.2.2.2.1 x.2.2.2.2.1 x.2.2.2.2.2.1 x.2.2.2.2.2.2.1 x.2.2.2.2.2.2.2.1 x.2.2.2.2.2.2.2.2.1 x.2.2.2.2.2.2.2.2.2
def Zp.l1.s (k : Nat) : Summ := { n := 193, ish := Zp.l1.ish, outs := Zp.l1.outs, f := Zp.l1.F k k }
theorem Zp.l1.ev (k j : Nat) (x : Za Zp.l1.ish.tys) : V (Zp.C k) .auto (cO (cO (cR (cL (cR (cR (cR (cB Tryz.f126)))))))) (mk Zp.l1.ish 193 x) (fun e st' => match e with | .nrm => (rd Zp.l1.ish st').bind (Zp.l1.F k j) | e => Z0 e st' Zp.l1.outs) = Zp.l1.F k (j + 1) x := by kernel_rfl
theorem Zp.l1.ok (k : Nat) : Z1 Tryz.prog (Zp.C k) (.loop (cO (cO (cR (cL (cR (cR (cR (cB Tryz.f126))))))))) (Zp.l1.s k) := Z5 (by kernel_rfl) (sum_loop (p := .auto) (F := Zp.l1.F k) (Zp.cok k) (by kernel_rfl) (Zd (L := []) (by kernel_rfl) trivial) (fun _ => rfl) (fun j x y h => (Zp.l1.ev k j x).trans h) k rfl)
def Zp.l2.ish : Shape := { tmps := [(0, .one (.pin 0)), (178, .agg [.v (.int .u32), .v (.int .u32), .v (.int .u32), .v (.int .u32), .v (.int .u32), .v (.int .u32), .v (.int .u32), .v (.int .u32)]), (179, .one (.v (.int .i64)))], slots := [(0, .pin 2000008 (.int .u32))], nb := 5 }
def Zp.l2.outs : List (Ex × Shape) := [(.exit 4, { tmps := [], slots := [(0, .pin 2000008 (.int .u32))], nb := 5 })]
def Zp.l2.F (k j : Nat) (x : Za Zp.l2.ish.tys) : Option (Zy Zp.l2.outs) := Zp.l2 j x.1 x.2.1 x.2.2.1 x.2.2.2.1 x.2.2.2.2.1 x.2.2.2.2.2.1 x.2.2.2.2.2.2.1 x.2.2.2.2.2.2.2.1 x.2.2.2.2.2.2.2.2.1 x.2.2.2.2.2.2.2.2.2
def Zp.l2.s (k : Nat) : Summ := { n := 193, ish := Zp.l2.ish, outs := Zp.l2.outs, f := Zp.l2.F k k }
theorem Zp.l2.ev (k j : Nat) (x : Za Zp.l2.ish.tys) : V (Zp.C k) .auto (cO (cO (cR (cR (cR (cR (cR (cB Tryz.f126)))))))) (mk Zp.l2.ish 193 x) (fun e st' => match e with | .nrm => (rd Zp.l2.ish st').bind (Zp.l2.F k j) | e => Z0 e st' Zp.l2.outs) = Zp.l2.F k (j + 1) x := by kernel_rfl
theorem Zp.l2.ok (k : Nat) : Z1 Tryz.prog (Zp.C k) (.loop (cO (cO (cR (cR (cR (cR (cR (cB Tryz.f126))))))))) (Zp.l2.s k) := Z5 (by kernel_rfl) (sum_loop (p := .auto) (F := Zp.l2.F k) (Zp.cok k) (by kernel_rfl) (Zd (L := []) (by kernel_rfl) trivial) (fun _ => rfl) (fun j x y h => (Zp.l2.ev k j x).trans h) k rfl)
theorem Zp.ev (k : Nat) (x : Za Zp.sig.ins) : Zp.sig.ev (Zp.C k) (.two .auto (.two (.two .auto (.one (.sum (Zp.l0.s k)))) (.two .auto (.two (.two .auto (.one (.sum (Zp.l1.s k)))) (.two .auto (.one (.sum (Zp.l2.s k)))))))) Tryz.f126.results.toList (cB Tryz.f126) x = Zp k x.1 x.2 := by kernel_rfl
theorem Zp.ok (k : Nat) : Zf Tryz.prog 126 (Zp.con k) := Zk (p := (.two .auto (.two (.two .auto (.one (.sum (Zp.l0.s k)))) (.two .auto (.two (.two .auto (.one (.sum (Zp.l1.s k)))) (.two .auto (.one (.sum (Zp.l2.s k))))))))) (Zp.cok k) Tryz.func126 (by kernel_rfl) (show Tryz.f126.body = some (cB Tryz.f126) by kernel_rfl) (by kernel_rfl) (by kernel_rfl) (Zd (L := [(Zp.l0.s k, cO (cR (cL (cR (cB Tryz.f126))))), (Zp.l1.s k, cO (cR (cL (cR (cR (cR (cB Tryz.f126))))))), (Zp.l2.s k, cO (cR (cR (cR (cR (cR (cB Tryz.f126)))))))]) (by kernel_rfl) ⟨Zp.l0.ok k, Zp.l1.ok k, Zp.l2.ok k, trivial⟩) (fun x y h => (Zp.ev k x).trans h)
def Zz.l0 (k : Nat) : Nat → Str → List Int → Option ((List Int))
 | 0, _, _ => none
 | j + 1, a1, a2 =>
  bif !(a1 == []) then
   Option.bind (Zkd a1 0 64) fun v3 =>
   Option.bind (Zp k a2 v3) fun v4 =>
   Option.bind (Zkd a1 64 ((a1.length) : Int)) fun v5 =>
   Zz.l0 k j v5 v4
  else
  some a2
def Zz.l1 (k : Nat) : Nat → Str → Int → Int → Int → Int → Int → Int → Int → Int → Int → Option (Str)
 | 0, _, _, _, _, _, _, _, _, _, _ => none
 | j + 1, a1, a2, a3, a4, a5, a6, a7, a8, a9, a10 =>
  bif decide (a10 < 8) then
   Option.bind (at? [a2, a3, a4, a5, a6, a7, a8, a9] a10) fun v11 =>
   Option.bind (Z0b k (IntKind.wrap .u64 v11) 4) fun v12 =>
   Option.bind (Z6e a1 v12) fun v13 =>
   Zz.l1 k j v13 a2 a3 a4 a5 a6 a7 a8 a9 (IntKind.wrap .i64 (a10 + 1))
  else
  some a1
def Zz (k : Nat) (a1 : Str) : Option (Str) :=
 Option.bind (nz? 64) fun v2 =>
 Option.bind (nz? 64) fun v3 =>
 Option.bind (Z6e a1 ([128] : Str)) fun v4 =>
 Option.bind (strings_Repeat ([0] : Str) (Int.tmod (IntKind.wrap .i64 (119 - (Int.tmod ((a1.length) : Int) 64))) 64)) fun v5 =>
 Option.bind (Z6e v4 v5) fun v6 =>
 Option.bind (Z0b k (IntKind.wrap .u64 (8 * (IntKind.wrap .u64 ((a1.length) : Int)))) 8) fun v7 =>
 Option.bind (Z6e v6 v7) fun v8 =>
 Option.bind (Zz.l0 k k v8 [(List.getD Zel 0 0), (List.getD Zel 1 0), (List.getD Zel 2 0), (List.getD Zel 3 0), (List.getD Zel 4 0), (List.getD Zel 5 0), (List.getD Zel 6 0), (List.getD Zel 7 0)]) fun y9 =>
 Option.bind (Zz.l1 k k [] (List.getD y9 0 0) (List.getD y9 1 0) (List.getD y9 2 0) (List.getD y9 3 0) (List.getD y9 4 0) (List.getD y9 5 0) (List.getD y9 6 0) (List.getD y9 7 0) 0) fun y10 =>
 some y10
def Zz.sig : Sig := { ps := [.val false .str (ros .str)], rs := [.val false [.v .str]], ntmps := 44 }
def Zz.con (k : Nat) : Con := Zz.sig.con (fun x => Zz k x)
def Zz.C (k : Nat) : Ctx := { ti := TAB, con := Zh [(124, strings_Repeat.con k), (125, Z0b.con k), (126, Zp.con k)] }
theorem Zz.cok (k : Nat) : CtxOk Tryz.prog (Zz.C k) := Zj Zi ⟨strings_Repeat.ok k, Z0b.ok k, Zp.ok k, trivial⟩
def Zz.l0.ish : Shape := { tmps := [(3, .one (.own 1)), (5, .one (.v .str))], slots := [(1, .arr false 2000008 (.int .u32))], nb := 2 }
def Zz.l0.outs : List (Ex × Shape) := [(.exit 0, { tmps := [(3, .one (.own 2))], slots := [(2, .arr false 2000008 (.int .u32))], nb := 3 })]
def Zz.l0.F (k j : Nat) (x : Za Zz.l0.ish.tys) : Option (Zy Zz.l0.outs) := Zz.l0 k j x.1 x.2
def Zz.l0.s (k : Nat) : Summ := { n := 44, ish := Zz.l0.ish, outs := Zz.l0.outs, f := Zz.l0.F k k }
theorem Zz.l0.ev (k j : Nat) (x : Za Zz.l0.ish.tys) : V (Zz.C k) .auto (cO (cO (cL (cR (cR (cR (cR (cB Tryz.f93)))))))) (mk Zz.l0.ish 44 x) (fun e st' => match e with | .nrm => (rd Zz.l0.ish st').bind (Zz.l0.F k j) | e => Z0 e st' Zz.l0.outs) = Zz.l0.F k (j + 1) x := by kernel_rfl
theorem Zz.l0.ok (k : Nat) : Z1 Tryz.prog (Zz.C k) (.loop (cO (cO (cL (cR (cR (cR (cR (cB Tryz.f93))))))))) (Zz.l0.s k) := Z5 (by kernel_rfl) (sum_loop (p := .auto) (F := Zz.l0.F k) (Zz.cok k) (by kernel_rfl) (Zd (L := []) (by kernel_rfl) trivial) (fun _ => rfl) (fun j x y h => (Zz.l0.ev k j x).trans h) k rfl)
def Zz.l1.ish : Shape := { tmps := [(6, .one (.v .str)), (33, .agg [.v (.int .u32), .v (.int .u32), .v (.int .u32), .v (.int .u32), .v (.int .u32), .v (.int .u32), .v (.int .u32), .v (.int .u32)]), (34, .one (.v (.int .i64)))], slots := [], nb := 3 }
def Zz.l1.outs : List (Ex × Shape) := [(.exit 2, { tmps := [(6, .one (.v .str))], slots := [], nb := 3 })]
def Zz.l1.F (k j : Nat) (x : Za Zz.l1.ish.tys) : Option (Zy Zz.l1.outs) := Zz.l1 k j x.1 x.2.1 x.2.2.1 x.2.2.2.1 x.2.2.2.2.1 x.2.2.2.2.2.1 x.2.2.2.2.2.2.1 x.2.2.2.2.2.2.2.1 x.2.2.2.2.2.2.2.2.1 x.2.2.2.2.2.2.2.2.2
def Zz.l1.s (k : Nat) : Summ := { n := 44, ish := Zz.l1.ish, outs := Zz.l1.outs, f := Zz.l1.F k k }
theorem Zz.l1.ev (k j : Nat) (x : Za Zz.l1.ish.tys) : V (Zz.C k) .auto (cO (cO (cR (cL (cR (cR (cR (cR (cR (cR (cB Tryz.f93))))))))))) (mk Zz.l1.ish 44 x) (fun e st' => match e with | .nrm => (rd Zz.l1.ish st').bind (Zz.l1.F k j) | e => Z0 e st' Zz.l1.outs) = Zz.l1.F k (j + 1) x := by kernel_rfl
theorem Zz.l1.ok (k : Nat) : Z1 Tryz.prog (Zz.C k) (.loop (cO (cO (cR (cL (cR (cR (cR (cR (cR (cR (cB Tryz.f93)))))))))))) (Zz.l1.s k) := Z5 (by kernel_rfl) (sum_loop (p := .auto) (F := Zz.l1.F k) (Zz.cok k) (by kernel_rfl) (Zd (L := []) (by kernel_rfl) trivial) (fun _ => rfl) (fun j x y h => (Zz.l1.ev k j x).trans h) k rfl)
theorem Zz.ev (k : Nat) (x : Za Zz.sig.ins) : Zz.sig.ev (Zz.C k) (.two .auto (.two .auto (.two .auto (.two .auto (.two (.one (.sum (Zz.l0.s k))) (.two .auto (.two (.two .auto (.one (.sum (Zz.l1.s k)))) .auto))))))) Tryz.f93.results.toList (cB Tryz.f93) x = Zz k x := by kernel_rfl
theorem Zz.ok (k : Nat) : Zf Tryz.prog 93 (Zz.con k) := Zk (p := (.two .auto (.two .auto (.two .auto (.two .auto (.two (.one (.sum (Zz.l0.s k))) (.two .auto (.two (.two .auto (.one (.sum (Zz.l1.s k)))) .auto)))))))) (Zz.cok k) Tryz.func93 (by kernel_rfl) (show Tryz.f93.body = some (cB Tryz.f93) by kernel_rfl) (by kernel_rfl) (by kernel_rfl) (Zd (L := [(Zz.l0.s k, cO (cL (cR (cR (cR (cR (cB Tryz.f93))))))), (Zz.l1.s k, cO (cR (cL (cR (cR (cR (cR (cR (cR (cB Tryz.f93))))))))))]) (by kernel_rfl) ⟨Zz.l0.ok k, Zz.l1.ok k, trivial⟩) (fun x y h => (Zz.ev k x).trans h)
def strings_Join (l : List Str) (s : Str) : Option Str := if l.length ≤ 140737488355328 ∧ (Lib.join l s).length ≤ 140737488355328 then some (Lib.join l s) else none
def strings_Join.con (k : Nat) : Con := { ms := [.val [.ro], .val [.ro]], f := fun xs => match xs with
 | [.val false [.leaf (.bor .str l)], .val false [.leaf (.str s)]] => .opt Str (strings_Join l s) fun r => ⟨[.val false [.leaf (.str r)]], []⟩
 | _ => .fail }
theorem strings_Join.ok (k : Nat) : Zf Tryz.prog 94 (strings_Join.con k) := by
 refine ⟨(Z5y Tryz.func94 (by kernel_rfl) (show Tryz.f94.body = some (cB Tryz.f94) by kernel_rfl)), ?_⟩
 intro xs rr hrr w vs F L M hF hnd hgl hargs
 unfold strings_Join.con at hrr
 dsimp only at hrr
 split at hrr
 ·rename_i l s
  replace hrr : (strings_Join l s).map (fun r => (⟨[.val false [.leaf (.str r)]], []⟩ : RR)) = some rr := hrr
  unfold strings_Join at hrr
  split at hrr
  ·rename_i hc
   obtain ⟨hc1, hc2⟩ := hc
   cases hrr
   match vs, hargs with
   | [v1, v2], ⟨_, _, _, _, hL, hM, ⟨rfl, hv1, hn1⟩, _, _, _, _, hL2, hM2, ⟨rfl, hv2, hn2⟩, hn3, hn4⟩ =>
   have hv2 : v2 = .string (ba s) := hv2
   subst hv2
   subst hn1
   subst hn2
   subst hn3
   subst hn4
   subst hL2
   subst hM2
   subst hL
   subst hM
   obtain ⟨A, c, hv, hlc, hrow⟩ := hv1
   cases hv
   have fin : ∀ w', Below w.heap.size w w' → ∃ v, Ending.returned (.string (ba (Lib.join l s))) = .returned v ∧ Zrr ⟨[.val false [.leaf (.str (Lib.join l s))]], []⟩ F [] [] w v w' := fun w' bel =>
    ⟨_, rfl, ⟨bel.os, bel.tape, bel.output, bel.size, fun b hb _ => bel.block b hb⟩, [], [], (fun c hc => nomatch hc), List.nodup_nil, rfl, rfl, rfl⟩
   rcases hrow with rfl | ⟨g, o, rfl, hB, hcells⟩
   ·refine (Tryz.strings_Join_none A c (ba s) w).mono ?_
    rintro e w' ⟨rfl, rfl⟩
    exact fin _ (Below.refl _ _)
   ·have hx : ((l.map ba).map (·.data.toList)) = l := by rw [List.map_map]; exact List.map_id' l
    have hcall := Tryz.strings_Join g o c (l.map ba) (ba s) w (fun j x hj => by
     rw [List.getElem?_map] at hj
     obtain ⟨y, hy, rfl⟩ := Option.map_eq_some_iff.1 hj
     obtain ⟨cs, h1, h2⟩ := hcells j y hy
     have h2 : cs = [.string (ba y)] := h2
     subst h2
     have := h1 0 _ rfl
     simpa [Ty.sz] using this) hB.1 (by rw [List.length_map]; exact hc1) (by rw [List.length_map]; exact hlc) (by rw [hx]; exact hc2)
    rw [hx, List.length_map] at hcall
    refine hcall.mono ?_
    rintro e w' ⟨rfl, bel⟩
    exact fin w' bel
  ·cases hrr
 ·cases hrr
def Zgg (k : Nat) (a1 : List Str) : Option (Str) :=
 Option.bind (strings_Join a1 []) fun v2 =>
 Option.bind (Zz k v2) fun v3 =>
 some v3
def Zgg.sig : Sig := { ps := [.val false (.sl .str) (ros (.sl .str))], rs := [.val false [.v .str]], ntmps := 6 }
def Zgg.con (k : Nat) : Con := Zgg.sig.con (fun x => Zgg k x)
def Zgg.C (k : Nat) : Ctx := { ti := TAB, con := Zh [(93, Zz.con k), (94, strings_Join.con k)] }
theorem Zgg.cok (k : Nat) : CtxOk Tryz.prog (Zgg.C k) := Zj Zi ⟨Zz.ok k, strings_Join.ok k, trivial⟩
theorem Zgg.ev (k : Nat) (x : Za Zgg.sig.ins) : Zgg.sig.ev (Zgg.C k) .auto Tryz.f50.results.toList (cB Tryz.f50) x = Zgg k x := by kernel_rfl
theorem Zgg.ok (k : Nat) : Zf Tryz.prog 50 (Zgg.con k) := Zk (p := .auto) (Zgg.cok k) Tryz.func50 (by kernel_rfl) (show Tryz.f50.body = some (cB Tryz.f50) by kernel_rfl) (by kernel_rfl) (by kernel_rfl) (Zd (L := []) (by kernel_rfl) trivial) (fun x y h => (Zgg.ev k x).trans h)
def Z3f (a1 : List G36) : Option (Int) :=
 some ((a1.length) : Int)
def Z3f.sig : Sig := { ps := [.val false (.sl T36) (ros (.sl T36))], rs := [.val false [.v (.int .i64)]], ntmps := 5 }
def Z3f.con (k : Nat) : Con := Z3f.sig.con (fun x => Z3f x)
def Z3f.C (k : Nat) : Ctx := { ti := TAB, con := Zh [] }
theorem Z3f.cok (k : Nat) : CtxOk Tryz.prog (Z3f.C k) := Zj Zi trivial
theorem Z3f.ev (k : Nat) (x : Za Z3f.sig.ins) : Z3f.sig.ev (Z3f.C k) .auto Tryz.f51.results.toList (cB Tryz.f51) x = Z3f x := by kernel_rfl
theorem Z3f.ok (k : Nat) : Zf Tryz.prog 51 (Z3f.con k) := Zk (p := .auto) (Z3f.cok k) Tryz.func51 (by kernel_rfl) (show Tryz.f51.body = some (cB Tryz.f51) by kernel_rfl) (by kernel_rfl) (by kernel_rfl) (Zd (L := []) (by kernel_rfl) trivial) (fun x y h => (Z3f.ev k x).trans h)
def Zwb.l0 : Nat → List G36 → List G36 → Int → Int → Option (Unit ⊕ Bool)
 | 0, _, _, _, _ => none
 | j + 1, a1, a2, a3, a4 =>
  bif decide (a4 < a3) then
   Option.bind (at? a1 a4) fun v5 =>
   Option.bind (at? a2 a4) fun v6 =>
   bif !((v5.1 == v6.1) && ((v5.2.1 == v6.2.1) && ((v5.2.2.1 == v6.2.2.1) && (v5.2.2.2 == v6.2.2.2)))) then
    some (.inr false)
   else
   Zwb.l0 j a1 a2 a3 (IntKind.wrap .i64 (a4 + 1))
  else
  some (.inl ())
def Zwb (k : Nat) (a1 : List G36) (a2 : List G36) : Option (Bool) :=
 bif ((a1.length) : Int) != ((a2.length) : Int) then
  some false
 else
 Option.bind (Zwb.l0 k a1 a2 ((a1.length) : Int) 0) fun
  | .inl y3 =>
   some true
  | .inr y4 =>
   some y4
def Zwb.sig : Sig := { ps := [.val false (.sl T36) (ros (.sl T36)), .val false (.sl T36) (ros (.sl T36))], rs := [.val false [.v .bool]], ntmps := 26 }
def Zwb.con (k : Nat) : Con := Zwb.sig.con (fun x => Zwb k x.1 x.2)
def Zwb.C (k : Nat) : Ctx := { ti := TAB, con := Zh [] }
theorem Zwb.cok (k : Nat) : CtxOk Tryz.prog (Zwb.C k) := Zj Zi trivial
def Zwb.l0.ish : Shape := { tmps := [(0, .one (.bor T36)), (1, .one (.bor T36)), (12, .one (.v (.int .i64))), (13, .one (.v (.int .i64)))], slots := [], nb := 0 }
def Zwb.l0.outs : List (Ex × Shape) := [(.exit 0, { tmps := [], slots := [], nb := 0 }), (.ret, { tmps := [(4, .one (.v .bool))], slots := [], nb := 0 })]
def Zwb.l0.F (k j : Nat) (x : Za Zwb.l0.ish.tys) : Option (Zy Zwb.l0.outs) := Zwb.l0 j x.1 x.2.1 x.2.2.1 x.2.2.2
def Zwb.l0.s (k : Nat) : Summ := { n := 26, ish := Zwb.l0.ish, outs := Zwb.l0.outs, f := Zwb.l0.F k k }
theorem Zwb.l0.ev (k j : Nat) (x : Za Zwb.l0.ish.tys) : V (Zwb.C k) .auto (cO (cO (cR (cL (cR (cR (cB Tryz.f52))))))) (mk Zwb.l0.ish 26 x) (fun e st' => match e with | .nrm => (rd Zwb.l0.ish st').bind (Zwb.l0.F k j) | e => Z0 e st' Zwb.l0.outs) = Zwb.l0.F k (j + 1) x := by kernel_rfl
theorem Zwb.l0.ok (k : Nat) : Z1 Tryz.prog (Zwb.C k) (.loop (cO (cO (cR (cL (cR (cR (cB Tryz.f52)))))))) (Zwb.l0.s k) := Z5 (by kernel_rfl) (sum_loop (p := .auto) (F := Zwb.l0.F k) (Zwb.cok k) (by kernel_rfl) (Zd (L := []) (by kernel_rfl) trivial) (fun _ => rfl) (fun j x y h => (Zwb.l0.ev k j x).trans h) k rfl)
theorem Zwb.ev (k : Nat) (x : Za Zwb.sig.ins) : Zwb.sig.ev (Zwb.C k) (.two .auto (.two .auto (.two (.two .auto (.one (.sum (Zwb.l0.s k)))) .auto))) Tryz.f52.results.toList (cB Tryz.f52) x = Zwb k x.1 x.2 := by kernel_rfl
theorem Zwb.ok (k : Nat) : Zf Tryz.prog 52 (Zwb.con k) := Zk (p := (.two .auto (.two .auto (.two (.two .auto (.one (.sum (Zwb.l0.s k)))) .auto)))) (Zwb.cok k) Tryz.func52 (by kernel_rfl) (show Tryz.f52.body = some (cB Tryz.f52) by kernel_rfl) (by kernel_rfl) (by kernel_rfl) (Zd (L := [(Zwb.l0.s k, cO (cR (cL (cR (cR (cB Tryz.f52))))))]) (by kernel_rfl) ⟨Zwb.l0.ok k, trivial⟩) (fun x y h => (Zwb.ev k x).trans h)
def Z5f (k : Nat) (a1 : G26) (a2 : G32) : Option (Int × Int × Int × Str × Int × Int × Int × Str) :=
 Option.bind (Z4d k a2) fun v3 =>
 bif v3.1 == 1 then
  Option.bind (Zbc k a2) fun v4 =>
  Option.bind (Zgg k v4) fun v5 =>
  bif v5 == a1.1.2.1 then
   some (8, 0, 0, [], 0, 0, 0, [])
  else
  bif !a1.2 then
   some (8, 0, 0, [], 0, 0, 0, [])
  else
  Option.bind (Z3f a1.1.2.2) fun v6 =>
  Option.bind (Zs k a1.1.2.2) fun v7 =>
  Option.bind (Zlb k v7) fun v8 =>
  some (1, v6, v8, a1.1.2.1, 0, 0, 0, [])
 else
 bif v3.1 == 2 then
  Option.bind (Z9b k a2 (v3.1, (v3.2.1, (v3.2.2.1, (v3.2.2.2.1, (v3.2.2.2.2.1, (v3.2.2.2.2.2.1, (v3.2.2.2.2.2.2.1, v3.2.2.2.2.2.2.2.1)))))))) fun v9 =>
  Option.bind (Z3f a1.1.2.2) fun v10 =>
  bif v3.2.2.1 != v10 then
   some (4, 0, 0, [], 0, 0, 0, [])
  else
  bif !(v3.2.2.2.2.2.1 == a1.1.2.1) then
   some (4, 0, 0, [], 0, 0, 0, [])
  else
  let e11 := ((a1.1.2.2.length) : Int)
  bif decide (e11 < ((v9.length) : Int)) then
   some (4, 0, 0, [], 0, 0, 0, [])
  else
  Option.bind (Zkd a1.1.2.2 0 ((v9.length) : Int)) fun v12 =>
  Option.bind (Zwb k v9 v12) fun v13 =>
  bif !v13 then
   some (4, 0, 0, [], 0, 0, 0, [])
  else
  bif ((v9.length) : Int) == e11 then
   some (3, 0, 0, [], 0, 0, 0, [])
  else
  Option.bind (at? a1.1.2.2 ((v9.length) : Int)) fun v14 =>
  some (2, 0, 0, [], v14.1, v14.2.1, v14.2.2.1, v14.2.2.2)
 else
 bif v3.1 == 3 then
  some (11, 0, 0, [], 0, 0, 0, [])
 else
 bif v3.1 == 4 then
  bif a1.2 then
   some (5, 0, 0, [], 0, 0, 0, [])
  else
  some (4, 0, 0, [], 0, 0, 0, [])
 else
 some (6, 0, 0, [], 0, 0, 0, [])
def Z5f.sig : Sig := { ps := [.val true T26 (ros T26), .val true T32 (ros T32)], rs := [.val true [.v (.int .i64), .v (.int .i64), .v (.int .i64), .v .str, .v (.int .i64), .v (.int .i64), .v (.int .i64), .v .str]], ntmps := 105 }
def Z5f.con (k : Nat) : Con := Z5f.sig.con (fun x => Z5f k x.1 x.2)
def Z5f.C (k : Nat) : Ctx := { ti := TAB, con := Zh [(42, Zlb.con k), (43, Zs.con k), (44, Z4d.con k), (46, Zbc.con k), (47, Z9b.con k), (50, Zgg.con k), (51, Z3f.con k), (52, Zwb.con k)], rob := true }
theorem Z5f.cok (k : Nat) : CtxOk Tryz.prog (Z5f.C k) := Zj Zi ⟨Zlb.ok k, Zs.ok k, Z4d.ok k, Zbc.ok k, Z9b.ok k, Zgg.ok k, Z3f.ok k, Zwb.ok k, trivial⟩
theorem Z5f.ev (k : Nat) (x : Za Z5f.sig.ins) : Z5f.sig.ev (Z5f.C k) .auto Tryz.f22.results.toList (cB Tryz.f22) x = Z5f k x.1 x.2 := by kernel_rfl
theorem Z5f.ok (k : Nat) : Zf Tryz.prog 22 (Z5f.con k) := Zk (p := .auto) (Z5f.cok k) Tryz.func22 (by kernel_rfl) (show Tryz.f22.body = some (cB Tryz.f22) by kernel_rfl) (by kernel_rfl) (by kernel_rfl) (Zd (L := []) (by kernel_rfl) trivial) (fun x y h => (Z5f.ev k x).trans h)
def Z9e (k : Nat) (a1 : G26) (a2 : G32) : Option (Int × Int × Int × Str × Int × Int × Int × Str) :=
 Option.bind (Zof k a1) fun v3 =>
 bif !v3 then
  some (0, 0, 0, [], 0, 0, 0, [])
 else
 Option.bind (Znf k a2) fun v4 =>
 bif !v4 then
  some (0, 0, 0, [], 0, 0, 0, [])
 else
 Option.bind (Z5f k a1 a2) fun v5 =>
 some (v5.1, v5.2.1, v5.2.2.1, v5.2.2.2.1, v5.2.2.2.2.1, v5.2.2.2.2.2.1, v5.2.2.2.2.2.2.1, v5.2.2.2.2.2.2.2)
def Z9e.sig : Sig := { ps := [.val true T26 (ros T26), .val true T32 (ros T32)], rs := [.val true [.v (.int .i64), .v (.int .i64), .v (.int .i64), .v .str, .v (.int .i64), .v (.int .i64), .v (.int .i64), .v .str]], ntmps := 17 }
def Z9e.con (k : Nat) : Con := Z9e.sig.con (fun x => Z9e k x.1 x.2)
def Z9e.C (k : Nat) : Ctx := { ti := TAB, con := Zh [(20, Zof.con k), (21, Znf.con k), (22, Z5f.con k)], rob := true }
theorem Z9e.cok (k : Nat) : CtxOk Tryz.prog (Z9e.C k) := Zj Zi ⟨Zof.ok k, Znf.ok k, Z5f.ok k, trivial⟩
theorem Z9e.ev (k : Nat) (x : Za Z9e.sig.ins) : Z9e.sig.ev (Z9e.C k) .auto Tryz.f9.results.toList (cB Tryz.f9) x = Z9e k x.1 x.2 := by kernel_rfl
theorem Z9e.ok (k : Nat) : Zf Tryz.prog 9 (Z9e.con k) := Zk (p := .auto) (Z9e.cok k) Tryz.func9 (by kernel_rfl) (show Tryz.f9.body = some (cB Tryz.f9) by kernel_rfl) (by kernel_rfl) (by kernel_rfl) (Zd (L := []) (by kernel_rfl) trivial) (fun x y h => (Z9e.ev k x).trans h)
def Zxe (a1 : G36) (a2 : G36) : Option (Bool) :=
 bif a1.1 != a2.1 then
  some false
 else
 bif a1.2.1 != a2.2.1 then
  some false
 else
 bif a1.2.2.1 != a2.2.2.1 then
  some false
 else
 bif !(a1.2.2.2 == a2.2.2.2) then
  some false
 else
 some true
def Zxe.sig : Sig := { ps := [.val true T36 (ros T36), .val true T36 (ros T36)], rs := [.val false [.v .bool]], ntmps := 25 }
def Zxe.con (k : Nat) : Con := Zxe.sig.con (fun x => Zxe x.1 x.2)
def Zxe.C (k : Nat) : Ctx := { ti := TAB, con := Zh [] }
theorem Zxe.cok (k : Nat) : CtxOk Tryz.prog (Zxe.C k) := Zj Zi trivial
theorem Zxe.ev (k : Nat) (x : Za Zxe.sig.ins) : Zxe.sig.ev (Zxe.C k) .auto Tryz.f23.results.toList (cB Tryz.f23) x = Zxe x.1 x.2 := by kernel_rfl
theorem Zxe.ok (k : Nat) : Zf Tryz.prog 23 (Zxe.con k) := Zk (p := .auto) (Zxe.cok k) Tryz.func23 (by kernel_rfl) (show Tryz.f23.body = some (cB Tryz.f23) by kernel_rfl) (by kernel_rfl) (by kernel_rfl) (Zd (L := []) (by kernel_rfl) trivial) (fun x y h => (Zxe.ev k x).trans h)
def Zwg (a1 : G38) (a2 : G38) : Option (Bool) :=
 bif a1.1 != a2.1 then
  some false
 else
 bif a1.2.1 != a2.2.1 then
  some false
 else
 bif a1.2.2.1 != a2.2.2.1 then
  some false
 else
 bif !(a1.2.2.2.1 == a2.2.2.2.1) then
  some false
 else
 Option.bind (Zxe a1.2.2.2.2 a2.2.2.2.2) fun v3 =>
 bif !v3 then
  some false
 else
 some true
def Zwg.sig : Sig := { ps := [.val true T38 (ros T38), .val true T38 (ros T38)], rs := [.val false [.v .bool]], ntmps := 31 }
def Zwg.con (k : Nat) : Con := Zwg.sig.con (fun x => Zwg x.1 x.2)
def Zwg.C (k : Nat) : Ctx := { ti := TAB, con := Zh [(23, Zxe.con k)] }
theorem Zwg.cok (k : Nat) : CtxOk Tryz.prog (Zwg.C k) := Zj Zi ⟨Zxe.ok k, trivial⟩
theorem Zwg.ev (k : Nat) (x : Za Zwg.sig.ins) : Zwg.sig.ev (Zwg.C k) .auto Tryz.f10.results.toList (cB Tryz.f10) x = Zwg x.1 x.2 := by kernel_rfl
theorem Zwg.ok (k : Nat) : Zf Tryz.prog 10 (Zwg.con k) := Zk (p := .auto) (Zwg.cok k) Tryz.func10 (by kernel_rfl) (show Tryz.f10.body = some (cB Tryz.f10) by kernel_rfl) (by kernel_rfl) (by kernel_rfl) (Zd (L := []) (by kernel_rfl) trivial) (fun x y h => (Zwg.ev k x).trans h)
def Z8b.l0 : Nat → List G36 → List G36 → Int → Option (Unit ⊕ Bool)
 | 0, _, _, _ => none
 | j + 1, a1, a2, a3 =>
  bif decide (a3 < ((a1.length) : Int)) then
   Option.bind (at? a1 a3) fun v4 =>
   Option.bind (at? a2 a3) fun v5 =>
   Option.bind (Zxe v4 v5) fun v6 =>
   bif !v6 then
    some (.inr false)
   else
   Z8b.l0 j a1 a2 (IntKind.wrap .i64 (a3 + 1))
  else
  some (.inl ())
def Z8b (k : Nat) (a1 : List G36) (a2 : List G36) : Option (Bool) :=
 bif ((a1.length) : Int) != ((a2.length) : Int) then
  some false
 else
 Option.bind (Z8b.l0 k a1 a2 0) fun
  | .inl y3 =>
   some true
  | .inr y4 =>
   some y4
def Z8b.sig : Sig := { ps := [.val false (.sl T36) (ros (.sl T36)), .val false (.sl T36) (ros (.sl T36))], rs := [.val false [.v .bool]], ntmps := 27 }
def Z8b.con (k : Nat) : Con := Z8b.sig.con (fun x => Z8b k x.1 x.2)
def Z8b.C (k : Nat) : Ctx := { ti := TAB, con := Zh [(23, Zxe.con k)] }
theorem Z8b.cok (k : Nat) : CtxOk Tryz.prog (Z8b.C k) := Zj Zi ⟨Zxe.ok k, trivial⟩
def Z8b.l0.ish : Shape := { tmps := [(0, .one (.bor T36)), (1, .one (.bor T36)), (5, .one (.v (.int .i64)))], slots := [], nb := 0 }
def Z8b.l0.outs : List (Ex × Shape) := [(.exit 0, { tmps := [], slots := [], nb := 0 }), (.ret, { tmps := [(4, .one (.v .bool))], slots := [], nb := 0 })]
def Z8b.l0.F (k j : Nat) (x : Za Z8b.l0.ish.tys) : Option (Zy Z8b.l0.outs) := Z8b.l0 j x.1 x.2.1 x.2.2
def Z8b.l0.s (k : Nat) : Summ := { n := 27, ish := Z8b.l0.ish, outs := Z8b.l0.outs, f := Z8b.l0.F k k }
theorem Z8b.l0.ev (k j : Nat) (x : Za Z8b.l0.ish.tys) : V (Z8b.C k) .auto (cO (cO (cR (cL (cR (cR (cB Tryz.f53))))))) (mk Z8b.l0.ish 27 x) (fun e st' => match e with | .nrm => (rd Z8b.l0.ish st').bind (Z8b.l0.F k j) | e => Z0 e st' Z8b.l0.outs) = Z8b.l0.F k (j + 1) x := by kernel_rfl
theorem Z8b.l0.ok (k : Nat) : Z1 Tryz.prog (Z8b.C k) (.loop (cO (cO (cR (cL (cR (cR (cB Tryz.f53)))))))) (Z8b.l0.s k) := Z5 (by kernel_rfl) (sum_loop (p := .auto) (F := Z8b.l0.F k) (Z8b.cok k) (by kernel_rfl) (Zd (L := []) (by kernel_rfl) trivial) (fun _ => rfl) (fun j x y h => (Z8b.l0.ev k j x).trans h) k rfl)
theorem Z8b.ev (k : Nat) (x : Za Z8b.sig.ins) : Z8b.sig.ev (Z8b.C k) (.two .auto (.two .auto (.two (.two .auto (.one (.sum (Z8b.l0.s k)))) .auto))) Tryz.f53.results.toList (cB Tryz.f53) x = Z8b k x.1 x.2 := by kernel_rfl
theorem Z8b.ok (k : Nat) : Zf Tryz.prog 53 (Z8b.con k) := Zk (p := (.two .auto (.two .auto (.two (.two .auto (.one (.sum (Z8b.l0.s k)))) .auto)))) (Z8b.cok k) Tryz.func53 (by kernel_rfl) (show Tryz.f53.body = some (cB Tryz.f53) by kernel_rfl) (by kernel_rfl) (by kernel_rfl) (Zd (L := [(Z8b.l0.s k, cO (cR (cL (cR (cR (cB Tryz.f53))))))]) (by kernel_rfl) ⟨Z8b.l0.ok k, trivial⟩) (fun x y h => (Z8b.ev k x).trans h)
def Z4f (k : Nat) (a1 : G24) (a2 : G24) : Option (Bool) :=
 bif a1.1 != a2.1 then
  some false
 else
 bif !(a1.2.1 == a2.2.1) then
  some false
 else
 Option.bind (Z8b k a1.2.2 a2.2.2) fun v3 =>
 bif !v3 then
  some false
 else
 some true
def Z4f.sig : Sig := { ps := [.val true T24 (ros T24), .val true T24 (ros T24)], rs := [.val false [.v .bool]], ntmps := 21 }
def Z4f.con (k : Nat) : Con := Z4f.sig.con (fun x => Z4f k x.1 x.2)
def Z4f.C (k : Nat) : Ctx := { ti := TAB, con := Zh [(53, Z8b.con k)], rob := true }
theorem Z4f.cok (k : Nat) : CtxOk Tryz.prog (Z4f.C k) := Zj Zi ⟨Z8b.ok k, trivial⟩
theorem Z4f.ev (k : Nat) (x : Za Z4f.sig.ins) : Z4f.sig.ev (Z4f.C k) .auto Tryz.f24.results.toList (cB Tryz.f24) x = Z4f k x.1 x.2 := by kernel_rfl
theorem Z4f.ok (k : Nat) : Zf Tryz.prog 24 (Z4f.con k) := Zk (p := .auto) (Z4f.cok k) Tryz.func24 (by kernel_rfl) (show Tryz.f24.body = some (cB Tryz.f24) by kernel_rfl) (by kernel_rfl) (by kernel_rfl) (Zd (L := []) (by kernel_rfl) trivial) (fun x y h => (Z4f.ev k x).trans h)
def Z5g (k : Nat) (a1 : G26) (a2 : G26) : Option (Bool) :=
 Option.bind (Z4f k a1.1 a2.1) fun v3 =>
 bif !v3 then
  some false
 else
 bif !(a1.2 == a2.2) then
  some false
 else
 some true
def Z5g.sig : Sig := { ps := [.val true T26 (ros T26), .val true T26 (ros T26)], rs := [.val false [.v .bool]], ntmps := 16 }
def Z5g.con (k : Nat) : Con := Z5g.sig.con (fun x => Z5g k x.1 x.2)
def Z5g.C (k : Nat) : Ctx := { ti := TAB, con := Zh [(24, Z4f.con k)], rob := true }
theorem Z5g.cok (k : Nat) : CtxOk Tryz.prog (Z5g.C k) := Zj Zi ⟨Z4f.ok k, trivial⟩
theorem Z5g.ev (k : Nat) (x : Za Z5g.sig.ins) : Z5g.sig.ev (Z5g.C k) .auto Tryz.f11.results.toList (cB Tryz.f11) x = Z5g k x.1 x.2 := by kernel_rfl
theorem Z5g.ok (k : Nat) : Zf Tryz.prog 11 (Z5g.con k) := Zk (p := .auto) (Z5g.cok k) Tryz.func11 (by kernel_rfl) (show Tryz.f11.body = some (cB Tryz.f11) by kernel_rfl) (by kernel_rfl) (by kernel_rfl) (Zd (L := []) (by kernel_rfl) trivial) (fun x y h => (Z5g.ev k x).trans h)
def Ztc.l0 : Nat → List Str → List Str → Int → Option (Unit ⊕ Bool)
 | 0, _, _, _ => none
 | j + 1, a1, a2, a3 =>
  bif decide (a3 < ((a1.length) : Int)) then
   Option.bind (at? a1 a3) fun v4 =>
   Option.bind (at? a2 a3) fun v5 =>
   bif !(v4 == v5) then
    some (.inr false)
   else
   Ztc.l0 j a1 a2 (IntKind.wrap .i64 (a3 + 1))
  else
  some (.inl ())
def Ztc (k : Nat) (a1 : List Str) (a2 : List Str) : Option (Bool) :=
 bif ((a1.length) : Int) != ((a2.length) : Int) then
  some false
 else
 Option.bind (Ztc.l0 k a1 a2 0) fun
  | .inl y3 =>
   some true
  | .inr y4 =>
   some y4
def Ztc.sig : Sig := { ps := [.val false (.sl .str) (ros (.sl .str)), .val false (.sl .str) (ros (.sl .str))], rs := [.val false [.v .bool]], ntmps := 26 }
def Ztc.con (k : Nat) : Con := Ztc.sig.con (fun x => Ztc k x.1 x.2)
def Ztc.C (k : Nat) : Ctx := { ti := TAB, con := Zh [] }
theorem Ztc.cok (k : Nat) : CtxOk Tryz.prog (Ztc.C k) := Zj Zi trivial
def Ztc.l0.ish : Shape := { tmps := [(0, .one (.bor .str)), (1, .one (.bor .str)), (5, .one (.v (.int .i64)))], slots := [], nb := 0 }
def Ztc.l0.outs : List (Ex × Shape) := [(.exit 0, { tmps := [], slots := [], nb := 0 }), (.ret, { tmps := [(4, .one (.v .bool))], slots := [], nb := 0 })]
def Ztc.l0.F (k j : Nat) (x : Za Ztc.l0.ish.tys) : Option (Zy Ztc.l0.outs) := Ztc.l0 j x.1 x.2.1 x.2.2
def Ztc.l0.s (k : Nat) : Summ := { n := 26, ish := Ztc.l0.ish, outs := Ztc.l0.outs, f := Ztc.l0.F k k }
theorem Ztc.l0.ev (k j : Nat) (x : Za Ztc.l0.ish.tys) : V (Ztc.C k) .auto (cO (cO (cR (cL (cR (cR (cB Tryz.f54))))))) (mk Ztc.l0.ish 26 x) (fun e st' => match e with | .nrm => (rd Ztc.l0.ish st').bind (Ztc.l0.F k j) | e => Z0 e st' Ztc.l0.outs) = Ztc.l0.F k (j + 1) x := by kernel_rfl
theorem Ztc.l0.ok (k : Nat) : Z1 Tryz.prog (Ztc.C k) (.loop (cO (cO (cR (cL (cR (cR (cB Tryz.f54)))))))) (Ztc.l0.s k) := Z5 (by kernel_rfl) (sum_loop (p := .auto) (F := Ztc.l0.F k) (Ztc.cok k) (by kernel_rfl) (Zd (L := []) (by kernel_rfl) trivial) (fun _ => rfl) (fun j x y h => (Ztc.l0.ev k j x).trans h) k rfl)
theorem Ztc.ev (k : Nat) (x : Za Ztc.sig.ins) : Ztc.sig.ev (Ztc.C k) (.two .auto (.two .auto (.two (.two .auto (.one (.sum (Ztc.l0.s k)))) .auto))) Tryz.f54.results.toList (cB Tryz.f54) x = Ztc k x.1 x.2 := by kernel_rfl
theorem Ztc.ok (k : Nat) : Zf Tryz.prog 54 (Ztc.con k) := Zk (p := (.two .auto (.two .auto (.two (.two .auto (.one (.sum (Ztc.l0.s k)))) .auto)))) (Ztc.cok k) Tryz.func54 (by kernel_rfl) (show Tryz.f54.body = some (cB Tryz.f54) by kernel_rfl) (by kernel_rfl) (by kernel_rfl) (Zd (L := [(Ztc.l0.s k, cO (cR (cL (cR (cR (cB Tryz.f54))))))]) (by kernel_rfl) ⟨Ztc.l0.ok k, trivial⟩) (fun x y h => (Ztc.ev k x).trans h)
def Zfg (a1 : Zld) (a2 : Zld) : Option (Bool) :=
 bif a1.1 != a2.1 then
  some false
 else
 bif !(a1.2 == a2.2) then
  some false
 else
 some true
def Zfg.sig : Sig := { ps := [.val true Z7c (ros Z7c), .val true Z7c (ros Z7c)], rs := [.val false [.v .bool]], ntmps := 15 }
def Zfg.con (k : Nat) : Con := Zfg.sig.con (fun x => Zfg x.1 x.2)
def Zfg.C (k : Nat) : Ctx := { ti := TAB, con := Zh [] }
theorem Zfg.cok (k : Nat) : CtxOk Tryz.prog (Zfg.C k) := Zj Zi trivial
theorem Zfg.ev (k : Nat) (x : Za Zfg.sig.ins) : Zfg.sig.ev (Zfg.C k) .auto Tryz.f95.results.toList (cB Tryz.f95) x = Zfg x.1 x.2 := by kernel_rfl
theorem Zfg.ok (k : Nat) : Zf Tryz.prog 95 (Zfg.con k) := Zk (p := .auto) (Zfg.cok k) Tryz.func95 (by kernel_rfl) (show Tryz.f95.body = some (cB Tryz.f95) by kernel_rfl) (by kernel_rfl) (by kernel_rfl) (Zd (L := []) (by kernel_rfl) trivial) (fun x y h => (Zfg.ev k x).trans h)
def Zuc.l0 : Nat → List Zld → List Zld → Int → Option (Unit ⊕ Bool)
 | 0, _, _, _ => none
 | j + 1, a1, a2, a3 =>
  bif decide (a3 < ((a1.length) : Int)) then
   Option.bind (at? a1 a3) fun v4 =>
   Option.bind (at? a2 a3) fun v5 =>
   Option.bind (Zfg v4 v5) fun v6 =>
   bif !v6 then
    some (.inr false)
   else
   Zuc.l0 j a1 a2 (IntKind.wrap .i64 (a3 + 1))
  else
  some (.inl ())
def Zuc (k : Nat) (a1 : List Zld) (a2 : List Zld) : Option (Bool) :=
 bif ((a1.length) : Int) != ((a2.length) : Int) then
  some false
 else
 Option.bind (Zuc.l0 k a1 a2 0) fun
  | .inl y3 =>
   some true
  | .inr y4 =>
   some y4
def Zuc.sig : Sig := { ps := [.val false (.sl Z7c) (ros (.sl Z7c)), .val false (.sl Z7c) (ros (.sl Z7c))], rs := [.val false [.v .bool]], ntmps := 27 }
def Zuc.con (k : Nat) : Con := Zuc.sig.con (fun x => Zuc k x.1 x.2)
def Zuc.C (k : Nat) : Ctx := { ti := TAB, con := Zh [(95, Zfg.con k)] }
theorem Zuc.cok (k : Nat) : CtxOk Tryz.prog (Zuc.C k) := Zj Zi ⟨Zfg.ok k, trivial⟩
def Zuc.l0.ish : Shape := { tmps := [(0, .one (.bor Z7c)), (1, .one (.bor Z7c)), (5, .one (.v (.int .i64)))], slots := [], nb := 0 }
def Zuc.l0.outs : List (Ex × Shape) := [(.exit 0, { tmps := [], slots := [], nb := 0 }), (.ret, { tmps := [(4, .one (.v .bool))], slots := [], nb := 0 })]
def Zuc.l0.F (k j : Nat) (x : Za Zuc.l0.ish.tys) : Option (Zy Zuc.l0.outs) := Zuc.l0 j x.1 x.2.1 x.2.2
def Zuc.l0.s (k : Nat) : Summ := { n := 27, ish := Zuc.l0.ish, outs := Zuc.l0.outs, f := Zuc.l0.F k k }
theorem Zuc.l0.ev (k j : Nat) (x : Za Zuc.l0.ish.tys) : V (Zuc.C k) .auto (cO (cO (cR (cL (cR (cR (cB Tryz.f55))))))) (mk Zuc.l0.ish 27 x) (fun e st' => match e with | .nrm => (rd Zuc.l0.ish st').bind (Zuc.l0.F k j) | e => Z0 e st' Zuc.l0.outs) = Zuc.l0.F k (j + 1) x := by kernel_rfl
theorem Zuc.l0.ok (k : Nat) : Z1 Tryz.prog (Zuc.C k) (.loop (cO (cO (cR (cL (cR (cR (cB Tryz.f55)))))))) (Zuc.l0.s k) := Z5 (by kernel_rfl) (sum_loop (p := .auto) (F := Zuc.l0.F k) (Zuc.cok k) (by kernel_rfl) (Zd (L := []) (by kernel_rfl) trivial) (fun _ => rfl) (fun j x y h => (Zuc.l0.ev k j x).trans h) k rfl)
theorem Zuc.ev (k : Nat) (x : Za Zuc.sig.ins) : Zuc.sig.ev (Zuc.C k) (.two .auto (.two .auto (.two (.two .auto (.one (.sum (Zuc.l0.s k)))) .auto))) Tryz.f55.results.toList (cB Tryz.f55) x = Zuc k x.1 x.2 := by kernel_rfl
theorem Zuc.ok (k : Nat) : Zf Tryz.prog 55 (Zuc.con k) := Zk (p := (.two .auto (.two .auto (.two (.two .auto (.one (.sum (Zuc.l0.s k)))) .auto)))) (Zuc.cok k) Tryz.func55 (by kernel_rfl) (show Tryz.f55.body = some (cB Tryz.f55) by kernel_rfl) (by kernel_rfl) (by kernel_rfl) (Zd (L := [(Zuc.l0.s k, cO (cR (cL (cR (cR (cB Tryz.f55))))))]) (by kernel_rfl) ⟨Zuc.l0.ok k, trivial⟩) (fun x y h => (Zuc.ev k x).trans h)
def Zeh (k : Nat) (a1 : G30) (a2 : G30) : Option (Bool) :=
 Option.bind (Ztc k a1.1 a2.1) fun v3 =>
 bif !v3 then
  some false
 else
 Option.bind (Zuc k a1.2 a2.2) fun v4 =>
 bif !v4 then
  some false
 else
 some true
def Zeh.sig : Sig := { ps := [.val true T30 (ros T30), .val true T30 (ros T30)], rs := [.val false [.v .bool]], ntmps := 17 }
def Zeh.con (k : Nat) : Con := Zeh.sig.con (fun x => Zeh k x.1 x.2)
def Zeh.C (k : Nat) : Ctx := { ti := TAB, con := Zh [(54, Ztc.con k), (55, Zuc.con k)], rob := true }
theorem Zeh.cok (k : Nat) : CtxOk Tryz.prog (Zeh.C k) := Zj Zi ⟨Ztc.ok k, Zuc.ok k, trivial⟩
theorem Zeh.ev (k : Nat) (x : Za Zeh.sig.ins) : Zeh.sig.ev (Zeh.C k) .auto Tryz.f25.results.toList (cB Tryz.f25) x = Zeh k x.1 x.2 := by kernel_rfl
theorem Zeh.ok (k : Nat) : Zf Tryz.prog 25 (Zeh.con k) := Zk (p := .auto) (Zeh.cok k) Tryz.func25 (by kernel_rfl) (show Tryz.f25.body = some (cB Tryz.f25) by kernel_rfl) (by kernel_rfl) (by kernel_rfl) (Zd (L := []) (by kernel_rfl) trivial) (fun x y h => (Zeh.ev k x).trans h)
def Zag (k : Nat) (a1 : G32) (a2 : G32) : Option (Bool) :=
 bif a1.1 != a2.1 then
  some false
 else
 Option.bind (Zeh k a1.2 a2.2) fun v3 =>
 bif !v3 then
  some false
 else
 some true
def Zag.sig : Sig := { ps := [.val true T32 (ros T32), .val true T32 (ros T32)], rs := [.val false [.v .bool]], ntmps := 16 }
def Zag.con (k : Nat) : Con := Zag.sig.con (fun x => Zag k x.1 x.2)
def Zag.C (k : Nat) : Ctx := { ti := TAB, con := Zh [(25, Zeh.con k)], rob := true }
theorem Zag.cok (k : Nat) : CtxOk Tryz.prog (Zag.C k) := Zj Zi ⟨Zeh.ok k, trivial⟩
theorem Zag.ev (k : Nat) (x : Za Zag.sig.ins) : Zag.sig.ev (Zag.C k) .auto Tryz.f12.results.toList (cB Tryz.f12) x = Zag k x.1 x.2 := by kernel_rfl
theorem Zag.ok (k : Nat) : Zf Tryz.prog 12 (Zag.con k) := Zk (p := .auto) (Zag.cok k) Tryz.func12 (by kernel_rfl) (show Tryz.f12.body = some (cB Tryz.f12) by kernel_rfl) (by kernel_rfl) (by kernel_rfl) (Zd (L := []) (by kernel_rfl) trivial) (fun x y h => (Zag.ev k x).trans h)
def Zzd (k : Nat) (a1 : G26) (a2 : G32) : Option (Bool) :=
 Option.bind (Zcf k a1 1048576) fun v3 =>
 bif decide (v3 < 0) then
  some true
 else
 Option.bind (Zvg k a2 v3) fun v4 =>
 bif decide (v4 < 0) then
  some true
 else
 Option.bind (Z8e k a1) fun v5 =>
 Option.bind (Zlf k a2) fun v6 =>
 Option.bind (Zbf k ((v5.1, (v5.2.1, v5.2.2.1)), v5.2.2.2) v6) fun v7 =>
 Option.bind (Z8e k a1) fun v8 =>
 Option.bind (Zlf k a2) fun v9 =>
 let e10 := ((v8.1, (v8.2.1, v8.2.2.1)), v8.2.2.2)
 Option.bind (Z9e k e10 v9) fun v11 =>
 Option.bind (Zwg v11 v7) fun v12 =>
 bif !v12 then
  some false
 else
 Option.bind (Z8e k a1) fun v13 =>
 Option.bind (Z5g k e10 ((v13.1, (v13.2.1, v13.2.2.1)), v13.2.2.2)) fun v14 =>
 bif !v14 then
  some false
 else
 Option.bind (Zlf k a2) fun v15 =>
 Option.bind (Zag k v9 v15) fun v16 =>
 bif !v16 then
  some false
 else
 some true
def Zzd.sig : Sig := { ps := [.val true T26 (ros T26), .val true T32 (ros T32)], rs := [.val false [.v .bool]], ntmps := 46 }
def Zzd.con (k : Nat) : Con := Zzd.sig.con (fun x => Zzd k x.1 x.2)
def Zzd.C (k : Nat) : Ctx := { ti := TAB, con := Zh [(4, Zcf.con k), (5, Zvg.con k), (6, Zbf.con k), (7, Z8e.con k), (8, Zlf.con k), (9, Z9e.con k), (10, Zwg.con k), (11, Z5g.con k), (12, Zag.con k)], rob := true }
theorem Zzd.cok (k : Nat) : CtxOk Tryz.prog (Zzd.C k) := Zj Zi ⟨Zcf.ok k, Zvg.ok k, Zbf.ok k, Z8e.ok k, Zlf.ok k, Z9e.ok k, Zwg.ok k, Z5g.ok k, Zag.ok k, trivial⟩
theorem Zzd.ev (k : Nat) (x : Za Zzd.sig.ins) : Zzd.sig.ev (Zzd.C k) .auto Tryz.f3.results.toList (cB Tryz.f3) x = Zzd k x.1 x.2 := by kernel_rfl
theorem Zzd.ok (k : Nat) : Zf Tryz.prog 3 (Zzd.con k) := Zk (p := .auto) (Zzd.cok k) Tryz.func3 (by kernel_rfl) (show Tryz.f3.body = some (cB Tryz.f3) by kernel_rfl) (by kernel_rfl) (by kernel_rfl) (Zd (L := []) (by kernel_rfl) trivial) (fun x y h => (Zzd.ev k x).trans h)
end Go.Proofs.YtfbancgdmghnkaaGreatDoorE
namespace Go.Proofs.YtfbancgdmghnkaaGreatDoorE
open Go
set_option linter.unusedVariables false
def Ze (p : Nat → Prop) : Prop := ∃ K, ∀ k, K ≤ k → p k
theorem Ze.of {p : Nat → Prop} (h : ∀ k, p k) : Ze p := ⟨0, fun k _ => h k⟩
theorem Ze.ge {p : Nat → Prop} (K : Nat) (h : ∀ k, K ≤ k → p k) : Ze p := ⟨K, h⟩
theorem Ze.mono {p q : Nat → Prop} (h : Ze p) (f : ∀ k, p k → q k) : Ze q := by
 obtain ⟨K, h⟩ := h
 exact ⟨K, fun k hk => f k (h k hk)⟩
theorem Ze.and {p q : Nat → Prop} (h : Ze p) (g : Ze q) : Ze fun k => p k ∧ q k := by
 obtain ⟨K, h⟩ := h
 obtain ⟨J, g⟩ := g
 exact ⟨K + J, fun k hk => ⟨h k (by omega), g k (by omega)⟩⟩
theorem Ze.ex {p : Nat → Prop} (h : Ze p) : ∃ k, p k := by
 obtain ⟨K, h⟩ := h
 exact ⟨K, h K (Nat.le_refl K)⟩
theorem Ze.all {n : Nat} {p : Nat → Nat → Prop} : (∀ i, i < n → Ze (p i)) → Ze fun k => ∀ i, i < n → p i k := by
 induction n with
 | zero => exact fun _ => ⟨0, fun k _ i hi => absurd hi (Nat.not_lt_zero i)⟩
 | succ n ih =>
  intro h
  refine ((ih fun i hi => h i (Nat.lt_succ_of_lt hi)).and (h n (Nat.lt_succ_self n))).mono fun k hk i hi => ?_
  rcases Nat.eq_or_lt_of_le (Nat.le_of_lt_succ hi) with rfl | hi
  ·exact hk.2
  ·exact hk.1 i hi
theorem Ze.two {p q r : Nat → Prop} (h : Ze p) (g : Ze q) (f : ∀ k, p k → q k → r k) : Ze r := (h.and g).mono fun k hk => f k hk.1 hk.2
theorem Zm8 {R : Type} (L : Nat → Nat → Nat → Option R) (n : Nat) (r : R) (hs : Ze fun k => ∀ i, i < n → ∀ j, L k (j + 1) i = L k j (i + 1)) (hl : Ze fun k => ∀ j, L k (j + 1) n = some r) : Ze fun k => L k k 0 = some r := by
 obtain ⟨K, hs⟩ := hs
 obtain ⟨J, hl⟩ := hl
 refine ⟨K + J + n + 1, fun k hk => ?_⟩
 have hs := hs k (by omega)
 have hl := hl k (by omega)
 have key : ∀ d i j, i + d = n → d < j → L k j i = some r := by
  intro d
  induction d with
  | zero =>
   intro i j hi hj
   obtain ⟨m, rfl⟩ : ∃ m, j = m + 1 := ⟨j - 1, by omega⟩
   obtain rfl : i = n := by omega
   exact hl m
  | succ d ih =>
   intro i j hi hj
   obtain ⟨m, rfl⟩ : ∃ m, j = m + 1 := ⟨j - 1, by omega⟩
   rw [hs i (by omega) m]
   exact ih (i + 1) m (by omega) (by omega)
 exact key n 0 k (by omega) (by omega)
theorem Zh4 {R : Type} (L : Nat → Nat → Option R) (n : Nat) (r : R) (hs : ∀ i, i < n → ∀ j, L (j + 1) i = L j (i + 1)) (hl : ∀ j, L (j + 1) n = some r) : Ze fun k => L k 0 = some r :=
 Zm8 (fun _ j i => L j i) n r (Ze.of fun _ => hs) (Ze.of fun _ => hl)
theorem Zod {R : Type} (L : Nat → Nat → Option R) (n : Nat) (r : R) (hs : ∀ i, i < n → ∀ j, L (j + 1) i = L j (i + 1)) (hl : ∀ j, L (j + 1) n = some r) : ∀ k, n < k → L k 0 = some r := by
 have key : ∀ d i j, i + d = n → d < j → L j i = some r := by
  intro d
  induction d with
  | zero =>
   intro i j hi hj
   obtain ⟨m, rfl⟩ : ∃ m, j = m + 1 := ⟨j - 1, by omega⟩
   obtain rfl : i = n := by omega
   exact hl m
  | succ d ih =>
   intro i j hi hj
   obtain ⟨m, rfl⟩ : ∃ m, j = m + 1 := ⟨j - 1, by omega⟩
   rw [hs i (by omega) m]
   exact ih (i + 1) m (by omega) (by omega)
 exact fun k hk => key n 0 k (by omega) hk
theorem w64 {n : Int} (h0 : -9223372036854775808 ≤ n) (h1 : n < 9223372036854775808) : IntKind.wrap .i64 n = n := by
 simp [IntKind.wrap, IntKind.bits, IntKind.signed]
 omega
theorem Zbb {n : Nat} (h : n < 9223372036854775807) : IntKind.wrap .i64 ((n : Int) + 1) = ((n + 1 : Nat) : Int) := by rw [w64] <;> omega
theorem Zu {α : Type} {l : List α} {i : Nat} (h : i < l.length) : at? l (i : Int) = some l[i] := by
 unfold at?
 rw [if_pos (by omega), Int.toNat_natCast, List.getElem?_eq_getElem h]
theorem Zfh {α : Type} {n : Nat} {a b : List α} (h : (a.length + b.length) * n ≤ 140737488355328) : Z2d n a b = some (a ++ b) := if_pos h
theorem Zkf {a b : Str} (h : a.length + b.length ≤ 9223372036854775807) : Z6e a b = some (a ++ b) := if_pos h
theorem Z2o {α : Type} {b n : Nat} {x : α} (h : n * b ≤ 140737488355328) : Zji b (n : Int) (n : Int) x = some (List.replicate n x) := by
 unfold Zji
 rw [if_pos ⟨by omega, Int.le_refl _, by rw [Int.toNat_natCast]; exact h⟩, Int.toNat_natCast]
theorem Zzi {α : Type} {l : List α} {i j : Nat} (h : i ≤ j) (k : j ≤ l.length) : Zkd l (i : Int) (j : Int) = some ((l.take j).drop i) := by
 unfold Zkd
 rw [if_pos ⟨by omega, by omega, by omega⟩, Int.toNat_natCast, Int.toNat_natCast]
theorem Zieb {n b : Nat} (h : n * b ≤ 140737488355328) : Z7t n b = some () := if_pos h
theorem Zmn {b : Int} (h : b ≠ 0) : nz? b = some () := if_neg h
theorem Ztd {b : Int} (h : 0 ≤ b) : Z6c b = some () := if_neg (by omega)
theorem Zsbb {α β : Type} {l : List α} (f : α → β) {i : Nat} (h : i < l.length) : (l.take (i + 1)).map f = (l.take i).map f ++ [f l[i]] := by
 rw [List.take_add_one, List.getElem?_eq_getElem h, List.map_append]
 rfl
theorem Zkk {α : Type} {l : List α} {i : Nat} (h : i < l.length) : l.take (i + 1) = l.take i ++ [l[i]] := by
 rw [List.take_add_one, List.getElem?_eq_getElem h]
 rfl
end Go.Proofs.YtfbancgdmghnkaaGreatDoorE
namespace Go.Proofs.YtfbancgdmghnkaaGreatDoorE
open Go
set_option linter.unusedVariables false
def Zgi {α S R : Type} (f : S → α → S ⊕ R) (g : S → R) : List α → S → R
 | [], s => g s
 | x :: l, s => match f s x with
  | .inl s' => Zgi f g l s'
  | .inr r => r
theorem Zi6 {α S R : Type} {f : S → α → S ⊕ R} {g : S → R} {x : α} {l : List α} {s s' : S} (h : f s x = .inl s') : Zgi f g (x :: l) s = Zgi f g l s' := by
 have e : Zgi f g (x :: l) s = match f s x with | .inl s' => Zgi f g l s' | .inr r => r := rfl
 rw [e, h]
theorem Z86 {α S R : Type} {f : S → α → S ⊕ R} {g : S → R} {x : α} {l : List α} {s : S} {r : R} (h : f s x = .inr r) : Zgi f g (x :: l) s = r := by
 have e : Zgi f g (x :: l) s = match f s x with | .inl s' => Zgi f g l s' | .inr r => r := rfl
 rw [e, h]
theorem Zk8 {α S R : Type} (L : Nat → S → Int → Option R) (l : List α) (f : S → α → S ⊕ R) (g : S → R) (I : Nat → S → Prop)
  (hs : ∀ (i : Nat) (h : i < l.length) (s : S), I i s → (∃ s', f s l[i] = .inl s' ∧ I (i + 1) s' ∧ ∀ j, L (j + 1) s (i : Int) = L j s' ((i + 1 : Nat) : Int)) ∨ ∃ r, f s l[i] = .inr r ∧ ∀ j, L (j + 1) s (i : Int) = some r)
  (he : ∀ (s : S), I l.length s → ∀ j, L (j + 1) s (l.length : Int) = some (g s)) : ∀ (d i : Nat) (s : S), i + d = l.length → I i s → ∀ j, d < j → L j s (i : Int) = some (Zgi f g (l.drop i) s) := by
 intro d
 induction d with
 | zero =>
  intro i s hi hI j hj
  obtain ⟨j, rfl⟩ : ∃ q, j = q + 1 := ⟨j - 1, by omega⟩
  obtain rfl : i = l.length := by omega
  rw [List.drop_length, he s hI]
  rfl
 | succ d ih =>
  intro i s hi hI j hj
  obtain ⟨j, rfl⟩ : ∃ q, j = q + 1 := ⟨j - 1, by omega⟩
  have hlt : i < l.length := by omega
  rw [List.drop_eq_getElem_cons hlt]
  rcases hs i hlt s hI with ⟨s', h1, h2, h3⟩ | ⟨r, h1, h3⟩
  ·rw [h3 j]
   show _ = some (match f s l[i] with | .inl s' => Zgi f g (l.drop (i + 1)) s' | .inr r => r)
   rw [h1]
   exact ih (i + 1) s' (by omega) h2 j (by omega)
  ·rw [h3 j]
   show _ = some (match f s l[i] with | .inl s' => Zgi f g (l.drop (i + 1)) s' | .inr r => r)
   rw [h1]
theorem Zi3 {α S R : Type} (L : Nat → S → Int → Option R) (l : List α) (f : S → α → S ⊕ R) (g : S → R) (I : Nat → S → Prop)
  (hs : ∀ (i : Nat) (h : i < l.length) (s : S), I i s → (∃ s', f s l[i] = .inl s' ∧ I (i + 1) s' ∧ ∀ j, L (j + 1) s (i : Int) = L j s' ((i + 1 : Nat) : Int)) ∨ ∃ r, f s l[i] = .inr r ∧ ∀ j, L (j + 1) s (i : Int) = some r)
  (he : ∀ (s : S), I l.length s → ∀ j, L (j + 1) s (l.length : Int) = some (g s)) {s : S} (hI : I 0 s) {k : Nat} (hk : l.length < k) : L k s 0 = some (Zgi f g l s) :=
 Zk8 L l f g I hs he l.length 0 s (Nat.zero_add _) hI k hk
def Zhd {α : Type} (p : α → Bool) : List α → Nat → Option Nat
 | [], _ => none
 | x :: l, i => if p x then some i else Zhd p l (i + 1)
theorem Zhk {α R : Type} (L : Nat → Int → Option R) (l : List α) (p : α → Bool) (a : R) (b : Nat → R)
  (hs : ∀ (i : Nat) (h : i < l.length), (p l[i] = false → ∀ j, L (j + 1) (i : Int) = L j ((i + 1 : Nat) : Int)) ∧ (p l[i] = true → ∀ j, L (j + 1) (i : Int) = some (b i)))
  (he : ∀ j, L (j + 1) (l.length : Int) = some a) {k : Nat} (hk : l.length < k) : L k 0 = some (match Zhd p l 0 with | some i => b i | none => a) := by
 have key : ∀ (d i : Nat), i + d = l.length → ∀ j, d < j → L j (i : Int) = some (match Zhd p (l.drop i) i with | some i => b i | none => a) := by
  intro d
  induction d with
  | zero =>
   intro i hi j hj
   obtain ⟨j, rfl⟩ : ∃ q, j = q + 1 := ⟨j - 1, by omega⟩
   obtain rfl : i = l.length := by omega
   rw [List.drop_length, he]
   rfl
  | succ d ih =>
   intro i hi j hj
   obtain ⟨j, rfl⟩ : ∃ q, j = q + 1 := ⟨j - 1, by omega⟩
   have hlt : i < l.length := by omega
   rw [List.drop_eq_getElem_cons hlt]
   obtain ⟨h1, h2⟩ := hs i hlt
   cases hp : p l[i] with
   | true => rw [h2 hp j]; simp [Zhd, hp]
   | false =>
    rw [h1 hp j, ih (i + 1) (by omega) j (by omega)]
    simp [Zhd, hp]
 have := key l.length 0 (Nat.zero_add _) k hk
 rwa [List.drop_zero] at this
theorem Z0m {α : Type} {p : α → Bool} : ∀ {l : List α} {n i : Nat}, Zhd p l n = some i → n ≤ i ∧ ∃ h : i - n < l.length, p (l[i - n]) = true ∧ ∀ j, (hj : j < i - n) → p (l[j]'(by omega)) = false
 | [], _, _, h => by cases h
 | x :: l, n, i, h => by
  unfold Zhd at h
  split at h
  ·rename_i hp
   cases h
   refine ⟨Nat.le_refl _, by simp, ?_, fun j hj => by omega⟩
   simpa using hp
  ·rename_i hp
   obtain ⟨h1, h2, h3, h4⟩ := Z0m h
   refine ⟨by omega, by simp only [List.length_cons]; omega, ?_, fun j hj => ?_⟩
   ·have e : i - n = (i - (n + 1)) + 1 := by omega
    simpa [e] using h3
   ·cases j with
    | zero => simpa using hp
    | succ j => simpa using h4 j (by omega)
theorem Z8n {α : Type} {p : α → Bool} : ∀ {l : List α} {n : Nat}, Zhd p l n = none ↔ ∀ x ∈ l, p x = false
 | [], n => by simp [Zhd]
 | x :: l, n => by
  unfold Zhd
  split
  ·rename_i hp
   simp [hp]
  ·rename_i hp
   rw [Z8n]
   simp at hp
   simp [hp]
theorem Ztp {α : Type} {p : α → Bool} {l : List α} {n : Nat} : (Zhd p l n).isSome = l.any p := by
 cases h : Zhd p l n with
 | none =>
  have := Z8n.1 h
  symm
  simp only [Option.isSome_none, List.any_eq_false]
  intro x hx
  rw [this x hx]
  exact nofun
 | some i =>
  obtain ⟨_, h2, h3, _⟩ := Z0m h
  symm
  exact List.any_eq_true.2 ⟨_, List.getElem_mem h2, h3⟩
theorem Zyp {α : Type} (L : Nat → Int → List α → Option (List α)) (l : List α) (z : α)
  (hs : ∀ (i : Nat) (h : i < l.length) (c : List α), c.length = l.length → ∀ j, L (j + 1) (i : Int) c = L j ((i + 1 : Nat) : Int) (c.set i l[i]))
  (he : ∀ (c : List α) j, L (j + 1) (l.length : Int) c = some c) {k : Nat} (hk : l.length < k) : L k 0 (List.replicate l.length z) = some l := by
 have key : ∀ (d i : Nat), i + d = l.length → ∀ j, d < j → L j (i : Int) (l.take i ++ List.replicate (l.length - i) z) = some l := by
  intro d
  induction d with
  | zero =>
   intro i hi j hj
   obtain ⟨j, rfl⟩ : ∃ q, j = q + 1 := ⟨j - 1, by omega⟩
   obtain rfl : i = l.length := by omega
   rw [he, Nat.sub_self, List.take_length]
   simp
  | succ d ih =>
   intro i hi j hj
   obtain ⟨j, rfl⟩ : ∃ q, j = q + 1 := ⟨j - 1, by omega⟩
   have hlt : i < l.length := by omega
   rw [hs i hlt _ (by simp; omega)]
   have e : (l.take i ++ List.replicate (l.length - i) z).set i l[i] = l.take (i + 1) ++ List.replicate (l.length - (i + 1)) z := by
    have hl : (l.take i).length = i := by simp; omega
    rw [List.set_append_right _ _ (by omega), hl, Nat.sub_self, show l.length - i = (l.length - (i + 1)) + 1 by omega, List.replicate_succ, List.set_cons_zero, Zkk hlt, List.append_assoc]
    rfl
   rw [e]
   exact ih (i + 1) (by omega) j (by omega)
 have := key l.length 0 (Nat.zero_add _) k hk
 simpa using this
theorem dlt {a b : Nat} (h : a < b) : decide ((a : Int) < (b : Int)) = true := decide_eq_true (by omega)
theorem Z2c {a b : Nat} (h : b ≤ a) : decide ((a : Int) < (b : Int)) = false := decide_eq_false (by omega)
theorem Zb {α β : Type} {x : Option α} {f : α → Option β} {a : α} {b : Option β} (h : x = some a) (k : f a = b) : x.bind f = b := by rw [h]; exact k
theorem Znab {α : Type} (L : Nat → Nat → Str → Int → Option Str) (l : List α) (f : α → Str) (B M : Nat) (hB : ∀ x ∈ l, (f x).length ≤ B)
  (hs : ∀ i, (h : i < l.length) → Ze fun k => ∀ acc j, acc.length ≤ M → L k (j + 1) acc (i : Int) = L k j (acc ++ f l[i]) ((i + 1 : Nat) : Int))
  (he : ∀ k acc j, L k (j + 1) acc (l.length : Int) = some acc) (acc : Str) (ha : acc.length + B * l.length ≤ M) : Ze fun k => L k k acc 0 = some (acc ++ (l.map f).flatten) := by
 have hall : Ze fun k => ∀ i, i < l.length → ∀ (h : i < l.length) acc j, acc.length ≤ M → L k (j + 1) acc (i : Int) = L k j (acc ++ f l[i]) ((i + 1 : Nat) : Int) := Ze.all fun i hi => (hs i hi).mono fun k hk h => hk
 obtain ⟨K, hK⟩ := hall
 refine Ze.ge (K + l.length + 1) fun k hk => ?_
 have hK := hK k (by omega)
 have key : ∀ (d i : Nat) (acc : Str), i + d = l.length → acc.length + B * d ≤ M → ∀ j, d < j → L k j acc (i : Int) = some (acc ++ ((l.drop i).map f).flatten) := by
  intro d
  induction d with
  | zero =>
   intro i acc hi hacc j hj
   obtain ⟨j, rfl⟩ : ∃ q, j = q + 1 := ⟨j - 1, by omega⟩
   obtain rfl : i = l.length := by omega
   rw [he, List.drop_length]
   simp
  | succ d ih =>
   intro i acc hi hacc j hj
   obtain ⟨j, rfl⟩ : ∃ q, j = q + 1 := ⟨j - 1, by omega⟩
   have h : i < l.length := by omega
   have hf := hB _ (List.getElem_mem h)
   rw [Nat.mul_succ] at hacc
   rw [hK i h h acc j (by omega), ih (i + 1) _ (by omega) (by rw [List.length_append]; omega) j (by omega), List.drop_eq_getElem_cons h, List.map_cons, List.flatten_cons, List.append_assoc]
 have := key l.length 0 acc (Nat.zero_add _) ha k (by omega)
 rwa [List.drop_zero] at this
end Go.Proofs.YtfbancgdmghnkaaGreatDoorE
