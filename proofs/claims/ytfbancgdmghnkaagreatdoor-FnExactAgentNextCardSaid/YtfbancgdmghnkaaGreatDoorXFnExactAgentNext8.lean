/- What the law FnExactAgentNext needs, part 9 of 13: the Lean functions of the Go functions that it reaches, with the proofs that the calls come to what they say, and plain facts about them. Conditions: those that each theorem states. Written by a session and by its programs (after the kit's printer). -/
import Derived.Test.YtfbancgdmghnkaaGreatDoorXFnExactAgentNext7
namespace Go.Proofs.YtfbancgdmghnkaaGreatDoorE
open Go Go.RowKit
set_option linter.unusedVariables false
def Z8h (a1 : G36) : Option (Int × Int × Int × Str) :=
 some (a1.1, a1.2.1, a1.2.2.1, a1.2.2.2)
def Z8h.sig : Sig := { ps := [.val true T36 (ros T36)], rs := [.val true [.v (.int .i64), .v (.int .i64), .v (.int .i64), .v .str]], ntmps := 17 }
def Z8h.con (k : Nat) : Con := Z8h.sig.con (fun x => Z8h x)
def Z8h.C (k : Nat) : Ctx := { ti := TAB, con := Zh [] }
theorem Z8h.cok (k : Nat) : CtxOk Tryz.prog (Z8h.C k) := Zj Zi trivial
theorem Z8h.ev (k : Nat) (x : Za Z8h.sig.ins) : Z8h.sig.ev (Z8h.C k) .auto Tryz.f70.results.toList (cB Tryz.f70) x = Z8h x := by kernel_rfl
theorem Z8h.ok (k : Nat) : Zf Tryz.prog 70 (Z8h.con k) := Zk (p := .auto) (Z8h.cok k) Tryz.func70 (by kernel_rfl) (show Tryz.f70.body = some (cB Tryz.f70) by kernel_rfl) (by kernel_rfl) (by kernel_rfl) (Zd (L := []) (by kernel_rfl) trivial) (fun x y h => (Z8h.ev k x).trans h)
def Zcc.l0 : Nat → List G36 → Int → List G36 → Option ((List G36))
 | 0, _, _, _ => none
 | j + 1, a1, a2, a3 =>
  bif decide (a2 < ((a1.length) : Int)) then
   Option.bind (at? a1 a2) fun v4 =>
   Option.bind (Z8h v4) fun v5 =>
   Option.bind (at? a3 a2) fun v6 =>
   Option.bind (at? a3 a2) fun v7 =>
   Zcc.l0 j a1 (IntKind.wrap .i64 (a2 + 1)) (List.set a3 (Int.toNat a2) v5)
  else
  some a3
def Zcc (k : Nat) (a1 : List G36) : Option (List G36) :=
 Option.bind (Zji 40 ((a1.length) : Int) ((a1.length) : Int) (0, (0, (0, [])))) fun v2 =>
 Option.bind (Zcc.l0 k a1 0 v2) fun y3 =>
 some y3
def Zcc.sig : Sig := { ps := [.val false (.sl T36) (ros (.sl T36))], rs := [.val false [.own 36 T36]], ntmps := 23 }
def Zcc.con (k : Nat) : Con := Zcc.sig.con (fun x => Zcc k x)
def Zcc.C (k : Nat) : Ctx := { ti := TAB, con := Zh [(70, Z8h.con k)] }
theorem Zcc.cok (k : Nat) : CtxOk Tryz.prog (Zcc.C k) := Zj Zi ⟨Z8h.ok k, trivial⟩
def Zcc.l0.ish : Shape := { tmps := [(0, .one (.bor T36)), (3, .one (.own 1)), (4, .one (.v (.int .i64)))], slots := [(1, .arr false 36 T36)], nb := 2 }
def Zcc.l0.outs : List (Ex × Shape) := [(.exit 0, { tmps := [(3, .one (.own 2))], slots := [(2, .arr false 36 T36)], nb := 3 })]
def Zcc.l0.F (k j : Nat) (x : Za Zcc.l0.ish.tys) : Option (Zy Zcc.l0.outs) := Zcc.l0 j x.1 x.2.1 x.2.2
def Zcc.l0.s (k : Nat) : Summ := { n := 23, ish := Zcc.l0.ish, outs := Zcc.l0.outs, f := Zcc.l0.F k k }
theorem Zcc.l0.ev (k j : Nat) (x : Za Zcc.l0.ish.tys) : V (Zcc.C k) .auto (cO (cO (cR (cL (cR (cR (cB Tryz.f38))))))) (mk Zcc.l0.ish 23 x) (fun e st' => match e with | .nrm => (rd Zcc.l0.ish st').bind (Zcc.l0.F k j) | e => Z0 e st' Zcc.l0.outs) = Zcc.l0.F k (j + 1) x := by kernel_rfl
theorem Zcc.l0.ok (k : Nat) : Z1 Tryz.prog (Zcc.C k) (.loop (cO (cO (cR (cL (cR (cR (cB Tryz.f38)))))))) (Zcc.l0.s k) := Z5 (by kernel_rfl) (sum_loop (p := .auto) (F := Zcc.l0.F k) (Zcc.cok k) (by kernel_rfl) (Zd (L := []) (by kernel_rfl) trivial) (fun _ => rfl) (fun j x y h => (Zcc.l0.ev k j x).trans h) k rfl)
theorem Zcc.ev (k : Nat) (x : Za Zcc.sig.ins) : Zcc.sig.ev (Zcc.C k) (.two .auto (.two .auto (.two (.two .auto (.one (.sum (Zcc.l0.s k)))) .auto))) Tryz.f38.results.toList (cB Tryz.f38) x = Zcc k x := by kernel_rfl
theorem Zcc.ok (k : Nat) : Zf Tryz.prog 38 (Zcc.con k) := Zk (p := (.two .auto (.two .auto (.two (.two .auto (.one (.sum (Zcc.l0.s k)))) .auto)))) (Zcc.cok k) Tryz.func38 (by kernel_rfl) (show Tryz.f38.body = some (cB Tryz.f38) by kernel_rfl) (by kernel_rfl) (by kernel_rfl) (Zd (L := [(Zcc.l0.s k, cO (cR (cL (cR (cR (cB Tryz.f38))))))]) (by kernel_rfl) ⟨Zcc.l0.ok k, trivial⟩) (fun x y h => (Zcc.ev k x).trans h)
def Z1g (k : Nat) (a1 : G24) : Option (Int × Str × List G36) :=
 Option.bind (Zcc k a1.2.2) fun v2 =>
 some (a1.1, a1.2.1, v2)
def Z1g.sig : Sig := { ps := [.val true T24 (ros T24)], rs := [.val true [.v (.int .i64), .v .str, .own 36 T36]], ntmps := 15 }
def Z1g.con (k : Nat) : Con := Z1g.sig.con (fun x => Z1g k x)
def Z1g.C (k : Nat) : Ctx := { ti := TAB, con := Zh [(38, Zcc.con k)], rob := true }
theorem Z1g.cok (k : Nat) : CtxOk Tryz.prog (Z1g.C k) := Zj Zi ⟨Zcc.ok k, trivial⟩
theorem Z1g.ev (k : Nat) (x : Za Z1g.sig.ins) : Z1g.sig.ev (Z1g.C k) .auto Tryz.f18.results.toList (cB Tryz.f18) x = Z1g k x := by kernel_rfl
theorem Z1g.ok (k : Nat) : Zf Tryz.prog 18 (Z1g.con k) := Zk (p := .auto) (Z1g.cok k) Tryz.func18 (by kernel_rfl) (show Tryz.f18.body = some (cB Tryz.f18) by kernel_rfl) (by kernel_rfl) (by kernel_rfl) (Zd (L := []) (by kernel_rfl) trivial) (fun x y h => (Z1g.ev k x).trans h)
def Z8e (k : Nat) (a1 : G26) : Option (Int × Str × List G36 × Bool) :=
 Option.bind (Z1g k a1.1) fun v2 =>
 some (v2.1, v2.2.1, v2.2.2, a1.2)
def Z8e.sig : Sig := { ps := [.val true T26 (ros T26)], rs := [.val true [.v (.int .i64), .v .str, .own 36 T36, .v .bool]], ntmps := 12 }
def Z8e.con (k : Nat) : Con := Z8e.sig.con (fun x => Z8e k x)
def Z8e.C (k : Nat) : Ctx := { ti := TAB, con := Zh [(18, Z1g.con k)], rob := true }
theorem Z8e.cok (k : Nat) : CtxOk Tryz.prog (Z8e.C k) := Zj Zi ⟨Z1g.ok k, trivial⟩
theorem Z8e.ev (k : Nat) (x : Za Z8e.sig.ins) : Z8e.sig.ev (Z8e.C k) .auto Tryz.f7.results.toList (cB Tryz.f7) x = Z8e k x := by kernel_rfl
theorem Z8e.ok (k : Nat) : Zf Tryz.prog 7 (Z8e.con k) := Zk (p := .auto) (Z8e.cok k) Tryz.func7 (by kernel_rfl) (show Tryz.f7.body = some (cB Tryz.f7) by kernel_rfl) (by kernel_rfl) (by kernel_rfl) (Zd (L := []) (by kernel_rfl) trivial) (fun x y h => (Z8e.ev k x).trans h)
def Zrc.l0 : Nat → List Str → Int → List Str → Option ((List Str))
 | 0, _, _, _ => none
 | j + 1, a1, a2, a3 =>
  bif decide (a2 < ((a1.length) : Int)) then
   Option.bind (at? a1 a2) fun v4 =>
   Option.bind (at? a3 a2) fun v5 =>
   Option.bind (at? a3 a2) fun v6 =>
   Zrc.l0 j a1 (IntKind.wrap .i64 (a2 + 1)) (List.set a3 (Int.toNat a2) v4)
  else
  some a3
def Zrc (k : Nat) (a1 : List Str) : Option (List Str) :=
 Option.bind (Zji 16 ((a1.length) : Int) ((a1.length) : Int) []) fun v2 =>
 Option.bind (Zrc.l0 k a1 0 v2) fun y3 =>
 some y3
def Zrc.sig : Sig := { ps := [.val false (.sl .str) (ros (.sl .str))], rs := [.val false [.own 9 .str]], ntmps := 22 }
def Zrc.con (k : Nat) : Con := Zrc.sig.con (fun x => Zrc k x)
def Zrc.C (k : Nat) : Ctx := { ti := TAB, con := Zh [] }
theorem Zrc.cok (k : Nat) : CtxOk Tryz.prog (Zrc.C k) := Zj Zi trivial
def Zrc.l0.ish : Shape := { tmps := [(0, .one (.bor .str)), (3, .one (.own 1)), (4, .one (.v (.int .i64)))], slots := [(1, .arr false 9 .str)], nb := 2 }
def Zrc.l0.outs : List (Ex × Shape) := [(.exit 0, { tmps := [(3, .one (.own 2))], slots := [(2, .arr false 9 .str)], nb := 3 })]
def Zrc.l0.F (k j : Nat) (x : Za Zrc.l0.ish.tys) : Option (Zy Zrc.l0.outs) := Zrc.l0 j x.1 x.2.1 x.2.2
def Zrc.l0.s (k : Nat) : Summ := { n := 22, ish := Zrc.l0.ish, outs := Zrc.l0.outs, f := Zrc.l0.F k k }
theorem Zrc.l0.ev (k j : Nat) (x : Za Zrc.l0.ish.tys) : V (Zrc.C k) .auto (cO (cO (cR (cL (cR (cR (cB Tryz.f39))))))) (mk Zrc.l0.ish 22 x) (fun e st' => match e with | .nrm => (rd Zrc.l0.ish st').bind (Zrc.l0.F k j) | e => Z0 e st' Zrc.l0.outs) = Zrc.l0.F k (j + 1) x := by kernel_rfl
theorem Zrc.l0.ok (k : Nat) : Z1 Tryz.prog (Zrc.C k) (.loop (cO (cO (cR (cL (cR (cR (cB Tryz.f39)))))))) (Zrc.l0.s k) := Z5 (by kernel_rfl) (sum_loop (p := .auto) (F := Zrc.l0.F k) (Zrc.cok k) (by kernel_rfl) (Zd (L := []) (by kernel_rfl) trivial) (fun _ => rfl) (fun j x y h => (Zrc.l0.ev k j x).trans h) k rfl)
theorem Zrc.ev (k : Nat) (x : Za Zrc.sig.ins) : Zrc.sig.ev (Zrc.C k) (.two .auto (.two .auto (.two (.two .auto (.one (.sum (Zrc.l0.s k)))) .auto))) Tryz.f39.results.toList (cB Tryz.f39) x = Zrc k x := by kernel_rfl
theorem Zrc.ok (k : Nat) : Zf Tryz.prog 39 (Zrc.con k) := Zk (p := (.two .auto (.two .auto (.two (.two .auto (.one (.sum (Zrc.l0.s k)))) .auto)))) (Zrc.cok k) Tryz.func39 (by kernel_rfl) (show Tryz.f39.body = some (cB Tryz.f39) by kernel_rfl) (by kernel_rfl) (by kernel_rfl) (Zd (L := [(Zrc.l0.s k, cO (cR (cL (cR (cR (cB Tryz.f39))))))]) (by kernel_rfl) ⟨Zrc.l0.ok k, trivial⟩) (fun x y h => (Zrc.ev k x).trans h)
def Z3h (a1 : Zld) : Option (Int × Str) :=
 some (a1.1, a1.2)
def Z3h.sig : Sig := { ps := [.val true Z7c (ros Z7c)], rs := [.val true [.v (.int .i64), .v .str]], ntmps := 11 }
def Z3h.con (k : Nat) : Con := Z3h.sig.con (fun x => Z3h x)
def Z3h.C (k : Nat) : Ctx := { ti := TAB, con := Zh [] }
theorem Z3h.cok (k : Nat) : CtxOk Tryz.prog (Z3h.C k) := Zj Zi trivial
theorem Z3h.ev (k : Nat) (x : Za Z3h.sig.ins) : Z3h.sig.ev (Z3h.C k) .auto Tryz.f71.results.toList (cB Tryz.f71) x = Z3h x := by kernel_rfl
theorem Z3h.ok (k : Nat) : Zf Tryz.prog 71 (Z3h.con k) := Zk (p := .auto) (Z3h.cok k) Tryz.func71 (by kernel_rfl) (show Tryz.f71.body = some (cB Tryz.f71) by kernel_rfl) (by kernel_rfl) (by kernel_rfl) (Zd (L := []) (by kernel_rfl) trivial) (fun x y h => (Z3h.ev k x).trans h)
def Zlc.l0 : Nat → List Zld → Int → List Zld → Option ((List Zld))
 | 0, _, _, _ => none
 | j + 1, a1, a2, a3 =>
  bif decide (a2 < ((a1.length) : Int)) then
   Option.bind (at? a1 a2) fun v4 =>
   Option.bind (Z3h v4) fun v5 =>
   Option.bind (at? a3 a2) fun v6 =>
   Option.bind (at? a3 a2) fun v7 =>
   Zlc.l0 j a1 (IntKind.wrap .i64 (a2 + 1)) (List.set a3 (Int.toNat a2) v5)
  else
  some a3
def Zlc (k : Nat) (a1 : List Zld) : Option (List Zld) :=
 Option.bind (Zji 24 ((a1.length) : Int) ((a1.length) : Int) (0, [])) fun v2 =>
 Option.bind (Zlc.l0 k a1 0 v2) fun y3 =>
 some y3
def Zlc.sig : Sig := { ps := [.val false (.sl Z7c) (ros (.sl Z7c))], rs := [.val false [.own 119 Z7c]], ntmps := 23 }
def Zlc.con (k : Nat) : Con := Zlc.sig.con (fun x => Zlc k x)
def Zlc.C (k : Nat) : Ctx := { ti := TAB, con := Zh [(71, Z3h.con k)] }
theorem Zlc.cok (k : Nat) : CtxOk Tryz.prog (Zlc.C k) := Zj Zi ⟨Z3h.ok k, trivial⟩
def Zlc.l0.ish : Shape := { tmps := [(0, .one (.bor Z7c)), (3, .one (.own 1)), (4, .one (.v (.int .i64)))], slots := [(1, .arr false 119 Z7c)], nb := 2 }
def Zlc.l0.outs : List (Ex × Shape) := [(.exit 0, { tmps := [(3, .one (.own 2))], slots := [(2, .arr false 119 Z7c)], nb := 3 })]
def Zlc.l0.F (k j : Nat) (x : Za Zlc.l0.ish.tys) : Option (Zy Zlc.l0.outs) := Zlc.l0 j x.1 x.2.1 x.2.2
def Zlc.l0.s (k : Nat) : Summ := { n := 23, ish := Zlc.l0.ish, outs := Zlc.l0.outs, f := Zlc.l0.F k k }
theorem Zlc.l0.ev (k j : Nat) (x : Za Zlc.l0.ish.tys) : V (Zlc.C k) .auto (cO (cO (cR (cL (cR (cR (cB Tryz.f40))))))) (mk Zlc.l0.ish 23 x) (fun e st' => match e with | .nrm => (rd Zlc.l0.ish st').bind (Zlc.l0.F k j) | e => Z0 e st' Zlc.l0.outs) = Zlc.l0.F k (j + 1) x := by kernel_rfl
theorem Zlc.l0.ok (k : Nat) : Z1 Tryz.prog (Zlc.C k) (.loop (cO (cO (cR (cL (cR (cR (cB Tryz.f40)))))))) (Zlc.l0.s k) := Z5 (by kernel_rfl) (sum_loop (p := .auto) (F := Zlc.l0.F k) (Zlc.cok k) (by kernel_rfl) (Zd (L := []) (by kernel_rfl) trivial) (fun _ => rfl) (fun j x y h => (Zlc.l0.ev k j x).trans h) k rfl)
theorem Zlc.ev (k : Nat) (x : Za Zlc.sig.ins) : Zlc.sig.ev (Zlc.C k) (.two .auto (.two .auto (.two (.two .auto (.one (.sum (Zlc.l0.s k)))) .auto))) Tryz.f40.results.toList (cB Tryz.f40) x = Zlc k x := by kernel_rfl
theorem Zlc.ok (k : Nat) : Zf Tryz.prog 40 (Zlc.con k) := Zk (p := (.two .auto (.two .auto (.two (.two .auto (.one (.sum (Zlc.l0.s k)))) .auto)))) (Zlc.cok k) Tryz.func40 (by kernel_rfl) (show Tryz.f40.body = some (cB Tryz.f40) by kernel_rfl) (by kernel_rfl) (by kernel_rfl) (Zd (L := [(Zlc.l0.s k, cO (cR (cL (cR (cR (cB Tryz.f40))))))]) (by kernel_rfl) ⟨Zlc.l0.ok k, trivial⟩) (fun x y h => (Zlc.ev k x).trans h)
def Z8f (k : Nat) (a1 : G30) : Option (List Str × List Zld) :=
 Option.bind (Zrc k a1.1) fun v2 =>
 Option.bind (Zlc k a1.2) fun v3 =>
 some (v2, v3)
def Z8f.sig : Sig := { ps := [.val true T30 (ros T30)], rs := [.val true [.own 9 .str, .own 119 Z7c]], ntmps := 13 }
def Z8f.con (k : Nat) : Con := Z8f.sig.con (fun x => Z8f k x)
def Z8f.C (k : Nat) : Ctx := { ti := TAB, con := Zh [(39, Zrc.con k), (40, Zlc.con k)], rob := true }
theorem Z8f.cok (k : Nat) : CtxOk Tryz.prog (Z8f.C k) := Zj Zi ⟨Zrc.ok k, Zlc.ok k, trivial⟩
theorem Z8f.ev (k : Nat) (x : Za Z8f.sig.ins) : Z8f.sig.ev (Z8f.C k) .auto Tryz.f19.results.toList (cB Tryz.f19) x = Z8f k x := by kernel_rfl
theorem Z8f.ok (k : Nat) : Zf Tryz.prog 19 (Z8f.con k) := Zk (p := .auto) (Z8f.cok k) Tryz.func19 (by kernel_rfl) (show Tryz.f19.body = some (cB Tryz.f19) by kernel_rfl) (by kernel_rfl) (by kernel_rfl) (Zd (L := []) (by kernel_rfl) trivial) (fun x y h => (Z8f.ev k x).trans h)
def Zlf (k : Nat) (a1 : G32) : Option (Int × List Str × List Zld) :=
 Option.bind (Z8f k a1.2) fun v2 =>
 some (a1.1, v2.1, v2.2)
def Zlf.sig : Sig := { ps := [.val true T32 (ros T32)], rs := [.val true [.v (.int .i64), .own 9 .str, .own 119 Z7c]], ntmps := 12 }
def Zlf.con (k : Nat) : Con := Zlf.sig.con (fun x => Zlf k x)
def Zlf.C (k : Nat) : Ctx := { ti := TAB, con := Zh [(19, Z8f.con k)], rob := true }
theorem Zlf.cok (k : Nat) : CtxOk Tryz.prog (Zlf.C k) := Zj Zi ⟨Z8f.ok k, trivial⟩
theorem Zlf.ev (k : Nat) (x : Za Zlf.sig.ins) : Zlf.sig.ev (Zlf.C k) .auto Tryz.f8.results.toList (cB Tryz.f8) x = Zlf k x := by kernel_rfl
theorem Zlf.ok (k : Nat) : Zf Tryz.prog 8 (Zlf.con k) := Zk (p := .auto) (Zlf.cok k) Tryz.func8 (by kernel_rfl) (show Tryz.f8.body = some (cB Tryz.f8) by kernel_rfl) (by kernel_rfl) (by kernel_rfl) (Zd (L := []) (by kernel_rfl) trivial) (fun x y h => (Zlf.ev k x).trans h)
def Zgb (a1 : Int) (a2 : Int) (a3 : Int) : Option (Bool) :=
 some ((decide (a2 ≤ a1)) && (decide (a1 ≤ a3)))
def Zgb.sig : Sig := { ps := [.val false (.int .i64) (ros (.int .i64)), .val false (.int .i64) (ros (.int .i64)), .val false (.int .i64) (ros (.int .i64))], rs := [.val false [.v .bool]], ntmps := 15 }
def Zgb.con (k : Nat) : Con := Zgb.sig.con (fun x => Zgb x.1 x.2.1 x.2.2)
def Zgb.C (k : Nat) : Ctx := { ti := TAB, con := Zh [] }
theorem Zgb.cok (k : Nat) : CtxOk Tryz.prog (Zgb.C k) := Zj Zi trivial
theorem Zgb.ev (k : Nat) (x : Za Zgb.sig.ins) : Zgb.sig.ev (Zgb.C k) .auto Tryz.f109.results.toList (cB Tryz.f109) x = Zgb x.1 x.2.1 x.2.2 := by kernel_rfl
theorem Zgb.ok (k : Nat) : Zf Tryz.prog 109 (Zgb.con k) := Zk (p := .auto) (Zgb.cok k) Tryz.func109 (by kernel_rfl) (show Tryz.f109.body = some (cB Tryz.f109) by kernel_rfl) (by kernel_rfl) (by kernel_rfl) (Zd (L := []) (by kernel_rfl) trivial) (fun x y h => (Zgb.ev k x).trans h)
def Z7d (a1 : Int) : Option (Bool) :=
 Option.bind (Zgb a1 1 8) fun v2 =>
 some v2
def Z7d.sig : Sig := { ps := [.val false (.int .i64) (ros (.int .i64))], rs := [.val false [.v .bool]], ntmps := 5 }
def Z7d.con (k : Nat) : Con := Z7d.sig.con (fun x => Z7d x)
def Z7d.C (k : Nat) : Ctx := { ti := TAB, con := Zh [(109, Zgb.con k)] }
theorem Z7d.cok (k : Nat) : CtxOk Tryz.prog (Z7d.C k) := Zj Zi ⟨Zgb.ok k, trivial⟩
theorem Z7d.ev (k : Nat) (x : Za Z7d.sig.ins) : Z7d.sig.ev (Z7d.C k) .auto Tryz.f79.results.toList (cB Tryz.f79) x = Z7d x := by kernel_rfl
theorem Z7d.ok (k : Nat) : Zf Tryz.prog 79 (Z7d.con k) := Zk (p := .auto) (Z7d.cok k) Tryz.func79 (by kernel_rfl) (show Tryz.f79.body = some (cB Tryz.f79) by kernel_rfl) (by kernel_rfl) (by kernel_rfl) (Zd (L := []) (by kernel_rfl) trivial) (fun x y h => (Z7d.ev k x).trans h)
def Z7e (a1 : Int) : Option (Bool) :=
 Option.bind (Zgb a1 0 1000000) fun v2 =>
 some v2
def Z7e.sig : Sig := { ps := [.val false (.int .i64) (ros (.int .i64))], rs := [.val false [.v .bool]], ntmps := 5 }
def Z7e.con (k : Nat) : Con := Z7e.sig.con (fun x => Z7e x)
def Z7e.C (k : Nat) : Ctx := { ti := TAB, con := Zh [(109, Zgb.con k)] }
theorem Z7e.cok (k : Nat) : CtxOk Tryz.prog (Z7e.C k) := Zj Zi ⟨Zgb.ok k, trivial⟩
theorem Z7e.ev (k : Nat) (x : Za Z7e.sig.ins) : Z7e.sig.ev (Z7e.C k) .auto Tryz.f122.results.toList (cB Tryz.f122) x = Z7e x := by kernel_rfl
theorem Z7e.ok (k : Nat) : Zf Tryz.prog 122 (Z7e.con k) := Zk (p := .auto) (Z7e.cok k) Tryz.func122 (by kernel_rfl) (show Tryz.f122.body = some (cB Tryz.f122) by kernel_rfl) (by kernel_rfl) (by kernel_rfl) (Zd (L := []) (by kernel_rfl) trivial) (fun x y h => (Z7e.ev k x).trans h)
def Z3.j0 (a1 : Int) (a2 : Bool) (a3 : Int) (a4 : Int) (a5 : Int) (a6 : Str) : Option ((Bool × Int × Int × Int × Str)) :=
 bif (a3 == 3) || (a3 == 4) then
  Option.bind (Zgb a5 0 (IntKind.wrap .i64 (a1 - 1))) fun v7 =>
  some (v7, a3, a4, a5, a6)
 else
 some (a2, a3, a4, a5, a6)
def Z3.j1 (a1 : Bool) (a2 : Int) (a3 : Int) (a4 : Int) (a5 : Str) : Option ((Bool × Int × Int × Int × Str)) :=
 bif (a2 == 2) || (a2 == 4) then
  some (((a5.length) : Int) == 8, a2, a3, a4, a5)
 else
 some (a1, a2, a3, a4, a5)
def Z3 (a1 : G36) (a2 : Int) : Option (Bool) :=
 Option.bind (Zgb a1.2.1 0 (IntKind.wrap .i64 (a2 - 1))) fun v3 =>
 Option.bind (Z3.j0 a2 (a1.2.2.1 == 0) a1.1 a1.2.1 a1.2.2.1 a1.2.2.2) fun y4 =>
 Option.bind (Z3.j1 (a1.2.2.2 == []) y4.2.1 y4.2.2.1 y4.2.2.2.1 y4.2.2.2.2) fun y5 =>
 bif y5.2.1 == 5 then
  Option.bind (Z7e y5.2.2.2.1) fun v6 =>
  Option.bind (Zgb y5.2.1 1 5) fun v7 =>
  some (((v7 && (y5.2.2.1 == 0)) && v6) && y5.1)
 else
 Option.bind (Zgb y5.2.1 1 5) fun v8 =>
 some (((v8 && v3) && y4.1) && y5.1)
def Z3.sig : Sig := { ps := [.val true T36 (ros T36), .val false (.int .i64) (ros (.int .i64))], rs := [.val false [.v .bool]], ntmps := 65 }
def Z3.con (k : Nat) : Con := Z3.sig.con (fun x => Z3 x.1 x.2)
def Z3.C (k : Nat) : Ctx := { ti := TAB, con := Zh [(109, Zgb.con k), (122, Z7e.con k)] }
theorem Z3.cok (k : Nat) : CtxOk Tryz.prog (Z3.C k) := Zj Zi ⟨Zgb.ok k, Z7e.ok k, trivial⟩
def Z3.j0.ish : Shape := { tmps := [(1, .one (.v (.int .i64))), (2, .one (.ptr 0 0)), (6, .one (.v .bool))], slots := [(0, .box 36 [.v (.int .i64), .v (.int .i64), .v (.int .i64), .v .str])], nb := 1 }
def Z3.j0.outs : List (Ex × Shape) := [(.nrm, { tmps := [(6, .one (.v .bool))], slots := [(0, .box 36 [.v (.int .i64), .v (.int .i64), .v (.int .i64), .v .str])], nb := 1 })]
def Z3.j0.F (k : Nat) (x : Za Z3.j0.ish.tys) : Option (Zy Z3.j0.outs) := Z3.j0 x.1 x.2.1 x.2.2.1 x.2.2.2.1 x.2.2.2.2.1 x.2.2.2.2.2
def Z3.j0.s (k : Nat) : Summ := { n := 65, ish := Z3.j0.ish, outs := Z3.j0.outs, f := Z3.j0.F k }
theorem Z3.j0.ev (k : Nat) (x : Za Z3.j0.ish.tys) : V (Z3.C k) .auto (cL (cR (cR (cB Tryz.f91)))) (mk Z3.j0.ish 65 x) (fun e st' => Z0 e st' Z3.j0.outs) = Z3.j0.F k x := by kernel_rfl
theorem Z3.j0.ok (k : Nat) : Z1 Tryz.prog (Z3.C k) (cL (cR (cR (cB Tryz.f91)))) (Z3.j0.s k) := Z5 (by kernel_rfl) (Z82 (p := .auto) (Z3.cok k) (by kernel_rfl) (Zd (L := []) (by kernel_rfl) trivial) (fun x y h => (Z3.j0.ev k x).trans h))
def Z3.j1.ish : Shape := { tmps := [(2, .one (.ptr 0 0)), (7, .one (.v .bool))], slots := [(0, .box 36 [.v (.int .i64), .v (.int .i64), .v (.int .i64), .v .str])], nb := 1 }
def Z3.j1.outs : List (Ex × Shape) := [(.nrm, { tmps := [(7, .one (.v .bool))], slots := [(0, .box 36 [.v (.int .i64), .v (.int .i64), .v (.int .i64), .v .str])], nb := 1 })]
def Z3.j1.F (k : Nat) (x : Za Z3.j1.ish.tys) : Option (Zy Z3.j1.outs) := Z3.j1 x.1 x.2.1 x.2.2.1 x.2.2.2.1 x.2.2.2.2
def Z3.j1.s (k : Nat) : Summ := { n := 65, ish := Z3.j1.ish, outs := Z3.j1.outs, f := Z3.j1.F k }
theorem Z3.j1.ev (k : Nat) (x : Za Z3.j1.ish.tys) : V (Z3.C k) .auto (cL (cR (cR (cR (cB Tryz.f91))))) (mk Z3.j1.ish 65 x) (fun e st' => Z0 e st' Z3.j1.outs) = Z3.j1.F k x := by kernel_rfl
theorem Z3.j1.ok (k : Nat) : Z1 Tryz.prog (Z3.C k) (cL (cR (cR (cR (cB Tryz.f91))))) (Z3.j1.s k) := Z5 (by kernel_rfl) (Z82 (p := .auto) (Z3.cok k) (by kernel_rfl) (Zd (L := []) (by kernel_rfl) trivial) (fun x y h => (Z3.j1.ev k x).trans h))
theorem Z3.ev (k : Nat) (x : Za Z3.sig.ins) : Z3.sig.ev (Z3.C k) (.two .auto (.two .auto (.two (.sum (Z3.j0.s k)) (.two (.sum (Z3.j1.s k)) .auto)))) Tryz.f91.results.toList (cB Tryz.f91) x = Z3 x.1 x.2 := by kernel_rfl
theorem Z3.ok (k : Nat) : Zf Tryz.prog 91 (Z3.con k) := Zk (p := (.two .auto (.two .auto (.two (.sum (Z3.j0.s k)) (.two (.sum (Z3.j1.s k)) .auto))))) (Z3.cok k) Tryz.func91 (by kernel_rfl) (show Tryz.f91.body = some (cB Tryz.f91) by kernel_rfl) (by kernel_rfl) (by kernel_rfl) (Zd (L := [(Z3.j0.s k, cL (cR (cR (cB Tryz.f91)))), (Z3.j1.s k, cL (cR (cR (cR (cB Tryz.f91)))))]) (by kernel_rfl) ⟨Z3.j0.ok k, Z3.j1.ok k, trivial⟩) (fun x y h => (Z3.ev k x).trans h)
def Zkg (a1 : G36) (a2 : Int) : Option (Bool) :=
 Option.bind (Z3 a1 a2) fun v3 =>
 some (!v3)
def Zkg.sig : Sig := { ps := [.val true T36 (ros T36), .rptr (.int .i64)], rs := [.val false [.v .bool]], ntmps := 8 }
def Zkg.con (k : Nat) : Con := Zkg.sig.con (fun x => Zkg x.1 x.2)
def Zkg.C (k : Nat) : Ctx := { ti := TAB, con := Zh [(91, Z3.con k)] }
theorem Zkg.cok (k : Nat) : CtxOk Tryz.prog (Zkg.C k) := Zj Zi ⟨Z3.ok k, trivial⟩
theorem Zkg.ev (k : Nat) (x : Za Zkg.sig.ins) : Zkg.sig.ev (Zkg.C k) .auto Tryz.f90.results.toList (cB Tryz.f90) x = Zkg x.1 x.2 := by kernel_rfl
theorem Zkg.ok (k : Nat) : Zf Tryz.prog 90 (Zkg.con k) := Zk (p := .auto) (Zkg.cok k) Tryz.func90 (by kernel_rfl) (show Tryz.f90.body = some (cB Tryz.f90) by kernel_rfl) (by kernel_rfl) (by kernel_rfl) (Zd (L := []) (by kernel_rfl) trivial) (fun x y h => (Zkg.ev k x).trans h)
def Z2b.l0 : Nat → List G36 → Int → Int → Int → Option (Int ⊕ (Int × Int))
 | 0, _, _, _, _ => none
 | j + 1, a1, a2, a3, a4 =>
  bif decide (a3 < a2) then
   Option.bind (at? a1 a3) fun v5 =>
   Option.bind (Zkg v5 a4) fun v6 =>
   bif v6 then
    some (.inr (a3, a4))
   else
   Z2b.l0 j a1 a2 (IntKind.wrap .i64 (a3 + 1)) a4
  else
  some (.inl a4)
def Z2b (k : Nat) (a1 : List G36) (a2 : Int) : Option (Int × Int) :=
 Option.bind (Z2b.l0 k a1 ((a1.length) : Int) 0 a2) fun
  | .inl y3 =>
   some ((-1), y3)
  | .inr y4 =>
   some (y4.1, y4.2)
def Z2b.sig : Sig := { ps := [.val false (.sl T36) (ros (.sl T36)), .fn 90 [(2, (.int .i64), (Z7i (.int .i64)))]], rs := [.val false [.v (.int .i64)]], ntmps := 19 }
def Z2b.con (k : Nat) : Con := Z2b.sig.con (fun x => Z2b k x.1 x.2)
def Z2b.C (k : Nat) : Ctx := { ti := TAB, con := Zh [(90, Zkg.con k)] }
theorem Z2b.cok (k : Nat) : CtxOk Tryz.prog (Z2b.C k) := Zj Zi ⟨Zkg.ok k, trivial⟩
def Z2b.l0.ish : Shape := { tmps := [(0, .one (.bor T36)), (1, .fn 90 [.ptr 0 0]), (7, .one (.v (.int .i64))), (8, .one (.v (.int .i64)))], slots := [(0, .box 2 [.v (.int .i64)])], nb := 1 }
def Z2b.l0.outs : List (Ex × Shape) := [(.exit 0, { tmps := [], slots := [(0, .box 2 [.v (.int .i64)])], nb := 1 }), (.ret, { tmps := [(4, .one (.v (.int .i64)))], slots := [(0, .box 2 [.v (.int .i64)])], nb := 1 })]
def Z2b.l0.F (k j : Nat) (x : Za Z2b.l0.ish.tys) : Option (Zy Z2b.l0.outs) := Z2b.l0 j x.1 x.2.1 x.2.2.1 x.2.2.2
def Z2b.l0.s (k : Nat) : Summ := { n := 19, ish := Z2b.l0.ish, outs := Z2b.l0.outs, f := Z2b.l0.F k k }
theorem Z2b.l0.ev (k j : Nat) (x : Za Z2b.l0.ish.tys) : V (Z2b.C k) .auto (cO (cO (cR (cL (cR (cB Tryz.f121)))))) (mk Z2b.l0.ish 19 x) (fun e st' => match e with | .nrm => (rd Z2b.l0.ish st').bind (Z2b.l0.F k j) | e => Z0 e st' Z2b.l0.outs) = Z2b.l0.F k (j + 1) x := by kernel_rfl
theorem Z2b.l0.ok (k : Nat) : Z1 Tryz.prog (Z2b.C k) (.loop (cO (cO (cR (cL (cR (cB Tryz.f121))))))) (Z2b.l0.s k) := Z5 (by kernel_rfl) (sum_loop (p := .auto) (F := Z2b.l0.F k) (Z2b.cok k) (by kernel_rfl) (Zd (L := []) (by kernel_rfl) trivial) (fun _ => rfl) (fun j x y h => (Z2b.l0.ev k j x).trans h) k rfl)
theorem Z2b.ev (k : Nat) (x : Za Z2b.sig.ins) : Z2b.sig.ev (Z2b.C k) (.two .auto (.two (.two .auto (.one (.sum (Z2b.l0.s k)))) .auto)) Tryz.f121.results.toList (cB Tryz.f121) x = Z2b k x.1 x.2 := by kernel_rfl
theorem Z2b.ok (k : Nat) : Zf Tryz.prog 121 (Z2b.con k) := Zk (p := (.two .auto (.two (.two .auto (.one (.sum (Z2b.l0.s k)))) .auto))) (Z2b.cok k) Tryz.func121 (by kernel_rfl) (show Tryz.f121.body = some (cB Tryz.f121) by kernel_rfl) (by kernel_rfl) (by kernel_rfl) (Zd (L := [(Z2b.l0.s k, cO (cR (cL (cR (cB Tryz.f121)))))]) (by kernel_rfl) ⟨Z2b.l0.ok k, trivial⟩) (fun x y h => (Z2b.ev k x).trans h)
def Zbh (k : Nat) (a1 : List G36) (a2 : Int) : Option (Bool × Int) :=
 Option.bind (Z2b k a1 a2) fun v3 =>
 some (decide (0 ≤ v3.1), v3.2)
def Zbh.sig : Sig := { ps := [.val false (.sl T36) (ros (.sl T36)), .fn 90 [(2, (.int .i64), (Z7i (.int .i64)))]], rs := [.val false [.v .bool]], ntmps := 9 }
def Zbh.con (k : Nat) : Con := Zbh.sig.con (fun x => Zbh k x.1 x.2)
def Zbh.C (k : Nat) : Ctx := { ti := TAB, con := Zh [(121, Z2b.con k)] }
theorem Zbh.cok (k : Nat) : CtxOk Tryz.prog (Zbh.C k) := Zj Zi ⟨Z2b.ok k, trivial⟩
theorem Zbh.ev (k : Nat) (x : Za Zbh.sig.ins) : Zbh.sig.ev (Zbh.C k) .auto Tryz.f89.results.toList (cB Tryz.f89) x = Zbh k x.1 x.2 := by kernel_rfl
theorem Zbh.ok (k : Nat) : Zf Tryz.prog 89 (Zbh.con k) := Zk (p := .auto) (Zbh.cok k) Tryz.func89 (by kernel_rfl) (show Tryz.f89.body = some (cB Tryz.f89) by kernel_rfl) (by kernel_rfl) (by kernel_rfl) (Zd (L := []) (by kernel_rfl) trivial) (fun x y h => (Zbh.ev k x).trans h)
def Zlh (a1 : G36) (a2 : Int) : Option (Bool) :=
 some ((a1.1 != 5) && (a1.2.1 == a2))
def Zlh.sig : Sig := { ps := [.val true T36 (ros T36), .rptr (.int .i64)], rs := [.val false [.v .bool]], ntmps := 13 }
def Zlh.con (k : Nat) : Con := Zlh.sig.con (fun x => Zlh x.1 x.2)
def Zlh.C (k : Nat) : Ctx := { ti := TAB, con := Zh [] }
theorem Zlh.cok (k : Nat) : CtxOk Tryz.prog (Zlh.C k) := Zj Zi trivial
theorem Zlh.ev (k : Nat) (x : Za Zlh.sig.ins) : Zlh.sig.ev (Zlh.C k) .auto Tryz.f123.results.toList (cB Tryz.f123) x = Zlh x.1 x.2 := by kernel_rfl
theorem Zlh.ok (k : Nat) : Zf Tryz.prog 123 (Zlh.con k) := Zk (p := .auto) (Zlh.cok k) Tryz.func123 (by kernel_rfl) (show Tryz.f123.body = some (cB Tryz.f123) by kernel_rfl) (by kernel_rfl) (by kernel_rfl) (Zd (L := []) (by kernel_rfl) trivial) (fun x y h => (Zlh.ev k x).trans h)
def Z4b.l0 : Nat → List G36 → Int → Int → Int → Option (Int ⊕ (Int × Int))
 | 0, _, _, _, _ => none
 | j + 1, a1, a2, a3, a4 =>
  bif decide (a3 < a2) then
   Option.bind (at? a1 a3) fun v5 =>
   Option.bind (Zlh v5 a4) fun v6 =>
   bif v6 then
    some (.inr (a3, a4))
   else
   Z4b.l0 j a1 a2 (IntKind.wrap .i64 (a3 + 1)) a4
  else
  some (.inl a4)
def Z4b (k : Nat) (a1 : List G36) (a2 : Int) : Option (Int × Int) :=
 Option.bind (Z4b.l0 k a1 ((a1.length) : Int) 0 a2) fun
  | .inl y3 =>
   some ((-1), y3)
  | .inr y4 =>
   some (y4.1, y4.2)
def Z4b.sig : Sig := { ps := [.val false (.sl T36) (ros (.sl T36)), .fn 123 [(2, (.int .i64), (Z7i (.int .i64)))]], rs := [.val false [.v (.int .i64)]], ntmps := 19 }
def Z4b.con (k : Nat) : Con := Z4b.sig.con (fun x => Z4b k x.1 x.2)
def Z4b.C (k : Nat) : Ctx := { ti := TAB, con := Zh [(123, Zlh.con k)] }
theorem Z4b.cok (k : Nat) : CtxOk Tryz.prog (Z4b.C k) := Zj Zi ⟨Zlh.ok k, trivial⟩
def Z4b.l0.ish : Shape := { tmps := [(0, .one (.bor T36)), (1, .fn 123 [.ptr 0 0]), (7, .one (.v (.int .i64))), (8, .one (.v (.int .i64)))], slots := [(0, .box 2 [.v (.int .i64)])], nb := 1 }
def Z4b.l0.outs : List (Ex × Shape) := [(.exit 0, { tmps := [], slots := [(0, .box 2 [.v (.int .i64)])], nb := 1 }), (.ret, { tmps := [(4, .one (.v (.int .i64)))], slots := [(0, .box 2 [.v (.int .i64)])], nb := 1 })]
def Z4b.l0.F (k j : Nat) (x : Za Z4b.l0.ish.tys) : Option (Zy Z4b.l0.outs) := Z4b.l0 j x.1 x.2.1 x.2.2.1 x.2.2.2
def Z4b.l0.s (k : Nat) : Summ := { n := 19, ish := Z4b.l0.ish, outs := Z4b.l0.outs, f := Z4b.l0.F k k }
theorem Z4b.l0.ev (k j : Nat) (x : Za Z4b.l0.ish.tys) : V (Z4b.C k) .auto (cO (cO (cR (cL (cR (cB Tryz.f121)))))) (mk Z4b.l0.ish 19 x) (fun e st' => match e with | .nrm => (rd Z4b.l0.ish st').bind (Z4b.l0.F k j) | e => Z0 e st' Z4b.l0.outs) = Z4b.l0.F k (j + 1) x := by kernel_rfl
theorem Z4b.l0.ok (k : Nat) : Z1 Tryz.prog (Z4b.C k) (.loop (cO (cO (cR (cL (cR (cB Tryz.f121))))))) (Z4b.l0.s k) := Z5 (by kernel_rfl) (sum_loop (p := .auto) (F := Z4b.l0.F k) (Z4b.cok k) (by kernel_rfl) (Zd (L := []) (by kernel_rfl) trivial) (fun _ => rfl) (fun j x y h => (Z4b.l0.ev k j x).trans h) k rfl)
theorem Z4b.ev (k : Nat) (x : Za Z4b.sig.ins) : Z4b.sig.ev (Z4b.C k) (.two .auto (.two (.two .auto (.one (.sum (Z4b.l0.s k)))) .auto)) Tryz.f121.results.toList (cB Tryz.f121) x = Z4b k x.1 x.2 := by kernel_rfl
theorem Z4b.ok (k : Nat) : Zf Tryz.prog 121 (Z4b.con k) := Zk (p := (.two .auto (.two (.two .auto (.one (.sum (Z4b.l0.s k)))) .auto))) (Z4b.cok k) Tryz.func121 (by kernel_rfl) (show Tryz.f121.body = some (cB Tryz.f121) by kernel_rfl) (by kernel_rfl) (by kernel_rfl) (Zd (L := [(Z4b.l0.s k, cO (cR (cL (cR (cB Tryz.f121)))))]) (by kernel_rfl) ⟨Z4b.l0.ok k, trivial⟩) (fun x y h => (Z4b.ev k x).trans h)
def Z3g (k : Nat) (a1 : List G36) (a2 : Int) : Option (Int) :=
 Option.bind (Z4b k a1 a2) fun v3 =>
 some v3.1
def Z3g.sig : Sig := { ps := [.val false (.sl T36) (ros (.sl T36)), .val false (.int .i64) (ros (.int .i64))], rs := [.val false [.v (.int .i64)]], ntmps := 8 }
def Z3g.con (k : Nat) : Con := Z3g.sig.con (fun x => Z3g k x.1 x.2)
def Z3g.C (k : Nat) : Ctx := { ti := TAB, con := Zh [(121, Z4b.con k)] }
theorem Z3g.cok (k : Nat) : CtxOk Tryz.prog (Z3g.C k) := Zj Zi ⟨Z4b.ok k, trivial⟩
theorem Z3g.ev (k : Nat) (x : Za Z3g.sig.ins) : Z3g.sig.ev (Z3g.C k) .auto Tryz.f92.results.toList (cB Tryz.f92) x = Z3g k x.1 x.2 := by kernel_rfl
theorem Z3g.ok (k : Nat) : Zf Tryz.prog 92 (Z3g.con k) := Zk (p := .auto) (Z3g.cok k) Tryz.func92 (by kernel_rfl) (show Tryz.f92.body = some (cB Tryz.f92) by kernel_rfl) (by kernel_rfl) (by kernel_rfl) (Zd (L := []) (by kernel_rfl) trivial) (fun x y h => (Z3g.ev k x).trans h)
def Z5b.l0 (k : Nat) : Nat → List G36 → Int → Bool → List G36 → Int → Int → Option (Bool ⊕ Int)
 | 0, _, _, _, _, _, _ => none
 | j + 1, a1, a2, a3, a4, a5, a6 =>
  bif decide (a6 < a5) then
   Option.bind (at? a4 a6) fun v7 =>
   let e8 := IntKind.wrap .i64 (a6 + 1)
   bif v7.1 != 5 then
    Option.bind (Z3g k a1 v7.2.1) fun v9 =>
    bif decide (v9 < a6) then
     some (.inr 12)
    else
    Z5b.l0 k j a1 a2 a3 a4 a5 e8
   else
   Z5b.l0 k j a1 v7.2.2.1 (a3 && (decide (a2 < v7.2.2.1))) a4 a5 e8
  else
  some (.inl a3)
def Z5b (k : Nat) (a1 : List G36) (a2 : Int) : Option (Int) :=
 Option.bind (Z7d a2) fun v3 =>
 bif (!v3) || (decide (20 < ((a1.length) : Int))) then
  some 1
 else
 Option.bind (Zbh k a1 a2) fun v4 =>
 bif v4.1 then
  some 1
 else
 Option.bind (Z5b.l0 k k a1 (-1) true a1 ((a1.length) : Int) 0) fun
  | .inl y5 =>
   bif !y5 then
    some 8
   else
   some 0
  | .inr y6 =>
   some y6
def Z5b.sig : Sig := { ps := [.val false (.sl T36) (ros (.sl T36)), .val false (.int .i64) (ros (.int .i64))], rs := [.val false [.v (.int .i64)]], ntmps := 50 }
def Z5b.con (k : Nat) : Con := Z5b.sig.con (fun x => Z5b k x.1 x.2)
def Z5b.C (k : Nat) : Ctx := { ti := TAB, con := Zh [(79, Z7d.con k), (89, Zbh.con k), (92, Z3g.con k)] }
theorem Z5b.cok (k : Nat) : CtxOk Tryz.prog (Z5b.C k) := Zj Zi ⟨Z7d.ok k, Zbh.ok k, Z3g.ok k, trivial⟩
def Z5b.l0.ish : Shape := { tmps := [(0, .one (.bor T36)), (5, .one (.v (.int .i64))), (6, .one (.v .bool)), (22, .one (.bor T36)), (23, .one (.v (.int .i64))), (24, .one (.v (.int .i64)))], slots := [], nb := 1 }
def Z5b.l0.outs : List (Ex × Shape) := [(.exit 0, { tmps := [(6, .one (.v .bool))], slots := [], nb := 1 }), (.ret, { tmps := [(4, .one (.v (.int .i64)))], slots := [], nb := 1 })]
def Z5b.l0.F (k j : Nat) (x : Za Z5b.l0.ish.tys) : Option (Zy Z5b.l0.outs) := Z5b.l0 k j x.1 x.2.1 x.2.2.1 x.2.2.2.1 x.2.2.2.2.1 x.2.2.2.2.2
def Z5b.l0.s (k : Nat) : Summ := { n := 50, ish := Z5b.l0.ish, outs := Z5b.l0.outs, f := Z5b.l0.F k k }
theorem Z5b.l0.ev (k j : Nat) (x : Za Z5b.l0.ish.tys) : V (Z5b.C k) .auto (cO (cO (cR (cL (cR (cR (cR (cR (cB Tryz.f48))))))))) (mk Z5b.l0.ish 50 x) (fun e st' => match e with | .nrm => (rd Z5b.l0.ish st').bind (Z5b.l0.F k j) | e => Z0 e st' Z5b.l0.outs) = Z5b.l0.F k (j + 1) x := by kernel_rfl
theorem Z5b.l0.ok (k : Nat) : Z1 Tryz.prog (Z5b.C k) (.loop (cO (cO (cR (cL (cR (cR (cR (cR (cB Tryz.f48)))))))))) (Z5b.l0.s k) := Z5 (by kernel_rfl) (sum_loop (p := .auto) (F := Z5b.l0.F k) (Z5b.cok k) (by kernel_rfl) (Zd (L := []) (by kernel_rfl) trivial) (fun _ => rfl) (fun j x y h => (Z5b.l0.ev k j x).trans h) k rfl)
theorem Z5b.ev (k : Nat) (x : Za Z5b.sig.ins) : Z5b.sig.ev (Z5b.C k) (.two .auto (.two .auto (.two .auto (.two .auto (.two (.two .auto (.one (.sum (Z5b.l0.s k)))) .auto))))) Tryz.f48.results.toList (cB Tryz.f48) x = Z5b k x.1 x.2 := by kernel_rfl
theorem Z5b.ok (k : Nat) : Zf Tryz.prog 48 (Z5b.con k) := Zk (p := (.two .auto (.two .auto (.two .auto (.two .auto (.two (.two .auto (.one (.sum (Z5b.l0.s k)))) .auto)))))) (Z5b.cok k) Tryz.func48 (by kernel_rfl) (show Tryz.f48.body = some (cB Tryz.f48) by kernel_rfl) (by kernel_rfl) (by kernel_rfl) (Zd (L := [(Z5b.l0.s k, cO (cR (cL (cR (cR (cR (cR (cB Tryz.f48))))))))]) (by kernel_rfl) ⟨Z5b.l0.ok k, trivial⟩) (fun x y h => (Z5b.ev k x).trans h)
def Zog (k : Nat) (a1 : G24) : Option (Bool) :=
 Option.bind (Z5b k a1.2.2 a1.1) fun v2 =>
 some ((v2 == 0) && (((a1.2.1.length) : Int) == 32))
def Zog.sig : Sig := { ps := [.val true T24 (ros T24)], rs := [.val false [.v .bool]], ntmps := 15 }
def Zog.con (k : Nat) : Con := Zog.sig.con (fun x => Zog k x)
def Zog.C (k : Nat) : Ctx := { ti := TAB, con := Zh [(48, Z5b.con k)], rob := true }
theorem Zog.cok (k : Nat) : CtxOk Tryz.prog (Zog.C k) := Zj Zi ⟨Z5b.ok k, trivial⟩
theorem Zog.ev (k : Nat) (x : Za Zog.sig.ins) : Zog.sig.ev (Zog.C k) .auto Tryz.f41.results.toList (cB Tryz.f41) x = Zog k x := by kernel_rfl
theorem Zog.ok (k : Nat) : Zf Tryz.prog 41 (Zog.con k) := Zk (p := .auto) (Zog.cok k) Tryz.func41 (by kernel_rfl) (show Tryz.f41.body = some (cB Tryz.f41) by kernel_rfl) (by kernel_rfl) (by kernel_rfl) (Zd (L := []) (by kernel_rfl) trivial) (fun x y h => (Zog.ev k x).trans h)
def Zlb.l0 : Nat → Int → List G93 → Int → Int → Option (Int)
 | 0, _, _, _, _ => none
 | j + 1, a1, a2, a3, a4 =>
  bif decide (a4 < a3) then
   Option.bind (at? a2 a4) fun v5 =>
   let e6 := IntKind.wrap .i64 (a4 + 1)
   bif v5.1 == 1 then
    Zlb.l0 j (IntKind.wrap .i64 (a1 + 1)) a2 a3 e6
   else
   Zlb.l0 j a1 a2 a3 e6
  else
  some a1
def Zlb (k : Nat) (a1 : List G93) : Option (Int) :=
 Option.bind (Zlb.l0 k 0 a1 ((a1.length) : Int) 0) fun y2 =>
 some y2
def Zlb.sig : Sig := { ps := [.val false (.sl T93) (ros (.sl T93))], rs := [.val false [.v (.int .i64)]], ntmps := 19 }
def Zlb.con (k : Nat) : Con := Zlb.sig.con (fun x => Zlb k x)
def Zlb.C (k : Nat) : Ctx := { ti := TAB, con := Zh [] }
theorem Zlb.cok (k : Nat) : CtxOk Tryz.prog (Zlb.C k) := Zj Zi trivial
def Zlb.l0.ish : Shape := { tmps := [(3, .one (.v (.int .i64))), (6, .one (.bor T93)), (7, .one (.v (.int .i64))), (8, .one (.v (.int .i64)))], slots := [], nb := 0 }
def Zlb.l0.outs : List (Ex × Shape) := [(.exit 0, { tmps := [(3, .one (.v (.int .i64)))], slots := [], nb := 0 })]
def Zlb.l0.F (k j : Nat) (x : Za Zlb.l0.ish.tys) : Option (Zy Zlb.l0.outs) := Zlb.l0 j x.1 x.2.1 x.2.2.1 x.2.2.2
def Zlb.l0.s (k : Nat) : Summ := { n := 19, ish := Zlb.l0.ish, outs := Zlb.l0.outs, f := Zlb.l0.F k k }
theorem Zlb.l0.ev (k j : Nat) (x : Za Zlb.l0.ish.tys) : V (Zlb.C k) .auto (cO (cO (cR (cL (cR (cR (cB Tryz.f42))))))) (mk Zlb.l0.ish 19 x) (fun e st' => match e with | .nrm => (rd Zlb.l0.ish st').bind (Zlb.l0.F k j) | e => Z0 e st' Zlb.l0.outs) = Zlb.l0.F k (j + 1) x := by kernel_rfl
theorem Zlb.l0.ok (k : Nat) : Z1 Tryz.prog (Zlb.C k) (.loop (cO (cO (cR (cL (cR (cR (cB Tryz.f42)))))))) (Zlb.l0.s k) := Z5 (by kernel_rfl) (sum_loop (p := .auto) (F := Zlb.l0.F k) (Zlb.cok k) (by kernel_rfl) (Zd (L := []) (by kernel_rfl) trivial) (fun _ => rfl) (fun j x y h => (Zlb.l0.ev k j x).trans h) k rfl)
theorem Zlb.ev (k : Nat) (x : Za Zlb.sig.ins) : Zlb.sig.ev (Zlb.C k) (.two .auto (.two .auto (.two (.two .auto (.one (.sum (Zlb.l0.s k)))) .auto))) Tryz.f42.results.toList (cB Tryz.f42) x = Zlb k x := by kernel_rfl
theorem Zlb.ok (k : Nat) : Zf Tryz.prog 42 (Zlb.con k) := Zk (p := (.two .auto (.two .auto (.two (.two .auto (.one (.sum (Zlb.l0.s k)))) .auto)))) (Zlb.cok k) Tryz.func42 (by kernel_rfl) (show Tryz.f42.body = some (cB Tryz.f42) by kernel_rfl) (by kernel_rfl) (by kernel_rfl) (Zd (L := [(Zlb.l0.s k, cO (cR (cL (cR (cR (cB Tryz.f42))))))]) (by kernel_rfl) ⟨Zlb.l0.ok k, trivial⟩) (fun x y h => (Zlb.ev k x).trans h)
def Zee (a1 : G36) : Option (Bool) :=
 some (a1.1 == 5)
def Zee.sig : Sig := { ps := [.val true T36 (ros T36)], rs := [.val false [.v .bool]], ntmps := 6 }
def Zee.con (k : Nat) : Con := Zee.sig.con (fun x => Zee x)
def Zee.C (k : Nat) : Ctx := { ti := TAB, con := Zh [] }
theorem Zee.cok (k : Nat) : CtxOk Tryz.prog (Zee.C k) := Zj Zi trivial
theorem Zee.ev (k : Nat) (x : Za Zee.sig.ins) : Zee.sig.ev (Zee.C k) .auto Tryz.f108.results.toList (cB Tryz.f108) x = Zee x := by kernel_rfl
theorem Zee.ok (k : Nat) : Zf Tryz.prog 108 (Zee.con k) := Zk (p := .auto) (Zee.cok k) Tryz.func108 (by kernel_rfl) (show Tryz.f108.body = some (cB Tryz.f108) by kernel_rfl) (by kernel_rfl) (by kernel_rfl) (Zd (L := []) (by kernel_rfl) trivial) (fun x y h => (Zee.ev k x).trans h)
def Z3b.l0 : Nat → List G36 → Int → Int → Option (Unit ⊕ Int)
 | 0, _, _, _ => none
 | j + 1, a1, a2, a3 =>
  bif decide (a3 < a2) then
   Option.bind (at? a1 a3) fun v4 =>
   Option.bind (Zee v4) fun v5 =>
   bif v5 then
    some (.inr a3)
   else
   Z3b.l0 j a1 a2 (IntKind.wrap .i64 (a3 + 1))
  else
  some (.inl ())
def Z3b (k : Nat) (a1 : List G36) : Option (Int) :=
 Option.bind (Z3b.l0 k a1 ((a1.length) : Int) 0) fun
  | .inl y2 =>
   some (-1)
  | .inr y3 =>
   some y3
def Z3b.sig : Sig := { ps := [.val false (.sl T36) (ros (.sl T36)), .fn 108 []], rs := [.val false [.v (.int .i64)]], ntmps := 19 }
def Z3b.con (k : Nat) : Con := Z3b.sig.con (fun x => Z3b k x)
def Z3b.C (k : Nat) : Ctx := { ti := TAB, con := Zh [(108, Zee.con k)] }
theorem Z3b.cok (k : Nat) : CtxOk Tryz.prog (Z3b.C k) := Zj Zi ⟨Zee.ok k, trivial⟩
def Z3b.l0.ish : Shape := { tmps := [(0, .one (.bor T36)), (1, .fn 108 []), (7, .one (.v (.int .i64))), (8, .one (.v (.int .i64)))], slots := [], nb := 0 }
def Z3b.l0.outs : List (Ex × Shape) := [(.exit 0, { tmps := [], slots := [], nb := 0 }), (.ret, { tmps := [(4, .one (.v (.int .i64)))], slots := [], nb := 0 })]
def Z3b.l0.F (k j : Nat) (x : Za Z3b.l0.ish.tys) : Option (Zy Z3b.l0.outs) := Z3b.l0 j x.1 x.2.1 x.2.2
def Z3b.l0.s (k : Nat) : Summ := { n := 19, ish := Z3b.l0.ish, outs := Z3b.l0.outs, f := Z3b.l0.F k k }
theorem Z3b.l0.ev (k j : Nat) (x : Za Z3b.l0.ish.tys) : V (Z3b.C k) .auto (cO (cO (cR (cL (cR (cB Tryz.f121)))))) (mk Z3b.l0.ish 19 x) (fun e st' => match e with | .nrm => (rd Z3b.l0.ish st').bind (Z3b.l0.F k j) | e => Z0 e st' Z3b.l0.outs) = Z3b.l0.F k (j + 1) x := by kernel_rfl
theorem Z3b.l0.ok (k : Nat) : Z1 Tryz.prog (Z3b.C k) (.loop (cO (cO (cR (cL (cR (cB Tryz.f121))))))) (Z3b.l0.s k) := Z5 (by kernel_rfl) (sum_loop (p := .auto) (F := Z3b.l0.F k) (Z3b.cok k) (by kernel_rfl) (Zd (L := []) (by kernel_rfl) trivial) (fun _ => rfl) (fun j x y h => (Z3b.l0.ev k j x).trans h) k rfl)
theorem Z3b.ev (k : Nat) (x : Za Z3b.sig.ins) : Z3b.sig.ev (Z3b.C k) (.two .auto (.two (.two .auto (.one (.sum (Z3b.l0.s k)))) .auto)) Tryz.f121.results.toList (cB Tryz.f121) x = Z3b k x := by kernel_rfl
theorem Z3b.ok (k : Nat) : Zf Tryz.prog 121 (Z3b.con k) := Zk (p := (.two .auto (.two (.two .auto (.one (.sum (Z3b.l0.s k)))) .auto))) (Z3b.cok k) Tryz.func121 (by kernel_rfl) (show Tryz.f121.body = some (cB Tryz.f121) by kernel_rfl) (by kernel_rfl) (by kernel_rfl) (Zd (L := [(Z3b.l0.s k, cO (cR (cL (cR (cB Tryz.f121)))))]) (by kernel_rfl) ⟨Z3b.l0.ok k, trivial⟩) (fun x y h => (Z3b.ev k x).trans h)
def Zwc.l0 : Nat → Int → Int → List G36 → Option ((Int × List G36))
 | 0, _, _, _ => none
 | j + 1, a1, a2, a3 =>
  bif decide (a2 < ((a3.length) : Int)) then
   Option.bind (at? a3 a2) fun v4 =>
   Option.bind (at? a3 a2) fun v5 =>
   Option.bind (Zee v5) fun v6 =>
   let e7 := IntKind.wrap .i64 (a2 + 1)
   bif !v6 then
    Option.bind (at? a3 a1) fun v8 =>
    Option.bind (at? a3 a1) fun v9 =>
    Zwc.l0 j (IntKind.wrap .i64 (a1 + 1)) e7 (List.set a3 (Int.toNat a1) v5)
   else
   Zwc.l0 j a1 e7 a3
  else
  some (a1, a3)
def Zwc (k : Nat) (a1 : List G36) : Option (List G36) :=
 Option.bind (Z3b k a1) fun v2 =>
 bif v2 == (-1) then
  some a1
 else
 Option.bind (Zwc.l0 k v2 (IntKind.wrap .i64 (v2 + 1)) a1) fun y3 =>
 Option.bind (Z9q y3.1 (y3.2.length)) fun v4 =>
 Option.bind (Zkd (List.take (Int.toNat y3.1) y3.2 ++ List.replicate (List.length y3.2 - Int.toNat y3.1) (0, (0, (0, [])))) 0 y3.1) fun v5 =>
 some v5
def Zwc.sig : Sig := { ps := [.mv 36 T36, .fn 108 []], rs := [.val false [.v (.sl T36)]], ntmps := 42 }
def Zwc.con (k : Nat) : Con := Zwc.sig.con (fun x => Zwc k x)
def Zwc.C (k : Nat) : Ctx := { ti := TAB, con := Zh [(108, Zee.con k), (121, Z3b.con k)], tl := true }
theorem Zwc.cok (k : Nat) : CtxOk Tryz.prog (Zwc.C k) := Zj Zi ⟨Zee.ok k, Z3b.ok k, trivial⟩
def Zwc.l0.ish : Shape := { tmps := [(0, .one (.own 1)), (1, .fn 108 []), (5, .one (.v (.int .i64))), (6, .one (.v (.int .i64)))], slots := [(1, .arr false 36 T36)], nb := 2 }
def Zwc.l0.outs : List (Ex × Shape) := [(.exit 0, { tmps := [(0, .one (.own 2)), (5, .one (.v (.int .i64)))], slots := [(2, .arr false 36 T36)], nb := 3 })]
def Zwc.l0.F (k j : Nat) (x : Za Zwc.l0.ish.tys) : Option (Zy Zwc.l0.outs) := Zwc.l0 j x.1 x.2.1 x.2.2
def Zwc.l0.s (k : Nat) : Summ := { n := 42, ish := Zwc.l0.ish, outs := Zwc.l0.outs, f := Zwc.l0.F k k }
theorem Zwc.l0.ev (k j : Nat) (x : Za Zwc.l0.ish.tys) : V (Zwc.C k) .auto (cO (cO (cR (cL (cR (cR (cR (cB Tryz.f106)))))))) (mk Zwc.l0.ish 42 x) (fun e st' => match e with | .nrm => (rd Zwc.l0.ish st').bind (Zwc.l0.F k j) | e => Z0 e st' Zwc.l0.outs) = Zwc.l0.F k (j + 1) x := by kernel_rfl
theorem Zwc.l0.ok (k : Nat) : Z1 Tryz.prog (Zwc.C k) (.loop (cO (cO (cR (cL (cR (cR (cR (cB Tryz.f106))))))))) (Zwc.l0.s k) := Z5 (by kernel_rfl) (sum_loop (p := .auto) (F := Zwc.l0.F k) (Zwc.cok k) (by kernel_rfl) (Zd (L := []) (by kernel_rfl) trivial) (fun _ => rfl) (fun j x y h => (Zwc.l0.ev k j x).trans h) k rfl)
theorem Zwc.ev (k : Nat) (x : Za Zwc.sig.ins) : Zwc.sig.ev (Zwc.C k) (.two .auto (.two .auto (.two .auto (.two (.two .auto (.one (.sum (Zwc.l0.s k)))) .auto)))) Tryz.f106.results.toList (cB Tryz.f106) x = Zwc k x := by kernel_rfl
theorem Zwc.ok (k : Nat) : Zf Tryz.prog 106 (Zwc.con k) := Zk (p := (.two .auto (.two .auto (.two .auto (.two (.two .auto (.one (.sum (Zwc.l0.s k)))) .auto))))) (Zwc.cok k) Tryz.func106 (by kernel_rfl) (show Tryz.f106.body = some (cB Tryz.f106) by kernel_rfl) (by kernel_rfl) (by kernel_rfl) (Zd (L := [(Zwc.l0.s k, cO (cR (cL (cR (cR (cR (cB Tryz.f106)))))))]) (by kernel_rfl) ⟨Zwc.l0.ok k, trivial⟩) (fun x y h => (Zwc.ev k x).trans h)
def Z2i (a : List G36) : Option (List G36) := Option.bind (Z2d 40 [] a) fun y => some y
def Z2i.sig : Sig := { ps := [.val false (.sl T36) (ros (.sl T36))], rs := [.val false [.own 36 T36]], ntmps := 8 }
def Z2i.con (k : Nat) : Con := Z2i.sig.con (fun x => Z2i x)
theorem Z2i.ok (k : Nat) : Zf Tryz.prog 107 (Z2i.con k) :=
 Zfdb (e := 36) (C := { ti := TAB, con := Zh [] }) (s := Z2i.sig) (G := fun x => Z2i x) (Zj Zi trivial) Tryz.func107 (by kernel_rfl) rfl (by kernel_rfl) (by kernel_rfl) (by kernel_rfl) rfl rfl rfl rfl rfl rfl (by kernel_rfl) (by kernel_rfl)
  (fun x => ⟨_, _, .inl rfl⟩) (fun x y h => Eq.trans (b := Z2i x) (by kernel_rfl) h) (fun x y h hl => by
   have e : x = ([] : List G36) := hl T36 x (.inl (by kernel_rfl))
   subst e
   exact Eq.trans (b := Z2i []) (by kernel_rfl) h)
def Z6g (k : Nat) (a1 : List G36) : Option (List G36) :=
 Option.bind (Z2i a1) fun v2 =>
 Option.bind (Zwc k v2) fun v3 =>
 some v3
def Z6g.sig : Sig := { ps := [.val false (.sl T36) (ros (.sl T36))], rs := [.val false [.v (.sl T36)]], ntmps := 6 }
def Z6g.con (k : Nat) : Con := Z6g.sig.con (fun x => Z6g k x)
def Z6g.C (k : Nat) : Ctx := { ti := TAB, con := Zh [(106, Zwc.con k), (107, Z2i.con k)] }
theorem Z6g.cok (k : Nat) : CtxOk Tryz.prog (Z6g.C k) := Zj Zi ⟨Zwc.ok k, Z2i.ok k, trivial⟩
theorem Z6g.ev (k : Nat) (x : Za Z6g.sig.ins) : Z6g.sig.ev (Z6g.C k) .auto Tryz.f72.results.toList (cB Tryz.f72) x = Z6g k x := by kernel_rfl
theorem Z6g.ok (k : Nat) : Zf Tryz.prog 72 (Z6g.con k) := Zk (p := .auto) (Z6g.cok k) Tryz.func72 (by kernel_rfl) (show Tryz.f72.body = some (cB Tryz.f72) by kernel_rfl) (by kernel_rfl) (by kernel_rfl) (Zd (L := []) (by kernel_rfl) trivial) (fun x y h => (Z6g.ev k x).trans h)
def Z0h (a1 : G36) (a2 : Int) : Option (Bool) :=
 some (((a1.1 == 3) || (a1.1 == 4)) && (a1.2.2.1 == a2))
def Z0h.sig : Sig := { ps := [.val true T36 (ros T36), .val false (.int .i64) (ros (.int .i64))], rs := [.val false [.v .bool]], ntmps := 19 }
def Z0h.con (k : Nat) : Con := Z0h.sig.con (fun x => Z0h x.1 x.2)
def Z0h.C (k : Nat) : Ctx := { ti := TAB, con := Zh [] }
theorem Z0h.cok (k : Nat) : CtxOk Tryz.prog (Z0h.C k) := Zj Zi trivial
theorem Z0h.ev (k : Nat) (x : Za Z0h.sig.ins) : Z0h.sig.ev (Z0h.C k) .auto Tryz.f77.results.toList (cB Tryz.f77) x = Z0h x.1 x.2 := by kernel_rfl
theorem Z0h.ok (k : Nat) : Zf Tryz.prog 77 (Z0h.con k) := Zk (p := .auto) (Z0h.cok k) Tryz.func77 (by kernel_rfl) (show Tryz.f77.body = some (cB Tryz.f77) by kernel_rfl) (by kernel_rfl) (by kernel_rfl) (Zd (L := []) (by kernel_rfl) trivial) (fun x y h => (Z0h.ev k x).trans h)
end Go.Proofs.YtfbancgdmghnkaaGreatDoorE
namespace Go.Proofs.YtfbancgdmghnkaaGreatDoorE
open Go Go.RowKit
set_option linter.unusedVariables false
def Z2g (a1 : Int) (a2 : Int) (a3 : List G36) (a4 : Int) : Option (Bool) :=
 bif a1 != a2 then
  Option.bind (at? a3 a1) fun v5 =>
  Option.bind (Z0h v5 a4) fun v6 =>
  some v6
 else
 some false
def Z2g.sig : Sig := { ps := [.val false (.int .i64) (ros (.int .i64)), .rptr (.int .i64), .rptr (.sl T36), .rptr (.int .i64)], rs := [.val false [.v .bool]], ntmps := 17 }
def Z2g.con (k : Nat) : Con := Z2g.sig.con (fun x => Z2g x.1 x.2.1 x.2.2.1 x.2.2.2)
def Z2g.C (k : Nat) : Ctx := { ti := TAB, con := Zh [(77, Z0h.con k)] }
theorem Z2g.cok (k : Nat) : CtxOk Tryz.prog (Z2g.C k) := Zj Zi ⟨Z0h.ok k, trivial⟩
theorem Z2g.ev (k : Nat) (x : Za Z2g.sig.ins) : Z2g.sig.ev (Z2g.C k) .auto Tryz.f76.results.toList (cB Tryz.f76) x = Z2g x.1 x.2.1 x.2.2.1 x.2.2.2 := by kernel_rfl
theorem Z2g.ok (k : Nat) : Zf Tryz.prog 76 (Z2g.con k) := Zk (p := .auto) (Z2g.cok k) Tryz.func76 (by kernel_rfl) (show Tryz.f76.body = some (cB Tryz.f76) by kernel_rfl) (by kernel_rfl) (by kernel_rfl) (Zd (L := []) (by kernel_rfl) trivial) (fun x y h => (Z2g.ev k x).trans h)
def Z7b.l0 : Nat → List Int → List G36 → Int → Int → Int → Int → Option ((Int × Int) ⊕ (Int × Int × Int))
 | 0, _, _, _, _, _, _ => none
 | j + 1, a1, a2, a3, a4, a5, a6 =>
  bif decide (a4 < a3) then
   Option.bind (at? a1 a4) fun v7 =>
   Option.bind (Z2g v7 a5 a2 a6) fun v8 =>
   bif v8 then
    some (.inr (a4, a5, a6))
   else
   Z7b.l0 j a1 a2 a3 (IntKind.wrap .i64 (a4 + 1)) a5 a6
  else
  some (.inl (a5, a6))
def Z7b (k : Nat) (a1 : List Int) (a2 : Int) (a3 : List G36) (a4 : Int) : Option (Int × Int × Int) :=
 Option.bind (Z7b.l0 k a1 a3 ((a1.length) : Int) 0 a2 a4) fun
  | .inl y5 =>
   some ((-1), y5.1, y5.2)
  | .inr y6 =>
   some (y6.1, y6.2.1, y6.2.2)
def Z7b.sig : Sig := { ps := [.val false (.sl (.int .i64)) (ros (.sl (.int .i64))), .fn 76 [(3, (.int .i64), (Z7i (.int .i64))), (4000000, (.sl T36), [.ro]), (2, (.int .i64), (Z7i (.int .i64)))]], rs := [.val false [.v (.int .i64)]], ntmps := 19 }
def Z7b.con (k : Nat) : Con := Z7b.sig.con (fun x => Z7b k x.1 x.2.1 x.2.2.1 x.2.2.2)
def Z7b.C (k : Nat) : Ctx := { ti := TAB, con := Zh [(76, Z2g.con k)] }
theorem Z7b.cok (k : Nat) : CtxOk Tryz.prog (Z7b.C k) := Zj Zi ⟨Z2g.ok k, trivial⟩
def Z7b.l0.ish : Shape := { tmps := [(0, .one (.bor (.int .i64))), (1, .fn 76 [.ptr 0 0, .rp (.sl T36), .ptr 1 0]), (7, .one (.v (.int .i64))), (8, .one (.v (.int .i64)))], slots := [(0, .box 3 [.v (.int .i64)]), (1, .box 2 [.v (.int .i64)])], nb := 2 }
def Z7b.l0.outs : List (Ex × Shape) := [(.exit 0, { tmps := [], slots := [(0, .box 3 [.v (.int .i64)]), (1, .box 2 [.v (.int .i64)])], nb := 2 }), (.ret, { tmps := [(4, .one (.v (.int .i64)))], slots := [(0, .box 3 [.v (.int .i64)]), (1, .box 2 [.v (.int .i64)])], nb := 2 })]
def Z7b.l0.F (k j : Nat) (x : Za Z7b.l0.ish.tys) : Option (Zy Z7b.l0.outs) := Z7b.l0 j x.1 x.2.1 x.2.2.1 x.2.2.2.1 x.2.2.2.2.1 x.2.2.2.2.2
def Z7b.l0.s (k : Nat) : Summ := { n := 19, ish := Z7b.l0.ish, outs := Z7b.l0.outs, f := Z7b.l0.F k k }
theorem Z7b.l0.ev (k j : Nat) (x : Za Z7b.l0.ish.tys) : V (Z7b.C k) .auto (cO (cO (cR (cL (cR (cB Tryz.f73)))))) (mk Z7b.l0.ish 19 x) (fun e st' => match e with | .nrm => (rd Z7b.l0.ish st').bind (Z7b.l0.F k j) | e => Z0 e st' Z7b.l0.outs) = Z7b.l0.F k (j + 1) x := by kernel_rfl
theorem Z7b.l0.ok (k : Nat) : Z1 Tryz.prog (Z7b.C k) (.loop (cO (cO (cR (cL (cR (cB Tryz.f73))))))) (Z7b.l0.s k) := Z5 (by kernel_rfl) (sum_loop (p := .auto) (F := Z7b.l0.F k) (Z7b.cok k) (by kernel_rfl) (Zd (L := []) (by kernel_rfl) trivial) (fun _ => rfl) (fun j x y h => (Z7b.l0.ev k j x).trans h) k rfl)
theorem Z7b.ev (k : Nat) (x : Za Z7b.sig.ins) : Z7b.sig.ev (Z7b.C k) (.two .auto (.two (.two .auto (.one (.sum (Z7b.l0.s k)))) .auto)) Tryz.f73.results.toList (cB Tryz.f73) x = Z7b k x.1 x.2.1 x.2.2.1 x.2.2.2 := by kernel_rfl
theorem Z7b.ok (k : Nat) : Zf Tryz.prog 73 (Z7b.con k) := Zk (p := (.two .auto (.two (.two .auto (.one (.sum (Z7b.l0.s k)))) .auto))) (Z7b.cok k) Tryz.func73 (by kernel_rfl) (show Tryz.f73.body = some (cB Tryz.f73) by kernel_rfl) (by kernel_rfl) (by kernel_rfl) (Zd (L := [(Z7b.l0.s k, cO (cR (cL (cR (cB Tryz.f73)))))]) (by kernel_rfl) ⟨Z7b.l0.ok k, trivial⟩) (fun x y h => (Z7b.ev k x).trans h)
def Zeg (k : Nat) (a1 : List Int) (a2 : Int) (a3 : List G36) (a4 : Int) : Option (Bool × Int × Int) :=
 Option.bind (Z7b k a1 a2 a3 a4) fun v5 =>
 some (decide (0 ≤ v5.1), v5.2.1, v5.2.2)
def Zeg.sig : Sig := { ps := [.val false (.sl (.int .i64)) (ros (.sl (.int .i64))), .fn 76 [(3, (.int .i64), (Z7i (.int .i64))), (4000000, (.sl T36), [.ro]), (2, (.int .i64), (Z7i (.int .i64)))]], rs := [.val false [.v .bool]], ntmps := 9 }
def Zeg.con (k : Nat) : Con := Zeg.sig.con (fun x => Zeg k x.1 x.2.1 x.2.2.1 x.2.2.2)
def Zeg.C (k : Nat) : Ctx := { ti := TAB, con := Zh [(73, Z7b.con k)] }
theorem Zeg.cok (k : Nat) : CtxOk Tryz.prog (Zeg.C k) := Zj Zi ⟨Z7b.ok k, trivial⟩
theorem Zeg.ev (k : Nat) (x : Za Zeg.sig.ins) : Zeg.sig.ev (Zeg.C k) .auto Tryz.f75.results.toList (cB Tryz.f75) x = Zeg k x.1 x.2.1 x.2.2.1 x.2.2.2 := by kernel_rfl
theorem Zeg.ok (k : Nat) : Zf Tryz.prog 75 (Zeg.con k) := Zk (p := .auto) (Zeg.cok k) Tryz.func75 (by kernel_rfl) (show Tryz.f75.body = some (cB Tryz.f75) by kernel_rfl) (by kernel_rfl) (by kernel_rfl) (Zd (L := []) (by kernel_rfl) trivial) (fun x y h => (Zeg.ev k x).trans h)
def Zbg (k : Nat) (a1 : Int) (a2 : List G36) (a3 : List Int) (a4 : List Int) : Option (Bool × List Int) :=
 Option.bind (at? a2 a1) fun v5 =>
 bif Zmf v5.2.1 a3 then
  some (true, a3)
 else
 Option.bind (Zeg k a4 a1 a2 v5.2.1) fun v6 =>
 some (!v6.1, a3)
def Zbg.sig : Sig := { ps := [.val false (.int .i64) (ros (.int .i64)), .rptr (.sl T36), .ref 123 (.sl (.int .i64)) [.own 1000123], .rptr (.sl (.int .i64))], rs := [.val false [.v .bool]], ntmps := 21 }
def Zbg.con (k : Nat) : Con := Zbg.sig.con (fun x => Zbg k x.1 x.2.1 x.2.2.1 x.2.2.2)
def Zbg.C (k : Nat) : Ctx := { ti := TAB, con := Zh [(75, Zeg.con k)] }
theorem Zbg.cok (k : Nat) : CtxOk Tryz.prog (Zbg.C k) := Zj Zi ⟨Zeg.ok k, trivial⟩
theorem Zbg.ev (k : Nat) (x : Za Zbg.sig.ins) : Zbg.sig.ev (Zbg.C k) .auto Tryz.f74.results.toList (cB Tryz.f74) x = Zbg k x.1 x.2.1 x.2.2.1 x.2.2.2 := by kernel_rfl
theorem Zbg.ok (k : Nat) : Zf Tryz.prog 74 (Zbg.con k) := Zk (p := .auto) (Zbg.cok k) Tryz.func74 (by kernel_rfl) (show Tryz.f74.body = some (cB Tryz.f74) by kernel_rfl) (by kernel_rfl) (by kernel_rfl) (Zd (L := []) (by kernel_rfl) trivial) (fun x y h => (Zbg.ev k x).trans h)
def Zub.l0 (k : Nat) : Nat → List Int → List Int → Int → Int → List G36 → List Int → Option ((List G36 × List Int) ⊕ (Int × List G36 × List Int))
 | 0, _, _, _, _, _, _ => none
 | j + 1, a1, a2, a3, a4, a5, a6 =>
  bif decide (a4 < a3) then
   Option.bind (at? a1 a4) fun v7 =>
   Option.bind (Zbg k v7 a5 a6 a2) fun v8 =>
   bif v8.1 then
    some (.inr (a4, a5, v8.2))
   else
   Zub.l0 k j a1 a2 a3 (IntKind.wrap .i64 (a4 + 1)) a5 v8.2
  else
  some (.inl (a5, a6))
def Zub (k : Nat) (a1 : List Int) (a2 : List G36) (a3 : List Int) (a4 : List Int) : Option (Int × List G36 × List Int) :=
 Option.bind (Zub.l0 k k a1 a4 ((a1.length) : Int) 0 a2 a3) fun
  | .inl y5 =>
   some ((-1), y5.1, y5.2)
  | .inr y6 =>
   some (y6.1, y6.2.1, y6.2.2)
def Zub.sig : Sig := { ps := [.val false (.sl (.int .i64)) (ros (.sl (.int .i64))), .fn 74 [(40, (.sl T36), (Z7i (.sl T36))), (123, (.sl (.int .i64)), [.own 1000123]), (4000000, (.sl (.int .i64)), [.ro])]], rs := [.val false [.v (.int .i64)]], ntmps := 19 }
def Zub.con (k : Nat) : Con := Zub.sig.con (fun x => Zub k x.1 x.2.1 x.2.2.1 x.2.2.2)
def Zub.C (k : Nat) : Ctx := { ti := TAB, con := Zh [(74, Zbg.con k)] }
theorem Zub.cok (k : Nat) : CtxOk Tryz.prog (Zub.C k) := Zj Zi ⟨Zbg.ok k, trivial⟩
def Zub.l0.ish : Shape := { tmps := [(0, .one (.bor (.int .i64))), (1, .fn 74 [.ptr 0 0, .ptr 1 0, .rp (.sl (.int .i64))]), (7, .one (.v (.int .i64))), (8, .one (.v (.int .i64)))], slots := [(0, .box 40 [.v (.sl T36)]), (1, .box 123 [.own 3]), (3, .arr false 1000123 (.int .i64))], nb := 4 }
def Zub.l0.outs : List (Ex × Shape) := [(.exit 0, { tmps := [], slots := [(0, .box 40 [.v (.sl T36)]), (1, .box 123 [.own 4]), (4, .arr false 1000123 (.int .i64))], nb := 5 }), (.ret, { tmps := [(4, .one (.v (.int .i64)))], slots := [(0, .box 40 [.v (.sl T36)]), (1, .box 123 [.own 4]), (4, .arr false 1000123 (.int .i64))], nb := 5 })]
def Zub.l0.F (k j : Nat) (x : Za Zub.l0.ish.tys) : Option (Zy Zub.l0.outs) := Zub.l0 k j x.1 x.2.1 x.2.2.1 x.2.2.2.1 x.2.2.2.2.1 x.2.2.2.2.2
def Zub.l0.s (k : Nat) : Summ := { n := 19, ish := Zub.l0.ish, outs := Zub.l0.outs, f := Zub.l0.F k k }
theorem Zub.l0.ev (k j : Nat) (x : Za Zub.l0.ish.tys) : V (Zub.C k) .auto (cO (cO (cR (cL (cR (cB Tryz.f73)))))) (mk Zub.l0.ish 19 x) (fun e st' => match e with | .nrm => (rd Zub.l0.ish st').bind (Zub.l0.F k j) | e => Z0 e st' Zub.l0.outs) = Zub.l0.F k (j + 1) x := by kernel_rfl
theorem Zub.l0.ok (k : Nat) : Z1 Tryz.prog (Zub.C k) (.loop (cO (cO (cR (cL (cR (cB Tryz.f73))))))) (Zub.l0.s k) := Z5 (by kernel_rfl) (sum_loop (p := .auto) (F := Zub.l0.F k) (Zub.cok k) (by kernel_rfl) (Zd (L := []) (by kernel_rfl) trivial) (fun _ => rfl) (fun j x y h => (Zub.l0.ev k j x).trans h) k rfl)
theorem Zub.ev (k : Nat) (x : Za Zub.sig.ins) : Zub.sig.ev (Zub.C k) (.two .auto (.two (.two .auto (.one (.sum (Zub.l0.s k)))) .auto)) Tryz.f73.results.toList (cB Tryz.f73) x = Zub k x.1 x.2.1 x.2.2.1 x.2.2.2 := by kernel_rfl
theorem Zub.ok (k : Nat) : Zf Tryz.prog 73 (Zub.con k) := Zk (p := (.two .auto (.two (.two .auto (.one (.sum (Zub.l0.s k)))) .auto))) (Zub.cok k) Tryz.func73 (by kernel_rfl) (show Tryz.f73.body = some (cB Tryz.f73) by kernel_rfl) (by kernel_rfl) (by kernel_rfl) (Zd (L := [(Zub.l0.s k, cO (cR (cL (cR (cB Tryz.f73)))))]) (by kernel_rfl) ⟨Zub.l0.ok k, trivial⟩) (fun x y h => (Zub.ev k x).trans h)
def slices_Delete_int (l : List Int) (i j : Int) : Option (List Int) := if 0 ≤ i ∧ i ≤ j ∧ j ≤ (l.length : Int) then some (l.take i.toNat ++ l.drop j.toNat) else none
def slices_Delete_int.con (k : Nat) : Con := { ms := [.mv, .val [.ro], .val [.ro]], f := fun xs => match xs with
 | [.mv e (.int .i64) l, .val false [.leaf (.int .i64 i)], .val false [.leaf (.int .i64 j)]] => bif Nat.beq e 3 then .opt (List Int) (slices_Delete_int l i j) fun r => ⟨[.val false [.own e (.int .i64) r]], []⟩ else .fail
 | _ => .fail }
theorem slices_Delete_int.drew (w : World) (q : Nat) : (w.drewN q).heap = w.heap ∧ (w.drewN q).os = w.os ∧ (w.drewN q).tape = w.tape ∧ (w.drewN q).output = w.output := ⟨rfl, rfl, rfl, rfl⟩
theorem slices_Delete_int.ok (k : Nat) : Zf Tryz.prog 78 (slices_Delete_int.con k) := by
 refine ⟨(Z5y Tryz.func78 (by kernel_rfl) (show Tryz.f78.body = some (cB Tryz.f78) by kernel_rfl)), ?_⟩
 intro xs rr hrr w vs F L M hF hnd hgl hargs
 unfold slices_Delete_int.con at hrr
 dsimp only at hrr
 split at hrr
 ·rename_i e l i j
  cases he : Nat.beq e 3 with
  | false => rw [he] at hrr; cases hrr
  | true =>
  rw [he] at hrr
  have hm : Z9 e = false := by rw [Nat.eq_of_beq_eq_true he]; rfl
  replace hrr : (slices_Delete_int l i j).map (fun r => (⟨[.val false [.own e (.int .i64) r]], []⟩ : RR)) = some rr := hrr
  unfold slices_Delete_int at hrr
  split at hrr
  ·rename_i hij
   obtain ⟨h0, h1, h2⟩ := hij
   cases hrr
   match vs, hargs with
   | [v1, v2, v3], ⟨_, _, _, _, hL, hM, ⟨rfl, rfl, hrow⟩, _, _, _, _, hL2, hM2, ⟨rfl, hv2, hn2⟩, _, _, _, _, hL3, hM3, ⟨rfl, hv3, hn3⟩, hn4, hn5⟩ =>
   have hv2 : v2 = .int .i64 i := hv2
   have hv3 : v3 = .int .i64 j := hv3
   subst hv2
   subst hv3
   subst hn2
   subst hn3
   subst hn4
   subst hn5
   subst hL3
   subst hM3
   subst hL2
   subst hM2
   subst hL
   subst hM
   obtain ⟨a, rfl⟩ : ∃ a : Nat, i = (a : Int) := ⟨i.toNat, by omega⟩
   obtain ⟨b, rfl⟩ : ∃ b : Nat, j = (b : Int) := ⟨j.toNat, by omega⟩
   rw [Int.toNat_natCast, Int.toNat_natCast]
   rcases hrow.slice hm with ⟨rfl, rfl⟩ | ⟨g, cap, cs, fr, rfl, hh, hun, hfz, hlc, hcs, hcells⟩
   ·have hb0 : b = 0 := by
     have : (([] : List Int).length : Int) = 0 := rfl
     have h2 : (b : Int) ≤ (([] : List Int).length : Int) := h2
     omega
    have ha0 : a = 0 := by omega
    subst hb0
    subst ha0
    refine (Tryz.slices_Delete_int_empty none 0 w).mono ?_
    rintro e' w' ⟨rfl, rfl⟩
    refine ⟨_, rfl, ⟨rfl, rfl, rfl, Nat.le_refl _, fun _ _ _ => rfl⟩, [], [.row (.slice none 0 0)], ?_, List.nodup_nil, rfl, rfl, Zdd.ok (.inl ⟨rfl, rfl⟩) hm, rfl⟩
    intro c hc q hq
    rw [List.mem_singleton.1 hc] at hq
    cases hq
   ·have hsz : (Ty.int IntKind.i64).sz = 1 := rfl
    rw [hsz, Nat.mul_one] at hcs
    have hab : a ≤ b := by omega
    have hbl : b ≤ l.length := by omega
    obtain ⟨rfl, hcapm⟩ := hfz rfl
    have hcell : ∀ q, q < l.length → w.cell? ⟨g, 0 + q, none⟩ = some (.int .i64 (l.getD q 0)) := by
     intro q hq
     have h3 := hcells q l[q] (List.getElem?_eq_getElem hq)
     have h3 : (cs.toList.drop (q * 1)).take 1 = [.int .i64 l[q]] := h3
     rw [Nat.mul_one] at h3
     have h4 : cs.toList[q]? = some (.int .i64 l[q]) := by
      have := congrArg (fun z => z[0]?) h3
      simpa using this
     rw [cell_of_row w g (0 + q) cs e (0, 0) hh, Nat.zero_add, ← Array.getElem?_toList, h4, List.getD_eq_getElem?_getD, List.getElem?_eq_getElem hq]
     rfl
    refine (Tryz.slices_Delete_int_cells g 0 l.length cap a b l w (Nat.le_refl _) hlc (by unfold maxLen at hcapm; omega) hab hbl hcell (fun q hq => by
     simp only [World.frozen?, hh]
     simp)).mono ?_
    rintro e' w' ⟨rfl, q, rfl⟩
    rw [List.take_of_length_le (Nat.le_refl l.length)]
    obtain ⟨d1, d2, d3, d4⟩ := slices_Delete_int.drew w q
    generalize hvs : ((l.take a ++ l.drop b ++ List.replicate (b - a) (0 : Int)).map (Value.int .i64)) = us
    have hul : us.length = l.length := by rw [← hvs]; simp; omega
    obtain ⟨r1, r2, r3, r4⟩ := Zjw g us 0 (w.drewN q)
    have hh' : (w.drewN q).heap[g]? = some (.cells cs e (0, 0)) := by rw [d1]; exact hh
    have hblk := Z7m g us 0 cs (w.drewN q) hh' (by omega)
    have hgl : g < w.heap.size := (Array.getElem?_eq_some_iff.1 hh).1
    have hres : (l.take a ++ l.drop b).length = l.length - (b - a) := by simp; omega
    refine ⟨_, rfl, ⟨r1.trans d2, r2.trans d3, r3.trans d4, by rw [r4, d1]; exact Nat.le_refl _, fun x hx hn => ?_⟩, [], [.row (.slice (some ⟨g, 0, none⟩) (l.length - (b - a)) cap)], ?_, ?_, rfl, rfl, Zdd.ok (.inr ⟨g, cap, _, (0, 0), by rw [hres], hblk, .inl rfl, fun _ => ⟨rfl, hcapm⟩, by rw [hres]; omega, ?_, ?_⟩) hm, rfl⟩
    ·rw [Z6t g us 0 (w.drewN q) x (fun ex => hn (by subst ex; exact List.mem_singleton.2 rfl)), d1]
    ·intro c hc x hx
     rw [List.mem_singleton.1 hc] at hx
     cases hx
     exact ⟨.inl (List.mem_singleton.2 rfl), by rw [r4, d1]; exact hgl⟩
    ·exact List.nodup_cons.2 ⟨(fun h => nomatch h), List.nodup_nil⟩
    ·rw [List.size_toArray, Zwm _ _ _ (by simp; omega), Array.length_toList, hcs, hsz, Nat.mul_one]
    ·intro x y hx
     show ((overL cs.toList 0 us).toArray.toList.drop (x * 1)).take 1 = [.int .i64 y]
     have hxl := (List.getElem?_eq_some_iff.1 hx).1
     have hus : us[x]? = some (.int .i64 y) := by
      rw [← hvs, List.getElem?_map, List.getElem?_append_left hxl, hx]
      rfl
     rw [Nat.mul_one, List.toList_toArray]
     apply List.ext_getElem?
     intro m
     rw [List.getElem?_take, List.getElem?_drop, Z7k _ _ _ (by simp; omega)]
     cases m with
     | zero =>
      rw [if_pos (by omega), if_neg (by omega), if_pos (by omega), Nat.add_zero, Nat.sub_zero, hus]
      rfl
     | succ m => rw [if_neg (by omega)]; rfl
  ·cases hrr
 ·cases hrr
def Zs.l0 : Nat → Int → Int → List Int → Option ((List Int))
 | 0, _, _, _ => none
 | j + 1, a1, a2, a3 =>
  bif decide (a2 < a1) then
   Option.bind (at? a3 a2) fun v4 =>
   Option.bind (at? a3 a2) fun v5 =>
   Zs.l0 j a1 (IntKind.wrap .i64 (a2 + 1)) (List.set a3 (Int.toNat a2) a2)
  else
  some a3
def Zs.l1 (k : Nat) : Nat → List G36 → List G93 → List Int → List Int → Option ((List G36 × List G93 × List Int × List Int))
 | 0, _, _, _, _ => none
 | j + 1, a1, a2, a3, a4 =>
  bif decide (0 < ((a3.length) : Int)) then
   Option.bind (Zub k a3 a1 a4 a3) fun v5 =>
   bif decide (v5.1 < 0) then
    Option.bind (at? a3 0) fun v6 =>
    Option.bind (at? a3 0) fun v7 =>
    let e8 := at? v5.2.1 v7
    Option.bind (e8) fun v9 =>
    Option.bind (Z2d 32 a2 [(1, (v7, (v9.2.1, ((v5.2.2.length) : Int))))]) fun v10 =>
    Option.bind (e8) fun v11 =>
    Zs.l1 k j v5.2.1 v10 a3 (Zpi v11.2.1 v5.2.2)
   else
   let e12 := at? a3 v5.1
   Option.bind (e12) fun v13 =>
   Option.bind (e12) fun v14 =>
   Option.bind (at? v5.2.1 v14) fun v15 =>
   Option.bind (Z2d 32 a2 [(2, (v14, (v15.2.1, 0)))]) fun v16 =>
   Option.bind (slices_Delete_int a3 v5.1 (IntKind.wrap .i64 (v5.1 + 1))) fun v17 =>
   Zs.l1 k j v5.2.1 v16 v17 v5.2.2
  else
  some (a1, a2, a3, a4)
def Zs (k : Nat) (a1 : List G36) : Option (List G93) :=
 Option.bind (Z6g k a1) fun v2 =>
 Option.bind (Zji 8 ((v2.length) : Int) ((v2.length) : Int) 0) fun v3 =>
 Option.bind (Zs.l0 k ((v3.length) : Int) 0 v3) fun y4 =>
 Option.bind (Zs.l1 k k v2 [] y4 []) fun y5 =>
 some y5.2.1
def Zs.sig : Sig := { ps := [.val false (.sl T36) (ros (.sl T36))], rs := [.val false [.own 93 T93]], ntmps := 76 }
def Zs.con (k : Nat) : Con := Zs.sig.con (fun x => Zs k x)
def Zs.C (k : Nat) : Ctx := { ti := TAB, con := Zh [(72, Z6g.con k), (73, Zub.con k), (78, slices_Delete_int.con k)] }
theorem Zs.cok (k : Nat) : CtxOk Tryz.prog (Zs.C k) := Zj Zi ⟨Z6g.ok k, Zub.ok k, slices_Delete_int.ok k, trivial⟩
def Zs.l0.ish : Shape := { tmps := [(4, .one (.ptr 2 0)), (17, .one (.v (.int .i64))), (18, .one (.v (.int .i64)))], slots := [(2, .box 122 [.own 3]), (3, .arr false 3 (.int .i64))], nb := 4 }
def Zs.l0.outs : List (Ex × Shape) := [(.exit 0, { tmps := [], slots := [(2, .box 122 [.own 4]), (4, .arr false 3 (.int .i64))], nb := 5 })]
def Zs.l0.F (k j : Nat) (x : Za Zs.l0.ish.tys) : Option (Zy Zs.l0.outs) := Zs.l0 j x.1 x.2.1 x.2.2
def Zs.l0.s (k : Nat) : Summ := { n := 76, ish := Zs.l0.ish, outs := Zs.l0.outs, f := Zs.l0.F k k }
theorem Zs.l0.ev (k j : Nat) (x : Za Zs.l0.ish.tys) : V (Zs.C k) .auto (cO (cO (cR (cL (cR (cR (cR (cB Tryz.f43)))))))) (mk Zs.l0.ish 76 x) (fun e st' => match e with | .nrm => (rd Zs.l0.ish st').bind (Zs.l0.F k j) | e => Z0 e st' Zs.l0.outs) = Zs.l0.F k (j + 1) x := by kernel_rfl
theorem Zs.l0.ok (k : Nat) : Z1 Tryz.prog (Zs.C k) (.loop (cO (cO (cR (cL (cR (cR (cR (cB Tryz.f43))))))))) (Zs.l0.s k) := Z5 (by kernel_rfl) (sum_loop (p := .auto) (F := Zs.l0.F k) (Zs.cok k) (by kernel_rfl) (Zd (L := []) (by kernel_rfl) trivial) (fun _ => rfl) (fun j x y h => (Zs.l0.ev k j x).trans h) k rfl)
def Zs.l1.ish : Shape := { tmps := [(3, .one (.ptr 0 0)), (4, .one (.ptr 2 0)), (6, .one (.ptr 6 0)), (7, .one (.own 7))], slots := [(0, .box 40 [.v (.sl T36)]), (2, .box 122 [.own 8]), (6, .box 123 [.own 9]), (7, .arr false 93 T93), (8, .arr false 3 (.int .i64)), (9, .arr false 1000123 (.int .i64))], nb := 10 }
def Zs.l1.outs : List (Ex × Shape) := [(.exit 2, { tmps := [(7, .one (.own 10))], slots := [(0, .box 40 [.v (.sl T36)]), (2, .box 122 [.own 11]), (6, .box 123 [.own 12]), (10, .arr false 93 T93), (11, .arr false 3 (.int .i64)), (12, .arr false 1000123 (.int .i64))], nb := 13 })]
def Zs.l1.F (k j : Nat) (x : Za Zs.l1.ish.tys) : Option (Zy Zs.l1.outs) := Zs.l1 k j x.1 x.2.1 x.2.2.1 x.2.2.2
def Zs.l1.s (k : Nat) : Summ := { n := 76, ish := Zs.l1.ish, outs := Zs.l1.outs, f := Zs.l1.F k k }
theorem Zs.l1.ev (k j : Nat) (x : Za Zs.l1.ish.tys) : V (Zs.C k) .auto (cO (cO (cL (cR (cR (cR (cR (cR (cR (cB Tryz.f43)))))))))) (mk Zs.l1.ish 76 x) (fun e st' => match e with | .nrm => (rd Zs.l1.ish st').bind (Zs.l1.F k j) | e => Z0 e st' Zs.l1.outs) = Zs.l1.F k (j + 1) x := by kernel_rfl
theorem Zs.l1.ok (k : Nat) : Z1 Tryz.prog (Zs.C k) (.loop (cO (cO (cL (cR (cR (cR (cR (cR (cR (cB Tryz.f43))))))))))) (Zs.l1.s k) := Z5 (by kernel_rfl) (sum_loop (p := .auto) (F := Zs.l1.F k) (Zs.cok k) (by kernel_rfl) (Zd (L := []) (by kernel_rfl) trivial) (fun _ => rfl) (fun j x y h => (Zs.l1.ev k j x).trans h) k rfl)
theorem Zs.ev (k : Nat) (x : Za Zs.sig.ins) : Zs.sig.ev (Zs.C k) (.two .auto (.two .auto (.two .auto (.two (.two .auto (.one (.sum (Zs.l0.s k)))) (.two .auto (.two .auto (.two (.one (.sum (Zs.l1.s k))) .auto))))))) Tryz.f43.results.toList (cB Tryz.f43) x = Zs k x := by kernel_rfl
theorem Zs.ok (k : Nat) : Zf Tryz.prog 43 (Zs.con k) := Zk (p := (.two .auto (.two .auto (.two .auto (.two (.two .auto (.one (.sum (Zs.l0.s k)))) (.two .auto (.two .auto (.two (.one (.sum (Zs.l1.s k))) .auto)))))))) (Zs.cok k) Tryz.func43 (by kernel_rfl) (show Tryz.f43.body = some (cB Tryz.f43) by kernel_rfl) (by kernel_rfl) (by kernel_rfl) (Zd (L := [(Zs.l0.s k, cO (cR (cL (cR (cR (cR (cB Tryz.f43))))))), (Zs.l1.s k, cO (cL (cR (cR (cR (cR (cR (cR (cB Tryz.f43)))))))))]) (by kernel_rfl) ⟨Zs.l0.ok k, Zs.l1.ok k, trivial⟩) (fun x y h => (Zs.ev k x).trans h)
def Zof (k : Nat) (a1 : G26) : Option (Bool) :=
 Option.bind (Zog k a1.1) fun v2 =>
 bif v2 && (decide (0 < ((a1.1.2.2.length) : Int))) then
  Option.bind (Zs k a1.1.2.2) fun v3 =>
  Option.bind (Zlb k v3) fun v4 =>
  some (decide (v4 ≤ 4))
 else
 some false
def Zof.sig : Sig := { ps := [.val true T26 (ros T26)], rs := [.val false [.v .bool]], ntmps := 21 }
def Zof.con (k : Nat) : Con := Zof.sig.con (fun x => Zof k x)
def Zof.C (k : Nat) : Ctx := { ti := TAB, con := Zh [(41, Zog.con k), (42, Zlb.con k), (43, Zs.con k)], rob := true }
theorem Zof.cok (k : Nat) : CtxOk Tryz.prog (Zof.C k) := Zj Zi ⟨Zog.ok k, Zlb.ok k, Zs.ok k, trivial⟩
theorem Zof.ev (k : Nat) (x : Za Zof.sig.ins) : Zof.sig.ev (Zof.C k) .auto Tryz.f20.results.toList (cB Tryz.f20) x = Zof k x := by kernel_rfl
theorem Zof.ok (k : Nat) : Zf Tryz.prog 20 (Zof.con k) := Zk (p := .auto) (Zof.cok k) Tryz.func20 (by kernel_rfl) (show Tryz.f20.body = some (cB Tryz.f20) by kernel_rfl) (by kernel_rfl) (by kernel_rfl) (Zd (L := []) (by kernel_rfl) trivial) (fun x y h => (Zof.ev k x).trans h)
def Zqd (a1 : List Str) : Option (Int) :=
 some ((a1.length) : Int)
def Zqd.sig : Sig := { ps := [.val false (.sl .str) (ros (.sl .str))], rs := [.val false [.v (.int .i64)]], ntmps := 5 }
def Zqd.con (k : Nat) : Con := Zqd.sig.con (fun x => Zqd x)
def Zqd.C (k : Nat) : Ctx := { ti := TAB, con := Zh [] }
theorem Zqd.cok (k : Nat) : CtxOk Tryz.prog (Zqd.C k) := Zj Zi trivial
theorem Zqd.ev (k : Nat) (x : Za Zqd.sig.ins) : Zqd.sig.ev (Zqd.C k) .auto Tryz.f81.results.toList (cB Tryz.f81) x = Zqd x := by kernel_rfl
theorem Zqd.ok (k : Nat) : Zf Tryz.prog 81 (Zqd.con k) := Zk (p := .auto) (Zqd.cok k) Tryz.func81 (by kernel_rfl) (show Tryz.f81.body = some (cB Tryz.f81) by kernel_rfl) (by kernel_rfl) (by kernel_rfl) (Zd (L := []) (by kernel_rfl) trivial) (fun x y h => (Zqd.ev k x).trans h)
def Z8g (a1 : Str) : Option (Bool) :=
 some (decide (96 < ((a1.length) : Int)))
def Z8g.sig : Sig := { ps := [.val false .str (ros .str)], rs := [.val false [.v .bool]], ntmps := 6 }
def Z8g.con (k : Nat) : Con := Z8g.sig.con (fun x => Z8g x)
def Z8g.C (k : Nat) : Ctx := { ti := TAB, con := Zh [] }
theorem Z8g.cok (k : Nat) : CtxOk Tryz.prog (Z8g.C k) := Zj Zi trivial
theorem Z8g.ev (k : Nat) (x : Za Z8g.sig.ins) : Z8g.sig.ev (Z8g.C k) .auto Tryz.f110.results.toList (cB Tryz.f110) x = Z8g x := by kernel_rfl
theorem Z8g.ok (k : Nat) : Zf Tryz.prog 110 (Z8g.con k) := Zk (p := .auto) (Z8g.cok k) Tryz.func110 (by kernel_rfl) (show Tryz.f110.body = some (cB Tryz.f110) by kernel_rfl) (by kernel_rfl) (by kernel_rfl) (Zd (L := []) (by kernel_rfl) trivial) (fun x y h => (Z8g.ev k x).trans h)
def Zzb.l0 : Nat → List Str → Int → Int → Option (Unit ⊕ Int)
 | 0, _, _, _ => none
 | j + 1, a1, a2, a3 =>
  bif decide (a3 < a2) then
   Option.bind (at? a1 a3) fun v4 =>
   Option.bind (Z8g v4) fun v5 =>
   bif v5 then
    some (.inr a3)
   else
   Zzb.l0 j a1 a2 (IntKind.wrap .i64 (a3 + 1))
  else
  some (.inl ())
def Zzb (k : Nat) (a1 : List Str) : Option (Int) :=
 Option.bind (Zzb.l0 k a1 ((a1.length) : Int) 0) fun
  | .inl y2 =>
   some (-1)
  | .inr y3 =>
   some y3
def Zzb.sig : Sig := { ps := [.val false (.sl .str) (ros (.sl .str)), .fn 110 []], rs := [.val false [.v (.int .i64)]], ntmps := 19 }
def Zzb.con (k : Nat) : Con := Zzb.sig.con (fun x => Zzb k x)
def Zzb.C (k : Nat) : Ctx := { ti := TAB, con := Zh [(110, Z8g.con k)] }
theorem Zzb.cok (k : Nat) : CtxOk Tryz.prog (Zzb.C k) := Zj Zi ⟨Z8g.ok k, trivial⟩
def Zzb.l0.ish : Shape := { tmps := [(0, .one (.bor .str)), (1, .fn 110 []), (7, .one (.v (.int .i64))), (8, .one (.v (.int .i64)))], slots := [], nb := 0 }
def Zzb.l0.outs : List (Ex × Shape) := [(.exit 0, { tmps := [], slots := [], nb := 0 }), (.ret, { tmps := [(4, .one (.v (.int .i64)))], slots := [], nb := 0 })]
def Zzb.l0.F (k j : Nat) (x : Za Zzb.l0.ish.tys) : Option (Zy Zzb.l0.outs) := Zzb.l0 j x.1 x.2.1 x.2.2
def Zzb.l0.s (k : Nat) : Summ := { n := 19, ish := Zzb.l0.ish, outs := Zzb.l0.outs, f := Zzb.l0.F k k }
theorem Zzb.l0.ev (k j : Nat) (x : Za Zzb.l0.ish.tys) : V (Zzb.C k) .auto (cO (cO (cR (cL (cR (cB Tryz.f118)))))) (mk Zzb.l0.ish 19 x) (fun e st' => match e with | .nrm => (rd Zzb.l0.ish st').bind (Zzb.l0.F k j) | e => Z0 e st' Zzb.l0.outs) = Zzb.l0.F k (j + 1) x := by kernel_rfl
theorem Zzb.l0.ok (k : Nat) : Z1 Tryz.prog (Zzb.C k) (.loop (cO (cO (cR (cL (cR (cB Tryz.f118))))))) (Zzb.l0.s k) := Z5 (by kernel_rfl) (sum_loop (p := .auto) (F := Zzb.l0.F k) (Zzb.cok k) (by kernel_rfl) (Zd (L := []) (by kernel_rfl) trivial) (fun _ => rfl) (fun j x y h => (Zzb.l0.ev k j x).trans h) k rfl)
theorem Zzb.ev (k : Nat) (x : Za Zzb.sig.ins) : Zzb.sig.ev (Zzb.C k) (.two .auto (.two (.two .auto (.one (.sum (Zzb.l0.s k)))) .auto)) Tryz.f118.results.toList (cB Tryz.f118) x = Zzb k x := by kernel_rfl
theorem Zzb.ok (k : Nat) : Zf Tryz.prog 118 (Zzb.con k) := Zk (p := (.two .auto (.two (.two .auto (.one (.sum (Zzb.l0.s k)))) .auto))) (Zzb.cok k) Tryz.func118 (by kernel_rfl) (show Tryz.f118.body = some (cB Tryz.f118) by kernel_rfl) (by kernel_rfl) (by kernel_rfl) (Zd (L := [(Zzb.l0.s k, cO (cR (cL (cR (cB Tryz.f118)))))]) (by kernel_rfl) ⟨Zzb.l0.ok k, trivial⟩) (fun x y h => (Zzb.ev k x).trans h)
def Zng (k : Nat) (a1 : List Str) : Option (Bool) :=
 Option.bind (Zzb k a1) fun v2 =>
 some (decide (0 ≤ v2))
def Zng.sig : Sig := { ps := [.val false (.sl .str) (ros (.sl .str)), .fn 110 []], rs := [.val false [.v .bool]], ntmps := 9 }
def Zng.con (k : Nat) : Con := Zng.sig.con (fun x => Zng k x)
def Zng.C (k : Nat) : Ctx := { ti := TAB, con := Zh [(118, Zzb.con k)] }
theorem Zng.cok (k : Nat) : CtxOk Tryz.prog (Zng.C k) := Zj Zi ⟨Zzb.ok k, trivial⟩
theorem Zng.ev (k : Nat) (x : Za Zng.sig.ins) : Zng.sig.ev (Zng.C k) .auto Tryz.f84.results.toList (cB Tryz.f84) x = Zng k x := by kernel_rfl
theorem Zng.ok (k : Nat) : Zf Tryz.prog 84 (Zng.con k) := Zk (p := .auto) (Zng.cok k) Tryz.func84 (by kernel_rfl) (show Tryz.f84.body = some (cB Tryz.f84) by kernel_rfl) (by kernel_rfl) (by kernel_rfl) (Zd (L := []) (by kernel_rfl) trivial) (fun x y h => (Zng.ev k x).trans h)
def Z9f (a1 : G30) (a2 : Int) : Option (Bool) :=
 Option.bind (Zqd a1.1) fun v3 =>
 Option.bind (Zgb a2 0 (IntKind.wrap .i64 (v3 - 1))) fun v4 =>
 some v4
def Z9f.sig : Sig := { ps := [.val true T30 (ros T30), .val false (.int .i64) (ros (.int .i64))], rs := [.val false [.v .bool]], ntmps := 11 }
def Z9f.con (k : Nat) : Con := Z9f.sig.con (fun x => Z9f x.1 x.2)
def Z9f.C (k : Nat) : Ctx := { ti := TAB, con := Zh [(81, Zqd.con k), (109, Zgb.con k)], rob := true }
theorem Z9f.cok (k : Nat) : CtxOk Tryz.prog (Z9f.C k) := Zj Zi ⟨Zqd.ok k, Zgb.ok k, trivial⟩
theorem Z9f.ev (k : Nat) (x : Za Z9f.sig.ins) : Z9f.sig.ev (Z9f.C k) .auto Tryz.f111.results.toList (cB Tryz.f111) x = Z9f x.1 x.2 := by kernel_rfl
theorem Z9f.ok (k : Nat) : Zf Tryz.prog 111 (Z9f.con k) := Zk (p := .auto) (Z9f.cok k) Tryz.func111 (by kernel_rfl) (show Tryz.f111.body = some (cB Tryz.f111) by kernel_rfl) (by kernel_rfl) (by kernel_rfl) (Zd (L := []) (by kernel_rfl) trivial) (fun x y h => (Z9f.ev k x).trans h)
def Zuh (a1 : Zld) (a2 : Int) : Option (Bool) :=
 some (a1.1 == a2)
def Zuh.sig : Sig := { ps := [.val true Z7c (ros Z7c), .rptr (.int .i64)], rs := [.val false [.v .bool]], ntmps := 8 }
def Zuh.con (k : Nat) : Con := Zuh.sig.con (fun x => Zuh x.1 x.2)
def Zuh.C (k : Nat) : Ctx := { ti := TAB, con := Zh [] }
theorem Zuh.cok (k : Nat) : CtxOk Tryz.prog (Zuh.C k) := Zj Zi trivial
theorem Zuh.ev (k : Nat) (x : Za Zuh.sig.ins) : Zuh.sig.ev (Zuh.C k) .auto Tryz.f142.results.toList (cB Tryz.f142) x = Zuh x.1 x.2 := by kernel_rfl
theorem Zuh.ok (k : Nat) : Zf Tryz.prog 142 (Zuh.con k) := Zk (p := .auto) (Zuh.cok k) Tryz.func142 (by kernel_rfl) (show Tryz.f142.body = some (cB Tryz.f142) by kernel_rfl) (by kernel_rfl) (by kernel_rfl) (Zd (L := []) (by kernel_rfl) trivial) (fun x y h => (Zuh.ev k x).trans h)
def Z1b.l0 : Nat → List Zld → Int → Int → Int → Option (Int ⊕ (Int × Int))
 | 0, _, _, _, _ => none
 | j + 1, a1, a2, a3, a4 =>
  bif decide (a3 < a2) then
   Option.bind (at? a1 a3) fun v5 =>
   Option.bind (Zuh v5 a4) fun v6 =>
   bif v6 then
    some (.inr (a3, a4))
   else
   Z1b.l0 j a1 a2 (IntKind.wrap .i64 (a3 + 1)) a4
  else
  some (.inl a4)
def Z1b (k : Nat) (a1 : List Zld) (a2 : Int) : Option (Int × Int) :=
 Option.bind (Z1b.l0 k a1 ((a1.length) : Int) 0 a2) fun
  | .inl y3 =>
   some ((-1), y3)
  | .inr y4 =>
   some (y4.1, y4.2)
def Z1b.sig : Sig := { ps := [.val false (.sl Z7c) (ros (.sl Z7c)), .fn 142 [(2, (.int .i64), (Z7i (.int .i64)))]], rs := [.val false [.v (.int .i64)]], ntmps := 19 }
def Z1b.con (k : Nat) : Con := Z1b.sig.con (fun x => Z1b k x.1 x.2)
def Z1b.C (k : Nat) : Ctx := { ti := TAB, con := Zh [(142, Zuh.con k)] }
theorem Z1b.cok (k : Nat) : CtxOk Tryz.prog (Z1b.C k) := Zj Zi ⟨Zuh.ok k, trivial⟩
def Z1b.l0.ish : Shape := { tmps := [(0, .one (.bor Z7c)), (1, .fn 142 [.ptr 0 0]), (7, .one (.v (.int .i64))), (8, .one (.v (.int .i64)))], slots := [(0, .box 2 [.v (.int .i64)])], nb := 1 }
def Z1b.l0.outs : List (Ex × Shape) := [(.exit 0, { tmps := [], slots := [(0, .box 2 [.v (.int .i64)])], nb := 1 }), (.ret, { tmps := [(4, .one (.v (.int .i64)))], slots := [(0, .box 2 [.v (.int .i64)])], nb := 1 })]
def Z1b.l0.F (k j : Nat) (x : Za Z1b.l0.ish.tys) : Option (Zy Z1b.l0.outs) := Z1b.l0 j x.1 x.2.1 x.2.2.1 x.2.2.2
def Z1b.l0.s (k : Nat) : Summ := { n := 19, ish := Z1b.l0.ish, outs := Z1b.l0.outs, f := Z1b.l0.F k k }
theorem Z1b.l0.ev (k j : Nat) (x : Za Z1b.l0.ish.tys) : V (Z1b.C k) .auto (cO (cO (cR (cL (cR (cB Tryz.f141)))))) (mk Z1b.l0.ish 19 x) (fun e st' => match e with | .nrm => (rd Z1b.l0.ish st').bind (Z1b.l0.F k j) | e => Z0 e st' Z1b.l0.outs) = Z1b.l0.F k (j + 1) x := by kernel_rfl
theorem Z1b.l0.ok (k : Nat) : Z1 Tryz.prog (Z1b.C k) (.loop (cO (cO (cR (cL (cR (cB Tryz.f141))))))) (Z1b.l0.s k) := Z5 (by kernel_rfl) (sum_loop (p := .auto) (F := Z1b.l0.F k) (Z1b.cok k) (by kernel_rfl) (Zd (L := []) (by kernel_rfl) trivial) (fun _ => rfl) (fun j x y h => (Z1b.l0.ev k j x).trans h) k rfl)
theorem Z1b.ev (k : Nat) (x : Za Z1b.sig.ins) : Z1b.sig.ev (Z1b.C k) (.two .auto (.two (.two .auto (.one (.sum (Z1b.l0.s k)))) .auto)) Tryz.f141.results.toList (cB Tryz.f141) x = Z1b k x.1 x.2 := by kernel_rfl
theorem Z1b.ok (k : Nat) : Zf Tryz.prog 141 (Z1b.con k) := Zk (p := (.two .auto (.two (.two .auto (.one (.sum (Z1b.l0.s k)))) .auto))) (Z1b.cok k) Tryz.func141 (by kernel_rfl) (show Tryz.f141.body = some (cB Tryz.f141) by kernel_rfl) (by kernel_rfl) (by kernel_rfl) (Zd (L := [(Z1b.l0.s k, cO (cR (cL (cR (cB Tryz.f141)))))]) (by kernel_rfl) ⟨Z1b.l0.ok k, trivial⟩) (fun x y h => (Z1b.ev k x).trans h)
def Zse (k : Nat) (a1 : G30) (a2 : Int) : Option (Int) :=
 Option.bind (Z1b k a1.2 a2) fun v3 =>
 some v3.1
def Zse.sig : Sig := { ps := [.val true T30 (ros T30), .val false (.int .i64) (ros (.int .i64))], rs := [.val false [.v (.int .i64)]], ntmps := 9 }
def Zse.con (k : Nat) : Con := Zse.sig.con (fun x => Zse k x.1 x.2)
def Zse.C (k : Nat) : Ctx := { ti := TAB, con := Zh [(141, Z1b.con k)], rob := true }
theorem Zse.cok (k : Nat) : CtxOk Tryz.prog (Zse.C k) := Zj Zi ⟨Z1b.ok k, trivial⟩
theorem Zse.ev (k : Nat) (x : Za Zse.sig.ins) : Zse.sig.ev (Zse.C k) .auto Tryz.f112.results.toList (cB Tryz.f112) x = Zse k x.1 x.2 := by kernel_rfl
theorem Zse.ok (k : Nat) : Zf Tryz.prog 112 (Zse.con k) := Zk (p := .auto) (Zse.cok k) Tryz.func112 (by kernel_rfl) (show Tryz.f112.body = some (cB Tryz.f112) by kernel_rfl) (by kernel_rfl) (by kernel_rfl) (Zd (L := []) (by kernel_rfl) trivial) (fun x y h => (Zse.ev k x).trans h)
def Zic.l0 (k : Nat) : Nat → List Str → List Zld → List Zld → Int → Int → Option (Unit ⊕ Bool)
 | 0, _, _, _, _, _ => none
 | j + 1, a1, a2, a3, a4, a5 =>
  bif decide (a5 < a4) then
   Option.bind (at? a3 a5) fun v6 =>
   Option.bind (Z9f (a1, a2) v6.1) fun v7 =>
   bif (!v7) || (decide (96 < ((v6.2.length) : Int))) then
    some (.inr false)
   else
   Option.bind (Zse k (a1, a2) v6.1) fun v8 =>
   bif decide (v8 < a5) then
    some (.inr false)
   else
   Zic.l0 k j a1 a2 a3 a4 (IntKind.wrap .i64 (a5 + 1))
  else
  some (.inl ())
def Zic (k : Nat) (a1 : G30) : Option (Bool) :=
 Option.bind (Zqd a1.1) fun v2 =>
 Option.bind (Zgb v2 1 40) fun v3 =>
 let e4 := ((a1.2.length) : Int)
 bif (!v3) || (decide (((a1.1.length) : Int) < e4)) then
  some false
 else
 Option.bind (Zng k a1.1) fun v5 =>
 bif v5 then
  some false
 else
 Option.bind (Zic.l0 k k a1.1 a1.2 a1.2 e4 0) fun
  | .inl y6 =>
   some true
  | .inr y7 =>
   some y7
def Zic.sig : Sig := { ps := [.val true T30 (ros T30)], rs := [.val false [.v .bool]], ntmps := 52 }
def Zic.con (k : Nat) : Con := Zic.sig.con (fun x => Zic k x)
def Zic.C (k : Nat) : Ctx := { ti := TAB, con := Zh [(81, Zqd.con k), (84, Zng.con k), (109, Zgb.con k), (111, Z9f.con k), (112, Zse.con k)], rob := true }
theorem Zic.cok (k : Nat) : CtxOk Tryz.prog (Zic.C k) := Zj Zi ⟨Zqd.ok k, Zng.ok k, Zgb.ok k, Z9f.ok k, Zse.ok k, trivial⟩
def Zic.l0.ish : Shape := { tmps := [(1, .eptr [.bor .str, .bor Z7c]), (25, .one (.bor Z7c)), (26, .one (.v (.int .i64))), (27, .one (.v (.int .i64)))], slots := [], nb := 0 }
def Zic.l0.outs : List (Ex × Shape) := [(.exit 0, { tmps := [], slots := [], nb := 0 }), (.ret, { tmps := [(2, .one (.v .bool))], slots := [], nb := 0 })]
def Zic.l0.F (k j : Nat) (x : Za Zic.l0.ish.tys) : Option (Zy Zic.l0.outs) := Zic.l0 k j x.1 x.2.1 x.2.2.1 x.2.2.2.1 x.2.2.2.2
def Zic.l0.s (k : Nat) : Summ := { n := 52, ish := Zic.l0.ish, outs := Zic.l0.outs, f := Zic.l0.F k k }
theorem Zic.l0.ev (k j : Nat) (x : Za Zic.l0.ish.tys) : V (Zic.C k) .auto (cO (cO (cR (cL (cR (cR (cB Tryz.f80))))))) (mk Zic.l0.ish 52 x) (fun e st' => match e with | .nrm => (rd Zic.l0.ish st').bind (Zic.l0.F k j) | e => Z0 e st' Zic.l0.outs) = Zic.l0.F k (j + 1) x := by kernel_rfl
theorem Zic.l0.ok (k : Nat) : Z1 Tryz.prog (Zic.C k) (.loop (cO (cO (cR (cL (cR (cR (cB Tryz.f80)))))))) (Zic.l0.s k) := Z5 (by kernel_rfl) (sum_loop (p := .auto) (F := Zic.l0.F k) (Zic.cok k) (by kernel_rfl) (Zd (L := []) (by kernel_rfl) trivial) (fun _ => rfl) (fun j x y h => (Zic.l0.ev k j x).trans h) k rfl)
theorem Zic.ev (k : Nat) (x : Za Zic.sig.ins) : Zic.sig.ev (Zic.C k) (.two .auto (.two .auto (.two (.two .auto (.one (.sum (Zic.l0.s k)))) .auto))) Tryz.f80.results.toList (cB Tryz.f80) x = Zic k x := by kernel_rfl
theorem Zic.ok (k : Nat) : Zf Tryz.prog 80 (Zic.con k) := Zk (p := (.two .auto (.two .auto (.two (.two .auto (.one (.sum (Zic.l0.s k)))) .auto)))) (Zic.cok k) Tryz.func80 (by kernel_rfl) (show Tryz.f80.body = some (cB Tryz.f80) by kernel_rfl) (by kernel_rfl) (by kernel_rfl) (Zd (L := [(Zic.l0.s k, cO (cR (cL (cR (cR (cB Tryz.f80))))))]) (by kernel_rfl) ⟨Zic.l0.ok k, trivial⟩) (fun x y h => (Zic.ev k x).trans h)
def Zvd (k : Nat) (a1 : G30) (a2 : Int) : Option (Str) :=
 Option.bind (Zse k a1 a2) fun v3 =>
 bif decide (0 ≤ v3) then
  Option.bind (at? a1.2 v3) fun v4 =>
  some v4.2
 else
 Option.bind (at? a1.1 a2) fun v5 =>
 some v5
def Zvd.sig : Sig := { ps := [.val true T30 (ros T30), .val false (.int .i64) (ros (.int .i64))], rs := [.val false [.v .str]], ntmps := 22 }
def Zvd.con (k : Nat) : Con := Zvd.sig.con (fun x => Zvd k x.1 x.2)
def Zvd.C (k : Nat) : Ctx := { ti := TAB, con := Zh [(112, Zse.con k)], rob := true }
theorem Zvd.cok (k : Nat) : CtxOk Tryz.prog (Zvd.C k) := Zj Zi ⟨Zse.ok k, trivial⟩
theorem Zvd.ev (k : Nat) (x : Za Zvd.sig.ins) : Zvd.sig.ev (Zvd.C k) .auto Tryz.f86.results.toList (cB Tryz.f86) x = Zvd k x.1 x.2 := by kernel_rfl
theorem Zvd.ok (k : Nat) : Zf Tryz.prog 86 (Zvd.con k) := Zk (p := .auto) (Zvd.cok k) Tryz.func86 (by kernel_rfl) (show Tryz.f86.body = some (cB Tryz.f86) by kernel_rfl) (by kernel_rfl) (by kernel_rfl) (Zd (L := []) (by kernel_rfl) trivial) (fun x y h => (Zvd.ev k x).trans h)
def Zfc.l0 : Nat → Str → Int → Int → Int → Option ((Int × Int × Int))
 | 0, _, _, _, _ => none
 | j + 1, a1, a2, a3, a4 =>
  bif decide ((IntKind.wrap .i64 (((a1.length) : Int) - a4)) ≤ a2) then
   some (0, 0, 4)
  else
  let e5 := IntKind.wrap .i64 (a2 + a4)
  Option.bind (at? a1 e5) fun v6 =>
  bif (a4 == 9) && (decide (1 < (v6.toNat : Int))) then
   some (0, 0, 3)
  else
  let e7 := IntKind.wrap .i64 (7 * a4)
  Option.bind (Z6c e7) fun v8 =>
  let e9 := intBits .or .u64 a3 (shl .u64 (IntKind.wrap .u64 (intBits .and .u8 (v6.toNat : Int) 127)) e7)
  bif decide (127 < (v6.toNat : Int)) then
   Zfc.l0 j a1 a2 e9 (IntKind.wrap .i64 (a4 + 1))
  else
  bif ((v6.toNat : Int) == 0) && (decide (0 < a4)) then
   some (0, 0, 3)
  else
  Option.bind (Z6c 1) fun v10 =>
  let e11 := IntKind.wrap .i64 (e5 + 1)
  let e12 := IntKind.wrap .i64 (shr .u64 e9 1)
  bif (intBits .and .u64 e9 1) == 1 then
   some (intBits .xor .i64 (-1) e12, e11, 0)
  else
  some (e12, e11, 0)
def Zfc (k : Nat) (a1 : Str) (a2 : Int) : Option (Int × Int × Int) :=
 bif decide (a2 < 0) then
  some (0, 0, 1)
 else
 Option.bind (Zfc.l0 k a1 a2 0 0) fun y3 =>
 some (y3.1, y3.2.1, y3.2.2)
def Zfc.sig : Sig := { ps := [.val false .str (ros .str), .val false (.int .i64) (ros (.int .i64))], rs := [.val false [.v (.int .i64)], .val false [.v (.int .i64)], .val false [.v (.int .i64)]], ntmps := 61 }
def Zfc.con (k : Nat) : Con := Zfc.sig.con (fun x => Zfc k x.1 x.2)
def Zfc.C (k : Nat) : Ctx := { ti := TAB, con := Zh [] }
theorem Zfc.cok (k : Nat) : CtxOk Tryz.prog (Zfc.C k) := Zj Zi trivial
def Zfc.l0.ish : Shape := { tmps := [(0, .one (.v .str)), (1, .one (.v (.int .i64))), (7, .one (.v (.int .u64))), (8, .one (.v (.int .i64)))], slots := [], nb := 0 }
def Zfc.l0.outs : List (Ex × Shape) := [(.ret, { tmps := [(4, .one (.v (.int .i64))), (5, .one (.v (.int .i64))), (6, .one (.v (.int .i64)))], slots := [], nb := 0 })]
def Zfc.l0.F (k j : Nat) (x : Za Zfc.l0.ish.tys) : Option (Zy Zfc.l0.outs) := Zfc.l0 j x.1 x.2.1 x.2.2.1 x.2.2.2
def Zfc.l0.s (k : Nat) : Summ := { n := 61, ish := Zfc.l0.ish, outs := Zfc.l0.outs, f := Zfc.l0.F k k }
theorem Zfc.l0.ev (k j : Nat) (x : Za Zfc.l0.ish.tys) : V (Zfc.C k) .auto (cO (cO (cR (cR (cR (cR (cB Tryz.f144))))))) (mk Zfc.l0.ish 61 x) (fun e st' => match e with | .nrm => (rd Zfc.l0.ish st').bind (Zfc.l0.F k j) | e => Z0 e st' Zfc.l0.outs) = Zfc.l0.F k (j + 1) x := by kernel_rfl
theorem Zfc.l0.ok (k : Nat) : Z1 Tryz.prog (Zfc.C k) (.loop (cO (cO (cR (cR (cR (cR (cB Tryz.f144)))))))) (Zfc.l0.s k) := Z5 (by kernel_rfl) (sum_loop (p := .auto) (F := Zfc.l0.F k) (Zfc.cok k) (by kernel_rfl) (Zd (L := []) (by kernel_rfl) trivial) (fun _ => rfl) (fun j x y h => (Zfc.l0.ev k j x).trans h) k rfl)
theorem Zfc.ev (k : Nat) (x : Za Zfc.sig.ins) : Zfc.sig.ev (Zfc.C k) (.two .auto (.two .auto (.two .auto (.two .auto (.one (.sum (Zfc.l0.s k))))))) Tryz.f144.results.toList (cB Tryz.f144) x = Zfc k x.1 x.2 := by kernel_rfl
theorem Zfc.ok (k : Nat) : Zf Tryz.prog 144 (Zfc.con k) := Zk (p := (.two .auto (.two .auto (.two .auto (.two .auto (.one (.sum (Zfc.l0.s k)))))))) (Zfc.cok k) Tryz.func144 (by kernel_rfl) (show Tryz.f144.body = some (cB Tryz.f144) by kernel_rfl) (by kernel_rfl) (by kernel_rfl) (Zd (L := [(Zfc.l0.s k, cO (cR (cR (cR (cR (cB Tryz.f144))))))]) (by kernel_rfl) ⟨Zfc.l0.ok k, trivial⟩) (fun x y h => (Zfc.ev k x).trans h)
def Z0c (k : Nat) (a1 : Zer) : Option (Int × Str × Int × Bool) :=
 Option.bind (Zfc k a1.1 a1.2.1) fun v2 =>
 bif v2.2.2 != 0 then
  some (0, a1.1, a1.2.1, true)
 else
 some (v2.1, a1.1, v2.2.1, a1.2.2)
def Z0c.sig : Sig := { ps := [.ref 154 Zak (Z7i Zak)], rs := [.val false [.v (.int .i64)]], ntmps := 29 }
def Z0c.con (k : Nat) : Con := Z0c.sig.con (fun x => Z0c k x)
def Z0c.C (k : Nat) : Ctx := { ti := TAB, con := Zh [(144, Zfc.con k)] }
theorem Z0c.cok (k : Nat) : CtxOk Tryz.prog (Z0c.C k) := Zj Zi ⟨Zfc.ok k, trivial⟩
theorem Z0c.ev (k : Nat) (x : Za Z0c.sig.ins) : Z0c.sig.ev (Z0c.C k) .auto Tryz.f114.results.toList (cB Tryz.f114) x = Z0c k x := by kernel_rfl
theorem Z0c.ok (k : Nat) : Zf Tryz.prog 114 (Z0c.con k) := Zk (p := .auto) (Z0c.cok k) Tryz.func114 (by kernel_rfl) (show Tryz.f114.body = some (cB Tryz.f114) by kernel_rfl) (by kernel_rfl) (by kernel_rfl) (Zd (L := []) (by kernel_rfl) trivial) (fun x y h => (Z0c.ev k x).trans h)
def Z6f (k : Nat) (a1 : Str) (a2 : Int) : Option (Str × Int × Int) :=
 Option.bind (Zfc k a1 a2) fun v3 =>
 bif v3.2.2 != 0 then
  some ([], 0, v3.2.2)
 else
 Option.bind (Zgb v3.1 0 8000) fun v4 =>
 bif !v4 then
  some ([], 0, 3)
 else
 bif decide ((IntKind.wrap .i64 (((a1.length) : Int) - v3.2.1)) < v3.1) then
  some ([], 0, 4)
 else
 let e5 := IntKind.wrap .i64 (v3.2.1 + v3.1)
 Option.bind (Zkd a1 v3.2.1 e5) fun v6 =>
 some (v6, e5, 0)
def Z6f.sig : Sig := { ps := [.val false .str (ros .str), .val false (.int .i64) (ros (.int .i64))], rs := [.val false [.v .str], .val false [.v (.int .i64)], .val false [.v (.int .i64)]], ntmps := 41 }
def Z6f.con (k : Nat) : Con := Z6f.sig.con (fun x => Z6f k x.1 x.2)
def Z6f.C (k : Nat) : Ctx := { ti := TAB, con := Zh [(109, Zgb.con k), (144, Zfc.con k)] }
theorem Z6f.cok (k : Nat) : CtxOk Tryz.prog (Z6f.C k) := Zj Zi ⟨Zgb.ok k, Zfc.ok k, trivial⟩
theorem Z6f.ev (k : Nat) (x : Za Z6f.sig.ins) : Z6f.sig.ev (Z6f.C k) .auto Tryz.f145.results.toList (cB Tryz.f145) x = Z6f k x.1 x.2 := by kernel_rfl
theorem Z6f.ok (k : Nat) : Zf Tryz.prog 145 (Z6f.con k) := Zk (p := .auto) (Z6f.cok k) Tryz.func145 (by kernel_rfl) (show Tryz.f145.body = some (cB Tryz.f145) by kernel_rfl) (by kernel_rfl) (by kernel_rfl) (Zd (L := []) (by kernel_rfl) trivial) (fun x y h => (Z6f.ev k x).trans h)
def Zpd (k : Nat) (a1 : Zer) : Option (Str × Str × Int × Bool) :=
 Option.bind (Z6f k a1.1 a1.2.1) fun v2 =>
 bif v2.2.2 != 0 then
  some ([], a1.1, a1.2.1, true)
 else
 some (v2.1, a1.1, v2.2.1, a1.2.2)
def Zpd.sig : Sig := { ps := [.ref 154 Zak (Z7i Zak)], rs := [.val false [.v .str]], ntmps := 29 }
def Zpd.con (k : Nat) : Con := Zpd.sig.con (fun x => Zpd k x)
def Zpd.C (k : Nat) : Ctx := { ti := TAB, con := Zh [(145, Z6f.con k)] }
theorem Zpd.cok (k : Nat) : CtxOk Tryz.prog (Zpd.C k) := Zj Zi ⟨Z6f.ok k, trivial⟩
theorem Zpd.ev (k : Nat) (x : Za Zpd.sig.ins) : Zpd.sig.ev (Zpd.C k) .auto Tryz.f115.results.toList (cB Tryz.f115) x = Zpd k x := by kernel_rfl
theorem Zpd.ok (k : Nat) : Zf Tryz.prog 115 (Zpd.con k) := Zk (p := .auto) (Zpd.cok k) Tryz.func115 (by kernel_rfl) (show Tryz.f115.body = some (cB Tryz.f115) by kernel_rfl) (by kernel_rfl) (by kernel_rfl) (Zd (L := []) (by kernel_rfl) trivial) (fun x y h => (Zpd.ev k x).trans h)
def Zx.l0 : Nat → Str → Int → Int → Int → Option (Int)
 | 0, _, _, _, _ => none
 | j + 1, a1, a2, a3, a4 =>
  bif decide (a4 < 8) then
   Option.bind (at? a1 a3) fun v5 =>
   Option.bind (Z6c a4) fun v6 =>
   Option.bind (Z6c 1) fun v7 =>
   let e8 := IntKind.wrap .i64 (a4 + 1)
   bif (intBits .and .u32 (intBits .xor .u32 a2 (shr .u32 (IntKind.wrap .u32 (v5.toNat : Int)) a4)) 1) == 1 then
    Zx.l0 j a1 (intBits .xor .u32 (shr .u32 a2 1) 3988292384) a3 e8
   else
   Zx.l0 j a1 (shr .u32 a2 1) a3 e8
  else
  some a2
def Zx.l1 (k : Nat) : Nat → Str → Int → Int → Int → Option (Int)
 | 0, _, _, _, _ => none
 | j + 1, a1, a2, a3, a4 =>
  bif decide (a4 < a3) then
   Option.bind (Zx.l0 k a1 a2 a4 0) fun y5 =>
   Zx.l1 k j a1 y5 a3 (IntKind.wrap .i64 (a4 + 1))
  else
  some a2
def Zx (k : Nat) (a1 : Int) (a2 : Str) : Option (Int) :=
 Option.bind (Zx.l1 k k a2 (intBits .xor .u32 (IntKind.max .u32) a1) ((a2.length) : Int) 0) fun y3 =>
 some (intBits .xor .u32 (IntKind.max .u32) y3)
def Zx.sig : Sig := { ps := [.val false (.int .u32) (ros (.int .u32)), .val false .str (ros .str)], rs := [.val false [.v (.int .u32)]], ntmps := 38 }
def Zx.con (k : Nat) : Con := Zx.sig.con (fun x => Zx k x.1 x.2)
def Zx.C (k : Nat) : Ctx := { ti := TAB, con := Zh [] }
theorem Zx.cok (k : Nat) : CtxOk Tryz.prog (Zx.C k) := Zj Zi trivial
def Zx.l0.ish : Shape := { tmps := [(1, .one (.v .str)), (5, .one (.v (.int .u32))), (6, .one (.v (.int .i64))), (16, .one (.v (.int .i64)))], slots := [], nb := 0 }
def Zx.l0.outs : List (Ex × Shape) := [(.exit 2, { tmps := [(5, .one (.v (.int .u32)))], slots := [], nb := 0 })]
def Zx.l0.F (k j : Nat) (x : Za Zx.l0.ish.tys) : Option (Zy Zx.l0.outs) := Zx.l0 j x.1 x.2.1 x.2.2.1 x.2.2.2
def Zx.l0.s (k : Nat) : Summ := { n := 38, ish := Zx.l0.ish, outs := Zx.l0.outs, f := Zx.l0.F k k }
theorem Zx.l0.ev (k j : Nat) (x : Za Zx.l0.ish.tys) : V (Zx.C k) .auto (cO (cO (cR (cR (cO (cL (cR (cR (cO (cO (cR (cL (cR (cR (cB Tryz.f181))))))))))))))) (mk Zx.l0.ish 38 x) (fun e st' => match e with | .nrm => (rd Zx.l0.ish st').bind (Zx.l0.F k j) | e => Z0 e st' Zx.l0.outs) = Zx.l0.F k (j + 1) x := by kernel_rfl
theorem Zx.l0.ok (k : Nat) : Z1 Tryz.prog (Zx.C k) (.loop (cO (cO (cR (cR (cO (cL (cR (cR (cO (cO (cR (cL (cR (cR (cB Tryz.f181)))))))))))))))) (Zx.l0.s k) := Z5 (by kernel_rfl) (sum_loop (p := .auto) (F := Zx.l0.F k) (Zx.cok k) (by kernel_rfl) (Zd (L := []) (by kernel_rfl) trivial) (fun _ => rfl) (fun j x y h => (Zx.l0.ev k j x).trans h) k rfl)
def Zx.l1.ish : Shape := { tmps := [(1, .one (.v .str)), (5, .one (.v (.int .u32))), (12, .one (.v (.int .i64))), (13, .one (.v (.int .i64)))], slots := [], nb := 0 }
def Zx.l1.outs : List (Ex × Shape) := [(.exit 0, { tmps := [(5, .one (.v (.int .u32)))], slots := [], nb := 0 })]
def Zx.l1.F (k j : Nat) (x : Za Zx.l1.ish.tys) : Option (Zy Zx.l1.outs) := Zx.l1 k j x.1 x.2.1 x.2.2.1 x.2.2.2
def Zx.l1.s (k : Nat) : Summ := { n := 38, ish := Zx.l1.ish, outs := Zx.l1.outs, f := Zx.l1.F k k }
theorem Zx.l1.ev (k j : Nat) (x : Za Zx.l1.ish.tys) : V (Zx.C k) (.two .auto (.two .auto (.two (.one (.two .auto (.two .auto (.one (.sum (Zx.l0.s k)))))) .auto))) (cO (cO (cR (cL (cR (cR (cB Tryz.f181))))))) (mk Zx.l1.ish 38 x) (fun e st' => match e with | .nrm => (rd Zx.l1.ish st').bind (Zx.l1.F k j) | e => Z0 e st' Zx.l1.outs) = Zx.l1.F k (j + 1) x := by kernel_rfl
theorem Zx.l1.ok (k : Nat) : Z1 Tryz.prog (Zx.C k) (.loop (cO (cO (cR (cL (cR (cR (cB Tryz.f181)))))))) (Zx.l1.s k) := Z5 (by kernel_rfl) (sum_loop (p := (.two .auto (.two .auto (.two (.one (.two .auto (.two .auto (.one (.sum (Zx.l0.s k)))))) .auto)))) (F := Zx.l1.F k) (Zx.cok k) (by kernel_rfl) (Zd (L := [(Zx.l0.s k, cO (cR (cR (cO (cL (cR (cR (cO (cO (cR (cL (cR (cR (cB Tryz.f181))))))))))))))]) (by kernel_rfl) ⟨Zx.l0.ok k, trivial⟩) (fun _ => rfl) (fun j x y h => (Zx.l1.ev k j x).trans h) k rfl)
theorem Zx.ev (k : Nat) (x : Za Zx.sig.ins) : Zx.sig.ev (Zx.C k) (.two .auto (.two .auto (.two (.two .auto (.one (.sum (Zx.l1.s k)))) .auto))) Tryz.f181.results.toList (cB Tryz.f181) x = Zx k x.1 x.2 := by kernel_rfl
theorem Zx.ok (k : Nat) : Zf Tryz.prog 181 (Zx.con k) := Zk (p := (.two .auto (.two .auto (.two (.two .auto (.one (.sum (Zx.l1.s k)))) .auto)))) (Zx.cok k) Tryz.func181 (by kernel_rfl) (show Tryz.f181.body = some (cB Tryz.f181) by kernel_rfl) (by kernel_rfl) (by kernel_rfl) (Zd (L := [(Zx.l1.s k, cO (cR (cL (cR (cR (cB Tryz.f181))))))]) (by kernel_rfl) ⟨Zx.l1.ok k, trivial⟩) (fun x y h => (Zx.ev k x).trans h)
end Go.Proofs.YtfbancgdmghnkaaGreatDoorE
