/- What the law FnTrust needs, part 6 of 7: the Lean functions of the Go functions that it reaches, with the proofs that the calls come to what they say, and plain facts about them. Conditions: those that each theorem states. Written by a session and by its programs (after the kit's printer). -/
import Derived.Test.YtnmbinfgcgjfbaaXFnTrust4
namespace Go.Proofs.YtnmbinfgcgjfbaaE
open Go Go.RowKit
set_option linter.unusedVariables false
def spec_l01Source.l0 : Nat → List Int → Int → List Int → Int → Int → Int → Option ((List Int × Int × Int × Int))
  | 0, _, _, _, _, _, _ => none
  | j + 1, a1, a2, a3, a4, a5, a6 =>
    bif (decide (a2 < ((a1.length) : Int))) && (decide (a2 < 64)) then
      Option.bind (at? a1 a2) fun v7 =>
      spec_l01Source.l0 j a1 (IntKind.wrap .i64 (a2 + 1)) a3 a4 (IntKind.wrap .u64 ((intBits .xor .u64 a5 (IntKind.wrap .u64 v7)) * 1099511628211)) a6
    else
    some (a3, a4, a5, a6)
def spec_l01Source (k : Nat) (a1 : List Int) : Option (List Int × Int × Int × Int) :=
  Option.bind (spec_l01Source.l0 k a1 0 a1 0 88172645463325252 0) fun y2 =>
  Option.bind (nz? 20) fun v3 =>
  let e4 := IntKind.wrap .i64 (Int.tdiv ((a1.length) : Int) 20)
  bif decide (12 < e4) then
    some (y2.1, y2.2.1, y2.2.2.1, 12)
  else
  some (y2.1, y2.2.1, y2.2.2.1, e4)
def spec_l01Source.sig : Sig := { ps := [.val false (.sl (.int .u8)) (kept (.sl (.int .u8)))], rs := [.box 136 [.v (.sl (.int .u8)), .v (.int .i64), .v (.int .u64), .v (.int .i64)]], ntmps := 47 }
def spec_l01Source.con (k : Nat) : Con := spec_l01Source.sig.con (fun x => spec_l01Source k x)
def spec_l01Source.C (k : Nat) : Ctx := { ti := TAB, con := conL [] }
theorem spec_l01Source.cok (k : Nat) : CtxOk Try.prog (spec_l01Source.C k) := ctx_ok TABok trivial
def spec_l01Source.l0.ish : Shape := { tmps := [(0, .one (.v (.sl (.int .u8)))), (3, .one (.ptr 0 0)), (4, .one (.v (.int .i64)))], slots := [(0, .box 136 [.v (.sl (.int .u8)), .v (.int .i64), .v (.int .u64), .v (.int .i64)])], nb := 1 }
def spec_l01Source.l0.outs : List (Ex × Shape) := [(.exit 0, { tmps := [], slots := [(0, .box 136 [.v (.sl (.int .u8)), .v (.int .i64), .v (.int .u64), .v (.int .i64)])], nb := 1 })]
def spec_l01Source.l0.F (k j : Nat) (x : Prod' spec_l01Source.l0.ish.tys) : Option (Outs spec_l01Source.l0.outs) := spec_l01Source.l0 j x.1 x.2.1 x.2.2.1 x.2.2.2.1 x.2.2.2.2.1 x.2.2.2.2.2
def spec_l01Source.l0.s (k : Nat) : Summ := { n := 47, ish := spec_l01Source.l0.ish, outs := spec_l01Source.l0.outs, f := spec_l01Source.l0.F k k }
theorem spec_l01Source.l0.ev (k j : Nat) (x : Prod' spec_l01Source.l0.ish.tys) : V (spec_l01Source.C k) .auto (cO (cO (cR (cL (cR (cR (cB Try.f51))))))) (mk spec_l01Source.l0.ish 47 x) (fun e st' => match e with | .nrm => (rd spec_l01Source.l0.ish st').bind (spec_l01Source.l0.F k j) | e => rdOut e st' spec_l01Source.l0.outs) = spec_l01Source.l0.F k (j + 1) x := by kernel_rfl
theorem spec_l01Source.l0.ok (k : Nat) : SumOk Try.prog (spec_l01Source.C k) (.loop (cO (cO (cR (cL (cR (cR (cB Try.f51)))))))) (spec_l01Source.l0.s k) := sum_ok (by kernel_rfl) (sum_loop (p := .auto) (F := spec_l01Source.l0.F k) (spec_l01Source.cok k) (by kernel_rfl) (plan_of (L := []) (by kernel_rfl) trivial) (fun _ => rfl) (fun j x y h => (spec_l01Source.l0.ev k j x).trans h) k rfl)
theorem spec_l01Source.ev (k : Nat) (x : Prod' spec_l01Source.sig.ins) : spec_l01Source.sig.ev (spec_l01Source.C k) (.two .auto (.two .auto (.two (.two .auto (.one (.sum (spec_l01Source.l0.s k)))) .auto))) Try.f51.results.toList (cB Try.f51) x = spec_l01Source k x := by kernel_rfl
theorem spec_l01Source.ok (k : Nat) : ConOk Try.prog 51 (spec_l01Source.con k) := sig_ok (p := (.two .auto (.two .auto (.two (.two .auto (.one (.sum (spec_l01Source.l0.s k)))) .auto)))) (spec_l01Source.cok k) Try.func51 (by kernel_rfl) (show Try.f51.body = some (cB Try.f51) by kernel_rfl) (by kernel_rfl) (by kernel_rfl) (plan_of (L := [(spec_l01Source.l0.s k, cO (cR (cL (cR (cR (cB Try.f51))))))]) (by kernel_rfl) ⟨spec_l01Source.l0.ok k, trivial⟩) (fun x y h => (spec_l01Source.ev k x).trans h)
def spec_l01Src_n.j0 (a1 : Int) (a2 : List Int) (a3 : Int) (a4 : Int) (a5 : Int) : Option ((Int × List Int × Int × Int × Int)) :=
  bif decide (a3 < ((a2.length) : Int)) then
    Option.bind (at? a2 a3) fun v6 =>
    some (IntKind.wrap .u64 v6, a2, IntKind.wrap .i64 (a3 + 1), a4, a5)
  else
  some (a1, a2, a3, a4, a5)
def spec_l01Src_n (a1 : G136) (a2 : Int) : Option (Int × List Int × Int × Int × Int) :=
  bif decide (a2 ≤ 1) then
    some (0, a1.1, a1.2.1, a1.2.2.1, a1.2.2.2)
  else
  Option.bind (spec_l01Src_n.j0 0 a1.1 a1.2.1 a1.2.2.1 a1.2.2.2) fun y3 =>
  Option.bind (nneg? 13) fun v4 =>
  Option.bind (nneg? 7) fun v5 =>
  Option.bind (nneg? 17) fun v6 =>
  Option.bind (nneg? 20) fun v7 =>
  Option.bind (nz? (IntKind.wrap .u64 a2)) fun v8 =>
  let e9 := intBits .xor .u64 y3.2.2.2.1 (shl .u64 y3.2.2.2.1 13)
  let e10 := intBits .xor .u64 e9 (shr .u64 e9 7)
  let e11 := intBits .xor .u64 e10 (shl .u64 e10 17)
  some (IntKind.wrap .i64 (Int.tmod (IntKind.wrap .u64 (y3.1 + (shr .u64 e11 20))) (IntKind.wrap .u64 a2)), y3.2.1, y3.2.2.1, e11, y3.2.2.2.2)
def spec_l01Src_n.sig : Sig := { ps := [.ref 136 T136 (kept T136), .val false (.int .i64) (ros (.int .i64))], rs := [.val false [.v (.int .i64)]], ntmps := 87 }
def spec_l01Src_n.con (k : Nat) : Con := spec_l01Src_n.sig.con (fun x => spec_l01Src_n x.1 x.2)
def spec_l01Src_n.C (k : Nat) : Ctx := { ti := TAB, con := conL [] }
theorem spec_l01Src_n.cok (k : Nat) : CtxOk Try.prog (spec_l01Src_n.C k) := ctx_ok TABok trivial
def spec_l01Src_n.j0.ish : Shape := { tmps := [(0, .one (.ptr 0 0)), (5, .one (.v (.int .u64)))], slots := [(0, .box 136 [.v (.sl (.int .u8)), .v (.int .i64), .v (.int .u64), .v (.int .i64)])], nb := 1 }
def spec_l01Src_n.j0.outs : List (Ex × Shape) := [(.nrm, { tmps := [(5, .one (.v (.int .u64)))], slots := [(0, .box 136 [.v (.sl (.int .u8)), .v (.int .i64), .v (.int .u64), .v (.int .i64)])], nb := 1 })]
def spec_l01Src_n.j0.F (k : Nat) (x : Prod' spec_l01Src_n.j0.ish.tys) : Option (Outs spec_l01Src_n.j0.outs) := spec_l01Src_n.j0 x.1 x.2.1 x.2.2.1 x.2.2.2.1 x.2.2.2.2
def spec_l01Src_n.j0.s (k : Nat) : Summ := { n := 87, ish := spec_l01Src_n.j0.ish, outs := spec_l01Src_n.j0.outs, f := spec_l01Src_n.j0.F k }
theorem spec_l01Src_n.j0.ev (k : Nat) (x : Prod' spec_l01Src_n.j0.ish.tys) : V (spec_l01Src_n.C k) .auto (cL (cR (cR (cR (cB Try.f56))))) (mk spec_l01Src_n.j0.ish 87 x) (fun e st' => rdOut e st' spec_l01Src_n.j0.outs) = spec_l01Src_n.j0.F k x := by kernel_rfl
theorem spec_l01Src_n.j0.ok (k : Nat) : SumOk Try.prog (spec_l01Src_n.C k) (cL (cR (cR (cR (cB Try.f56))))) (spec_l01Src_n.j0.s k) := sum_ok (by kernel_rfl) (sum_code (p := .auto) (spec_l01Src_n.cok k) (by kernel_rfl) (plan_of (L := []) (by kernel_rfl) trivial) (fun x y h => (spec_l01Src_n.j0.ev k x).trans h))
theorem spec_l01Src_n.ev (k : Nat) (x : Prod' spec_l01Src_n.sig.ins) : spec_l01Src_n.sig.ev (spec_l01Src_n.C k) (.two .auto (.two .auto (.two .auto (.two (.sum (spec_l01Src_n.j0.s k)) .auto)))) Try.f56.results.toList (cB Try.f56) x = spec_l01Src_n x.1 x.2 := by kernel_rfl
theorem spec_l01Src_n.ok (k : Nat) : ConOk Try.prog 56 (spec_l01Src_n.con k) := sig_ok (p := (.two .auto (.two .auto (.two .auto (.two (.sum (spec_l01Src_n.j0.s k)) .auto))))) (spec_l01Src_n.cok k) Try.func56 (by kernel_rfl) (show Try.f56.body = some (cB Try.f56) by kernel_rfl) (by kernel_rfl) (by kernel_rfl) (plan_of (L := [(spec_l01Src_n.j0.s k, cL (cR (cR (cR (cB Try.f56)))))]) (by kernel_rfl) ⟨spec_l01Src_n.j0.ok k, trivial⟩) (fun x y h => (spec_l01Src_n.ev k x).trans h)
def spec_l01Src_one (a1 : G136) (a2 : Int) : Option (Bool × List Int × Int × Int × Int) :=
  Option.bind (spec_l01Src_n a1 a2) fun v3 =>
  some (v3.1 == 0, v3.2.1, v3.2.2.1, v3.2.2.2.1, v3.2.2.2.2)
def spec_l01Src_one.sig : Sig := { ps := [.ref 136 T136 (kept T136), .val false (.int .i64) (ros (.int .i64))], rs := [.val false [.v .bool]], ntmps := 9 }
def spec_l01Src_one.con (k : Nat) : Con := spec_l01Src_one.sig.con (fun x => spec_l01Src_one x.1 x.2)
def spec_l01Src_one.C (k : Nat) : Ctx := { ti := TAB, con := conL [(56, spec_l01Src_n.con k)] }
theorem spec_l01Src_one.cok (k : Nat) : CtxOk Try.prog (spec_l01Src_one.C k) := ctx_ok TABok ⟨spec_l01Src_n.ok k, trivial⟩
theorem spec_l01Src_one.ev (k : Nat) (x : Prod' spec_l01Src_one.sig.ins) : spec_l01Src_one.sig.ev (spec_l01Src_one.C k) .auto Try.f54.results.toList (cB Try.f54) x = spec_l01Src_one x.1 x.2 := by kernel_rfl
theorem spec_l01Src_one.ok (k : Nat) : ConOk Try.prog 54 (spec_l01Src_one.con k) := sig_ok (p := .auto) (spec_l01Src_one.cok k) Try.func54 (by kernel_rfl) (show Try.f54.body = some (cB Try.f54) by kernel_rfl) (by kernel_rfl) (by kernel_rfl) (plan_of (L := []) (by kernel_rfl) trivial) (fun x y h => (spec_l01Src_one.ev k x).trans h)
def spec_l01Src_edge (a1 : G136) : Option (Int × List Int × Int × Int × Int) :=
  Option.bind (spec_l01Src_n a1 14) fun v2 =>
  let e3 := at? [0, 1, (-1), 2, 1000, 1001, 2147483648, 2147483647, (-2147483648), 4611686018427387904, 9223372036854775807, (-9223372036854775808), 1000000, 1000001] v2.1
  Option.bind (e3) fun v4 =>
  Option.bind (e3) fun v5 =>
  some (v5, v2.2.1, v2.2.2.1, v2.2.2.2.1, v2.2.2.2.2)
def spec_l01Src_edge.sig : Sig := { ps := [.ref 136 T136 (kept T136)], rs := [.val false [.v (.int .i64)]], ntmps := 8 }
def spec_l01Src_edge.con (k : Nat) : Con := spec_l01Src_edge.sig.con (fun x => spec_l01Src_edge x)
def spec_l01Src_edge.C (k : Nat) : Ctx := { ti := TAB, con := conL [(56, spec_l01Src_n.con k)] }
theorem spec_l01Src_edge.cok (k : Nat) : CtxOk Try.prog (spec_l01Src_edge.C k) := ctx_ok TABok ⟨spec_l01Src_n.ok k, trivial⟩
theorem spec_l01Src_edge.ev (k : Nat) (x : Prod' spec_l01Src_edge.sig.ins) : spec_l01Src_edge.sig.ev (spec_l01Src_edge.C k) .auto Try.f101.results.toList (cB Try.f101) x = spec_l01Src_edge x := by kernel_rfl
theorem spec_l01Src_edge.ok (k : Nat) : ConOk Try.prog 101 (spec_l01Src_edge.con k) := sig_ok (p := .auto) (spec_l01Src_edge.cok k) Try.func101 (by kernel_rfl) (show Try.f101.body = some (cB Try.f101) by kernel_rfl) (by kernel_rfl) (by kernel_rfl) (plan_of (L := []) (by kernel_rfl) trivial) (fun x y h => (spec_l01Src_edge.ev k x).trans h)
def spec_l01Src_l20Trust.j0 (a1 : List Int) (a2 : Int) (a3 : Int) (a4 : Int) (a5 : Int) (a6 : Int) : Option ((List Int × Int × Int × Int × Int × Int)) :=
  Option.bind (spec_l01Src_one (a1, (a2, (a3, a4))) 12) fun v7 =>
  bif v7.1 then
    Option.bind (spec_l01Src_edge v7.2) fun v8 =>
    some (v8.2.1, v8.2.2.1, v8.2.2.2.1, v8.2.2.2.2, a5, v8.1)
  else
  some (v7.2.1, v7.2.2.1, v7.2.2.2.1, v7.2.2.2.2, a5, a6)
def spec_l01Src_l20Trust (a1 : G136) : Option (Int × Int × List Int × Int × Int × Int) :=
  Option.bind (spec_l01Src_n a1 9) fun v2 =>
  Option.bind (spec_l01Src_n v2.2 (IntKind.wrap .i64 (v2.1 + 1))) fun v3 =>
  Option.bind (spec_l01Src_l20Trust.j0 v3.2.1 v3.2.2.1 v3.2.2.2.1 v3.2.2.2.2 v2.1 v3.1) fun y4 =>
  Option.bind (spec_l01Src_one (y4.1, (y4.2.1, (y4.2.2.1, y4.2.2.2.1))) 20) fun v5 =>
  bif v5.1 then
    Option.bind (spec_l01Src_n v5.2 3) fun v6 =>
    let e7 := at? [(-1), 1000000, 1000001] v6.1
    Option.bind (e7) fun v8 =>
    Option.bind (e7) fun v9 =>
    some (v9, y4.2.2.2.2.2, v6.2.1, v6.2.2.1, v6.2.2.2.1, v6.2.2.2.2)
  else
  some (y4.2.2.2.2.1, y4.2.2.2.2.2, v5.2.1, v5.2.2.1, v5.2.2.2.1, v5.2.2.2.2)
def spec_l01Src_l20Trust.sig : Sig := { ps := [.ref 136 T136 (kept T136)], rs := [.val true [.v (.int .i64), .v (.int .i64)]], ntmps := 27 }
def spec_l01Src_l20Trust.con (k : Nat) : Con := spec_l01Src_l20Trust.sig.con (fun x => spec_l01Src_l20Trust x)
def spec_l01Src_l20Trust.C (k : Nat) : Ctx := { ti := TAB, con := conL [(54, spec_l01Src_one.con k), (56, spec_l01Src_n.con k), (101, spec_l01Src_edge.con k)] }
theorem spec_l01Src_l20Trust.cok (k : Nat) : CtxOk Try.prog (spec_l01Src_l20Trust.C k) := ctx_ok TABok ⟨spec_l01Src_one.ok k, spec_l01Src_n.ok k, spec_l01Src_edge.ok k, trivial⟩
def spec_l01Src_l20Trust.j0.ish : Shape := { tmps := [(0, .one (.ptr 0 0)), (3, .one (.ptr 2 0))], slots := [(0, .box 136 [.v (.sl (.int .u8)), .v (.int .i64), .v (.int .u64), .v (.int .i64)]), (2, .box 36 [.v (.int .i64), .v (.int .i64)])], nb := 3 }
def spec_l01Src_l20Trust.j0.outs : List (Ex × Shape) := [(.nrm, { tmps := [], slots := [(0, .box 136 [.v (.sl (.int .u8)), .v (.int .i64), .v (.int .u64), .v (.int .i64)]), (2, .box 36 [.v (.int .i64), .v (.int .i64)])], nb := 3 })]
def spec_l01Src_l20Trust.j0.F (k : Nat) (x : Prod' spec_l01Src_l20Trust.j0.ish.tys) : Option (Outs spec_l01Src_l20Trust.j0.outs) := spec_l01Src_l20Trust.j0 x.1 x.2.1 x.2.2.1 x.2.2.2.1 x.2.2.2.2.1 x.2.2.2.2.2
def spec_l01Src_l20Trust.j0.s (k : Nat) : Summ := { n := 27, ish := spec_l01Src_l20Trust.j0.ish, outs := spec_l01Src_l20Trust.j0.outs, f := spec_l01Src_l20Trust.j0.F k }
theorem spec_l01Src_l20Trust.j0.ev (k : Nat) (x : Prod' spec_l01Src_l20Trust.j0.ish.tys) : V (spec_l01Src_l20Trust.C k) .auto (cL (cR (cR (cR (cB Try.f52))))) (mk spec_l01Src_l20Trust.j0.ish 27 x) (fun e st' => rdOut e st' spec_l01Src_l20Trust.j0.outs) = spec_l01Src_l20Trust.j0.F k x := by kernel_rfl
theorem spec_l01Src_l20Trust.j0.ok (k : Nat) : SumOk Try.prog (spec_l01Src_l20Trust.C k) (cL (cR (cR (cR (cB Try.f52))))) (spec_l01Src_l20Trust.j0.s k) := sum_ok (by kernel_rfl) (sum_code (p := .auto) (spec_l01Src_l20Trust.cok k) (by kernel_rfl) (plan_of (L := []) (by kernel_rfl) trivial) (fun x y h => (spec_l01Src_l20Trust.j0.ev k x).trans h))
theorem spec_l01Src_l20Trust.ev (k : Nat) (x : Prod' spec_l01Src_l20Trust.sig.ins) : spec_l01Src_l20Trust.sig.ev (spec_l01Src_l20Trust.C k) (.two .auto (.two .auto (.two .auto (.two (.sum (spec_l01Src_l20Trust.j0.s k)) .auto)))) Try.f52.results.toList (cB Try.f52) x = spec_l01Src_l20Trust x := by kernel_rfl
theorem spec_l01Src_l20Trust.ok (k : Nat) : ConOk Try.prog 52 (spec_l01Src_l20Trust.con k) := sig_ok (p := (.two .auto (.two .auto (.two .auto (.two (.sum (spec_l01Src_l20Trust.j0.s k)) .auto))))) (spec_l01Src_l20Trust.cok k) Try.func52 (by kernel_rfl) (show Try.f52.body = some (cB Try.f52) by kernel_rfl) (by kernel_rfl) (by kernel_rfl) (plan_of (L := [(spec_l01Src_l20Trust.j0.s k, cL (cR (cR (cR (cB Try.f52)))))]) (by kernel_rfl) ⟨spec_l01Src_l20Trust.j0.ok k, trivial⟩) (fun x y h => (spec_l01Src_l20Trust.ev k x).trans h)
def spec_l02Start  : Option (List Int) :=
  some ([1779033703, 3144134277, 1013904242, 2773480762, 1359893119, 2600822924, 528734635, 1541459225])
def spec_l02Start.sig : Sig := { ps := [], rs := [.val false [.own 2 (.int .i64)]], ntmps := 2 }
def spec_l02Start.con (k : Nat) : Con := spec_l02Start.sig.con (fun x => spec_l02Start )
def spec_l02Start.C (k : Nat) : Ctx := { ti := TAB, con := conL [] }
theorem spec_l02Start.cok (k : Nat) : CtxOk Try.prog (spec_l02Start.C k) := ctx_ok TABok trivial
theorem spec_l02Start.ev (k : Nat) (x : Prod' spec_l02Start.sig.ins) : spec_l02Start.sig.ev (spec_l02Start.C k) .auto Try.f149.results.toList (cB Try.f149) x = spec_l02Start  := by kernel_rfl
theorem spec_l02Start.ok (k : Nat) : ConOk Try.prog 149 (spec_l02Start.con k) := sig_ok (p := .auto) (spec_l02Start.cok k) Try.func149 (by kernel_rfl) (show Try.f149.body = some (cB Try.f149) by kernel_rfl) (by kernel_rfl) (by kernel_rfl) (plan_of (L := []) (by kernel_rfl) trivial) (fun x y h => (spec_l02Start.ev k x).trans h)
def spec_l02Turn (a1 : Int) (a2 : Int) : Option (Int) :=
  Option.bind (nneg? a2) fun v3 =>
  let e4 := IntKind.wrap .u64 (32 - a2)
  Option.bind (nneg? e4) fun v5 =>
  some (intBits .or .u32 (shr .u32 a1 a2) (shl .u32 a1 e4))
def spec_l02Turn.sig : Sig := { ps := [.val false (.int .u32) (ros (.int .u32)), .val false (.int .u64) (ros (.int .u64))], rs := [.val false [.v (.int .u32)]], ntmps := 13 }
def spec_l02Turn.con (k : Nat) : Con := spec_l02Turn.sig.con (fun x => spec_l02Turn x.1 x.2)
def spec_l02Turn.C (k : Nat) : Ctx := { ti := TAB, con := conL [] }
theorem spec_l02Turn.cok (k : Nat) : CtxOk Try.prog (spec_l02Turn.C k) := ctx_ok TABok trivial
theorem spec_l02Turn.ev (k : Nat) (x : Prod' spec_l02Turn.sig.ins) : spec_l02Turn.sig.ev (spec_l02Turn.C k) .auto Try.f157.results.toList (cB Try.f157) x = spec_l02Turn x.1 x.2 := by kernel_rfl
theorem spec_l02Turn.ok (k : Nat) : ConOk Try.prog 157 (spec_l02Turn.con k) := sig_ok (p := .auto) (spec_l02Turn.cok k) Try.func157 (by kernel_rfl) (show Try.f157.body = some (cB Try.f157) by kernel_rfl) (by kernel_rfl) (by kernel_rfl) (plan_of (L := []) (by kernel_rfl) trivial) (fun x y h => (spec_l02Turn.ev k x).trans h)
def spec_l02Keys  : Option (List Int) :=
  some ([1116352408, 1899447441, 3049323471, 3921009573, 961987163, 1508970993, 2453635748, 2870763221, 3624381080, 310598401, 607225278, 1426881987, 1925078388, 2162078206, 2614888103, 3248222580, 3835390401, 4022224774, 264347078, 604807628, 770255983, 1249150122, 1555081692, 1996064986, 2554220882, 2821834349, 2952996808, 3210313671, 3336571891, 3584528711, 113926993, 338241895, 666307205, 773529912, 1294757372, 1396182291, 1695183700, 1986661051, 2177026350, 2456956037, 2730485921, 2820302411, 3259730800, 3345764771, 3516065817, 3600352804, 4094571909, 275423344, 430227734, 506948616, 659060556, 883997877, 958139571, 1322822218, 1537002063, 1747873779, 1955562222, 2024104815, 2227730452, 2361852424, 2428436474, 2756734187, 3204031479, 3329325298])
def spec_l02Keys.sig : Sig := { ps := [], rs := [.val false [.own 139 (.int .u32)]], ntmps := 2 }
def spec_l02Keys.con (k : Nat) : Con := spec_l02Keys.sig.con (fun x => spec_l02Keys )
def spec_l02Keys.C (k : Nat) : Ctx := { ti := TAB, con := conL [] }
theorem spec_l02Keys.cok (k : Nat) : CtxOk Try.prog (spec_l02Keys.C k) := ctx_ok TABok trivial
theorem spec_l02Keys.ev (k : Nat) (x : Prod' spec_l02Keys.sig.ins) : spec_l02Keys.sig.ev (spec_l02Keys.C k) .auto Try.f158.results.toList (cB Try.f158) x = spec_l02Keys  := by kernel_rfl
theorem spec_l02Keys.ok (k : Nat) : ConOk Try.prog 158 (spec_l02Keys.con k) := sig_ok (p := .auto) (spec_l02Keys.cok k) Try.func158 (by kernel_rfl) (show Try.f158.body = some (cB Try.f158) by kernel_rfl) (by kernel_rfl) (by kernel_rfl) (plan_of (L := []) (by kernel_rfl) trivial) (fun x y h => (spec_l02Keys.ev k x).trans h)
def spec_l02Block.l0 : Nat → Str → Int → List Int → Option ((List Int))
  | 0, _, _, _ => none
  | j + 1, a1, a2, a3 =>
    bif decide (a2 < 16) then
      let e4 := IntKind.wrap .i64 (4 * a2)
      Option.bind (at? a1 e4) fun v5 =>
      Option.bind (nneg? 24) fun v6 =>
      Option.bind (at? a1 (IntKind.wrap .i64 (e4 + 1))) fun v7 =>
      Option.bind (nneg? 16) fun v8 =>
      Option.bind (at? a1 (IntKind.wrap .i64 (e4 + 2))) fun v9 =>
      Option.bind (nneg? 8) fun v10 =>
      Option.bind (at? a1 (IntKind.wrap .i64 (e4 + 3))) fun v11 =>
      Option.bind (at? a3 a2) fun v12 =>
      Option.bind (at? a3 a2) fun v13 =>
      spec_l02Block.l0 j a1 (IntKind.wrap .i64 (a2 + 1)) (List.set a3 (Int.toNat a2) (intBits .or .u32 (intBits .or .u32 (intBits .or .u32 (shl .u32 (IntKind.wrap .u32 (v5.toNat : Int)) 24) (shl .u32 (IntKind.wrap .u32 (v7.toNat : Int)) 16)) (shl .u32 (IntKind.wrap .u32 (v9.toNat : Int)) 8)) (IntKind.wrap .u32 (v11.toNat : Int))))
    else
    some a3
def spec_l02Block.l1 : Nat → Int → List Int → Option ((List Int))
  | 0, _, _ => none
  | j + 1, a1, a2 =>
    bif decide (a1 < 64) then
      let e3 := at? a2 (IntKind.wrap .i64 (a1 - 15))
      Option.bind (e3) fun v4 =>
      Option.bind (e3) fun v5 =>
      let e6 := at? a2 (IntKind.wrap .i64 (a1 - 2))
      Option.bind (e6) fun v7 =>
      Option.bind (e6) fun v8 =>
      let e9 := at? a2 (IntKind.wrap .i64 (a1 - 16))
      Option.bind (e9) fun v10 =>
      Option.bind (e9) fun v11 =>
      Option.bind (spec_l02Turn v5 7) fun v12 =>
      Option.bind (spec_l02Turn v5 18) fun v13 =>
      Option.bind (nneg? 3) fun v14 =>
      let e15 := at? a2 (IntKind.wrap .i64 (a1 - 7))
      Option.bind (e15) fun v16 =>
      Option.bind (e15) fun v17 =>
      Option.bind (spec_l02Turn v8 17) fun v18 =>
      Option.bind (spec_l02Turn v8 19) fun v19 =>
      Option.bind (nneg? 10) fun v20 =>
      Option.bind (at? a2 a1) fun v21 =>
      Option.bind (at? a2 a1) fun v22 =>
      spec_l02Block.l1 j (IntKind.wrap .i64 (a1 + 1)) (List.set a2 (Int.toNat a1) (IntKind.wrap .u32 ((IntKind.wrap .u32 ((IntKind.wrap .u32 (v11 + (intBits .xor .u32 (intBits .xor .u32 v12 v13) (shr .u32 v5 3)))) + v17)) + (intBits .xor .u32 (intBits .xor .u32 v18 v19) (shr .u32 v8 10)))))
    else
    some a2
def spec_l02Block.l2 : Nat → Int → Int → Int → Int → Int → Int → Int → Int → Int → List Int → List Int → Option ((Int × Int × Int × Int × Int × Int × Int × Int))
  | 0, _, _, _, _, _, _, _, _, _, _, _ => none
  | j + 1, a1, a2, a3, a4, a5, a6, a7, a8, a9, a10, a11 =>
    bif decide (a9 < 64) then
      Option.bind (spec_l02Turn a5 6) fun v12 =>
      Option.bind (spec_l02Turn a5 11) fun v13 =>
      Option.bind (spec_l02Turn a5 25) fun v14 =>
      Option.bind (at? a11 a9) fun v15 =>
      Option.bind (at? a11 a9) fun v16 =>
      Option.bind (at? a10 a9) fun v17 =>
      Option.bind (at? a10 a9) fun v18 =>
      Option.bind (spec_l02Turn a1 2) fun v19 =>
      Option.bind (spec_l02Turn a1 13) fun v20 =>
      Option.bind (spec_l02Turn a1 22) fun v21 =>
      let e22 := IntKind.wrap .u32 ((IntKind.wrap .u32 ((IntKind.wrap .u32 ((IntKind.wrap .u32 (a8 + (intBits .xor .u32 (intBits .xor .u32 v12 v13) v14))) + (intBits .xor .u32 (intBits .and .u32 a5 a6) (intBits .and .u32 (intBits .xor .u32 (IntKind.max .u32) a5) a7)))) + v16)) + v18)
      spec_l02Block.l2 j (IntKind.wrap .u32 (e22 + (IntKind.wrap .u32 ((intBits .xor .u32 (intBits .xor .u32 v19 v20) v21) + (intBits .xor .u32 (intBits .xor .u32 (intBits .and .u32 a1 a2) (intBits .and .u32 a1 a3)) (intBits .and .u32 a2 a3)))))) a1 a2 a3 (IntKind.wrap .u32 (a4 + e22)) a5 a6 a7 (IntKind.wrap .i64 (a9 + 1)) a10 a11
    else
    some (a1, a2, a3, a4, a5, a6, a7, a8)
def spec_l02Block.l3 : Nat → List Int → Int → List Int → List Int → Option ((List Int))
  | 0, _, _, _, _ => none
  | j + 1, a1, a2, a3, a4 =>
    bif decide (a2 < 8) then
      Option.bind (at? a1 a2) fun v5 =>
      Option.bind (at? a3 a2) fun v6 =>
      Option.bind (at? a3 a2) fun v7 =>
      Option.bind (app? 8 a4 [(IntKind.wrap .i64 (IntKind.wrap .u32 ((IntKind.wrap .u32 v5) + v7)))]) fun v8 =>
      spec_l02Block.l3 j a1 (IntKind.wrap .i64 (a2 + 1)) a3 v8
    else
    some a4
def spec_l02Block (k : Nat) (a1 : List Int) (a2 : Str) : Option (List Int) :=
  Option.bind (make? 4 64 64 0) fun v3 =>
  Option.bind (spec_l02Block.l0 k a2 0 v3) fun y4 =>
  Option.bind (spec_l02Block.l1 k 16 y4) fun y5 =>
  Option.bind (at? a1 0) fun v6 =>
  Option.bind (at? a1 1) fun v7 =>
  Option.bind (at? a1 2) fun v8 =>
  Option.bind (at? a1 3) fun v9 =>
  Option.bind (at? a1 4) fun v10 =>
  Option.bind (at? a1 5) fun v11 =>
  Option.bind (at? a1 6) fun v12 =>
  Option.bind (at? a1 7) fun v13 =>
  Option.bind (spec_l02Keys ) fun v14 =>
  Option.bind (spec_l02Block.l2 k (IntKind.wrap .u32 v6) (IntKind.wrap .u32 v7) (IntKind.wrap .u32 v8) (IntKind.wrap .u32 v9) (IntKind.wrap .u32 v10) (IntKind.wrap .u32 v11) (IntKind.wrap .u32 v12) (IntKind.wrap .u32 v13) 0 y5 v14) fun y15 =>
  Option.bind (spec_l02Block.l3 k a1 0 [y15.1, y15.2.1, y15.2.2.1, y15.2.2.2.1, y15.2.2.2.2.1, y15.2.2.2.2.2.1, y15.2.2.2.2.2.2.1, y15.2.2.2.2.2.2.2] []) fun y16 =>
  some y16
def spec_l02Block.sig : Sig := { ps := [.val false (.sl (.int .i64)) (ros (.sl (.int .i64))), .val false .str (ros .str)], rs := [.val false [.own 2 (.int .i64)]], ntmps := 235 }
def spec_l02Block.con (k : Nat) : Con := spec_l02Block.sig.con (fun x => spec_l02Block k x.1 x.2)
def spec_l02Block.C (k : Nat) : Ctx := { ti := TAB, con := conL [(157, spec_l02Turn.con k), (158, spec_l02Keys.con k)] }
theorem spec_l02Block.cok (k : Nat) : CtxOk Try.prog (spec_l02Block.C k) := ctx_ok TABok ⟨spec_l02Turn.ok k, spec_l02Keys.ok k, trivial⟩
def spec_l02Block.l0.ish : Shape := { tmps := [(1, .one (.v .str)), (5, .one (.own 1)), (6, .one (.v (.int .i64)))], slots := [(1, .arr false 139 (.int .u32))], nb := 2 }
def spec_l02Block.l0.outs : List (Ex × Shape) := [(.exit 0, { tmps := [(5, .one (.own 2))], slots := [(2, .arr false 139 (.int .u32))], nb := 3 })]
def spec_l02Block.l0.F (k j : Nat) (x : Prod' spec_l02Block.l0.ish.tys) : Option (Outs spec_l02Block.l0.outs) := spec_l02Block.l0 j x.1 x.2.1 x.2.2
def spec_l02Block.l0.s (k : Nat) : Summ := { n := 235, ish := spec_l02Block.l0.ish, outs := spec_l02Block.l0.outs, f := spec_l02Block.l0.F k k }
theorem spec_l02Block.l0.ev (k j : Nat) (x : Prod' spec_l02Block.l0.ish.tys) : V (spec_l02Block.C k) .auto (cO (cO (cR (cL (cR (cR (cB Try.f150))))))) (mk spec_l02Block.l0.ish 235 x) (fun e st' => match e with | .nrm => (rd spec_l02Block.l0.ish st').bind (spec_l02Block.l0.F k j) | e => rdOut e st' spec_l02Block.l0.outs) = spec_l02Block.l0.F k (j + 1) x := by kernel_rfl
theorem spec_l02Block.l0.ok (k : Nat) : SumOk Try.prog (spec_l02Block.C k) (.loop (cO (cO (cR (cL (cR (cR (cB Try.f150)))))))) (spec_l02Block.l0.s k) := sum_ok (by kernel_rfl) (sum_loop (p := .auto) (F := spec_l02Block.l0.F k) (spec_l02Block.cok k) (by kernel_rfl) (plan_of (L := []) (by kernel_rfl) trivial) (fun _ => rfl) (fun j x y h => (spec_l02Block.l0.ev k j x).trans h) k rfl)
def spec_l02Block.l1.ish : Shape := { tmps := [(5, .one (.own 3)), (7, .one (.v (.int .i64)))], slots := [(3, .arr false 139 (.int .u32))], nb := 4 }
def spec_l02Block.l1.outs : List (Ex × Shape) := [(.exit 2, { tmps := [(5, .one (.own 4))], slots := [(4, .arr false 139 (.int .u32))], nb := 5 })]
def spec_l02Block.l1.F (k j : Nat) (x : Prod' spec_l02Block.l1.ish.tys) : Option (Outs spec_l02Block.l1.outs) := spec_l02Block.l1 j x.1 x.2
def spec_l02Block.l1.s (k : Nat) : Summ := { n := 235, ish := spec_l02Block.l1.ish, outs := spec_l02Block.l1.outs, f := spec_l02Block.l1.F k k }
theorem spec_l02Block.l1.ev (k j : Nat) (x : Prod' spec_l02Block.l1.ish.tys) : V (spec_l02Block.C k) .auto (cO (cO (cR (cL (cR (cR (cR (cB Try.f150)))))))) (mk spec_l02Block.l1.ish 235 x) (fun e st' => match e with | .nrm => (rd spec_l02Block.l1.ish st').bind (spec_l02Block.l1.F k j) | e => rdOut e st' spec_l02Block.l1.outs) = spec_l02Block.l1.F k (j + 1) x := by kernel_rfl
theorem spec_l02Block.l1.ok (k : Nat) : SumOk Try.prog (spec_l02Block.C k) (.loop (cO (cO (cR (cL (cR (cR (cR (cB Try.f150))))))))) (spec_l02Block.l1.s k) := sum_ok (by kernel_rfl) (sum_loop (p := .auto) (F := spec_l02Block.l1.F k) (spec_l02Block.cok k) (by kernel_rfl) (plan_of (L := []) (by kernel_rfl) trivial) (fun _ => rfl) (fun j x y h => (spec_l02Block.l1.ev k j x).trans h) k rfl)
def spec_l02Block.l2.ish : Shape := { tmps := [(5, .one (.own 6)), (10, .one (.v (.int .u32))), (11, .one (.v (.int .u32))), (12, .one (.v (.int .u32))), (13, .one (.v (.int .u32))), (14, .one (.v (.int .u32))), (15, .one (.v (.int .u32))), (16, .one (.v (.int .u32))), (17, .one (.v (.int .u32))), (18, .one (.own 7)), (19, .one (.v (.int .i64)))], slots := [(6, .arr false 139 (.int .u32)), (7, .arr false 139 (.int .u32))], nb := 8 }
def spec_l02Block.l2.outs : List (Ex × Shape) := [(.exit 4, { tmps := [(10, .one (.v (.int .u32))), (11, .one (.v (.int .u32))), (12, .one (.v (.int .u32))), (13, .one (.v (.int .u32))), (14, .one (.v (.int .u32))), (15, .one (.v (.int .u32))), (16, .one (.v (.int .u32))), (17, .one (.v (.int .u32)))], slots := [], nb := 8 })]
def spec_l02Block.l2.F (k j : Nat) (x : Prod' spec_l02Block.l2.ish.tys) : Option (Outs spec_l02Block.l2.outs) := spec_l02Block.l2 j x.1 x.2.1 x.2.2.1 x.2.2.2.1 x.2.2.2.2.1 x.2.2.2.2.2.1 x.2.2.2.2.2.2.1 x.2.2.2.2.2.2.2.1 x.2.2.2.2.2.2.2.2.1 x.2.2.2.2.2.2.2.2.2.1 x.2.2.2.2.2.2.2.2.2.2
def spec_l02Block.l2.s (k : Nat) : Summ := { n := 235, ish := spec_l02Block.l2.ish, outs := spec_l02Block.l2.outs, f := spec_l02Block.l2.F k k }
theorem spec_l02Block.l2.ev (k j : Nat) (x : Prod' spec_l02Block.l2.ish.tys) : V (spec_l02Block.C k) .auto (cO (cO (cR (cL (cR (cR (cR (cR (cR (cR (cR (cB Try.f150)))))))))))) (mk spec_l02Block.l2.ish 235 x) (fun e st' => match e with | .nrm => (rd spec_l02Block.l2.ish st').bind (spec_l02Block.l2.F k j) | e => rdOut e st' spec_l02Block.l2.outs) = spec_l02Block.l2.F k (j + 1) x := by kernel_rfl
theorem spec_l02Block.l2.ok (k : Nat) : SumOk Try.prog (spec_l02Block.C k) (.loop (cO (cO (cR (cL (cR (cR (cR (cR (cR (cR (cR (cB Try.f150))))))))))))) (spec_l02Block.l2.s k) := sum_ok (by kernel_rfl) (sum_loop (p := .auto) (F := spec_l02Block.l2.F k) (spec_l02Block.cok k) (by kernel_rfl) (plan_of (L := []) (by kernel_rfl) trivial) (fun _ => rfl) (fun j x y h => (spec_l02Block.l2.ev k j x).trans h) k rfl)
def spec_l02Block.l3.ish : Shape := { tmps := [(0, .one (.bor (.int .i64))), (22, .one (.own 10)), (23, .one (.own 11)), (24, .one (.v (.int .i64)))], slots := [(10, .arr false 139 (.int .u32)), (11, .arr false 2 (.int .i64))], nb := 12 }
def spec_l02Block.l3.outs : List (Ex × Shape) := [(.exit 6, { tmps := [(23, .one (.own 12))], slots := [(12, .arr false 2 (.int .i64))], nb := 13 })]
def spec_l02Block.l3.F (k j : Nat) (x : Prod' spec_l02Block.l3.ish.tys) : Option (Outs spec_l02Block.l3.outs) := spec_l02Block.l3 j x.1 x.2.1 x.2.2.1 x.2.2.2
def spec_l02Block.l3.s (k : Nat) : Summ := { n := 235, ish := spec_l02Block.l3.ish, outs := spec_l02Block.l3.outs, f := spec_l02Block.l3.F k k }
theorem spec_l02Block.l3.ev (k j : Nat) (x : Prod' spec_l02Block.l3.ish.tys) : V (spec_l02Block.C k) .auto (cO (cO (cR (cL (cR (cR (cR (cR (cR (cR (cR (cR (cR (cR (cB Try.f150))))))))))))))) (mk spec_l02Block.l3.ish 235 x) (fun e st' => match e with | .nrm => (rd spec_l02Block.l3.ish st').bind (spec_l02Block.l3.F k j) | e => rdOut e st' spec_l02Block.l3.outs) = spec_l02Block.l3.F k (j + 1) x := by kernel_rfl
theorem spec_l02Block.l3.ok (k : Nat) : SumOk Try.prog (spec_l02Block.C k) (.loop (cO (cO (cR (cL (cR (cR (cR (cR (cR (cR (cR (cR (cR (cR (cB Try.f150)))))))))))))))) (spec_l02Block.l3.s k) := sum_ok (by kernel_rfl) (sum_loop (p := .auto) (F := spec_l02Block.l3.F k) (spec_l02Block.cok k) (by kernel_rfl) (plan_of (L := []) (by kernel_rfl) trivial) (fun _ => rfl) (fun j x y h => (spec_l02Block.l3.ev k j x).trans h) k rfl)
theorem spec_l02Block.ev (k : Nat) (x : Prod' spec_l02Block.sig.ins) : spec_l02Block.sig.ev (spec_l02Block.C k) (.two .auto (.two .auto (.two (.two .auto (.one (.sum (spec_l02Block.l0.s k)))) (.two (.two .auto (.one (.sum (spec_l02Block.l1.s k)))) (.two .auto (.two .auto (.two .auto (.two (.two .auto (.one (.sum (spec_l02Block.l2.s k)))) (.two .auto (.two .auto (.two (.two .auto (.one (.sum (spec_l02Block.l3.s k)))) .auto))))))))))) Try.f150.results.toList (cB Try.f150) x = spec_l02Block k x.1 x.2 := by kernel_rfl
theorem spec_l02Block.ok (k : Nat) : ConOk Try.prog 150 (spec_l02Block.con k) := sig_ok (p := (.two .auto (.two .auto (.two (.two .auto (.one (.sum (spec_l02Block.l0.s k)))) (.two (.two .auto (.one (.sum (spec_l02Block.l1.s k)))) (.two .auto (.two .auto (.two .auto (.two (.two .auto (.one (.sum (spec_l02Block.l2.s k)))) (.two .auto (.two .auto (.two (.two .auto (.one (.sum (spec_l02Block.l3.s k)))) .auto)))))))))))) (spec_l02Block.cok k) Try.func150 (by kernel_rfl) (show Try.f150.body = some (cB Try.f150) by kernel_rfl) (by kernel_rfl) (by kernel_rfl) (plan_of (L := [(spec_l02Block.l0.s k, cO (cR (cL (cR (cR (cB Try.f150)))))), (spec_l02Block.l1.s k, cO (cR (cL (cR (cR (cR (cB Try.f150))))))), (spec_l02Block.l2.s k, cO (cR (cL (cR (cR (cR (cR (cR (cR (cR (cB Try.f150))))))))))), (spec_l02Block.l3.s k, cO (cR (cL (cR (cR (cR (cR (cR (cR (cR (cR (cR (cR (cB Try.f150))))))))))))))]) (by kernel_rfl) ⟨spec_l02Block.l0.ok k, spec_l02Block.l1.ok k, spec_l02Block.l2.ok k, spec_l02Block.l3.ok k, trivial⟩) (fun x y h => (spec_l02Block.ev k x).trans h)
def spec_l02All.l0 : Nat → List Int → Option ((List Int))
  | 0, _ => none
  | j + 1, a1 =>
    Option.bind (nz? 64) fun v2 =>
    bif (Int.tmod ((a1.length) : Int) 64) != 56 then
      Option.bind (app? 1 a1 [0]) fun v3 =>
      spec_l02All.l0 j v3
    else
    some a1
def spec_l02All.l1 : Nat → Int → Int → List Int → Option ((List Int))
  | 0, _, _, _ => none
  | j + 1, a1, a2, a3 =>
    bif decide (0 ≤ a2) then
      Option.bind (nneg? (IntKind.wrap .u64 a2)) fun v4 =>
      Option.bind (app? 1 a3 [(IntKind.wrap .u8 (shr .u64 a1 (IntKind.wrap .u64 a2)))]) fun v5 =>
      spec_l02All.l1 j a1 (IntKind.wrap .i64 (a2 - 8)) v5
    else
    some a3
def spec_l02All.l2 (k : Nat) : Nat → List Int → Int → List Int → Option ((List Int))
  | 0, _, _, _ => none
  | j + 1, a1, a2, a3 =>
    bif decide (a2 < ((a1.length) : Int)) then
      let e4 := IntKind.wrap .i64 (a2 + 64)
      Option.bind (cut? a1 a2 e4) fun v5 =>
      Option.bind (spec_l02Block k a3 (listByte v5)) fun v6 =>
      spec_l02All.l2 k j a1 e4 v6
    else
    some a3
def spec_l02All.l3 : Nat → Int → List Int → List Int → Option ((List Int))
  | 0, _, _, _ => none
  | j + 1, a1, a2, a3 =>
    bif decide (a1 < 8) then
      Option.bind (at? a2 a1) fun v4 =>
      Option.bind (at? a2 a1) fun v5 =>
      Option.bind (nneg? 24) fun v6 =>
      Option.bind (nneg? 16) fun v7 =>
      Option.bind (nneg? 8) fun v8 =>
      Option.bind (app? 1 a3 [(IntKind.wrap .u8 (shr .i64 v5 24)), (IntKind.wrap .u8 (shr .i64 v5 16)), (IntKind.wrap .u8 (shr .i64 v5 8)), (IntKind.wrap .u8 v5)]) fun v9 =>
      spec_l02All.l3 j (IntKind.wrap .i64 (a1 + 1)) a2 v9
    else
    some a3
def spec_l02All (k : Nat) (a1 : Str) : Option (Str) :=
  Option.bind (room? (a1.length) 1) fun v2 =>
  Option.bind (app? 1 (byteList a1) [128]) fun v3 =>
  Option.bind (spec_l02All.l0 k v3) fun y4 =>
  Option.bind (spec_l02All.l1 k (IntKind.wrap .u64 (IntKind.wrap .i64 (8 * ((a1.length) : Int)))) 56 y4) fun y5 =>
  Option.bind (spec_l02Start ) fun v6 =>
  Option.bind (spec_l02All.l2 k k y5 0 v6) fun y7 =>
  Option.bind (spec_l02All.l3 k 0 y7 []) fun y8 =>
  some (listByte y8)
def spec_l02All.sig : Sig := { ps := [.val false .str (ros .str)], rs := [.val false [.v .str]], ntmps := 78 }
def spec_l02All.con (k : Nat) : Con := spec_l02All.sig.con (fun x => spec_l02All k x)
def spec_l02All.C (k : Nat) : Ctx := { ti := TAB, con := conL [(149, spec_l02Start.con k), (150, spec_l02Block.con k)] }
theorem spec_l02All.cok (k : Nat) : CtxOk Try.prog (spec_l02All.C k) := ctx_ok TABok ⟨spec_l02Start.ok k, spec_l02Block.ok k, trivial⟩
def spec_l02All.l0.ish : Shape := { tmps := [(3, .one (.own 3))], slots := [(3, .arr true 5 (.int .u8))], nb := 4 }
def spec_l02All.l0.outs : List (Ex × Shape) := [(.exit 0, { tmps := [(3, .one (.own 4))], slots := [(4, .arr true 5 (.int .u8))], nb := 5 })]
def spec_l02All.l0.F (k j : Nat) (x : Prod' spec_l02All.l0.ish.tys) : Option (Outs spec_l02All.l0.outs) := spec_l02All.l0 j x
def spec_l02All.l0.s (k : Nat) : Summ := { n := 78, ish := spec_l02All.l0.ish, outs := spec_l02All.l0.outs, f := spec_l02All.l0.F k k }
theorem spec_l02All.l0.ev (k j : Nat) (x : Prod' spec_l02All.l0.ish.tys) : V (spec_l02All.C k) .auto (cO (cO (cL (cR (cR (cB Try.f135)))))) (mk spec_l02All.l0.ish 78 x) (fun e st' => match e with | .nrm => (rd spec_l02All.l0.ish st').bind (spec_l02All.l0.F k j) | e => rdOut e st' spec_l02All.l0.outs) = spec_l02All.l0.F k (j + 1) x := by kernel_rfl
theorem spec_l02All.l0.ok (k : Nat) : SumOk Try.prog (spec_l02All.C k) (.loop (cO (cO (cL (cR (cR (cB Try.f135))))))) (spec_l02All.l0.s k) := sum_ok (by kernel_rfl) (sum_loop (p := .auto) (F := spec_l02All.l0.F k) (spec_l02All.cok k) (by kernel_rfl) (plan_of (L := []) (by kernel_rfl) trivial) (fun _ => rfl) (fun j x y h => (spec_l02All.l0.ev k j x).trans h) k rfl)
def spec_l02All.l1.ish : Shape := { tmps := [(3, .one (.own 5)), (4, .one (.v (.int .u64))), (5, .one (.v (.int .i64)))], slots := [(5, .arr true 5 (.int .u8))], nb := 6 }
def spec_l02All.l1.outs : List (Ex × Shape) := [(.exit 2, { tmps := [(3, .one (.own 6))], slots := [(6, .arr true 5 (.int .u8))], nb := 7 })]
def spec_l02All.l1.F (k j : Nat) (x : Prod' spec_l02All.l1.ish.tys) : Option (Outs spec_l02All.l1.outs) := spec_l02All.l1 j x.1 x.2.1 x.2.2
def spec_l02All.l1.s (k : Nat) : Summ := { n := 78, ish := spec_l02All.l1.ish, outs := spec_l02All.l1.outs, f := spec_l02All.l1.F k k }
theorem spec_l02All.l1.ev (k j : Nat) (x : Prod' spec_l02All.l1.ish.tys) : V (spec_l02All.C k) .auto (cO (cO (cR (cL (cR (cR (cR (cR (cB Try.f135))))))))) (mk spec_l02All.l1.ish 78 x) (fun e st' => match e with | .nrm => (rd spec_l02All.l1.ish st').bind (spec_l02All.l1.F k j) | e => rdOut e st' spec_l02All.l1.outs) = spec_l02All.l1.F k (j + 1) x := by kernel_rfl
theorem spec_l02All.l1.ok (k : Nat) : SumOk Try.prog (spec_l02All.C k) (.loop (cO (cO (cR (cL (cR (cR (cR (cR (cB Try.f135)))))))))) (spec_l02All.l1.s k) := sum_ok (by kernel_rfl) (sum_loop (p := .auto) (F := spec_l02All.l1.F k) (spec_l02All.cok k) (by kernel_rfl) (plan_of (L := []) (by kernel_rfl) trivial) (fun _ => rfl) (fun j x y h => (spec_l02All.l1.ev k j x).trans h) k rfl)
def spec_l02All.l2.ish : Shape := { tmps := [(3, .one (.v (.sl (.int .u8)))), (6, .one (.own 8)), (7, .one (.v (.int .i64)))], slots := [(8, .arr false 2 (.int .i64))], nb := 9 }
def spec_l02All.l2.outs : List (Ex × Shape) := [(.exit 4, { tmps := [(6, .one (.own 9))], slots := [(9, .arr false 2 (.int .i64))], nb := 10 })]
def spec_l02All.l2.F (k j : Nat) (x : Prod' spec_l02All.l2.ish.tys) : Option (Outs spec_l02All.l2.outs) := spec_l02All.l2 k j x.1 x.2.1 x.2.2
def spec_l02All.l2.s (k : Nat) : Summ := { n := 78, ish := spec_l02All.l2.ish, outs := spec_l02All.l2.outs, f := spec_l02All.l2.F k k }
theorem spec_l02All.l2.ev (k j : Nat) (x : Prod' spec_l02All.l2.ish.tys) : V (spec_l02All.C k) .auto (cO (cO (cR (cL (cR (cR (cR (cR (cR (cR (cB Try.f135))))))))))) (mk spec_l02All.l2.ish 78 x) (fun e st' => match e with | .nrm => (rd spec_l02All.l2.ish st').bind (spec_l02All.l2.F k j) | e => rdOut e st' spec_l02All.l2.outs) = spec_l02All.l2.F k (j + 1) x := by kernel_rfl
theorem spec_l02All.l2.ok (k : Nat) : SumOk Try.prog (spec_l02All.C k) (.loop (cO (cO (cR (cL (cR (cR (cR (cR (cR (cR (cB Try.f135)))))))))))) (spec_l02All.l2.s k) := sum_ok (by kernel_rfl) (sum_loop (p := .auto) (F := spec_l02All.l2.F k) (spec_l02All.cok k) (by kernel_rfl) (plan_of (L := []) (by kernel_rfl) trivial) (fun _ => rfl) (fun j x y h => (spec_l02All.l2.ev k j x).trans h) k rfl)
def spec_l02All.l3.ish : Shape := { tmps := [(6, .one (.own 11)), (8, .one (.own 12)), (9, .one (.v (.int .i64)))], slots := [(11, .arr false 2 (.int .i64)), (12, .arr false 5 (.int .u8))], nb := 13 }
def spec_l02All.l3.outs : List (Ex × Shape) := [(.exit 6, { tmps := [(8, .one (.own 13))], slots := [(13, .arr false 5 (.int .u8))], nb := 14 })]
def spec_l02All.l3.F (k j : Nat) (x : Prod' spec_l02All.l3.ish.tys) : Option (Outs spec_l02All.l3.outs) := spec_l02All.l3 j x.1 x.2.1 x.2.2
def spec_l02All.l3.s (k : Nat) : Summ := { n := 78, ish := spec_l02All.l3.ish, outs := spec_l02All.l3.outs, f := spec_l02All.l3.F k k }
theorem spec_l02All.l3.ev (k j : Nat) (x : Prod' spec_l02All.l3.ish.tys) : V (spec_l02All.C k) .auto (cO (cO (cR (cL (cR (cR (cR (cR (cR (cR (cR (cR (cB Try.f135))))))))))))) (mk spec_l02All.l3.ish 78 x) (fun e st' => match e with | .nrm => (rd spec_l02All.l3.ish st').bind (spec_l02All.l3.F k j) | e => rdOut e st' spec_l02All.l3.outs) = spec_l02All.l3.F k (j + 1) x := by kernel_rfl
theorem spec_l02All.l3.ok (k : Nat) : SumOk Try.prog (spec_l02All.C k) (.loop (cO (cO (cR (cL (cR (cR (cR (cR (cR (cR (cR (cR (cB Try.f135)))))))))))))) (spec_l02All.l3.s k) := sum_ok (by kernel_rfl) (sum_loop (p := .auto) (F := spec_l02All.l3.F k) (spec_l02All.cok k) (by kernel_rfl) (plan_of (L := []) (by kernel_rfl) trivial) (fun _ => rfl) (fun j x y h => (spec_l02All.l3.ev k j x).trans h) k rfl)
theorem spec_l02All.ev (k : Nat) (x : Prod' spec_l02All.sig.ins) : spec_l02All.sig.ev (spec_l02All.C k) (.two .auto (.two .auto (.two (.one (.sum (spec_l02All.l0.s k))) (.two .auto (.two (.two .auto (.one (.sum (spec_l02All.l1.s k)))) (.two .auto (.two (.two .auto (.one (.sum (spec_l02All.l2.s k)))) (.two .auto (.two (.two .auto (.one (.sum (spec_l02All.l3.s k)))) .auto))))))))) Try.f135.results.toList (cB Try.f135) x = spec_l02All k x := by kernel_rfl
theorem spec_l02All.ok (k : Nat) : ConOk Try.prog 135 (spec_l02All.con k) := sig_ok (p := (.two .auto (.two .auto (.two (.one (.sum (spec_l02All.l0.s k))) (.two .auto (.two (.two .auto (.one (.sum (spec_l02All.l1.s k)))) (.two .auto (.two (.two .auto (.one (.sum (spec_l02All.l2.s k)))) (.two .auto (.two (.two .auto (.one (.sum (spec_l02All.l3.s k)))) .auto)))))))))) (spec_l02All.cok k) Try.func135 (by kernel_rfl) (show Try.f135.body = some (cB Try.f135) by kernel_rfl) (by kernel_rfl) (by kernel_rfl) (plan_of (L := [(spec_l02All.l0.s k, cO (cL (cR (cR (cB Try.f135))))), (spec_l02All.l1.s k, cO (cR (cL (cR (cR (cR (cR (cB Try.f135)))))))), (spec_l02All.l2.s k, cO (cR (cL (cR (cR (cR (cR (cR (cR (cB Try.f135)))))))))), (spec_l02All.l3.s k, cO (cR (cL (cR (cR (cR (cR (cR (cR (cR (cR (cB Try.f135))))))))))))]) (by kernel_rfl) ⟨spec_l02All.l0.ok k, spec_l02All.l1.ok k, spec_l02All.l2.ok k, spec_l02All.l3.ok k, trivial⟩) (fun x y h => (spec_l02All.ev k x).trans h)
def spec_Digest (k : Nat) (a1 : Str) : Option (Str) :=
  bif decide (8000 < ((a1.length) : Int)) then
    some ([])
  else
  Option.bind (spec_l02All k a1) fun v2 =>
  some v2
def spec_Digest.sig : Sig := { ps := [.val false .str (ros .str)], rs := [.val false [.v .str]], ntmps := 8 }
def spec_Digest.con (k : Nat) : Con := spec_Digest.sig.con (fun x => spec_Digest k x)
def spec_Digest.C (k : Nat) : Ctx := { ti := TAB, con := conL [(135, spec_l02All.con k)] }
theorem spec_Digest.cok (k : Nat) : CtxOk Try.prog (spec_Digest.C k) := ctx_ok TABok ⟨spec_l02All.ok k, trivial⟩
theorem spec_Digest.ev (k : Nat) (x : Prod' spec_Digest.sig.ins) : spec_Digest.sig.ev (spec_Digest.C k) .auto Try.f102.results.toList (cB Try.f102) x = spec_Digest k x := by kernel_rfl
theorem spec_Digest.ok (k : Nat) : ConOk Try.prog 102 (spec_Digest.con k) := sig_ok (p := .auto) (spec_Digest.cok k) Try.func102 (by kernel_rfl) (show Try.f102.body = some (cB Try.f102) by kernel_rfl) (by kernel_rfl) (by kernel_rfl) (plan_of (L := []) (by kernel_rfl) trivial) (fun x y h => (spec_Digest.ev k x).trans h)
def spec_l01Src_l20Offer (k : Nat) (a1 : G136) : Option (Int × Int × Str × List Int × Int × Int × Int) :=
  Option.bind (spec_l01Src_n a1 12) fun v2 =>
  Option.bind (spec_Digest k ([111] : Str)) fun v3 =>
  let e4 := IntKind.wrap .i64 (1 + v2.1)
  Option.bind (spec_l01Src_n v2.2 (IntKind.wrap .i64 (e4 + 1))) fun v5 =>
  Option.bind (spec_l01Src_one v5.2 12) fun v6 =>
  bif v6.1 then
    Option.bind (spec_l01Src_n v6.2 3) fun v7 =>
    bif v7.1 == 0 then
      Option.bind (spec_l01Src_edge v7.2) fun v8 =>
      some (v8.1, v5.1, v3, v8.2.1, v8.2.2.1, v8.2.2.2.1, v8.2.2.2.2)
    else
    bif v7.1 == 1 then
      Option.bind (spec_l01Src_edge v7.2) fun v9 =>
      some (e4, v9.1, v3, v9.2.1, v9.2.2.1, v9.2.2.2.1, v9.2.2.2.2)
    else
    some (e4, v5.1, ([120] : Str), v7.2.1, v7.2.2.1, v7.2.2.2.1, v7.2.2.2.2)
  else
  some (e4, v5.1, v3, v6.2.1, v6.2.2.1, v6.2.2.2.1, v6.2.2.2.2)
def spec_l01Src_l20Offer.sig : Sig := { ps := [.ref 136 T136 (kept T136)], rs := [.val true [.v (.int .i64), .v (.int .i64), .v .str]], ntmps := 31 }
def spec_l01Src_l20Offer.con (k : Nat) : Con := spec_l01Src_l20Offer.sig.con (fun x => spec_l01Src_l20Offer k x)
def spec_l01Src_l20Offer.C (k : Nat) : Ctx := { ti := TAB, con := conL [(54, spec_l01Src_one.con k), (56, spec_l01Src_n.con k), (101, spec_l01Src_edge.con k), (102, spec_Digest.con k)] }
theorem spec_l01Src_l20Offer.cok (k : Nat) : CtxOk Try.prog (spec_l01Src_l20Offer.C k) := ctx_ok TABok ⟨spec_l01Src_one.ok k, spec_l01Src_n.ok k, spec_l01Src_edge.ok k, spec_Digest.ok k, trivial⟩
theorem spec_l01Src_l20Offer.ev (k : Nat) (x : Prod' spec_l01Src_l20Offer.sig.ins) : spec_l01Src_l20Offer.sig.ev (spec_l01Src_l20Offer.C k) .auto Try.f53.results.toList (cB Try.f53) x = spec_l01Src_l20Offer k x := by kernel_rfl
theorem spec_l01Src_l20Offer.ok (k : Nat) : ConOk Try.prog 53 (spec_l01Src_l20Offer.con k) := sig_ok (p := .auto) (spec_l01Src_l20Offer.cok k) Try.func53 (by kernel_rfl) (show Try.f53.body = some (cB Try.f53) by kernel_rfl) (by kernel_rfl) (by kernel_rfl) (plan_of (L := []) (by kernel_rfl) trivial) (fun x y h => (spec_l01Src_l20Offer.ev k x).trans h)
def spec_DrawSettle (k : Nat) (a1 : List Int) : Option (Int × Int × Int × Int × Str × Bool) :=
  Option.bind (spec_l01Source k a1) fun v2 =>
  Option.bind (spec_l01Src_l20Trust v2) fun v3 =>
  Option.bind (spec_l01Src_l20Offer k v3.2.2) fun v4 =>
  Option.bind (spec_l01Src_one v4.2.2.2 3) fun v5 =>
  some (v3.1, v3.2.1, v4.1, v4.2.1, v4.2.2.1, !v5.1)
def spec_DrawSettle.sig : Sig := { ps := [.val false (.sl (.int .u8)) (kept (.sl (.int .u8)))], rs := [.val true [.v (.int .i64), .v (.int .i64)], .val true [.v (.int .i64), .v (.int .i64), .v .str], .val false [.v .bool]], ntmps := 19 }
def spec_DrawSettle.con (k : Nat) : Con := spec_DrawSettle.sig.con (fun x => spec_DrawSettle k x)
def spec_DrawSettle.C (k : Nat) : Ctx := { ti := TAB, con := conL [(51, spec_l01Source.con k), (52, spec_l01Src_l20Trust.con k), (53, spec_l01Src_l20Offer.con k), (54, spec_l01Src_one.con k)] }
theorem spec_DrawSettle.cok (k : Nat) : CtxOk Try.prog (spec_DrawSettle.C k) := ctx_ok TABok ⟨spec_l01Source.ok k, spec_l01Src_l20Trust.ok k, spec_l01Src_l20Offer.ok k, spec_l01Src_one.ok k, trivial⟩
theorem spec_DrawSettle.ev (k : Nat) (x : Prod' spec_DrawSettle.sig.ins) : spec_DrawSettle.sig.ev (spec_DrawSettle.C k) .auto Try.f13.results.toList (cB Try.f13) x = spec_DrawSettle k x := by kernel_rfl
theorem spec_DrawSettle.ok (k : Nat) : ConOk Try.prog 13 (spec_DrawSettle.con k) := sig_ok (p := .auto) (spec_DrawSettle.cok k) Try.func13 (by kernel_rfl) (show Try.f13.body = some (cB Try.f13) by kernel_rfl) (by kernel_rfl) (by kernel_rfl) (plan_of (L := []) (by kernel_rfl) trivial) (fun x y h => (spec_DrawSettle.ev k x).trans h)
def impl_within (a1 : Int) (a2 : Int) (a3 : Int) : Option (Bool) :=
  some ((decide (a2 ≤ a1)) && (decide (a1 ≤ a3)))
def impl_within.sig : Sig := { ps := [.val false (.int .i64) (ros (.int .i64)), .val false (.int .i64) (ros (.int .i64)), .val false (.int .i64) (ros (.int .i64))], rs := [.val false [.v .bool]], ntmps := 15 }
def impl_within.con (k : Nat) : Con := impl_within.sig.con (fun x => impl_within x.1 x.2.1 x.2.2)
def impl_within.C (k : Nat) : Ctx := { ti := TAB, con := conL [] }
theorem impl_within.cok (k : Nat) : CtxOk Try.prog (impl_within.C k) := ctx_ok TABok trivial
theorem impl_within.ev (k : Nat) (x : Prod' impl_within.sig.ins) : impl_within.sig.ev (impl_within.C k) .auto Try.f42.results.toList (cB Try.f42) x = impl_within x.1 x.2.1 x.2.2 := by kernel_rfl
theorem impl_within.ok (k : Nat) : ConOk Try.prog 42 (impl_within.con k) := sig_ok (p := .auto) (impl_within.cok k) Try.func42 (by kernel_rfl) (show Try.f42.body = some (cB Try.f42) by kernel_rfl) (by kernel_rfl) (by kernel_rfl) (plan_of (L := []) (by kernel_rfl) trivial) (fun x y h => (impl_within.ev k x).trans h)
def impl_isTime (a1 : Int) : Option (Bool) :=
  Option.bind (impl_within a1 0 1000000) fun v2 =>
  some v2
def impl_isTime.sig : Sig := { ps := [.val false (.int .i64) (ros (.int .i64))], rs := [.val false [.v .bool]], ntmps := 5 }
def impl_isTime.con (k : Nat) : Con := impl_isTime.sig.con (fun x => impl_isTime x)
def impl_isTime.C (k : Nat) : Ctx := { ti := TAB, con := conL [(42, impl_within.con k)] }
theorem impl_isTime.cok (k : Nat) : CtxOk Try.prog (impl_isTime.C k) := ctx_ok TABok ⟨impl_within.ok k, trivial⟩
theorem impl_isTime.ev (k : Nat) (x : Prod' impl_isTime.sig.ins) : impl_isTime.sig.ev (impl_isTime.C k) .auto Try.f103.results.toList (cB Try.f103) x = impl_isTime x := by kernel_rfl
theorem impl_isTime.ok (k : Nat) : ConOk Try.prog 103 (impl_isTime.con k) := sig_ok (p := .auto) (impl_isTime.cok k) Try.func103 (by kernel_rfl) (show Try.f103.body = some (cB Try.f103) by kernel_rfl) (by kernel_rfl) (by kernel_rfl) (plan_of (L := []) (by kernel_rfl) trivial) (fun x y h => (impl_isTime.ev k x).trans h)
def impl_isTrust (a1 : G36) : Option (Bool) :=
  Option.bind (impl_isTime a1.1) fun v2 =>
  bif v2 then
    Option.bind (impl_within a1.2 0 a1.1) fun v3 =>
    some v3
  else
  some false
def impl_isTrust.sig : Sig := { ps := [.val true T36 (ros T36)], rs := [.val false [.v .bool]], ntmps := 13 }
def impl_isTrust.con (k : Nat) : Con := impl_isTrust.sig.con (fun x => impl_isTrust x)
def impl_isTrust.C (k : Nat) : Ctx := { ti := TAB, con := conL [(42, impl_within.con k), (103, impl_isTime.con k)] }
theorem impl_isTrust.cok (k : Nat) : CtxOk Try.prog (impl_isTrust.C k) := ctx_ok TABok ⟨impl_within.ok k, impl_isTime.ok k, trivial⟩
theorem impl_isTrust.ev (k : Nat) (x : Prod' impl_isTrust.sig.ins) : impl_isTrust.sig.ev (impl_isTrust.C k) .auto Try.f57.results.toList (cB Try.f57) x = impl_isTrust x := by kernel_rfl
theorem impl_isTrust.ok (k : Nat) : ConOk Try.prog 57 (impl_isTrust.con k) := sig_ok (p := .auto) (impl_isTrust.cok k) Try.func57 (by kernel_rfl) (show Try.f57.body = some (cB Try.f57) by kernel_rfl) (by kernel_rfl) (by kernel_rfl) (plan_of (L := []) (by kernel_rfl) trivial) (fun x y h => (impl_isTrust.ev k x).trans h)
def impl_isOffer (a1 : G38) : Option (Bool) :=
  Option.bind (impl_within a1.1 1 1000000) fun v2 =>
  bif v2 then
    Option.bind (impl_within a1.2.1 0 a1.1) fun v3 =>
    some (v3 && (((a1.2.2.length) : Int) == 32))
  else
  some false
def impl_isOffer.sig : Sig := { ps := [.val true T38 (ros T38)], rs := [.val false [.v .bool]], ntmps := 19 }
def impl_isOffer.con (k : Nat) : Con := impl_isOffer.sig.con (fun x => impl_isOffer x)
def impl_isOffer.C (k : Nat) : Ctx := { ti := TAB, con := conL [(42, impl_within.con k)] }
theorem impl_isOffer.cok (k : Nat) : CtxOk Try.prog (impl_isOffer.C k) := ctx_ok TABok ⟨impl_within.ok k, trivial⟩
theorem impl_isOffer.ev (k : Nat) (x : Prod' impl_isOffer.sig.ins) : impl_isOffer.sig.ev (impl_isOffer.C k) .auto Try.f69.results.toList (cB Try.f69) x = impl_isOffer x := by kernel_rfl
theorem impl_isOffer.ok (k : Nat) : ConOk Try.prog 69 (impl_isOffer.con k) := sig_ok (p := .auto) (impl_isOffer.cok k) Try.func69 (by kernel_rfl) (show Try.f69.body = some (cB Try.f69) by kernel_rfl) (by kernel_rfl) (by kernel_rfl) (plan_of (L := []) (by kernel_rfl) trivial) (fun x y h => (impl_isOffer.ev k x).trans h)
def impl_offerCode (a1 : G36) (a2 : G38) : Option (Int) :=
  Option.bind (impl_isTrust a1) fun v3 =>
  bif !v3 then
    some 1
  else
  Option.bind (impl_isOffer a2) fun v4 =>
  bif !v4 then
    some 1
  else
  bif decide (a2.1 < a1.2) then
    some 8
  else
  bif a2.1 == a1.1 then
    some 7
  else
  some 0
def impl_offerCode.sig : Sig := { ps := [.val true T36 (ros T36), .val true T38 (ros T38)], rs := [.val false [.v (.int .i64)]], ntmps := 26 }
def impl_offerCode.con (k : Nat) : Con := impl_offerCode.sig.con (fun x => impl_offerCode x.1 x.2)
def impl_offerCode.C (k : Nat) : Ctx := { ti := TAB, con := conL [(57, impl_isTrust.con k), (69, impl_isOffer.con k)] }
theorem impl_offerCode.cok (k : Nat) : CtxOk Try.prog (impl_offerCode.C k) := ctx_ok TABok ⟨impl_isTrust.ok k, impl_isOffer.ok k, trivial⟩
theorem impl_offerCode.ev (k : Nat) (x : Prod' impl_offerCode.sig.ins) : impl_offerCode.sig.ev (impl_offerCode.C k) .auto Try.f55.results.toList (cB Try.f55) x = impl_offerCode x.1 x.2 := by kernel_rfl
theorem impl_offerCode.ok (k : Nat) : ConOk Try.prog 55 (impl_offerCode.con k) := sig_ok (p := .auto) (impl_offerCode.cok k) Try.func55 (by kernel_rfl) (show Try.f55.body = some (cB Try.f55) by kernel_rfl) (by kernel_rfl) (by kernel_rfl) (plan_of (L := []) (by kernel_rfl) trivial) (fun x y h => (impl_offerCode.ev k x).trans h)
def impl_Settle (a1 : G36) (a2 : G38) (a3 : Bool) : Option (Int × Int × Int) :=
  Option.bind (impl_offerCode a1 a2) fun v4 =>
  bif v4 != 0 then
    some (0, 0, v4)
  else
  bif a3 then
    some (a2.1, imax a1.2 a2.2.1, 0)
  else
  some (a1.1, a1.2, 0)
def impl_Settle.sig : Sig := { ps := [.val true T36 (ros T36), .val true T38 (ros T38), .val false .bool (ros .bool)], rs := [.val true [.v (.int .i64), .v (.int .i64), .v (.int .i64)]], ntmps := 26 }
def impl_Settle.con (k : Nat) : Con := impl_Settle.sig.con (fun x => impl_Settle x.1 x.2.1 x.2.2)
def impl_Settle.C (k : Nat) : Ctx := { ti := TAB, con := conL [(55, impl_offerCode.con k)] }
theorem impl_Settle.cok (k : Nat) : CtxOk Try.prog (impl_Settle.C k) := ctx_ok TABok ⟨impl_offerCode.ok k, trivial⟩
theorem impl_Settle.ev (k : Nat) (x : Prod' impl_Settle.sig.ins) : impl_Settle.sig.ev (impl_Settle.C k) .auto Try.f14.results.toList (cB Try.f14) x = impl_Settle x.1 x.2.1 x.2.2 := by kernel_rfl
theorem impl_Settle.ok (k : Nat) : ConOk Try.prog 14 (impl_Settle.con k) := sig_ok (p := .auto) (impl_Settle.cok k) Try.func14 (by kernel_rfl) (show Try.f14.body = some (cB Try.f14) by kernel_rfl) (by kernel_rfl) (by kernel_rfl) (plan_of (L := []) (by kernel_rfl) trivial) (fun x y h => (impl_Settle.ev k x).trans h)
def spec_DrawBestOffer.l0 (k : Nat) : Nat → Int → List Int → Int → Int → Int → List G38 → Option ((List Int × Int × Int × Int × List G38))
  | 0, _, _, _, _, _, _ => none
  | j + 1, a1, a2, a3, a4, a5, a6 =>
    bif decide (0 < a1) then
      Option.bind (spec_l01Src_l20Offer k (a2, (a3, (a4, a5)))) fun v7 =>
      Option.bind (app? 32 a6 [(v7.1, (v7.2.1, v7.2.2.1))]) fun v8 =>
      spec_DrawBestOffer.l0 k j (IntKind.wrap .i64 (a1 - 1)) v7.2.2.2.1 v7.2.2.2.2.1 v7.2.2.2.2.2.1 v7.2.2.2.2.2.2 v8
    else
    some (a2, a3, a4, a5, a6)
def spec_DrawBestOffer (k : Nat) (a1 : List Int) : Option (Int × Int × List G38) :=
  Option.bind (spec_l01Source k a1) fun v2 =>
  Option.bind (spec_l01Src_l20Trust v2) fun v3 =>
  Option.bind (spec_l01Src_n v3.2.2 6) fun v4 =>
  Option.bind (spec_DrawBestOffer.l0 k k v4.1 v4.2.1 v4.2.2.1 v4.2.2.2.1 v4.2.2.2.2 []) fun y5 =>
  Option.bind (spec_l01Src_one (y5.1, (y5.2.1, (y5.2.2.1, y5.2.2.2.1))) 25) fun v6 =>
  bif v6.1 then
    Option.bind (spec_l01Src_n v6.2 2) fun v7 =>
    let e8 := IntKind.wrap .i64 (20 + v7.1)
    Option.bind (make? 32 e8 e8 (0, (0, []))) fun v9 =>
    some (v3.1, v3.2.1, v9)
  else
  some (v3.1, v3.2.1, y5.2.2.2.2)
def spec_DrawBestOffer.sig : Sig := { ps := [.val false (.sl (.int .u8)) (kept (.sl (.int .u8)))], rs := [.val true [.v (.int .i64), .v (.int .i64)], .val false [.own 38 T38]], ntmps := 32 }
def spec_DrawBestOffer.con (k : Nat) : Con := spec_DrawBestOffer.sig.con (fun x => spec_DrawBestOffer k x)
def spec_DrawBestOffer.C (k : Nat) : Ctx := { ti := TAB, con := conL [(51, spec_l01Source.con k), (52, spec_l01Src_l20Trust.con k), (53, spec_l01Src_l20Offer.con k), (54, spec_l01Src_one.con k), (56, spec_l01Src_n.con k)] }
theorem spec_DrawBestOffer.cok (k : Nat) : CtxOk Try.prog (spec_DrawBestOffer.C k) := ctx_ok TABok ⟨spec_l01Source.ok k, spec_l01Src_l20Trust.ok k, spec_l01Src_l20Offer.ok k, spec_l01Src_one.ok k, spec_l01Src_n.ok k, trivial⟩
def spec_DrawBestOffer.l0.ish : Shape := { tmps := [(4, .one (.ptr 1 0)), (6, .one (.own 4)), (7, .one (.v (.int .i64)))], slots := [(1, .box 136 [.v (.sl (.int .u8)), .v (.int .i64), .v (.int .u64), .v (.int .i64)]), (4, .arr false 38 T38)], nb := 5 }
def spec_DrawBestOffer.l0.outs : List (Ex × Shape) := [(.exit 0, { tmps := [(6, .one (.own 5))], slots := [(1, .box 136 [.v (.sl (.int .u8)), .v (.int .i64), .v (.int .u64), .v (.int .i64)]), (5, .arr false 38 T38)], nb := 6 })]
def spec_DrawBestOffer.l0.F (k j : Nat) (x : Prod' spec_DrawBestOffer.l0.ish.tys) : Option (Outs spec_DrawBestOffer.l0.outs) := spec_DrawBestOffer.l0 k j x.1 x.2.1 x.2.2.1 x.2.2.2.1 x.2.2.2.2.1 x.2.2.2.2.2
def spec_DrawBestOffer.l0.s (k : Nat) : Summ := { n := 32, ish := spec_DrawBestOffer.l0.ish, outs := spec_DrawBestOffer.l0.outs, f := spec_DrawBestOffer.l0.F k k }
theorem spec_DrawBestOffer.l0.ev (k j : Nat) (x : Prod' spec_DrawBestOffer.l0.ish.tys) : V (spec_DrawBestOffer.C k) .auto (cO (cO (cR (cL (cR (cR (cR (cR (cB Try.f15))))))))) (mk spec_DrawBestOffer.l0.ish 32 x) (fun e st' => match e with | .nrm => (rd spec_DrawBestOffer.l0.ish st').bind (spec_DrawBestOffer.l0.F k j) | e => rdOut e st' spec_DrawBestOffer.l0.outs) = spec_DrawBestOffer.l0.F k (j + 1) x := by kernel_rfl
theorem spec_DrawBestOffer.l0.ok (k : Nat) : SumOk Try.prog (spec_DrawBestOffer.C k) (.loop (cO (cO (cR (cL (cR (cR (cR (cR (cB Try.f15)))))))))) (spec_DrawBestOffer.l0.s k) := sum_ok (by kernel_rfl) (sum_loop (p := .auto) (F := spec_DrawBestOffer.l0.F k) (spec_DrawBestOffer.cok k) (by kernel_rfl) (plan_of (L := []) (by kernel_rfl) trivial) (fun _ => rfl) (fun j x y h => (spec_DrawBestOffer.l0.ev k j x).trans h) k rfl)
theorem spec_DrawBestOffer.ev (k : Nat) (x : Prod' spec_DrawBestOffer.sig.ins) : spec_DrawBestOffer.sig.ev (spec_DrawBestOffer.C k) (.two .auto (.two .auto (.two .auto (.two .auto (.two (.two .auto (.one (.sum (spec_DrawBestOffer.l0.s k)))) .auto))))) Try.f15.results.toList (cB Try.f15) x = spec_DrawBestOffer k x := by kernel_rfl
theorem spec_DrawBestOffer.ok (k : Nat) : ConOk Try.prog 15 (spec_DrawBestOffer.con k) := sig_ok (p := (.two .auto (.two .auto (.two .auto (.two .auto (.two (.two .auto (.one (.sum (spec_DrawBestOffer.l0.s k)))) .auto)))))) (spec_DrawBestOffer.cok k) Try.func15 (by kernel_rfl) (show Try.f15.body = some (cB Try.f15) by kernel_rfl) (by kernel_rfl) (by kernel_rfl) (plan_of (L := [(spec_DrawBestOffer.l0.s k, cO (cR (cL (cR (cR (cR (cR (cB Try.f15))))))))]) (by kernel_rfl) ⟨spec_DrawBestOffer.l0.ok k, trivial⟩) (fun x y h => (spec_DrawBestOffer.ev k x).trans h)
def impl_BestOffer.l0 : Nat → List G38 → Int → List G38 → Int → Int → Int → Int → Option ((Int × Int × Int))
  | 0, _, _, _, _, _, _, _ => none
  | j + 1, a1, a2, a3, a4, a5, a6, a7 =>
    bif decide (a5 < a4) then
      Option.bind (at? a3 a5) fun v8 =>
      Option.bind (impl_offerCode (a6, a7) v8) fun v9 =>
      let e10 := IntKind.wrap .i64 (a5 + 1)
      bif v9 == 0 then
        bif decide (a6 < v8.1) then
          bif decide (a2 < 0) then
            impl_BestOffer.l0 j a1 a5 a3 a4 e10 a6 a7
          else
          Option.bind (at? a1 a2) fun v11 =>
          bif decide (v11.1 < v8.1) then
            impl_BestOffer.l0 j a1 a5 a3 a4 e10 a6 a7
          else
          impl_BestOffer.l0 j a1 a2 a3 a4 e10 a6 a7
        else
        impl_BestOffer.l0 j a1 a2 a3 a4 e10 a6 a7
      else
      impl_BestOffer.l0 j a1 a2 a3 a4 e10 a6 a7
    else
    some (a2, a6, a7)
def impl_BestOffer (k : Nat) (a1 : G36) (a2 : List G38) : Option (Int) :=
  Option.bind (impl_isTrust a1) fun v3 =>
  bif (!v3) || (decide (20 < ((a2.length) : Int))) then
    some (-1)
  else
  Option.bind (impl_BestOffer.l0 k a2 (-1) a2 ((a2.length) : Int) 0 a1.1 a1.2) fun y4 =>
  some y4.1
def impl_BestOffer.sig : Sig := { ps := [.val true T36 (ros T36), .val false (.sl T38) (ros (.sl T38))], rs := [.val false [.v (.int .i64)]], ntmps := 51 }
def impl_BestOffer.con (k : Nat) : Con := impl_BestOffer.sig.con (fun x => impl_BestOffer k x.1 x.2)
def impl_BestOffer.C (k : Nat) : Ctx := { ti := TAB, con := conL [(55, impl_offerCode.con k), (57, impl_isTrust.con k)] }
theorem impl_BestOffer.cok (k : Nat) : CtxOk Try.prog (impl_BestOffer.C k) := ctx_ok TABok ⟨impl_offerCode.ok k, impl_isTrust.ok k, trivial⟩
def impl_BestOffer.l0.ish : Shape := { tmps := [(1, .one (.bor T38)), (2, .one (.ptr 0 0)), (5, .one (.v (.int .i64))), (16, .one (.bor T38)), (17, .one (.v (.int .i64))), (18, .one (.v (.int .i64)))], slots := [(0, .box 36 [.v (.int .i64), .v (.int .i64)])], nb := 1 }
def impl_BestOffer.l0.outs : List (Ex × Shape) := [(.exit 0, { tmps := [(5, .one (.v (.int .i64)))], slots := [(0, .box 36 [.v (.int .i64), .v (.int .i64)])], nb := 1 })]
def impl_BestOffer.l0.F (k j : Nat) (x : Prod' impl_BestOffer.l0.ish.tys) : Option (Outs impl_BestOffer.l0.outs) := impl_BestOffer.l0 j x.1 x.2.1 x.2.2.1 x.2.2.2.1 x.2.2.2.2.1 x.2.2.2.2.2.1 x.2.2.2.2.2.2
def impl_BestOffer.l0.s (k : Nat) : Summ := { n := 51, ish := impl_BestOffer.l0.ish, outs := impl_BestOffer.l0.outs, f := impl_BestOffer.l0.F k k }
theorem impl_BestOffer.l0.ev (k j : Nat) (x : Prod' impl_BestOffer.l0.ish.tys) : V (impl_BestOffer.C k) .auto (cO (cO (cR (cL (cR (cR (cR (cB Try.f16)))))))) (mk impl_BestOffer.l0.ish 51 x) (fun e st' => match e with | .nrm => (rd impl_BestOffer.l0.ish st').bind (impl_BestOffer.l0.F k j) | e => rdOut e st' impl_BestOffer.l0.outs) = impl_BestOffer.l0.F k (j + 1) x := by kernel_rfl
theorem impl_BestOffer.l0.ok (k : Nat) : SumOk Try.prog (impl_BestOffer.C k) (.loop (cO (cO (cR (cL (cR (cR (cR (cB Try.f16))))))))) (impl_BestOffer.l0.s k) := sum_ok (by kernel_rfl) (sum_loop (p := .auto) (F := impl_BestOffer.l0.F k) (impl_BestOffer.cok k) (by kernel_rfl) (plan_of (L := []) (by kernel_rfl) trivial) (fun _ => rfl) (fun j x y h => (impl_BestOffer.l0.ev k j x).trans h) k rfl)
theorem impl_BestOffer.ev (k : Nat) (x : Prod' impl_BestOffer.sig.ins) : impl_BestOffer.sig.ev (impl_BestOffer.C k) (.two .auto (.two .auto (.two .auto (.two (.two .auto (.one (.sum (impl_BestOffer.l0.s k)))) .auto)))) Try.f16.results.toList (cB Try.f16) x = impl_BestOffer k x.1 x.2 := by kernel_rfl
theorem impl_BestOffer.ok (k : Nat) : ConOk Try.prog 16 (impl_BestOffer.con k) := sig_ok (p := (.two .auto (.two .auto (.two .auto (.two (.two .auto (.one (.sum (impl_BestOffer.l0.s k)))) .auto))))) (impl_BestOffer.cok k) Try.func16 (by kernel_rfl) (show Try.f16.body = some (cB Try.f16) by kernel_rfl) (by kernel_rfl) (by kernel_rfl) (plan_of (L := [(impl_BestOffer.l0.s k, cO (cR (cL (cR (cR (cR (cB Try.f16)))))))]) (by kernel_rfl) ⟨impl_BestOffer.l0.ok k, trivial⟩) (fun x y h => (impl_BestOffer.ev k x).trans h)
end Go.Proofs.YtnmbinfgcgjfbaaE

namespace Go.Proofs.YtnmbinfgcgjfbaaE
open Go Go.RowKit
set_option linter.unusedVariables false
def spec_l03Is (a1 : Int) (a2 : Int) (a3 : Int) : Option (Bool) :=
  some ((decide (a2 ≤ a1)) && (decide (a1 ≤ a3)))
def spec_l03Is.sig : Sig := { ps := [.val false (.int .i64) (ros (.int .i64)), .val false (.int .i64) (ros (.int .i64)), .val false (.int .i64) (ros (.int .i64))], rs := [.val false [.v .bool]], ntmps := 15 }
def spec_l03Is.con (k : Nat) : Con := spec_l03Is.sig.con (fun x => spec_l03Is x.1 x.2.1 x.2.2)
def spec_l03Is.C (k : Nat) : Ctx := { ti := TAB, con := conL [] }
theorem spec_l03Is.cok (k : Nat) : CtxOk Try.prog (spec_l03Is.C k) := ctx_ok TABok trivial
theorem spec_l03Is.ev (k : Nat) (x : Prod' spec_l03Is.sig.ins) : spec_l03Is.sig.ev (spec_l03Is.C k) .auto Try.f68.results.toList (cB Try.f68) x = spec_l03Is x.1 x.2.1 x.2.2 := by kernel_rfl
theorem spec_l03Is.ok (k : Nat) : ConOk Try.prog 68 (spec_l03Is.con k) := sig_ok (p := .auto) (spec_l03Is.cok k) Try.func68 (by kernel_rfl) (show Try.f68.body = some (cB Try.f68) by kernel_rfl) (by kernel_rfl) (by kernel_rfl) (plan_of (L := []) (by kernel_rfl) trivial) (fun x y h => (spec_l03Is.ev k x).trans h)
def spec_TrustRight (a1 : G36) : Option (Bool) :=
  Option.bind (spec_l03Is a1.1 0 1000000) fun v2 =>
  bif v2 then
    Option.bind (spec_l03Is a1.2 0 a1.1) fun v3 =>
    some v3
  else
  some false
def spec_TrustRight.sig : Sig := { ps := [.val true T36 (ros T36)], rs := [.val false [.v .bool]], ntmps := 13 }
def spec_TrustRight.con (k : Nat) : Con := spec_TrustRight.sig.con (fun x => spec_TrustRight x)
def spec_TrustRight.C (k : Nat) : Ctx := { ti := TAB, con := conL [(68, spec_l03Is.con k)] }
theorem spec_TrustRight.cok (k : Nat) : CtxOk Try.prog (spec_TrustRight.C k) := ctx_ok TABok ⟨spec_l03Is.ok k, trivial⟩
theorem spec_TrustRight.ev (k : Nat) (x : Prod' spec_TrustRight.sig.ins) : spec_TrustRight.sig.ev (spec_TrustRight.C k) .auto Try.f27.results.toList (cB Try.f27) x = spec_TrustRight x := by kernel_rfl
theorem spec_TrustRight.ok (k : Nat) : ConOk Try.prog 27 (spec_TrustRight.con k) := sig_ok (p := .auto) (spec_TrustRight.cok k) Try.func27 (by kernel_rfl) (show Try.f27.body = some (cB Try.f27) by kernel_rfl) (by kernel_rfl) (by kernel_rfl) (plan_of (L := []) (by kernel_rfl) trivial) (fun x y h => (spec_TrustRight.ev k x).trans h)
def spec_l01Four (a1 : Int) : Option (Str) :=
  Option.bind (nneg? 8) fun v2 =>
  Option.bind (nneg? 16) fun v3 =>
  Option.bind (nneg? 24) fun v4 =>
  some (listByte [(IntKind.wrap .u8 a1), (IntKind.wrap .u8 (shr .i64 a1 8)), (IntKind.wrap .u8 (shr .i64 a1 16)), (IntKind.wrap .u8 (shr .i64 a1 24))])
def spec_l01Four.sig : Sig := { ps := [.val false (.int .i64) (ros (.int .i64))], rs := [.val false [.v .str]], ntmps := 16 }
def spec_l01Four.con (k : Nat) : Con := spec_l01Four.sig.con (fun x => spec_l01Four x)
def spec_l01Four.C (k : Nat) : Ctx := { ti := TAB, con := conL [] }
theorem spec_l01Four.cok (k : Nat) : CtxOk Try.prog (spec_l01Four.C k) := ctx_ok TABok trivial
theorem spec_l01Four.ev (k : Nat) (x : Prod' spec_l01Four.sig.ins) : spec_l01Four.sig.ev (spec_l01Four.C k) .auto Try.f104.results.toList (cB Try.f104) x = spec_l01Four x := by kernel_rfl
theorem spec_l01Four.ok (k : Nat) : ConOk Try.prog 104 (spec_l01Four.con k) := sig_ok (p := .auto) (spec_l01Four.cok k) Try.func104 (by kernel_rfl) (show Try.f104.body = some (cB Try.f104) by kernel_rfl) (by kernel_rfl) (by kernel_rfl) (plan_of (L := []) (by kernel_rfl) trivial) (fun x y h => (spec_l01Four.ev k x).trans h)
def spec_l01Crc.l0 : Nat → Int → Int → Option (Int)
  | 0, _, _ => none
  | j + 1, a1, a2 =>
    bif decide (a2 < 8) then
      let e3 := IntKind.wrap .i64 (a2 + 1)
      bif (intBits .and .u32 a1 1) == 1 then
        Option.bind (nneg? 1) fun v4 =>
        spec_l01Crc.l0 j (intBits .xor .u32 (shr .u32 a1 1) 3988292384) e3
      else
      Option.bind (nneg? 1) fun v5 =>
      spec_l01Crc.l0 j (shr .u32 a1 1) e3
    else
    some a1
def spec_l01Crc.l1 (k : Nat) : Nat → Str → Int → Int → Option (Int)
  | 0, _, _, _ => none
  | j + 1, a1, a2, a3 =>
    bif decide (a3 < ((a1.length) : Int)) then
      Option.bind (at? a1 a3) fun v4 =>
      Option.bind (spec_l01Crc.l0 k (intBits .xor .u32 a2 (IntKind.wrap .u32 (v4.toNat : Int))) 0) fun y5 =>
      spec_l01Crc.l1 k j a1 y5 (IntKind.wrap .i64 (a3 + 1))
    else
    some a2
def spec_l01Crc (k : Nat) (a1 : Int) (a2 : Str) : Option (Int) :=
  Option.bind (spec_l01Crc.l1 k k a2 (intBits .xor .u32 (IntKind.wrap .u32 a1) 4294967295) 0) fun y3 =>
  some (IntKind.wrap .i64 (intBits .xor .u32 y3 4294967295))
def spec_l01Crc.sig : Sig := { ps := [.val false (.int .i64) (ros (.int .i64)), .val false .str (ros .str)], rs := [.val false [.v (.int .i64)]], ntmps := 38 }
def spec_l01Crc.con (k : Nat) : Con := spec_l01Crc.sig.con (fun x => spec_l01Crc k x.1 x.2)
def spec_l01Crc.C (k : Nat) : Ctx := { ti := TAB, con := conL [] }
theorem spec_l01Crc.cok (k : Nat) : CtxOk Try.prog (spec_l01Crc.C k) := ctx_ok TABok trivial
def spec_l01Crc.l0.ish : Shape := { tmps := [(5, .one (.v (.int .u32))), (7, .one (.v (.int .i64)))], slots := [], nb := 0 }
def spec_l01Crc.l0.outs : List (Ex × Shape) := [(.exit 2, { tmps := [(5, .one (.v (.int .u32)))], slots := [], nb := 0 })]
def spec_l01Crc.l0.F (k j : Nat) (x : Prod' spec_l01Crc.l0.ish.tys) : Option (Outs spec_l01Crc.l0.outs) := spec_l01Crc.l0 j x.1 x.2
def spec_l01Crc.l0.s (k : Nat) : Summ := { n := 38, ish := spec_l01Crc.l0.ish, outs := spec_l01Crc.l0.outs, f := spec_l01Crc.l0.F k k }
theorem spec_l01Crc.l0.ev (k j : Nat) (x : Prod' spec_l01Crc.l0.ish.tys) : V (spec_l01Crc.C k) .auto (cO (cO (cR (cR (cO (cL (cR (cO (cO (cR (cL (cR (cR (cB Try.f105)))))))))))))) (mk spec_l01Crc.l0.ish 38 x) (fun e st' => match e with | .nrm => (rd spec_l01Crc.l0.ish st').bind (spec_l01Crc.l0.F k j) | e => rdOut e st' spec_l01Crc.l0.outs) = spec_l01Crc.l0.F k (j + 1) x := by kernel_rfl
theorem spec_l01Crc.l0.ok (k : Nat) : SumOk Try.prog (spec_l01Crc.C k) (.loop (cO (cO (cR (cR (cO (cL (cR (cO (cO (cR (cL (cR (cR (cB Try.f105))))))))))))))) (spec_l01Crc.l0.s k) := sum_ok (by kernel_rfl) (sum_loop (p := .auto) (F := spec_l01Crc.l0.F k) (spec_l01Crc.cok k) (by kernel_rfl) (plan_of (L := []) (by kernel_rfl) trivial) (fun _ => rfl) (fun j x y h => (spec_l01Crc.l0.ev k j x).trans h) k rfl)
def spec_l01Crc.l1.ish : Shape := { tmps := [(1, .one (.v .str)), (5, .one (.v (.int .u32))), (6, .one (.v (.int .i64)))], slots := [], nb := 0 }
def spec_l01Crc.l1.outs : List (Ex × Shape) := [(.exit 0, { tmps := [(5, .one (.v (.int .u32)))], slots := [], nb := 0 })]
def spec_l01Crc.l1.F (k j : Nat) (x : Prod' spec_l01Crc.l1.ish.tys) : Option (Outs spec_l01Crc.l1.outs) := spec_l01Crc.l1 k j x.1 x.2.1 x.2.2
def spec_l01Crc.l1.s (k : Nat) : Summ := { n := 38, ish := spec_l01Crc.l1.ish, outs := spec_l01Crc.l1.outs, f := spec_l01Crc.l1.F k k }
theorem spec_l01Crc.l1.ev (k j : Nat) (x : Prod' spec_l01Crc.l1.ish.tys) : V (spec_l01Crc.C k) (.two .auto (.two (.one (.two .auto (.two .auto (.one (.sum (spec_l01Crc.l0.s k)))))) .auto)) (cO (cO (cR (cL (cR (cR (cB Try.f105))))))) (mk spec_l01Crc.l1.ish 38 x) (fun e st' => match e with | .nrm => (rd spec_l01Crc.l1.ish st').bind (spec_l01Crc.l1.F k j) | e => rdOut e st' spec_l01Crc.l1.outs) = spec_l01Crc.l1.F k (j + 1) x := by kernel_rfl
theorem spec_l01Crc.l1.ok (k : Nat) : SumOk Try.prog (spec_l01Crc.C k) (.loop (cO (cO (cR (cL (cR (cR (cB Try.f105)))))))) (spec_l01Crc.l1.s k) := sum_ok (by kernel_rfl) (sum_loop (p := (.two .auto (.two (.one (.two .auto (.two .auto (.one (.sum (spec_l01Crc.l0.s k)))))) .auto))) (F := spec_l01Crc.l1.F k) (spec_l01Crc.cok k) (by kernel_rfl) (plan_of (L := [(spec_l01Crc.l0.s k, cO (cR (cR (cO (cL (cR (cO (cO (cR (cL (cR (cR (cB Try.f105)))))))))))))]) (by kernel_rfl) ⟨spec_l01Crc.l0.ok k, trivial⟩) (fun _ => rfl) (fun j x y h => (spec_l01Crc.l1.ev k j x).trans h) k rfl)
theorem spec_l01Crc.ev (k : Nat) (x : Prod' spec_l01Crc.sig.ins) : spec_l01Crc.sig.ev (spec_l01Crc.C k) (.two .auto (.two .auto (.two (.two .auto (.one (.sum (spec_l01Crc.l1.s k)))) .auto))) Try.f105.results.toList (cB Try.f105) x = spec_l01Crc k x.1 x.2 := by kernel_rfl
theorem spec_l01Crc.ok (k : Nat) : ConOk Try.prog 105 (spec_l01Crc.con k) := sig_ok (p := (.two .auto (.two .auto (.two (.two .auto (.one (.sum (spec_l01Crc.l1.s k)))) .auto)))) (spec_l01Crc.cok k) Try.func105 (by kernel_rfl) (show Try.f105.body = some (cB Try.f105) by kernel_rfl) (by kernel_rfl) (by kernel_rfl) (plan_of (L := [(spec_l01Crc.l1.s k, cO (cR (cL (cR (cR (cB Try.f105))))))]) (by kernel_rfl) ⟨spec_l01Crc.l1.ok k, trivial⟩) (fun x y h => (spec_l01Crc.ev k x).trans h)
def spec_Seal (k : Nat) (a1 : Str) : Option (Str) :=
  bif decide (7996 < ((a1.length) : Int)) then
    some ([])
  else
  Option.bind (spec_l01Crc k 0 a1) fun v2 =>
  Option.bind (spec_l01Four v2) fun v3 =>
  Option.bind (cat? a1 v3) fun v4 =>
  some v4
def spec_Seal.sig : Sig := { ps := [.val false .str (ros .str)], rs := [.val false [.v .str]], ntmps := 11 }
def spec_Seal.con (k : Nat) : Con := spec_Seal.sig.con (fun x => spec_Seal k x)
def spec_Seal.C (k : Nat) : Ctx := { ti := TAB, con := conL [(104, spec_l01Four.con k), (105, spec_l01Crc.con k)] }
theorem spec_Seal.cok (k : Nat) : CtxOk Try.prog (spec_Seal.C k) := ctx_ok TABok ⟨spec_l01Four.ok k, spec_l01Crc.ok k, trivial⟩
theorem spec_Seal.ev (k : Nat) (x : Prod' spec_Seal.sig.ins) : spec_Seal.sig.ev (spec_Seal.C k) .auto Try.f59.results.toList (cB Try.f59) x = spec_Seal k x := by kernel_rfl
theorem spec_Seal.ok (k : Nat) : ConOk Try.prog 59 (spec_Seal.con k) := sig_ok (p := .auto) (spec_Seal.cok k) Try.func59 (by kernel_rfl) (show Try.f59.body = some (cB Try.f59) by kernel_rfl) (by kernel_rfl) (by kernel_rfl) (plan_of (L := []) (by kernel_rfl) trivial) (fun x y h => (spec_Seal.ev k x).trans h)
def spec_l01Fold (a1 : Int) : Option (Int) :=
  bif decide (a1 < 0) then
    some (IntKind.wrap .u64 ((IntKind.wrap .u64 (2 * (IntKind.wrap .u64 (IntKind.wrap .i64 (0 - (IntKind.wrap .i64 (a1 + 1))))))) + 1))
  else
  some (IntKind.wrap .u64 (2 * (IntKind.wrap .u64 a1)))
def spec_l01Fold.sig : Sig := { ps := [.val false (.int .i64) (ros (.int .i64))], rs := [.val false [.v (.int .u64)]], ntmps := 14 }
def spec_l01Fold.con (k : Nat) : Con := spec_l01Fold.sig.con (fun x => spec_l01Fold x)
def spec_l01Fold.C (k : Nat) : Ctx := { ti := TAB, con := conL [] }
theorem spec_l01Fold.cok (k : Nat) : CtxOk Try.prog (spec_l01Fold.C k) := ctx_ok TABok trivial
theorem spec_l01Fold.ev (k : Nat) (x : Prod' spec_l01Fold.sig.ins) : spec_l01Fold.sig.ev (spec_l01Fold.C k) .auto Try.f110.results.toList (cB Try.f110) x = spec_l01Fold x := by kernel_rfl
theorem spec_l01Fold.ok (k : Nat) : ConOk Try.prog 110 (spec_l01Fold.con k) := sig_ok (p := .auto) (spec_l01Fold.cok k) Try.func110 (by kernel_rfl) (show Try.f110.body = some (cB Try.f110) by kernel_rfl) (by kernel_rfl) (by kernel_rfl) (plan_of (L := []) (by kernel_rfl) trivial) (fun x y h => (spec_l01Fold.ev k x).trans h)
def spec_PutNum.l0 : Nat → Int → List Int → Option ((Int × List Int))
  | 0, _, _ => none
  | j + 1, a1, a2 =>
    bif decide (128 ≤ a1) then
      Option.bind (nz? 128) fun v3 =>
      Option.bind (app? 1 a2 [(IntKind.wrap .u8 (IntKind.wrap .u64 ((Int.tmod a1 128) + 128)))]) fun v4 =>
      Option.bind (nz? 128) fun v5 =>
      spec_PutNum.l0 j (IntKind.wrap .u64 (Int.tdiv a1 128)) v4
    else
    some (a1, a2)
def spec_PutNum (k : Nat) (a1 : Int) : Option (Str) :=
  Option.bind (spec_l01Fold a1) fun v2 =>
  Option.bind (spec_PutNum.l0 k v2 []) fun y3 =>
  Option.bind (app? 1 y3.2 [(IntKind.wrap .u8 y3.1)]) fun v4 =>
  some (listByte v4)
def spec_PutNum.sig : Sig := { ps := [.val false (.int .i64) (ros (.int .i64))], rs := [.val false [.v .str]], ntmps := 25 }
def spec_PutNum.con (k : Nat) : Con := spec_PutNum.sig.con (fun x => spec_PutNum k x)
def spec_PutNum.C (k : Nat) : Ctx := { ti := TAB, con := conL [(110, spec_l01Fold.con k)] }
theorem spec_PutNum.cok (k : Nat) : CtxOk Try.prog (spec_PutNum.C k) := ctx_ok TABok ⟨spec_l01Fold.ok k, trivial⟩
def spec_PutNum.l0.ish : Shape := { tmps := [(3, .one (.v (.int .u64))), (4, .one (.own 1))], slots := [(1, .arr false 5 (.int .u8))], nb := 2 }
def spec_PutNum.l0.outs : List (Ex × Shape) := [(.exit 0, { tmps := [(3, .one (.v (.int .u64))), (4, .one (.own 2))], slots := [(2, .arr false 5 (.int .u8))], nb := 3 })]
def spec_PutNum.l0.F (k j : Nat) (x : Prod' spec_PutNum.l0.ish.tys) : Option (Outs spec_PutNum.l0.outs) := spec_PutNum.l0 j x.1 x.2
def spec_PutNum.l0.s (k : Nat) : Summ := { n := 25, ish := spec_PutNum.l0.ish, outs := spec_PutNum.l0.outs, f := spec_PutNum.l0.F k k }
theorem spec_PutNum.l0.ev (k j : Nat) (x : Prod' spec_PutNum.l0.ish.tys) : V (spec_PutNum.C k) .auto (cO (cO (cL (cR (cR (cR (cB Try.f67))))))) (mk spec_PutNum.l0.ish 25 x) (fun e st' => match e with | .nrm => (rd spec_PutNum.l0.ish st').bind (spec_PutNum.l0.F k j) | e => rdOut e st' spec_PutNum.l0.outs) = spec_PutNum.l0.F k (j + 1) x := by kernel_rfl
theorem spec_PutNum.l0.ok (k : Nat) : SumOk Try.prog (spec_PutNum.C k) (.loop (cO (cO (cL (cR (cR (cR (cB Try.f67)))))))) (spec_PutNum.l0.s k) := sum_ok (by kernel_rfl) (sum_loop (p := .auto) (F := spec_PutNum.l0.F k) (spec_PutNum.cok k) (by kernel_rfl) (plan_of (L := []) (by kernel_rfl) trivial) (fun _ => rfl) (fun j x y h => (spec_PutNum.l0.ev k j x).trans h) k rfl)
theorem spec_PutNum.ev (k : Nat) (x : Prod' spec_PutNum.sig.ins) : spec_PutNum.sig.ev (spec_PutNum.C k) (.two .auto (.two .auto (.two .auto (.two (.one (.sum (spec_PutNum.l0.s k))) .auto)))) Try.f67.results.toList (cB Try.f67) x = spec_PutNum k x := by kernel_rfl
theorem spec_PutNum.ok (k : Nat) : ConOk Try.prog 67 (spec_PutNum.con k) := sig_ok (p := (.two .auto (.two .auto (.two .auto (.two (.one (.sum (spec_PutNum.l0.s k))) .auto))))) (spec_PutNum.cok k) Try.func67 (by kernel_rfl) (show Try.f67.body = some (cB Try.f67) by kernel_rfl) (by kernel_rfl) (by kernel_rfl) (plan_of (L := [(spec_PutNum.l0.s k, cO (cL (cR (cR (cR (cB Try.f67))))))]) (by kernel_rfl) ⟨spec_PutNum.l0.ok k, trivial⟩) (fun x y h => (spec_PutNum.ev k x).trans h)
def spec_TrustBytes (k : Nat) (a1 : G36) : Option (Str) :=
  Option.bind (spec_TrustRight a1) fun v2 =>
  bif !v2 then
    some ([])
  else
  Option.bind (spec_PutNum k a1.1) fun v3 =>
  Option.bind (spec_PutNum k a1.2) fun v4 =>
  Option.bind (cat? v3 v4) fun v5 =>
  Option.bind (spec_Seal k v5) fun v6 =>
  some v6
def spec_TrustBytes.sig : Sig := { ps := [.val true T36 (ros T36)], rs := [.val false [.v .str]], ntmps := 14 }
def spec_TrustBytes.con (k : Nat) : Con := spec_TrustBytes.sig.con (fun x => spec_TrustBytes k x)
def spec_TrustBytes.C (k : Nat) : Ctx := { ti := TAB, con := conL [(27, spec_TrustRight.con k), (59, spec_Seal.con k), (67, spec_PutNum.con k)] }
theorem spec_TrustBytes.cok (k : Nat) : CtxOk Try.prog (spec_TrustBytes.C k) := ctx_ok TABok ⟨spec_TrustRight.ok k, spec_Seal.ok k, spec_PutNum.ok k, trivial⟩
theorem spec_TrustBytes.ev (k : Nat) (x : Prod' spec_TrustBytes.sig.ins) : spec_TrustBytes.sig.ev (spec_TrustBytes.C k) .auto Try.f23.results.toList (cB Try.f23) x = spec_TrustBytes k x := by kernel_rfl
theorem spec_TrustBytes.ok (k : Nat) : ConOk Try.prog 23 (spec_TrustBytes.con k) := sig_ok (p := .auto) (spec_TrustBytes.cok k) Try.func23 (by kernel_rfl) (show Try.f23.body = some (cB Try.f23) by kernel_rfl) (by kernel_rfl) (by kernel_rfl) (plan_of (L := []) (by kernel_rfl) trivial) (fun x y h => (spec_TrustBytes.ev k x).trans h)
def spec_l01Src_spoil (a1 : G136) (a2 : Str) : Option (Str × List Int × Int × Int × Int) :=
  Option.bind (spec_l01Src_n a1 (IntKind.wrap .i64 (((a2.length) : Int) + 1))) fun v3 =>
  Option.bind (spec_l01Src_n v3.2 17) fun v4 =>
  Option.bind (at? ([32, 10, 48, 97, 45, 110, 44, 58, 93, 255, 40, 120, 126, 49, 128, 225, 59] : Str) v4.1) fun v5 =>
  let e6 := listByte [(v5.toNat : Int)]
  let e7 := cut? a2 0 v3.1
  let e8 := cut? a2 v3.1 ((a2.length) : Int)
  bif v3.1 == ((a2.length) : Int) then
    Option.bind (e7) fun v9 =>
    Option.bind (cat? v9 e6) fun v10 =>
    Option.bind (e8) fun v11 =>
    Option.bind (cat? v10 v11) fun v12 =>
    some (v12, v4.2.1, v4.2.2.1, v4.2.2.2.1, v4.2.2.2.2)
  else
  Option.bind (spec_l01Src_one v4.2 3) fun v13 =>
  bif v13.1 then
    Option.bind (e7) fun v14 =>
    Option.bind (cat? v14 e6) fun v15 =>
    Option.bind (e8) fun v16 =>
    Option.bind (cat? v15 v16) fun v17 =>
    some (v17, v13.2.1, v13.2.2.1, v13.2.2.2.1, v13.2.2.2.2)
  else
  Option.bind (spec_l01Src_one v13.2 2) fun v18 =>
  let e19 := cut? a2 (IntKind.wrap .i64 (v3.1 + 1)) ((a2.length) : Int)
  bif v18.1 then
    Option.bind (e7) fun v20 =>
    Option.bind (e19) fun v21 =>
    Option.bind (cat? v20 v21) fun v22 =>
    some (v22, v18.2.1, v18.2.2.1, v18.2.2.2.1, v18.2.2.2.2)
  else
  Option.bind (e7) fun v23 =>
  Option.bind (cat? v23 e6) fun v24 =>
  Option.bind (e19) fun v25 =>
  Option.bind (cat? v24 v25) fun v26 =>
  some (v26, v18.2.1, v18.2.2.1, v18.2.2.2.1, v18.2.2.2.2)
def spec_l01Src_spoil.sig : Sig := { ps := [.ref 136 T136 (kept T136), .val false .str (ros .str)], rs := [.val false [.v .str]], ntmps := 54 }
def spec_l01Src_spoil.con (k : Nat) : Con := spec_l01Src_spoil.sig.con (fun x => spec_l01Src_spoil x.1 x.2)
def spec_l01Src_spoil.C (k : Nat) : Ctx := { ti := TAB, con := conL [(54, spec_l01Src_one.con k), (56, spec_l01Src_n.con k)] }
theorem spec_l01Src_spoil.cok (k : Nat) : CtxOk Try.prog (spec_l01Src_spoil.C k) := ctx_ok TABok ⟨spec_l01Src_one.ok k, spec_l01Src_n.ok k, trivial⟩
theorem spec_l01Src_spoil.ev (k : Nat) (x : Prod' spec_l01Src_spoil.sig.ins) : spec_l01Src_spoil.sig.ev (spec_l01Src_spoil.C k) .auto Try.f58.results.toList (cB Try.f58) x = spec_l01Src_spoil x.1 x.2 := by kernel_rfl
theorem spec_l01Src_spoil.ok (k : Nat) : ConOk Try.prog 58 (spec_l01Src_spoil.con k) := sig_ok (p := .auto) (spec_l01Src_spoil.cok k) Try.func58 (by kernel_rfl) (show Try.f58.body = some (cB Try.f58) by kernel_rfl) (by kernel_rfl) (by kernel_rfl) (plan_of (L := []) (by kernel_rfl) trivial) (fun x y h => (spec_l01Src_spoil.ev k x).trans h)
def spec_Unseal (k : Nat) (a1 : Str) : Option (Str × Int × Int) :=
  bif decide (8000 < ((a1.length) : Int)) then
    some ([], 0, 2)
  else
  bif decide (((a1.length) : Int) < 4) then
    some ([], 0, 4)
  else
  let e2 := IntKind.wrap .i64 (((a1.length) : Int) - 4)
  Option.bind (cut? a1 0 e2) fun v3 =>
  Option.bind (spec_l01Crc k 0 v3) fun v4 =>
  Option.bind (spec_l01Four v4) fun v5 =>
  Option.bind (cut? a1 e2 ((a1.length) : Int)) fun v6 =>
  bif !(v5 == v6) then
    some ([], 0, 5)
  else
  some (v3, 0, 0)
def spec_Unseal.sig : Sig := { ps := [.val false .str (ros .str)], rs := [.val true [.v .str, .v (.int .i64), .v (.int .i64)]], ntmps := 29 }
def spec_Unseal.con (k : Nat) : Con := spec_Unseal.sig.con (fun x => spec_Unseal k x)
def spec_Unseal.C (k : Nat) : Ctx := { ti := TAB, con := conL [(104, spec_l01Four.con k), (105, spec_l01Crc.con k)] }
theorem spec_Unseal.cok (k : Nat) : CtxOk Try.prog (spec_Unseal.C k) := ctx_ok TABok ⟨spec_l01Four.ok k, spec_l01Crc.ok k, trivial⟩
theorem spec_Unseal.ev (k : Nat) (x : Prod' spec_Unseal.sig.ins) : spec_Unseal.sig.ev (spec_Unseal.C k) .auto Try.f60.results.toList (cB Try.f60) x = spec_Unseal k x := by kernel_rfl
theorem spec_Unseal.ok (k : Nat) : ConOk Try.prog 60 (spec_Unseal.con k) := sig_ok (p := .auto) (spec_Unseal.cok k) Try.func60 (by kernel_rfl) (show Try.f60.body = some (cB Try.f60) by kernel_rfl) (by kernel_rfl) (by kernel_rfl) (plan_of (L := []) (by kernel_rfl) trivial) (fun x y h => (spec_Unseal.ev k x).trans h)
def spec_DrawTrustRead (k : Nat) (a1 : List Int) : Option (Str) :=
  Option.bind (spec_l01Source k a1) fun v2 =>
  Option.bind (spec_l01Src_l20Trust v2) fun v3 =>
  Option.bind (spec_TrustBytes k (v3.1, v3.2.1)) fun v4 =>
  Option.bind (spec_l01Src_n v3.2.2 5) fun v5 =>
  bif v5.1 == 0 then
    Option.bind (spec_l01Src_spoil v5.2 v4) fun v6 =>
    some v6.1
  else
  bif v5.1 == 1 then
    Option.bind (spec_l01Src_n v5.2 (IntKind.wrap .i64 (((v4.length) : Int) + 1))) fun v7 =>
    Option.bind (cut? v4 0 v7.1) fun v8 =>
    some v8
  else
  bif v5.1 == 2 then
    Option.bind (spec_Unseal k v4) fun v9 =>
    Option.bind (spec_l01Src_spoil v5.2 v9.1) fun v10 =>
    Option.bind (spec_Seal k v10.1) fun v11 =>
    some v11
  else
  some v4
def spec_DrawTrustRead.sig : Sig := { ps := [.val false (.sl (.int .u8)) (kept (.sl (.int .u8)))], rs := [.val false [.v .str]], ntmps := 35 }
def spec_DrawTrustRead.con (k : Nat) : Con := spec_DrawTrustRead.sig.con (fun x => spec_DrawTrustRead k x)
def spec_DrawTrustRead.C (k : Nat) : Ctx := { ti := TAB, con := conL [(23, spec_TrustBytes.con k), (51, spec_l01Source.con k), (52, spec_l01Src_l20Trust.con k), (56, spec_l01Src_n.con k), (58, spec_l01Src_spoil.con k), (59, spec_Seal.con k), (60, spec_Unseal.con k)] }
theorem spec_DrawTrustRead.cok (k : Nat) : CtxOk Try.prog (spec_DrawTrustRead.C k) := ctx_ok TABok ⟨spec_TrustBytes.ok k, spec_l01Source.ok k, spec_l01Src_l20Trust.ok k, spec_l01Src_n.ok k, spec_l01Src_spoil.ok k, spec_Seal.ok k, spec_Unseal.ok k, trivial⟩
theorem spec_DrawTrustRead.ev (k : Nat) (x : Prod' spec_DrawTrustRead.sig.ins) : spec_DrawTrustRead.sig.ev (spec_DrawTrustRead.C k) .auto Try.f17.results.toList (cB Try.f17) x = spec_DrawTrustRead k x := by kernel_rfl
theorem spec_DrawTrustRead.ok (k : Nat) : ConOk Try.prog 17 (spec_DrawTrustRead.con k) := sig_ok (p := .auto) (spec_DrawTrustRead.cok k) Try.func17 (by kernel_rfl) (show Try.f17.body = some (cB Try.f17) by kernel_rfl) (by kernel_rfl) (by kernel_rfl) (plan_of (L := []) (by kernel_rfl) trivial) (fun x y h => (spec_DrawTrustRead.ev k x).trans h)
def impl_crcMore.l0 : Nat → Str → Int → Int → Int → Option (Int)
  | 0, _, _, _, _ => none
  | j + 1, a1, a2, a3, a4 =>
    bif decide (a4 < 8) then
      Option.bind (at? a1 a3) fun v5 =>
      Option.bind (nneg? a4) fun v6 =>
      Option.bind (nneg? 1) fun v7 =>
      let e8 := IntKind.wrap .i64 (a4 + 1)
      bif (intBits .and .u32 (intBits .xor .u32 a2 (shr .u32 (IntKind.wrap .u32 (v5.toNat : Int)) a4)) 1) == 1 then
        impl_crcMore.l0 j a1 (intBits .xor .u32 (shr .u32 a2 1) 3988292384) a3 e8
      else
      impl_crcMore.l0 j a1 (shr .u32 a2 1) a3 e8
    else
    some a2
def impl_crcMore.l1 (k : Nat) : Nat → Str → Int → Int → Int → Option (Int)
  | 0, _, _, _, _ => none
  | j + 1, a1, a2, a3, a4 =>
    bif decide (a4 < a3) then
      Option.bind (impl_crcMore.l0 k a1 a2 a4 0) fun y5 =>
      impl_crcMore.l1 k j a1 y5 a3 (IntKind.wrap .i64 (a4 + 1))
    else
    some a2
def impl_crcMore (k : Nat) (a1 : Int) (a2 : Str) : Option (Int) :=
  Option.bind (impl_crcMore.l1 k k a2 (intBits .xor .u32 (IntKind.max .u32) a1) ((a2.length) : Int) 0) fun y3 =>
  some (intBits .xor .u32 (IntKind.max .u32) y3)
def impl_crcMore.sig : Sig := { ps := [.val false (.int .u32) (ros (.int .u32)), .val false .str (ros .str)], rs := [.val false [.v (.int .u32)]], ntmps := 38 }
def impl_crcMore.con (k : Nat) : Con := impl_crcMore.sig.con (fun x => impl_crcMore k x.1 x.2)
def impl_crcMore.C (k : Nat) : Ctx := { ti := TAB, con := conL [] }
theorem impl_crcMore.cok (k : Nat) : CtxOk Try.prog (impl_crcMore.C k) := ctx_ok TABok trivial
def impl_crcMore.l0.ish : Shape := { tmps := [(1, .one (.v .str)), (5, .one (.v (.int .u32))), (6, .one (.v (.int .i64))), (16, .one (.v (.int .i64)))], slots := [], nb := 0 }
def impl_crcMore.l0.outs : List (Ex × Shape) := [(.exit 2, { tmps := [(5, .one (.v (.int .u32)))], slots := [], nb := 0 })]
def impl_crcMore.l0.F (k j : Nat) (x : Prod' impl_crcMore.l0.ish.tys) : Option (Outs impl_crcMore.l0.outs) := impl_crcMore.l0 j x.1 x.2.1 x.2.2.1 x.2.2.2
def impl_crcMore.l0.s (k : Nat) : Summ := { n := 38, ish := impl_crcMore.l0.ish, outs := impl_crcMore.l0.outs, f := impl_crcMore.l0.F k k }
theorem impl_crcMore.l0.ev (k j : Nat) (x : Prod' impl_crcMore.l0.ish.tys) : V (impl_crcMore.C k) .auto (cO (cO (cR (cR (cO (cL (cR (cR (cO (cO (cR (cL (cR (cR (cB Try.f106))))))))))))))) (mk impl_crcMore.l0.ish 38 x) (fun e st' => match e with | .nrm => (rd impl_crcMore.l0.ish st').bind (impl_crcMore.l0.F k j) | e => rdOut e st' impl_crcMore.l0.outs) = impl_crcMore.l0.F k (j + 1) x := by kernel_rfl
theorem impl_crcMore.l0.ok (k : Nat) : SumOk Try.prog (impl_crcMore.C k) (.loop (cO (cO (cR (cR (cO (cL (cR (cR (cO (cO (cR (cL (cR (cR (cB Try.f106)))))))))))))))) (impl_crcMore.l0.s k) := sum_ok (by kernel_rfl) (sum_loop (p := .auto) (F := impl_crcMore.l0.F k) (impl_crcMore.cok k) (by kernel_rfl) (plan_of (L := []) (by kernel_rfl) trivial) (fun _ => rfl) (fun j x y h => (impl_crcMore.l0.ev k j x).trans h) k rfl)
def impl_crcMore.l1.ish : Shape := { tmps := [(1, .one (.v .str)), (5, .one (.v (.int .u32))), (12, .one (.v (.int .i64))), (13, .one (.v (.int .i64)))], slots := [], nb := 0 }
def impl_crcMore.l1.outs : List (Ex × Shape) := [(.exit 0, { tmps := [(5, .one (.v (.int .u32)))], slots := [], nb := 0 })]
def impl_crcMore.l1.F (k j : Nat) (x : Prod' impl_crcMore.l1.ish.tys) : Option (Outs impl_crcMore.l1.outs) := impl_crcMore.l1 k j x.1 x.2.1 x.2.2.1 x.2.2.2
def impl_crcMore.l1.s (k : Nat) : Summ := { n := 38, ish := impl_crcMore.l1.ish, outs := impl_crcMore.l1.outs, f := impl_crcMore.l1.F k k }
theorem impl_crcMore.l1.ev (k j : Nat) (x : Prod' impl_crcMore.l1.ish.tys) : V (impl_crcMore.C k) (.two .auto (.two .auto (.two (.one (.two .auto (.two .auto (.one (.sum (impl_crcMore.l0.s k)))))) .auto))) (cO (cO (cR (cL (cR (cR (cB Try.f106))))))) (mk impl_crcMore.l1.ish 38 x) (fun e st' => match e with | .nrm => (rd impl_crcMore.l1.ish st').bind (impl_crcMore.l1.F k j) | e => rdOut e st' impl_crcMore.l1.outs) = impl_crcMore.l1.F k (j + 1) x := by kernel_rfl
theorem impl_crcMore.l1.ok (k : Nat) : SumOk Try.prog (impl_crcMore.C k) (.loop (cO (cO (cR (cL (cR (cR (cB Try.f106)))))))) (impl_crcMore.l1.s k) := sum_ok (by kernel_rfl) (sum_loop (p := (.two .auto (.two .auto (.two (.one (.two .auto (.two .auto (.one (.sum (impl_crcMore.l0.s k)))))) .auto)))) (F := impl_crcMore.l1.F k) (impl_crcMore.cok k) (by kernel_rfl) (plan_of (L := [(impl_crcMore.l0.s k, cO (cR (cR (cO (cL (cR (cR (cO (cO (cR (cL (cR (cR (cB Try.f106))))))))))))))]) (by kernel_rfl) ⟨impl_crcMore.l0.ok k, trivial⟩) (fun _ => rfl) (fun j x y h => (impl_crcMore.l1.ev k j x).trans h) k rfl)
theorem impl_crcMore.ev (k : Nat) (x : Prod' impl_crcMore.sig.ins) : impl_crcMore.sig.ev (impl_crcMore.C k) (.two .auto (.two .auto (.two (.two .auto (.one (.sum (impl_crcMore.l1.s k)))) .auto))) Try.f106.results.toList (cB Try.f106) x = impl_crcMore k x.1 x.2 := by kernel_rfl
theorem impl_crcMore.ok (k : Nat) : ConOk Try.prog 106 (impl_crcMore.con k) := sig_ok (p := (.two .auto (.two .auto (.two (.two .auto (.one (.sum (impl_crcMore.l1.s k)))) .auto)))) (impl_crcMore.cok k) Try.func106 (by kernel_rfl) (show Try.f106.body = some (cB Try.f106) by kernel_rfl) (by kernel_rfl) (by kernel_rfl) (plan_of (L := [(impl_crcMore.l1.s k, cO (cR (cL (cR (cR (cB Try.f106))))))]) (by kernel_rfl) ⟨impl_crcMore.l1.ok k, trivial⟩) (fun x y h => (impl_crcMore.ev k x).trans h)
def impl_seal (k : Nat) (a1 : Str) : Option (Str) :=
  Option.bind (impl_crcMore k 0 a1) fun v2 =>
  Option.bind (nneg? 8) fun v3 =>
  Option.bind (nneg? 16) fun v4 =>
  Option.bind (nneg? 24) fun v5 =>
  Option.bind (cat? a1 (listByte [(IntKind.wrap .u8 v2), (IntKind.wrap .u8 (shr .u32 v2 8)), (IntKind.wrap .u8 (shr .u32 v2 16)), (IntKind.wrap .u8 (shr .u32 v2 24))])) fun v6 =>
  some v6
def impl_seal.sig : Sig := { ps := [.val false .str (ros .str)], rs := [.val false [.v .str]], ntmps := 21 }
def impl_seal.con (k : Nat) : Con := impl_seal.sig.con (fun x => impl_seal k x)
def impl_seal.C (k : Nat) : Ctx := { ti := TAB, con := conL [(106, impl_crcMore.con k)] }
theorem impl_seal.cok (k : Nat) : CtxOk Try.prog (impl_seal.C k) := ctx_ok TABok ⟨impl_crcMore.ok k, trivial⟩
theorem impl_seal.ev (k : Nat) (x : Prod' impl_seal.sig.ins) : impl_seal.sig.ev (impl_seal.C k) .auto Try.f61.results.toList (cB Try.f61) x = impl_seal k x := by kernel_rfl
theorem impl_seal.ok (k : Nat) : ConOk Try.prog 61 (impl_seal.con k) := sig_ok (p := .auto) (impl_seal.cok k) Try.func61 (by kernel_rfl) (show Try.f61.body = some (cB Try.f61) by kernel_rfl) (by kernel_rfl) (by kernel_rfl) (plan_of (L := []) (by kernel_rfl) trivial) (fun x y h => (impl_seal.ev k x).trans h)
def impl_putNum.j0 (a1 : Int) (a2 : Int) : Option (Int) :=
  bif decide (a1 < 0) then
    some (intBits .xor .u64 (IntKind.max .u64) a2)
  else
  some a2
def impl_putNum.l1 : Nat → Int → List Int → Option ((Int × List Int))
  | 0, _, _ => none
  | j + 1, a1, a2 =>
    bif decide (127 < a1) then
      Option.bind (app? 1 a2 [(intBits .or .u8 (IntKind.wrap .u8 a1) 128)]) fun v3 =>
      Option.bind (nneg? 7) fun v4 =>
      impl_putNum.l1 j (shr .u64 a1 7) v3
    else
    some (a1, a2)
def impl_putNum (k : Nat) (a1 : Int) : Option (Str) :=
  Option.bind (nneg? 1) fun v2 =>
  Option.bind (impl_putNum.j0 a1 (shl .u64 (IntKind.wrap .u64 a1) 1)) fun y3 =>
  Option.bind (impl_putNum.l1 k y3 []) fun y4 =>
  Option.bind (app? 1 y4.2 [(IntKind.wrap .u8 y4.1)]) fun v5 =>
  some (listByte v5)
def impl_putNum.sig : Sig := { ps := [.val false (.int .i64) (ros (.int .i64))], rs := [.val false [.v .str]], ntmps := 28 }
def impl_putNum.con (k : Nat) : Con := impl_putNum.sig.con (fun x => impl_putNum k x)
def impl_putNum.C (k : Nat) : Ctx := { ti := TAB, con := conL [] }
theorem impl_putNum.cok (k : Nat) : CtxOk Try.prog (impl_putNum.C k) := ctx_ok TABok trivial
def impl_putNum.j0.ish : Shape := { tmps := [(0, .one (.v (.int .i64))), (3, .one (.v (.int .u64)))], slots := [], nb := 0 }
def impl_putNum.j0.outs : List (Ex × Shape) := [(.nrm, { tmps := [(3, .one (.v (.int .u64)))], slots := [], nb := 0 })]
def impl_putNum.j0.F (k : Nat) (x : Prod' impl_putNum.j0.ish.tys) : Option (Outs impl_putNum.j0.outs) := impl_putNum.j0 x.1 x.2
def impl_putNum.j0.s (k : Nat) : Summ := { n := 28, ish := impl_putNum.j0.ish, outs := impl_putNum.j0.outs, f := impl_putNum.j0.F k }
theorem impl_putNum.j0.ev (k : Nat) (x : Prod' impl_putNum.j0.ish.tys) : V (impl_putNum.C k) .auto (cL (cR (cR (cB Try.f107)))) (mk impl_putNum.j0.ish 28 x) (fun e st' => rdOut e st' impl_putNum.j0.outs) = impl_putNum.j0.F k x := by kernel_rfl
theorem impl_putNum.j0.ok (k : Nat) : SumOk Try.prog (impl_putNum.C k) (cL (cR (cR (cB Try.f107)))) (impl_putNum.j0.s k) := sum_ok (by kernel_rfl) (sum_code (p := .auto) (impl_putNum.cok k) (by kernel_rfl) (plan_of (L := []) (by kernel_rfl) trivial) (fun x y h => (impl_putNum.j0.ev k x).trans h))
def impl_putNum.l1.ish : Shape := { tmps := [(3, .one (.v (.int .u64))), (4, .one (.own 0))], slots := [(0, .arr false 5 (.int .u8))], nb := 1 }
def impl_putNum.l1.outs : List (Ex × Shape) := [(.exit 0, { tmps := [(3, .one (.v (.int .u64))), (4, .one (.own 1))], slots := [(1, .arr false 5 (.int .u8))], nb := 2 })]
def impl_putNum.l1.F (k j : Nat) (x : Prod' impl_putNum.l1.ish.tys) : Option (Outs impl_putNum.l1.outs) := impl_putNum.l1 j x.1 x.2
def impl_putNum.l1.s (k : Nat) : Summ := { n := 28, ish := impl_putNum.l1.ish, outs := impl_putNum.l1.outs, f := impl_putNum.l1.F k k }
theorem impl_putNum.l1.ev (k j : Nat) (x : Prod' impl_putNum.l1.ish.tys) : V (impl_putNum.C k) .auto (cO (cO (cL (cR (cR (cR (cR (cB Try.f107)))))))) (mk impl_putNum.l1.ish 28 x) (fun e st' => match e with | .nrm => (rd impl_putNum.l1.ish st').bind (impl_putNum.l1.F k j) | e => rdOut e st' impl_putNum.l1.outs) = impl_putNum.l1.F k (j + 1) x := by kernel_rfl
theorem impl_putNum.l1.ok (k : Nat) : SumOk Try.prog (impl_putNum.C k) (.loop (cO (cO (cL (cR (cR (cR (cR (cB Try.f107))))))))) (impl_putNum.l1.s k) := sum_ok (by kernel_rfl) (sum_loop (p := .auto) (F := impl_putNum.l1.F k) (impl_putNum.cok k) (by kernel_rfl) (plan_of (L := []) (by kernel_rfl) trivial) (fun _ => rfl) (fun j x y h => (impl_putNum.l1.ev k j x).trans h) k rfl)
theorem impl_putNum.ev (k : Nat) (x : Prod' impl_putNum.sig.ins) : impl_putNum.sig.ev (impl_putNum.C k) (.two .auto (.two .auto (.two (.sum (impl_putNum.j0.s k)) (.two .auto (.two (.one (.sum (impl_putNum.l1.s k))) .auto))))) Try.f107.results.toList (cB Try.f107) x = impl_putNum k x := by kernel_rfl
theorem impl_putNum.ok (k : Nat) : ConOk Try.prog 107 (impl_putNum.con k) := sig_ok (p := (.two .auto (.two .auto (.two (.sum (impl_putNum.j0.s k)) (.two .auto (.two (.one (.sum (impl_putNum.l1.s k))) .auto)))))) (impl_putNum.cok k) Try.func107 (by kernel_rfl) (show Try.f107.body = some (cB Try.f107) by kernel_rfl) (by kernel_rfl) (by kernel_rfl) (plan_of (L := [(impl_putNum.j0.s k, cL (cR (cR (cB Try.f107)))), (impl_putNum.l1.s k, cO (cL (cR (cR (cR (cR (cB Try.f107)))))))]) (by kernel_rfl) ⟨impl_putNum.j0.ok k, impl_putNum.l1.ok k, trivial⟩) (fun x y h => (impl_putNum.ev k x).trans h)
def impl_putNums.l0 (k : Nat) : Nat → Str → List Int → Int → Int → Option (Str)
  | 0, _, _, _, _ => none
  | j + 1, a1, a2, a3, a4 =>
    bif decide (a4 < a3) then
      Option.bind (at? a2 a4) fun v5 =>
      Option.bind (impl_putNum k v5) fun v6 =>
      Option.bind (cat? a1 v6) fun v7 =>
      impl_putNums.l0 k j v7 a2 a3 (IntKind.wrap .i64 (a4 + 1))
    else
    some a1
def impl_putNums (k : Nat) (a1 : List Int) : Option (Str) :=
  Option.bind (impl_putNums.l0 k k [] a1 ((a1.length) : Int) 0) fun y2 =>
  some y2
def impl_putNums.sig : Sig := { ps := [.val false (.sl (.int .i64)) (ros (.sl (.int .i64)))], rs := [.val false [.v .str]], ntmps := 18 }
def impl_putNums.con (k : Nat) : Con := impl_putNums.sig.con (fun x => impl_putNums k x)
def impl_putNums.C (k : Nat) : Ctx := { ti := TAB, con := conL [(107, impl_putNum.con k)] }
theorem impl_putNums.cok (k : Nat) : CtxOk Try.prog (impl_putNums.C k) := ctx_ok TABok ⟨impl_putNum.ok k, trivial⟩
def impl_putNums.l0.ish : Shape := { tmps := [(3, .one (.v .str)), (6, .one (.bor (.int .i64))), (7, .one (.v (.int .i64))), (8, .one (.v (.int .i64)))], slots := [], nb := 0 }
def impl_putNums.l0.outs : List (Ex × Shape) := [(.exit 0, { tmps := [(3, .one (.v .str))], slots := [], nb := 0 })]
def impl_putNums.l0.F (k j : Nat) (x : Prod' impl_putNums.l0.ish.tys) : Option (Outs impl_putNums.l0.outs) := impl_putNums.l0 k j x.1 x.2.1 x.2.2.1 x.2.2.2
def impl_putNums.l0.s (k : Nat) : Summ := { n := 18, ish := impl_putNums.l0.ish, outs := impl_putNums.l0.outs, f := impl_putNums.l0.F k k }
theorem impl_putNums.l0.ev (k j : Nat) (x : Prod' impl_putNums.l0.ish.tys) : V (impl_putNums.C k) .auto (cO (cO (cR (cL (cR (cR (cB Try.f62))))))) (mk impl_putNums.l0.ish 18 x) (fun e st' => match e with | .nrm => (rd impl_putNums.l0.ish st').bind (impl_putNums.l0.F k j) | e => rdOut e st' impl_putNums.l0.outs) = impl_putNums.l0.F k (j + 1) x := by kernel_rfl
theorem impl_putNums.l0.ok (k : Nat) : SumOk Try.prog (impl_putNums.C k) (.loop (cO (cO (cR (cL (cR (cR (cB Try.f62)))))))) (impl_putNums.l0.s k) := sum_ok (by kernel_rfl) (sum_loop (p := .auto) (F := impl_putNums.l0.F k) (impl_putNums.cok k) (by kernel_rfl) (plan_of (L := []) (by kernel_rfl) trivial) (fun _ => rfl) (fun j x y h => (impl_putNums.l0.ev k j x).trans h) k rfl)
theorem impl_putNums.ev (k : Nat) (x : Prod' impl_putNums.sig.ins) : impl_putNums.sig.ev (impl_putNums.C k) (.two .auto (.two .auto (.two (.two .auto (.one (.sum (impl_putNums.l0.s k)))) .auto))) Try.f62.results.toList (cB Try.f62) x = impl_putNums k x := by kernel_rfl
theorem impl_putNums.ok (k : Nat) : ConOk Try.prog 62 (impl_putNums.con k) := sig_ok (p := (.two .auto (.two .auto (.two (.two .auto (.one (.sum (impl_putNums.l0.s k)))) .auto)))) (impl_putNums.cok k) Try.func62 (by kernel_rfl) (show Try.f62.body = some (cB Try.f62) by kernel_rfl) (by kernel_rfl) (by kernel_rfl) (plan_of (L := [(impl_putNums.l0.s k, cO (cR (cL (cR (cR (cB Try.f62))))))]) (by kernel_rfl) ⟨impl_putNums.l0.ok k, trivial⟩) (fun x y h => (impl_putNums.ev k x).trans h)
def impl_TrustBytes (k : Nat) (a1 : G36) : Option (Str) :=
  Option.bind (impl_isTrust a1) fun v2 =>
  bif !v2 then
    some ([])
  else
  Option.bind (impl_putNums k [a1.1, a1.2]) fun v3 =>
  Option.bind (impl_seal k v3) fun v4 =>
  some v4
def impl_TrustBytes.sig : Sig := { ps := [.val true T36 (ros T36)], rs := [.val false [.v .str]], ntmps := 13 }
def impl_TrustBytes.con (k : Nat) : Con := impl_TrustBytes.sig.con (fun x => impl_TrustBytes k x)
def impl_TrustBytes.C (k : Nat) : Ctx := { ti := TAB, con := conL [(57, impl_isTrust.con k), (61, impl_seal.con k), (62, impl_putNums.con k)] }
theorem impl_TrustBytes.cok (k : Nat) : CtxOk Try.prog (impl_TrustBytes.C k) := ctx_ok TABok ⟨impl_isTrust.ok k, impl_seal.ok k, impl_putNums.ok k, trivial⟩
theorem impl_TrustBytes.ev (k : Nat) (x : Prod' impl_TrustBytes.sig.ins) : impl_TrustBytes.sig.ev (impl_TrustBytes.C k) .auto Try.f18.results.toList (cB Try.f18) x = impl_TrustBytes k x := by kernel_rfl
theorem impl_TrustBytes.ok (k : Nat) : ConOk Try.prog 18 (impl_TrustBytes.con k) := sig_ok (p := .auto) (impl_TrustBytes.cok k) Try.func18 (by kernel_rfl) (show Try.f18.body = some (cB Try.f18) by kernel_rfl) (by kernel_rfl) (by kernel_rfl) (plan_of (L := []) (by kernel_rfl) trivial) (fun x y h => (impl_TrustBytes.ev k x).trans h)
def spec_OfferRight (a1 : G38) : Option (Bool) :=
  Option.bind (spec_l03Is a1.1 1 1000000) fun v2 =>
  bif v2 then
    Option.bind (spec_l03Is a1.2.1 0 a1.1) fun v3 =>
    some (v3 && (((a1.2.2.length) : Int) == 32))
  else
  some false
def spec_OfferRight.sig : Sig := { ps := [.val true T38 (ros T38)], rs := [.val false [.v .bool]], ntmps := 19 }
def spec_OfferRight.con (k : Nat) : Con := spec_OfferRight.sig.con (fun x => spec_OfferRight x)
def spec_OfferRight.C (k : Nat) : Ctx := { ti := TAB, con := conL [(68, spec_l03Is.con k)] }
theorem spec_OfferRight.cok (k : Nat) : CtxOk Try.prog (spec_OfferRight.C k) := ctx_ok TABok ⟨spec_l03Is.ok k, trivial⟩
theorem spec_OfferRight.ev (k : Nat) (x : Prod' spec_OfferRight.sig.ins) : spec_OfferRight.sig.ev (spec_OfferRight.C k) .auto Try.f29.results.toList (cB Try.f29) x = spec_OfferRight x := by kernel_rfl
theorem spec_OfferRight.ok (k : Nat) : ConOk Try.prog 29 (spec_OfferRight.con k) := sig_ok (p := .auto) (spec_OfferRight.cok k) Try.func29 (by kernel_rfl) (show Try.f29.body = some (cB Try.f29) by kernel_rfl) (by kernel_rfl) (by kernel_rfl) (plan_of (L := []) (by kernel_rfl) trivial) (fun x y h => (spec_OfferRight.ev k x).trans h)
def spec_OfferCode (a1 : G36) (a2 : G38) : Option (Int) :=
  Option.bind (spec_TrustRight a1) fun v3 =>
  bif !v3 then
    some 1
  else
  Option.bind (spec_OfferRight a2) fun v4 =>
  bif !v4 then
    some 1
  else
  bif decide (a2.1 < a1.2) then
    some 8
  else
  bif a2.1 == a1.1 then
    some 7
  else
  some 0
def spec_OfferCode.sig : Sig := { ps := [.val true T36 (ros T36), .val true T38 (ros T38)], rs := [.val false [.v (.int .i64)]], ntmps := 26 }
def spec_OfferCode.con (k : Nat) : Con := spec_OfferCode.sig.con (fun x => spec_OfferCode x.1 x.2)
def spec_OfferCode.C (k : Nat) : Ctx := { ti := TAB, con := conL [(27, spec_TrustRight.con k), (29, spec_OfferRight.con k)] }
theorem spec_OfferCode.cok (k : Nat) : CtxOk Try.prog (spec_OfferCode.C k) := ctx_ok TABok ⟨spec_TrustRight.ok k, spec_OfferRight.ok k, trivial⟩
theorem spec_OfferCode.ev (k : Nat) (x : Prod' spec_OfferCode.sig.ins) : spec_OfferCode.sig.ev (spec_OfferCode.C k) .auto Try.f25.results.toList (cB Try.f25) x = spec_OfferCode x.1 x.2 := by kernel_rfl
theorem spec_OfferCode.ok (k : Nat) : ConOk Try.prog 25 (spec_OfferCode.con k) := sig_ok (p := .auto) (spec_OfferCode.cok k) Try.func25 (by kernel_rfl) (show Try.f25.body = some (cB Try.f25) by kernel_rfl) (by kernel_rfl) (by kernel_rfl) (plan_of (L := []) (by kernel_rfl) trivial) (fun x y h => (spec_OfferCode.ev k x).trans h)
def spec_l03Max (a1 : Int) (a2 : Int) : Option (Int) :=
  bif decide (a2 < a1) then
    some a1
  else
  some a2
def spec_l03Max.sig : Sig := { ps := [.val false (.int .i64) (ros (.int .i64)), .val false (.int .i64) (ros (.int .i64))], rs := [.val false [.v (.int .i64)]], ntmps := 10 }
def spec_l03Max.con (k : Nat) : Con := spec_l03Max.sig.con (fun x => spec_l03Max x.1 x.2)
def spec_l03Max.C (k : Nat) : Ctx := { ti := TAB, con := conL [] }
theorem spec_l03Max.cok (k : Nat) : CtxOk Try.prog (spec_l03Max.C k) := ctx_ok TABok trivial
theorem spec_l03Max.ev (k : Nat) (x : Prod' spec_l03Max.sig.ins) : spec_l03Max.sig.ev (spec_l03Max.C k) .auto Try.f63.results.toList (cB Try.f63) x = spec_l03Max x.1 x.2 := by kernel_rfl
theorem spec_l03Max.ok (k : Nat) : ConOk Try.prog 63 (spec_l03Max.con k) := sig_ok (p := .auto) (spec_l03Max.cok k) Try.func63 (by kernel_rfl) (show Try.f63.body = some (cB Try.f63) by kernel_rfl) (by kernel_rfl) (by kernel_rfl) (plan_of (L := []) (by kernel_rfl) trivial) (fun x y h => (spec_l03Max.ev k x).trans h)
def spec_Settle (a1 : G36) (a2 : G38) (a3 : Bool) : Option (Int × Int × Int) :=
  Option.bind (spec_OfferCode a1 a2) fun v4 =>
  bif v4 != 0 then
    some (0, 0, v4)
  else
  bif !a3 then
    some (a1.1, a1.2, 0)
  else
  Option.bind (spec_l03Max a1.2 a2.2.1) fun v5 =>
  some (a2.1, v5, 0)
def spec_Settle.sig : Sig := { ps := [.val true T36 (ros T36), .val true T38 (ros T38), .val false .bool (ros .bool)], rs := [.val true [.v (.int .i64), .v (.int .i64), .v (.int .i64)]], ntmps := 28 }
def spec_Settle.con (k : Nat) : Con := spec_Settle.sig.con (fun x => spec_Settle x.1 x.2.1 x.2.2)
def spec_Settle.C (k : Nat) : Ctx := { ti := TAB, con := conL [(25, spec_OfferCode.con k), (63, spec_l03Max.con k)] }
theorem spec_Settle.cok (k : Nat) : CtxOk Try.prog (spec_Settle.C k) := ctx_ok TABok ⟨spec_OfferCode.ok k, spec_l03Max.ok k, trivial⟩
theorem spec_Settle.ev (k : Nat) (x : Prod' spec_Settle.sig.ins) : spec_Settle.sig.ev (spec_Settle.C k) .auto Try.f19.results.toList (cB Try.f19) x = spec_Settle x.1 x.2.1 x.2.2 := by kernel_rfl
theorem spec_Settle.ok (k : Nat) : ConOk Try.prog 19 (spec_Settle.con k) := sig_ok (p := .auto) (spec_Settle.cok k) Try.func19 (by kernel_rfl) (show Try.f19.body = some (cB Try.f19) by kernel_rfl) (by kernel_rfl) (by kernel_rfl) (plan_of (L := []) (by kernel_rfl) trivial) (fun x y h => (spec_Settle.ev k x).trans h)
def spec_BestOffer.l0 : Nat → List G38 → Int → Int → Int → Int → Option ((Int × Int × Int))
  | 0, _, _, _, _, _ => none
  | j + 1, a1, a2, a3, a4, a5 =>
    bif decide (a3 < ((a1.length) : Int)) then
      Option.bind (at? a1 a3) fun v6 =>
      Option.bind (spec_OfferCode (a4, a5) v6) fun v7 =>
      let e8 := IntKind.wrap .i64 (a3 + 1)
      bif v7 == 0 then
        Option.bind (at? a1 a3) fun v9 =>
        bif decide (a4 < v9.1) then
          bif decide (a2 < 0) then
            spec_BestOffer.l0 j a1 a3 e8 a4 a5
          else
          Option.bind (at? a1 a3) fun v10 =>
          Option.bind (at? a1 a2) fun v11 =>
          bif decide (v11.1 < v10.1) then
            spec_BestOffer.l0 j a1 a3 e8 a4 a5
          else
          spec_BestOffer.l0 j a1 a2 e8 a4 a5
        else
        spec_BestOffer.l0 j a1 a2 e8 a4 a5
      else
      spec_BestOffer.l0 j a1 a2 e8 a4 a5
    else
    some (a2, a4, a5)
def spec_BestOffer (k : Nat) (a1 : G36) (a2 : List G38) : Option (Int) :=
  Option.bind (spec_TrustRight a1) fun v3 =>
  bif (!v3) || (decide (20 < ((a2.length) : Int))) then
    some (-1)
  else
  Option.bind (spec_BestOffer.l0 k a2 (-1) 0 a1.1 a1.2) fun y4 =>
  some y4.1
def spec_BestOffer.sig : Sig := { ps := [.val true T36 (ros T36), .val false (.sl T38) (ros (.sl T38))], rs := [.val false [.v (.int .i64)]], ntmps := 58 }
def spec_BestOffer.con (k : Nat) : Con := spec_BestOffer.sig.con (fun x => spec_BestOffer k x.1 x.2)
def spec_BestOffer.C (k : Nat) : Ctx := { ti := TAB, con := conL [(25, spec_OfferCode.con k), (27, spec_TrustRight.con k)] }
theorem spec_BestOffer.cok (k : Nat) : CtxOk Try.prog (spec_BestOffer.C k) := ctx_ok TABok ⟨spec_OfferCode.ok k, spec_TrustRight.ok k, trivial⟩
def spec_BestOffer.l0.ish : Shape := { tmps := [(1, .one (.bor T38)), (2, .one (.ptr 0 0)), (5, .one (.v (.int .i64))), (6, .one (.v (.int .i64)))], slots := [(0, .box 36 [.v (.int .i64), .v (.int .i64)])], nb := 1 }
def spec_BestOffer.l0.outs : List (Ex × Shape) := [(.exit 0, { tmps := [(5, .one (.v (.int .i64)))], slots := [(0, .box 36 [.v (.int .i64), .v (.int .i64)])], nb := 1 })]
def spec_BestOffer.l0.F (k j : Nat) (x : Prod' spec_BestOffer.l0.ish.tys) : Option (Outs spec_BestOffer.l0.outs) := spec_BestOffer.l0 j x.1 x.2.1 x.2.2.1 x.2.2.2.1 x.2.2.2.2
def spec_BestOffer.l0.s (k : Nat) : Summ := { n := 58, ish := spec_BestOffer.l0.ish, outs := spec_BestOffer.l0.outs, f := spec_BestOffer.l0.F k k }
theorem spec_BestOffer.l0.ev (k j : Nat) (x : Prod' spec_BestOffer.l0.ish.tys) : V (spec_BestOffer.C k) .auto (cO (cO (cR (cL (cR (cR (cR (cB Try.f20)))))))) (mk spec_BestOffer.l0.ish 58 x) (fun e st' => match e with | .nrm => (rd spec_BestOffer.l0.ish st').bind (spec_BestOffer.l0.F k j) | e => rdOut e st' spec_BestOffer.l0.outs) = spec_BestOffer.l0.F k (j + 1) x := by kernel_rfl
theorem spec_BestOffer.l0.ok (k : Nat) : SumOk Try.prog (spec_BestOffer.C k) (.loop (cO (cO (cR (cL (cR (cR (cR (cB Try.f20))))))))) (spec_BestOffer.l0.s k) := sum_ok (by kernel_rfl) (sum_loop (p := .auto) (F := spec_BestOffer.l0.F k) (spec_BestOffer.cok k) (by kernel_rfl) (plan_of (L := []) (by kernel_rfl) trivial) (fun _ => rfl) (fun j x y h => (spec_BestOffer.l0.ev k j x).trans h) k rfl)
theorem spec_BestOffer.ev (k : Nat) (x : Prod' spec_BestOffer.sig.ins) : spec_BestOffer.sig.ev (spec_BestOffer.C k) (.two .auto (.two .auto (.two .auto (.two (.two .auto (.one (.sum (spec_BestOffer.l0.s k)))) .auto)))) Try.f20.results.toList (cB Try.f20) x = spec_BestOffer k x.1 x.2 := by kernel_rfl
theorem spec_BestOffer.ok (k : Nat) : ConOk Try.prog 20 (spec_BestOffer.con k) := sig_ok (p := (.two .auto (.two .auto (.two .auto (.two (.two .auto (.one (.sum (spec_BestOffer.l0.s k)))) .auto))))) (spec_BestOffer.cok k) Try.func20 (by kernel_rfl) (show Try.f20.body = some (cB Try.f20) by kernel_rfl) (by kernel_rfl) (by kernel_rfl) (plan_of (L := [(spec_BestOffer.l0.s k, cO (cR (cL (cR (cR (cR (cB Try.f20)))))))]) (by kernel_rfl) ⟨spec_BestOffer.l0.ok k, trivial⟩) (fun x y h => (spec_BestOffer.ev k x).trans h)
def impl_unseal (k : Nat) (a1 : Str) : Option (Str × Int) :=
  bif decide (((a1.length) : Int) < 4) then
    some ([], 4)
  else
  Option.bind (cut? a1 0 (IntKind.wrap .i64 (((a1.length) : Int) - 4))) fun v2 =>
  Option.bind (impl_seal k v2) fun v3 =>
  bif !(v3 == a1) then
    some ([], 5)
  else
  some (v2, 0)
def impl_unseal.sig : Sig := { ps := [.val false .str (ros .str)], rs := [.val false [.v .str], .val false [.v (.int .i64)]], ntmps := 18 }
def impl_unseal.con (k : Nat) : Con := impl_unseal.sig.con (fun x => impl_unseal k x)
def impl_unseal.C (k : Nat) : Ctx := { ti := TAB, con := conL [(61, impl_seal.con k)] }
theorem impl_unseal.cok (k : Nat) : CtxOk Try.prog (impl_unseal.C k) := ctx_ok TABok ⟨impl_seal.ok k, trivial⟩
theorem impl_unseal.ev (k : Nat) (x : Prod' impl_unseal.sig.ins) : impl_unseal.sig.ev (impl_unseal.C k) .auto Try.f64.results.toList (cB Try.f64) x = impl_unseal k x := by kernel_rfl
theorem impl_unseal.ok (k : Nat) : ConOk Try.prog 64 (impl_unseal.con k) := sig_ok (p := .auto) (impl_unseal.cok k) Try.func64 (by kernel_rfl) (show Try.f64.body = some (cB Try.f64) by kernel_rfl) (by kernel_rfl) (by kernel_rfl) (plan_of (L := []) (by kernel_rfl) trivial) (fun x y h => (impl_unseal.ev k x).trans h)
def impl_getNum.l0 : Nat → Str → Int → Int → Int → Option ((Int × Int × Int))
  | 0, _, _, _, _ => none
  | j + 1, a1, a2, a3, a4 =>
    bif decide ((IntKind.wrap .i64 (((a1.length) : Int) - a4)) ≤ a2) then
      some (0, 0, 4)
    else
    let e5 := IntKind.wrap .i64 (a2 + a4)
    Option.bind (at? a1 e5) fun v6 =>
    bif (a4 == 9) && (decide (1 < (v6.toNat : Int))) then
      some (0, 0, 3)
    else
    let e7 := IntKind.wrap .i64 (7 * a4)
    Option.bind (nneg? e7) fun v8 =>
    let e9 := intBits .or .u64 a3 (shl .u64 (IntKind.wrap .u64 (intBits .and .u8 (v6.toNat : Int) 127)) e7)
    bif decide (127 < (v6.toNat : Int)) then
      impl_getNum.l0 j a1 a2 e9 (IntKind.wrap .i64 (a4 + 1))
    else
    bif ((v6.toNat : Int) == 0) && (decide (0 < a4)) then
      some (0, 0, 3)
    else
    Option.bind (nneg? 1) fun v10 =>
    let e11 := IntKind.wrap .i64 (e5 + 1)
    let e12 := IntKind.wrap .i64 (shr .u64 e9 1)
    bif (intBits .and .u64 e9 1) == 1 then
      some (intBits .xor .i64 (-1) e12, e11, 0)
    else
    some (e12, e11, 0)
def impl_getNum (k : Nat) (a1 : Str) (a2 : Int) : Option (Int × Int × Int) :=
  bif decide (a2 < 0) then
    some (0, 0, 1)
  else
  Option.bind (impl_getNum.l0 k a1 a2 0 0) fun y3 =>
  some (y3.1, y3.2.1, y3.2.2)
def impl_getNum.sig : Sig := { ps := [.val false .str (ros .str), .val false (.int .i64) (ros (.int .i64))], rs := [.val false [.v (.int .i64)], .val false [.v (.int .i64)], .val false [.v (.int .i64)]], ntmps := 61 }
def impl_getNum.con (k : Nat) : Con := impl_getNum.sig.con (fun x => impl_getNum k x.1 x.2)
def impl_getNum.C (k : Nat) : Ctx := { ti := TAB, con := conL [] }
theorem impl_getNum.cok (k : Nat) : CtxOk Try.prog (impl_getNum.C k) := ctx_ok TABok trivial
def impl_getNum.l0.ish : Shape := { tmps := [(0, .one (.v .str)), (1, .one (.v (.int .i64))), (7, .one (.v (.int .u64))), (8, .one (.v (.int .i64)))], slots := [], nb := 0 }
def impl_getNum.l0.outs : List (Ex × Shape) := [(.ret, { tmps := [(4, .one (.v (.int .i64))), (5, .one (.v (.int .i64))), (6, .one (.v (.int .i64)))], slots := [], nb := 0 })]
def impl_getNum.l0.F (k j : Nat) (x : Prod' impl_getNum.l0.ish.tys) : Option (Outs impl_getNum.l0.outs) := impl_getNum.l0 j x.1 x.2.1 x.2.2.1 x.2.2.2
def impl_getNum.l0.s (k : Nat) : Summ := { n := 61, ish := impl_getNum.l0.ish, outs := impl_getNum.l0.outs, f := impl_getNum.l0.F k k }
theorem impl_getNum.l0.ev (k j : Nat) (x : Prod' impl_getNum.l0.ish.tys) : V (impl_getNum.C k) .auto (cO (cO (cR (cR (cR (cR (cB Try.f108))))))) (mk impl_getNum.l0.ish 61 x) (fun e st' => match e with | .nrm => (rd impl_getNum.l0.ish st').bind (impl_getNum.l0.F k j) | e => rdOut e st' impl_getNum.l0.outs) = impl_getNum.l0.F k (j + 1) x := by kernel_rfl
theorem impl_getNum.l0.ok (k : Nat) : SumOk Try.prog (impl_getNum.C k) (.loop (cO (cO (cR (cR (cR (cR (cB Try.f108)))))))) (impl_getNum.l0.s k) := sum_ok (by kernel_rfl) (sum_loop (p := .auto) (F := impl_getNum.l0.F k) (impl_getNum.cok k) (by kernel_rfl) (plan_of (L := []) (by kernel_rfl) trivial) (fun _ => rfl) (fun j x y h => (impl_getNum.l0.ev k j x).trans h) k rfl)
theorem impl_getNum.ev (k : Nat) (x : Prod' impl_getNum.sig.ins) : impl_getNum.sig.ev (impl_getNum.C k) (.two .auto (.two .auto (.two .auto (.two .auto (.one (.sum (impl_getNum.l0.s k))))))) Try.f108.results.toList (cB Try.f108) x = impl_getNum k x.1 x.2 := by kernel_rfl
theorem impl_getNum.ok (k : Nat) : ConOk Try.prog 108 (impl_getNum.con k) := sig_ok (p := (.two .auto (.two .auto (.two .auto (.two .auto (.one (.sum (impl_getNum.l0.s k)))))))) (impl_getNum.cok k) Try.func108 (by kernel_rfl) (show Try.f108.body = some (cB Try.f108) by kernel_rfl) (by kernel_rfl) (by kernel_rfl) (plan_of (L := [(impl_getNum.l0.s k, cO (cR (cR (cR (cR (cB Try.f108))))))]) (by kernel_rfl) ⟨impl_getNum.l0.ok k, trivial⟩) (fun x y h => (impl_getNum.ev k x).trans h)
def impl_reader_num (k : Nat) (a1 : G104) : Option (Int × Str × Int × Bool) :=
  Option.bind (impl_getNum k a1.1 a1.2.1) fun v2 =>
  bif v2.2.2 != 0 then
    some (0, a1.1, a1.2.1, true)
  else
  some (v2.1, a1.1, v2.2.1, a1.2.2)
def impl_reader_num.sig : Sig := { ps := [.ref 104 T104 (kept T104)], rs := [.val false [.v (.int .i64)]], ntmps := 29 }
def impl_reader_num.con (k : Nat) : Con := impl_reader_num.sig.con (fun x => impl_reader_num k x)
def impl_reader_num.C (k : Nat) : Ctx := { ti := TAB, con := conL [(108, impl_getNum.con k)] }
theorem impl_reader_num.cok (k : Nat) : CtxOk Try.prog (impl_reader_num.C k) := ctx_ok TABok ⟨impl_getNum.ok k, trivial⟩
theorem impl_reader_num.ev (k : Nat) (x : Prod' impl_reader_num.sig.ins) : impl_reader_num.sig.ev (impl_reader_num.C k) .auto Try.f65.results.toList (cB Try.f65) x = impl_reader_num k x := by kernel_rfl
theorem impl_reader_num.ok (k : Nat) : ConOk Try.prog 65 (impl_reader_num.con k) := sig_ok (p := .auto) (impl_reader_num.cok k) Try.func65 (by kernel_rfl) (show Try.f65.body = some (cB Try.f65) by kernel_rfl) (by kernel_rfl) (by kernel_rfl) (plan_of (L := []) (by kernel_rfl) trivial) (fun x y h => (impl_reader_num.ev k x).trans h)
def impl_TrustRead (k : Nat) (a1 : Str) : Option (Int × Int × Int) :=
  bif decide (8000 < ((a1.length) : Int)) then
    some (0, 0, 2)
  else
  Option.bind (impl_unseal k a1) fun v2 =>
  bif v2.2 != 0 then
    some (0, 0, v2.2)
  else
  Option.bind (impl_reader_num k (v2.1, (0, false))) fun v3 =>
  Option.bind (impl_reader_num k v3.2) fun v4 =>
  bif v4.2.2.2 || (v4.2.2.1 != ((v2.1.length) : Int)) then
    some (0, 0, 3)
  else
  Option.bind (impl_isTrust (v3.1, v4.1)) fun v5 =>
  bif !v5 then
    some (0, 0, 3)
  else
  some (v3.1, v4.1, 0)
def impl_TrustRead.sig : Sig := { ps := [.val false .str (ros .str)], rs := [.val true [.v (.int .i64), .v (.int .i64), .v (.int .i64)]], ntmps := 49 }
def impl_TrustRead.con (k : Nat) : Con := impl_TrustRead.sig.con (fun x => impl_TrustRead k x)
def impl_TrustRead.C (k : Nat) : Ctx := { ti := TAB, con := conL [(57, impl_isTrust.con k), (64, impl_unseal.con k), (65, impl_reader_num.con k)] }
theorem impl_TrustRead.cok (k : Nat) : CtxOk Try.prog (impl_TrustRead.C k) := ctx_ok TABok ⟨impl_isTrust.ok k, impl_unseal.ok k, impl_reader_num.ok k, trivial⟩
theorem impl_TrustRead.ev (k : Nat) (x : Prod' impl_TrustRead.sig.ins) : impl_TrustRead.sig.ev (impl_TrustRead.C k) .auto Try.f21.results.toList (cB Try.f21) x = impl_TrustRead k x := by kernel_rfl
theorem impl_TrustRead.ok (k : Nat) : ConOk Try.prog 21 (impl_TrustRead.con k) := sig_ok (p := .auto) (impl_TrustRead.cok k) Try.func21 (by kernel_rfl) (show Try.f21.body = some (cB Try.f21) by kernel_rfl) (by kernel_rfl) (by kernel_rfl) (plan_of (L := []) (by kernel_rfl) trivial) (fun x y h => (impl_TrustRead.ev k x).trans h)
def spec_GetNum.l0 : Nat → Str → Int → Int → Int → Int → Int → Int → Option ((Int × Int × Int) ⊕ (Int × Int × Int))
  | 0, _, _, _, _, _, _, _ => none
  | j + 1, a1, a2, a3, a4, a5, a6, a7 =>
    bif decide (a4 < 10) then
      bif decide ((IntKind.wrap .i64 (((a1.length) : Int) - a4)) ≤ a2) then
        some (.inr (0, 0, 4))
      else
      let e8 := IntKind.wrap .i64 (a2 + a4)
      Option.bind (at? a1 e8) fun v9 =>
      bif (a4 == 9) && (decide (1 < (IntKind.wrap .u64 (v9.toNat : Int)))) then
        some (.inr (0, 0, 3))
      else
      Option.bind (nz? 128) fun v10 =>
      let e11 := IntKind.wrap .u64 (IntKind.wrap .i64 (7 * a4))
      Option.bind (nneg? e11) fun v12 =>
      let e13 := IntKind.wrap .u64 (a3 + (shl .u64 (Int.tmod (IntKind.wrap .u64 (v9.toNat : Int)) 128) e11))
      bif decide ((IntKind.wrap .u64 (v9.toNat : Int)) < 128) then
        bif ((IntKind.wrap .u64 (v9.toNat : Int)) == 0) && (decide (0 < a4)) then
          some (.inr (0, 0, 3))
        else
        Option.bind (nz? 2) fun v14 =>
        Option.bind (nz? 2) fun v15 =>
        let e16 := IntKind.wrap .i64 (e8 + 1)
        let e17 := IntKind.wrap .i64 (IntKind.wrap .u64 (Int.tdiv e13 2))
        bif (Int.tmod e13 2) == 1 then
          some (.inr (IntKind.wrap .i64 ((IntKind.wrap .i64 (0 - e17)) - 1), e16, 0))
        else
        some (.inr (e17, e16, 0))
      else
      spec_GetNum.l0 j a1 a2 e13 (IntKind.wrap .i64 (a4 + 1)) a5 a6 a7
    else
    some (.inl (a5, a6, a7))
def spec_GetNum (k : Nat) (a1 : Str) (a2 : Int) : Option (Int × Int × Int) :=
  bif decide (8000 < ((a1.length) : Int)) then
    some (0, 0, 2)
  else
  bif decide (a2 < 0) then
    some (0, 0, 1)
  else
  Option.bind (spec_GetNum.l0 k a1 a2 0 0 0 0 0) fun
    | .inl y3 =>
      some (0, 0, 3)
    | .inr y4 =>
      some (y4.1, y4.2.1, y4.2.2)
def spec_GetNum.sig : Sig := { ps := [.val false .str (ros .str), .val false (.int .i64) (ros (.int .i64))], rs := [.val true [.v (.int .i64), .v (.int .i64), .v (.int .i64)]], ntmps := 73 }
def spec_GetNum.con (k : Nat) : Con := spec_GetNum.sig.con (fun x => spec_GetNum k x.1 x.2)
def spec_GetNum.C (k : Nat) : Ctx := { ti := TAB, con := conL [] }
theorem spec_GetNum.cok (k : Nat) : CtxOk Try.prog (spec_GetNum.C k) := ctx_ok TABok trivial
def spec_GetNum.l0.ish : Shape := { tmps := [(0, .one (.v .str)), (1, .one (.v (.int .i64))), (4, .one (.ptr 0 0)), (5, .one (.v (.int .u64))), (6, .one (.v (.int .i64)))], slots := [(0, .box 144 [.v (.int .i64), .v (.int .i64), .v (.int .i64)])], nb := 1 }
def spec_GetNum.l0.outs : List (Ex × Shape) := [(.exit 0, { tmps := [], slots := [(0, .box 144 [.v (.int .i64), .v (.int .i64), .v (.int .i64)])], nb := 1 }), (.ret, { tmps := [], slots := [(0, .box 144 [.v (.int .i64), .v (.int .i64), .v (.int .i64)])], nb := 1 })]
def spec_GetNum.l0.F (k j : Nat) (x : Prod' spec_GetNum.l0.ish.tys) : Option (Outs spec_GetNum.l0.outs) := spec_GetNum.l0 j x.1 x.2.1 x.2.2.1 x.2.2.2.1 x.2.2.2.2.1 x.2.2.2.2.2.1 x.2.2.2.2.2.2
def spec_GetNum.l0.s (k : Nat) : Summ := { n := 73, ish := spec_GetNum.l0.ish, outs := spec_GetNum.l0.outs, f := spec_GetNum.l0.F k k }
theorem spec_GetNum.l0.ev (k j : Nat) (x : Prod' spec_GetNum.l0.ish.tys) : V (spec_GetNum.C k) .auto (cO (cO (cR (cL (cR (cR (cR (cR (cB Try.f109))))))))) (mk spec_GetNum.l0.ish 73 x) (fun e st' => match e with | .nrm => (rd spec_GetNum.l0.ish st').bind (spec_GetNum.l0.F k j) | e => rdOut e st' spec_GetNum.l0.outs) = spec_GetNum.l0.F k (j + 1) x := by kernel_rfl
theorem spec_GetNum.l0.ok (k : Nat) : SumOk Try.prog (spec_GetNum.C k) (.loop (cO (cO (cR (cL (cR (cR (cR (cR (cB Try.f109)))))))))) (spec_GetNum.l0.s k) := sum_ok (by kernel_rfl) (sum_loop (p := .auto) (F := spec_GetNum.l0.F k) (spec_GetNum.cok k) (by kernel_rfl) (plan_of (L := []) (by kernel_rfl) trivial) (fun _ => rfl) (fun j x y h => (spec_GetNum.l0.ev k j x).trans h) k rfl)
theorem spec_GetNum.ev (k : Nat) (x : Prod' spec_GetNum.sig.ins) : spec_GetNum.sig.ev (spec_GetNum.C k) (.two .auto (.two .auto (.two .auto (.two .auto (.two (.two .auto (.one (.sum (spec_GetNum.l0.s k)))) .auto))))) Try.f109.results.toList (cB Try.f109) x = spec_GetNum k x.1 x.2 := by kernel_rfl
theorem spec_GetNum.ok (k : Nat) : ConOk Try.prog 109 (spec_GetNum.con k) := sig_ok (p := (.two .auto (.two .auto (.two .auto (.two .auto (.two (.two .auto (.one (.sum (spec_GetNum.l0.s k)))) .auto)))))) (spec_GetNum.cok k) Try.func109 (by kernel_rfl) (show Try.f109.body = some (cB Try.f109) by kernel_rfl) (by kernel_rfl) (by kernel_rfl) (plan_of (L := [(spec_GetNum.l0.s k, cO (cR (cL (cR (cR (cR (cR (cB Try.f109))))))))]) (by kernel_rfl) ⟨spec_GetNum.l0.ok k, trivial⟩) (fun x y h => (spec_GetNum.ev k x).trans h)
def spec_l06Reader_num (k : Nat) (a1 : G104) : Option (Int × Str × Int × Bool) :=
  Option.bind (spec_GetNum k a1.1 a1.2.1) fun v2 =>
  bif a1.2.2 || (v2.2.2 != 0) then
    some (0, a1.1, a1.2.1, true)
  else
  some (v2.1, a1.1, v2.2.1, a1.2.2)
def spec_l06Reader_num.sig : Sig := { ps := [.ref 107 T104 (kept T104)], rs := [.val false [.v (.int .i64)]], ntmps := 32 }
def spec_l06Reader_num.con (k : Nat) : Con := spec_l06Reader_num.sig.con (fun x => spec_l06Reader_num k x)
def spec_l06Reader_num.C (k : Nat) : Ctx := { ti := TAB, con := conL [(109, spec_GetNum.con k)] }
theorem spec_l06Reader_num.cok (k : Nat) : CtxOk Try.prog (spec_l06Reader_num.C k) := ctx_ok TABok ⟨spec_GetNum.ok k, trivial⟩
theorem spec_l06Reader_num.ev (k : Nat) (x : Prod' spec_l06Reader_num.sig.ins) : spec_l06Reader_num.sig.ev (spec_l06Reader_num.C k) .auto Try.f66.results.toList (cB Try.f66) x = spec_l06Reader_num k x := by kernel_rfl
theorem spec_l06Reader_num.ok (k : Nat) : ConOk Try.prog 66 (spec_l06Reader_num.con k) := sig_ok (p := .auto) (spec_l06Reader_num.cok k) Try.func66 (by kernel_rfl) (show Try.f66.body = some (cB Try.f66) by kernel_rfl) (by kernel_rfl) (by kernel_rfl) (plan_of (L := []) (by kernel_rfl) trivial) (fun x y h => (spec_l06Reader_num.ev k x).trans h)
def spec_TrustRead (k : Nat) (a1 : Str) : Option (Int × Int × Int) :=
  Option.bind (spec_Unseal k a1) fun v2 =>
  bif v2.2.2 != 0 then
    some (0, 0, v2.2.2)
  else
  Option.bind (spec_l06Reader_num k (v2.1, (0, false))) fun v3 =>
  Option.bind (spec_l06Reader_num k v3.2) fun v4 =>
  bif v4.2.2.2 then
    some (0, 0, 3)
  else
  Option.bind (spec_TrustBytes k (v3.1, v4.1)) fun v5 =>
  bif !(v5 == a1) then
    some (0, 0, 3)
  else
  some (v3.1, v4.1, 0)
def spec_TrustRead.sig : Sig := { ps := [.val false .str (ros .str)], rs := [.val true [.v (.int .i64), .v (.int .i64), .v (.int .i64)]], ntmps := 37 }
def spec_TrustRead.con (k : Nat) : Con := spec_TrustRead.sig.con (fun x => spec_TrustRead k x)
def spec_TrustRead.C (k : Nat) : Ctx := { ti := TAB, con := conL [(23, spec_TrustBytes.con k), (60, spec_Unseal.con k), (66, spec_l06Reader_num.con k)] }
theorem spec_TrustRead.cok (k : Nat) : CtxOk Try.prog (spec_TrustRead.C k) := ctx_ok TABok ⟨spec_TrustBytes.ok k, spec_Unseal.ok k, spec_l06Reader_num.ok k, trivial⟩
theorem spec_TrustRead.ev (k : Nat) (x : Prod' spec_TrustRead.sig.ins) : spec_TrustRead.sig.ev (spec_TrustRead.C k) .auto Try.f22.results.toList (cB Try.f22) x = spec_TrustRead k x := by kernel_rfl
theorem spec_TrustRead.ok (k : Nat) : ConOk Try.prog 22 (spec_TrustRead.con k) := sig_ok (p := .auto) (spec_TrustRead.cok k) Try.func22 (by kernel_rfl) (show Try.f22.body = some (cB Try.f22) by kernel_rfl) (by kernel_rfl) (by kernel_rfl) (plan_of (L := []) (by kernel_rfl) trivial) (fun x y h => (spec_TrustRead.ev k x).trans h)
end Go.Proofs.YtnmbinfgcgjfbaaE

namespace Go.Proofs.YtnmbinfgcgjfbaaE
open Go Go.RowKit
set_option linter.unusedVariables false
def impl_OfferCode (a1 : G36) (a2 : G38) : Option (Int) :=
  Option.bind (impl_offerCode a1 a2) fun v3 =>
  some v3
def impl_OfferCode.sig : Sig := { ps := [.val true T36 (ros T36), .val true T38 (ros T38)], rs := [.val false [.v (.int .i64)]], ntmps := 8 }
def impl_OfferCode.con (k : Nat) : Con := impl_OfferCode.sig.con (fun x => impl_OfferCode x.1 x.2)
def impl_OfferCode.C (k : Nat) : Ctx := { ti := TAB, con := conL [(55, impl_offerCode.con k)] }
theorem impl_OfferCode.cok (k : Nat) : CtxOk Try.prog (impl_OfferCode.C k) := ctx_ok TABok ⟨impl_offerCode.ok k, trivial⟩
theorem impl_OfferCode.ev (k : Nat) (x : Prod' impl_OfferCode.sig.ins) : impl_OfferCode.sig.ev (impl_OfferCode.C k) .auto Try.f24.results.toList (cB Try.f24) x = impl_OfferCode x.1 x.2 := by kernel_rfl
theorem impl_OfferCode.ok (k : Nat) : ConOk Try.prog 24 (impl_OfferCode.con k) := sig_ok (p := .auto) (impl_OfferCode.cok k) Try.func24 (by kernel_rfl) (show Try.f24.body = some (cB Try.f24) by kernel_rfl) (by kernel_rfl) (by kernel_rfl) (plan_of (L := []) (by kernel_rfl) trivial) (fun x y h => (impl_OfferCode.ev k x).trans h)
def impl_TrustRight (a1 : G36) : Option (Bool) :=
  Option.bind (impl_isTrust a1) fun v2 =>
  some v2
def impl_TrustRight.sig : Sig := { ps := [.val true T36 (ros T36)], rs := [.val false [.v .bool]], ntmps := 5 }
def impl_TrustRight.con (k : Nat) : Con := impl_TrustRight.sig.con (fun x => impl_TrustRight x)
def impl_TrustRight.C (k : Nat) : Ctx := { ti := TAB, con := conL [(57, impl_isTrust.con k)] }
theorem impl_TrustRight.cok (k : Nat) : CtxOk Try.prog (impl_TrustRight.C k) := ctx_ok TABok ⟨impl_isTrust.ok k, trivial⟩
theorem impl_TrustRight.ev (k : Nat) (x : Prod' impl_TrustRight.sig.ins) : impl_TrustRight.sig.ev (impl_TrustRight.C k) .auto Try.f26.results.toList (cB Try.f26) x = impl_TrustRight x := by kernel_rfl
theorem impl_TrustRight.ok (k : Nat) : ConOk Try.prog 26 (impl_TrustRight.con k) := sig_ok (p := .auto) (impl_TrustRight.cok k) Try.func26 (by kernel_rfl) (show Try.f26.body = some (cB Try.f26) by kernel_rfl) (by kernel_rfl) (by kernel_rfl) (plan_of (L := []) (by kernel_rfl) trivial) (fun x y h => (impl_TrustRight.ev k x).trans h)
def impl_OfferRight (a1 : G38) : Option (Bool) :=
  Option.bind (impl_isOffer a1) fun v2 =>
  some v2
def impl_OfferRight.sig : Sig := { ps := [.val true T38 (ros T38)], rs := [.val false [.v .bool]], ntmps := 5 }
def impl_OfferRight.con (k : Nat) : Con := impl_OfferRight.sig.con (fun x => impl_OfferRight x)
def impl_OfferRight.C (k : Nat) : Ctx := { ti := TAB, con := conL [(69, impl_isOffer.con k)] }
theorem impl_OfferRight.cok (k : Nat) : CtxOk Try.prog (impl_OfferRight.C k) := ctx_ok TABok ⟨impl_isOffer.ok k, trivial⟩
theorem impl_OfferRight.ev (k : Nat) (x : Prod' impl_OfferRight.sig.ins) : impl_OfferRight.sig.ev (impl_OfferRight.C k) .auto Try.f28.results.toList (cB Try.f28) x = impl_OfferRight x := by kernel_rfl
theorem impl_OfferRight.ok (k : Nat) : ConOk Try.prog 28 (impl_OfferRight.con k) := sig_ok (p := .auto) (impl_OfferRight.cok k) Try.func28 (by kernel_rfl) (show Try.f28.body = some (cB Try.f28) by kernel_rfl) (by kernel_rfl) (by kernel_rfl) (plan_of (L := []) (by kernel_rfl) trivial) (fun x y h => (impl_OfferRight.ev k x).trans h)
def laws_FnTrust.l0 : Nat → Int → Int → Int → Int → List G38 → Option ((Int × Int) ⊕ (Bool × Int × Int))
  | 0, _, _, _, _, _ => none
  | j + 1, a1, a2, a3, a4, a5 =>
    bif decide (a2 < ((a5.length) : Int)) then
      Option.bind (at? a5 a2) fun v6 =>
      Option.bind (at? a5 a2) fun v7 =>
      Option.bind (spec_OfferCode (a3, a4) v7) fun v8 =>
      let e9 := IntKind.wrap .i64 (a2 + 1)
      bif v8 == 0 then
        Option.bind (at? a5 a2) fun v10 =>
        Option.bind (at? a5 a2) fun v11 =>
        bif decide (a3 < v11.1) then
          bif decide (((a5.length) : Int) ≤ 20) then
            bif decide (a1 < 0) then
              some (.inr (false, a3, a4))
            else
            Option.bind (at? a5 a1) fun v12 =>
            Option.bind (at? a5 a1) fun v13 =>
            Option.bind (at? a5 a2) fun v14 =>
            Option.bind (at? a5 a2) fun v15 =>
            bif decide (v13.1 < v15.1) then
              some (.inr (false, a3, a4))
            else
            laws_FnTrust.l0 j a1 e9 a3 a4 a5
          else
          laws_FnTrust.l0 j a1 e9 a3 a4 a5
        else
        laws_FnTrust.l0 j a1 e9 a3 a4 a5
      else
      laws_FnTrust.l0 j a1 e9 a3 a4 a5
    else
    some (.inl (a3, a4))
def laws_FnTrust (k : Nat) (a1 : List Int) (a2 : List Int) : Option (Bool) :=
  bif (decide (1048576 < ((a1.length) : Int))) || (decide (1048576 < ((a2.length) : Int))) then
    some true
  else
  Option.bind (spec_DrawSettle k a1) fun v3 =>
  let e4 := (v3.1, v3.2.1)
  let e5 := (v3.2.2.1, (v3.2.2.2.1, v3.2.2.2.2.1))
  Option.bind (impl_Settle e4 e5 v3.2.2.2.2.2) fun v6 =>
  Option.bind (spec_DrawBestOffer k a2) fun v7 =>
  let e8 := (v7.1, v7.2.1)
  Option.bind (impl_BestOffer k e8 v7.2.2) fun v9 =>
  Option.bind (spec_DrawTrustRead k a2) fun v10 =>
  Option.bind (impl_TrustBytes k e4) fun v11 =>
  Option.bind (spec_Settle e4 e5 v3.2.2.2.2.2) fun v12 =>
  bif !((v6.1 == v12.1) && ((v6.2.1 == v12.2.1) && (v6.2.2 == v12.2.2))) then
    some false
  else
  Option.bind (spec_BestOffer k e8 v7.2.2) fun v13 =>
  bif v9 != v13 then
    some false
  else
  Option.bind (impl_TrustRead k v10) fun v14 =>
  Option.bind (spec_TrustRead k v10) fun v15 =>
  bif !((v14.1 == v15.1) && ((v14.2.1 == v15.2.1) && (v14.2.2 == v15.2.2))) then
    some false
  else
  Option.bind (spec_TrustBytes k e4) fun v16 =>
  bif !(v11 == v16) then
    some false
  else
  Option.bind (impl_OfferCode e4 e5) fun v17 =>
  Option.bind (spec_OfferCode e4 e5) fun v18 =>
  bif v17 != v18 then
    some false
  else
  Option.bind (impl_TrustRight e4) fun v19 =>
  Option.bind (spec_TrustRight e4) fun v20 =>
  bif !(v19 == v20) then
    some false
  else
  Option.bind (impl_OfferRight e5) fun v21 =>
  Option.bind (spec_OfferRight e5) fun v22 =>
  bif !(v21 == v22) then
    some false
  else
  let e23 := v6.2.2 != 0
  let e24 := (v6.1, v6.2.1)
  let e25 := decide (v6.2.1 < v3.2.1)
  let e26 := decide (v3.2.2.1 < v3.2.1)
  let e27 := (!v3.2.2.2.2.2) && ((v6.1 == v3.1) && (v6.2.1 == v3.2.1))
  let e28 := v3.2.2.2.2.2 && (v6.1 == v3.2.2.1)
  bif !(v11 == []) then
    Option.bind (impl_TrustRead k v11) fun v29 =>
    bif !((v29.1 == v3.1) && ((v29.2.1 == v3.2.1) && (v29.2.2 == 0))) then
      some false
    else
    Option.bind (laws_FnTrust.l0 k v9 0 v7.1 v7.2.1 v7.2.2) fun
      | .inl y30 =>
        bif e23 then
          some true
        else
        Option.bind (impl_TrustRight e24) fun v31 =>
        bif ((!v31) || e25) || e26 then
          some false
        else
        bif e27 then
          some true
        else
        bif e28 then
          Option.bind (impl_OfferCode e24 e5) fun v32 =>
          some (v32 == 7)
        else
        some false
      | .inr y33 =>
        some y33.1
  else
  Option.bind (laws_FnTrust.l0 k v9 0 v7.1 v7.2.1 v7.2.2) fun
    | .inl y34 =>
      bif e23 then
        some true
      else
      Option.bind (impl_TrustRight e24) fun v35 =>
      bif ((!v35) || e25) || e26 then
        some false
      else
      bif e27 then
        some true
      else
      bif e28 then
        Option.bind (impl_OfferCode e24 e5) fun v36 =>
        some (v36 == 7)
      else
      some false
    | .inr y37 =>
      some y37.1
def laws_FnTrust.sig : Sig := { ps := [.val false (.sl (.int .u8)) (kept (.sl (.int .u8))), .val false (.sl (.int .u8)) (kept (.sl (.int .u8)))], rs := [.val false [.v .bool]], ntmps := 198 }
def laws_FnTrust.con (k : Nat) : Con := laws_FnTrust.sig.con (fun x => laws_FnTrust k x.1 x.2)
def laws_FnTrust.C (k : Nat) : Ctx := { ti := TAB, con := conL [(13, spec_DrawSettle.con k), (14, impl_Settle.con k), (15, spec_DrawBestOffer.con k), (16, impl_BestOffer.con k), (17, spec_DrawTrustRead.con k), (18, impl_TrustBytes.con k), (19, spec_Settle.con k), (20, spec_BestOffer.con k), (21, impl_TrustRead.con k), (22, spec_TrustRead.con k), (23, spec_TrustBytes.con k), (24, impl_OfferCode.con k), (25, spec_OfferCode.con k), (26, impl_TrustRight.con k), (27, spec_TrustRight.con k), (28, impl_OfferRight.con k), (29, spec_OfferRight.con k)] }
theorem laws_FnTrust.cok (k : Nat) : CtxOk Try.prog (laws_FnTrust.C k) := ctx_ok TABok ⟨spec_DrawSettle.ok k, impl_Settle.ok k, spec_DrawBestOffer.ok k, impl_BestOffer.ok k, spec_DrawTrustRead.ok k, impl_TrustBytes.ok k, spec_Settle.ok k, spec_BestOffer.ok k, impl_TrustRead.ok k, spec_TrustRead.ok k, spec_TrustBytes.ok k, impl_OfferCode.ok k, spec_OfferCode.ok k, impl_TrustRight.ok k, spec_TrustRight.ok k, impl_OfferRight.ok k, spec_OfferRight.ok k, trivial⟩
def laws_FnTrust.l0.ish : Shape := { tmps := [(9, .one (.ptr 4 0)), (10, .one (.own 5)), (11, .one (.v (.int .i64))), (14, .one (.v (.int .i64)))], slots := [(4, .box 36 [.v (.int .i64), .v (.int .i64)]), (5, .arr false 38 T38)], nb := 6 }
def laws_FnTrust.l0.outs : List (Ex × Shape) := [(.exit 0, { tmps := [], slots := [(4, .box 36 [.v (.int .i64), .v (.int .i64)])], nb := 6 }), (.ret, { tmps := [(4, .one (.v .bool))], slots := [(4, .box 36 [.v (.int .i64), .v (.int .i64)])], nb := 6 })]
def laws_FnTrust.l0.F (k j : Nat) (x : Prod' laws_FnTrust.l0.ish.tys) : Option (Outs laws_FnTrust.l0.outs) := laws_FnTrust.l0 j x.1 x.2.1 x.2.2.1 x.2.2.2.1 x.2.2.2.2
def laws_FnTrust.l0.s (k : Nat) : Summ := { n := 198, ish := laws_FnTrust.l0.ish, outs := laws_FnTrust.l0.outs, f := laws_FnTrust.l0.F k k }
theorem laws_FnTrust.l0.ev (k j : Nat) (x : Prod' laws_FnTrust.l0.ish.tys) : V (laws_FnTrust.C k) .auto (cO (cO (cR (cL (cR (cR (cR (cR (cR (cR (cR (cR (cR (cR (cB Try.f4))))))))))))))) (mk laws_FnTrust.l0.ish 198 x) (fun e st' => match e with | .nrm => (rd laws_FnTrust.l0.ish st').bind (laws_FnTrust.l0.F k j) | e => rdOut e st' laws_FnTrust.l0.outs) = laws_FnTrust.l0.F k (j + 1) x := by kernel_rfl
theorem laws_FnTrust.l0.ok (k : Nat) : SumOk Try.prog (laws_FnTrust.C k) (.loop (cO (cO (cR (cL (cR (cR (cR (cR (cR (cR (cR (cR (cR (cR (cB Try.f4)))))))))))))))) (laws_FnTrust.l0.s k) := sum_ok (by kernel_rfl) (sum_loop (p := .auto) (F := laws_FnTrust.l0.F k) (laws_FnTrust.cok k) (by kernel_rfl) (plan_of (L := []) (by kernel_rfl) trivial) (fun _ => rfl) (fun j x y h => (laws_FnTrust.l0.ev k j x).trans h) k rfl)
theorem laws_FnTrust.ev (k : Nat) (x : Prod' laws_FnTrust.sig.ins) : laws_FnTrust.sig.ev (laws_FnTrust.C k) (.two .auto (.two .auto (.two .auto (.two .auto (.two .auto (.two .auto (.two .auto (.two .auto (.two .auto (.two .auto (.two (.two .auto (.one (.sum (laws_FnTrust.l0.s k)))) .auto))))))))))) Try.f4.results.toList (cB Try.f4) x = laws_FnTrust k x.1 x.2 := by kernel_rfl
theorem laws_FnTrust.ok (k : Nat) : ConOk Try.prog 4 (laws_FnTrust.con k) := sig_ok (p := (.two .auto (.two .auto (.two .auto (.two .auto (.two .auto (.two .auto (.two .auto (.two .auto (.two .auto (.two .auto (.two (.two .auto (.one (.sum (laws_FnTrust.l0.s k)))) .auto)))))))))))) (laws_FnTrust.cok k) Try.func4 (by kernel_rfl) (show Try.f4.body = some (cB Try.f4) by kernel_rfl) (by kernel_rfl) (by kernel_rfl) (plan_of (L := [(laws_FnTrust.l0.s k, cO (cR (cL (cR (cR (cR (cR (cR (cR (cR (cR (cR (cR (cB Try.f4))))))))))))))]) (by kernel_rfl) ⟨laws_FnTrust.l0.ok k, trivial⟩) (fun x y h => (laws_FnTrust.ev k x).trans h)
end Go.Proofs.YtnmbinfgcgjfbaaE

namespace Go.Proofs.YtnmbinfgcgjfbaaE
open Go
set_option linter.unusedVariables false
def Ever (p : Nat → Prop) : Prop := ∃ K, ∀ k, K ≤ k → p k
theorem Ever.of {p : Nat → Prop} (h : ∀ k, p k) : Ever p := ⟨0, fun k _ => h k⟩
theorem Ever.ge {p : Nat → Prop} (K : Nat) (h : ∀ k, K ≤ k → p k) : Ever p := ⟨K, h⟩
theorem Ever.mono {p q : Nat → Prop} (h : Ever p) (f : ∀ k, p k → q k) : Ever q := by
  obtain ⟨K, h⟩ := h
  exact ⟨K, fun k hk => f k (h k hk)⟩
theorem Ever.and {p q : Nat → Prop} (h : Ever p) (g : Ever q) : Ever fun k => p k ∧ q k := by
  obtain ⟨K, h⟩ := h
  obtain ⟨J, g⟩ := g
  exact ⟨K + J, fun k hk => ⟨h k (by omega), g k (by omega)⟩⟩
theorem Ever.ex {p : Nat → Prop} (h : Ever p) : ∃ k, p k := by
  obtain ⟨K, h⟩ := h
  exact ⟨K, h K (Nat.le_refl K)⟩
theorem Ever.all {n : Nat} {p : Nat → Nat → Prop} : (∀ i, i < n → Ever (p i)) → Ever fun k => ∀ i, i < n → p i k := by
  induction n with
  | zero => exact fun _ => ⟨0, fun k _ i hi => absurd hi (Nat.not_lt_zero i)⟩
  | succ n ih =>
    intro h
    refine ((ih fun i hi => h i (Nat.lt_succ_of_lt hi)).and (h n (Nat.lt_succ_self n))).mono fun k hk i hi => ?_
    rcases Nat.eq_or_lt_of_le (Nat.le_of_lt_succ hi) with rfl | hi
    · exact hk.2
    · exact hk.1 i hi
/-- Two facts, then a third. -/
theorem Ever.two {p q r : Nat → Prop} (h : Ever p) (g : Ever q) (f : ∀ k, p k → q k → r k) : Ever r := (h.and g).mono fun k hk => f k hk.1 hk.2
/-- A loop of n rounds: what it has in hand at round i is told by i. -/
theorem ever_loop {R : Type} (L : Nat → Nat → Nat → Option R) (n : Nat) (r : R) (hs : Ever fun k => ∀ i, i < n → ∀ j, L k (j + 1) i = L k j (i + 1)) (hl : Ever fun k => ∀ j, L k (j + 1) n = some r) : Ever fun k => L k k 0 = some r := by
  obtain ⟨K, hs⟩ := hs
  obtain ⟨J, hl⟩ := hl
  refine ⟨K + J + n + 1, fun k hk => ?_⟩
  have hs := hs k (by omega)
  have hl := hl k (by omega)
  have key : ∀ d i j, i + d = n → d < j → L k j i = some r := by
    intro d
    induction d with
    | zero =>
      intro i j hi hj
      obtain ⟨m, rfl⟩ : ∃ m, j = m + 1 := ⟨j - 1, by omega⟩
      obtain rfl : i = n := by omega
      exact hl m
    | succ d ih =>
      intro i j hi hj
      obtain ⟨m, rfl⟩ : ∃ m, j = m + 1 := ⟨j - 1, by omega⟩
      rw [hs i (by omega) m]
      exact ih (i + 1) m (by omega) (by omega)
  exact key n 0 k (by omega) (by omega)
/-- The same, where neither the round nor the end hangs on fuel. -/
theorem loop_of {R : Type} (L : Nat → Nat → Option R) (n : Nat) (r : R) (hs : ∀ i, i < n → ∀ j, L (j + 1) i = L j (i + 1)) (hl : ∀ j, L (j + 1) n = some r) : Ever fun k => L k 0 = some r :=
  ever_loop (fun _ j i => L j i) n r (Ever.of fun _ => hs) (Ever.of fun _ => hl)
theorem loop_at {R : Type} (L : Nat → Nat → Option R) (n : Nat) (r : R) (hs : ∀ i, i < n → ∀ j, L (j + 1) i = L j (i + 1)) (hl : ∀ j, L (j + 1) n = some r) : ∀ k, n < k → L k 0 = some r := by
  have key : ∀ d i j, i + d = n → d < j → L j i = some r := by
    intro d
    induction d with
    | zero =>
      intro i j hi hj
      obtain ⟨m, rfl⟩ : ∃ m, j = m + 1 := ⟨j - 1, by omega⟩
      obtain rfl : i = n := by omega
      exact hl m
    | succ d ih =>
      intro i j hi hj
      obtain ⟨m, rfl⟩ : ∃ m, j = m + 1 := ⟨j - 1, by omega⟩
      rw [hs i (by omega) m]
      exact ih (i + 1) m (by omega) (by omega)
  exact fun k hk => key n 0 k (by omega) hk
theorem bnd {α β : Type} {f : Nat → Option α} {g : Nat → α → Option β} {a : α} {b : β} (h : Ever fun k => f k = some a) (k : Ever fun k => g k a = some b) : Ever fun k => (f k).bind (g k) = some b :=
  h.two k fun k h1 h2 => by rw [h1]; exact h2
theorem some_cond {α : Type} {b : Bool} {x y : Option α} (hx : ∃ v, x = some v) (hy : ∃ v, y = some v) : ∃ v, (bif b then x else y) = some v := by
  cases b
  · exact hy
  · exact hx
theorem some_bind {α β : Type} {x : Option α} {f : α → Option β} (hx : ∃ v, x = some v) (hf : ∀ v, ∃ w, f v = some w) : ∃ w, x.bind f = some w := by
  obtain ⟨v, rfl⟩ := hx
  exact hf v
/-! ### numbers -/
theorem w64 {n : Int} (h0 : -9223372036854775808 ≤ n) (h1 : n < 9223372036854775808) : IntKind.wrap .i64 n = n := by
  simp [IntKind.wrap, IntKind.bits, IntKind.signed]
  omega
theorem wf64 {n : Int} (h : Bnd (.int .i64) n) : -9223372036854775808 ≤ n ∧ n < 9223372036854775808 := by
  have h : (Lit.int .i64 n).wf = true := h
  simp [Lit.wf, IntKind.min, IntKind.max, IntKind.signed, IntKind.bits] at h
  omega
theorem wn {n : Nat} (h : n < 9223372036854775808) : IntKind.wrap .i64 (n : Int) = n := w64 (by omega) (by omega)
theorem wsuc {n : Nat} (h : n < 9223372036854775807) : IntKind.wrap .i64 ((n : Int) + 1) = ((n + 1 : Nat) : Int) := by rw [w64] <;> omega
/-! ### partial answers -/
theorem at_nat {α : Type} {l : List α} {i : Nat} (h : i < l.length) : at? l (i : Int) = some l[i] := by
  unfold at?
  rw [if_pos (by omega), Int.toNat_natCast, List.getElem?_eq_getElem h]
theorem app_ok {α : Type} {n : Nat} {a b : List α} (h : (a.length + b.length) * n ≤ 140737488355328) : app? n a b = some (a ++ b) := if_pos h
theorem cat_some {a b : Str} (h : a.length + b.length ≤ 9223372036854775807) : cat? a b = some (a ++ b) := if_pos h
theorem make_some {α : Type} {b n : Nat} {x : α} (h : n * b ≤ 140737488355328) : make? b (n : Int) (n : Int) x = some (List.replicate n x) := by
  unfold make?
  rw [if_pos ⟨by omega, Int.le_refl _, by rw [Int.toNat_natCast]; exact h⟩, Int.toNat_natCast]
theorem cut_ok {α : Type} {l : List α} {i j : Nat} (h : i ≤ j) (k : j ≤ l.length) : cut? l (i : Int) (j : Int) = some ((l.take j).drop i) := by
  unfold cut?
  rw [if_pos ⟨by omega, by omega, by omega⟩, Int.toNat_natCast, Int.toNat_natCast]
theorem room_some {n b : Nat} (h : n * b ≤ 140737488355328) : room? n b = some () := if_pos h
theorem nz_some {b : Int} (h : b ≠ 0) : nz? b = some () := if_neg h
theorem nneg_some {b : Int} (h : 0 ≤ b) : nneg? b = some () := if_neg (by omega)
theorem take_map_succ {α β : Type} {l : List α} (f : α → β) {i : Nat} (h : i < l.length) : (l.take (i + 1)).map f = (l.take i).map f ++ [f l[i]] := by
  rw [List.take_add_one, List.getElem?_eq_getElem h, List.map_append]
  rfl
theorem take_succ' {α : Type} {l : List α} {i : Nat} (h : i < l.length) : l.take (i + 1) = l.take i ++ [l[i]] := by
  rw [List.take_add_one, List.getElem?_eq_getElem h]
  rfl
/-- A list that is filled, place by place. -/
theorem fill_set {α β : Type} {l : List α} {f : α → β} {z : β} {i : Nat} (h : i < l.length) :
    ((l.take i).map f ++ List.replicate (l.length - i) z).set i (f l[i]) = (l.take (i + 1)).map f ++ List.replicate (l.length - (i + 1)) z := by
  have hl : ((l.take i).map f).length = i := by simp; omega
  rw [List.set_append_right _ _ (by rw [hl]; exact Nat.le_refl i), hl, Nat.sub_self, show l.length - i = (l.length - (i + 1)) + 1 by omega, List.replicate_succ, List.set_cons_zero, take_map_succ f h, List.append_assoc]
  rfl
theorem fill_len {α β : Type} {l : List α} {f : α → β} {z : β} {i : Nat} (h : i ≤ l.length) : ((l.take i).map f ++ List.replicate (l.length - i) z).length = l.length := by simp; omega
end Go.Proofs.YtnmbinfgcgjfbaaE
