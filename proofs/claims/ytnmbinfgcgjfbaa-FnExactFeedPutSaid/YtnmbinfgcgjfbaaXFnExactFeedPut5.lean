/- What the law FnExactFeedPut needs, part 6 of 7: the Lean functions of the Go functions that it reaches, with the proofs that the calls come to what they say, and plain facts about them. Conditions: those that each theorem states. Written by a session and by its programs (after the kit's printer). -/
import Derived.Test.YtnmbinfgcgjfbaaXFnExactFeedPut4
namespace Go.Proofs.YtnmbinfgcgjfbaaE
open Go Go.RowKit
set_option linter.unusedVariables false
def laws_szHead (a1 : G66) (a2 : Int) : Option (Int) :=
  let e3 := IntKind.wrap .i64 (a2 - ((a1.2.2.2.length) : Int))
  bif decide (e3 < 0) then
    some (-1)
  else
  some e3
def laws_szHead.sig : Sig := { ps := [.val true T66 (ros T66), .val false (.int .i64) (ros (.int .i64))], rs := [.val false [.v (.int .i64)]], ntmps := 13 }
def laws_szHead.con (k : Nat) : Con := laws_szHead.sig.con (fun x => laws_szHead x.1 x.2)
def laws_szHead.C (k : Nat) : Ctx := { ti := TAB, con := conL [] }
theorem laws_szHead.cok (k : Nat) : CtxOk Try.prog (laws_szHead.C k) := ctx_ok TABok trivial
theorem laws_szHead.ev (k : Nat) (x : Prod' laws_szHead.sig.ins) : laws_szHead.sig.ev (laws_szHead.C k) .auto Try.f86.results.toList (cB Try.f86) x = laws_szHead x.1 x.2 := by kernel_rfl
theorem laws_szHead.ok (k : Nat) : ConOk Try.prog 86 (laws_szHead.con k) := sig_ok (p := .auto) (laws_szHead.cok k) Try.func86 (by kernel_rfl) (show Try.f86.body = some (cB Try.f86) by kernel_rfl) (by kernel_rfl) (by kernel_rfl) (plan_of (L := []) (by kernel_rfl) trivial) (fun x y h => (laws_szHead.ev k x).trans h)
def laws_szFeed (a1 : G68) (a2 : Int) : Option (Int) :=
  Option.bind (laws_szHead a1.1 a2) fun v3 =>
  bif decide (v3 < 0) then
    some (-1)
  else
  let e4 := IntKind.wrap .i64 (v3 - ((a1.2.2.length) : Int))
  bif decide (e4 < 0) then
    some (-1)
  else
  some e4
def laws_szFeed.sig : Sig := { ps := [.val true T68 (ros T68), .val false (.int .i64) (ros (.int .i64))], rs := [.val false [.v (.int .i64)]], ntmps := 19 }
def laws_szFeed.con (k : Nat) : Con := laws_szFeed.sig.con (fun x => laws_szFeed x.1 x.2)
def laws_szFeed.C (k : Nat) : Ctx := { ti := TAB, con := conL [(86, laws_szHead.con k)] }
theorem laws_szFeed.cok (k : Nat) : CtxOk Try.prog (laws_szFeed.C k) := ctx_ok TABok ⟨laws_szHead.ok k, trivial⟩
theorem laws_szFeed.ev (k : Nat) (x : Prod' laws_szFeed.sig.ins) : laws_szFeed.sig.ev (laws_szFeed.C k) .auto Try.f35.results.toList (cB Try.f35) x = laws_szFeed x.1 x.2 := by kernel_rfl
theorem laws_szFeed.ok (k : Nat) : ConOk Try.prog 35 (laws_szFeed.con k) := sig_ok (p := .auto) (laws_szFeed.cok k) Try.func35 (by kernel_rfl) (show Try.f35.body = some (cB Try.f35) by kernel_rfl) (by kernel_rfl) (by kernel_rfl) (plan_of (L := []) (by kernel_rfl) trivial) (fun x y h => (laws_szFeed.ev k x).trans h)
def spec_l03Is (a1 : Int) (a2 : Int) (a3 : Int) : Option (Bool) :=
  some ((decide (a2 ≤ a1)) && (decide (a1 ≤ a3)))
def spec_l03Is.sig : Sig := { ps := [.val false (.int .i64) (ros (.int .i64)), .val false (.int .i64) (ros (.int .i64)), .val false (.int .i64) (ros (.int .i64))], rs := [.val false [.v .bool]], ntmps := 15 }
def spec_l03Is.con (k : Nat) : Con := spec_l03Is.sig.con (fun x => spec_l03Is x.1 x.2.1 x.2.2)
def spec_l03Is.C (k : Nat) : Ctx := { ti := TAB, con := conL [] }
theorem spec_l03Is.cok (k : Nat) : CtxOk Try.prog (spec_l03Is.C k) := ctx_ok TABok trivial
theorem spec_l03Is.ev (k : Nat) (x : Prod' spec_l03Is.sig.ins) : spec_l03Is.sig.ev (spec_l03Is.C k) .auto Try.f68.results.toList (cB Try.f68) x = spec_l03Is x.1 x.2.1 x.2.2 := by kernel_rfl
theorem spec_l03Is.ok (k : Nat) : ConOk Try.prog 68 (spec_l03Is.con k) := sig_ok (p := .auto) (spec_l03Is.cok k) Try.func68 (by kernel_rfl) (show Try.f68.body = some (cB Try.f68) by kernel_rfl) (by kernel_rfl) (by kernel_rfl) (plan_of (L := []) (by kernel_rfl) trivial) (fun x y h => (spec_l03Is.ev k x).trans h)
def spec_HeadRight (a1 : G66) : Option (Bool) :=
  Option.bind (spec_l03Is a1.1 1 8) fun v2 =>
  bif v2 then
    Option.bind (spec_l03Is a1.2.1 1 20) fun v3 =>
    bif v3 then
      Option.bind (spec_l03Is a1.2.2.1 0 4) fun v4 =>
      some (v4 && (((a1.2.2.2.length) : Int) == 32))
    else
    some false
  else
  some false
def spec_HeadRight.sig : Sig := { ps := [.val true T66 (ros T66)], rs := [.val false [.v .bool]], ntmps := 22 }
def spec_HeadRight.con (k : Nat) : Con := spec_HeadRight.sig.con (fun x => spec_HeadRight x)
def spec_HeadRight.C (k : Nat) : Ctx := { ti := TAB, con := conL [(68, spec_l03Is.con k)] }
theorem spec_HeadRight.cok (k : Nat) : CtxOk Try.prog (spec_HeadRight.C k) := ctx_ok TABok ⟨spec_l03Is.ok k, trivial⟩
theorem spec_HeadRight.ev (k : Nat) (x : Prod' spec_HeadRight.sig.ins) : spec_HeadRight.sig.ev (spec_HeadRight.C k) .auto Try.f72.results.toList (cB Try.f72) x = spec_HeadRight x := by kernel_rfl
theorem spec_HeadRight.ok (k : Nat) : ConOk Try.prog 72 (spec_HeadRight.con k) := sig_ok (p := .auto) (spec_HeadRight.cok k) Try.func72 (by kernel_rfl) (show Try.f72.body = some (cB Try.f72) by kernel_rfl) (by kernel_rfl) (by kernel_rfl) (plan_of (L := []) (by kernel_rfl) trivial) (fun x y h => (spec_HeadRight.ev k x).trans h)
def spec_FeedRight (a1 : G68) : Option (Bool) :=
  bif decide (500 < ((a1.2.2.length) : Int)) then
    some false
  else
  bif (a1.1.1 == 0) && ((a1.1.2.1 == 0) && ((a1.1.2.2.1 == 0) && (a1.1.2.2.2 == []))) then
    some (a1.2.1 == 0)
  else
  Option.bind (spec_HeadRight a1.1) fun v2 =>
  bif v2 then
    Option.bind (spec_l03Is a1.2.1 0 a1.1.2.1) fun v3 =>
    some v3
  else
  some false
def spec_FeedRight.sig : Sig := { ps := [.val true T68 (ros T68)], rs := [.val false [.v .bool]], ntmps := 25 }
def spec_FeedRight.con (k : Nat) : Con := spec_FeedRight.sig.con (fun x => spec_FeedRight x)
def spec_FeedRight.C (k : Nat) : Ctx := { ti := TAB, con := conL [(68, spec_l03Is.con k), (72, spec_HeadRight.con k)] }
theorem spec_FeedRight.cok (k : Nat) : CtxOk Try.prog (spec_FeedRight.C k) := ctx_ok TABok ⟨spec_l03Is.ok k, spec_HeadRight.ok k, trivial⟩
theorem spec_FeedRight.ev (k : Nat) (x : Prod' spec_FeedRight.sig.ins) : spec_FeedRight.sig.ev (spec_FeedRight.C k) .auto Try.f87.results.toList (cB Try.f87) x = spec_FeedRight x := by kernel_rfl
theorem spec_FeedRight.ok (k : Nat) : ConOk Try.prog 87 (spec_FeedRight.con k) := sig_ok (p := .auto) (spec_FeedRight.cok k) Try.func87 (by kernel_rfl) (show Try.f87.body = some (cB Try.f87) by kernel_rfl) (by kernel_rfl) (by kernel_rfl) (plan_of (L := []) (by kernel_rfl) trivial) (fun x y h => (spec_FeedRight.ev k x).trans h)
def spec_GetNum.l0 : Nat → Str → Int → Int → Int → Int → Int → Int → Option ((Int × Int × Int) ⊕ (Int × Int × Int))
  | 0, _, _, _, _, _, _, _ => none
  | j + 1, a1, a2, a3, a4, a5, a6, a7 =>
    bif decide (a4 < 10) then
      bif decide ((IntKind.wrap .i64 (((a1.length) : Int) - a4)) ≤ a2) then
        some (.inr (0, 0, 4))
      else
      let e8 := IntKind.wrap .i64 (a2 + a4)
      Option.bind (at? a1 e8) fun v9 =>
      bif (a4 == 9) && (decide (1 < (IntKind.wrap .u64 (v9.toNat : Int)))) then
        some (.inr (0, 0, 3))
      else
      Option.bind (nz? 128) fun v10 =>
      let e11 := IntKind.wrap .u64 (IntKind.wrap .i64 (7 * a4))
      Option.bind (nneg? e11) fun v12 =>
      let e13 := IntKind.wrap .u64 (a3 + (shl .u64 (Int.tmod (IntKind.wrap .u64 (v9.toNat : Int)) 128) e11))
      bif decide ((IntKind.wrap .u64 (v9.toNat : Int)) < 128) then
        bif ((IntKind.wrap .u64 (v9.toNat : Int)) == 0) && (decide (0 < a4)) then
          some (.inr (0, 0, 3))
        else
        Option.bind (nz? 2) fun v14 =>
        Option.bind (nz? 2) fun v15 =>
        let e16 := IntKind.wrap .i64 (e8 + 1)
        let e17 := IntKind.wrap .i64 (IntKind.wrap .u64 (Int.tdiv e13 2))
        bif (Int.tmod e13 2) == 1 then
          some (.inr (IntKind.wrap .i64 ((IntKind.wrap .i64 (0 - e17)) - 1), e16, 0))
        else
        some (.inr (e17, e16, 0))
      else
      spec_GetNum.l0 j a1 a2 e13 (IntKind.wrap .i64 (a4 + 1)) a5 a6 a7
    else
    some (.inl (a5, a6, a7))
def spec_GetNum (k : Nat) (a1 : Str) (a2 : Int) : Option (Int × Int × Int) :=
  bif decide (8000 < ((a1.length) : Int)) then
    some (0, 0, 2)
  else
  bif decide (a2 < 0) then
    some (0, 0, 1)
  else
  Option.bind (spec_GetNum.l0 k a1 a2 0 0 0 0 0) fun
    | .inl y3 =>
      some (0, 0, 3)
    | .inr y4 =>
      some (y4.1, y4.2.1, y4.2.2)
def spec_GetNum.sig : Sig := { ps := [.val false .str (ros .str), .val false (.int .i64) (ros (.int .i64))], rs := [.val true [.v (.int .i64), .v (.int .i64), .v (.int .i64)]], ntmps := 73 }
def spec_GetNum.con (k : Nat) : Con := spec_GetNum.sig.con (fun x => spec_GetNum k x.1 x.2)
def spec_GetNum.C (k : Nat) : Ctx := { ti := TAB, con := conL [] }
theorem spec_GetNum.cok (k : Nat) : CtxOk Try.prog (spec_GetNum.C k) := ctx_ok TABok trivial
def spec_GetNum.l0.ish : Shape := { tmps := [(0, .one (.v .str)), (1, .one (.v (.int .i64))), (4, .one (.ptr 0 0)), (5, .one (.v (.int .u64))), (6, .one (.v (.int .i64)))], slots := [(0, .box 144 [.v (.int .i64), .v (.int .i64), .v (.int .i64)])], nb := 1 }
def spec_GetNum.l0.outs : List (Ex × Shape) := [(.exit 0, { tmps := [], slots := [(0, .box 144 [.v (.int .i64), .v (.int .i64), .v (.int .i64)])], nb := 1 }), (.ret, { tmps := [], slots := [(0, .box 144 [.v (.int .i64), .v (.int .i64), .v (.int .i64)])], nb := 1 })]
def spec_GetNum.l0.F (k j : Nat) (x : Prod' spec_GetNum.l0.ish.tys) : Option (Outs spec_GetNum.l0.outs) := spec_GetNum.l0 j x.1 x.2.1 x.2.2.1 x.2.2.2.1 x.2.2.2.2.1 x.2.2.2.2.2.1 x.2.2.2.2.2.2
def spec_GetNum.l0.s (k : Nat) : Summ := { n := 73, ish := spec_GetNum.l0.ish, outs := spec_GetNum.l0.outs, f := spec_GetNum.l0.F k k }
theorem spec_GetNum.l0.ev (k j : Nat) (x : Prod' spec_GetNum.l0.ish.tys) : V (spec_GetNum.C k) .auto (cO (cO (cR (cL (cR (cR (cR (cR (cB Try.f109))))))))) (mk spec_GetNum.l0.ish 73 x) (fun e st' => match e with | .nrm => (rd spec_GetNum.l0.ish st').bind (spec_GetNum.l0.F k j) | e => rdOut e st' spec_GetNum.l0.outs) = spec_GetNum.l0.F k (j + 1) x := by kernel_rfl
theorem spec_GetNum.l0.ok (k : Nat) : SumOk Try.prog (spec_GetNum.C k) (.loop (cO (cO (cR (cL (cR (cR (cR (cR (cB Try.f109)))))))))) (spec_GetNum.l0.s k) := sum_ok (by kernel_rfl) (sum_loop (p := .auto) (F := spec_GetNum.l0.F k) (spec_GetNum.cok k) (by kernel_rfl) (plan_of (L := []) (by kernel_rfl) trivial) (fun _ => rfl) (fun j x y h => (spec_GetNum.l0.ev k j x).trans h) k rfl)
theorem spec_GetNum.ev (k : Nat) (x : Prod' spec_GetNum.sig.ins) : spec_GetNum.sig.ev (spec_GetNum.C k) (.two .auto (.two .auto (.two .auto (.two .auto (.two (.two .auto (.one (.sum (spec_GetNum.l0.s k)))) .auto))))) Try.f109.results.toList (cB Try.f109) x = spec_GetNum k x.1 x.2 := by kernel_rfl
theorem spec_GetNum.ok (k : Nat) : ConOk Try.prog 109 (spec_GetNum.con k) := sig_ok (p := (.two .auto (.two .auto (.two .auto (.two .auto (.two (.two .auto (.one (.sum (spec_GetNum.l0.s k)))) .auto)))))) (spec_GetNum.cok k) Try.func109 (by kernel_rfl) (show Try.f109.body = some (cB Try.f109) by kernel_rfl) (by kernel_rfl) (by kernel_rfl) (plan_of (L := [(spec_GetNum.l0.s k, cO (cR (cL (cR (cR (cR (cR (cB Try.f109))))))))]) (by kernel_rfl) ⟨spec_GetNum.l0.ok k, trivial⟩) (fun x y h => (spec_GetNum.ev k x).trans h)
def spec_GetText (k : Nat) (a1 : Str) (a2 : Int) : Option (Str × Int × Int) :=
  Option.bind (spec_GetNum k a1 a2) fun v3 =>
  bif v3.2.2 != 0 then
    some ([], 0, v3.2.2)
  else
  bif (decide (v3.1 < 0)) || (decide (8000 < v3.1)) then
    some ([], 0, 3)
  else
  bif decide ((IntKind.wrap .i64 (((a1.length) : Int) - v3.1)) < v3.2.1) then
    some ([], 0, 4)
  else
  let e4 := IntKind.wrap .i64 (v3.2.1 + v3.1)
  Option.bind (cut? a1 v3.2.1 e4) fun v5 =>
  some (v5, e4, 0)
def spec_GetText.sig : Sig := { ps := [.val false .str (ros .str), .val false (.int .i64) (ros (.int .i64))], rs := [.val true [.v .str, .v (.int .i64), .v (.int .i64)]], ntmps := 48 }
def spec_GetText.con (k : Nat) : Con := spec_GetText.sig.con (fun x => spec_GetText k x.1 x.2)
def spec_GetText.C (k : Nat) : Ctx := { ti := TAB, con := conL [(109, spec_GetNum.con k)] }
theorem spec_GetText.cok (k : Nat) : CtxOk Try.prog (spec_GetText.C k) := ctx_ok TABok ⟨spec_GetNum.ok k, trivial⟩
theorem spec_GetText.ev (k : Nat) (x : Prod' spec_GetText.sig.ins) : spec_GetText.sig.ev (spec_GetText.C k) .auto Try.f88.results.toList (cB Try.f88) x = spec_GetText k x.1 x.2 := by kernel_rfl
theorem spec_GetText.ok (k : Nat) : ConOk Try.prog 88 (spec_GetText.con k) := sig_ok (p := .auto) (spec_GetText.cok k) Try.func88 (by kernel_rfl) (show Try.f88.body = some (cB Try.f88) by kernel_rfl) (by kernel_rfl) (by kernel_rfl) (plan_of (L := []) (by kernel_rfl) trivial) (fun x y h => (spec_GetText.ev k x).trans h)
def spec_l01Four (a1 : Int) : Option (Str) :=
  Option.bind (nneg? 8) fun v2 =>
  Option.bind (nneg? 16) fun v3 =>
  Option.bind (nneg? 24) fun v4 =>
  some (listByte [(IntKind.wrap .u8 a1), (IntKind.wrap .u8 (shr .i64 a1 8)), (IntKind.wrap .u8 (shr .i64 a1 16)), (IntKind.wrap .u8 (shr .i64 a1 24))])
def spec_l01Four.sig : Sig := { ps := [.val false (.int .i64) (ros (.int .i64))], rs := [.val false [.v .str]], ntmps := 16 }
def spec_l01Four.con (k : Nat) : Con := spec_l01Four.sig.con (fun x => spec_l01Four x)
def spec_l01Four.C (k : Nat) : Ctx := { ti := TAB, con := conL [] }
theorem spec_l01Four.cok (k : Nat) : CtxOk Try.prog (spec_l01Four.C k) := ctx_ok TABok trivial
theorem spec_l01Four.ev (k : Nat) (x : Prod' spec_l01Four.sig.ins) : spec_l01Four.sig.ev (spec_l01Four.C k) .auto Try.f104.results.toList (cB Try.f104) x = spec_l01Four x := by kernel_rfl
theorem spec_l01Four.ok (k : Nat) : ConOk Try.prog 104 (spec_l01Four.con k) := sig_ok (p := .auto) (spec_l01Four.cok k) Try.func104 (by kernel_rfl) (show Try.f104.body = some (cB Try.f104) by kernel_rfl) (by kernel_rfl) (by kernel_rfl) (plan_of (L := []) (by kernel_rfl) trivial) (fun x y h => (spec_l01Four.ev k x).trans h)
def spec_l01Crc.l0 : Nat → Int → Int → Option (Int)
  | 0, _, _ => none
  | j + 1, a1, a2 =>
    bif decide (a2 < 8) then
      let e3 := IntKind.wrap .i64 (a2 + 1)
      bif (intBits .and .u32 a1 1) == 1 then
        Option.bind (nneg? 1) fun v4 =>
        spec_l01Crc.l0 j (intBits .xor .u32 (shr .u32 a1 1) 3988292384) e3
      else
      Option.bind (nneg? 1) fun v5 =>
      spec_l01Crc.l0 j (shr .u32 a1 1) e3
    else
    some a1
def spec_l01Crc.l1 (k : Nat) : Nat → Str → Int → Int → Option (Int)
  | 0, _, _, _ => none
  | j + 1, a1, a2, a3 =>
    bif decide (a3 < ((a1.length) : Int)) then
      Option.bind (at? a1 a3) fun v4 =>
      Option.bind (spec_l01Crc.l0 k (intBits .xor .u32 a2 (IntKind.wrap .u32 (v4.toNat : Int))) 0) fun y5 =>
      spec_l01Crc.l1 k j a1 y5 (IntKind.wrap .i64 (a3 + 1))
    else
    some a2
def spec_l01Crc (k : Nat) (a1 : Int) (a2 : Str) : Option (Int) :=
  Option.bind (spec_l01Crc.l1 k k a2 (intBits .xor .u32 (IntKind.wrap .u32 a1) 4294967295) 0) fun y3 =>
  some (IntKind.wrap .i64 (intBits .xor .u32 y3 4294967295))
def spec_l01Crc.sig : Sig := { ps := [.val false (.int .i64) (ros (.int .i64)), .val false .str (ros .str)], rs := [.val false [.v (.int .i64)]], ntmps := 38 }
def spec_l01Crc.con (k : Nat) : Con := spec_l01Crc.sig.con (fun x => spec_l01Crc k x.1 x.2)
def spec_l01Crc.C (k : Nat) : Ctx := { ti := TAB, con := conL [] }
theorem spec_l01Crc.cok (k : Nat) : CtxOk Try.prog (spec_l01Crc.C k) := ctx_ok TABok trivial
def spec_l01Crc.l0.ish : Shape := { tmps := [(5, .one (.v (.int .u32))), (7, .one (.v (.int .i64)))], slots := [], nb := 0 }
def spec_l01Crc.l0.outs : List (Ex × Shape) := [(.exit 2, { tmps := [(5, .one (.v (.int .u32)))], slots := [], nb := 0 })]
def spec_l01Crc.l0.F (k j : Nat) (x : Prod' spec_l01Crc.l0.ish.tys) : Option (Outs spec_l01Crc.l0.outs) := spec_l01Crc.l0 j x.1 x.2
def spec_l01Crc.l0.s (k : Nat) : Summ := { n := 38, ish := spec_l01Crc.l0.ish, outs := spec_l01Crc.l0.outs, f := spec_l01Crc.l0.F k k }
theorem spec_l01Crc.l0.ev (k j : Nat) (x : Prod' spec_l01Crc.l0.ish.tys) : V (spec_l01Crc.C k) .auto (cO (cO (cR (cR (cO (cL (cR (cO (cO (cR (cL (cR (cR (cB Try.f105)))))))))))))) (mk spec_l01Crc.l0.ish 38 x) (fun e st' => match e with | .nrm => (rd spec_l01Crc.l0.ish st').bind (spec_l01Crc.l0.F k j) | e => rdOut e st' spec_l01Crc.l0.outs) = spec_l01Crc.l0.F k (j + 1) x := by kernel_rfl
theorem spec_l01Crc.l0.ok (k : Nat) : SumOk Try.prog (spec_l01Crc.C k) (.loop (cO (cO (cR (cR (cO (cL (cR (cO (cO (cR (cL (cR (cR (cB Try.f105))))))))))))))) (spec_l01Crc.l0.s k) := sum_ok (by kernel_rfl) (sum_loop (p := .auto) (F := spec_l01Crc.l0.F k) (spec_l01Crc.cok k) (by kernel_rfl) (plan_of (L := []) (by kernel_rfl) trivial) (fun _ => rfl) (fun j x y h => (spec_l01Crc.l0.ev k j x).trans h) k rfl)
def spec_l01Crc.l1.ish : Shape := { tmps := [(1, .one (.v .str)), (5, .one (.v (.int .u32))), (6, .one (.v (.int .i64)))], slots := [], nb := 0 }
def spec_l01Crc.l1.outs : List (Ex × Shape) := [(.exit 0, { tmps := [(5, .one (.v (.int .u32)))], slots := [], nb := 0 })]
def spec_l01Crc.l1.F (k j : Nat) (x : Prod' spec_l01Crc.l1.ish.tys) : Option (Outs spec_l01Crc.l1.outs) := spec_l01Crc.l1 k j x.1 x.2.1 x.2.2
def spec_l01Crc.l1.s (k : Nat) : Summ := { n := 38, ish := spec_l01Crc.l1.ish, outs := spec_l01Crc.l1.outs, f := spec_l01Crc.l1.F k k }
theorem spec_l01Crc.l1.ev (k j : Nat) (x : Prod' spec_l01Crc.l1.ish.tys) : V (spec_l01Crc.C k) (.two .auto (.two (.one (.two .auto (.two .auto (.one (.sum (spec_l01Crc.l0.s k)))))) .auto)) (cO (cO (cR (cL (cR (cR (cB Try.f105))))))) (mk spec_l01Crc.l1.ish 38 x) (fun e st' => match e with | .nrm => (rd spec_l01Crc.l1.ish st').bind (spec_l01Crc.l1.F k j) | e => rdOut e st' spec_l01Crc.l1.outs) = spec_l01Crc.l1.F k (j + 1) x := by kernel_rfl
theorem spec_l01Crc.l1.ok (k : Nat) : SumOk Try.prog (spec_l01Crc.C k) (.loop (cO (cO (cR (cL (cR (cR (cB Try.f105)))))))) (spec_l01Crc.l1.s k) := sum_ok (by kernel_rfl) (sum_loop (p := (.two .auto (.two (.one (.two .auto (.two .auto (.one (.sum (spec_l01Crc.l0.s k)))))) .auto))) (F := spec_l01Crc.l1.F k) (spec_l01Crc.cok k) (by kernel_rfl) (plan_of (L := [(spec_l01Crc.l0.s k, cO (cR (cR (cO (cL (cR (cO (cO (cR (cL (cR (cR (cB Try.f105)))))))))))))]) (by kernel_rfl) ⟨spec_l01Crc.l0.ok k, trivial⟩) (fun _ => rfl) (fun j x y h => (spec_l01Crc.l1.ev k j x).trans h) k rfl)
theorem spec_l01Crc.ev (k : Nat) (x : Prod' spec_l01Crc.sig.ins) : spec_l01Crc.sig.ev (spec_l01Crc.C k) (.two .auto (.two .auto (.two (.two .auto (.one (.sum (spec_l01Crc.l1.s k)))) .auto))) Try.f105.results.toList (cB Try.f105) x = spec_l01Crc k x.1 x.2 := by kernel_rfl
theorem spec_l01Crc.ok (k : Nat) : ConOk Try.prog 105 (spec_l01Crc.con k) := sig_ok (p := (.two .auto (.two .auto (.two (.two .auto (.one (.sum (spec_l01Crc.l1.s k)))) .auto)))) (spec_l01Crc.cok k) Try.func105 (by kernel_rfl) (show Try.f105.body = some (cB Try.f105) by kernel_rfl) (by kernel_rfl) (by kernel_rfl) (plan_of (L := [(spec_l01Crc.l1.s k, cO (cR (cL (cR (cR (cB Try.f105))))))]) (by kernel_rfl) ⟨spec_l01Crc.l1.ok k, trivial⟩) (fun x y h => (spec_l01Crc.ev k x).trans h)
def spec_Unseal (k : Nat) (a1 : Str) : Option (Str × Int × Int) :=
  bif decide (8000 < ((a1.length) : Int)) then
    some ([], 0, 2)
  else
  bif decide (((a1.length) : Int) < 4) then
    some ([], 0, 4)
  else
  let e2 := IntKind.wrap .i64 (((a1.length) : Int) - 4)
  Option.bind (cut? a1 0 e2) fun v3 =>
  Option.bind (spec_l01Crc k 0 v3) fun v4 =>
  Option.bind (spec_l01Four v4) fun v5 =>
  Option.bind (cut? a1 e2 ((a1.length) : Int)) fun v6 =>
  bif !(v5 == v6) then
    some ([], 0, 5)
  else
  some (v3, 0, 0)
def spec_Unseal.sig : Sig := { ps := [.val false .str (ros .str)], rs := [.val true [.v .str, .v (.int .i64), .v (.int .i64)]], ntmps := 29 }
def spec_Unseal.con (k : Nat) : Con := spec_Unseal.sig.con (fun x => spec_Unseal k x)
def spec_Unseal.C (k : Nat) : Ctx := { ti := TAB, con := conL [(104, spec_l01Four.con k), (105, spec_l01Crc.con k)] }
theorem spec_Unseal.cok (k : Nat) : CtxOk Try.prog (spec_Unseal.C k) := ctx_ok TABok ⟨spec_l01Four.ok k, spec_l01Crc.ok k, trivial⟩
theorem spec_Unseal.ev (k : Nat) (x : Prod' spec_Unseal.sig.ins) : spec_Unseal.sig.ev (spec_Unseal.C k) .auto Try.f60.results.toList (cB Try.f60) x = spec_Unseal k x := by kernel_rfl
theorem spec_Unseal.ok (k : Nat) : ConOk Try.prog 60 (spec_Unseal.con k) := sig_ok (p := .auto) (spec_Unseal.cok k) Try.func60 (by kernel_rfl) (show Try.f60.body = some (cB Try.f60) by kernel_rfl) (by kernel_rfl) (by kernel_rfl) (plan_of (L := []) (by kernel_rfl) trivial) (fun x y h => (spec_Unseal.ev k x).trans h)
def spec_l06Reader_num (k : Nat) (a1 : G104) : Option (Int × Str × Int × Bool) :=
  Option.bind (spec_GetNum k a1.1 a1.2.1) fun v2 =>
  bif a1.2.2 || (v2.2.2 != 0) then
    some (0, a1.1, a1.2.1, true)
  else
  some (v2.1, a1.1, v2.2.1, a1.2.2)
def spec_l06Reader_num.sig : Sig := { ps := [.ref 107 T104 (kept T104)], rs := [.val false [.v (.int .i64)]], ntmps := 32 }
def spec_l06Reader_num.con (k : Nat) : Con := spec_l06Reader_num.sig.con (fun x => spec_l06Reader_num k x)
def spec_l06Reader_num.C (k : Nat) : Ctx := { ti := TAB, con := conL [(109, spec_GetNum.con k)] }
theorem spec_l06Reader_num.cok (k : Nat) : CtxOk Try.prog (spec_l06Reader_num.C k) := ctx_ok TABok ⟨spec_GetNum.ok k, trivial⟩
theorem spec_l06Reader_num.ev (k : Nat) (x : Prod' spec_l06Reader_num.sig.ins) : spec_l06Reader_num.sig.ev (spec_l06Reader_num.C k) .auto Try.f66.results.toList (cB Try.f66) x = spec_l06Reader_num k x := by kernel_rfl
theorem spec_l06Reader_num.ok (k : Nat) : ConOk Try.prog 66 (spec_l06Reader_num.con k) := sig_ok (p := .auto) (spec_l06Reader_num.cok k) Try.func66 (by kernel_rfl) (show Try.f66.body = some (cB Try.f66) by kernel_rfl) (by kernel_rfl) (by kernel_rfl) (plan_of (L := []) (by kernel_rfl) trivial) (fun x y h => (spec_l06Reader_num.ev k x).trans h)
def spec_Seal (k : Nat) (a1 : Str) : Option (Str) :=
  bif decide (7996 < ((a1.length) : Int)) then
    some ([])
  else
  Option.bind (spec_l01Crc k 0 a1) fun v2 =>
  Option.bind (spec_l01Four v2) fun v3 =>
  Option.bind (cat? a1 v3) fun v4 =>
  some v4
def spec_Seal.sig : Sig := { ps := [.val false .str (ros .str)], rs := [.val false [.v .str]], ntmps := 11 }
def spec_Seal.con (k : Nat) : Con := spec_Seal.sig.con (fun x => spec_Seal k x)
def spec_Seal.C (k : Nat) : Ctx := { ti := TAB, con := conL [(104, spec_l01Four.con k), (105, spec_l01Crc.con k)] }
theorem spec_Seal.cok (k : Nat) : CtxOk Try.prog (spec_Seal.C k) := ctx_ok TABok ⟨spec_l01Four.ok k, spec_l01Crc.ok k, trivial⟩
theorem spec_Seal.ev (k : Nat) (x : Prod' spec_Seal.sig.ins) : spec_Seal.sig.ev (spec_Seal.C k) .auto Try.f59.results.toList (cB Try.f59) x = spec_Seal k x := by kernel_rfl
theorem spec_Seal.ok (k : Nat) : ConOk Try.prog 59 (spec_Seal.con k) := sig_ok (p := .auto) (spec_Seal.cok k) Try.func59 (by kernel_rfl) (show Try.f59.body = some (cB Try.f59) by kernel_rfl) (by kernel_rfl) (by kernel_rfl) (plan_of (L := []) (by kernel_rfl) trivial) (fun x y h => (spec_Seal.ev k x).trans h)
def spec_l01Fold (a1 : Int) : Option (Int) :=
  bif decide (a1 < 0) then
    some (IntKind.wrap .u64 ((IntKind.wrap .u64 (2 * (IntKind.wrap .u64 (IntKind.wrap .i64 (0 - (IntKind.wrap .i64 (a1 + 1))))))) + 1))
  else
  some (IntKind.wrap .u64 (2 * (IntKind.wrap .u64 a1)))
def spec_l01Fold.sig : Sig := { ps := [.val false (.int .i64) (ros (.int .i64))], rs := [.val false [.v (.int .u64)]], ntmps := 14 }
def spec_l01Fold.con (k : Nat) : Con := spec_l01Fold.sig.con (fun x => spec_l01Fold x)
def spec_l01Fold.C (k : Nat) : Ctx := { ti := TAB, con := conL [] }
theorem spec_l01Fold.cok (k : Nat) : CtxOk Try.prog (spec_l01Fold.C k) := ctx_ok TABok trivial
theorem spec_l01Fold.ev (k : Nat) (x : Prod' spec_l01Fold.sig.ins) : spec_l01Fold.sig.ev (spec_l01Fold.C k) .auto Try.f110.results.toList (cB Try.f110) x = spec_l01Fold x := by kernel_rfl
theorem spec_l01Fold.ok (k : Nat) : ConOk Try.prog 110 (spec_l01Fold.con k) := sig_ok (p := .auto) (spec_l01Fold.cok k) Try.func110 (by kernel_rfl) (show Try.f110.body = some (cB Try.f110) by kernel_rfl) (by kernel_rfl) (by kernel_rfl) (plan_of (L := []) (by kernel_rfl) trivial) (fun x y h => (spec_l01Fold.ev k x).trans h)
def spec_PutNum.l0 : Nat → Int → List Int → Option ((Int × List Int))
  | 0, _, _ => none
  | j + 1, a1, a2 =>
    bif decide (128 ≤ a1) then
      Option.bind (nz? 128) fun v3 =>
      Option.bind (app? 1 a2 [(IntKind.wrap .u8 (IntKind.wrap .u64 ((Int.tmod a1 128) + 128)))]) fun v4 =>
      Option.bind (nz? 128) fun v5 =>
      spec_PutNum.l0 j (IntKind.wrap .u64 (Int.tdiv a1 128)) v4
    else
    some (a1, a2)
def spec_PutNum (k : Nat) (a1 : Int) : Option (Str) :=
  Option.bind (spec_l01Fold a1) fun v2 =>
  Option.bind (spec_PutNum.l0 k v2 []) fun y3 =>
  Option.bind (app? 1 y3.2 [(IntKind.wrap .u8 y3.1)]) fun v4 =>
  some (listByte v4)
def spec_PutNum.sig : Sig := { ps := [.val false (.int .i64) (ros (.int .i64))], rs := [.val false [.v .str]], ntmps := 25 }
def spec_PutNum.con (k : Nat) : Con := spec_PutNum.sig.con (fun x => spec_PutNum k x)
def spec_PutNum.C (k : Nat) : Ctx := { ti := TAB, con := conL [(110, spec_l01Fold.con k)] }
theorem spec_PutNum.cok (k : Nat) : CtxOk Try.prog (spec_PutNum.C k) := ctx_ok TABok ⟨spec_l01Fold.ok k, trivial⟩
def spec_PutNum.l0.ish : Shape := { tmps := [(3, .one (.v (.int .u64))), (4, .one (.own 1))], slots := [(1, .arr false 5 (.int .u8))], nb := 2 }
def spec_PutNum.l0.outs : List (Ex × Shape) := [(.exit 0, { tmps := [(3, .one (.v (.int .u64))), (4, .one (.own 2))], slots := [(2, .arr false 5 (.int .u8))], nb := 3 })]
def spec_PutNum.l0.F (k j : Nat) (x : Prod' spec_PutNum.l0.ish.tys) : Option (Outs spec_PutNum.l0.outs) := spec_PutNum.l0 j x.1 x.2
def spec_PutNum.l0.s (k : Nat) : Summ := { n := 25, ish := spec_PutNum.l0.ish, outs := spec_PutNum.l0.outs, f := spec_PutNum.l0.F k k }
theorem spec_PutNum.l0.ev (k j : Nat) (x : Prod' spec_PutNum.l0.ish.tys) : V (spec_PutNum.C k) .auto (cO (cO (cL (cR (cR (cR (cB Try.f67))))))) (mk spec_PutNum.l0.ish 25 x) (fun e st' => match e with | .nrm => (rd spec_PutNum.l0.ish st').bind (spec_PutNum.l0.F k j) | e => rdOut e st' spec_PutNum.l0.outs) = spec_PutNum.l0.F k (j + 1) x := by kernel_rfl
theorem spec_PutNum.l0.ok (k : Nat) : SumOk Try.prog (spec_PutNum.C k) (.loop (cO (cO (cL (cR (cR (cR (cB Try.f67)))))))) (spec_PutNum.l0.s k) := sum_ok (by kernel_rfl) (sum_loop (p := .auto) (F := spec_PutNum.l0.F k) (spec_PutNum.cok k) (by kernel_rfl) (plan_of (L := []) (by kernel_rfl) trivial) (fun _ => rfl) (fun j x y h => (spec_PutNum.l0.ev k j x).trans h) k rfl)
theorem spec_PutNum.ev (k : Nat) (x : Prod' spec_PutNum.sig.ins) : spec_PutNum.sig.ev (spec_PutNum.C k) (.two .auto (.two .auto (.two .auto (.two (.one (.sum (spec_PutNum.l0.s k))) .auto)))) Try.f67.results.toList (cB Try.f67) x = spec_PutNum k x := by kernel_rfl
theorem spec_PutNum.ok (k : Nat) : ConOk Try.prog 67 (spec_PutNum.con k) := sig_ok (p := (.two .auto (.two .auto (.two .auto (.two (.one (.sum (spec_PutNum.l0.s k))) .auto))))) (spec_PutNum.cok k) Try.func67 (by kernel_rfl) (show Try.f67.body = some (cB Try.f67) by kernel_rfl) (by kernel_rfl) (by kernel_rfl) (plan_of (L := [(spec_PutNum.l0.s k, cO (cL (cR (cR (cR (cB Try.f67))))))]) (by kernel_rfl) ⟨spec_PutNum.l0.ok k, trivial⟩) (fun x y h => (spec_PutNum.ev k x).trans h)
def spec_PutText (k : Nat) (a1 : Str) : Option (Str) :=
  bif decide (8000 < ((a1.length) : Int)) then
    some ([])
  else
  Option.bind (spec_PutNum k ((a1.length) : Int)) fun v2 =>
  Option.bind (cat? v2 a1) fun v3 =>
  some v3
def spec_PutText.sig : Sig := { ps := [.val false .str (ros .str)], rs := [.val false [.v .str]], ntmps := 11 }
def spec_PutText.con (k : Nat) : Con := spec_PutText.sig.con (fun x => spec_PutText k x)
def spec_PutText.C (k : Nat) : Ctx := { ti := TAB, con := conL [(67, spec_PutNum.con k)] }
theorem spec_PutText.cok (k : Nat) : CtxOk Try.prog (spec_PutText.C k) := ctx_ok TABok ⟨spec_PutNum.ok k, trivial⟩
theorem spec_PutText.ev (k : Nat) (x : Prod' spec_PutText.sig.ins) : spec_PutText.sig.ev (spec_PutText.C k) .auto Try.f74.results.toList (cB Try.f74) x = spec_PutText k x := by kernel_rfl
theorem spec_PutText.ok (k : Nat) : ConOk Try.prog 74 (spec_PutText.con k) := sig_ok (p := .auto) (spec_PutText.cok k) Try.func74 (by kernel_rfl) (show Try.f74.body = some (cB Try.f74) by kernel_rfl) (by kernel_rfl) (by kernel_rfl) (plan_of (L := []) (by kernel_rfl) trivial) (fun x y h => (spec_PutText.ev k x).trans h)
def spec_HeadBytes (k : Nat) (a1 : G66) : Option (Str) :=
  Option.bind (spec_HeadRight a1) fun v2 =>
  bif !v2 then
    some ([])
  else
  Option.bind (spec_PutNum k a1.1) fun v3 =>
  Option.bind (spec_PutNum k a1.2.1) fun v4 =>
  Option.bind (cat? v3 v4) fun v5 =>
  Option.bind (spec_PutNum k a1.2.2.1) fun v6 =>
  Option.bind (cat? v5 v6) fun v7 =>
  Option.bind (spec_PutText k a1.2.2.2) fun v8 =>
  Option.bind (cat? v7 v8) fun v9 =>
  Option.bind (spec_Seal k v9) fun v10 =>
  some v10
def spec_HeadBytes.sig : Sig := { ps := [.val true T66 (ros T66)], rs := [.val false [.v .str]], ntmps := 22 }
def spec_HeadBytes.con (k : Nat) : Con := spec_HeadBytes.sig.con (fun x => spec_HeadBytes k x)
def spec_HeadBytes.C (k : Nat) : Ctx := { ti := TAB, con := conL [(59, spec_Seal.con k), (67, spec_PutNum.con k), (72, spec_HeadRight.con k), (74, spec_PutText.con k)] }
theorem spec_HeadBytes.cok (k : Nat) : CtxOk Try.prog (spec_HeadBytes.C k) := ctx_ok TABok ⟨spec_Seal.ok k, spec_PutNum.ok k, spec_HeadRight.ok k, spec_PutText.ok k, trivial⟩
theorem spec_HeadBytes.ev (k : Nat) (x : Prod' spec_HeadBytes.sig.ins) : spec_HeadBytes.sig.ev (spec_HeadBytes.C k) .auto Try.f75.results.toList (cB Try.f75) x = spec_HeadBytes k x := by kernel_rfl
theorem spec_HeadBytes.ok (k : Nat) : ConOk Try.prog 75 (spec_HeadBytes.con k) := sig_ok (p := .auto) (spec_HeadBytes.cok k) Try.func75 (by kernel_rfl) (show Try.f75.body = some (cB Try.f75) by kernel_rfl) (by kernel_rfl) (by kernel_rfl) (plan_of (L := []) (by kernel_rfl) trivial) (fun x y h => (spec_HeadBytes.ev k x).trans h)
def spec_l06Reader_text (k : Nat) (a1 : G104) : Option (Str × Str × Int × Bool) :=
  Option.bind (spec_GetText k a1.1 a1.2.1) fun v2 =>
  bif a1.2.2 || (v2.2.2 != 0) then
    some ([], a1.1, a1.2.1, true)
  else
  some (v2.1, a1.1, v2.2.1, a1.2.2)
def spec_l06Reader_text.sig : Sig := { ps := [.ref 107 T104 (kept T104)], rs := [.val false [.v .str]], ntmps := 32 }
def spec_l06Reader_text.con (k : Nat) : Con := spec_l06Reader_text.sig.con (fun x => spec_l06Reader_text k x)
def spec_l06Reader_text.C (k : Nat) : Ctx := { ti := TAB, con := conL [(88, spec_GetText.con k)] }
theorem spec_l06Reader_text.cok (k : Nat) : CtxOk Try.prog (spec_l06Reader_text.C k) := ctx_ok TABok ⟨spec_GetText.ok k, trivial⟩
theorem spec_l06Reader_text.ev (k : Nat) (x : Prod' spec_l06Reader_text.sig.ins) : spec_l06Reader_text.sig.ev (spec_l06Reader_text.C k) .auto Try.f145.results.toList (cB Try.f145) x = spec_l06Reader_text k x := by kernel_rfl
theorem spec_l06Reader_text.ok (k : Nat) : ConOk Try.prog 145 (spec_l06Reader_text.con k) := sig_ok (p := .auto) (spec_l06Reader_text.cok k) Try.func145 (by kernel_rfl) (show Try.f145.body = some (cB Try.f145) by kernel_rfl) (by kernel_rfl) (by kernel_rfl) (plan_of (L := []) (by kernel_rfl) trivial) (fun x y h => (spec_l06Reader_text.ev k x).trans h)
def spec_HeadRead (k : Nat) (a1 : Str) : Option (Int × Int × Int × Str × Int) :=
  Option.bind (spec_Unseal k a1) fun v2 =>
  bif v2.2.2 != 0 then
    some (0, 0, 0, [], v2.2.2)
  else
  Option.bind (spec_l06Reader_num k (v2.1, (0, false))) fun v3 =>
  Option.bind (spec_l06Reader_num k v3.2) fun v4 =>
  Option.bind (spec_l06Reader_num k v4.2) fun v5 =>
  Option.bind (spec_l06Reader_text k v5.2) fun v6 =>
  bif v6.2.2.2 then
    some (0, 0, 0, [], 3)
  else
  Option.bind (spec_HeadBytes k (v3.1, (v4.1, (v5.1, v6.1)))) fun v7 =>
  bif !(v7 == a1) then
    some (0, 0, 0, [], 3)
  else
  some (v3.1, v4.1, v5.1, v6.1, 0)
def spec_HeadRead.sig : Sig := { ps := [.val false .str (ros .str)], rs := [.val true [.v (.int .i64), .v (.int .i64), .v (.int .i64), .v .str, .v (.int .i64)]], ntmps := 43 }
def spec_HeadRead.con (k : Nat) : Con := spec_HeadRead.sig.con (fun x => spec_HeadRead k x)
def spec_HeadRead.C (k : Nat) : Ctx := { ti := TAB, con := conL [(60, spec_Unseal.con k), (66, spec_l06Reader_num.con k), (75, spec_HeadBytes.con k), (145, spec_l06Reader_text.con k)] }
theorem spec_HeadRead.cok (k : Nat) : CtxOk Try.prog (spec_HeadRead.C k) := ctx_ok TABok ⟨spec_Unseal.ok k, spec_l06Reader_num.ok k, spec_HeadBytes.ok k, spec_l06Reader_text.ok k, trivial⟩
theorem spec_HeadRead.ev (k : Nat) (x : Prod' spec_HeadRead.sig.ins) : spec_HeadRead.sig.ev (spec_HeadRead.C k) .auto Try.f125.results.toList (cB Try.f125) x = spec_HeadRead k x := by kernel_rfl
theorem spec_HeadRead.ok (k : Nat) : ConOk Try.prog 125 (spec_HeadRead.con k) := sig_ok (p := .auto) (spec_HeadRead.cok k) Try.func125 (by kernel_rfl) (show Try.f125.body = some (cB Try.f125) by kernel_rfl) (by kernel_rfl) (by kernel_rfl) (plan_of (L := []) (by kernel_rfl) trivial) (fun x y h => (spec_HeadRead.ev k x).trans h)
def spec_l06Bytes (k : Nat) (a1 : G66) : Option (Str) :=
  Option.bind (spec_PutNum k a1.1) fun v2 =>
  Option.bind (spec_PutNum k a1.2.1) fun v3 =>
  Option.bind (cat? v2 v3) fun v4 =>
  Option.bind (spec_PutNum k a1.2.2.1) fun v5 =>
  Option.bind (cat? v4 v5) fun v6 =>
  Option.bind (spec_PutText k a1.2.2.2) fun v7 =>
  Option.bind (cat? v6 v7) fun v8 =>
  some v8
def spec_l06Bytes.sig : Sig := { ps := [.val true T66 (ros T66)], rs := [.val false [.v .str]], ntmps := 18 }
def spec_l06Bytes.con (k : Nat) : Con := spec_l06Bytes.sig.con (fun x => spec_l06Bytes k x)
def spec_l06Bytes.C (k : Nat) : Ctx := { ti := TAB, con := conL [(67, spec_PutNum.con k), (74, spec_PutText.con k)] }
theorem spec_l06Bytes.cok (k : Nat) : CtxOk Try.prog (spec_l06Bytes.C k) := ctx_ok TABok ⟨spec_PutNum.ok k, spec_PutText.ok k, trivial⟩
theorem spec_l06Bytes.ev (k : Nat) (x : Prod' spec_l06Bytes.sig.ins) : spec_l06Bytes.sig.ev (spec_l06Bytes.C k) .auto Try.f76.results.toList (cB Try.f76) x = spec_l06Bytes k x := by kernel_rfl
theorem spec_l06Bytes.ok (k : Nat) : ConOk Try.prog 76 (spec_l06Bytes.con k) := sig_ok (p := .auto) (spec_l06Bytes.cok k) Try.func76 (by kernel_rfl) (show Try.f76.body = some (cB Try.f76) by kernel_rfl) (by kernel_rfl) (by kernel_rfl) (plan_of (L := []) (by kernel_rfl) trivial) (fun x y h => (spec_l06Bytes.ev k x).trans h)
def spec_StepRight (a1 : G66) (a2 : Int) : Option (Bool) :=
  Option.bind (spec_l03Is a2 1 8) fun v3 =>
  bif !v3 then
    some false
  else
  let e4 := IntKind.wrap .i64 (a2 - 1)
  Option.bind (spec_l03Is a1.2.1 0 e4) fun v5 =>
  Option.bind (spec_l03Is a1.2.2.1 0 e4) fun v6 =>
  let e7 := a1.2.2.2 == []
  let e8 := v5 && (a1.2.2.1 == 0)
  bif a1.1 == 1 then
    some (e8 && e7)
  else
  let e9 := ((a1.2.2.2.length) : Int) == 8
  bif a1.1 == 2 then
    some (e8 && e9)
  else
  bif a1.1 == 3 then
    some ((v5 && v6) && e7)
  else
  bif a1.1 == 4 then
    some ((v5 && v6) && e9)
  else
  bif a1.1 == 5 then
    bif a1.2.1 == 0 then
      Option.bind (spec_l03Is a1.2.2.1 0 1000000) fun v10 =>
      some (v10 && e7)
    else
    some false
  else
  some false
def spec_StepRight.sig : Sig := { ps := [.val true T66 (ros T66), .val false (.int .i64) (ros (.int .i64))], rs := [.val false [.v .bool]], ntmps := 87 }
def spec_StepRight.con (k : Nat) : Con := spec_StepRight.sig.con (fun x => spec_StepRight x.1 x.2)
def spec_StepRight.C (k : Nat) : Ctx := { ti := TAB, con := conL [(68, spec_l03Is.con k)] }
theorem spec_StepRight.cok (k : Nat) : CtxOk Try.prog (spec_StepRight.C k) := ctx_ok TABok ⟨spec_l03Is.ok k, trivial⟩
theorem spec_StepRight.ev (k : Nat) (x : Prod' spec_StepRight.sig.ins) : spec_StepRight.sig.ev (spec_StepRight.C k) .auto Try.f127.results.toList (cB Try.f127) x = spec_StepRight x.1 x.2 := by kernel_rfl
theorem spec_StepRight.ok (k : Nat) : ConOk Try.prog 127 (spec_StepRight.con k) := sig_ok (p := .auto) (spec_StepRight.cok k) Try.func127 (by kernel_rfl) (show Try.f127.body = some (cB Try.f127) by kernel_rfl) (by kernel_rfl) (by kernel_rfl) (plan_of (L := []) (by kernel_rfl) trivial) (fun x y h => (spec_StepRight.ev k x).trans h)
def spec_StepBytes (k : Nat) (a1 : G66) : Option (Str) :=
  Option.bind (spec_StepRight a1 8) fun v2 =>
  bif !v2 then
    some ([])
  else
  Option.bind (spec_l06Bytes k a1) fun v3 =>
  some v3
def spec_StepBytes.sig : Sig := { ps := [.val true T66 (ros T66)], rs := [.val false [.v .str]], ntmps := 8 }
def spec_StepBytes.con (k : Nat) : Con := spec_StepBytes.sig.con (fun x => spec_StepBytes k x)
def spec_StepBytes.C (k : Nat) : Ctx := { ti := TAB, con := conL [(76, spec_l06Bytes.con k), (127, spec_StepRight.con k)] }
theorem spec_StepBytes.cok (k : Nat) : CtxOk Try.prog (spec_StepBytes.C k) := ctx_ok TABok ⟨spec_l06Bytes.ok k, spec_StepRight.ok k, trivial⟩
theorem spec_StepBytes.ev (k : Nat) (x : Prod' spec_StepBytes.sig.ins) : spec_StepBytes.sig.ev (spec_StepBytes.C k) .auto Try.f146.results.toList (cB Try.f146) x = spec_StepBytes k x := by kernel_rfl
theorem spec_StepBytes.ok (k : Nat) : ConOk Try.prog 146 (spec_StepBytes.con k) := sig_ok (p := .auto) (spec_StepBytes.cok k) Try.func146 (by kernel_rfl) (show Try.f146.body = some (cB Try.f146) by kernel_rfl) (by kernel_rfl) (by kernel_rfl) (plan_of (L := []) (by kernel_rfl) trivial) (fun x y h => (spec_StepBytes.ev k x).trans h)
def spec_StepRead (k : Nat) (a1 : Str) : Option (Int × Int × Int × Str × Int) :=
  bif decide (8000 < ((a1.length) : Int)) then
    some (0, 0, 0, [], 2)
  else
  Option.bind (spec_l06Reader_num k (a1, (0, false))) fun v2 =>
  Option.bind (spec_l06Reader_num k v2.2) fun v3 =>
  Option.bind (spec_l06Reader_num k v3.2) fun v4 =>
  Option.bind (spec_l06Reader_text k v4.2) fun v5 =>
  bif v5.2.2.2 then
    some (0, 0, 0, [], 3)
  else
  Option.bind (spec_StepBytes k (v2.1, (v3.1, (v4.1, v5.1)))) fun v6 =>
  bif !(v6 == a1) then
    some (0, 0, 0, [], 3)
  else
  some (v2.1, v3.1, v4.1, v5.1, 0)
def spec_StepRead.sig : Sig := { ps := [.val false .str (ros .str)], rs := [.val true [.v (.int .i64), .v (.int .i64), .v (.int .i64), .v .str, .v (.int .i64)]], ntmps := 37 }
def spec_StepRead.con (k : Nat) : Con := spec_StepRead.sig.con (fun x => spec_StepRead k x)
def spec_StepRead.C (k : Nat) : Ctx := { ti := TAB, con := conL [(66, spec_l06Reader_num.con k), (145, spec_l06Reader_text.con k), (146, spec_StepBytes.con k)] }
theorem spec_StepRead.cok (k : Nat) : CtxOk Try.prog (spec_StepRead.C k) := ctx_ok TABok ⟨spec_l06Reader_num.ok k, spec_l06Reader_text.ok k, spec_StepBytes.ok k, trivial⟩
theorem spec_StepRead.ev (k : Nat) (x : Prod' spec_StepRead.sig.ins) : spec_StepRead.sig.ev (spec_StepRead.C k) .auto Try.f126.results.toList (cB Try.f126) x = spec_StepRead k x := by kernel_rfl
theorem spec_StepRead.ok (k : Nat) : ConOk Try.prog 126 (spec_StepRead.con k) := sig_ok (p := .auto) (spec_StepRead.cok k) Try.func126 (by kernel_rfl) (show Try.f126.body = some (cB Try.f126) by kernel_rfl) (by kernel_rfl) (by kernel_rfl) (plan_of (L := []) (by kernel_rfl) trivial) (fun x y h => (spec_StepRead.ev k x).trans h)
def spec_l18Take (k : Nat) (a1 : G75) (a2 : Str) : Option (Bool × Int × Int × Int × Str × Int × Str × List G169 × Int) :=
  let e3 := (0, (0, (0, [])))
  bif (a1.1.1.1 == 0) && ((a1.1.1.2.1 == 0) && ((a1.1.1.2.2.1 == 0) && (a1.1.1.2.2.2 == []))) then
    Option.bind (spec_HeadRead k a2) fun v4 =>
    Option.bind (app? 80 a1.2.1 [(1, (v4.2.1, (v4.2.2.1, (v4.2.2.2.1, e3))))]) fun v5 =>
    some (v4.2.2.2.2 == 0, v4.1, v4.2.1, v4.2.2.1, v4.2.2.2.1, a1.1.2.1, a1.1.2.2, v5, a1.2.2)
  else
  Option.bind (spec_Unseal k a2) fun v6 =>
  Option.bind (spec_StepRead k v6.1) fun v7 =>
  bif v6.2.2 != 0 then
    some (false, a1.1.1.1, a1.1.1.2.1, a1.1.1.2.2.1, a1.1.1.2.2.2, a1.1.2.1, a1.1.2.2, a1.2.1, a1.2.2)
  else
  bif v7.2.2.2.2 != 0 then
    some (false, a1.1.1.1, a1.1.1.2.1, a1.1.1.2.2.1, a1.1.1.2.2.2, a1.1.2.1, a1.1.2.2, a1.2.1, a1.2.2)
  else
  let e8 := (v7.1, (v7.2.1, (v7.2.2.1, v7.2.2.2.1)))
  Option.bind (spec_StepRight e8 a1.1.1.1) fun v9 =>
  bif !v9 then
    some (false, a1.1.1.1, a1.1.1.2.1, a1.1.1.2.2.1, a1.1.1.2.2.2, a1.1.2.1, a1.1.2.2, a1.2.1, a1.2.2)
  else
  bif decide (a1.1.1.2.1 ≤ a1.1.2.1) then
    some (false, a1.1.1.1, a1.1.1.2.1, a1.1.1.2.2.1, a1.1.1.2.2.2, a1.1.2.1, a1.1.2.2, a1.2.1, a1.2.2)
  else
  Option.bind (app? 80 a1.2.1 ([(2, (0, (0, ([], e8))))])) fun v10 =>
  let e11 := IntKind.wrap .i64 (a1.1.2.1 + 1)
  bif e11 == a1.1.1.2.1 then
    Option.bind (app? 80 v10 ([(3, (0, (0, ([], e3))))])) fun v12 =>
    some (true, a1.1.1.1, a1.1.1.2.1, a1.1.1.2.2.1, a1.1.1.2.2.2, e11, a1.1.2.2, v12, a1.2.2)
  else
  some (true, a1.1.1.1, a1.1.1.2.1, a1.1.1.2.2.1, a1.1.1.2.2.2, e11, a1.1.2.2, v10, a1.2.2)
def spec_l18Take.sig : Sig := { ps := [.ref 75 T75 [.v, .v, .v, .v, .v, .v, .own 169, .v], .val false .str (ros .str)], rs := [.val false [.v .bool]], ntmps := 128 }
def spec_l18Take.con (k : Nat) : Con := spec_l18Take.sig.con (fun x => spec_l18Take k x.1 x.2)
def spec_l18Take.C (k : Nat) : Ctx := { ti := TAB, con := conL [(60, spec_Unseal.con k), (125, spec_HeadRead.con k), (126, spec_StepRead.con k), (127, spec_StepRight.con k)] }
theorem spec_l18Take.cok (k : Nat) : CtxOk Try.prog (spec_l18Take.C k) := ctx_ok TABok ⟨spec_Unseal.ok k, spec_HeadRead.ok k, spec_StepRead.ok k, spec_StepRight.ok k, trivial⟩
theorem spec_l18Take.ev (k : Nat) (x : Prod' spec_l18Take.sig.ins) : spec_l18Take.sig.ev (spec_l18Take.C k) .auto Try.f89.results.toList (cB Try.f89) x = spec_l18Take k x.1 x.2 := by kernel_rfl
theorem spec_l18Take.ok (k : Nat) : ConOk Try.prog 89 (spec_l18Take.con k) := sig_ok (p := .auto) (spec_l18Take.cok k) Try.func89 (by kernel_rfl) (show Try.f89.body = some (cB Try.f89) by kernel_rfl) (by kernel_rfl) (by kernel_rfl) (plan_of (L := []) (by kernel_rfl) trivial) (fun x y h => (spec_l18Take.ev k x).trans h)
def spec_FeedPut.l0 (k : Nat) : Nat → Str → Int → Int → Int → Int → Str → Int → Str → Int → Int → Int → Int → Str → Int → Str → Int → List G169 → List G169 → Option ((Int × Int × Int × Int × Str × Int × Str × Int × Int × Int × Int × Str × Int × Str × Int × List G169 × List G169) ⊕ (Int × Int × Int × Str × Int × Str × Int × Int × Int × Int × Str × Int × Str × Int × List G169 × List G169))
  | 0, _, _, _, _, _, _, _, _, _, _, _, _, _, _, _, _, _, _ => none
  | j + 1, a1, a2, a3, a4, a5, a6, a7, a8, a9, a10, a11, a12, a13, a14, a15, a16, a17, a18 =>
    Option.bind (spec_GetText k a1 a2) fun v19 =>
    bif v19.2.2 == 4 then
      some (.inl (a2, a3, a4, a5, a6, a7, a8, a9, a10, a11, a12, a13, a14, a15, a16, a17, a18))
    else
    bif v19.2.2 != 0 then
      some (.inr (0, 0, 0, [], 0, [], 3, a10, a11, a12, a13, a14, a15, a16, [], a18))
    else
    Option.bind (spec_l18Take k (((a10, (a11, (a12, a13))), (a14, a15)), (a18, a16)) v19.1) fun v20 =>
    bif !v20.1 then
      some (.inr (0, 0, 0, [], 0, [], 3, v20.2.1, v20.2.2.1, v20.2.2.2.1, v20.2.2.2.2.1, v20.2.2.2.2.2.1, v20.2.2.2.2.2.2.1, v20.2.2.2.2.2.2.2.2, [], v20.2.2.2.2.2.2.2.1))
    else
    spec_FeedPut.l0 k j a1 v19.2.1 a3 a4 a5 a6 a7 a8 a9 v20.2.1 v20.2.2.1 v20.2.2.2.1 v20.2.2.2.2.1 v20.2.2.2.2.2.1 v20.2.2.2.2.2.2.1 v20.2.2.2.2.2.2.2.2 a17 v20.2.2.2.2.2.2.2.1
def spec_FeedPut (k : Nat) (a1 : G68) (a2 : Str) : Option (Int × Int × Int × Str × Int × Str × List G169 × Int) :=
  bif decide (8000 < ((a2.length) : Int)) then
    some (0, 0, 0, [], 0, [], [], 2)
  else
  Option.bind (spec_FeedRight a1) fun v3 =>
  bif !v3 then
    some (0, 0, 0, [], 0, [], [], 1)
  else
  Option.bind (cat? a1.2.2 a2) fun v4 =>
  bif decide (8000 < ((v4.length) : Int)) then
    some (0, 0, 0, [], 0, [], [], 2)
  else
  Option.bind (spec_FeedPut.l0 k k v4 0 0 0 0 [] 0 [] 0 a1.1.1 a1.1.2.1 a1.1.2.2.1 a1.1.2.2.2 a1.2.1 a1.2.2 0 [] []) fun
    | .inl y5 =>
      Option.bind (cut? v4 y5.1 ((v4.length) : Int)) fun v6 =>
      bif (decide (500 < ((v6.length) : Int))) || (((decide (0 < y5.2.2.2.2.2.2.2.2.2.1)) && (y5.2.2.2.2.2.2.2.2.2.2.2.2.1 == y5.2.2.2.2.2.2.2.2.2.1)) && (!(v6 == []))) then
        some (0, 0, 0, [], 0, [], [], 3)
      else
      some (y5.2.2.2.2.2.2.2.2.1, y5.2.2.2.2.2.2.2.2.2.1, y5.2.2.2.2.2.2.2.2.2.2.1, y5.2.2.2.2.2.2.2.2.2.2.2.1, y5.2.2.2.2.2.2.2.2.2.2.2.2.1, v6, y5.2.2.2.2.2.2.2.2.2.2.2.2.2.2.2.2, y5.2.2.2.2.2.2.2.2.2.2.2.2.2.2.1)
    | .inr y7 =>
      some (y7.1, y7.2.1, y7.2.2.1, y7.2.2.2.1, y7.2.2.2.2.1, y7.2.2.2.2.2.1, y7.2.2.2.2.2.2.2.2.2.2.2.2.2.2.1, y7.2.2.2.2.2.2.1)
def spec_FeedPut.sig : Sig := { ps := [.val true T68 (ros T68), .val false .str (ros .str)], rs := [.val true [.v (.int .i64), .v (.int .i64), .v (.int .i64), .v .str, .v (.int .i64), .v .str, .own 169 T169, .v (.int .i64)]], ntmps := 82 }
def spec_FeedPut.con (k : Nat) : Con := spec_FeedPut.sig.con (fun x => spec_FeedPut k x.1 x.2)
def spec_FeedPut.C (k : Nat) : Ctx := { ti := TAB, con := conL [(87, spec_FeedRight.con k), (88, spec_GetText.con k), (89, spec_l18Take.con k)] }
theorem spec_FeedPut.cok (k : Nat) : CtxOk Try.prog (spec_FeedPut.C k) := ctx_ok TABok ⟨spec_FeedRight.ok k, spec_GetText.ok k, spec_l18Take.ok k, trivial⟩
def spec_FeedPut.l0.ish : Shape := { tmps := [(4, .one (.ptr 1 0)), (5, .one (.v .str)), (6, .one (.ptr 2 0)), (7, .one (.v (.int .i64)))], slots := [(1, .box 75 [.v (.int .i64), .v (.int .i64), .v (.int .i64), .v .str, .v (.int .i64), .v .str, .own 3, .v (.int .i64)]), (2, .box 75 [.v (.int .i64), .v (.int .i64), .v (.int .i64), .v .str, .v (.int .i64), .v .str, .own 4, .v (.int .i64)]), (3, .arr false 169 T169), (4, .arr false 169 T169)], nb := 5 }
def spec_FeedPut.l0.outs : List (Ex × Shape) := [(.exit 0, { tmps := [(7, .one (.v (.int .i64)))], slots := [(1, .box 75 [.v (.int .i64), .v (.int .i64), .v (.int .i64), .v .str, .v (.int .i64), .v .str, .own 5, .v (.int .i64)]), (2, .box 75 [.v (.int .i64), .v (.int .i64), .v (.int .i64), .v .str, .v (.int .i64), .v .str, .own 6, .v (.int .i64)]), (5, .arr false 169 T169), (6, .arr false 169 T169)], nb := 7 }), (.ret, { tmps := [], slots := [(1, .box 75 [.v (.int .i64), .v (.int .i64), .v (.int .i64), .v .str, .v (.int .i64), .v .str, .own 5, .v (.int .i64)]), (2, .box 75 [.v (.int .i64), .v (.int .i64), .v (.int .i64), .v .str, .v (.int .i64), .v .str, .own 6, .v (.int .i64)]), (5, .arr false 169 T169), (6, .arr false 169 T169)], nb := 7 })]
def spec_FeedPut.l0.F (k j : Nat) (x : Prod' spec_FeedPut.l0.ish.tys) : Option (Outs spec_FeedPut.l0.outs) := spec_FeedPut.l0 k j x.1 x.2.1 x.2.2.1 x.2.2.2.1 x.2.2.2.2.1 x.2.2.2.2.2.1 x.2.2.2.2.2.2.1 x.2.2.2.2.2.2.2.1 x.2.2.2.2.2.2.2.2.1 x.2.2.2.2.2.2.2.2.2.1 x.2.2.2.2.2.2.2.2.2.2.1 x.2.2.2.2.2.2.2.2.2.2.2.1 x.2.2.2.2.2.2.2.2.2.2.2.2.1 x.2.2.2.2.2.2.2.2.2.2.2.2.2.1 x.2.2.2.2.2.2.2.2.2.2.2.2.2.2.1 x.2.2.2.2.2.2.2.2.2.2.2.2.2.2.2.1 x.2.2.2.2.2.2.2.2.2.2.2.2.2.2.2.2.1 x.2.2.2.2.2.2.2.2.2.2.2.2.2.2.2.2.2
def spec_FeedPut.l0.s (k : Nat) : Summ := { n := 82, ish := spec_FeedPut.l0.ish, outs := spec_FeedPut.l0.outs, f := spec_FeedPut.l0.F k k }
theorem spec_FeedPut.l0.ev (k j : Nat) (x : Prod' spec_FeedPut.l0.ish.tys) : V (spec_FeedPut.C k) .auto (cO (cO (cL (cR (cR (cR (cR (cR (cR (cR (cB Try.f36))))))))))) (mk spec_FeedPut.l0.ish 82 x) (fun e st' => match e with | .nrm => (rd spec_FeedPut.l0.ish st').bind (spec_FeedPut.l0.F k j) | e => rdOut e st' spec_FeedPut.l0.outs) = spec_FeedPut.l0.F k (j + 1) x := by kernel_rfl
theorem spec_FeedPut.l0.ok (k : Nat) : SumOk Try.prog (spec_FeedPut.C k) (.loop (cO (cO (cL (cR (cR (cR (cR (cR (cR (cR (cB Try.f36)))))))))))) (spec_FeedPut.l0.s k) := sum_ok (by kernel_rfl) (sum_loop (p := .auto) (F := spec_FeedPut.l0.F k) (spec_FeedPut.cok k) (by kernel_rfl) (plan_of (L := []) (by kernel_rfl) trivial) (fun _ => rfl) (fun j x y h => (spec_FeedPut.l0.ev k j x).trans h) k rfl)
theorem spec_FeedPut.ev (k : Nat) (x : Prod' spec_FeedPut.sig.ins) : spec_FeedPut.sig.ev (spec_FeedPut.C k) (.two .auto (.two .auto (.two .auto (.two .auto (.two .auto (.two .auto (.two .auto (.two (.one (.sum (spec_FeedPut.l0.s k))) .auto)))))))) Try.f36.results.toList (cB Try.f36) x = spec_FeedPut k x.1 x.2 := by kernel_rfl
theorem spec_FeedPut.ok (k : Nat) : ConOk Try.prog 36 (spec_FeedPut.con k) := sig_ok (p := (.two .auto (.two .auto (.two .auto (.two .auto (.two .auto (.two .auto (.two .auto (.two (.one (.sum (spec_FeedPut.l0.s k))) .auto))))))))) (spec_FeedPut.cok k) Try.func36 (by kernel_rfl) (show Try.f36.body = some (cB Try.f36) by kernel_rfl) (by kernel_rfl) (by kernel_rfl) (plan_of (L := [(spec_FeedPut.l0.s k, cO (cL (cR (cR (cR (cR (cR (cR (cR (cB Try.f36))))))))))]) (by kernel_rfl) ⟨spec_FeedPut.l0.ok k, trivial⟩) (fun x y h => (spec_FeedPut.ev k x).trans h)
def laws_toHead (a1 : G66) : Option (Int × Int × Int × Str) :=
  some (a1.1, a1.2.1, a1.2.2.1, a1.2.2.2)
def laws_toHead.sig : Sig := { ps := [.val true T66 (ros T66)], rs := [.val true [.v (.int .i64), .v (.int .i64), .v (.int .i64), .v .str]], ntmps := 17 }
def laws_toHead.con (k : Nat) : Con := laws_toHead.sig.con (fun x => laws_toHead x)
def laws_toHead.C (k : Nat) : Ctx := { ti := TAB, con := conL [] }
theorem laws_toHead.cok (k : Nat) : CtxOk Try.prog (laws_toHead.C k) := ctx_ok TABok trivial
theorem laws_toHead.ev (k : Nat) (x : Prod' laws_toHead.sig.ins) : laws_toHead.sig.ev (laws_toHead.C k) .auto Try.f90.results.toList (cB Try.f90) x = laws_toHead x := by kernel_rfl
theorem laws_toHead.ok (k : Nat) : ConOk Try.prog 90 (laws_toHead.con k) := sig_ok (p := .auto) (laws_toHead.cok k) Try.func90 (by kernel_rfl) (show Try.f90.body = some (cB Try.f90) by kernel_rfl) (by kernel_rfl) (by kernel_rfl) (plan_of (L := []) (by kernel_rfl) trivial) (fun x y h => (laws_toHead.ev k x).trans h)
def laws_toFeed (a1 : G68) : Option (Int × Int × Int × Str × Int × Str) :=
  Option.bind (laws_toHead a1.1) fun v2 =>
  some (v2.1, v2.2.1, v2.2.2.1, v2.2.2.2, a1.2.1, a1.2.2)
def laws_toFeed.sig : Sig := { ps := [.val true T68 (ros T68)], rs := [.val true [.v (.int .i64), .v (.int .i64), .v (.int .i64), .v .str, .v (.int .i64), .v .str]], ntmps := 15 }
def laws_toFeed.con (k : Nat) : Con := laws_toFeed.sig.con (fun x => laws_toFeed x)
def laws_toFeed.C (k : Nat) : Ctx := { ti := TAB, con := conL [(90, laws_toHead.con k)] }
theorem laws_toFeed.cok (k : Nat) : CtxOk Try.prog (laws_toFeed.C k) := ctx_ok TABok ⟨laws_toHead.ok k, trivial⟩
theorem laws_toFeed.ev (k : Nat) (x : Prod' laws_toFeed.sig.ins) : laws_toFeed.sig.ev (laws_toFeed.C k) .auto Try.f37.results.toList (cB Try.f37) x = laws_toFeed x := by kernel_rfl
theorem laws_toFeed.ok (k : Nat) : ConOk Try.prog 37 (laws_toFeed.con k) := sig_ok (p := .auto) (laws_toFeed.cok k) Try.func37 (by kernel_rfl) (show Try.f37.body = some (cB Try.f37) by kernel_rfl) (by kernel_rfl) (by kernel_rfl) (plan_of (L := []) (by kernel_rfl) trivial) (fun x y h => (laws_toFeed.ev k x).trans h)
def impl_within (a1 : Int) (a2 : Int) (a3 : Int) : Option (Bool) :=
  some ((decide (a2 ≤ a1)) && (decide (a1 ≤ a3)))
def impl_within.sig : Sig := { ps := [.val false (.int .i64) (ros (.int .i64)), .val false (.int .i64) (ros (.int .i64)), .val false (.int .i64) (ros (.int .i64))], rs := [.val false [.v .bool]], ntmps := 15 }
def impl_within.con (k : Nat) : Con := impl_within.sig.con (fun x => impl_within x.1 x.2.1 x.2.2)
def impl_within.C (k : Nat) : Ctx := { ti := TAB, con := conL [] }
theorem impl_within.cok (k : Nat) : CtxOk Try.prog (impl_within.C k) := ctx_ok TABok trivial
theorem impl_within.ev (k : Nat) (x : Prod' impl_within.sig.ins) : impl_within.sig.ev (impl_within.C k) .auto Try.f42.results.toList (cB Try.f42) x = impl_within x.1 x.2.1 x.2.2 := by kernel_rfl
theorem impl_within.ok (k : Nat) : ConOk Try.prog 42 (impl_within.con k) := sig_ok (p := .auto) (impl_within.cok k) Try.func42 (by kernel_rfl) (show Try.f42.body = some (cB Try.f42) by kernel_rfl) (by kernel_rfl) (by kernel_rfl) (plan_of (L := []) (by kernel_rfl) trivial) (fun x y h => (impl_within.ev k x).trans h)
def impl_isBlocks (a1 : Int) : Option (Bool) :=
  Option.bind (impl_within a1 1 8) fun v2 =>
  some v2
def impl_isBlocks.sig : Sig := { ps := [.val false (.int .i64) (ros (.int .i64))], rs := [.val false [.v .bool]], ntmps := 5 }
def impl_isBlocks.con (k : Nat) : Con := impl_isBlocks.sig.con (fun x => impl_isBlocks x)
def impl_isBlocks.C (k : Nat) : Ctx := { ti := TAB, con := conL [(42, impl_within.con k)] }
theorem impl_isBlocks.cok (k : Nat) : CtxOk Try.prog (impl_isBlocks.C k) := ctx_ok TABok ⟨impl_within.ok k, trivial⟩
theorem impl_isBlocks.ev (k : Nat) (x : Prod' impl_isBlocks.sig.ins) : impl_isBlocks.sig.ev (impl_isBlocks.C k) .auto Try.f137.results.toList (cB Try.f137) x = impl_isBlocks x := by kernel_rfl
theorem impl_isBlocks.ok (k : Nat) : ConOk Try.prog 137 (impl_isBlocks.con k) := sig_ok (p := .auto) (impl_isBlocks.cok k) Try.func137 (by kernel_rfl) (show Try.f137.body = some (cB Try.f137) by kernel_rfl) (by kernel_rfl) (by kernel_rfl) (plan_of (L := []) (by kernel_rfl) trivial) (fun x y h => (impl_isBlocks.ev k x).trans h)
def impl_isHead (a1 : G66) : Option (Bool) :=
  Option.bind (impl_isBlocks a1.1) fun v2 =>
  bif v2 then
    Option.bind (impl_within a1.2.1 1 20) fun v3 =>
    bif v3 then
      Option.bind (impl_within a1.2.2.1 0 4) fun v4 =>
      some (v4 && (((a1.2.2.2.length) : Int) == 32))
    else
    some false
  else
  some false
def impl_isHead.sig : Sig := { ps := [.val true T66 (ros T66)], rs := [.val false [.v .bool]], ntmps := 22 }
def impl_isHead.con (k : Nat) : Con := impl_isHead.sig.con (fun x => impl_isHead x)
def impl_isHead.C (k : Nat) : Ctx := { ti := TAB, con := conL [(42, impl_within.con k), (137, impl_isBlocks.con k)] }
theorem impl_isHead.cok (k : Nat) : CtxOk Try.prog (impl_isHead.C k) := ctx_ok TABok ⟨impl_within.ok k, impl_isBlocks.ok k, trivial⟩
theorem impl_isHead.ev (k : Nat) (x : Prod' impl_isHead.sig.ins) : impl_isHead.sig.ev (impl_isHead.C k) .auto Try.f128.results.toList (cB Try.f128) x = impl_isHead x := by kernel_rfl
theorem impl_isHead.ok (k : Nat) : ConOk Try.prog 128 (impl_isHead.con k) := sig_ok (p := .auto) (impl_isHead.cok k) Try.func128 (by kernel_rfl) (show Try.f128.body = some (cB Try.f128) by kernel_rfl) (by kernel_rfl) (by kernel_rfl) (plan_of (L := []) (by kernel_rfl) trivial) (fun x y h => (impl_isHead.ev k x).trans h)
def impl_isFeed (a1 : G68) : Option (Bool) :=
  bif decide (500 < ((a1.2.2.length) : Int)) then
    some false
  else
  bif ((a1.1.1 == 0) && ((a1.1.2.1 == 0) && ((a1.1.2.2.1 == 0) && (a1.1.2.2.2 == [])))) && (a1.2.1 == 0) then
    some true
  else
  Option.bind (impl_isHead a1.1) fun v2 =>
  bif v2 then
    Option.bind (impl_within a1.2.1 0 a1.1.2.1) fun v3 =>
    some v3
  else
  some false
def impl_isFeed.sig : Sig := { ps := [.val true T68 (ros T68)], rs := [.val false [.v .bool]], ntmps := 29 }
def impl_isFeed.con (k : Nat) : Con := impl_isFeed.sig.con (fun x => impl_isFeed x)
def impl_isFeed.C (k : Nat) : Ctx := { ti := TAB, con := conL [(42, impl_within.con k), (128, impl_isHead.con k)] }
theorem impl_isFeed.cok (k : Nat) : CtxOk Try.prog (impl_isFeed.C k) := ctx_ok TABok ⟨impl_within.ok k, impl_isHead.ok k, trivial⟩
theorem impl_isFeed.ev (k : Nat) (x : Prod' impl_isFeed.sig.ins) : impl_isFeed.sig.ev (impl_isFeed.C k) .auto Try.f91.results.toList (cB Try.f91) x = impl_isFeed x := by kernel_rfl
theorem impl_isFeed.ok (k : Nat) : ConOk Try.prog 91 (impl_isFeed.con k) := sig_ok (p := .auto) (impl_isFeed.cok k) Try.func91 (by kernel_rfl) (show Try.f91.body = some (cB Try.f91) by kernel_rfl) (by kernel_rfl) (by kernel_rfl) (plan_of (L := []) (by kernel_rfl) trivial) (fun x y h => (impl_isFeed.ev k x).trans h)
def impl_getNum.l0 : Nat → Str → Int → Int → Int → Option ((Int × Int × Int))
  | 0, _, _, _, _ => none
  | j + 1, a1, a2, a3, a4 =>
    bif decide ((IntKind.wrap .i64 (((a1.length) : Int) - a4)) ≤ a2) then
      some (0, 0, 4)
    else
    let e5 := IntKind.wrap .i64 (a2 + a4)
    Option.bind (at? a1 e5) fun v6 =>
    bif (a4 == 9) && (decide (1 < (v6.toNat : Int))) then
      some (0, 0, 3)
    else
    let e7 := IntKind.wrap .i64 (7 * a4)
    Option.bind (nneg? e7) fun v8 =>
    let e9 := intBits .or .u64 a3 (shl .u64 (IntKind.wrap .u64 (intBits .and .u8 (v6.toNat : Int) 127)) e7)
    bif decide (127 < (v6.toNat : Int)) then
      impl_getNum.l0 j a1 a2 e9 (IntKind.wrap .i64 (a4 + 1))
    else
    bif ((v6.toNat : Int) == 0) && (decide (0 < a4)) then
      some (0, 0, 3)
    else
    Option.bind (nneg? 1) fun v10 =>
    let e11 := IntKind.wrap .i64 (e5 + 1)
    let e12 := IntKind.wrap .i64 (shr .u64 e9 1)
    bif (intBits .and .u64 e9 1) == 1 then
      some (intBits .xor .i64 (-1) e12, e11, 0)
    else
    some (e12, e11, 0)
def impl_getNum (k : Nat) (a1 : Str) (a2 : Int) : Option (Int × Int × Int) :=
  bif decide (a2 < 0) then
    some (0, 0, 1)
  else
  Option.bind (impl_getNum.l0 k a1 a2 0 0) fun y3 =>
  some (y3.1, y3.2.1, y3.2.2)
def impl_getNum.sig : Sig := { ps := [.val false .str (ros .str), .val false (.int .i64) (ros (.int .i64))], rs := [.val false [.v (.int .i64)], .val false [.v (.int .i64)], .val false [.v (.int .i64)]], ntmps := 61 }
def impl_getNum.con (k : Nat) : Con := impl_getNum.sig.con (fun x => impl_getNum k x.1 x.2)
def impl_getNum.C (k : Nat) : Ctx := { ti := TAB, con := conL [] }
theorem impl_getNum.cok (k : Nat) : CtxOk Try.prog (impl_getNum.C k) := ctx_ok TABok trivial
def impl_getNum.l0.ish : Shape := { tmps := [(0, .one (.v .str)), (1, .one (.v (.int .i64))), (7, .one (.v (.int .u64))), (8, .one (.v (.int .i64)))], slots := [], nb := 0 }
def impl_getNum.l0.outs : List (Ex × Shape) := [(.ret, { tmps := [(4, .one (.v (.int .i64))), (5, .one (.v (.int .i64))), (6, .one (.v (.int .i64)))], slots := [], nb := 0 })]
def impl_getNum.l0.F (k j : Nat) (x : Prod' impl_getNum.l0.ish.tys) : Option (Outs impl_getNum.l0.outs) := impl_getNum.l0 j x.1 x.2.1 x.2.2.1 x.2.2.2
def impl_getNum.l0.s (k : Nat) : Summ := { n := 61, ish := impl_getNum.l0.ish, outs := impl_getNum.l0.outs, f := impl_getNum.l0.F k k }
theorem impl_getNum.l0.ev (k j : Nat) (x : Prod' impl_getNum.l0.ish.tys) : V (impl_getNum.C k) .auto (cO (cO (cR (cR (cR (cR (cB Try.f108))))))) (mk impl_getNum.l0.ish 61 x) (fun e st' => match e with | .nrm => (rd impl_getNum.l0.ish st').bind (impl_getNum.l0.F k j) | e => rdOut e st' impl_getNum.l0.outs) = impl_getNum.l0.F k (j + 1) x := by kernel_rfl
theorem impl_getNum.l0.ok (k : Nat) : SumOk Try.prog (impl_getNum.C k) (.loop (cO (cO (cR (cR (cR (cR (cB Try.f108)))))))) (impl_getNum.l0.s k) := sum_ok (by kernel_rfl) (sum_loop (p := .auto) (F := impl_getNum.l0.F k) (impl_getNum.cok k) (by kernel_rfl) (plan_of (L := []) (by kernel_rfl) trivial) (fun _ => rfl) (fun j x y h => (impl_getNum.l0.ev k j x).trans h) k rfl)
theorem impl_getNum.ev (k : Nat) (x : Prod' impl_getNum.sig.ins) : impl_getNum.sig.ev (impl_getNum.C k) (.two .auto (.two .auto (.two .auto (.two .auto (.one (.sum (impl_getNum.l0.s k))))))) Try.f108.results.toList (cB Try.f108) x = impl_getNum k x.1 x.2 := by kernel_rfl
theorem impl_getNum.ok (k : Nat) : ConOk Try.prog 108 (impl_getNum.con k) := sig_ok (p := (.two .auto (.two .auto (.two .auto (.two .auto (.one (.sum (impl_getNum.l0.s k)))))))) (impl_getNum.cok k) Try.func108 (by kernel_rfl) (show Try.f108.body = some (cB Try.f108) by kernel_rfl) (by kernel_rfl) (by kernel_rfl) (plan_of (L := [(impl_getNum.l0.s k, cO (cR (cR (cR (cR (cB Try.f108))))))]) (by kernel_rfl) ⟨impl_getNum.l0.ok k, trivial⟩) (fun x y h => (impl_getNum.ev k x).trans h)
def impl_getText (k : Nat) (a1 : Str) (a2 : Int) : Option (Str × Int × Int) :=
  Option.bind (impl_getNum k a1 a2) fun v3 =>
  bif v3.2.2 != 0 then
    some ([], 0, v3.2.2)
  else
  Option.bind (impl_within v3.1 0 8000) fun v4 =>
  bif !v4 then
    some ([], 0, 3)
  else
  bif decide ((IntKind.wrap .i64 (((a1.length) : Int) - v3.2.1)) < v3.1) then
    some ([], 0, 4)
  else
  let e5 := IntKind.wrap .i64 (v3.2.1 + v3.1)
  Option.bind (cut? a1 v3.2.1 e5) fun v6 =>
  some (v6, e5, 0)
def impl_getText.sig : Sig := { ps := [.val false .str (ros .str), .val false (.int .i64) (ros (.int .i64))], rs := [.val false [.v .str], .val false [.v (.int .i64)], .val false [.v (.int .i64)]], ntmps := 41 }
def impl_getText.con (k : Nat) : Con := impl_getText.sig.con (fun x => impl_getText k x.1 x.2)
def impl_getText.C (k : Nat) : Ctx := { ti := TAB, con := conL [(42, impl_within.con k), (108, impl_getNum.con k)] }
theorem impl_getText.cok (k : Nat) : CtxOk Try.prog (impl_getText.C k) := ctx_ok TABok ⟨impl_within.ok k, impl_getNum.ok k, trivial⟩
theorem impl_getText.ev (k : Nat) (x : Prod' impl_getText.sig.ins) : impl_getText.sig.ev (impl_getText.C k) .auto Try.f129.results.toList (cB Try.f129) x = impl_getText k x.1 x.2 := by kernel_rfl
theorem impl_getText.ok (k : Nat) : ConOk Try.prog 129 (impl_getText.con k) := sig_ok (p := .auto) (impl_getText.cok k) Try.func129 (by kernel_rfl) (show Try.f129.body = some (cB Try.f129) by kernel_rfl) (by kernel_rfl) (by kernel_rfl) (plan_of (L := []) (by kernel_rfl) trivial) (fun x y h => (impl_getText.ev k x).trans h)
end Go.Proofs.YtnmbinfgcgjfbaaE

namespace Go.Proofs.YtnmbinfgcgjfbaaE
open Go Go.RowKit
set_option linter.unusedVariables false
def impl_crcMore.l0 : Nat → Str → Int → Int → Int → Option (Int)
  | 0, _, _, _, _ => none
  | j + 1, a1, a2, a3, a4 =>
    bif decide (a4 < 8) then
      Option.bind (at? a1 a3) fun v5 =>
      Option.bind (nneg? a4) fun v6 =>
      Option.bind (nneg? 1) fun v7 =>
      let e8 := IntKind.wrap .i64 (a4 + 1)
      bif (intBits .and .u32 (intBits .xor .u32 a2 (shr .u32 (IntKind.wrap .u32 (v5.toNat : Int)) a4)) 1) == 1 then
        impl_crcMore.l0 j a1 (intBits .xor .u32 (shr .u32 a2 1) 3988292384) a3 e8
      else
      impl_crcMore.l0 j a1 (shr .u32 a2 1) a3 e8
    else
    some a2
def impl_crcMore.l1 (k : Nat) : Nat → Str → Int → Int → Int → Option (Int)
  | 0, _, _, _, _ => none
  | j + 1, a1, a2, a3, a4 =>
    bif decide (a4 < a3) then
      Option.bind (impl_crcMore.l0 k a1 a2 a4 0) fun y5 =>
      impl_crcMore.l1 k j a1 y5 a3 (IntKind.wrap .i64 (a4 + 1))
    else
    some a2
def impl_crcMore (k : Nat) (a1 : Int) (a2 : Str) : Option (Int) :=
  Option.bind (impl_crcMore.l1 k k a2 (intBits .xor .u32 (IntKind.max .u32) a1) ((a2.length) : Int) 0) fun y3 =>
  some (intBits .xor .u32 (IntKind.max .u32) y3)
def impl_crcMore.sig : Sig := { ps := [.val false (.int .u32) (ros (.int .u32)), .val false .str (ros .str)], rs := [.val false [.v (.int .u32)]], ntmps := 38 }
def impl_crcMore.con (k : Nat) : Con := impl_crcMore.sig.con (fun x => impl_crcMore k x.1 x.2)
def impl_crcMore.C (k : Nat) : Ctx := { ti := TAB, con := conL [] }
theorem impl_crcMore.cok (k : Nat) : CtxOk Try.prog (impl_crcMore.C k) := ctx_ok TABok trivial
def impl_crcMore.l0.ish : Shape := { tmps := [(1, .one (.v .str)), (5, .one (.v (.int .u32))), (6, .one (.v (.int .i64))), (16, .one (.v (.int .i64)))], slots := [], nb := 0 }
def impl_crcMore.l0.outs : List (Ex × Shape) := [(.exit 2, { tmps := [(5, .one (.v (.int .u32)))], slots := [], nb := 0 })]
def impl_crcMore.l0.F (k j : Nat) (x : Prod' impl_crcMore.l0.ish.tys) : Option (Outs impl_crcMore.l0.outs) := impl_crcMore.l0 j x.1 x.2.1 x.2.2.1 x.2.2.2
def impl_crcMore.l0.s (k : Nat) : Summ := { n := 38, ish := impl_crcMore.l0.ish, outs := impl_crcMore.l0.outs, f := impl_crcMore.l0.F k k }
theorem impl_crcMore.l0.ev (k j : Nat) (x : Prod' impl_crcMore.l0.ish.tys) : V (impl_crcMore.C k) .auto (cO (cO (cR (cR (cO (cL (cR (cR (cO (cO (cR (cL (cR (cR (cB Try.f106))))))))))))))) (mk impl_crcMore.l0.ish 38 x) (fun e st' => match e with | .nrm => (rd impl_crcMore.l0.ish st').bind (impl_crcMore.l0.F k j) | e => rdOut e st' impl_crcMore.l0.outs) = impl_crcMore.l0.F k (j + 1) x := by kernel_rfl
theorem impl_crcMore.l0.ok (k : Nat) : SumOk Try.prog (impl_crcMore.C k) (.loop (cO (cO (cR (cR (cO (cL (cR (cR (cO (cO (cR (cL (cR (cR (cB Try.f106)))))))))))))))) (impl_crcMore.l0.s k) := sum_ok (by kernel_rfl) (sum_loop (p := .auto) (F := impl_crcMore.l0.F k) (impl_crcMore.cok k) (by kernel_rfl) (plan_of (L := []) (by kernel_rfl) trivial) (fun _ => rfl) (fun j x y h => (impl_crcMore.l0.ev k j x).trans h) k rfl)
def impl_crcMore.l1.ish : Shape := { tmps := [(1, .one (.v .str)), (5, .one (.v (.int .u32))), (12, .one (.v (.int .i64))), (13, .one (.v (.int .i64)))], slots := [], nb := 0 }
def impl_crcMore.l1.outs : List (Ex × Shape) := [(.exit 0, { tmps := [(5, .one (.v (.int .u32)))], slots := [], nb := 0 })]
def impl_crcMore.l1.F (k j : Nat) (x : Prod' impl_crcMore.l1.ish.tys) : Option (Outs impl_crcMore.l1.outs) := impl_crcMore.l1 k j x.1 x.2.1 x.2.2.1 x.2.2.2
def impl_crcMore.l1.s (k : Nat) : Summ := { n := 38, ish := impl_crcMore.l1.ish, outs := impl_crcMore.l1.outs, f := impl_crcMore.l1.F k k }
theorem impl_crcMore.l1.ev (k j : Nat) (x : Prod' impl_crcMore.l1.ish.tys) : V (impl_crcMore.C k) (.two .auto (.two .auto (.two (.one (.two .auto (.two .auto (.one (.sum (impl_crcMore.l0.s k)))))) .auto))) (cO (cO (cR (cL (cR (cR (cB Try.f106))))))) (mk impl_crcMore.l1.ish 38 x) (fun e st' => match e with | .nrm => (rd impl_crcMore.l1.ish st').bind (impl_crcMore.l1.F k j) | e => rdOut e st' impl_crcMore.l1.outs) = impl_crcMore.l1.F k (j + 1) x := by kernel_rfl
theorem impl_crcMore.l1.ok (k : Nat) : SumOk Try.prog (impl_crcMore.C k) (.loop (cO (cO (cR (cL (cR (cR (cB Try.f106)))))))) (impl_crcMore.l1.s k) := sum_ok (by kernel_rfl) (sum_loop (p := (.two .auto (.two .auto (.two (.one (.two .auto (.two .auto (.one (.sum (impl_crcMore.l0.s k)))))) .auto)))) (F := impl_crcMore.l1.F k) (impl_crcMore.cok k) (by kernel_rfl) (plan_of (L := [(impl_crcMore.l0.s k, cO (cR (cR (cO (cL (cR (cR (cO (cO (cR (cL (cR (cR (cB Try.f106))))))))))))))]) (by kernel_rfl) ⟨impl_crcMore.l0.ok k, trivial⟩) (fun _ => rfl) (fun j x y h => (impl_crcMore.l1.ev k j x).trans h) k rfl)
theorem impl_crcMore.ev (k : Nat) (x : Prod' impl_crcMore.sig.ins) : impl_crcMore.sig.ev (impl_crcMore.C k) (.two .auto (.two .auto (.two (.two .auto (.one (.sum (impl_crcMore.l1.s k)))) .auto))) Try.f106.results.toList (cB Try.f106) x = impl_crcMore k x.1 x.2 := by kernel_rfl
theorem impl_crcMore.ok (k : Nat) : ConOk Try.prog 106 (impl_crcMore.con k) := sig_ok (p := (.two .auto (.two .auto (.two (.two .auto (.one (.sum (impl_crcMore.l1.s k)))) .auto)))) (impl_crcMore.cok k) Try.func106 (by kernel_rfl) (show Try.f106.body = some (cB Try.f106) by kernel_rfl) (by kernel_rfl) (by kernel_rfl) (plan_of (L := [(impl_crcMore.l1.s k, cO (cR (cL (cR (cR (cB Try.f106))))))]) (by kernel_rfl) ⟨impl_crcMore.l1.ok k, trivial⟩) (fun x y h => (impl_crcMore.ev k x).trans h)
def impl_seal (k : Nat) (a1 : Str) : Option (Str) :=
  Option.bind (impl_crcMore k 0 a1) fun v2 =>
  Option.bind (nneg? 8) fun v3 =>
  Option.bind (nneg? 16) fun v4 =>
  Option.bind (nneg? 24) fun v5 =>
  Option.bind (cat? a1 (listByte [(IntKind.wrap .u8 v2), (IntKind.wrap .u8 (shr .u32 v2 8)), (IntKind.wrap .u8 (shr .u32 v2 16)), (IntKind.wrap .u8 (shr .u32 v2 24))])) fun v6 =>
  some v6
def impl_seal.sig : Sig := { ps := [.val false .str (ros .str)], rs := [.val false [.v .str]], ntmps := 21 }
def impl_seal.con (k : Nat) : Con := impl_seal.sig.con (fun x => impl_seal k x)
def impl_seal.C (k : Nat) : Ctx := { ti := TAB, con := conL [(106, impl_crcMore.con k)] }
theorem impl_seal.cok (k : Nat) : CtxOk Try.prog (impl_seal.C k) := ctx_ok TABok ⟨impl_crcMore.ok k, trivial⟩
theorem impl_seal.ev (k : Nat) (x : Prod' impl_seal.sig.ins) : impl_seal.sig.ev (impl_seal.C k) .auto Try.f61.results.toList (cB Try.f61) x = impl_seal k x := by kernel_rfl
theorem impl_seal.ok (k : Nat) : ConOk Try.prog 61 (impl_seal.con k) := sig_ok (p := .auto) (impl_seal.cok k) Try.func61 (by kernel_rfl) (show Try.f61.body = some (cB Try.f61) by kernel_rfl) (by kernel_rfl) (by kernel_rfl) (plan_of (L := []) (by kernel_rfl) trivial) (fun x y h => (impl_seal.ev k x).trans h)
def impl_unseal (k : Nat) (a1 : Str) : Option (Str × Int) :=
  bif decide (((a1.length) : Int) < 4) then
    some ([], 4)
  else
  Option.bind (cut? a1 0 (IntKind.wrap .i64 (((a1.length) : Int) - 4))) fun v2 =>
  Option.bind (impl_seal k v2) fun v3 =>
  bif !(v3 == a1) then
    some ([], 5)
  else
  some (v2, 0)
def impl_unseal.sig : Sig := { ps := [.val false .str (ros .str)], rs := [.val false [.v .str], .val false [.v (.int .i64)]], ntmps := 18 }
def impl_unseal.con (k : Nat) : Con := impl_unseal.sig.con (fun x => impl_unseal k x)
def impl_unseal.C (k : Nat) : Ctx := { ti := TAB, con := conL [(61, impl_seal.con k)] }
theorem impl_unseal.cok (k : Nat) : CtxOk Try.prog (impl_unseal.C k) := ctx_ok TABok ⟨impl_seal.ok k, trivial⟩
theorem impl_unseal.ev (k : Nat) (x : Prod' impl_unseal.sig.ins) : impl_unseal.sig.ev (impl_unseal.C k) .auto Try.f64.results.toList (cB Try.f64) x = impl_unseal k x := by kernel_rfl
theorem impl_unseal.ok (k : Nat) : ConOk Try.prog 64 (impl_unseal.con k) := sig_ok (p := .auto) (impl_unseal.cok k) Try.func64 (by kernel_rfl) (show Try.f64.body = some (cB Try.f64) by kernel_rfl) (by kernel_rfl) (by kernel_rfl) (plan_of (L := []) (by kernel_rfl) trivial) (fun x y h => (impl_unseal.ev k x).trans h)
def impl_isTime (a1 : Int) : Option (Bool) :=
  Option.bind (impl_within a1 0 1000000) fun v2 =>
  some v2
def impl_isTime.sig : Sig := { ps := [.val false (.int .i64) (ros (.int .i64))], rs := [.val false [.v .bool]], ntmps := 5 }
def impl_isTime.con (k : Nat) : Con := impl_isTime.sig.con (fun x => impl_isTime x)
def impl_isTime.C (k : Nat) : Ctx := { ti := TAB, con := conL [(42, impl_within.con k)] }
theorem impl_isTime.cok (k : Nat) : CtxOk Try.prog (impl_isTime.C k) := ctx_ok TABok ⟨impl_within.ok k, trivial⟩
theorem impl_isTime.ev (k : Nat) (x : Prod' impl_isTime.sig.ins) : impl_isTime.sig.ev (impl_isTime.C k) .auto Try.f103.results.toList (cB Try.f103) x = impl_isTime x := by kernel_rfl
theorem impl_isTime.ok (k : Nat) : ConOk Try.prog 103 (impl_isTime.con k) := sig_ok (p := .auto) (impl_isTime.cok k) Try.func103 (by kernel_rfl) (show Try.f103.body = some (cB Try.f103) by kernel_rfl) (by kernel_rfl) (by kernel_rfl) (plan_of (L := []) (by kernel_rfl) trivial) (fun x y h => (impl_isTime.ev k x).trans h)
def impl_isStep.j0 (a1 : Int) (a2 : Bool) (a3 : Int) (a4 : Int) (a5 : Int) (a6 : Str) : Option ((Bool × Int × Int × Int × Str)) :=
  bif (a3 == 3) || (a3 == 4) then
    Option.bind (impl_within a5 0 (IntKind.wrap .i64 (a1 - 1))) fun v7 =>
    some (v7, a3, a4, a5, a6)
  else
  some (a2, a3, a4, a5, a6)
def impl_isStep.j1 (a1 : Bool) (a2 : Int) (a3 : Int) (a4 : Int) (a5 : Str) : Option ((Bool × Int × Int × Int × Str)) :=
  bif (a2 == 2) || (a2 == 4) then
    some (((a5.length) : Int) == 8, a2, a3, a4, a5)
  else
  some (a1, a2, a3, a4, a5)
def impl_isStep (a1 : G66) (a2 : Int) : Option (Bool) :=
  Option.bind (impl_within a1.2.1 0 (IntKind.wrap .i64 (a2 - 1))) fun v3 =>
  Option.bind (impl_isStep.j0 a2 (a1.2.2.1 == 0) a1.1 a1.2.1 a1.2.2.1 a1.2.2.2) fun y4 =>
  Option.bind (impl_isStep.j1 (a1.2.2.2 == []) y4.2.1 y4.2.2.1 y4.2.2.2.1 y4.2.2.2.2) fun y5 =>
  bif y5.2.1 == 5 then
    Option.bind (impl_isTime y5.2.2.2.1) fun v6 =>
    Option.bind (impl_within y5.2.1 1 5) fun v7 =>
    some (((v7 && (y5.2.2.1 == 0)) && v6) && y5.1)
  else
  Option.bind (impl_within y5.2.1 1 5) fun v8 =>
  some (((v8 && v3) && y4.1) && y5.1)
def impl_isStep.sig : Sig := { ps := [.val true T66 (ros T66), .val false (.int .i64) (ros (.int .i64))], rs := [.val false [.v .bool]], ntmps := 65 }
def impl_isStep.con (k : Nat) : Con := impl_isStep.sig.con (fun x => impl_isStep x.1 x.2)
def impl_isStep.C (k : Nat) : Ctx := { ti := TAB, con := conL [(42, impl_within.con k), (103, impl_isTime.con k)] }
theorem impl_isStep.cok (k : Nat) : CtxOk Try.prog (impl_isStep.C k) := ctx_ok TABok ⟨impl_within.ok k, impl_isTime.ok k, trivial⟩
def impl_isStep.j0.ish : Shape := { tmps := [(1, .one (.v (.int .i64))), (2, .one (.ptr 0 0)), (6, .one (.v .bool))], slots := [(0, .box 116 [.v (.int .i64), .v (.int .i64), .v (.int .i64), .v .str])], nb := 1 }
def impl_isStep.j0.outs : List (Ex × Shape) := [(.nrm, { tmps := [(6, .one (.v .bool))], slots := [(0, .box 116 [.v (.int .i64), .v (.int .i64), .v (.int .i64), .v .str])], nb := 1 })]
def impl_isStep.j0.F (k : Nat) (x : Prod' impl_isStep.j0.ish.tys) : Option (Outs impl_isStep.j0.outs) := impl_isStep.j0 x.1 x.2.1 x.2.2.1 x.2.2.2.1 x.2.2.2.2.1 x.2.2.2.2.2
def impl_isStep.j0.s (k : Nat) : Summ := { n := 65, ish := impl_isStep.j0.ish, outs := impl_isStep.j0.outs, f := impl_isStep.j0.F k }
theorem impl_isStep.j0.ev (k : Nat) (x : Prod' impl_isStep.j0.ish.tys) : V (impl_isStep.C k) .auto (cL (cR (cR (cB Try.f140)))) (mk impl_isStep.j0.ish 65 x) (fun e st' => rdOut e st' impl_isStep.j0.outs) = impl_isStep.j0.F k x := by kernel_rfl
theorem impl_isStep.j0.ok (k : Nat) : SumOk Try.prog (impl_isStep.C k) (cL (cR (cR (cB Try.f140)))) (impl_isStep.j0.s k) := sum_ok (by kernel_rfl) (sum_code (p := .auto) (impl_isStep.cok k) (by kernel_rfl) (plan_of (L := []) (by kernel_rfl) trivial) (fun x y h => (impl_isStep.j0.ev k x).trans h))
def impl_isStep.j1.ish : Shape := { tmps := [(2, .one (.ptr 0 0)), (7, .one (.v .bool))], slots := [(0, .box 116 [.v (.int .i64), .v (.int .i64), .v (.int .i64), .v .str])], nb := 1 }
def impl_isStep.j1.outs : List (Ex × Shape) := [(.nrm, { tmps := [(7, .one (.v .bool))], slots := [(0, .box 116 [.v (.int .i64), .v (.int .i64), .v (.int .i64), .v .str])], nb := 1 })]
def impl_isStep.j1.F (k : Nat) (x : Prod' impl_isStep.j1.ish.tys) : Option (Outs impl_isStep.j1.outs) := impl_isStep.j1 x.1 x.2.1 x.2.2.1 x.2.2.2.1 x.2.2.2.2
def impl_isStep.j1.s (k : Nat) : Summ := { n := 65, ish := impl_isStep.j1.ish, outs := impl_isStep.j1.outs, f := impl_isStep.j1.F k }
theorem impl_isStep.j1.ev (k : Nat) (x : Prod' impl_isStep.j1.ish.tys) : V (impl_isStep.C k) .auto (cL (cR (cR (cR (cB Try.f140))))) (mk impl_isStep.j1.ish 65 x) (fun e st' => rdOut e st' impl_isStep.j1.outs) = impl_isStep.j1.F k x := by kernel_rfl
theorem impl_isStep.j1.ok (k : Nat) : SumOk Try.prog (impl_isStep.C k) (cL (cR (cR (cR (cB Try.f140))))) (impl_isStep.j1.s k) := sum_ok (by kernel_rfl) (sum_code (p := .auto) (impl_isStep.cok k) (by kernel_rfl) (plan_of (L := []) (by kernel_rfl) trivial) (fun x y h => (impl_isStep.j1.ev k x).trans h))
theorem impl_isStep.ev (k : Nat) (x : Prod' impl_isStep.sig.ins) : impl_isStep.sig.ev (impl_isStep.C k) (.two .auto (.two .auto (.two (.sum (impl_isStep.j0.s k)) (.two (.sum (impl_isStep.j1.s k)) .auto)))) Try.f140.results.toList (cB Try.f140) x = impl_isStep x.1 x.2 := by kernel_rfl
theorem impl_isStep.ok (k : Nat) : ConOk Try.prog 140 (impl_isStep.con k) := sig_ok (p := (.two .auto (.two .auto (.two (.sum (impl_isStep.j0.s k)) (.two (.sum (impl_isStep.j1.s k)) .auto))))) (impl_isStep.cok k) Try.func140 (by kernel_rfl) (show Try.f140.body = some (cB Try.f140) by kernel_rfl) (by kernel_rfl) (by kernel_rfl) (plan_of (L := [(impl_isStep.j0.s k, cL (cR (cR (cB Try.f140)))), (impl_isStep.j1.s k, cL (cR (cR (cR (cB Try.f140)))))]) (by kernel_rfl) ⟨impl_isStep.j0.ok k, impl_isStep.j1.ok k, trivial⟩) (fun x y h => (impl_isStep.ev k x).trans h)
def impl_reader_num (k : Nat) (a1 : G104) : Option (Int × Str × Int × Bool) :=
  Option.bind (impl_getNum k a1.1 a1.2.1) fun v2 =>
  bif v2.2.2 != 0 then
    some (0, a1.1, a1.2.1, true)
  else
  some (v2.1, a1.1, v2.2.1, a1.2.2)
def impl_reader_num.sig : Sig := { ps := [.ref 104 T104 (kept T104)], rs := [.val false [.v (.int .i64)]], ntmps := 29 }
def impl_reader_num.con (k : Nat) : Con := impl_reader_num.sig.con (fun x => impl_reader_num k x)
def impl_reader_num.C (k : Nat) : Ctx := { ti := TAB, con := conL [(108, impl_getNum.con k)] }
theorem impl_reader_num.cok (k : Nat) : CtxOk Try.prog (impl_reader_num.C k) := ctx_ok TABok ⟨impl_getNum.ok k, trivial⟩
theorem impl_reader_num.ev (k : Nat) (x : Prod' impl_reader_num.sig.ins) : impl_reader_num.sig.ev (impl_reader_num.C k) .auto Try.f65.results.toList (cB Try.f65) x = impl_reader_num k x := by kernel_rfl
theorem impl_reader_num.ok (k : Nat) : ConOk Try.prog 65 (impl_reader_num.con k) := sig_ok (p := .auto) (impl_reader_num.cok k) Try.func65 (by kernel_rfl) (show Try.f65.body = some (cB Try.f65) by kernel_rfl) (by kernel_rfl) (by kernel_rfl) (plan_of (L := []) (by kernel_rfl) trivial) (fun x y h => (impl_reader_num.ev k x).trans h)
def impl_reader_word (k : Nat) (a1 : G104) : Option (Str × Str × Int × Bool) :=
  Option.bind (impl_getText k a1.1 a1.2.1) fun v2 =>
  bif v2.2.2 != 0 then
    some ([], a1.1, a1.2.1, true)
  else
  some (v2.1, a1.1, v2.2.1, a1.2.2)
def impl_reader_word.sig : Sig := { ps := [.ref 104 T104 (kept T104)], rs := [.val false [.v .str]], ntmps := 29 }
def impl_reader_word.con (k : Nat) : Con := impl_reader_word.sig.con (fun x => impl_reader_word k x)
def impl_reader_word.C (k : Nat) : Ctx := { ti := TAB, con := conL [(129, impl_getText.con k)] }
theorem impl_reader_word.cok (k : Nat) : CtxOk Try.prog (impl_reader_word.C k) := ctx_ok TABok ⟨impl_getText.ok k, trivial⟩
theorem impl_reader_word.ev (k : Nat) (x : Prod' impl_reader_word.sig.ins) : impl_reader_word.sig.ev (impl_reader_word.C k) .auto Try.f155.results.toList (cB Try.f155) x = impl_reader_word k x := by kernel_rfl
theorem impl_reader_word.ok (k : Nat) : ConOk Try.prog 155 (impl_reader_word.con k) := sig_ok (p := .auto) (impl_reader_word.cok k) Try.func155 (by kernel_rfl) (show Try.f155.body = some (cB Try.f155) by kernel_rfl) (by kernel_rfl) (by kernel_rfl) (plan_of (L := []) (by kernel_rfl) trivial) (fun x y h => (impl_reader_word.ev k x).trans h)
def impl_headRead (k : Nat) (a1 : Str) : Option (Int × Int × Int × Str × Int) :=
  Option.bind (impl_unseal k a1) fun v2 =>
  bif v2.2 != 0 then
    some (0, 0, 0, [], v2.2)
  else
  Option.bind (impl_reader_num k (v2.1, (0, false))) fun v3 =>
  Option.bind (impl_reader_num k v3.2) fun v4 =>
  Option.bind (impl_reader_num k v4.2) fun v5 =>
  Option.bind (impl_reader_word k v5.2) fun v6 =>
  bif v6.2.2.2 || (v6.2.2.1 != ((v2.1.length) : Int)) then
    some (0, 0, 0, [], 3)
  else
  Option.bind (impl_isHead (v3.1, (v4.1, (v5.1, v6.1)))) fun v7 =>
  bif !v7 then
    some (0, 0, 0, [], 3)
  else
  some (v3.1, v4.1, v5.1, v6.1, 0)
def impl_headRead.sig : Sig := { ps := [.val false .str (ros .str)], rs := [.val true [.v (.int .i64), .v (.int .i64), .v (.int .i64), .v .str], .val false [.v (.int .i64)]], ntmps := 49 }
def impl_headRead.con (k : Nat) : Con := impl_headRead.sig.con (fun x => impl_headRead k x)
def impl_headRead.C (k : Nat) : Ctx := { ti := TAB, con := conL [(64, impl_unseal.con k), (65, impl_reader_num.con k), (128, impl_isHead.con k), (155, impl_reader_word.con k)] }
theorem impl_headRead.cok (k : Nat) : CtxOk Try.prog (impl_headRead.C k) := ctx_ok TABok ⟨impl_unseal.ok k, impl_reader_num.ok k, impl_isHead.ok k, impl_reader_word.ok k, trivial⟩
theorem impl_headRead.ev (k : Nat) (x : Prod' impl_headRead.sig.ins) : impl_headRead.sig.ev (impl_headRead.C k) .auto Try.f147.results.toList (cB Try.f147) x = impl_headRead k x := by kernel_rfl
theorem impl_headRead.ok (k : Nat) : ConOk Try.prog 147 (impl_headRead.con k) := sig_ok (p := .auto) (impl_headRead.cok k) Try.func147 (by kernel_rfl) (show Try.f147.body = some (cB Try.f147) by kernel_rfl) (by kernel_rfl) (by kernel_rfl) (plan_of (L := []) (by kernel_rfl) trivial) (fun x y h => (impl_headRead.ev k x).trans h)
def impl_reader_step (k : Nat) (a1 : G104) : Option (Int × Int × Int × Str × Str × Int × Bool) :=
  Option.bind (impl_reader_num k a1) fun v2 =>
  Option.bind (impl_reader_num k v2.2) fun v3 =>
  Option.bind (impl_reader_num k v3.2) fun v4 =>
  Option.bind (impl_reader_word k v4.2) fun v5 =>
  some (v2.1, v3.1, v4.1, v5.1, v5.2.1, v5.2.2.1, v5.2.2.2)
def impl_reader_step.sig : Sig := { ps := [.ref 104 T104 (kept T104)], rs := [.val true [.v (.int .i64), .v (.int .i64), .v (.int .i64), .v .str]], ntmps := 12 }
def impl_reader_step.con (k : Nat) : Con := impl_reader_step.sig.con (fun x => impl_reader_step k x)
def impl_reader_step.C (k : Nat) : Ctx := { ti := TAB, con := conL [(65, impl_reader_num.con k), (155, impl_reader_word.con k)] }
theorem impl_reader_step.cok (k : Nat) : CtxOk Try.prog (impl_reader_step.C k) := ctx_ok TABok ⟨impl_reader_num.ok k, impl_reader_word.ok k, trivial⟩
theorem impl_reader_step.ev (k : Nat) (x : Prod' impl_reader_step.sig.ins) : impl_reader_step.sig.ev (impl_reader_step.C k) .auto Try.f156.results.toList (cB Try.f156) x = impl_reader_step k x := by kernel_rfl
theorem impl_reader_step.ok (k : Nat) : ConOk Try.prog 156 (impl_reader_step.con k) := sig_ok (p := .auto) (impl_reader_step.cok k) Try.func156 (by kernel_rfl) (show Try.f156.body = some (cB Try.f156) by kernel_rfl) (by kernel_rfl) (by kernel_rfl) (plan_of (L := []) (by kernel_rfl) trivial) (fun x y h => (impl_reader_step.ev k x).trans h)
def impl_stepRead (k : Nat) (a1 : Str) : Option (Int × Int × Int × Str × Bool) :=
  Option.bind (impl_reader_step k (a1, (0, false))) fun v2 =>
  bif v2.2.2.2.2.2.2 || (v2.2.2.2.2.2.1 != ((a1.length) : Int)) then
    some (0, 0, 0, [], false)
  else
  Option.bind (impl_isStep (v2.1, (v2.2.1, (v2.2.2.1, v2.2.2.2.1))) 8) fun v3 =>
  bif !v3 then
    some (0, 0, 0, [], false)
  else
  some (v2.1, v2.2.1, v2.2.2.1, v2.2.2.2.1, true)
def impl_stepRead.sig : Sig := { ps := [.val false .str (ros .str)], rs := [.val true [.v (.int .i64), .v (.int .i64), .v (.int .i64), .v .str], .val false [.v .bool]], ntmps := 31 }
def impl_stepRead.con (k : Nat) : Con := impl_stepRead.sig.con (fun x => impl_stepRead k x)
def impl_stepRead.C (k : Nat) : Ctx := { ti := TAB, con := conL [(140, impl_isStep.con k), (156, impl_reader_step.con k)] }
theorem impl_stepRead.cok (k : Nat) : CtxOk Try.prog (impl_stepRead.C k) := ctx_ok TABok ⟨impl_isStep.ok k, impl_reader_step.ok k, trivial⟩
theorem impl_stepRead.ev (k : Nat) (x : Prod' impl_stepRead.sig.ins) : impl_stepRead.sig.ev (impl_stepRead.C k) .auto Try.f148.results.toList (cB Try.f148) x = impl_stepRead k x := by kernel_rfl
theorem impl_stepRead.ok (k : Nat) : ConOk Try.prog 148 (impl_stepRead.con k) := sig_ok (p := .auto) (impl_stepRead.cok k) Try.func148 (by kernel_rfl) (show Try.f148.body = some (cB Try.f148) by kernel_rfl) (by kernel_rfl) (by kernel_rfl) (plan_of (L := []) (by kernel_rfl) trivial) (fun x y h => (impl_stepRead.ev k x).trans h)
def impl_FeedOut_take (k : Nat) (a1 : G75) (a2 : Str) (a3 : Bool) : Option (Bool × Int × Int × Int × Str × Int × Str × List G169 × Int) :=
  let e4 := (0, (0, (0, [])))
  bif !a3 then
    Option.bind (impl_headRead k a2) fun v5 =>
    Option.bind (app? 80 a1.2.1 [(1, (v5.2.1, (v5.2.2.1, (v5.2.2.2.1, e4))))]) fun v6 =>
    some (v5.2.2.2.2 == 0, v5.1, v5.2.1, v5.2.2.1, v5.2.2.2.1, a1.1.2.1, a1.1.2.2, v6, a1.2.2)
  else
  Option.bind (impl_unseal k a2) fun v7 =>
  Option.bind (impl_stepRead k v7.1) fun v8 =>
  bif v7.2 != 0 then
    some (false, a1.1.1.1, a1.1.1.2.1, a1.1.1.2.2.1, a1.1.1.2.2.2, a1.1.2.1, a1.1.2.2, a1.2.1, a1.2.2)
  else
  bif !v8.2.2.2.2 then
    some (false, a1.1.1.1, a1.1.1.2.1, a1.1.1.2.2.1, a1.1.1.2.2.2, a1.1.2.1, a1.1.2.2, a1.2.1, a1.2.2)
  else
  let e9 := (v8.1, (v8.2.1, (v8.2.2.1, v8.2.2.2.1)))
  Option.bind (impl_isStep e9 a1.1.1.1) fun v10 =>
  bif !v10 then
    some (false, a1.1.1.1, a1.1.1.2.1, a1.1.1.2.2.1, a1.1.1.2.2.2, a1.1.2.1, a1.1.2.2, a1.2.1, a1.2.2)
  else
  Option.bind (app? 80 a1.2.1 ([(2, (0, (0, ([], e9))))])) fun v11 =>
  let e12 := IntKind.wrap .i64 (a1.1.2.1 + 1)
  bif e12 == a1.1.1.2.1 then
    Option.bind (app? 80 v11 ([(3, (0, (0, ([], e4))))])) fun v13 =>
    some (true, a1.1.1.1, a1.1.1.2.1, a1.1.1.2.2.1, a1.1.1.2.2.2, e12, a1.1.2.2, v13, a1.2.2)
  else
  some (true, a1.1.1.1, a1.1.1.2.1, a1.1.1.2.2.1, a1.1.1.2.2.2, e12, a1.1.2.2, v11, a1.2.2)
def impl_FeedOut_take.sig : Sig := { ps := [.ref 75 T75 [.v, .v, .v, .v, .v, .v, .own 169, .v], .val false .str (ros .str), .val false .bool (ros .bool)], rs := [.val false [.v .bool]], ntmps := 112 }
def impl_FeedOut_take.con (k : Nat) : Con := impl_FeedOut_take.sig.con (fun x => impl_FeedOut_take k x.1 x.2.1 x.2.2)
def impl_FeedOut_take.C (k : Nat) : Ctx := { ti := TAB, con := conL [(64, impl_unseal.con k), (140, impl_isStep.con k), (147, impl_headRead.con k), (148, impl_stepRead.con k)] }
theorem impl_FeedOut_take.cok (k : Nat) : CtxOk Try.prog (impl_FeedOut_take.C k) := ctx_ok TABok ⟨impl_unseal.ok k, impl_isStep.ok k, impl_headRead.ok k, impl_stepRead.ok k, trivial⟩
theorem impl_FeedOut_take.ev (k : Nat) (x : Prod' impl_FeedOut_take.sig.ins) : impl_FeedOut_take.sig.ev (impl_FeedOut_take.C k) .auto Try.f130.results.toList (cB Try.f130) x = impl_FeedOut_take k x.1 x.2.1 x.2.2 := by kernel_rfl
theorem impl_FeedOut_take.ok (k : Nat) : ConOk Try.prog 130 (impl_FeedOut_take.con k) := sig_ok (p := .auto) (impl_FeedOut_take.cok k) Try.func130 (by kernel_rfl) (show Try.f130.body = some (cB Try.f130) by kernel_rfl) (by kernel_rfl) (by kernel_rfl) (plan_of (L := []) (by kernel_rfl) trivial) (fun x y h => (impl_FeedOut_take.ev k x).trans h)
def impl_feedPut.l0 (k : Nat) : Nat → Str → Int → Int → Int → Int → Str → Int → Str → Int → Int → Int → Int → Str → Int → Str → Int → List G169 → List G169 → Option ((Int × Int × Int × Int × Str × Int × Str × Int × Int × Int × Int × Str × Int × Str × Int × List G169 × List G169) ⊕ (Int × Int × Int × Str × Int × Str × Int × Int × Int × Int × Str × Int × Str × Int × List G169 × List G169))
  | 0, _, _, _, _, _, _, _, _, _, _, _, _, _, _, _, _, _, _ => none
  | j + 1, a1, a2, a3, a4, a5, a6, a7, a8, a9, a10, a11, a12, a13, a14, a15, a16, a17, a18 =>
    bif decide (a2 < ((a1.length) : Int)) then
      let e19 := !((a10 == 0) && ((a11 == 0) && ((a12 == 0) && (a13 == []))))
      bif e19 && (a14 == a11) then
        some (.inr (0, 0, 0, [], 0, [], 3, a10, a11, a12, a13, a14, a15, a16, [], a18))
      else
      Option.bind (impl_getText k a1 a2) fun v20 =>
      bif v20.2.2 == 4 then
        some (.inl (a2, a3, a4, a5, a6, a7, a8, a9, a10, a11, a12, a13, a14, a15, a16, a17, a18))
      else
      bif v20.2.2 != 0 then
        some (.inr (0, 0, 0, [], 0, [], 3, a10, a11, a12, a13, a14, a15, a16, [], a18))
      else
      Option.bind (impl_FeedOut_take k (((a10, (a11, (a12, a13))), (a14, a15)), (a18, a16)) v20.1 e19) fun v21 =>
      bif !v21.1 then
        some (.inr (0, 0, 0, [], 0, [], 3, v21.2.1, v21.2.2.1, v21.2.2.2.1, v21.2.2.2.2.1, v21.2.2.2.2.2.1, v21.2.2.2.2.2.2.1, v21.2.2.2.2.2.2.2.2, [], v21.2.2.2.2.2.2.2.1))
      else
      impl_feedPut.l0 k j a1 v20.2.1 a3 a4 a5 a6 a7 a8 a9 v21.2.1 v21.2.2.1 v21.2.2.2.1 v21.2.2.2.2.1 v21.2.2.2.2.2.1 v21.2.2.2.2.2.2.1 v21.2.2.2.2.2.2.2.2 a17 v21.2.2.2.2.2.2.2.1
    else
    some (.inl (a2, a3, a4, a5, a6, a7, a8, a9, a10, a11, a12, a13, a14, a15, a16, a17, a18))
def impl_feedPut (k : Nat) (a1 : G68) (a2 : Str) : Option (Int × Int × Int × Str × Int × Str × List G169 × Int) :=
  Option.bind (impl_feedPut.l0 k k a2 0 0 0 0 [] 0 [] 0 a1.1.1 a1.1.2.1 a1.1.2.2.1 a1.1.2.2.2 a1.2.1 [] 0 [] []) fun
    | .inl y3 =>
      Option.bind (cut? a2 y3.1 ((a2.length) : Int)) fun v4 =>
      bif decide (500 < ((v4.length) : Int)) then
        some (0, 0, 0, [], 0, [], [], 3)
      else
      some (y3.2.2.2.2.2.2.2.2.1, y3.2.2.2.2.2.2.2.2.2.1, y3.2.2.2.2.2.2.2.2.2.2.1, y3.2.2.2.2.2.2.2.2.2.2.2.1, y3.2.2.2.2.2.2.2.2.2.2.2.2.1, v4, y3.2.2.2.2.2.2.2.2.2.2.2.2.2.2.2.2, y3.2.2.2.2.2.2.2.2.2.2.2.2.2.2.1)
    | .inr y5 =>
      some (y5.1, y5.2.1, y5.2.2.1, y5.2.2.2.1, y5.2.2.2.2.1, y5.2.2.2.2.2.1, y5.2.2.2.2.2.2.2.2.2.2.2.2.2.2.1, y5.2.2.2.2.2.2.1)
def impl_feedPut.sig : Sig := { ps := [.val true T68 (ros T68), .val false .str (ros .str)], rs := [.val true [.v (.int .i64), .v (.int .i64), .v (.int .i64), .v .str, .v (.int .i64), .v .str, .own 169 T169, .v (.int .i64)]], ntmps := 69 }
def impl_feedPut.con (k : Nat) : Con := impl_feedPut.sig.con (fun x => impl_feedPut k x.1 x.2)
def impl_feedPut.C (k : Nat) : Ctx := { ti := TAB, con := conL [(129, impl_getText.con k), (130, impl_FeedOut_take.con k)] }
theorem impl_feedPut.cok (k : Nat) : CtxOk Try.prog (impl_feedPut.C k) := ctx_ok TABok ⟨impl_getText.ok k, impl_FeedOut_take.ok k, trivial⟩
def impl_feedPut.l0.ish : Shape := { tmps := [(1, .one (.v .str)), (4, .one (.ptr 1 0)), (5, .one (.ptr 2 0)), (6, .one (.v (.int .i64)))], slots := [(1, .box 75 [.v (.int .i64), .v (.int .i64), .v (.int .i64), .v .str, .v (.int .i64), .v .str, .own 3, .v (.int .i64)]), (2, .box 75 [.v (.int .i64), .v (.int .i64), .v (.int .i64), .v .str, .v (.int .i64), .v .str, .own 4, .v (.int .i64)]), (3, .arr false 169 T169), (4, .arr false 169 T169)], nb := 5 }
def impl_feedPut.l0.outs : List (Ex × Shape) := [(.exit 0, { tmps := [(6, .one (.v (.int .i64)))], slots := [(1, .box 75 [.v (.int .i64), .v (.int .i64), .v (.int .i64), .v .str, .v (.int .i64), .v .str, .own 5, .v (.int .i64)]), (2, .box 75 [.v (.int .i64), .v (.int .i64), .v (.int .i64), .v .str, .v (.int .i64), .v .str, .own 6, .v (.int .i64)]), (5, .arr false 169 T169), (6, .arr false 169 T169)], nb := 7 }), (.ret, { tmps := [], slots := [(1, .box 75 [.v (.int .i64), .v (.int .i64), .v (.int .i64), .v .str, .v (.int .i64), .v .str, .own 5, .v (.int .i64)]), (2, .box 75 [.v (.int .i64), .v (.int .i64), .v (.int .i64), .v .str, .v (.int .i64), .v .str, .own 6, .v (.int .i64)]), (5, .arr false 169 T169), (6, .arr false 169 T169)], nb := 7 })]
def impl_feedPut.l0.F (k j : Nat) (x : Prod' impl_feedPut.l0.ish.tys) : Option (Outs impl_feedPut.l0.outs) := impl_feedPut.l0 k j x.1 x.2.1 x.2.2.1 x.2.2.2.1 x.2.2.2.2.1 x.2.2.2.2.2.1 x.2.2.2.2.2.2.1 x.2.2.2.2.2.2.2.1 x.2.2.2.2.2.2.2.2.1 x.2.2.2.2.2.2.2.2.2.1 x.2.2.2.2.2.2.2.2.2.2.1 x.2.2.2.2.2.2.2.2.2.2.2.1 x.2.2.2.2.2.2.2.2.2.2.2.2.1 x.2.2.2.2.2.2.2.2.2.2.2.2.2.1 x.2.2.2.2.2.2.2.2.2.2.2.2.2.2.1 x.2.2.2.2.2.2.2.2.2.2.2.2.2.2.2.1 x.2.2.2.2.2.2.2.2.2.2.2.2.2.2.2.2.1 x.2.2.2.2.2.2.2.2.2.2.2.2.2.2.2.2.2
def impl_feedPut.l0.s (k : Nat) : Summ := { n := 69, ish := impl_feedPut.l0.ish, outs := impl_feedPut.l0.outs, f := impl_feedPut.l0.F k k }
theorem impl_feedPut.l0.ev (k j : Nat) (x : Prod' impl_feedPut.l0.ish.tys) : V (impl_feedPut.C k) .auto (cO (cO (cL (cR (cR (cR (cB Try.f92))))))) (mk impl_feedPut.l0.ish 69 x) (fun e st' => match e with | .nrm => (rd impl_feedPut.l0.ish st').bind (impl_feedPut.l0.F k j) | e => rdOut e st' impl_feedPut.l0.outs) = impl_feedPut.l0.F k (j + 1) x := by kernel_rfl
theorem impl_feedPut.l0.ok (k : Nat) : SumOk Try.prog (impl_feedPut.C k) (.loop (cO (cO (cL (cR (cR (cR (cB Try.f92)))))))) (impl_feedPut.l0.s k) := sum_ok (by kernel_rfl) (sum_loop (p := .auto) (F := impl_feedPut.l0.F k) (impl_feedPut.cok k) (by kernel_rfl) (plan_of (L := []) (by kernel_rfl) trivial) (fun _ => rfl) (fun j x y h => (impl_feedPut.l0.ev k j x).trans h) k rfl)
theorem impl_feedPut.ev (k : Nat) (x : Prod' impl_feedPut.sig.ins) : impl_feedPut.sig.ev (impl_feedPut.C k) (.two .auto (.two .auto (.two .auto (.two (.one (.sum (impl_feedPut.l0.s k))) .auto)))) Try.f92.results.toList (cB Try.f92) x = impl_feedPut k x.1 x.2 := by kernel_rfl
theorem impl_feedPut.ok (k : Nat) : ConOk Try.prog 92 (impl_feedPut.con k) := sig_ok (p := (.two .auto (.two .auto (.two .auto (.two (.one (.sum (impl_feedPut.l0.s k))) .auto))))) (impl_feedPut.cok k) Try.func92 (by kernel_rfl) (show Try.f92.body = some (cB Try.f92) by kernel_rfl) (by kernel_rfl) (by kernel_rfl) (plan_of (L := [(impl_feedPut.l0.s k, cO (cL (cR (cR (cR (cB Try.f92))))))]) (by kernel_rfl) ⟨impl_feedPut.l0.ok k, trivial⟩) (fun x y h => (impl_feedPut.ev k x).trans h)
def impl_FeedPut (k : Nat) (a1 : G68) (a2 : Str) : Option (Int × Int × Int × Str × Int × Str × List G169 × Int) :=
  bif decide (8000 < ((a2.length) : Int)) then
    some (0, 0, 0, [], 0, [], [], 2)
  else
  Option.bind (impl_isFeed a1) fun v3 =>
  bif !v3 then
    some (0, 0, 0, [], 0, [], [], 1)
  else
  bif decide (8000 < (IntKind.wrap .i64 (((a1.2.2.length) : Int) + ((a2.length) : Int)))) then
    some (0, 0, 0, [], 0, [], [], 2)
  else
  Option.bind (cat? a1.2.2 a2) fun v4 =>
  Option.bind (impl_feedPut k a1 v4) fun v5 =>
  some (v5.1, v5.2.1, v5.2.2.1, v5.2.2.2.1, v5.2.2.2.2.1, v5.2.2.2.2.2.1, v5.2.2.2.2.2.2.1, v5.2.2.2.2.2.2.2)
def impl_FeedPut.sig : Sig := { ps := [.val true T68 (ros T68), .val false .str (ros .str)], rs := [.val true [.v (.int .i64), .v (.int .i64), .v (.int .i64), .v .str, .v (.int .i64), .v .str, .own 169 T169, .v (.int .i64)]], ntmps := 30 }
def impl_FeedPut.con (k : Nat) : Con := impl_FeedPut.sig.con (fun x => impl_FeedPut k x.1 x.2)
def impl_FeedPut.C (k : Nat) : Ctx := { ti := TAB, con := conL [(91, impl_isFeed.con k), (92, impl_feedPut.con k)] }
theorem impl_FeedPut.cok (k : Nat) : CtxOk Try.prog (impl_FeedPut.C k) := ctx_ok TABok ⟨impl_isFeed.ok k, impl_feedPut.ok k, trivial⟩
theorem impl_FeedPut.ev (k : Nat) (x : Prod' impl_FeedPut.sig.ins) : impl_FeedPut.sig.ev (impl_FeedPut.C k) .auto Try.f38.results.toList (cB Try.f38) x = impl_FeedPut k x.1 x.2 := by kernel_rfl
theorem impl_FeedPut.ok (k : Nat) : ConOk Try.prog 38 (impl_FeedPut.con k) := sig_ok (p := .auto) (impl_FeedPut.cok k) Try.func38 (by kernel_rfl) (show Try.f38.body = some (cB Try.f38) by kernel_rfl) (by kernel_rfl) (by kernel_rfl) (plan_of (L := []) (by kernel_rfl) trivial) (fun x y h => (impl_FeedPut.ev k x).trans h)
def laws_eqHead (a1 : G66) (a2 : G66) : Option (Bool) :=
  bif a1.1 != a2.1 then
    some false
  else
  bif a1.2.1 != a2.2.1 then
    some false
  else
  bif a1.2.2.1 != a2.2.2.1 then
    some false
  else
  bif !(a1.2.2.2 == a2.2.2.2) then
    some false
  else
  some true
def laws_eqHead.sig : Sig := { ps := [.val true T66 (ros T66), .val true T66 (ros T66)], rs := [.val false [.v .bool]], ntmps := 25 }
def laws_eqHead.con (k : Nat) : Con := laws_eqHead.sig.con (fun x => laws_eqHead x.1 x.2)
def laws_eqHead.C (k : Nat) : Ctx := { ti := TAB, con := conL [] }
theorem laws_eqHead.cok (k : Nat) : CtxOk Try.prog (laws_eqHead.C k) := ctx_ok TABok trivial
theorem laws_eqHead.ev (k : Nat) (x : Prod' laws_eqHead.sig.ins) : laws_eqHead.sig.ev (laws_eqHead.C k) .auto Try.f131.results.toList (cB Try.f131) x = laws_eqHead x.1 x.2 := by kernel_rfl
theorem laws_eqHead.ok (k : Nat) : ConOk Try.prog 131 (laws_eqHead.con k) := sig_ok (p := .auto) (laws_eqHead.cok k) Try.func131 (by kernel_rfl) (show Try.f131.body = some (cB Try.f131) by kernel_rfl) (by kernel_rfl) (by kernel_rfl) (plan_of (L := []) (by kernel_rfl) trivial) (fun x y h => (laws_eqHead.ev k x).trans h)
def laws_eqFeed (a1 : G68) (a2 : G68) : Option (Bool) :=
  Option.bind (laws_eqHead a1.1 a2.1) fun v3 =>
  bif !v3 then
    some false
  else
  bif a1.2.1 != a2.2.1 then
    some false
  else
  bif !(a1.2.2 == a2.2.2) then
    some false
  else
  some true
def laws_eqFeed.sig : Sig := { ps := [.val true T68 (ros T68), .val true T68 (ros T68)], rs := [.val false [.v .bool]], ntmps := 21 }
def laws_eqFeed.con (k : Nat) : Con := laws_eqFeed.sig.con (fun x => laws_eqFeed x.1 x.2)
def laws_eqFeed.C (k : Nat) : Ctx := { ti := TAB, con := conL [(131, laws_eqHead.con k)] }
theorem laws_eqFeed.cok (k : Nat) : CtxOk Try.prog (laws_eqFeed.C k) := ctx_ok TABok ⟨laws_eqHead.ok k, trivial⟩
theorem laws_eqFeed.ev (k : Nat) (x : Prod' laws_eqFeed.sig.ins) : laws_eqFeed.sig.ev (laws_eqFeed.C k) .auto Try.f93.results.toList (cB Try.f93) x = laws_eqFeed x.1 x.2 := by kernel_rfl
theorem laws_eqFeed.ok (k : Nat) : ConOk Try.prog 93 (laws_eqFeed.con k) := sig_ok (p := .auto) (laws_eqFeed.cok k) Try.func93 (by kernel_rfl) (show Try.f93.body = some (cB Try.f93) by kernel_rfl) (by kernel_rfl) (by kernel_rfl) (plan_of (L := []) (by kernel_rfl) trivial) (fun x y h => (laws_eqFeed.ev k x).trans h)
def laws_eqStep (a1 : G66) (a2 : G66) : Option (Bool) :=
  bif a1.1 != a2.1 then
    some false
  else
  bif a1.2.1 != a2.2.1 then
    some false
  else
  bif a1.2.2.1 != a2.2.2.1 then
    some false
  else
  bif !(a1.2.2.2 == a2.2.2.2) then
    some false
  else
  some true
def laws_eqStep.sig : Sig := { ps := [.val true T66 (ros T66), .val true T66 (ros T66)], rs := [.val false [.v .bool]], ntmps := 25 }
def laws_eqStep.con (k : Nat) : Con := laws_eqStep.sig.con (fun x => laws_eqStep x.1 x.2)
def laws_eqStep.C (k : Nat) : Ctx := { ti := TAB, con := conL [] }
theorem laws_eqStep.cok (k : Nat) : CtxOk Try.prog (laws_eqStep.C k) := ctx_ok TABok trivial
theorem laws_eqStep.ev (k : Nat) (x : Prod' laws_eqStep.sig.ins) : laws_eqStep.sig.ev (laws_eqStep.C k) .auto Try.f124.results.toList (cB Try.f124) x = laws_eqStep x.1 x.2 := by kernel_rfl
theorem laws_eqStep.ok (k : Nat) : ConOk Try.prog 124 (laws_eqStep.con k) := sig_ok (p := .auto) (laws_eqStep.cok k) Try.func124 (by kernel_rfl) (show Try.f124.body = some (cB Try.f124) by kernel_rfl) (by kernel_rfl) (by kernel_rfl) (plan_of (L := []) (by kernel_rfl) trivial) (fun x y h => (laws_eqStep.ev k x).trans h)
def laws_eqCmd (a1 : G169) (a2 : G169) : Option (Bool) :=
  bif a1.1 != a2.1 then
    some false
  else
  bif a1.2.1 != a2.2.1 then
    some false
  else
  bif a1.2.2.1 != a2.2.2.1 then
    some false
  else
  bif !(a1.2.2.2.1 == a2.2.2.2.1) then
    some false
  else
  Option.bind (laws_eqStep a1.2.2.2.2 a2.2.2.2.2) fun v3 =>
  bif !v3 then
    some false
  else
  some true
def laws_eqCmd.sig : Sig := { ps := [.val true T169 (ros T169), .val true T169 (ros T169)], rs := [.val false [.v .bool]], ntmps := 31 }
def laws_eqCmd.con (k : Nat) : Con := laws_eqCmd.sig.con (fun x => laws_eqCmd x.1 x.2)
def laws_eqCmd.C (k : Nat) : Ctx := { ti := TAB, con := conL [(124, laws_eqStep.con k)] }
theorem laws_eqCmd.cok (k : Nat) : CtxOk Try.prog (laws_eqCmd.C k) := ctx_ok TABok ⟨laws_eqStep.ok k, trivial⟩
theorem laws_eqCmd.ev (k : Nat) (x : Prod' laws_eqCmd.sig.ins) : laws_eqCmd.sig.ev (laws_eqCmd.C k) .auto Try.f132.results.toList (cB Try.f132) x = laws_eqCmd x.1 x.2 := by kernel_rfl
theorem laws_eqCmd.ok (k : Nat) : ConOk Try.prog 132 (laws_eqCmd.con k) := sig_ok (p := .auto) (laws_eqCmd.cok k) Try.func132 (by kernel_rfl) (show Try.f132.body = some (cB Try.f132) by kernel_rfl) (by kernel_rfl) (by kernel_rfl) (plan_of (L := []) (by kernel_rfl) trivial) (fun x y h => (laws_eqCmd.ev k x).trans h)
def laws_eqCmdS.l0 : Nat → List G169 → List G169 → Int → Option (Unit ⊕ Bool)
  | 0, _, _, _ => none
  | j + 1, a1, a2, a3 =>
    bif decide (a3 < ((a1.length) : Int)) then
      Option.bind (at? a1 a3) fun v4 =>
      Option.bind (at? a2 a3) fun v5 =>
      Option.bind (laws_eqCmd v4 v5) fun v6 =>
      bif !v6 then
        some (.inr false)
      else
      laws_eqCmdS.l0 j a1 a2 (IntKind.wrap .i64 (a3 + 1))
    else
    some (.inl ())
def laws_eqCmdS (k : Nat) (a1 : List G169) (a2 : List G169) : Option (Bool) :=
  bif ((a1.length) : Int) != ((a2.length) : Int) then
    some false
  else
  Option.bind (laws_eqCmdS.l0 k a1 a2 0) fun
    | .inl y3 =>
      some true
    | .inr y4 =>
      some y4
def laws_eqCmdS.sig : Sig := { ps := [.val false (.sl T169) (ros (.sl T169)), .val false (.sl T169) (ros (.sl T169))], rs := [.val false [.v .bool]], ntmps := 27 }
def laws_eqCmdS.con (k : Nat) : Con := laws_eqCmdS.sig.con (fun x => laws_eqCmdS k x.1 x.2)
def laws_eqCmdS.C (k : Nat) : Ctx := { ti := TAB, con := conL [(132, laws_eqCmd.con k)] }
theorem laws_eqCmdS.cok (k : Nat) : CtxOk Try.prog (laws_eqCmdS.C k) := ctx_ok TABok ⟨laws_eqCmd.ok k, trivial⟩
def laws_eqCmdS.l0.ish : Shape := { tmps := [(0, .one (.bor T169)), (1, .one (.bor T169)), (5, .one (.v (.int .i64)))], slots := [], nb := 0 }
def laws_eqCmdS.l0.outs : List (Ex × Shape) := [(.exit 0, { tmps := [], slots := [], nb := 0 }), (.ret, { tmps := [(4, .one (.v .bool))], slots := [], nb := 0 })]
def laws_eqCmdS.l0.F (k j : Nat) (x : Prod' laws_eqCmdS.l0.ish.tys) : Option (Outs laws_eqCmdS.l0.outs) := laws_eqCmdS.l0 j x.1 x.2.1 x.2.2
def laws_eqCmdS.l0.s (k : Nat) : Summ := { n := 27, ish := laws_eqCmdS.l0.ish, outs := laws_eqCmdS.l0.outs, f := laws_eqCmdS.l0.F k k }
theorem laws_eqCmdS.l0.ev (k j : Nat) (x : Prod' laws_eqCmdS.l0.ish.tys) : V (laws_eqCmdS.C k) .auto (cO (cO (cR (cL (cR (cR (cB Try.f94))))))) (mk laws_eqCmdS.l0.ish 27 x) (fun e st' => match e with | .nrm => (rd laws_eqCmdS.l0.ish st').bind (laws_eqCmdS.l0.F k j) | e => rdOut e st' laws_eqCmdS.l0.outs) = laws_eqCmdS.l0.F k (j + 1) x := by kernel_rfl
theorem laws_eqCmdS.l0.ok (k : Nat) : SumOk Try.prog (laws_eqCmdS.C k) (.loop (cO (cO (cR (cL (cR (cR (cB Try.f94)))))))) (laws_eqCmdS.l0.s k) := sum_ok (by kernel_rfl) (sum_loop (p := .auto) (F := laws_eqCmdS.l0.F k) (laws_eqCmdS.cok k) (by kernel_rfl) (plan_of (L := []) (by kernel_rfl) trivial) (fun _ => rfl) (fun j x y h => (laws_eqCmdS.l0.ev k j x).trans h) k rfl)
theorem laws_eqCmdS.ev (k : Nat) (x : Prod' laws_eqCmdS.sig.ins) : laws_eqCmdS.sig.ev (laws_eqCmdS.C k) (.two .auto (.two .auto (.two (.two .auto (.one (.sum (laws_eqCmdS.l0.s k)))) .auto))) Try.f94.results.toList (cB Try.f94) x = laws_eqCmdS k x.1 x.2 := by kernel_rfl
theorem laws_eqCmdS.ok (k : Nat) : ConOk Try.prog 94 (laws_eqCmdS.con k) := sig_ok (p := (.two .auto (.two .auto (.two (.two .auto (.one (.sum (laws_eqCmdS.l0.s k)))) .auto)))) (laws_eqCmdS.cok k) Try.func94 (by kernel_rfl) (show Try.f94.body = some (cB Try.f94) by kernel_rfl) (by kernel_rfl) (by kernel_rfl) (plan_of (L := [(laws_eqCmdS.l0.s k, cO (cR (cL (cR (cR (cB Try.f94))))))]) (by kernel_rfl) ⟨laws_eqCmdS.l0.ok k, trivial⟩) (fun x y h => (laws_eqCmdS.ev k x).trans h)
def laws_eqFeedOut (k : Nat) (a1 : G75) (a2 : G75) : Option (Bool) :=
  Option.bind (laws_eqFeed a1.1 a2.1) fun v3 =>
  bif !v3 then
    some false
  else
  Option.bind (laws_eqCmdS k a1.2.1 a2.2.1) fun v4 =>
  bif !v4 then
    some false
  else
  bif a1.2.2 != a2.2.2 then
    some false
  else
  some true
def laws_eqFeedOut.sig : Sig := { ps := [.val true T75 (ros T75), .val true T75 (ros T75)], rs := [.val false [.v .bool]], ntmps := 22 }
def laws_eqFeedOut.con (k : Nat) : Con := laws_eqFeedOut.sig.con (fun x => laws_eqFeedOut k x.1 x.2)
def laws_eqFeedOut.C (k : Nat) : Ctx := { ti := TAB, con := conL [(93, laws_eqFeed.con k), (94, laws_eqCmdS.con k)] }
theorem laws_eqFeedOut.cok (k : Nat) : CtxOk Try.prog (laws_eqFeedOut.C k) := ctx_ok TABok ⟨laws_eqFeed.ok k, laws_eqCmdS.ok k, trivial⟩
theorem laws_eqFeedOut.ev (k : Nat) (x : Prod' laws_eqFeedOut.sig.ins) : laws_eqFeedOut.sig.ev (laws_eqFeedOut.C k) .auto Try.f39.results.toList (cB Try.f39) x = laws_eqFeedOut k x.1 x.2 := by kernel_rfl
theorem laws_eqFeedOut.ok (k : Nat) : ConOk Try.prog 39 (laws_eqFeedOut.con k) := sig_ok (p := .auto) (laws_eqFeedOut.cok k) Try.func39 (by kernel_rfl) (show Try.f39.body = some (cB Try.f39) by kernel_rfl) (by kernel_rfl) (by kernel_rfl) (plan_of (L := []) (by kernel_rfl) trivial) (fun x y h => (laws_eqFeedOut.ev k x).trans h)
def laws_markText.l0 : Nat → Int → Str → Option (Str)
  | 0, _, _ => none
  | j + 1, a1, a2 =>
    bif decide (0 < a1) then
      Option.bind (nz? 10) fun v3 =>
      Option.bind (cat? (listByte [(IntKind.wrap .u8 (IntKind.wrap .i64 (48 + (Int.tmod a1 10))))]) a2) fun v4 =>
      Option.bind (nz? 10) fun v5 =>
      laws_markText.l0 j (IntKind.wrap .i64 (Int.tdiv a1 10)) v4
    else
    some a2
def laws_markText (k : Nat) (a1 : Int) : Option (Str) :=
  bif decide (a1 ≤ 0) then
    some ([109, 48])
  else
  Option.bind (laws_markText.l0 k a1 []) fun y2 =>
  Option.bind (cat? [109] y2) fun v3 =>
  some v3
def laws_markText.sig : Sig := { ps := [.val false (.int .i64) (ros (.int .i64))], rs := [.val false [.v .str]], ntmps := 20 }
def laws_markText.con (k : Nat) : Con := laws_markText.sig.con (fun x => laws_markText k x)
def laws_markText.C (k : Nat) : Ctx := { ti := TAB, con := conL [] }
theorem laws_markText.cok (k : Nat) : CtxOk Try.prog (laws_markText.C k) := ctx_ok TABok trivial
def laws_markText.l0.ish : Shape := { tmps := [(0, .one (.v (.int .i64))), (3, .one (.v .str))], slots := [], nb := 0 }
def laws_markText.l0.outs : List (Ex × Shape) := [(.exit 0, { tmps := [(3, .one (.v .str))], slots := [], nb := 0 })]
def laws_markText.l0.F (k j : Nat) (x : Prod' laws_markText.l0.ish.tys) : Option (Outs laws_markText.l0.outs) := laws_markText.l0 j x.1 x.2
def laws_markText.l0.s (k : Nat) : Summ := { n := 20, ish := laws_markText.l0.ish, outs := laws_markText.l0.outs, f := laws_markText.l0.F k k }
theorem laws_markText.l0.ev (k j : Nat) (x : Prod' laws_markText.l0.ish.tys) : V (laws_markText.C k) .auto (cO (cO (cL (cR (cR (cR (cB Try.f133))))))) (mk laws_markText.l0.ish 20 x) (fun e st' => match e with | .nrm => (rd laws_markText.l0.ish st').bind (laws_markText.l0.F k j) | e => rdOut e st' laws_markText.l0.outs) = laws_markText.l0.F k (j + 1) x := by kernel_rfl
theorem laws_markText.l0.ok (k : Nat) : SumOk Try.prog (laws_markText.C k) (.loop (cO (cO (cL (cR (cR (cR (cB Try.f133)))))))) (laws_markText.l0.s k) := sum_ok (by kernel_rfl) (sum_loop (p := .auto) (F := laws_markText.l0.F k) (laws_markText.cok k) (by kernel_rfl) (plan_of (L := []) (by kernel_rfl) trivial) (fun _ => rfl) (fun j x y h => (laws_markText.l0.ev k j x).trans h) k rfl)
theorem laws_markText.ev (k : Nat) (x : Prod' laws_markText.sig.ins) : laws_markText.sig.ev (laws_markText.C k) (.two .auto (.two .auto (.two .auto (.two (.one (.sum (laws_markText.l0.s k))) .auto)))) Try.f133.results.toList (cB Try.f133) x = laws_markText k x := by kernel_rfl
theorem laws_markText.ok (k : Nat) : ConOk Try.prog 133 (laws_markText.con k) := sig_ok (p := (.two .auto (.two .auto (.two .auto (.two (.one (.sum (laws_markText.l0.s k))) .auto))))) (laws_markText.cok k) Try.func133 (by kernel_rfl) (show Try.f133.body = some (cB Try.f133) by kernel_rfl) (by kernel_rfl) (by kernel_rfl) (plan_of (L := [(laws_markText.l0.s k, cO (cL (cR (cR (cR (cB Try.f133))))))]) (by kernel_rfl) ⟨laws_markText.l0.ok k, trivial⟩) (fun x y h => (laws_markText.ev k x).trans h)
def laws_markCmdS.l0 (k : Nat) : Nat → Int → Int → List G169 → Option ((Int × List G169))
  | 0, _, _, _ => none
  | j + 1, a1, a2, a3 =>
    bif decide (a2 < ((a3.length) : Int)) then
      Option.bind (at? a3 a2) fun v4 =>
      Option.bind (at? a3 a2) fun v5 =>
      let e6 := List.set a3 (Int.toNat a2) (a1, v5.2)
      let e7 := at? e6 a2
      Option.bind (e7) fun v8 =>
      Option.bind (e7) fun v9 =>
      let e10 := IntKind.wrap .i64 (a1 + 1)
      let e11 := List.set e6 (Int.toNat a2) (v9.1, (e10, v9.2.2))
      let e12 := at? e11 a2
      Option.bind (e12) fun v13 =>
      Option.bind (e12) fun v14 =>
      let e15 := IntKind.wrap .i64 (e10 + 1)
      let e16 := IntKind.wrap .i64 (e15 + 1)
      Option.bind (laws_markText k e16) fun v17 =>
      let e18 := List.set e11 (Int.toNat a2) (v14.1, (v14.2.1, (e15, v14.2.2.2)))
      let e19 := at? e18 a2
      Option.bind (e19) fun v20 =>
      Option.bind (e19) fun v21 =>
      let e22 := List.set e18 (Int.toNat a2) (v21.1, (v21.2.1, (v21.2.2.1, (v17, v21.2.2.2.2))))
      let e23 := at? e22 a2
      Option.bind (e23) fun v24 =>
      Option.bind (e23) fun v25 =>
      let e26 := IntKind.wrap .i64 (e16 + 1)
      let e27 := List.set e22 (Int.toNat a2) (v25.1, (v25.2.1, (v25.2.2.1, (v25.2.2.2.1, (e26, v25.2.2.2.2.2)))))
      let e28 := at? e27 a2
      Option.bind (e28) fun v29 =>
      Option.bind (e28) fun v30 =>
      let e31 := IntKind.wrap .i64 (e26 + 1)
      let e32 := List.set e27 (Int.toNat a2) (v30.1, (v30.2.1, (v30.2.2.1, (v30.2.2.2.1, (v30.2.2.2.2.1, (e31, v30.2.2.2.2.2.2))))))
      let e33 := at? e32 a2
      Option.bind (e33) fun v34 =>
      Option.bind (e33) fun v35 =>
      let e36 := IntKind.wrap .i64 (e31 + 1)
      let e37 := IntKind.wrap .i64 (e36 + 1)
      Option.bind (laws_markText k e37) fun v38 =>
      let e39 := List.set e32 (Int.toNat a2) (v35.1, (v35.2.1, (v35.2.2.1, (v35.2.2.2.1, (v35.2.2.2.2.1, (v35.2.2.2.2.2.1, (e36, v35.2.2.2.2.2.2.2)))))))
      let e40 := at? e39 a2
      Option.bind (e40) fun v41 =>
      Option.bind (e40) fun v42 =>
      laws_markCmdS.l0 k j (IntKind.wrap .i64 (e37 + 1)) (IntKind.wrap .i64 (a2 + 1)) (List.set e39 (Int.toNat a2) (v42.1, (v42.2.1, (v42.2.2.1, (v42.2.2.2.1, (v42.2.2.2.2.1, (v42.2.2.2.2.2.1, (v42.2.2.2.2.2.2.1, v38))))))))
    else
    some (a1, a3)
def laws_markCmdS (k : Nat) (a1 : List G169) (a2 : Int) : Option (Int × List G169) :=
  Option.bind (laws_markCmdS.l0 k k a2 0 a1) fun y3 =>
  some (y3.1, y3.2)
def laws_markCmdS.sig : Sig := { ps := [.val false (.sl T169) [.own 169], .val false (.int .i64) (ros (.int .i64))], rs := [.val false [.v (.int .i64)]], ntmps := 75 }
def laws_markCmdS.con (k : Nat) : Con := laws_markCmdS.sig.con (fun x => laws_markCmdS k x.1 x.2)
def laws_markCmdS.C (k : Nat) : Ctx := { ti := TAB, con := conL [(133, laws_markText.con k)] }
theorem laws_markCmdS.cok (k : Nat) : CtxOk Try.prog (laws_markCmdS.C k) := ctx_ok TABok ⟨laws_markText.ok k, trivial⟩
def laws_markCmdS.l0.ish : Shape := { tmps := [(0, .one (.pin 0)), (1, .one (.v (.int .i64))), (5, .one (.v (.int .i64)))], slots := [(0, .pin 169 T169)], nb := 1 }
def laws_markCmdS.l0.outs : List (Ex × Shape) := [(.exit 0, { tmps := [(1, .one (.v (.int .i64)))], slots := [(0, .pin 169 T169)], nb := 1 })]
def laws_markCmdS.l0.F (k j : Nat) (x : Prod' laws_markCmdS.l0.ish.tys) : Option (Outs laws_markCmdS.l0.outs) := laws_markCmdS.l0 k j x.1 x.2.1 x.2.2
def laws_markCmdS.l0.s (k : Nat) : Summ := { n := 75, ish := laws_markCmdS.l0.ish, outs := laws_markCmdS.l0.outs, f := laws_markCmdS.l0.F k k }
theorem laws_markCmdS.l0.ev (k j : Nat) (x : Prod' laws_markCmdS.l0.ish.tys) : V (laws_markCmdS.C k) .auto (cO (cO (cR (cL (cR (cB Try.f95)))))) (mk laws_markCmdS.l0.ish 75 x) (fun e st' => match e with | .nrm => (rd laws_markCmdS.l0.ish st').bind (laws_markCmdS.l0.F k j) | e => rdOut e st' laws_markCmdS.l0.outs) = laws_markCmdS.l0.F k (j + 1) x := by kernel_rfl
theorem laws_markCmdS.l0.ok (k : Nat) : SumOk Try.prog (laws_markCmdS.C k) (.loop (cO (cO (cR (cL (cR (cB Try.f95))))))) (laws_markCmdS.l0.s k) := sum_ok (by kernel_rfl) (sum_loop (p := .auto) (F := laws_markCmdS.l0.F k) (laws_markCmdS.cok k) (by kernel_rfl) (plan_of (L := []) (by kernel_rfl) trivial) (fun _ => rfl) (fun j x y h => (laws_markCmdS.l0.ev k j x).trans h) k rfl)
theorem laws_markCmdS.ev (k : Nat) (x : Prod' laws_markCmdS.sig.ins) : laws_markCmdS.sig.ev (laws_markCmdS.C k) (.two .auto (.two (.two .auto (.one (.sum (laws_markCmdS.l0.s k)))) .auto)) Try.f95.results.toList (cB Try.f95) x = laws_markCmdS k x.1 x.2 := by kernel_rfl
theorem laws_markCmdS.ok (k : Nat) : ConOk Try.prog 95 (laws_markCmdS.con k) := sig_ok (p := (.two .auto (.two (.two .auto (.one (.sum (laws_markCmdS.l0.s k)))) .auto))) (laws_markCmdS.cok k) Try.func95 (by kernel_rfl) (show Try.f95.body = some (cB Try.f95) by kernel_rfl) (by kernel_rfl) (by kernel_rfl) (plan_of (L := [(laws_markCmdS.l0.s k, cO (cR (cL (cR (cB Try.f95)))))]) (by kernel_rfl) ⟨laws_markCmdS.l0.ok k, trivial⟩) (fun x y h => (laws_markCmdS.ev k x).trans h)
def laws_markFeedOut (k : Nat) (a1 : G75) (a2 : Int) : Option (Int × List G169) :=
  Option.bind (laws_markCmdS k a1.2.1 a2) fun v3 =>
  some (v3.1, v3.2)
def laws_markFeedOut.sig : Sig := { ps := [.val true T75 [.v, .v, .v, .v, .v, .v, .own 169, .v], .val false (.int .i64) (ros (.int .i64))], rs := [.val false [.v (.int .i64)]], ntmps := 10 }
def laws_markFeedOut.con (k : Nat) : Con := laws_markFeedOut.sig.con (fun x => laws_markFeedOut k x.1 x.2)
def laws_markFeedOut.C (k : Nat) : Ctx := { ti := TAB, con := conL [(95, laws_markCmdS.con k)] }
theorem laws_markFeedOut.cok (k : Nat) : CtxOk Try.prog (laws_markFeedOut.C k) := ctx_ok TABok ⟨laws_markCmdS.ok k, trivial⟩
theorem laws_markFeedOut.ev (k : Nat) (x : Prod' laws_markFeedOut.sig.ins) : laws_markFeedOut.sig.ev (laws_markFeedOut.C k) .auto Try.f40.results.toList (cB Try.f40) x = laws_markFeedOut k x.1 x.2 := by kernel_rfl
theorem laws_markFeedOut.ok (k : Nat) : ConOk Try.prog 40 (laws_markFeedOut.con k) := sig_ok (p := .auto) (laws_markFeedOut.cok k) Try.func40 (by kernel_rfl) (show Try.f40.body = some (cB Try.f40) by kernel_rfl) (by kernel_rfl) (by kernel_rfl) (plan_of (L := []) (by kernel_rfl) trivial) (fun x y h => (laws_markFeedOut.ev k x).trans h)
def laws_heldCmdS.l0 (k : Nat) : Nat → List G169 → Int → Int → Option (Int ⊕ Int)
  | 0, _, _, _ => none
  | j + 1, a1, a2, a3 =>
    bif decide (a3 < ((a1.length) : Int)) then
      Option.bind (at? a1 a3) fun v4 =>
      bif v4.1 != a2 then
        some (.inr (-1))
      else
      Option.bind (at? a1 a3) fun v5 =>
      let e6 := IntKind.wrap .i64 (a2 + 1)
      bif v5.2.1 != e6 then
        some (.inr (-1))
      else
      Option.bind (at? a1 a3) fun v7 =>
      let e8 := IntKind.wrap .i64 (e6 + 1)
      bif v7.2.2.1 != e8 then
        some (.inr (-1))
      else
      Option.bind (at? a1 a3) fun v9 =>
      let e10 := IntKind.wrap .i64 (e8 + 1)
      Option.bind (laws_markText k e10) fun v11 =>
      bif !(v9.2.2.2.1 == v11) then
        some (.inr (-1))
      else
      Option.bind (at? a1 a3) fun v12 =>
      let e13 := IntKind.wrap .i64 (e10 + 1)
      bif v12.2.2.2.2.1 != e13 then
        some (.inr (-1))
      else
      Option.bind (at? a1 a3) fun v14 =>
      let e15 := IntKind.wrap .i64 (e13 + 1)
      bif v14.2.2.2.2.2.1 != e15 then
        some (.inr (-1))
      else
      Option.bind (at? a1 a3) fun v16 =>
      let e17 := IntKind.wrap .i64 (e15 + 1)
      bif v16.2.2.2.2.2.2.1 != e17 then
        some (.inr (-1))
      else
      Option.bind (at? a1 a3) fun v18 =>
      let e19 := IntKind.wrap .i64 (e17 + 1)
      Option.bind (laws_markText k e19) fun v20 =>
      bif !(v18.2.2.2.2.2.2.2 == v20) then
        some (.inr (-1))
      else
      laws_heldCmdS.l0 k j a1 (IntKind.wrap .i64 (e19 + 1)) (IntKind.wrap .i64 (a3 + 1))
    else
    some (.inl a2)
def laws_heldCmdS (k : Nat) (a1 : List G169) (a2 : Int) : Option (Int) :=
  Option.bind (laws_heldCmdS.l0 k k a1 a2 0) fun
    | .inl y3 =>
      some y3
    | .inr y4 =>
      some y4
def laws_heldCmdS.sig : Sig := { ps := [.val false (.sl T169) (ros (.sl T169)), .val false (.int .i64) (ros (.int .i64))], rs := [.val false [.v (.int .i64)]], ntmps := 91 }
def laws_heldCmdS.con (k : Nat) : Con := laws_heldCmdS.sig.con (fun x => laws_heldCmdS k x.1 x.2)
def laws_heldCmdS.C (k : Nat) : Ctx := { ti := TAB, con := conL [(133, laws_markText.con k)] }
theorem laws_heldCmdS.cok (k : Nat) : CtxOk Try.prog (laws_heldCmdS.C k) := ctx_ok TABok ⟨laws_markText.ok k, trivial⟩
def laws_heldCmdS.l0.ish : Shape := { tmps := [(0, .one (.bor T169)), (1, .one (.v (.int .i64))), (5, .one (.v (.int .i64)))], slots := [], nb := 0 }
def laws_heldCmdS.l0.outs : List (Ex × Shape) := [(.exit 0, { tmps := [(1, .one (.v (.int .i64)))], slots := [], nb := 0 }), (.ret, { tmps := [(4, .one (.v (.int .i64)))], slots := [], nb := 0 })]
def laws_heldCmdS.l0.F (k j : Nat) (x : Prod' laws_heldCmdS.l0.ish.tys) : Option (Outs laws_heldCmdS.l0.outs) := laws_heldCmdS.l0 k j x.1 x.2.1 x.2.2
def laws_heldCmdS.l0.s (k : Nat) : Summ := { n := 91, ish := laws_heldCmdS.l0.ish, outs := laws_heldCmdS.l0.outs, f := laws_heldCmdS.l0.F k k }
theorem laws_heldCmdS.l0.ev (k j : Nat) (x : Prod' laws_heldCmdS.l0.ish.tys) : V (laws_heldCmdS.C k) .auto (cO (cO (cR (cL (cR (cB Try.f96)))))) (mk laws_heldCmdS.l0.ish 91 x) (fun e st' => match e with | .nrm => (rd laws_heldCmdS.l0.ish st').bind (laws_heldCmdS.l0.F k j) | e => rdOut e st' laws_heldCmdS.l0.outs) = laws_heldCmdS.l0.F k (j + 1) x := by kernel_rfl
theorem laws_heldCmdS.l0.ok (k : Nat) : SumOk Try.prog (laws_heldCmdS.C k) (.loop (cO (cO (cR (cL (cR (cB Try.f96))))))) (laws_heldCmdS.l0.s k) := sum_ok (by kernel_rfl) (sum_loop (p := .auto) (F := laws_heldCmdS.l0.F k) (laws_heldCmdS.cok k) (by kernel_rfl) (plan_of (L := []) (by kernel_rfl) trivial) (fun _ => rfl) (fun j x y h => (laws_heldCmdS.l0.ev k j x).trans h) k rfl)
theorem laws_heldCmdS.ev (k : Nat) (x : Prod' laws_heldCmdS.sig.ins) : laws_heldCmdS.sig.ev (laws_heldCmdS.C k) (.two .auto (.two (.two .auto (.one (.sum (laws_heldCmdS.l0.s k)))) .auto)) Try.f96.results.toList (cB Try.f96) x = laws_heldCmdS k x.1 x.2 := by kernel_rfl
theorem laws_heldCmdS.ok (k : Nat) : ConOk Try.prog 96 (laws_heldCmdS.con k) := sig_ok (p := (.two .auto (.two (.two .auto (.one (.sum (laws_heldCmdS.l0.s k)))) .auto))) (laws_heldCmdS.cok k) Try.func96 (by kernel_rfl) (show Try.f96.body = some (cB Try.f96) by kernel_rfl) (by kernel_rfl) (by kernel_rfl) (plan_of (L := [(laws_heldCmdS.l0.s k, cO (cR (cL (cR (cB Try.f96)))))]) (by kernel_rfl) ⟨laws_heldCmdS.l0.ok k, trivial⟩) (fun x y h => (laws_heldCmdS.ev k x).trans h)
def laws_heldFeedOut (k : Nat) (a1 : G75) (a2 : Int) : Option (Int) :=
  Option.bind (laws_heldCmdS k a1.2.1 a2) fun v3 =>
  bif decide (v3 < 0) then
    some (-1)
  else
  some v3
def laws_heldFeedOut.sig : Sig := { ps := [.val true T75 (ros T75), .val false (.int .i64) (ros (.int .i64))], rs := [.val false [.v (.int .i64)]], ntmps := 12 }
def laws_heldFeedOut.con (k : Nat) : Con := laws_heldFeedOut.sig.con (fun x => laws_heldFeedOut k x.1 x.2)
def laws_heldFeedOut.C (k : Nat) : Ctx := { ti := TAB, con := conL [(96, laws_heldCmdS.con k)] }
theorem laws_heldFeedOut.cok (k : Nat) : CtxOk Try.prog (laws_heldFeedOut.C k) := ctx_ok TABok ⟨laws_heldCmdS.ok k, trivial⟩
theorem laws_heldFeedOut.ev (k : Nat) (x : Prod' laws_heldFeedOut.sig.ins) : laws_heldFeedOut.sig.ev (laws_heldFeedOut.C k) .auto Try.f41.results.toList (cB Try.f41) x = laws_heldFeedOut k x.1 x.2 := by kernel_rfl
theorem laws_heldFeedOut.ok (k : Nat) : ConOk Try.prog 41 (laws_heldFeedOut.con k) := sig_ok (p := .auto) (laws_heldFeedOut.cok k) Try.func41 (by kernel_rfl) (show Try.f41.body = some (cB Try.f41) by kernel_rfl) (by kernel_rfl) (by kernel_rfl) (plan_of (L := []) (by kernel_rfl) trivial) (fun x y h => (laws_heldFeedOut.ev k x).trans h)
def laws_FnExactFeedPut (k : Nat) (a1 : G68) (a2 : Str) : Option (Bool) :=
  bif decide (1048576 < ((a2.length) : Int)) then
    some true
  else
  Option.bind (laws_szFeed a1 1048576) fun v3 =>
  bif decide (v3 < 0) then
    some true
  else
  Option.bind (laws_toFeed a1) fun v4 =>
  Option.bind (spec_FeedPut k ((v4.1, (v4.2.1, (v4.2.2.1, v4.2.2.2.1))), v4.2.2.2.2) a2) fun v5 =>
  Option.bind (laws_toFeed a1) fun v6 =>
  Option.bind (impl_FeedPut k ((v6.1, (v6.2.1, (v6.2.2.1, v6.2.2.2.1))), v6.2.2.2.2) a2) fun v7 =>
  let e8 := ((v7.1, (v7.2.1, (v7.2.2.1, v7.2.2.2.1))), (v7.2.2.2.2.1, v7.2.2.2.2.2.1))
  let e9 := (e8, v7.2.2.2.2.2.2)
  let e10 := (((v5.1, (v5.2.1, (v5.2.2.1, v5.2.2.2.1))), (v5.2.2.2.2.1, v5.2.2.2.2.2.1)), v5.2.2.2.2.2.2)
  Option.bind (laws_eqFeedOut k e9 e10) fun v11 =>
  bif !v11 then
    some false
  else
  Option.bind (laws_markFeedOut k e9 1) fun v12 =>
  Option.bind (laws_heldFeedOut k (e8, (v12.2, v7.2.2.2.2.2.2.2)) 1) fun v13 =>
  bif decide (v13 < 0) then
    some false
  else
  bif v13 != v12.1 then
    some false
  else
  Option.bind (laws_toFeed a1) fun v14 =>
  Option.bind (impl_FeedPut k ((v14.1, (v14.2.1, (v14.2.2.1, v14.2.2.2.1))), v14.2.2.2.2) a2) fun v15 =>
  Option.bind (laws_eqFeedOut k (((v15.1, (v15.2.1, (v15.2.2.1, v15.2.2.2.1))), (v15.2.2.2.2.1, v15.2.2.2.2.2.1)), v15.2.2.2.2.2.2) e10) fun v16 =>
  bif !v16 then
    some false
  else
  Option.bind (laws_heldFeedOut k (e8, (v12.2, v7.2.2.2.2.2.2.2)) 1) fun v17 =>
  bif decide (v17 < 0) then
    some false
  else
  bif v17 != v12.1 then
    some false
  else
  some true
def laws_FnExactFeedPut.sig : Sig := { ps := [.val true T68 (ros T68), .val false .str (ros .str)], rs := [.val false [.v .bool]], ntmps := 58 }
def laws_FnExactFeedPut.con (k : Nat) : Con := laws_FnExactFeedPut.sig.con (fun x => laws_FnExactFeedPut k x.1 x.2)
def laws_FnExactFeedPut.C (k : Nat) : Ctx := { ti := TAB, con := conL [(35, laws_szFeed.con k), (36, spec_FeedPut.con k), (37, laws_toFeed.con k), (38, impl_FeedPut.con k), (39, laws_eqFeedOut.con k), (40, laws_markFeedOut.con k), (41, laws_heldFeedOut.con k)] }
theorem laws_FnExactFeedPut.cok (k : Nat) : CtxOk Try.prog (laws_FnExactFeedPut.C k) := ctx_ok TABok ⟨laws_szFeed.ok k, spec_FeedPut.ok k, laws_toFeed.ok k, impl_FeedPut.ok k, laws_eqFeedOut.ok k, laws_markFeedOut.ok k, laws_heldFeedOut.ok k, trivial⟩
theorem laws_FnExactFeedPut.ev (k : Nat) (x : Prod' laws_FnExactFeedPut.sig.ins) : laws_FnExactFeedPut.sig.ev (laws_FnExactFeedPut.C k) .auto Try.f6.results.toList (cB Try.f6) x = laws_FnExactFeedPut k x.1 x.2 := by kernel_rfl
theorem laws_FnExactFeedPut.ok (k : Nat) : ConOk Try.prog 6 (laws_FnExactFeedPut.con k) := sig_ok (p := .auto) (laws_FnExactFeedPut.cok k) Try.func6 (by kernel_rfl) (show Try.f6.body = some (cB Try.f6) by kernel_rfl) (by kernel_rfl) (by kernel_rfl) (plan_of (L := []) (by kernel_rfl) trivial) (fun x y h => (laws_FnExactFeedPut.ev k x).trans h)
end Go.Proofs.YtnmbinfgcgjfbaaE

namespace Go.Proofs.YtnmbinfgcgjfbaaE
open Go
set_option linter.unusedVariables false
def Ever (p : Nat → Prop) : Prop := ∃ K, ∀ k, K ≤ k → p k
theorem Ever.of {p : Nat → Prop} (h : ∀ k, p k) : Ever p := ⟨0, fun k _ => h k⟩
theorem Ever.ge {p : Nat → Prop} (K : Nat) (h : ∀ k, K ≤ k → p k) : Ever p := ⟨K, h⟩
theorem Ever.mono {p q : Nat → Prop} (h : Ever p) (f : ∀ k, p k → q k) : Ever q := by
  obtain ⟨K, h⟩ := h
  exact ⟨K, fun k hk => f k (h k hk)⟩
theorem Ever.and {p q : Nat → Prop} (h : Ever p) (g : Ever q) : Ever fun k => p k ∧ q k := by
  obtain ⟨K, h⟩ := h
  obtain ⟨J, g⟩ := g
  exact ⟨K + J, fun k hk => ⟨h k (by omega), g k (by omega)⟩⟩
theorem Ever.ex {p : Nat → Prop} (h : Ever p) : ∃ k, p k := by
  obtain ⟨K, h⟩ := h
  exact ⟨K, h K (Nat.le_refl K)⟩
theorem Ever.all {n : Nat} {p : Nat → Nat → Prop} : (∀ i, i < n → Ever (p i)) → Ever fun k => ∀ i, i < n → p i k := by
  induction n with
  | zero => exact fun _ => ⟨0, fun k _ i hi => absurd hi (Nat.not_lt_zero i)⟩
  | succ n ih =>
    intro h
    refine ((ih fun i hi => h i (Nat.lt_succ_of_lt hi)).and (h n (Nat.lt_succ_self n))).mono fun k hk i hi => ?_
    rcases Nat.eq_or_lt_of_le (Nat.le_of_lt_succ hi) with rfl | hi
    · exact hk.2
    · exact hk.1 i hi
/-- Two facts, then a third. -/
theorem Ever.two {p q r : Nat → Prop} (h : Ever p) (g : Ever q) (f : ∀ k, p k → q k → r k) : Ever r := (h.and g).mono fun k hk => f k hk.1 hk.2
/-- A loop of n rounds: what it has in hand at round i is told by i. -/
theorem ever_loop {R : Type} (L : Nat → Nat → Nat → Option R) (n : Nat) (r : R) (hs : Ever fun k => ∀ i, i < n → ∀ j, L k (j + 1) i = L k j (i + 1)) (hl : Ever fun k => ∀ j, L k (j + 1) n = some r) : Ever fun k => L k k 0 = some r := by
  obtain ⟨K, hs⟩ := hs
  obtain ⟨J, hl⟩ := hl
  refine ⟨K + J + n + 1, fun k hk => ?_⟩
  have hs := hs k (by omega)
  have hl := hl k (by omega)
  have key : ∀ d i j, i + d = n → d < j → L k j i = some r := by
    intro d
    induction d with
    | zero =>
      intro i j hi hj
      obtain ⟨m, rfl⟩ : ∃ m, j = m + 1 := ⟨j - 1, by omega⟩
      obtain rfl : i = n := by omega
      exact hl m
    | succ d ih =>
      intro i j hi hj
      obtain ⟨m, rfl⟩ : ∃ m, j = m + 1 := ⟨j - 1, by omega⟩
      rw [hs i (by omega) m]
      exact ih (i + 1) m (by omega) (by omega)
  exact key n 0 k (by omega) (by omega)
/-- The same, where neither the round nor the end hangs on fuel. -/
theorem loop_of {R : Type} (L : Nat → Nat → Option R) (n : Nat) (r : R) (hs : ∀ i, i < n → ∀ j, L (j + 1) i = L j (i + 1)) (hl : ∀ j, L (j + 1) n = some r) : Ever fun k => L k 0 = some r :=
  ever_loop (fun _ j i => L j i) n r (Ever.of fun _ => hs) (Ever.of fun _ => hl)
theorem bnd {α β : Type} {f : Nat → Option α} {g : Nat → α → Option β} {a : α} {b : β} (h : Ever fun k => f k = some a) (k : Ever fun k => g k a = some b) : Ever fun k => (f k).bind (g k) = some b :=
  h.two k fun k h1 h2 => by rw [h1]; exact h2
theorem some_cond {α : Type} {b : Bool} {x y : Option α} (hx : ∃ v, x = some v) (hy : ∃ v, y = some v) : ∃ v, (bif b then x else y) = some v := by
  cases b
  · exact hy
  · exact hx
theorem some_bind {α β : Type} {x : Option α} {f : α → Option β} (hx : ∃ v, x = some v) (hf : ∀ v, ∃ w, f v = some w) : ∃ w, x.bind f = some w := by
  obtain ⟨v, rfl⟩ := hx
  exact hf v
/-! ### numbers -/
theorem w64 {n : Int} (h0 : -9223372036854775808 ≤ n) (h1 : n < 9223372036854775808) : IntKind.wrap .i64 n = n := by
  simp [IntKind.wrap, IntKind.bits, IntKind.signed]
  omega
theorem wf64 {n : Int} (h : Bnd (.int .i64) n) : -9223372036854775808 ≤ n ∧ n < 9223372036854775808 := by
  have h : (Lit.int .i64 n).wf = true := h
  simp [Lit.wf, IntKind.min, IntKind.max, IntKind.signed, IntKind.bits] at h
  omega
theorem wn {n : Nat} (h : n < 9223372036854775808) : IntKind.wrap .i64 (n : Int) = n := w64 (by omega) (by omega)
theorem wsuc {n : Nat} (h : n < 9223372036854775807) : IntKind.wrap .i64 ((n : Int) + 1) = ((n + 1 : Nat) : Int) := by rw [w64] <;> omega
/-! ### partial answers -/
theorem at_nat {α : Type} {l : List α} {i : Nat} (h : i < l.length) : at? l (i : Int) = some l[i] := by
  unfold at?
  rw [if_pos (by omega), Int.toNat_natCast, List.getElem?_eq_getElem h]
theorem app_ok {α : Type} {n : Nat} {a b : List α} (h : (a.length + b.length) * n ≤ 140737488355328) : app? n a b = some (a ++ b) := if_pos h
theorem cat_some {a b : Str} (h : a.length + b.length ≤ 9223372036854775807) : cat? a b = some (a ++ b) := if_pos h
theorem make_some {α : Type} {b n : Nat} {x : α} (h : n * b ≤ 140737488355328) : make? b (n : Int) (n : Int) x = some (List.replicate n x) := by
  unfold make?
  rw [if_pos ⟨by omega, Int.le_refl _, by rw [Int.toNat_natCast]; exact h⟩, Int.toNat_natCast]
theorem cut_ok {α : Type} {l : List α} {i j : Nat} (h : i ≤ j) (k : j ≤ l.length) : cut? l (i : Int) (j : Int) = some ((l.take j).drop i) := by
  unfold cut?
  rw [if_pos ⟨by omega, by omega, by omega⟩, Int.toNat_natCast, Int.toNat_natCast]
theorem room_some {n b : Nat} (h : n * b ≤ 140737488355328) : room? n b = some () := if_pos h
theorem nz_some {b : Int} (h : b ≠ 0) : nz? b = some () := if_neg h
theorem nneg_some {b : Int} (h : 0 ≤ b) : nneg? b = some () := if_neg (by omega)
theorem take_map_succ {α β : Type} {l : List α} (f : α → β) {i : Nat} (h : i < l.length) : (l.take (i + 1)).map f = (l.take i).map f ++ [f l[i]] := by
  rw [List.take_add_one, List.getElem?_eq_getElem h, List.map_append]
  rfl
theorem take_succ' {α : Type} {l : List α} {i : Nat} (h : i < l.length) : l.take (i + 1) = l.take i ++ [l[i]] := by
  rw [List.take_add_one, List.getElem?_eq_getElem h]
  rfl
/-- A list that is filled, place by place. -/
theorem fill_set {α β : Type} {l : List α} {f : α → β} {z : β} {i : Nat} (h : i < l.length) :
    ((l.take i).map f ++ List.replicate (l.length - i) z).set i (f l[i]) = (l.take (i + 1)).map f ++ List.replicate (l.length - (i + 1)) z := by
  have hl : ((l.take i).map f).length = i := by simp; omega
  rw [List.set_append_right _ _ (by rw [hl]; exact Nat.le_refl i), hl, Nat.sub_self, show l.length - i = (l.length - (i + 1)) + 1 by omega, List.replicate_succ, List.set_cons_zero, take_map_succ f h, List.append_assoc]
  rfl
theorem fill_len {α β : Type} {l : List α} {f : α → β} {z : β} {i : Nat} (h : i ≤ l.length) : ((l.take i).map f ++ List.replicate (l.length - i) z).length = l.length := by simp; omega
end Go.Proofs.YtnmbinfgcgjfbaaE

namespace Go.Proofs.YtnmbinfgcgjfbaaE
open Go
set_option linter.unusedVariables false
/-- A loop that ends at the first place where a test fails. -/
theorem ever_stop {R : Type} (L : Nat → Nat → Nat → Option R) (n : Nat) (p : Nat → Bool) (m : Nat) (r : R) (hm : m ≤ n) (hall : ∀ i, i < m → p i = true) (hs : Ever fun k => ∀ i, i < n → p i = true → ∀ j, L k (j + 1) i = L k j (i + 1))
    (hl : Ever fun k => ∀ j, L k (j + 1) m = some r) : Ever fun k => L k k 0 = some r :=
  ever_loop L m r (hs.mono fun k h i hi => h i (by omega) (hall i hi)) hl
/-- Either all places pass, or there is a first that does not. -/
theorem all_or_first (n : Nat) (p : Nat → Bool) : (∀ i, i < n → p i = true) ∨ ∃ m, m < n ∧ p m = false ∧ ∀ i, i < m → p i = true := by
  induction n with
  | zero => exact .inl fun i hi => absurd hi (Nat.not_lt_zero i)
  | succ n ih =>
    rcases ih with h | ⟨m, h1, h2, h3⟩
    · cases hp : p n with
      | true =>
        refine .inl fun i hi => ?_
        rcases Nat.eq_or_lt_of_le (Nat.le_of_lt_succ hi) with rfl | hi
        · exact hp
        · exact h i hi
      | false => exact .inr ⟨n, Nat.lt_succ_self n, hp, h⟩
    · exact .inr ⟨m, Nat.lt_succ_of_lt h1, h2, h3⟩
theorem all_get {α : Type} {l : List α} {q : α → Bool} : (∀ x ∈ l, q x = true) ↔ ∀ i, (h : i < l.length) → q l[i] = true := by
  constructor
  · exact fun h i hi => h _ (List.getElem_mem hi)
  · intro h x hx
    obtain ⟨i, hi, rfl⟩ := List.getElem_of_mem hx
    exact h i hi
/-- All elements pass, or there is a first that does not. -/
theorem list_first {α : Type} (l : List α) (q : α → Bool) : (l.all q = true) ∨ (l.all q = false ∧ ∃ m, ∃ h : m < l.length, q l[m] = false ∧ ∀ i, (hi : i < m) → q (l[i]'(by omega)) = true) := by
  rcases all_or_first l.length (fun i => match l[i]? with | some x => q x | none => true) with h | ⟨m, h1, h2, h3⟩
  · refine .inl (List.all_eq_true.2 (all_get.2 fun i hi => ?_))
    have := h i hi
    rwa [List.getElem?_eq_getElem hi] at this
  · rw [List.getElem?_eq_getElem h1] at h2
    replace h2 : q l[m] = false := h2
    refine .inr ⟨?_, m, h1, h2, fun i hi => ?_⟩
    · cases ha : l.all q with
      | false => rfl
      | true => rw [List.all_eq_true.1 ha _ (List.getElem_mem h1)] at h2; cases h2
    · have := h3 i hi
      rwa [List.getElem?_eq_getElem (by omega)] at this
end Go.Proofs.YtnmbinfgcgjfbaaE

namespace Go.Proofs.YtnmbinfgcgjfbaaE
open Go
set_option linter.unusedVariables false
def mtL : Nat → Int → Str → Str
  | 0, _, o => o
  | d + 1, n, o => if 0 < n then mtL d (n.tdiv 10) (listByte [IntKind.wrap .u8 (IntKind.wrap .i64 (48 + n.tmod 10))] ++ o) else o
/-- The text of a mark. -/
def mt (n : Int) : Str := if n ≤ 0 then [109, 48] else [109] ++ mtL 20 n []
theorem mtL_len : ∀ (d : Nat) (n : Int) (o : Str), (mtL d n o).length ≤ o.length + d
  | 0, _, _ => Nat.le_refl _
  | d + 1, n, o => by
    unfold mtL
    split
    · have := mtL_len d (n.tdiv 10) (listByte [IntKind.wrap .u8 (IntKind.wrap .i64 (48 + n.tmod 10))] ++ o)
      simp [listByte] at this ⊢
      omega
    · omega
theorem markL : ∀ (d : Nat) (n : Int) (o : Str) (j : Nat), n < 10 ^ d → n < 9223372036854775808 → o.length + d ≤ 1000 → d < j → laws_markText.l0 j n o = some (mtL d n o)
  | d, n, o, 0, _, _, _, h => absurd h (Nat.not_lt_zero d)
  | 0, n, o, j + 1, h, _, _, _ => by
    have : ¬ (0 < n) := by
      have : n < 1 := h
      omega
    unfold laws_markText.l0 mtL
    rw [decide_eq_false this]
    rfl
  | d + 1, n, o, j + 1, h, hb, ho, hj => by
    unfold laws_markText.l0 mtL
    by_cases hn : 0 < n
    · have e : n.tdiv 10 = n / 10 := Int.tdiv_eq_ediv_of_nonneg (by omega)
      rw [decide_eq_true hn, if_pos hn, nz_some (by omega : (10 : Int) ≠ 0)]
      simp only [cond_true, Option.bind_some]
      rw [cat_some (by simp [listByte]; omega)]
      simp only [Option.bind_some]
      rw [w64 (by rw [e]; omega) (by rw [e]; omega)]
      refine markL d (n.tdiv 10) _ j ?_ (by rw [e]; omega) (by simp [listByte]; omega) (by omega)
      rw [e]
      have h' : n < 10 ^ d * 10 := by rw [← Int.pow_succ]; exact h
      omega
    · rw [decide_eq_false hn, if_neg hn]
      rfl
theorem markText_eq (n : Int) (h : n < 9223372036854775808) : Ever fun k => laws_markText k n = some (mt n) := by
  refine ⟨21, fun k hk => ?_⟩
  unfold laws_markText mt
  by_cases hn : n ≤ 0
  · rw [decide_eq_true hn, if_pos hn]; rfl
  · rw [decide_eq_false hn, if_neg hn]
    simp only [cond_false]
    rw [markL 20 n [] k (by have : (10 : Int) ^ 20 = 100000000000000000000 := by rfl
                            omega) h (by simp) (by omega)]
    simp only [Option.bind_some]
    have hl := mtL_len 20 n []
    rw [cat_some (by simp at hl ⊢; omega)]
    rfl
theorem beq_self_str (s : Str) : (s == s) = true := by simp
/-- The marks of a list of strings. -/
def marks (n : Nat) (k : Int) : List Str := (List.range n).map fun (i : Nat) => mt (k + (i : Int))
theorem getElem_range_map {β : Type} (f : Nat → β) (n i : Nat) (h : i < n) : ((List.range n).map f)[i]'(by simpa using h) = f i := by simp
/-- What a list looks like when its first places have been written. -/
theorem mark_step {β : Type} (l : List β) (f : Nat → β) (i : Nat) (h : i < l.length) : ((List.range i).map f ++ l.drop i).set i (f i) = (List.range (i + 1)).map f ++ l.drop (i + 1) := by
  rw [List.set_append_right _ _ (by simp), List.length_map, List.length_range, Nat.sub_self, List.drop_eq_getElem_cons h, List.set_cons_zero, List.range_succ, List.map_append, List.append_assoc]
  rfl
theorem mark_len {β : Type} (l : List β) (f : Nat → β) (i : Nat) (h : i ≤ l.length) : ((List.range i).map f ++ l.drop i).length = l.length := by simp; omega
theorem at_set {α : Type} {l : List α} {i : Nat} {x : α} (h : i < l.length) : at? (l.set i x) (i : Int) = some x := by
  rw [at_nat (by rw [List.length_set]; exact h), List.getElem_set_self]
end Go.Proofs.YtnmbinfgcgjfbaaE

namespace Go.Proofs.YtnmbinfgcgjfbaaE
open Go
set_option linter.unusedVariables false
def cmdMark (m : Nat) : G169 := ((m : Int), (((m + 1 : Nat) : Int), (((m + 2 : Nat) : Int), (mt ((m + 3 : Nat) : Int), (((m + 4 : Nat) : Int), (((m + 5 : Nat) : Int), (((m + 6 : Nat) : Int), mt ((m + 7 : Nat) : Int))))))))
def cmdMarks (n k0 : Nat) : List G169 := (List.range n).map fun (i : Nat) => cmdMark (k0 + 8 * i)
theorem cmdTexts (n k0 : Nat) (h : k0 + 8 * n < 9223372036854775000) : Ever fun k => ∀ i, i < n → laws_markText k ((k0 + 8 * i + 3 : Nat) : Int) = some (mt ((k0 + 8 * i + 3 : Nat) : Int)) ∧ laws_markText k ((k0 + 8 * i + 7 : Nat) : Int) = some (mt ((k0 + 8 * i + 7 : Nat) : Int)) :=
  Ever.all fun i hi => (markText_eq _ (by omega)).and (markText_eq _ (by omega))
theorem markCmdS_eq (l : List G169) (k0 : Nat) (h : k0 + 8 * l.length < 9223372036854775000) : Ever fun k => laws_markCmdS k l (k0 : Int) = some (((k0 + 8 * l.length : Nat) : Int), cmdMarks l.length k0) := by
  have hm := cmdTexts l.length k0 h
  have key : Ever fun k => laws_markCmdS.l0 k k (k0 : Int) 0 l = some (((k0 + 8 * l.length : Nat) : Int), cmdMarks l.length k0) := by
    refine ever_loop (fun k j i => laws_markCmdS.l0 k j ((k0 + 8 * i : Nat) : Int) (i : Int) ((List.range i).map (fun (i : Nat) => cmdMark (k0 + 8 * i)) ++ l.drop i)) l.length _ (hm.mono fun k hk i hi j => ?_) (Ever.of fun k j => ?_)
    · have hlen := mark_len l (fun (i : Nat) => cmdMark (k0 + 8 * i)) i (by omega)
      have hst := mark_step l (fun (i : Nat) => cmdMark (k0 + 8 * i)) i hi
      obtain ⟨t3, t7⟩ := hk i hi
      generalize hm : k0 + 8 * i = m at t3 t7 hst ⊢
      have w1 : IntKind.wrap .i64 ((m : Int) + 1) = ((m + 1 : Nat) : Int) := wsuc (by omega)
      have w2 : IntKind.wrap .i64 (((m + 1 : Nat) : Int) + 1) = ((m + 2 : Nat) : Int) := wsuc (by omega)
      have w3 : IntKind.wrap .i64 (((m + 2 : Nat) : Int) + 1) = ((m + 3 : Nat) : Int) := wsuc (by omega)
      have w4 : IntKind.wrap .i64 (((m + 3 : Nat) : Int) + 1) = ((m + 4 : Nat) : Int) := wsuc (by omega)
      have w5 : IntKind.wrap .i64 (((m + 4 : Nat) : Int) + 1) = ((m + 5 : Nat) : Int) := wsuc (by omega)
      have w6 : IntKind.wrap .i64 (((m + 5 : Nat) : Int) + 1) = ((m + 6 : Nat) : Int) := wsuc (by omega)
      have w7 : IntKind.wrap .i64 (((m + 6 : Nat) : Int) + 1) = ((m + 7 : Nat) : Int) := wsuc (by omega)
      have w8 : IntKind.wrap .i64 (((m + 7 : Nat) : Int) + 1) = ((k0 + 8 * (i + 1) : Nat) : Int) := by rw [wsuc (by omega)]; congr 1; omega
      conv => lhs; unfold laws_markCmdS.l0
      rw [hlen, decide_eq_true (by omega : (i : Int) < (l.length : Int))]
      generalize (List.range i).map (fun (i : Nat) => cmdMark (k0 + 8 * i)) ++ l.drop i = x at hlen hst ⊢
      have hx : i < x.length := by rw [hlen]; exact hi
      simp only [cond_true, Int.toNat_natCast, at_nat hx, Option.bind_some, at_set hx, List.set_set, w1, w2, w3, w4, w5, w6, w7, w8, t3, t7]
      rw [wsuc (by omega), ← hst]
      rfl
    · conv => lhs; unfold laws_markCmdS.l0
      have hlen := mark_len l (fun (i : Nat) => cmdMark (k0 + 8 * i)) l.length (Nat.le_refl _)
      rw [hlen, decide_eq_false (by omega : ¬ ((l.length : Int) < (l.length : Int)))]
      simp only [cond_false]
      rw [List.drop_length, List.append_nil]
      rfl
  refine key.mono fun k hk => ?_
  unfold laws_markCmdS
  rw [hk]
  rfl
theorem heldCmdS_eq (n k0 : Nat) (h : k0 + 8 * n < 9223372036854775000) : Ever fun k => laws_heldCmdS k (cmdMarks n k0) (k0 : Int) = some ((k0 + 8 * n : Nat) : Int) := by
  have hm := cmdTexts n k0 h
  have hl : (cmdMarks n k0).length = n := by simp [cmdMarks]
  have key : Ever fun k => laws_heldCmdS.l0 k k (cmdMarks n k0) (k0 : Int) 0 = some (.inl ((k0 + 8 * n : Nat) : Int)) := by
    refine ever_loop (fun k j i => laws_heldCmdS.l0 k j (cmdMarks n k0) ((k0 + 8 * i : Nat) : Int) (i : Int)) n _ (hm.mono fun k hk i hi j => ?_) (Ever.of fun k j => ?_)
    · obtain ⟨t3, t7⟩ := hk i hi
      have e : at? (cmdMarks n k0) (i : Int) = some (cmdMark (k0 + 8 * i)) := by
        rw [at_nat (by rw [hl]; exact hi)]
        simp [cmdMarks]
      generalize hm : k0 + 8 * i = m at t3 t7 e ⊢
      have w1 : IntKind.wrap .i64 ((m : Int) + 1) = ((m + 1 : Nat) : Int) := wsuc (by omega)
      have w2 : IntKind.wrap .i64 (((m + 1 : Nat) : Int) + 1) = ((m + 2 : Nat) : Int) := wsuc (by omega)
      have w3 : IntKind.wrap .i64 (((m + 2 : Nat) : Int) + 1) = ((m + 3 : Nat) : Int) := wsuc (by omega)
      have w4 : IntKind.wrap .i64 (((m + 3 : Nat) : Int) + 1) = ((m + 4 : Nat) : Int) := wsuc (by omega)
      have w5 : IntKind.wrap .i64 (((m + 4 : Nat) : Int) + 1) = ((m + 5 : Nat) : Int) := wsuc (by omega)
      have w6 : IntKind.wrap .i64 (((m + 5 : Nat) : Int) + 1) = ((m + 6 : Nat) : Int) := wsuc (by omega)
      have w7 : IntKind.wrap .i64 (((m + 6 : Nat) : Int) + 1) = ((m + 7 : Nat) : Int) := wsuc (by omega)
      have w8 : IntKind.wrap .i64 (((m + 7 : Nat) : Int) + 1) = ((k0 + 8 * (i + 1) : Nat) : Int) := by rw [wsuc (by omega)]; congr 1; omega
      conv => lhs; unfold laws_heldCmdS.l0
      rw [hl, decide_eq_true (by omega : (i : Int) < (n : Int))]
      simp only [cond_true, e, Option.bind_some, cmdMark, w1, w2, w3, w4, w5, w6, w7, w8, t3, t7, bne_self_eq_false, beq_self_str, Bool.not_true, cond_false]
      rw [wsuc (by omega)]
    · conv => lhs; unfold laws_heldCmdS.l0
      rw [hl, decide_eq_false (by omega : ¬ ((n : Int) < (n : Int)))]
      rfl
  refine key.mono fun k hk => ?_
  unfold laws_heldCmdS
  rw [hk]
  rfl
theorem eqStep_self (a : G66) : laws_eqStep a a = some true := by
  unfold laws_eqStep
  simp only [bne_self_eq_false, beq_self_str, Bool.not_true, cond_false]
theorem eqCmd_self (a : G169) : laws_eqCmd a a = some true := by
  unfold laws_eqCmd
  rw [eqStep_self]
  simp only [bne_self_eq_false, beq_self_str, Bool.not_true, cond_false, Option.bind_some]
theorem eqCmdS_self (l : List G169) (h : l.length < 9223372036854775807) : Ever fun k => laws_eqCmdS k l l = some true := by
  have key : Ever fun k => laws_eqCmdS.l0 k l l 0 = some (.inl ()) := by
    refine loop_of (fun j i => laws_eqCmdS.l0 j l l (i : Int)) l.length _ (fun i hi j => ?_) fun j => ?_
    · conv => lhs; unfold laws_eqCmdS.l0
      rw [decide_eq_true (by omega : (i : Int) < (l.length : Int))]
      simp only [cond_true]
      rw [at_nat hi]
      simp only [Option.bind_some, eqCmd_self, Bool.not_true, cond_false]
      rw [wsuc (by omega)]
    · conv => lhs; unfold laws_eqCmdS.l0
      rw [decide_eq_false (by omega : ¬ ((l.length : Int) < (l.length : Int)))]
      rfl
  refine key.mono fun k hk => ?_
  unfold laws_eqCmdS
  rw [hk]
  simp
end Go.Proofs.YtnmbinfgcgjfbaaE
