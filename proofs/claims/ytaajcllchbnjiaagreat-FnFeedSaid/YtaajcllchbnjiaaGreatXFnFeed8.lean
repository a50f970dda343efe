/- What the law FnFeed needs, part 9 of 11: the Lean functions of the Go functions that it reaches, with the proofs that the calls come to what they say, and plain facts about them. Conditions: those that each theorem states. Written by a session and by its programs (after the kit's printer). -/
import Derived.Laws.BitsLemmas
import Derived.Test.YtaajcllchbnjiaaGreatXFnFeed5
import Derived.Test.YtaajcllchbnjiaaGreatXFnFeed7
namespace Go.Proofs.YtaajcllchbnjiaaGreatE
open Go Go.RowKit
set_option linter.unusedVariables false
def impl_headRead (k : Nat) (a1 : Str) : Option (Int × Int × Int × Str × Int) :=
  Option.bind (impl_unseal k a1) fun v2 =>
  bif v2.2 != 0 then
    some (0, 0, 0, [], v2.2)
  else
  Option.bind (impl_reader_num k (v2.1, (0, false))) fun v3 =>
  Option.bind (impl_reader_num k v3.2) fun v4 =>
  Option.bind (impl_reader_num k v4.2) fun v5 =>
  Option.bind (impl_reader_word k v5.2) fun v6 =>
  bif v6.2.2.2 || (v6.2.2.1 != ((v2.1.length) : Int)) then
    some (0, 0, 0, [], 3)
  else
  Option.bind (impl_isHead (v3.1, (v4.1, (v5.1, v6.1)))) fun v7 =>
  bif !v7 then
    some (0, 0, 0, [], 3)
  else
  some (v3.1, v4.1, v5.1, v6.1, 0)
def impl_headRead.sig : Sig := { ps := [.val false .str (ros .str)], rs := [.val true [.v (.int .i64), .v (.int .i64), .v (.int .i64), .v .str], .val false [.v (.int .i64)]], ntmps := 49 }
def impl_headRead.con (k : Nat) : Con := impl_headRead.sig.con (fun x => impl_headRead k x)
def impl_headRead.C (k : Nat) : Ctx := { ti := TAB, con := conL [(34, impl_isHead.con k), (79, impl_unseal.con k), (80, impl_reader_num.con k), (81, impl_reader_word.con k)] }
theorem impl_headRead.cok (k : Nat) : CtxOk Tryz.prog (impl_headRead.C k) := ctx_ok TABok ⟨impl_isHead.ok k, impl_unseal.ok k, impl_reader_num.ok k, impl_reader_word.ok k, trivial⟩
theorem impl_headRead.ev (k : Nat) (x : Prod' impl_headRead.sig.ins) : impl_headRead.sig.ev (impl_headRead.C k) .auto Tryz.f49.results.toList (cB Tryz.f49) x = impl_headRead k x := by kernel_rfl
theorem impl_headRead.ok (k : Nat) : ConOk Tryz.prog 49 (impl_headRead.con k) := sig_ok (p := .auto) (impl_headRead.cok k) Tryz.func49 (by kernel_rfl) (show Tryz.f49.body = some (cB Tryz.f49) by kernel_rfl) (by kernel_rfl) (by kernel_rfl) (plan_of (L := []) (by kernel_rfl) trivial) (fun x y h => (impl_headRead.ev k x).trans h)
def impl_reader_step (k : Nat) (a1 : G78) : Option (Int × Int × Int × Str × Str × Int × Bool) :=
  Option.bind (impl_reader_num k a1) fun v2 =>
  Option.bind (impl_reader_num k v2.2) fun v3 =>
  Option.bind (impl_reader_num k v3.2) fun v4 =>
  Option.bind (impl_reader_word k v4.2) fun v5 =>
  some (v2.1, v3.1, v4.1, v5.1, v5.2.1, v5.2.2.1, v5.2.2.2)
def impl_reader_step.sig : Sig := { ps := [.ref 122 T78 (kept T78)], rs := [.val true [.v (.int .i64), .v (.int .i64), .v (.int .i64), .v .str]], ntmps := 12 }
def impl_reader_step.con (k : Nat) : Con := impl_reader_step.sig.con (fun x => impl_reader_step k x)
def impl_reader_step.C (k : Nat) : Ctx := { ti := TAB, con := conL [(80, impl_reader_num.con k), (81, impl_reader_word.con k)] }
theorem impl_reader_step.cok (k : Nat) : CtxOk Tryz.prog (impl_reader_step.C k) := ctx_ok TABok ⟨impl_reader_num.ok k, impl_reader_word.ok k, trivial⟩
theorem impl_reader_step.ev (k : Nat) (x : Prod' impl_reader_step.sig.ins) : impl_reader_step.sig.ev (impl_reader_step.C k) .auto Tryz.f114.results.toList (cB Tryz.f114) x = impl_reader_step k x := by kernel_rfl
theorem impl_reader_step.ok (k : Nat) : ConOk Tryz.prog 114 (impl_reader_step.con k) := sig_ok (p := .auto) (impl_reader_step.cok k) Tryz.func114 (by kernel_rfl) (show Tryz.f114.body = some (cB Tryz.f114) by kernel_rfl) (by kernel_rfl) (by kernel_rfl) (plan_of (L := []) (by kernel_rfl) trivial) (fun x y h => (impl_reader_step.ev k x).trans h)
def impl_stepRead (k : Nat) (a1 : Str) : Option (Int × Int × Int × Str × Bool) :=
  Option.bind (impl_reader_step k (a1, (0, false))) fun v2 =>
  bif v2.2.2.2.2.2.2 || (v2.2.2.2.2.2.1 != ((a1.length) : Int)) then
    some (0, 0, 0, [], false)
  else
  Option.bind (impl_isStep (v2.1, (v2.2.1, (v2.2.2.1, v2.2.2.2.1))) 8) fun v3 =>
  bif !v3 then
    some (0, 0, 0, [], false)
  else
  some (v2.1, v2.2.1, v2.2.2.1, v2.2.2.2.1, true)
def impl_stepRead.sig : Sig := { ps := [.val false .str (ros .str)], rs := [.val true [.v (.int .i64), .v (.int .i64), .v (.int .i64), .v .str], .val false [.v .bool]], ntmps := 31 }
def impl_stepRead.con (k : Nat) : Con := impl_stepRead.sig.con (fun x => impl_stepRead k x)
def impl_stepRead.C (k : Nat) : Ctx := { ti := TAB, con := conL [(92, impl_isStep.con k), (114, impl_reader_step.con k)] }
theorem impl_stepRead.cok (k : Nat) : CtxOk Tryz.prog (impl_stepRead.C k) := ctx_ok TABok ⟨impl_isStep.ok k, impl_reader_step.ok k, trivial⟩
theorem impl_stepRead.ev (k : Nat) (x : Prod' impl_stepRead.sig.ins) : impl_stepRead.sig.ev (impl_stepRead.C k) .auto Tryz.f99.results.toList (cB Tryz.f99) x = impl_stepRead k x := by kernel_rfl
theorem impl_stepRead.ok (k : Nat) : ConOk Tryz.prog 99 (impl_stepRead.con k) := sig_ok (p := .auto) (impl_stepRead.cok k) Tryz.func99 (by kernel_rfl) (show Tryz.f99.body = some (cB Tryz.f99) by kernel_rfl) (by kernel_rfl) (by kernel_rfl) (plan_of (L := []) (by kernel_rfl) trivial) (fun x y h => (impl_stepRead.ev k x).trans h)
def impl_FeedOut_take (k : Nat) (a1 : G40) (a2 : Str) (a3 : Bool) : Option (Bool × Int × Int × Int × Str × Int × Str × List G51 × Int) :=
  let e4 := (0, (0, (0, [])))
  bif !a3 then
    Option.bind (impl_headRead k a2) fun v5 =>
    Option.bind (app? 80 a1.2.1 [(1, (v5.2.1, (v5.2.2.1, (v5.2.2.2.1, e4))))]) fun v6 =>
    some (v5.2.2.2.2 == 0, v5.1, v5.2.1, v5.2.2.1, v5.2.2.2.1, a1.1.2.1, a1.1.2.2, v6, a1.2.2)
  else
  Option.bind (impl_unseal k a2) fun v7 =>
  Option.bind (impl_stepRead k v7.1) fun v8 =>
  bif v7.2 != 0 then
    some (false, a1.1.1.1, a1.1.1.2.1, a1.1.1.2.2.1, a1.1.1.2.2.2, a1.1.2.1, a1.1.2.2, a1.2.1, a1.2.2)
  else
  bif !v8.2.2.2.2 then
    some (false, a1.1.1.1, a1.1.1.2.1, a1.1.1.2.2.1, a1.1.1.2.2.2, a1.1.2.1, a1.1.2.2, a1.2.1, a1.2.2)
  else
  let e9 := (v8.1, (v8.2.1, (v8.2.2.1, v8.2.2.2.1)))
  Option.bind (impl_isStep e9 a1.1.1.1) fun v10 =>
  bif !v10 then
    some (false, a1.1.1.1, a1.1.1.2.1, a1.1.1.2.2.1, a1.1.1.2.2.2, a1.1.2.1, a1.1.2.2, a1.2.1, a1.2.2)
  else
  Option.bind (app? 80 a1.2.1 ([(2, (0, (0, ([], e9))))])) fun v11 =>
  let e12 := IntKind.wrap .i64 (a1.1.2.1 + 1)
  bif e12 == a1.1.1.2.1 then
    Option.bind (app? 80 v11 ([(3, (0, (0, ([], e4))))])) fun v13 =>
    some (true, a1.1.1.1, a1.1.1.2.1, a1.1.1.2.2.1, a1.1.1.2.2.2, e12, a1.1.2.2, v13, a1.2.2)
  else
  some (true, a1.1.1.1, a1.1.1.2.1, a1.1.1.2.2.1, a1.1.1.2.2.2, e12, a1.1.2.2, v11, a1.2.2)
def impl_FeedOut_take.sig : Sig := { ps := [.ref 40 T40 [.v, .v, .v, .v, .v, .v, .own 51, .v], .val false .str (ros .str), .val false .bool (ros .bool)], rs := [.val false [.v .bool]], ntmps := 112 }
def impl_FeedOut_take.con (k : Nat) : Con := impl_FeedOut_take.sig.con (fun x => impl_FeedOut_take k x.1 x.2.1 x.2.2)
def impl_FeedOut_take.C (k : Nat) : Ctx := { ti := TAB, con := conL [(49, impl_headRead.con k), (79, impl_unseal.con k), (92, impl_isStep.con k), (99, impl_stepRead.con k)] }
theorem impl_FeedOut_take.cok (k : Nat) : CtxOk Tryz.prog (impl_FeedOut_take.C k) := ctx_ok TABok ⟨impl_headRead.ok k, impl_unseal.ok k, impl_isStep.ok k, impl_stepRead.ok k, trivial⟩
theorem impl_FeedOut_take.ev (k : Nat) (x : Prod' impl_FeedOut_take.sig.ins) : impl_FeedOut_take.sig.ev (impl_FeedOut_take.C k) .auto Tryz.f74.results.toList (cB Tryz.f74) x = impl_FeedOut_take k x.1 x.2.1 x.2.2 := by kernel_rfl
theorem impl_FeedOut_take.ok (k : Nat) : ConOk Tryz.prog 74 (impl_FeedOut_take.con k) := sig_ok (p := .auto) (impl_FeedOut_take.cok k) Tryz.func74 (by kernel_rfl) (show Tryz.f74.body = some (cB Tryz.f74) by kernel_rfl) (by kernel_rfl) (by kernel_rfl) (plan_of (L := []) (by kernel_rfl) trivial) (fun x y h => (impl_FeedOut_take.ev k x).trans h)
def impl_feedPut.l0 (k : Nat) : Nat → Str → Int → Int → Int → Int → Str → Int → Str → Int → Int → Int → Int → Str → Int → Str → Int → List G51 → List G51 → Option ((Int × Int × Int × Int × Str × Int × Str × Int × Int × Int × Int × Str × Int × Str × Int × List G51 × List G51) ⊕ (Int × Int × Int × Str × Int × Str × Int × Int × Int × Int × Str × Int × Str × Int × List G51 × List G51))
  | 0, _, _, _, _, _, _, _, _, _, _, _, _, _, _, _, _, _, _ => none
  | j + 1, a1, a2, a3, a4, a5, a6, a7, a8, a9, a10, a11, a12, a13, a14, a15, a16, a17, a18 =>
    bif decide (a2 < ((a1.length) : Int)) then
      let e19 := !((a10 == 0) && ((a11 == 0) && ((a12 == 0) && (a13 == []))))
      bif e19 && (a14 == a11) then
        some (.inr (0, 0, 0, [], 0, [], 3, a10, a11, a12, a13, a14, a15, a16, [], a18))
      else
      Option.bind (impl_getText k a1 a2) fun v20 =>
      bif v20.2.2 == 4 then
        some (.inl (a2, a3, a4, a5, a6, a7, a8, a9, a10, a11, a12, a13, a14, a15, a16, a17, a18))
      else
      bif v20.2.2 != 0 then
        some (.inr (0, 0, 0, [], 0, [], 3, a10, a11, a12, a13, a14, a15, a16, [], a18))
      else
      Option.bind (impl_FeedOut_take k (((a10, (a11, (a12, a13))), (a14, a15)), (a18, a16)) v20.1 e19) fun v21 =>
      bif !v21.1 then
        some (.inr (0, 0, 0, [], 0, [], 3, v21.2.1, v21.2.2.1, v21.2.2.2.1, v21.2.2.2.2.1, v21.2.2.2.2.2.1, v21.2.2.2.2.2.2.1, v21.2.2.2.2.2.2.2.2, [], v21.2.2.2.2.2.2.2.1))
      else
      impl_feedPut.l0 k j a1 v20.2.1 a3 a4 a5 a6 a7 a8 a9 v21.2.1 v21.2.2.1 v21.2.2.2.1 v21.2.2.2.2.1 v21.2.2.2.2.2.1 v21.2.2.2.2.2.2.1 v21.2.2.2.2.2.2.2.2 a17 v21.2.2.2.2.2.2.2.1
    else
    some (.inl (a2, a3, a4, a5, a6, a7, a8, a9, a10, a11, a12, a13, a14, a15, a16, a17, a18))
def impl_feedPut (k : Nat) (a1 : G31) (a2 : Str) : Option (Int × Int × Int × Str × Int × Str × List G51 × Int) :=
  Option.bind (impl_feedPut.l0 k k a2 0 0 0 0 [] 0 [] 0 a1.1.1 a1.1.2.1 a1.1.2.2.1 a1.1.2.2.2 a1.2.1 [] 0 [] []) fun
    | .inl y3 =>
      Option.bind (cut? a2 y3.1 ((a2.length) : Int)) fun v4 =>
      bif decide (500 < ((v4.length) : Int)) then
        some (0, 0, 0, [], 0, [], [], 3)
      else
      some (y3.2.2.2.2.2.2.2.2.1, y3.2.2.2.2.2.2.2.2.2.1, y3.2.2.2.2.2.2.2.2.2.2.1, y3.2.2.2.2.2.2.2.2.2.2.2.1, y3.2.2.2.2.2.2.2.2.2.2.2.2.1, v4, y3.2.2.2.2.2.2.2.2.2.2.2.2.2.2.2.2, y3.2.2.2.2.2.2.2.2.2.2.2.2.2.2.1)
    | .inr y5 =>
      some (y5.1, y5.2.1, y5.2.2.1, y5.2.2.2.1, y5.2.2.2.2.1, y5.2.2.2.2.2.1, y5.2.2.2.2.2.2.2.2.2.2.2.2.2.2.1, y5.2.2.2.2.2.2.1)
def impl_feedPut.sig : Sig := { ps := [.val true T31 (ros T31), .val false .str (ros .str)], rs := [.val true [.v (.int .i64), .v (.int .i64), .v (.int .i64), .v .str, .v (.int .i64), .v .str, .own 51 T51, .v (.int .i64)]], ntmps := 69 }
def impl_feedPut.con (k : Nat) : Con := impl_feedPut.sig.con (fun x => impl_feedPut k x.1 x.2)
def impl_feedPut.C (k : Nat) : Ctx := { ti := TAB, con := conL [(73, impl_getText.con k), (74, impl_FeedOut_take.con k)] }
theorem impl_feedPut.cok (k : Nat) : CtxOk Tryz.prog (impl_feedPut.C k) := ctx_ok TABok ⟨impl_getText.ok k, impl_FeedOut_take.ok k, trivial⟩
def impl_feedPut.l0.ish : Shape := { tmps := [(1, .one (.v .str)), (4, .one (.ptr 1 0)), (5, .one (.ptr 2 0)), (6, .one (.v (.int .i64)))], slots := [(1, .box 40 [.v (.int .i64), .v (.int .i64), .v (.int .i64), .v .str, .v (.int .i64), .v .str, .own 3, .v (.int .i64)]), (2, .box 40 [.v (.int .i64), .v (.int .i64), .v (.int .i64), .v .str, .v (.int .i64), .v .str, .own 4, .v (.int .i64)]), (3, .arr false 51 T51), (4, .arr false 51 T51)], nb := 5 }
def impl_feedPut.l0.outs : List (Ex × Shape) := [(.exit 0, { tmps := [(6, .one (.v (.int .i64)))], slots := [(1, .box 40 [.v (.int .i64), .v (.int .i64), .v (.int .i64), .v .str, .v (.int .i64), .v .str, .own 5, .v (.int .i64)]), (2, .box 40 [.v (.int .i64), .v (.int .i64), .v (.int .i64), .v .str, .v (.int .i64), .v .str, .own 6, .v (.int .i64)]), (5, .arr false 51 T51), (6, .arr false 51 T51)], nb := 7 }), (.ret, { tmps := [], slots := [(1, .box 40 [.v (.int .i64), .v (.int .i64), .v (.int .i64), .v .str, .v (.int .i64), .v .str, .own 5, .v (.int .i64)]), (2, .box 40 [.v (.int .i64), .v (.int .i64), .v (.int .i64), .v .str, .v (.int .i64), .v .str, .own 6, .v (.int .i64)]), (5, .arr false 51 T51), (6, .arr false 51 T51)], nb := 7 })]
def impl_feedPut.l0.F (k j : Nat) (x : Prod' impl_feedPut.l0.ish.tys) : Option (Outs impl_feedPut.l0.outs) := impl_feedPut.l0 k j x.1 x.2.1 x.2.2.1 x.2.2.2.1 x.2.2.2.2.1 x.2.2.2.2.2.1 x.2.2.2.2.2.2.1 x.2.2.2.2.2.2.2.1 x.2.2.2.2.2.2.2.2.1 x.2.2.2.2.2.2.2.2.2.1 x.2.2.2.2.2.2.2.2.2.2.1 x.2.2.2.2.2.2.2.2.2.2.2.1 x.2.2.2.2.2.2.2.2.2.2.2.2.1 x.2.2.2.2.2.2.2.2.2.2.2.2.2.1 x.2.2.2.2.2.2.2.2.2.2.2.2.2.2.1 x.2.2.2.2.2.2.2.2.2.2.2.2.2.2.2.1 x.2.2.2.2.2.2.2.2.2.2.2.2.2.2.2.2.1 x.2.2.2.2.2.2.2.2.2.2.2.2.2.2.2.2.2
def impl_feedPut.l0.s (k : Nat) : Summ := { n := 69, ish := impl_feedPut.l0.ish, outs := impl_feedPut.l0.outs, f := impl_feedPut.l0.F k k }
theorem impl_feedPut.l0.ev (k j : Nat) (x : Prod' impl_feedPut.l0.ish.tys) : V (impl_feedPut.C k) .auto (cO (cO (cL (cR (cR (cR (cB Tryz.f44))))))) (mk impl_feedPut.l0.ish 69 x) (fun e st' => match e with | .nrm => (rd impl_feedPut.l0.ish st').bind (impl_feedPut.l0.F k j) | e => rdOut e st' impl_feedPut.l0.outs) = impl_feedPut.l0.F k (j + 1) x := by kernel_rfl
theorem impl_feedPut.l0.ok (k : Nat) : SumOk Tryz.prog (impl_feedPut.C k) (.loop (cO (cO (cL (cR (cR (cR (cB Tryz.f44)))))))) (impl_feedPut.l0.s k) := sum_ok (by kernel_rfl) (sum_loop (p := .auto) (F := impl_feedPut.l0.F k) (impl_feedPut.cok k) (by kernel_rfl) (plan_of (L := []) (by kernel_rfl) trivial) (fun _ => rfl) (fun j x y h => (impl_feedPut.l0.ev k j x).trans h) k rfl)
theorem impl_feedPut.ev (k : Nat) (x : Prod' impl_feedPut.sig.ins) : impl_feedPut.sig.ev (impl_feedPut.C k) (.two .auto (.two .auto (.two .auto (.two (.one (.sum (impl_feedPut.l0.s k))) .auto)))) Tryz.f44.results.toList (cB Tryz.f44) x = impl_feedPut k x.1 x.2 := by kernel_rfl
theorem impl_feedPut.ok (k : Nat) : ConOk Tryz.prog 44 (impl_feedPut.con k) := sig_ok (p := (.two .auto (.two .auto (.two .auto (.two (.one (.sum (impl_feedPut.l0.s k))) .auto))))) (impl_feedPut.cok k) Tryz.func44 (by kernel_rfl) (show Tryz.f44.body = some (cB Tryz.f44) by kernel_rfl) (by kernel_rfl) (by kernel_rfl) (plan_of (L := [(impl_feedPut.l0.s k, cO (cL (cR (cR (cR (cB Tryz.f44))))))]) (by kernel_rfl) ⟨impl_feedPut.l0.ok k, trivial⟩) (fun x y h => (impl_feedPut.ev k x).trans h)
def impl_FeedPut (k : Nat) (a1 : G31) (a2 : Str) : Option (Int × Int × Int × Str × Int × Str × List G51 × Int) :=
  bif decide (8000 < ((a2.length) : Int)) then
    some (0, 0, 0, [], 0, [], [], 2)
  else
  Option.bind (impl_isFeed a1) fun v3 =>
  bif !v3 then
    some (0, 0, 0, [], 0, [], [], 1)
  else
  bif decide (8000 < (IntKind.wrap .i64 (((a1.2.2.length) : Int) + ((a2.length) : Int)))) then
    some (0, 0, 0, [], 0, [], [], 2)
  else
  Option.bind (cat? a1.2.2 a2) fun v4 =>
  Option.bind (impl_feedPut k a1 v4) fun v5 =>
  some (v5.1, v5.2.1, v5.2.2.1, v5.2.2.2.1, v5.2.2.2.2.1, v5.2.2.2.2.2.1, v5.2.2.2.2.2.2.1, v5.2.2.2.2.2.2.2)
def impl_FeedPut.sig : Sig := { ps := [.val true T31 (ros T31), .val false .str (ros .str)], rs := [.val true [.v (.int .i64), .v (.int .i64), .v (.int .i64), .v .str, .v (.int .i64), .v .str, .own 51 T51, .v (.int .i64)]], ntmps := 30 }
def impl_FeedPut.con (k : Nat) : Con := impl_FeedPut.sig.con (fun x => impl_FeedPut k x.1 x.2)
def impl_FeedPut.C (k : Nat) : Ctx := { ti := TAB, con := conL [(43, impl_isFeed.con k), (44, impl_feedPut.con k)] }
theorem impl_FeedPut.cok (k : Nat) : CtxOk Tryz.prog (impl_FeedPut.C k) := ctx_ok TABok ⟨impl_isFeed.ok k, impl_feedPut.ok k, trivial⟩
theorem impl_FeedPut.ev (k : Nat) (x : Prod' impl_FeedPut.sig.ins) : impl_FeedPut.sig.ev (impl_FeedPut.C k) .auto Tryz.f12.results.toList (cB Tryz.f12) x = impl_FeedPut k x.1 x.2 := by kernel_rfl
theorem impl_FeedPut.ok (k : Nat) : ConOk Tryz.prog 12 (impl_FeedPut.con k) := sig_ok (p := .auto) (impl_FeedPut.cok k) Tryz.func12 (by kernel_rfl) (show Tryz.f12.body = some (cB Tryz.f12) by kernel_rfl) (by kernel_rfl) (by kernel_rfl) (plan_of (L := []) (by kernel_rfl) trivial) (fun x y h => (impl_FeedPut.ev k x).trans h)
def impl_FeedRight (a1 : G31) : Option (Bool) :=
  Option.bind (impl_isFeed a1) fun v2 =>
  some v2
def impl_FeedRight.sig : Sig := { ps := [.val true T31 (ros T31)], rs := [.val false [.v .bool]], ntmps := 5 }
def impl_FeedRight.con (k : Nat) : Con := impl_FeedRight.sig.con (fun x => impl_FeedRight x)
def impl_FeedRight.C (k : Nat) : Ctx := { ti := TAB, con := conL [(43, impl_isFeed.con k)] }
theorem impl_FeedRight.cok (k : Nat) : CtxOk Tryz.prog (impl_FeedRight.C k) := ctx_ok TABok ⟨impl_isFeed.ok k, trivial⟩
theorem impl_FeedRight.ev (k : Nat) (x : Prod' impl_FeedRight.sig.ins) : impl_FeedRight.sig.ev (impl_FeedRight.C k) .auto Tryz.f14.results.toList (cB Tryz.f14) x = impl_FeedRight x := by kernel_rfl
theorem impl_FeedRight.ok (k : Nat) : ConOk Tryz.prog 14 (impl_FeedRight.con k) := sig_ok (p := .auto) (impl_FeedRight.cok k) Tryz.func14 (by kernel_rfl) (show Tryz.f14.body = some (cB Tryz.f14) by kernel_rfl) (by kernel_rfl) (by kernel_rfl) (plan_of (L := []) (by kernel_rfl) trivial) (fun x y h => (impl_FeedRight.ev k x).trans h)
def impl_HeadRead (k : Nat) (a1 : Str) : Option (Int × Int × Int × Str × Int) :=
  bif decide (8000 < ((a1.length) : Int)) then
    some (0, 0, 0, [], 2)
  else
  Option.bind (impl_headRead k a1) fun v2 =>
  some (v2.1, v2.2.1, v2.2.2.1, v2.2.2.2.1, v2.2.2.2.2)
def impl_HeadRead.sig : Sig := { ps := [.val false .str (ros .str)], rs := [.val true [.v (.int .i64), .v (.int .i64), .v (.int .i64), .v .str, .v (.int .i64)]], ntmps := 17 }
def impl_HeadRead.con (k : Nat) : Con := impl_HeadRead.sig.con (fun x => impl_HeadRead k x)
def impl_HeadRead.C (k : Nat) : Ctx := { ti := TAB, con := conL [(49, impl_headRead.con k)] }
theorem impl_HeadRead.cok (k : Nat) : CtxOk Tryz.prog (impl_HeadRead.C k) := ctx_ok TABok ⟨impl_headRead.ok k, trivial⟩
theorem impl_HeadRead.ev (k : Nat) (x : Prod' impl_HeadRead.sig.ins) : impl_HeadRead.sig.ev (impl_HeadRead.C k) .auto Tryz.f17.results.toList (cB Tryz.f17) x = impl_HeadRead k x := by kernel_rfl
theorem impl_HeadRead.ok (k : Nat) : ConOk Tryz.prog 17 (impl_HeadRead.con k) := sig_ok (p := .auto) (impl_HeadRead.cok k) Tryz.func17 (by kernel_rfl) (show Tryz.f17.body = some (cB Tryz.f17) by kernel_rfl) (by kernel_rfl) (by kernel_rfl) (plan_of (L := []) (by kernel_rfl) trivial) (fun x y h => (impl_HeadRead.ev k x).trans h)
def impl_HeadRight (a1 : G29) : Option (Bool) :=
  Option.bind (impl_isHead a1) fun v2 =>
  some v2
def impl_HeadRight.sig : Sig := { ps := [.val true T29 (ros T29)], rs := [.val false [.v .bool]], ntmps := 5 }
def impl_HeadRight.con (k : Nat) : Con := impl_HeadRight.sig.con (fun x => impl_HeadRight x)
def impl_HeadRight.C (k : Nat) : Ctx := { ti := TAB, con := conL [(34, impl_isHead.con k)] }
theorem impl_HeadRight.cok (k : Nat) : CtxOk Tryz.prog (impl_HeadRight.C k) := ctx_ok TABok ⟨impl_isHead.ok k, trivial⟩
theorem impl_HeadRight.ev (k : Nat) (x : Prod' impl_HeadRight.sig.ins) : impl_HeadRight.sig.ev (impl_HeadRight.C k) .auto Tryz.f19.results.toList (cB Tryz.f19) x = impl_HeadRight x := by kernel_rfl
theorem impl_HeadRight.ok (k : Nat) : ConOk Tryz.prog 19 (impl_HeadRight.con k) := sig_ok (p := .auto) (impl_HeadRight.cok k) Tryz.func19 (by kernel_rfl) (show Tryz.f19.body = some (cB Tryz.f19) by kernel_rfl) (by kernel_rfl) (by kernel_rfl) (plan_of (L := []) (by kernel_rfl) trivial) (fun x y h => (impl_HeadRight.ev k x).trans h)
def laws_lwAt (a1 : List Int) (a2 : Int) (a3 : Int) : Option (Int) :=
  bif (decide (a3 ≤ 1)) || (((a1.length) : Int) == 0) then
    some 0
  else
  Option.bind (nz? ((a1.length) : Int)) fun v4 =>
  Option.bind (at? a1 (Int.tmod a2 ((a1.length) : Int))) fun v5 =>
  Option.bind (nz? a3) fun v6 =>
  some (Int.tmod (IntKind.wrap .i64 v5) a3)
def laws_lwAt.sig : Sig := { ps := [.val false (.sl (.int .u8)) (ros (.sl (.int .u8))), .val false (.int .i64) (ros (.int .i64)), .val false (.int .i64) (ros (.int .i64))], rs := [.val false [.v (.int .i64)]], ntmps := 24 }
def laws_lwAt.con (k : Nat) : Con := laws_lwAt.sig.con (fun x => laws_lwAt x.1 x.2.1 x.2.2)
def laws_lwAt.C (k : Nat) : Ctx := { ti := TAB, con := conL [] }
theorem laws_lwAt.cok (k : Nat) : CtxOk Tryz.prog (laws_lwAt.C k) := ctx_ok TABok trivial
theorem laws_lwAt.ev (k : Nat) (x : Prod' laws_lwAt.sig.ins) : laws_lwAt.sig.ev (laws_lwAt.C k) .auto Tryz.f21.results.toList (cB Tryz.f21) x = laws_lwAt x.1 x.2.1 x.2.2 := by kernel_rfl
theorem laws_lwAt.ok (k : Nat) : ConOk Tryz.prog 21 (laws_lwAt.con k) := sig_ok (p := .auto) (laws_lwAt.cok k) Tryz.func21 (by kernel_rfl) (show Tryz.f21.body = some (cB Tryz.f21) by kernel_rfl) (by kernel_rfl) (by kernel_rfl) (plan_of (L := []) (by kernel_rfl) trivial) (fun x y h => (laws_lwAt.ev k x).trans h)
def laws_FnFeed.l0 : Nat → Int → Int → Str → List G51 → List G29 → Option ((Int × Str × List G29) ⊕ (Bool × Int × Str × List G29))
  | 0, _, _, _, _, _ => none
  | j + 1, a1, a2, a3, a4, a5 =>
    bif decide (a1 < ((a5.length) : Int)) then
      let e6 := IntKind.wrap .i64 (a1 + 1)
      let e7 := at? a4 e6
      Option.bind (e7) fun v8 =>
      Option.bind (e7) fun v9 =>
      Option.bind (at? a5 a1) fun v10 =>
      Option.bind (at? a5 a1) fun v11 =>
      bif !((v9.1 == 2) && ((v9.2.1 == 0) && ((v9.2.2.1 == 0) && ((v9.2.2.2.1 == []) && ((v9.2.2.2.2.1 == v11.1) && ((v9.2.2.2.2.2.1 == v11.2.1) && ((v9.2.2.2.2.2.2.1 == v11.2.2.1) && (v9.2.2.2.2.2.2.2 == v11.2.2.2)))))))) then
        some (.inr (false, a2, a3, a5))
      else
      laws_FnFeed.l0 j e6 a2 a3 a4 a5
    else
    some (.inl (a2, a3, a5))
def laws_FnFeed (k : Nat) (a1 : List Int) (a2 : List Int) : Option (Bool) :=
  bif (decide (1048576 < ((a1.length) : Int))) || (decide (1048576 < ((a2.length) : Int))) then
    some true
  else
  Option.bind (spec_DrawStreamOf k a1) fun v3 =>
  Option.bind (impl_StreamOf k v3) fun v4 =>
  Option.bind (spec_DrawFeedPut k a2) fun v5 =>
  Option.bind (spec_DrawHeadBytes k a2) fun v6 =>
  Option.bind (impl_HeadBytes k v6) fun v7 =>
  Option.bind (spec_DrawHeadRead k a2) fun v8 =>
  Option.bind (spec_StreamOf k v3) fun v9 =>
  bif !(v4 == v9) then
    some false
  else
  let e10 := ((v5.1, (v5.2.1, (v5.2.2.1, v5.2.2.2.1))), (v5.2.2.2.2.1, v5.2.2.2.2.2.1))
  Option.bind (impl_FeedPut k e10 v5.2.2.2.2.2.2) fun v11 =>
  Option.bind (spec_FeedPut k e10 v5.2.2.2.2.2.2) fun v12 =>
  Option.bind (laws_lwFeed k (((v11.1, (v11.2.1, (v11.2.2.1, v11.2.2.2.1))), (v11.2.2.2.2.1, v11.2.2.2.2.2.1)), v11.2.2.2.2.2.2) (((v12.1, (v12.2.1, (v12.2.2.1, v12.2.2.2.1))), (v12.2.2.2.2.1, v12.2.2.2.2.2.1)), v12.2.2.2.2.2.2)) fun v13 =>
  bif !v13 then
    some false
  else
  Option.bind (impl_FeedRight e10) fun v14 =>
  Option.bind (spec_FeedRight e10) fun v15 =>
  bif !(v14 == v15) then
    some false
  else
  Option.bind (spec_HeadBytes k v6) fun v16 =>
  bif !(v7 == v16) then
    some false
  else
  Option.bind (impl_HeadRead k v8) fun v17 =>
  Option.bind (spec_HeadRead k v8) fun v18 =>
  bif !((v17.1 == v18.1) && ((v17.2.1 == v18.2.1) && ((v17.2.2.1 == v18.2.2.1) && ((v17.2.2.2.1 == v18.2.2.2.1) && (v17.2.2.2.2 == v18.2.2.2.2))))) then
    some false
  else
  Option.bind (impl_HeadRight v6) fun v19 =>
  Option.bind (spec_HeadRight v6) fun v20 =>
  bif !(v19 == v20) then
    some false
  else
  let e21 := ((0, (0, (0, []))), (0, []))
  let e22 := IntKind.wrap .i64 (((v4.length) : Int) + 1)
  let e23 := nz? e22
  let e24 := ((v3.2.2.length) : Int)
  let e25 := IntKind.wrap .i64 (e24 + 2)
  bif !(v7 == []) then
    Option.bind (impl_HeadRead k v7) fun v26 =>
    bif !((v26.1 == v6.1) && ((v26.2.1 == v6.2.1) && ((v26.2.2.1 == v6.2.2.1) && ((v26.2.2.2.1 == v6.2.2.2) && (v26.2.2.2.2 == 0))))) then
      some false
    else
    bif v4 == [] then
      some true
    else
    Option.bind (laws_lwAt a2 0 256) fun v27 =>
    Option.bind (laws_lwAt a2 1 256) fun v28 =>
    Option.bind (e23) fun v29 =>
    let e30 := Int.tmod (IntKind.wrap .i64 ((IntKind.wrap .i64 (v27 * 256)) + v28)) e22
    Option.bind (cut? v4 0 e30) fun v31 =>
    Option.bind (impl_FeedPut k e21 v31) fun v32 =>
    Option.bind (cut? v4 e30 ((v4.length) : Int)) fun v33 =>
    Option.bind (impl_FeedPut k ((v32.1, (v32.2.1, (v32.2.2.1, v32.2.2.2.1))), (v32.2.2.2.2.1, v32.2.2.2.2.2.1)) v33) fun v34 =>
    Option.bind (app? 80 [] v32.2.2.2.2.2.2.1) fun v35 =>
    Option.bind (app? 80 v35 v34.2.2.2.2.2.2.1) fun v36 =>
    bif v32.2.2.2.2.2.2.2 != 0 then
      some false
    else
    bif v34.2.2.2.2.2.2.2 != 0 then
      some false
    else
    bif ((v36.length) : Int) != e25 then
      some false
    else
    Option.bind (at? v36 0) fun v37 =>
    Option.bind (at? v36 0) fun v38 =>
    bif v38.1 != 1 then
      some false
    else
    Option.bind (at? v36 0) fun v39 =>
    Option.bind (at? v36 0) fun v40 =>
    bif v40.2.1 != e24 then
      some false
    else
    Option.bind (at? v36 0) fun v41 =>
    Option.bind (at? v36 0) fun v42 =>
    bif !(v42.2.2.2.1 == v3.2.1) then
      some false
    else
    let e43 := at? v36 (IntKind.wrap .i64 (((v36.length) : Int) - 1))
    Option.bind (e43) fun v44 =>
    Option.bind (e43) fun v45 =>
    bif v45.1 != 3 then
      some false
    else
    Option.bind (laws_FnFeed.l0 k 0 v3.1 v3.2.1 v36 v3.2.2) fun
      | .inl y46 =>
        bif v34.2.2.2.2.2.1 == [] then
          Option.bind (impl_FeedPut k ((v34.1, (v34.2.1, (v34.2.2.1, v34.2.2.2.1))), (v34.2.2.2.2.1, v34.2.2.2.2.2.1)) ([120] : Str)) fun v47 =>
          some (v47.2.2.2.2.2.2.2 == 3)
        else
        some false
      | .inr y48 =>
        some y48.1
  else
  bif v4 == [] then
    some true
  else
  Option.bind (laws_lwAt a2 0 256) fun v49 =>
  Option.bind (laws_lwAt a2 1 256) fun v50 =>
  Option.bind (e23) fun v51 =>
  let e52 := Int.tmod (IntKind.wrap .i64 ((IntKind.wrap .i64 (v49 * 256)) + v50)) e22
  Option.bind (cut? v4 0 e52) fun v53 =>
  Option.bind (impl_FeedPut k e21 v53) fun v54 =>
  Option.bind (cut? v4 e52 ((v4.length) : Int)) fun v55 =>
  Option.bind (impl_FeedPut k ((v54.1, (v54.2.1, (v54.2.2.1, v54.2.2.2.1))), (v54.2.2.2.2.1, v54.2.2.2.2.2.1)) v55) fun v56 =>
  Option.bind (app? 80 [] v54.2.2.2.2.2.2.1) fun v57 =>
  Option.bind (app? 80 v57 v56.2.2.2.2.2.2.1) fun v58 =>
  bif v54.2.2.2.2.2.2.2 != 0 then
    some false
  else
  bif v56.2.2.2.2.2.2.2 != 0 then
    some false
  else
  bif ((v58.length) : Int) != e25 then
    some false
  else
  Option.bind (at? v58 0) fun v59 =>
  Option.bind (at? v58 0) fun v60 =>
  bif v60.1 != 1 then
    some false
  else
  Option.bind (at? v58 0) fun v61 =>
  Option.bind (at? v58 0) fun v62 =>
  bif v62.2.1 != e24 then
    some false
  else
  Option.bind (at? v58 0) fun v63 =>
  Option.bind (at? v58 0) fun v64 =>
  bif !(v64.2.2.2.1 == v3.2.1) then
    some false
  else
  let e65 := at? v58 (IntKind.wrap .i64 (((v58.length) : Int) - 1))
  Option.bind (e65) fun v66 =>
  Option.bind (e65) fun v67 =>
  bif v67.1 != 3 then
    some false
  else
  Option.bind (laws_FnFeed.l0 k 0 v3.1 v3.2.1 v58 v3.2.2) fun
    | .inl y68 =>
      bif v56.2.2.2.2.2.1 == [] then
        Option.bind (impl_FeedPut k ((v56.1, (v56.2.1, (v56.2.2.1, v56.2.2.2.1))), (v56.2.2.2.2.1, v56.2.2.2.2.2.1)) ([120] : Str)) fun v69 =>
        some (v69.2.2.2.2.2.2.2 == 3)
      else
      some false
    | .inr y70 =>
      some y70.1
def laws_FnFeed.sig : Sig := { ps := [.val false (.sl (.int .u8)) (kept (.sl (.int .u8))), .val false (.sl (.int .u8)) (kept (.sl (.int .u8)))], rs := [.val false [.v .bool]], ntmps := 204 }
def laws_FnFeed.con (k : Nat) : Con := laws_FnFeed.sig.con (fun x => laws_FnFeed k x.1 x.2)
def laws_FnFeed.C (k : Nat) : Ctx := { ti := TAB, con := conL [(4, spec_DrawStreamOf.con k), (5, impl_StreamOf.con k), (6, spec_DrawFeedPut.con k), (7, spec_DrawHeadBytes.con k), (8, impl_HeadBytes.con k), (9, spec_DrawHeadRead.con k), (10, spec_StreamOf.con k), (11, laws_lwFeed.con k), (12, impl_FeedPut.con k), (13, spec_FeedPut.con k), (14, impl_FeedRight.con k), (15, spec_FeedRight.con k), (16, spec_HeadBytes.con k), (17, impl_HeadRead.con k), (18, spec_HeadRead.con k), (19, impl_HeadRight.con k), (20, spec_HeadRight.con k), (21, laws_lwAt.con k)] }
theorem laws_FnFeed.cok (k : Nat) : CtxOk Tryz.prog (laws_FnFeed.C k) := ctx_ok TABok ⟨spec_DrawStreamOf.ok k, impl_StreamOf.ok k, spec_DrawFeedPut.ok k, spec_DrawHeadBytes.ok k, impl_HeadBytes.ok k, spec_DrawHeadRead.ok k, spec_StreamOf.ok k, laws_lwFeed.ok k, impl_FeedPut.ok k, spec_FeedPut.ok k, impl_FeedRight.ok k, spec_FeedRight.ok k, spec_HeadBytes.ok k, impl_HeadRead.ok k, spec_HeadRead.ok k, impl_HeadRight.ok k, spec_HeadRight.ok k, laws_lwAt.ok k, trivial⟩
def laws_FnFeed.l0.ish : Shape := { tmps := [(5, .one (.ptr 1 0)), (15, .one (.own 13)), (16, .one (.v (.int .i64)))], slots := [(1, .box 25 [.v (.int .i64), .v .str, .own 14]), (13, .arr false 51 T51), (14, .arr false 49 T29)], nb := 15 }
def laws_FnFeed.l0.outs : List (Ex × Shape) := [(.exit 0, { tmps := [], slots := [(1, .box 25 [.v (.int .i64), .v .str, .own 15]), (15, .arr false 49 T29)], nb := 16 }), (.ret, { tmps := [(4, .one (.v .bool))], slots := [(1, .box 25 [.v (.int .i64), .v .str, .own 15]), (15, .arr false 49 T29)], nb := 16 })]
def laws_FnFeed.l0.F (k j : Nat) (x : Prod' laws_FnFeed.l0.ish.tys) : Option (Outs laws_FnFeed.l0.outs) := laws_FnFeed.l0 j x.1 x.2.1 x.2.2.1 x.2.2.2.1 x.2.2.2.2
def laws_FnFeed.l0.s (k : Nat) : Summ := { n := 204, ish := laws_FnFeed.l0.ish, outs := laws_FnFeed.l0.outs, f := laws_FnFeed.l0.F k k }
theorem laws_FnFeed.l0.ev (k j : Nat) (x : Prod' laws_FnFeed.l0.ish.tys) : V (laws_FnFeed.C k) .auto (cO (cO (cR (cL (cR (cR (cR (cR (cR (cR (cR (cR (cR (cR (cR (cR (cR (cR (cR (cR (cR (cB Tryz.f3)))))))))))))))))))))) (mk laws_FnFeed.l0.ish 204 x) (fun e st' => match e with | .nrm => (rd laws_FnFeed.l0.ish st').bind (laws_FnFeed.l0.F k j) | e => rdOut e st' laws_FnFeed.l0.outs) = laws_FnFeed.l0.F k (j + 1) x := by kernel_rfl
theorem laws_FnFeed.l0.ok (k : Nat) : SumOk Tryz.prog (laws_FnFeed.C k) (.loop (cO (cO (cR (cL (cR (cR (cR (cR (cR (cR (cR (cR (cR (cR (cR (cR (cR (cR (cR (cR (cR (cB Tryz.f3))))))))))))))))))))))) (laws_FnFeed.l0.s k) := sum_ok (by kernel_rfl) (sum_loop (p := .auto) (F := laws_FnFeed.l0.F k) (laws_FnFeed.cok k) (by kernel_rfl) (plan_of (L := []) (by kernel_rfl) trivial) (fun _ => rfl) (fun j x y h => (laws_FnFeed.l0.ev k j x).trans h) k rfl)
theorem laws_FnFeed.ev (k : Nat) (x : Prod' laws_FnFeed.sig.ins) : laws_FnFeed.sig.ev (laws_FnFeed.C k) (.two .auto (.two .auto (.two .auto (.two .auto (.two .auto (.two .auto (.two .auto (.two .auto (.two .auto (.two .auto (.two .auto (.two .auto (.two .auto (.two .auto (.two .auto (.two .auto (.two .auto (.two (.two .auto (.one (.sum (laws_FnFeed.l0.s k)))) .auto)))))))))))))))))) Tryz.f3.results.toList (cB Tryz.f3) x = laws_FnFeed k x.1 x.2 := by kernel_rfl
theorem laws_FnFeed.ok (k : Nat) : ConOk Tryz.prog 3 (laws_FnFeed.con k) := sig_ok (p := (.two .auto (.two .auto (.two .auto (.two .auto (.two .auto (.two .auto (.two .auto (.two .auto (.two .auto (.two .auto (.two .auto (.two .auto (.two .auto (.two .auto (.two .auto (.two .auto (.two .auto (.two (.two .auto (.one (.sum (laws_FnFeed.l0.s k)))) .auto))))))))))))))))))) (laws_FnFeed.cok k) Tryz.func3 (by kernel_rfl) (show Tryz.f3.body = some (cB Tryz.f3) by kernel_rfl) (by kernel_rfl) (by kernel_rfl) (plan_of (L := [(laws_FnFeed.l0.s k, cO (cR (cL (cR (cR (cR (cR (cR (cR (cR (cR (cR (cR (cR (cR (cR (cR (cR (cR (cR (cB Tryz.f3)))))))))))))))))))))]) (by kernel_rfl) ⟨laws_FnFeed.l0.ok k, trivial⟩) (fun x y h => (laws_FnFeed.ev k x).trans h)
end Go.Proofs.YtaajcllchbnjiaaGreatE

namespace Go.Proofs.YtaajcllchbnjiaaGreatE
open Go
set_option linter.unusedVariables false
def Ever (p : Nat → Prop) : Prop := ∃ K, ∀ k, K ≤ k → p k
theorem Ever.of {p : Nat → Prop} (h : ∀ k, p k) : Ever p := ⟨0, fun k _ => h k⟩
theorem Ever.ge {p : Nat → Prop} (K : Nat) (h : ∀ k, K ≤ k → p k) : Ever p := ⟨K, h⟩
theorem Ever.mono {p q : Nat → Prop} (h : Ever p) (f : ∀ k, p k → q k) : Ever q := by
  obtain ⟨K, h⟩ := h
  exact ⟨K, fun k hk => f k (h k hk)⟩
theorem Ever.and {p q : Nat → Prop} (h : Ever p) (g : Ever q) : Ever fun k => p k ∧ q k := by
  obtain ⟨K, h⟩ := h
  obtain ⟨J, g⟩ := g
  exact ⟨K + J, fun k hk => ⟨h k (by omega), g k (by omega)⟩⟩
theorem Ever.ex {p : Nat → Prop} (h : Ever p) : ∃ k, p k := by
  obtain ⟨K, h⟩ := h
  exact ⟨K, h K (Nat.le_refl K)⟩
theorem Ever.all {n : Nat} {p : Nat → Nat → Prop} : (∀ i, i < n → Ever (p i)) → Ever fun k => ∀ i, i < n → p i k := by
  induction n with
  | zero => exact fun _ => ⟨0, fun k _ i hi => absurd hi (Nat.not_lt_zero i)⟩
  | succ n ih =>
    intro h
    refine ((ih fun i hi => h i (Nat.lt_succ_of_lt hi)).and (h n (Nat.lt_succ_self n))).mono fun k hk i hi => ?_
    rcases Nat.eq_or_lt_of_le (Nat.le_of_lt_succ hi) with rfl | hi
    · exact hk.2
    · exact hk.1 i hi
/-- Two facts, then a third. -/
theorem Ever.two {p q r : Nat → Prop} (h : Ever p) (g : Ever q) (f : ∀ k, p k → q k → r k) : Ever r := (h.and g).mono fun k hk => f k hk.1 hk.2
/-- A loop of n rounds: what it has in hand at round i is told by i. -/
theorem ever_loop {R : Type} (L : Nat → Nat → Nat → Option R) (n : Nat) (r : R) (hs : Ever fun k => ∀ i, i < n → ∀ j, L k (j + 1) i = L k j (i + 1)) (hl : Ever fun k => ∀ j, L k (j + 1) n = some r) : Ever fun k => L k k 0 = some r := by
  obtain ⟨K, hs⟩ := hs
  obtain ⟨J, hl⟩ := hl
  refine ⟨K + J + n + 1, fun k hk => ?_⟩
  have hs := hs k (by omega)
  have hl := hl k (by omega)
  have key : ∀ d i j, i + d = n → d < j → L k j i = some r := by
    intro d
    induction d with
    | zero =>
      intro i j hi hj
      obtain ⟨m, rfl⟩ : ∃ m, j = m + 1 := ⟨j - 1, by omega⟩
      obtain rfl : i = n := by omega
      exact hl m
    | succ d ih =>
      intro i j hi hj
      obtain ⟨m, rfl⟩ : ∃ m, j = m + 1 := ⟨j - 1, by omega⟩
      rw [hs i (by omega) m]
      exact ih (i + 1) m (by omega) (by omega)
  exact key n 0 k (by omega) (by omega)
/-- The same, where neither the round nor the end hangs on fuel. -/
theorem loop_of {R : Type} (L : Nat → Nat → Option R) (n : Nat) (r : R) (hs : ∀ i, i < n → ∀ j, L (j + 1) i = L j (i + 1)) (hl : ∀ j, L (j + 1) n = some r) : Ever fun k => L k 0 = some r :=
  ever_loop (fun _ j i => L j i) n r (Ever.of fun _ => hs) (Ever.of fun _ => hl)
theorem loop_at {R : Type} (L : Nat → Nat → Option R) (n : Nat) (r : R) (hs : ∀ i, i < n → ∀ j, L (j + 1) i = L j (i + 1)) (hl : ∀ j, L (j + 1) n = some r) : ∀ k, n < k → L k 0 = some r := by
  have key : ∀ d i j, i + d = n → d < j → L j i = some r := by
    intro d
    induction d with
    | zero =>
      intro i j hi hj
      obtain ⟨m, rfl⟩ : ∃ m, j = m + 1 := ⟨j - 1, by omega⟩
      obtain rfl : i = n := by omega
      exact hl m
    | succ d ih =>
      intro i j hi hj
      obtain ⟨m, rfl⟩ : ∃ m, j = m + 1 := ⟨j - 1, by omega⟩
      rw [hs i (by omega) m]
      exact ih (i + 1) m (by omega) (by omega)
  exact fun k hk => key n 0 k (by omega) hk
theorem bnd {α β : Type} {f : Nat → Option α} {g : Nat → α → Option β} {a : α} {b : β} (h : Ever fun k => f k = some a) (k : Ever fun k => g k a = some b) : Ever fun k => (f k).bind (g k) = some b :=
  h.two k fun k h1 h2 => by rw [h1]; exact h2
theorem some_cond {α : Type} {b : Bool} {x y : Option α} (hx : ∃ v, x = some v) (hy : ∃ v, y = some v) : ∃ v, (bif b then x else y) = some v := by
  cases b
  · exact hy
  · exact hx
theorem some_bind {α β : Type} {x : Option α} {f : α → Option β} (hx : ∃ v, x = some v) (hf : ∀ v, ∃ w, f v = some w) : ∃ w, x.bind f = some w := by
  obtain ⟨v, rfl⟩ := hx
  exact hf v
/-! ### numbers -/
theorem w64 {n : Int} (h0 : -9223372036854775808 ≤ n) (h1 : n < 9223372036854775808) : IntKind.wrap .i64 n = n := by
  simp [IntKind.wrap, IntKind.bits, IntKind.signed]
  omega
theorem wf64 {n : Int} (h : Bnd (.int .i64) n) : -9223372036854775808 ≤ n ∧ n < 9223372036854775808 := by
  have h : (Lit.int .i64 n).wf = true := h
  simp [Lit.wf, IntKind.min, IntKind.max, IntKind.signed, IntKind.bits] at h
  omega
theorem wn {n : Nat} (h : n < 9223372036854775808) : IntKind.wrap .i64 (n : Int) = n := w64 (by omega) (by omega)
theorem wsuc {n : Nat} (h : n < 9223372036854775807) : IntKind.wrap .i64 ((n : Int) + 1) = ((n + 1 : Nat) : Int) := by rw [w64] <;> omega
/-! ### partial answers -/
theorem at_nat {α : Type} {l : List α} {i : Nat} (h : i < l.length) : at? l (i : Int) = some l[i] := by
  unfold at?
  rw [if_pos (by omega), Int.toNat_natCast, List.getElem?_eq_getElem h]
theorem app_ok {α : Type} {n : Nat} {a b : List α} (h : (a.length + b.length) * n ≤ 140737488355328) : app? n a b = some (a ++ b) := if_pos h
theorem cat_some {a b : Str} (h : a.length + b.length ≤ 9223372036854775807) : cat? a b = some (a ++ b) := if_pos h
theorem make_some {α : Type} {b n : Nat} {x : α} (h : n * b ≤ 140737488355328) : make? b (n : Int) (n : Int) x = some (List.replicate n x) := by
  unfold make?
  rw [if_pos ⟨by omega, Int.le_refl _, by rw [Int.toNat_natCast]; exact h⟩, Int.toNat_natCast]
theorem cut_ok {α : Type} {l : List α} {i j : Nat} (h : i ≤ j) (k : j ≤ l.length) : cut? l (i : Int) (j : Int) = some ((l.take j).drop i) := by
  unfold cut?
  rw [if_pos ⟨by omega, by omega, by omega⟩, Int.toNat_natCast, Int.toNat_natCast]
theorem room_some {n b : Nat} (h : n * b ≤ 140737488355328) : room? n b = some () := if_pos h
theorem nz_some {b : Int} (h : b ≠ 0) : nz? b = some () := if_neg h
theorem nneg_some {b : Int} (h : 0 ≤ b) : nneg? b = some () := if_neg (by omega)
theorem take_map_succ {α β : Type} {l : List α} (f : α → β) {i : Nat} (h : i < l.length) : (l.take (i + 1)).map f = (l.take i).map f ++ [f l[i]] := by
  rw [List.take_add_one, List.getElem?_eq_getElem h, List.map_append]
  rfl
theorem take_succ' {α : Type} {l : List α} {i : Nat} (h : i < l.length) : l.take (i + 1) = l.take i ++ [l[i]] := by
  rw [List.take_add_one, List.getElem?_eq_getElem h]
  rfl
/-- A list that is filled, place by place. -/
theorem fill_set {α β : Type} {l : List α} {f : α → β} {z : β} {i : Nat} (h : i < l.length) :
    ((l.take i).map f ++ List.replicate (l.length - i) z).set i (f l[i]) = (l.take (i + 1)).map f ++ List.replicate (l.length - (i + 1)) z := by
  have hl : ((l.take i).map f).length = i := by simp; omega
  rw [List.set_append_right _ _ (by rw [hl]; exact Nat.le_refl i), hl, Nat.sub_self, show l.length - i = (l.length - (i + 1)) + 1 by omega, List.replicate_succ, List.set_cons_zero, take_map_succ f h, List.append_assoc]
  rfl
theorem fill_len {α β : Type} {l : List α} {f : α → β} {z : β} {i : Nat} (h : i ≤ l.length) : ((l.take i).map f ++ List.replicate (l.length - i) z).length = l.length := by simp; omega
end Go.Proofs.YtaajcllchbnjiaaGreatE

namespace Go.Proofs.YtaajcllchbnjiaaGreatE
open Go
set_option linter.unusedVariables false
theorem u8w (n : Int) : IntKind.wrap .u8 n = n % 256 := by simp [IntKind.wrap, IntKind.bits, IntKind.signed]
theorem u32w (n : Int) : IntKind.wrap .u32 n = n % 4294967296 := by simp [IntKind.wrap, IntKind.bits, IntKind.signed]
theorem u64w (n : Int) : IntKind.wrap .u64 n = n % 18446744073709551616 := by simp [IntKind.wrap, IntKind.bits, IntKind.signed]
theorem bx32 (a b : Nat) (ha : a < 4294967296) (hb : b < 4294967296) : intBits .xor .u32 (a : Int) (b : Int) = ((a ^^^ b : Nat) : Int) := by
  have hx : a ^^^ b < 2 ^ 32 := Nat.xor_lt_two_pow (by omega) (by omega)
  show IntKind.wrap .u32 (((BitVec.ofInt 32 (a : Int)) ^^^ (BitVec.ofInt 32 (b : Int))).toNat : Int) = _
  rw [BitVec.ofInt_natCast, BitVec.ofInt_natCast, BitVec.toNat_xor, BitVec.toNat_ofNat, BitVec.toNat_ofNat, u32w, Nat.mod_eq_of_lt (show a < 2 ^ 32 by omega), Nat.mod_eq_of_lt (show b < 2 ^ 32 by omega)]
  omega
theorem band1 (a : Nat) (ha : a < 4294967296) : intBits .and .u32 (a : Int) 1 = ((a % 2 : Nat) : Int) := by
  have h : a &&& 1 = a % 2 := Nat.and_one_is_mod a
  show IntKind.wrap .u32 (((BitVec.ofInt 32 (a : Int)) &&& (BitVec.ofInt 32 ((1 : Nat) : Int))).toNat : Int) = _
  rw [BitVec.ofInt_natCast, BitVec.ofInt_natCast, BitVec.toNat_and, BitVec.toNat_ofNat, BitVec.toNat_ofNat, u32w, Nat.mod_eq_of_lt (show a < 2 ^ 32 by omega), Nat.mod_eq_of_lt (show 1 < 2 ^ 32 by omega), h]
  omega
theorem band64 (a : Nat) (ha : a < 18446744073709551616) : intBits .and .u64 (a : Int) 1 = ((a % 2 : Nat) : Int) := by
  have h : a &&& 1 = a % 2 := Nat.and_one_is_mod a
  show IntKind.wrap .u64 (((BitVec.ofInt 64 (a : Int)) &&& (BitVec.ofInt 64 ((1 : Nat) : Int))).toNat : Int) = _
  rw [BitVec.ofInt_natCast, BitVec.ofInt_natCast, BitVec.toNat_and, BitVec.toNat_ofNat, BitVec.toNat_ofNat, u64w, Nat.mod_eq_of_lt (show a < 2 ^ 64 by omega), Nat.mod_eq_of_lt (show 1 < 2 ^ 64 by omega), h]
  omega
theorem bor64 (a b : Nat) (ha : a < 18446744073709551616) (hb : b < 18446744073709551616) : intBits .or .u64 (a : Int) (b : Int) = ((a ||| b : Nat) : Int) := by
  show IntKind.wrap .u64 (((BitVec.ofInt 64 (a : Int)) ||| (BitVec.ofInt 64 (b : Int))).toNat : Int) = _
  have hx : a ||| b < 2 ^ 64 := Nat.or_lt_two_pow (by omega) (by omega)
  rw [BitVec.ofInt_natCast, BitVec.ofInt_natCast, BitVec.toNat_or, BitVec.toNat_ofNat, BitVec.toNat_ofNat, u64w, Nat.mod_eq_of_lt (show a < 2 ^ 64 by omega), Nat.mod_eq_of_lt (show b < 2 ^ 64 by omega)]
  omega
theorem and127 : ∀ a : Nat, a < 256 → intBits .and .u8 ((a : Nat) : Int) 127 = ((a % 128 : Nat) : Int) := by decide +kernel
theorem noti64 (a : Nat) (h : a < 9223372036854775808) : intBits .xor .i64 (-1) (a : Int) = -(a : Int) - 1 := by
  show IntKind.wrap .i64 (((BitVec.ofInt 64 (-1)) ^^^ (BitVec.ofInt 64 (a : Int))).toNat : Int) = _
  have e : (BitVec.ofInt 64 (-1)) = BitVec.allOnes 64 := by decide
  rw [BitVec.ofInt_natCast, e, BitVec.allOnes_xor, BitVec.toNat_not, BitVec.toNat_ofNat, IntKind.wrap_i64, Nat.mod_eq_of_lt (show a < 2 ^ 64 by omega)]
  omega
theorem shr_nat (k : IntKind) (r m : Nat) (h : m ≤ k.bits) : shr k (r : Int) (m : Int) = ((r / 2 ^ m : Nat) : Int) := by
  unfold shr
  rw [Int.toNat_natCast, Nat.min_eq_left h, Int.fdiv_eq_ediv_of_nonneg _ (by exact Int.le_of_lt (Int.pow_pos (by omega)))]
  push_cast
  rfl
theorem byte_lt (c : UInt8) : c.toNat < 256 := c.toNat_lt
theorem byte_of (c : UInt8) : UInt8.ofNat ((c.toNat : Nat) : Int).toNat = c := by simp
/-! ### the CRC -/
def crcBit (r : Nat) : Nat := if r % 2 = 1 then (r / 2) ^^^ 3988292384 else r / 2
def crcBits : Nat → Nat → Nat
  | 0, r => r
  | n + 1, r => crcBits n (crcBit r)
def crcRun : Str → Nat → Nat
  | [], r => r
  | c :: l, r => crcRun l (crcBits 8 (r ^^^ c.toNat))
def crcOf (c : Nat) (s : Str) : Nat := (crcRun s (c ^^^ 4294967295)) ^^^ 4294967295
theorem x32 {a b : Nat} (ha : a < 4294967296) (hb : b < 4294967296) : a ^^^ b < 4294967296 := Nat.xor_lt_two_pow (n := 32) ha hb
theorem crcBit_lt {r : Nat} (h : r < 4294967296) : crcBit r < 4294967296 := by
  unfold crcBit
  split
  · exact x32 (by omega) (by omega)
  · omega
theorem crcBits_lt : ∀ (n : Nat) {r : Nat}, r < 4294967296 → crcBits n r < 4294967296
  | 0, _, h => h
  | n + 1, _, h => crcBits_lt n (crcBit_lt h)
theorem crcRun_lt : ∀ (l : Str) {r : Nat}, r < 4294967296 → crcRun l r < 4294967296
  | [], _, h => h
  | c :: l, r, h => crcRun_lt l (crcBits_lt 8 (x32 h (by have := byte_lt c; omega)))
theorem crcOf_lt {c : Nat} (s : Str) (h : c < 4294967296) : crcOf c s < 4294967296 := x32 (crcRun_lt _ (x32 h (by omega))) (by omega)
/-- The four bytes of a CRC. -/
def four (n : Nat) : Str := listByte [((n % 256 : Nat) : Int), ((n / 256 % 256 : Nat) : Int), ((n / 65536 % 256 : Nat) : Int), ((n / 16777216 % 256 : Nat) : Int)]
def sealOf (s : Str) : Str := s ++ four (crcOf 0 s)
theorem four_len (n : Nat) : (four n).length = 4 := rfl
theorem sealOf_len (s : Str) : (sealOf s).length = s.length + 4 := by unfold sealOf; rw [List.length_append, four_len]
/-- What stands ahead of the seal. -/
def bodyOf (s : Str) : Str := s.take (s.length - 4)
theorem body_len (s : Str) : (bodyOf s).length = s.length - 4 := by unfold bodyOf; simp
theorem seal_inj {a b : Str} : sealOf a = sealOf b ↔ a = b := by
  constructor
  · intro h
    exact List.append_inj_left' h (by rw [four_len, four_len])
  · rintro rfl; rfl
theorem tail_iff (s : Str) : (four (crcOf 0 (bodyOf s)) = s.drop (s.length - 4)) ↔ sealOf (bodyOf s) = s := by
  have e : s = bodyOf s ++ s.drop (s.length - 4) := (List.take_append_drop _ _).symm
  unfold sealOf
  constructor
  · intro h; rw [h]; exact e.symm
  · intro h
    exact List.append_cancel_left (h.trans e)
theorem body_seal (s : Str) : bodyOf (sealOf s) = s := by
  unfold bodyOf
  rw [sealOf_len, Nat.add_sub_cancel]
  unfold sealOf
  simp
def unsealI (s : Str) : Str × Int := if s.length < 4 then ([], 4) else if sealOf (bodyOf s) = s then (bodyOf s, 0) else ([], 5)
theorem unseal_ok {s : Str} (h : (unsealI s).2 = 0) : unsealI s = (bodyOf s, 0) ∧ sealOf (bodyOf s) = s ∧ 4 ≤ s.length := by
  unfold unsealI at h ⊢
  by_cases h4 : s.length < 4
  · rw [if_pos h4] at h; simp at h
  · rw [if_neg h4] at h ⊢
    by_cases he : sealOf (bodyOf s) = s
    · rw [if_pos he]; exact ⟨rfl, he, by omega⟩
    · rw [if_neg he] at h; simp at h
theorem unseal_no {s : Str} (h : (unsealI s).2 ≠ 0) : (unsealI s).1 = [] := by
  unfold unsealI at h ⊢
  by_cases h4 : s.length < 4
  · rw [if_pos h4]
  · rw [if_neg h4] at h ⊢
    by_cases he : sealOf (bodyOf s) = s
    · rw [if_pos he] at h; exact absurd rfl h
    · rw [if_neg he]
theorem unseal_len (s : Str) : (unsealI s).1.length ≤ s.length := by
  unfold unsealI
  split
  · simp
  · split
    · rw [body_len]; omega
    · simp
theorem unseal_seal (s : Str) : unsealI (sealOf s) = (s, 0) := by
  unfold unsealI
  rw [body_seal, if_neg (by rw [sealOf_len]; omega), if_pos rfl]
/-! ### numbers as bytes -/
/-- The zigzag number. -/
def zig (n : Int) : Nat := if n < 0 then (-2 * n - 1).toNat else (2 * n).toNat
/-- The groups of seven bits of a number, as bytes; f: a bound on their count. -/
def groups : Nat → Nat → List Int
  | 0, _ => []
  | f + 1, u => if 128 ≤ u then ((u % 128 + 128 : Nat) : Int) :: groups f (u / 128) else [(u : Int)]
def putOf (n : Int) : Str := listByte (groups 10 (zig n))
def Num (n : Int) : Prop := -9223372036854775808 ≤ n ∧ n < 9223372036854775808
theorem zig_lt {n : Int} (h : Num n) : zig n < 18446744073709551616 := by unfold Num at h; unfold zig; split <;> omega
theorem groups_len : ∀ (f u : Nat), (groups f u).length ≤ f
  | 0, _ => by simp [groups]
  | f + 1, u => by
    unfold groups
    split
    · simp only [List.length_cons]; have := groups_len f (u / 128); omega
    · simp
theorem listByte_len (l : List Int) : (listByte l).length = l.length := by simp [listByte]
theorem putOf_len (n : Int) : (putOf n).length ≤ 10 := by
  unfold putOf
  rw [listByte_len]
  exact groups_len 10 _
theorem putOf_pos (n : Int) : 1 ≤ (putOf n).length := by
  unfold putOf
  rw [listByte_len]
  unfold groups
  split <;> simp
def putTextOf (s : Str) : Str := putOf (s.length : Int) ++ s
theorem putTextOf_len (s : Str) : (putTextOf s).length ≤ 10 + s.length := by
  unfold putTextOf
  have := putOf_len (s.length : Int)
  rw [List.length_append]
  omega
/-! ### numbers, read back -/
def unz (u : Nat) : Int := if u % 2 = 1 then -((u / 2 : Nat) : Int) - 1 else ((u / 2 : Nat) : Int)
/-- A number's groups, read: the number, how many bytes, the code. -/
def gn : Nat → Nat → Nat → Str → Int × Nat × Int
  | 0, _, _, _ => (0, 0, 3)
  | _ + 1, _, _, [] => (0, 0, 4)
  | f + 1, i, u, b :: l => if i = 9 ∧ 1 < b.toNat then (0, 0, 3) else if 128 ≤ b.toNat then gn f (i + 1) (u + b.toNat % 128 * 128 ^ i) l else if b.toNat = 0 ∧ 0 < i then (0, 0, 3) else (unz (u + b.toNat % 128 * 128 ^ i), i + 1, 0)
/-- What the readers make of it: the number, the place behind it, the code. -/
def fin (a : Nat) (r : Int × Nat × Int) : Int × Int × Int := if r.2.2 = 0 then (r.1, ((a + r.2.1 : Nat) : Int), 0) else (0, 0, r.2.2)
def getNumZ (s : Str) (a : Nat) : Int × Int × Int := fin a (gn 10 0 0 (s.drop a))
theorem p128 (i : Nat) : (2 : Nat) ^ (7 * i) = 128 ^ i := by rw [Nat.pow_mul]
theorem step_lt {i u b : Nat} (_ : i ≤ 8) (hu : u < 128 ^ i) : u + b % 128 * 128 ^ i < 128 ^ (i + 1) := by
  have h1 : b % 128 ≤ 127 := by omega
  have h2 : b % 128 * 128 ^ i ≤ 127 * 128 ^ i := Nat.mul_le_mul_right _ h1
  rw [Nat.pow_succ]
  omega
theorem pow_le9 {i : Nat} (hi : i ≤ 9) : 128 ^ i ≤ 9223372036854775808 := by
  have : 128 ^ i ≤ 128 ^ 9 := Nat.pow_le_pow_right (by omega) hi
  simpa using this
theorem term_lt {i b : Nat} (hi : i ≤ 9) (h9 : i = 9 → b ≤ 1) : b % 128 * 128 ^ i < 18446744073709551616 := by
  by_cases h : i = 9
  · have := h9 h
    subst h
    have : b % 128 ≤ 1 := by omega
    have := Nat.mul_le_mul_right (128 ^ 9) this
    simp at this ⊢
    omega
  · have h1 : 128 ^ i ≤ 128 ^ 8 := Nat.pow_le_pow_right (by omega) (by omega)
    have h2 : b % 128 ≤ 127 := by omega
    have := Nat.mul_le_mul h2 h1
    simp at this
    omega
theorem sum_lt {i u b : Nat} (hi : i ≤ 9) (hu : u < 128 ^ i) (h9 : i = 9 → b ≤ 1) : u + b % 128 * 128 ^ i < 18446744073709551616 := by
  by_cases h : i = 9
  · have := h9 h
    subst h
    have h1 : b % 128 ≤ 1 := by omega
    have := Nat.mul_le_mul_right (128 ^ 9) h1
    simp at this hu ⊢
    omega
  · have h1 := step_lt (b := b) (show i ≤ 8 by omega) hu
    have h2 := pow_le9 (show i + 1 ≤ 9 by omega)
    omega
theorem shl_eq {i b : Nat} (hi : i ≤ 9) (h9 : i = 9 → b ≤ 1) : shl .u64 ((b % 128 : Nat) : Int) ((7 * i : Nat) : Int) = ((b % 128 * 128 ^ i : Nat) : Int) := by
  unfold shl
  rw [Int.toNat_natCast, Nat.min_eq_left (by simp [IntKind.bits]; omega), u64w]
  have e : ((b % 128 : Nat) : Int) * 2 ^ (7 * i) = ((b % 128 * 128 ^ i : Nat) : Int) := by rw [← p128]; push_cast; rfl
  rw [e]
  have := term_lt hi h9
  omega
theorem or_sum {i u b : Nat} (hu : u < 128 ^ i) : u ||| (b % 128 * 128 ^ i) = u + b % 128 * 128 ^ i := by
  have h := @Nat.shiftLeft_add_eq_or_of_lt (7 * i) u (by rw [p128]; exact hu) (b % 128)
  rw [Nat.shiftLeft_eq, p128] at h
  rw [Nat.or_comm, ← h, Nat.add_comm]
theorem zig_unz (v : Nat) : zig (unz v) = v := by
  unfold unz
  split
  · unfold zig; split <;> omega
  · unfold zig; split <;> omega
theorem unz_zig (n : Int) : unz (zig n) = n := by
  unfold zig
  split
  · unfold unz; split <;> omega
  · unfold unz; split <;> omega
theorem unz_range {v : Nat} (h : v < 18446744073709551616) : Num (unz v) := by
  unfold Num unz
  split <;> omega
theorem gn_canon : ∀ (f i u : Nat) (l : Str), i + f = 10 → i ≤ 9 → u < 128 ^ i → (gn f i u l).2.2 = 0 →
    ∃ v, gn f i u l = (unz (u + v * 128 ^ i), i + (groups f v).length, 0) ∧ l = listByte (groups f v) ++ l.drop (groups f v).length ∧ u + v * 128 ^ i < 18446744073709551616 ∧ (0 < i → v ≠ 0)
  | 0, i, u, l, hf, h9, _, _ => by omega
  | f + 1, i, u, [], hf, h9, hu, h0 => by simp [gn] at h0
  | f + 1, i, u, c :: l, hf, hi9, hu, h0 => by
    have hb := byte_lt c
    have hbc := byte_of c
    simp only [gn] at h0 ⊢
    generalize hcb : c.toNat = b at h0 hb hbc ⊢
    by_cases h9 : i = 9 ∧ 1 < b
    · rw [if_pos h9] at h0; simp at h0
    rw [if_neg h9] at h0 ⊢
    have hb9 : i = 9 → b ≤ 1 := fun h => by
      rcases Nat.lt_or_ge 1 b with h1 | h1
      · exact absurd ⟨h, h1⟩ h9
      · exact h1
    by_cases h128 : 128 ≤ b
    · have hi8 : i ≤ 8 := by
        by_cases h : i = 9
        · have := hb9 h; omega
        · omega
      rw [if_pos h128] at h0 ⊢
      obtain ⟨v, e1, e2, e3, e4⟩ := gn_canon f (i + 1) (u + b % 128 * 128 ^ i) l (by omega) (by omega) (step_lt hi8 hu) h0
      have hv := e4 (by omega)
      have hs : u + b % 128 * 128 ^ i + v * 128 ^ (i + 1) = u + (b % 128 + 128 * v) * 128 ^ i := by
        rw [Nat.pow_succ, Nat.add_mul, Nat.mul_comm (128 ^ i) 128, ← Nat.mul_assoc, Nat.mul_comm v 128, Nat.add_assoc]
      have hg : groups (f + 1) (b % 128 + 128 * v) = (b : Int) :: groups f v := by
        have h1 : 128 ≤ b % 128 + 128 * v := by omega
        have h2 : (b % 128 + 128 * v) / 128 = v := by omega
        have h3 : (b % 128 + 128 * v) % 128 + 128 = b := by omega
        simp only [groups, if_pos h1, h2, h3]
      refine ⟨b % 128 + 128 * v, ?_, ?_, ?_, ?_⟩
      · rw [e1, hs, hg, List.length_cons, Nat.add_assoc, Nat.add_comm 1]
      · rw [hg]
        show c :: l = UInt8.ofNat ((b : Nat) : Int).toNat :: (listByte (groups f v) ++ l.drop (groups f v).length)
        rw [hbc, ← e2]
      · rw [← hs]; exact e3
      · intro _; omega
    · rw [if_neg h128] at h0 ⊢
      by_cases hz : b = 0 ∧ 0 < i
      · rw [if_pos hz] at h0; simp at h0
      rw [if_neg hz] at h0 ⊢
      have hm : b % 128 = b := by omega
      have hsl := sum_lt (b := b) hi9 hu hb9
      rw [hm] at hsl ⊢
      have hg : groups (f + 1) b = [(b : Int)] := by simp only [groups, if_neg h128]
      refine ⟨b, ?_, ?_, hsl, ?_⟩
      · rw [hg]; rfl
      · rw [hg]
        show c :: l = UInt8.ofNat ((b : Nat) : Int).toNat :: l
        rw [hbc]
      · intro hi hb0; exact hz ⟨hb0, hi⟩
/-- At a stands the encoding of n, and it ends at a'. -/
structure Got (s : Str) (a : Nat) (n : Int) (a' : Nat) : Prop where
  at' : a' = a + (putOf n).length
  le : a' ≤ s.length
  eq : s.drop a = putOf n ++ s.drop a'
  range : Num n
theorem num_cases (s : Str) (a : Nat) : (∃ (n : Int) (a' : Nat), getNumZ s a = (n, (a' : Int), 0) ∧ Got s a n a') ∨ ∃ c, c ≠ 0 ∧ getNumZ s a = (0, 0, c) := by
  unfold getNumZ fin
  by_cases h : (gn 10 0 0 (s.drop a)).2.2 = 0
  · left
    obtain ⟨v, e1, e2, e3, _⟩ := gn_canon 10 0 0 (s.drop a) (by omega) (by omega) (by omega) h
    simp only [Nat.pow_zero, Nat.mul_one, Nat.zero_add] at e1 e3
    have hB : putOf (unz v) = listByte (groups 10 v) := by unfold putOf; rw [zig_unz]
    have hsz : (putOf (unz v)).length = (groups 10 v).length := by rw [hB, listByte_len]
    refine ⟨unz v, a + (putOf (unz v)).length, ?_, rfl, ?_, ?_, unz_range e3⟩
    · rw [e1, hsz]
      rfl
    · have := congrArg List.length e2
      simp only [List.length_append, listByte_len, List.length_drop] at this
      have hp : 0 < (groups 10 v).length := by unfold groups; split <;> simp
      omega
    · rw [hsz, ← List.drop_drop, hB]
      exact e2
  · right
    exact ⟨_, h, by rw [if_neg h]⟩
/-- What was encoded is read back, whatever follows. -/
theorem gn_put : ∀ (f i u v : Nat) (l : Str), i + f = 10 → i ≤ 9 → v < 128 ^ f → u + v * 128 ^ i < 18446744073709551616 → (0 < i → v ≠ 0) → gn f i u (listByte (groups f v) ++ l) = (unz (u + v * 128 ^ i), i + (groups f v).length, 0)
  | 0, i, u, v, l, hf, h9, _, _, _ => by omega
  | f + 1, i, u, v, l, hf, hi9, hv, hb, hz => by
    have h9' : i = 9 → v ≤ 1 := fun h => by subst h; simp at hb; omega
    by_cases h128 : 128 ≤ v
    · have hi8 : i ≤ 8 := by
        by_cases h : i = 9
        · have := h9' h; omega
        · omega
      have hg : groups (f + 1) v = ((v % 128 + 128 : Nat) : Int) :: groups f (v / 128) := by simp only [groups, if_pos h128]
      have ht : (UInt8.ofNat (((v % 128 + 128 : Nat) : Int)).toNat).toNat = v % 128 + 128 := by
        rw [Int.toNat_natCast, UInt8.toNat_ofNat']
        omega
      rw [hg]
      show gn (f + 1) i u (UInt8.ofNat (((v % 128 + 128 : Nat) : Int)).toNat :: (listByte (groups f (v / 128)) ++ l)) = _
      simp only [gn]
      rw [ht, if_neg (by omega), if_pos (by omega)]
      have hs : u + (v % 128 + 128) % 128 * 128 ^ i + v / 128 * 128 ^ (i + 1) = u + v * 128 ^ i := by
        have e : (v % 128 + 128) % 128 = v % 128 := by omega
        have e2 : v % 128 * 128 ^ i + v / 128 * (128 * 128 ^ i) = v * 128 ^ i := by
          rw [← Nat.mul_assoc, ← Nat.add_mul]
          congr 1
          omega
        rw [e, Nat.pow_succ, Nat.mul_comm (128 ^ i) 128, Nat.add_assoc, e2]
      rw [gn_put f (i + 1) _ (v / 128) l (by omega) (by omega) (by rw [Nat.pow_succ] at hv; exact Nat.div_lt_of_lt_mul (by rw [Nat.mul_comm]; exact hv)) (by rw [hs]; exact hb) (fun _ => by omega), hs]
      simp only [List.length_cons, Prod.mk.injEq, and_true, true_and]
      omega
    · have hg : groups (f + 1) v = [(v : Int)] := by simp only [groups, if_neg h128]
      have ht : (UInt8.ofNat ((v : Int)).toNat).toNat = v := by
        rw [Int.toNat_natCast, UInt8.toNat_ofNat']
        omega
      rw [hg]
      show gn (f + 1) i u (UInt8.ofNat ((v : Int)).toNat :: l) = _
      simp only [gn]
      rw [ht, if_neg (fun q => by have := h9' q.1; omega), if_neg h128, if_neg (fun q => hz q.2 q.1), Nat.mod_eq_of_lt (by omega)]
      rfl
theorem get_put (n : Int) (h : Num n) (s : Str) (a : Nat) (t : Str) (hs : s.drop a = putOf n ++ t) : getNumZ s a = (n, ((a + (putOf n).length : Nat) : Int), 0) := by
  unfold getNumZ
  have hz := zig_lt h
  rw [hs]
  unfold putOf
  rw [gn_put 10 0 0 (zig n) t rfl (by omega) (by omega) (by omega) (fun q => absurd q (by omega))]
  simp only [Nat.pow_zero, Nat.mul_one, Nat.zero_add, unz_zig, listByte_len]
  rfl
/-! ### texts, read back -/
def getTextZ (s : Str) (a : Nat) : Str × Int × Int :=
  if (getNumZ s a).2.2 = 0 then
    if 0 ≤ (getNumZ s a).1 ∧ (getNumZ s a).1 ≤ 8000 then
      if (getNumZ s a).1 > (s.length : Int) - (getNumZ s a).2.1 then ([], 0, 4)
      else ((s.take ((getNumZ s a).2.1 + (getNumZ s a).1).toNat).drop (getNumZ s a).2.1.toNat, (getNumZ s a).2.1 + (getNumZ s a).1, 0)
    else ([], 0, 3)
  else ([], 0, (getNumZ s a).2.2)
/-- At a stands the encoding of the text t, and it ends at a'. -/
structure GotT (s : Str) (a : Nat) (t : Str) (a' : Nat) : Prop where
  at' : a' = a + (putTextOf t).length
  le : a' ≤ s.length
  eq : s.drop a = putTextOf t ++ s.drop a'
  size : t.length ≤ 8000
theorem text_cases (s : Str) (a : Nat) : (∃ t a', getTextZ s a = (t, ((a' : Nat) : Int), 0) ∧ GotT s a t a') ∨ ∃ c, c ≠ 0 ∧ getTextZ s a = ([], 0, c) := by
  unfold getTextZ
  rcases num_cases s a with ⟨n, a', e, g⟩ | ⟨c, hc, e⟩
  · rw [e]
    simp only [if_true]
    by_cases hn : 0 ≤ n ∧ n ≤ 8000
    · rw [if_pos hn]
      have hle := g.le
      by_cases hs : n > (s.length : Int) - (a' : Int)
      · rw [if_pos hs]
        exact .inr ⟨4, by omega, rfl⟩
      · rw [if_neg hs]
        obtain ⟨m, rfl⟩ : ∃ m : Nat, n = (m : Int) := ⟨n.toNat, by omega⟩
        have e1 : ((a' : Int) + (m : Int)).toNat = a' + m := by omega
        rw [e1, Int.toNat_natCast]
        have hB : (s.take (a' + m)).drop a' = (s.drop a').take m := by
          rw [List.drop_take, Nat.add_sub_cancel_left]
        have hsz : ((s.take (a' + m)).drop a').length = m := by
          rw [hB, List.length_take, List.length_drop]
          omega
        refine .inl ⟨_, a' + m, by push_cast; rfl, ?_, ?_, ?_, ?_⟩
        · unfold putTextOf
          rw [List.length_append, hsz]
          have := g.at'
          omega
        · omega
        · unfold putTextOf
          rw [hsz, hB, g.eq, List.append_assoc, ← List.drop_drop, List.take_append_drop]
        · rw [hsz]; omega
    · rw [if_neg hn]
      exact .inr ⟨3, by omega, rfl⟩
  · rw [e]
    simp only
    rw [if_neg hc]
    exact .inr ⟨c, hc, rfl⟩
/-- One number, read: the number, the place, whether it failed. -/
def numR (s : Str) (a : Nat) : Int × Str × Int × Bool := if (getNumZ s a).2.2 = 0 then ((getNumZ s a).1, s, (getNumZ s a).2.1, false) else (0, s, (a : Int), true)
theorem numR_cases (s : Str) (a : Nat) : (∃ n a', numR s a = (n, s, ((a' : Nat) : Int), false) ∧ Got s a n a') ∨ numR s a = (0, s, (a : Int), true) := by
  unfold numR
  rcases num_cases s a with ⟨n, a', e, g⟩ | ⟨c, hc, e⟩
  · left; exact ⟨n, a', by rw [e]; rfl, g⟩
  · right; rw [e, if_neg hc]
/-- One text, read: the text, the place, whether it failed. -/
def textR (s : Str) (a : Nat) : Str × Str × Int × Bool := if (getTextZ s a).2.2 = 0 then ((getTextZ s a).1, s, (getTextZ s a).2.1, false) else ([], s, (a : Int), true)
theorem textR_cases (s : Str) (a : Nat) : (∃ t a', textR s a = (t, s, ((a' : Nat) : Int), false) ∧ GotT s a t a') ∨ textR s a = ([], s, (a : Int), true) := by
  unfold textR
  rcases text_cases s a with ⟨n, a', e, g⟩ | ⟨c, hc, e⟩
  · left; exact ⟨n, a', by rw [e]; rfl, g⟩
  · right; rw [e, if_neg hc]
end Go.Proofs.YtaajcllchbnjiaaGreatE

namespace Go.Proofs.YtaajcllchbnjiaaGreatE
open Go
set_option linter.unusedVariables false
theorem beqd (a b : Int) : (a == b) = decide (a = b) := by rw [Bool.eq_iff_iff]; simp
theorem w8u (i : Nat) (h : i < 9223372036854775807) : IntKind.wrap .i64 ((i : Int) + 1) = ((i + 1 : Nat) : Int) := wsuc h
theorem half32 (r : Nat) : shr .u32 (r : Int) 1 = ((r / 2 : Nat) : Int) := shr_nat .u32 r 1 (by decide)
theorem sl0 : ∀ (n r j : Nat), n ≤ 8 → r < 4294967296 → n < j → spec_l01Crc.l0 j (r : Int) ((8 - n : Nat) : Int) = some ((crcBits n r : Nat) : Int)
  | n, r, 0, _, _, h => absurd h (Nat.not_lt_zero n)
  | 0, r, j + 1, _, _, _ => by
    unfold spec_l01Crc.l0
    rfl
  | n + 1, r, j + 1, hn, hr, hj => by
    have e : IntKind.wrap .i64 (((8 - (n + 1) : Nat) : Int) + 1) = ((8 - n : Nat) : Int) := by rw [w64] <;> omega
    unfold spec_l01Crc.l0
    rw [decide_eq_true (by omega : (((8 - (n + 1) : Nat) : Int)) < 8), band1 _ hr, half32, e, nneg_some (by omega), beqd]
    simp only [cond_true, Option.bind_some]
    by_cases hp : r % 2 = 1
    · rw [decide_eq_true (by omega : ((r % 2 : Nat) : Int) = 1), show (3988292384 : Int) = ((3988292384 : Nat) : Int) from rfl, bx32 _ _ (by omega) (by omega)]
      have e2 : crcBit r = r / 2 ^^^ 3988292384 := by unfold crcBit; rw [if_pos hp]
      rw [cond_true, ← e2]
      exact sl0 n (crcBit r) j (by omega) (crcBit_lt hr) (by omega)
    · rw [decide_eq_false (by omega : ¬ (((r % 2 : Nat) : Int) = 1))]
      have e2 : crcBit r = r / 2 := by unfold crcBit; rw [if_neg hp]
      rw [cond_false, ← e2]
      exact sl0 n (crcBit r) j (by omega) (crcBit_lt hr) (by omega)
theorem sl1 (x : Str) (hx : x.length ≤ 140737488351232) (k : Nat) (hk : 9 ≤ k) : ∀ (d i r j : Nat), x.length - i = d → i ≤ x.length → r < 4294967296 → d < j → spec_l01Crc.l1 k j x (r : Int) (i : Int) = some ((crcRun (x.drop i) r : Nat) : Int)
  | d, i, r, 0, _, _, _, h => absurd h (Nat.not_lt_zero d)
  | 0, i, r, j + 1, hd, hi, hr, _ => by
    unfold spec_l01Crc.l1
    rw [decide_eq_false (by omega : ¬ ((i : Int) < (x.length : Int))), List.drop_eq_nil_of_le (by omega)]
    rfl
  | d + 1, i, r, j + 1, hd, hi, hr, hj => by
    have hlt : i < x.length := by omega
    have hc := byte_lt x[i]
    unfold spec_l01Crc.l1
    rw [decide_eq_true (by omega : (i : Int) < (x.length : Int)), at_nat hlt]
    simp only [cond_true, Option.bind_some]
    have hxr := x32 hr (show x[i].toNat < 4294967296 by omega)
    rw [u32w, show (((x[i].toNat : Nat) : Int) % 4294967296) = ((x[i].toNat : Nat) : Int) by omega, bx32 _ _ hr (by omega), wsuc (by omega)]
    have h8 := sl0 8 (r ^^^ x[i].toNat) k (Nat.le_refl _) hxr (by omega)
    have h8 : spec_l01Crc.l0 k ((r ^^^ x[i].toNat : Nat) : Int) 0 = some ((crcBits 8 (r ^^^ x[i].toNat) : Nat) : Int) := h8
    rw [h8, List.drop_eq_getElem_cons hlt]
    simp only [Option.bind_some]
    exact sl1 x hx k hk d (i + 1) _ j (by omega) (by omega) (crcBits_lt 8 hxr) (by omega)
theorem sCrc (c : Nat) (s : Str) (hc : c < 4294967296) (hs : s.length ≤ 140737488351232) : Ever fun k => spec_l01Crc k (c : Int) s = some ((crcOf c s : Nat) : Int) := by
  refine Ever.ge (s.length + 9) fun k hk => ?_
  have h := sl1 s hs k (by omega) s.length 0 (c ^^^ 4294967295) k (by omega) (by omega) (x32 hc (by omega)) (by omega)
  have h : spec_l01Crc.l1 k k s ((c ^^^ 4294967295 : Nat) : Int) 0 = some ((crcRun s (c ^^^ 4294967295) : Nat) : Int) := h
  unfold spec_l01Crc
  rw [u32w, show ((c : Int) % 4294967296) = (c : Int) by omega, show (4294967295 : Int) = ((4294967295 : Nat) : Int) from rfl, bx32 _ _ hc (by omega), h]
  simp only [Option.bind_some]
  have hl := crcRun_lt s (x32 hc (show 4294967295 < 4294967296 by omega))
  have hl2 := x32 hl (show 4294967295 < 4294967296 by omega)
  rw [bx32 _ _ hl (by omega), w64 (by omega) (by omega)]
  rfl
theorem il0 (x : Str) (i : Nat) (hi : i < x.length) : ∀ (n s r j : Nat), n ≤ 8 → s < 4294967296 → r = s ^^^ (x[i].toNat / 2 ^ (8 - n)) → n < j → impl_crcMore.l0 j x (r : Int) (i : Int) ((8 - n : Nat) : Int) = some ((crcBits n s : Nat) : Int)
  | n, s, r, 0, _, _, _, h => absurd h (Nat.not_lt_zero n)
  | 0, s, r, j + 1, _, _, hr, _ => by
    have hc := byte_lt x[i]
    have : x[i].toNat / 2 ^ (8 - 0) = 0 := Nat.div_eq_of_lt (by simpa using hc)
    rw [this, Nat.xor_zero] at hr
    subst hr
    unfold impl_crcMore.l0
    rfl
  | n + 1, s, r, j + 1, hn, hs, hr, hj => by
    have hc := byte_lt x[i]
    have e : IntKind.wrap .i64 (((8 - (n + 1) : Nat) : Int) + 1) = ((8 - n : Nat) : Int) := by rw [w64] <;> omega
    have ih := il0 x i hi n (crcBit s)
    unfold impl_crcMore.l0
    rw [decide_eq_true (by omega : (((8 - (n + 1) : Nat) : Int)) < 8), at_nat hi]
    simp only [cond_true, Option.bind_some]
    generalize x[i].toNat = c at hc hr ih ⊢
    have hcd : c / 2 ^ (8 - (n + 1)) < 256 := Nat.lt_of_le_of_lt (Nat.div_le_self _ _) hc
    have hrl : r < 4294967296 := by rw [hr]; exact x32 hs (by omega)
    have hsr : r ^^^ (c / 2 ^ (8 - (n + 1))) = s := by rw [hr, Nat.xor_assoc, Nat.xor_self, Nat.xor_zero]
    have hhalf : r / 2 = s / 2 ^^^ (c / 2 ^ (8 - n)) := by
      have e1 : c / 2 ^ (8 - n) = (c / 2 ^ (8 - (n + 1))) / 2 := by rw [Nat.div_div_eq_div_mul, ← Nat.pow_succ]; congr 2; omega
      rw [hr, e1]
      have := @Nat.shiftRight_xor_distrib 1 s (c / 2 ^ (8 - (n + 1)))
      simpa [Nat.shiftRight_eq_div_pow] using this
    rw [u32w, show ((c : Int) % 4294967296) = (c : Int) by omega, shr_nat .u32 c (8 - (n + 1)) (by show 8 - (n + 1) ≤ 32; omega), bx32 _ _ hrl (by omega), hsr, band1 _ hs, half32, e, nneg_some (by omega), nneg_some (by omega), beqd]
    simp only [Option.bind_some]
    by_cases hp : s % 2 = 1
    · rw [decide_eq_true (by omega : ((s % 2 : Nat) : Int) = 1), show (3988292384 : Int) = ((3988292384 : Nat) : Int) from rfl, bx32 _ _ (by omega) (by omega), cond_true]
      refine ih _ j (by omega) (crcBit_lt hs) ?_ (by omega)
      unfold crcBit
      rw [if_pos hp, hhalf, Nat.xor_assoc, Nat.xor_assoc, Nat.xor_comm (c / 2 ^ (8 - n))]
    · rw [decide_eq_false (by omega : ¬ (((s % 2 : Nat) : Int) = 1)), cond_false]
      refine ih _ j (by omega) (crcBit_lt hs) ?_ (by omega)
      unfold crcBit
      rw [if_neg hp, hhalf]
theorem il1 (x : Str) (hx : x.length ≤ 140737488351232) (k : Nat) (hk : 9 ≤ k) : ∀ (d i r j : Nat), x.length - i = d → i ≤ x.length → r < 4294967296 → d < j → impl_crcMore.l1 k j x (r : Int) (x.length : Int) (i : Int) = some ((crcRun (x.drop i) r : Nat) : Int)
  | d, i, r, 0, _, _, _, h => absurd h (Nat.not_lt_zero d)
  | 0, i, r, j + 1, hd, hi, hr, _ => by
    unfold impl_crcMore.l1
    rw [decide_eq_false (by omega : ¬ ((i : Int) < (x.length : Int))), List.drop_eq_nil_of_le (by omega)]
    rfl
  | d + 1, i, r, j + 1, hd, hi, hr, hj => by
    have hlt : i < x.length := by omega
    have hc := byte_lt x[i]
    unfold impl_crcMore.l1
    rw [decide_eq_true (by omega : (i : Int) < (x.length : Int))]
    have hxr := x32 hr (show x[i].toNat < 4294967296 by omega)
    have h8 := il0 x i hlt 8 (r ^^^ x[i].toNat) r k (Nat.le_refl _) hxr (by simp [Nat.xor_assoc]) (by omega)
    have h8 : impl_crcMore.l0 k x (r : Int) (i : Int) 0 = some ((crcBits 8 (r ^^^ x[i].toNat) : Nat) : Int) := h8
    rw [h8, List.drop_eq_getElem_cons hlt]
    simp only [cond_true, Option.bind_some]
    rw [wsuc (by omega)]
    exact il1 x hx k hk d (i + 1) _ j (by omega) (by omega) (crcBits_lt 8 hxr) (by omega)
theorem iCrc (c : Nat) (s : Str) (hc : c < 4294967296) (hs : s.length ≤ 140737488351232) : Ever fun k => impl_crcMore k (c : Int) s = some ((crcOf c s : Nat) : Int) := by
  refine Ever.ge (s.length + 9) fun k hk => ?_
  have h := il1 s hs k (by omega) s.length 0 (c ^^^ 4294967295) k (by omega) (by omega) (x32 hc (by omega)) (by omega)
  have h : impl_crcMore.l1 k k s ((c ^^^ 4294967295 : Nat) : Int) (s.length : Int) 0 = some ((crcRun s (c ^^^ 4294967295) : Nat) : Int) := h
  unfold impl_crcMore
  rw [show (IntKind.max .u32 : Int) = ((4294967295 : Nat) : Int) from rfl, bx32 _ _ (by omega) hc, Nat.xor_comm, h]
  simp only [Option.bind_some]
  have hl := crcRun_lt s (x32 hc (show 4294967295 < 4294967296 by omega))
  rw [bx32 _ _ (by omega) hl, Nat.xor_comm]
  rfl
theorem sFour (n : Nat) : spec_l01Four (n : Int) = some (four n) := by
  unfold spec_l01Four four
  have h8 := shr_nat .i64 n 8 (by decide)
  have h16 := shr_nat .i64 n 16 (by decide)
  have h24 := shr_nat .i64 n 24 (by decide)
  have h8 : shr .i64 (n : Int) 8 = ((n / 256 : Nat) : Int) := h8
  have h16 : shr .i64 (n : Int) 16 = ((n / 65536 : Nat) : Int) := h16
  have h24 : shr .i64 (n : Int) 24 = ((n / 16777216 : Nat) : Int) := h24
  rw [nneg_some (by omega), nneg_some (by omega), nneg_some (by omega)]
  simp only [Option.bind_some]
  rw [h8, h16, h24, u8w, u8w, u8w, u8w]
  rfl
theorem sSeal (s : Str) (hs : s.length ≤ 7996) : Ever fun k => spec_Seal k s = some (sealOf s) := by
  refine (sCrc 0 s (by omega) (by omega)).mono fun k h => ?_
  have h : spec_l01Crc k 0 s = some ((crcOf 0 s : Nat) : Int) := h
  unfold spec_Seal
  rw [decide_eq_false (by omega : ¬ (7996 < (s.length : Int))), h]
  simp only [cond_false, Option.bind_some]
  rw [sFour]
  simp only [Option.bind_some]
  rw [cat_some (by rw [four_len]; omega)]
  rfl
theorem iSeal (s : Str) (hs : s.length ≤ 140737488351232) : Ever fun k => impl_seal k s = some (sealOf s) := by
  refine (iCrc 0 s (by omega) (by omega)).mono fun k h => ?_
  have h : impl_crcMore k 0 s = some ((crcOf 0 s : Nat) : Int) := h
  have h8 := shr_nat .u32 (crcOf 0 s) 8 (by decide)
  have h16 := shr_nat .u32 (crcOf 0 s) 16 (by decide)
  have h24 := shr_nat .u32 (crcOf 0 s) 24 (by decide)
  have h8 : shr .u32 ((crcOf 0 s : Nat) : Int) 8 = ((crcOf 0 s / 256 : Nat) : Int) := h8
  have h16 : shr .u32 ((crcOf 0 s : Nat) : Int) 16 = ((crcOf 0 s / 65536 : Nat) : Int) := h16
  have h24 : shr .u32 ((crcOf 0 s : Nat) : Int) 24 = ((crcOf 0 s / 16777216 : Nat) : Int) := h24
  unfold impl_seal
  rw [h, nneg_some (by omega), nneg_some (by omega), nneg_some (by omega)]
  simp only [Option.bind_some]
  rw [h8, h16, h24, u8w, u8w, u8w, u8w]
  have e : listByte [((crcOf 0 s : Nat) : Int) % 256, ((crcOf 0 s / 256 : Nat) : Int) % 256, ((crcOf 0 s / 65536 : Nat) : Int) % 256, ((crcOf 0 s / 16777216 : Nat) : Int) % 256] = four (crcOf 0 s) := rfl
  rw [e, cat_some (by rw [four_len]; omega)]
  rfl
theorem beq_str (s t : Str) : (s == t) = decide (s = t) := by rw [Bool.eq_iff_iff]; simp
theorem iUnseal (s : Str) (hs : s.length ≤ 140737488351232) : Ever fun k => impl_unseal k s = some (unsealI s) := by
  refine (iSeal (bodyOf s) (by rw [body_len]; omega)).mono fun k h => ?_
  unfold impl_unseal unsealI
  by_cases h4 : s.length < 4
  · rw [decide_eq_true (by omega : (s.length : Int) < 4), if_pos h4]
    rfl
  · rw [decide_eq_false (by omega : ¬ ((s.length : Int) < 4)), if_neg h4, w64 (by omega) (by omega), show ((s.length : Int) - 4) = ((s.length - 4 : Nat) : Int) by omega]
    have hc := cut_ok (l := s) (i := 0) (j := s.length - 4) (by omega) (by omega)
    have hc : cut? s 0 ((s.length - 4 : Nat) : Int) = some (bodyOf s) := hc
    rw [hc]
    simp only [cond_false, Option.bind_some]
    rw [h]
    simp only [Option.bind_some, beq_str]
    by_cases he : sealOf (bodyOf s) = s
    · rw [if_pos he, decide_eq_true he]; rfl
    · rw [if_neg he, decide_eq_false he]; rfl
theorem sUnseal (s : Str) (hs : s.length ≤ 8000) : Ever fun k => spec_Unseal k s = some ((unsealI s).1, 0, (unsealI s).2) := by
  refine (sCrc 0 (bodyOf s) (by omega) (by rw [body_len]; omega)).mono fun k h => ?_
  have h : spec_l01Crc k 0 (bodyOf s) = some ((crcOf 0 (bodyOf s) : Nat) : Int) := h
  unfold spec_Unseal unsealI
  rw [decide_eq_false (by omega : ¬ (8000 < (s.length : Int)))]
  by_cases h4 : s.length < 4
  · rw [decide_eq_true (by omega : (s.length : Int) < 4), if_pos h4]
    rfl
  · rw [decide_eq_false (by omega : ¬ ((s.length : Int) < 4)), if_neg h4, w64 (by omega) (by omega), show ((s.length : Int) - 4) = ((s.length - 4 : Nat) : Int) by omega]
    have hc := cut_ok (l := s) (i := 0) (j := s.length - 4) (by omega) (by omega)
    have hc : cut? s 0 ((s.length - 4 : Nat) : Int) = some (bodyOf s) := hc
    have hd := cut_ok (l := s) (i := s.length - 4) (j := s.length) (by omega) (by omega)
    rw [List.take_length] at hd
    simp only [cond_false]
    rw [hc]
    simp only [cond_false, Option.bind_some]
    rw [h]
    simp only [Option.bind_some]
    rw [sFour, hd]
    simp only [Option.bind_some, beq_str]
    by_cases he : sealOf (bodyOf s) = s
    · rw [if_pos he, decide_eq_true ((tail_iff s).2 he)]; rfl
    · rw [if_neg he, decide_eq_false (fun q => he ((tail_iff s).1 q))]; rfl
end Go.Proofs.YtaajcllchbnjiaaGreatE

namespace Go.Proofs.YtaajcllchbnjiaaGreatE
open Go
set_option linter.unusedVariables false
theorem sFold (n : Int) (h : Num n) : spec_l01Fold n = some ((zig n : Nat) : Int) := by
  unfold Num at h
  unfold spec_l01Fold zig
  simp only [u64w]
  by_cases hn : n < 0
  · rw [decide_eq_true hn, if_pos hn, w64 (n := n + 1) (by omega) (by omega), w64 (by omega) (by omega)]
    rw [cond_true]
    congr 1
    omega
  · rw [decide_eq_false hn, if_neg hn, cond_false]
    congr 1
    omega
theorem sput : ∀ (f u : Nat) (acc : List Int) (j : Nat), u < 128 ^ f → u < 18446744073709551616 → acc.length + f ≤ 100 → 0 < f → f < j + 1 → ∃ p : Int × List Int, spec_PutNum.l0 j (u : Int) acc = some p ∧ p.2.length ≤ 100 ∧ p.2 ++ [IntKind.wrap .u8 p.1] = acc ++ groups f u
  | 0, _, _, _, _, _, _, h, _ => absurd h (by omega)
  | f + 1, u, acc, 0, hu, hb, hl, _, hj => by omega
  | f + 1, u, acc, j + 1, hu, hb, hl, _, hj => by
    unfold spec_PutNum.l0
    by_cases h : 128 ≤ u
    · have hf : 0 < f := by
        rcases Nat.eq_zero_or_pos f with rfl | h'
        · simp at hu; omega
        · exact h'
      obtain ⟨p, e, e1, e2⟩ := sput f (u / 128) (acc ++ [((u % 128 + 128 : Nat) : Int)]) j (by rw [Nat.pow_succ] at hu; exact Nat.div_lt_of_lt_mul (by rw [Nat.mul_comm]; exact hu)) (by omega) (by simp; omega) hf (by omega)
      refine ⟨p, ?_, e1, ?_⟩
      · rw [decide_eq_true (by omega : (128 : Int) ≤ (u : Int)), nz_some (by omega : (128 : Int) ≠ 0)]
        simp only [cond_true, Option.bind_some]
        rw [app_ok (by simp; omega), u8w, u64w, u64w, Int.tmod_eq_emod_of_nonneg (by omega), Int.tdiv_eq_ediv_of_nonneg (by omega)]
        simp only [Option.bind_some]
        rw [show (((u : Int) / 128) % 18446744073709551616) = ((u / 128 : Nat) : Int) by omega, show ((((u : Int) % 128 + 128) % 18446744073709551616) % 256) = ((u % 128 + 128 : Nat) : Int) by omega]
        exact e
      · rw [e2, List.append_assoc]
        simp [groups, h]
    · refine ⟨((u : Int), acc), ?_, by show acc.length ≤ 100; omega, ?_⟩
      · rw [decide_eq_false (by omega : ¬ ((128 : Int) ≤ (u : Int)))]
        rfl
      · show acc ++ [IntKind.wrap .u8 (u : Int)] = _
        rw [u8w, show ((u : Int) % 256) = (u : Int) by omega]
        simp [groups, h]
theorem sPutNum (n : Int) (h : Num n) : Ever fun k => spec_PutNum k n = some (putOf n) := by
  refine Ever.ge 10 fun k hk => ?_
  have hz := zig_lt h
  obtain ⟨p, e, e1, e2⟩ := sput 10 (zig n) [] k (by omega) hz (by simp) (by omega) (by omega)
  unfold spec_PutNum
  rw [sFold n h]
  simp only [Option.bind_some]
  rw [e]
  simp only [Option.bind_some]
  rw [app_ok (by simp; omega), e2]
  rfl
theorem drop_cases (s : Str) (j : Nat) : (s.drop j = [] ∧ s.length ≤ j) ∨ ∃ h : j < s.length, s.drop j = s[j] :: s.drop (j + 1) := by
  by_cases h : j < s.length
  · exact .inr ⟨h, List.drop_eq_getElem_cons h⟩
  · exact .inl ⟨List.drop_eq_nil_of_le (by omega), by omega⟩
theorem sgn (s : Str) (hs : s.length ≤ 140737488351232) (a : Nat) (ha : a < 9223372036854775000) : ∀ (f i u j : Nat), i + f = 10 → i ≤ 9 → u < 128 ^ i → (0 < i → a + i ≤ s.length) → f < j → spec_GetNum.l0 j s (a : Int) (u : Int) (i : Int) 0 0 0 = some (.inr (fin a (gn f i u (s.drop (a + i)))))
  | f, i, u, 0, _, _, _, _, h => absurd h (Nat.not_lt_zero f)
  | 0, i, u, j + 1, hf, h9, hu, hz, _ => by omega
  | f + 1, i, u, j + 1, hf, hi9, hu, hz, hj => by
    unfold spec_GetNum.l0
    rw [decide_eq_true (by omega : (i : Int) < 10), w64 (n := (s.length : Int) - (i : Int)) (by omega) (by omega), cond_true]
    rcases drop_cases s (a + i) with ⟨hd, hlen⟩ | ⟨hlt, hd⟩
    · rw [decide_eq_true (by omega : (s.length : Int) - (i : Int) ≤ (a : Int)), hd]
      rfl
    · rw [decide_eq_false (by omega : ¬ ((s.length : Int) - (i : Int) ≤ (a : Int))), w64 (n := (a : Int) + (i : Int)) (by omega) (by omega), show ((a : Int) + (i : Int)) = ((a + i : Nat) : Int) by omega]
      simp only [cond_false]
      rw [at_nat hlt, hd]
      simp only [Option.bind_some, gn]
      have hb := byte_lt s[a + i]
      have ih := fun u' => sgn s hs a ha f (i + 1) u' j
      generalize s[a + i].toNat = b at hb ⊢
      rw [u64w (b : Int), show ((b : Int) % 18446744073709551616) = (b : Int) by omega, beqd, nz_some (by omega : (128 : Int) ≠ 0)]
      by_cases h9 : i = 9 ∧ 1 < b
      · rw [decide_eq_true (by omega : (i : Int) = 9), decide_eq_true (by omega : (1 : Int) < (b : Int)), if_pos h9]
        rfl
      · rw [if_neg h9, show (decide ((i : Int) = 9) && decide ((1 : Int) < (b : Int))) = false by
          by_cases h : i = 9
          · rw [decide_eq_false (by omega : ¬ ((1 : Int) < (b : Int))), Bool.and_false]
          · rw [decide_eq_false (by omega : ¬ ((i : Int) = 9))]; rfl]
        have hb9 : i = 9 → b ≤ 1 := fun h => by
          rcases Nat.lt_or_ge 1 b with h1 | h1
          · exact absurd ⟨h, h1⟩ h9
          · exact h1
        have hsl := sum_lt (b := b) (show i ≤ 9 by omega) hu hb9
        have hv : IntKind.wrap .u64 ((u : Int) + shl .u64 (Int.tmod (b : Int) 128) (IntKind.wrap .u64 (IntKind.wrap .i64 (7 * (i : Int))))) = ((u + b % 128 * 128 ^ i : Nat) : Int) := by
          rw [w64 (by omega) (by omega), u64w (7 * (i : Int)), show (7 * (i : Int)) % 18446744073709551616 = ((7 * i : Nat) : Int) by omega, Int.tmod_eq_emod_of_nonneg (by omega), show (b : Int) % 128 = ((b % 128 : Nat) : Int) by omega, shl_eq (by omega) hb9, u64w]
          omega
        have hn : nneg? (IntKind.wrap .u64 (IntKind.wrap .i64 (7 * (i : Int)))) = some () := nneg_some (by rw [u64w]; omega)
        simp only [cond_false, Option.bind_some]
        rw [hn]
        simp only [Option.bind_some]
        rw [hv]
        by_cases h128 : 128 ≤ b
        · have hi8 : i ≤ 8 := by
            by_cases h : i = 9
            · have := hb9 h; omega
            · omega
          rw [decide_eq_false (by omega : ¬ ((b : Int) < 128)), if_pos h128, cond_false, wsuc (by omega), show a + i + 1 = a + (i + 1) by omega]
          exact ih _ (by omega) (by omega) (step_lt hi8 hu) (fun _ => by omega) (by omega)
        · rw [decide_eq_true (by omega : ((b : Int) < 128)), if_neg h128, cond_true, beqd]
          by_cases h0 : b = 0 ∧ 0 < i
          · rw [decide_eq_true (by omega : (b : Int) = 0), decide_eq_true (by omega : (0 : Int) < (i : Int)), if_pos h0]
            rfl
          · rw [if_neg h0, show (decide ((b : Int) = 0) && decide ((0 : Int) < (i : Int))) = false by
              by_cases h : b = 0
              · rw [decide_eq_false (by omega : ¬ ((0 : Int) < (i : Int))), Bool.and_false]
              · rw [decide_eq_false (by omega : ¬ ((b : Int) = 0))]; rfl]
            generalize u + b % 128 * 128 ^ i = v at hsl
            have e2 : IntKind.wrap .i64 (IntKind.wrap .u64 (Int.tdiv (v : Int) 2)) = ((v / 2 : Nat) : Int) := by
              rw [Int.tdiv_eq_ediv_of_nonneg (by omega), u64w, w64 (by omega) (by omega)]
              omega
            rw [cond_false, nz_some (by omega : (2 : Int) ≠ 0)]
            simp only [Option.bind_some]
            rw [wsuc (by omega), e2, Int.tmod_eq_emod_of_nonneg (by omega), beqd]
            unfold fin unz
            by_cases hp : v % 2 = 1
            · rw [decide_eq_true (by omega : (v : Int) % 2 = 1), if_pos hp, w64 (n := 0 - ((v / 2 : Nat) : Int)) (by omega) (by omega), w64 (by omega) (by omega), cond_true, show (0 - ((v / 2 : Nat) : Int) - 1) = -((v / 2 : Nat) : Int) - 1 by omega]
              rfl
            · rw [decide_eq_false (by omega : ¬ ((v : Int) % 2 = 1)), if_neg hp]
              rfl
theorem ign (s : Str) (hs : s.length ≤ 140737488351232) (a : Nat) (ha : a < 9223372036854775000) : ∀ (f i u j : Nat), i + f = 10 → i ≤ 9 → u < 128 ^ i → (0 < i → a + i ≤ s.length) → f < j → impl_getNum.l0 j s (a : Int) (u : Int) (i : Int) = some (fin a (gn f i u (s.drop (a + i))))
  | f, i, u, 0, _, _, _, _, h => absurd h (Nat.not_lt_zero f)
  | 0, i, u, j + 1, hf, h9, hu, hz, _ => by omega
  | f + 1, i, u, j + 1, hf, hi9, hu, hz, hj => by
    unfold impl_getNum.l0
    rw [w64 (n := (s.length : Int) - (i : Int)) (by omega) (by omega)]
    rcases drop_cases s (a + i) with ⟨hd, hlen⟩ | ⟨hlt, hd⟩
    · rw [decide_eq_true (by omega : (s.length : Int) - (i : Int) ≤ (a : Int)), hd]
      rfl
    · rw [decide_eq_false (by omega : ¬ ((s.length : Int) - (i : Int) ≤ (a : Int))), w64 (n := (a : Int) + (i : Int)) (by omega) (by omega), show ((a : Int) + (i : Int)) = ((a + i : Nat) : Int) by omega]
      simp only [cond_false]
      rw [at_nat hlt, hd]
      simp only [Option.bind_some, gn]
      have hb := byte_lt s[a + i]
      have ih := fun u' => ign s hs a ha f (i + 1) u' j
      generalize s[a + i].toNat = b at hb ⊢
      rw [beqd]
      by_cases h9 : i = 9 ∧ 1 < b
      · rw [decide_eq_true (by omega : (i : Int) = 9), decide_eq_true (by omega : (1 : Int) < (b : Int)), if_pos h9]
        rfl
      · rw [if_neg h9, show (decide ((i : Int) = 9) && decide ((1 : Int) < (b : Int))) = false by
          by_cases h : i = 9
          · rw [decide_eq_false (by omega : ¬ ((1 : Int) < (b : Int))), Bool.and_false]
          · rw [decide_eq_false (by omega : ¬ ((i : Int) = 9))]; rfl]
        have hb9 : i = 9 → b ≤ 1 := fun h => by
          rcases Nat.lt_or_ge 1 b with h1 | h1
          · exact absurd ⟨h, h1⟩ h9
          · exact h1
        have hsl := sum_lt (b := b) (show i ≤ 9 by omega) hu hb9
        have hv : intBits .or .u64 (u : Int) (shl .u64 (IntKind.wrap .u64 (intBits .and .u8 (b : Int) 127)) (IntKind.wrap .i64 (7 * (i : Int)))) = ((u + b % 128 * 128 ^ i : Nat) : Int) := by
          rw [and127 b hb, u64w, show ((b % 128 : Nat) : Int) % 18446744073709551616 = ((b % 128 : Nat) : Int) by omega, w64 (by omega) (by omega), show (7 * (i : Int)) = ((7 * i : Nat) : Int) by omega, shl_eq (by omega) hb9, bor64 _ _ (by have := pow_le9 (show i ≤ 9 by omega); omega) (term_lt (by omega) hb9), or_sum hu]
        have hn : nneg? (IntKind.wrap .i64 (7 * (i : Int))) = some () := nneg_some (by rw [w64 (by omega) (by omega)]; omega)
        simp only [cond_false, Option.bind_some]
        rw [hn]
        simp only [Option.bind_some]
        rw [hv]
        by_cases h128 : 128 ≤ b
        · have hi8 : i ≤ 8 := by
            by_cases h : i = 9
            · have := hb9 h; omega
            · omega
          rw [decide_eq_true (by omega : ((127 : Int) < (b : Int))), if_pos h128, cond_true, wsuc (by omega), show a + i + 1 = a + (i + 1) by omega]
          exact ih _ (by omega) (by omega) (step_lt hi8 hu) (fun _ => by omega) (by omega)
        · rw [decide_eq_false (by omega : ¬ ((127 : Int) < (b : Int))), if_neg h128, cond_false, beqd]
          by_cases h0 : b = 0 ∧ 0 < i
          · rw [decide_eq_true (by omega : (b : Int) = 0), decide_eq_true (by omega : (0 : Int) < (i : Int)), if_pos h0]
            rfl
          · rw [if_neg h0, show (decide ((b : Int) = 0) && decide ((0 : Int) < (i : Int))) = false by
              by_cases h : b = 0
              · rw [decide_eq_false (by omega : ¬ ((0 : Int) < (i : Int))), Bool.and_false]
              · rw [decide_eq_false (by omega : ¬ ((b : Int) = 0))]; rfl]
            generalize u + b % 128 * 128 ^ i = v at hsl
            have e2 : shr .u64 (v : Int) 1 = ((v / 2 : Nat) : Int) := shr_nat .u64 v 1 (by decide)
            rw [cond_false, nneg_some (by omega : (0 : Int) ≤ 1)]
            simp only [Option.bind_some]
            rw [wsuc (by omega), e2, band64 v hsl, w64 (n := ((v / 2 : Nat) : Int)) (by omega) (by omega), beqd]
            unfold fin unz
            by_cases hp : v % 2 = 1
            · rw [decide_eq_true (by omega : ((v % 2 : Nat) : Int) = 1), if_pos hp, noti64 _ (by omega)]
              rfl
            · rw [decide_eq_false (by omega : ¬ (((v % 2 : Nat) : Int) = 1)), if_neg hp]
              rfl
section
variable (s : Str) (a : Nat) (ha : a < 9223372036854775000)
include ha
theorem iGet (hs : s.length ≤ 140737488351232) : Ever fun k => impl_getNum k s (a : Int) = some (getNumZ s a) := by
  refine Ever.ge 11 fun k hk => ?_
  have h := ign s hs a ha 10 0 0 k rfl (by omega) (by omega) (fun h => absurd h (by omega)) (by omega)
  have h : impl_getNum.l0 k s (a : Int) 0 0 = some (getNumZ s a) := h
  unfold impl_getNum
  rw [decide_eq_false (by omega : ¬ ((a : Int) < 0)), h]
  rfl
theorem sGet (hs : s.length ≤ 8000) : Ever fun k => spec_GetNum k s (a : Int) = some (getNumZ s a) := by
  refine Ever.ge 11 fun k hk => ?_
  have h := sgn s (by omega) a ha 10 0 0 k rfl (by omega) (by omega) (fun h => absurd h (by omega)) (by omega)
  have h : spec_GetNum.l0 k s (a : Int) 0 0 0 0 0 = some (.inr (getNumZ s a)) := h
  unfold spec_GetNum
  rw [decide_eq_false (by omega : ¬ (8000 < (s.length : Int))), decide_eq_false (by omega : ¬ ((a : Int) < 0)), h]
  rfl
theorem iNum (hs : s.length ≤ 140737488351232) : Ever fun k => impl_reader_num k (s, ((a : Int), false)) = some (numR s a) := by
  refine (iGet s a ha hs).mono fun k h => ?_
  unfold impl_reader_num numR
  rw [h]
  rcases num_cases s a with ⟨n, a', e, g⟩ | ⟨c, hc, e⟩
  · rw [e]; rfl
  · rw [e, if_neg hc]
    simp only [Option.bind_some]
    rw [show (c != 0) = true by simpa using hc]
    rfl
theorem sNum (hs : s.length ≤ 8000) : Ever fun k => spec_l06Reader_num k (s, ((a : Int), false)) = some (numR s a) := by
  refine (sGet s a ha hs).mono fun k h => ?_
  unfold spec_l06Reader_num numR
  rw [h]
  rcases num_cases s a with ⟨n, a', e, g⟩ | ⟨c, hc, e⟩
  · rw [e]; rfl
  · rw [e, if_neg hc]
    simp only [Option.bind_some]
    rw [show (c != 0) = true by simpa using hc]
    rfl
theorem sNumF (hs : s.length ≤ 8000) : Ever fun k => spec_l06Reader_num k (s, ((a : Int), true)) = some (0, s, (a : Int), true) := by
  refine (sGet s a ha hs).mono fun k h => ?_
  unfold spec_l06Reader_num
  rw [h]
  rfl
theorem iNumF (hs : s.length ≤ 140737488351232) : ∃ (n : Int) (a' : Nat), (Ever fun k => impl_reader_num k (s, ((a : Int), true)) = some (n, s, (a' : Int), true)) ∧ a' ≤ max a s.length := by
  rcases num_cases s a with ⟨n, a', e, g⟩ | ⟨c, hc, e⟩
  · refine ⟨n, a', (iGet s a ha hs).mono fun k h => ?_, ?_⟩
    · unfold impl_reader_num
      rw [h, e]
      rfl
    · have := g.le; omega
  · refine ⟨0, a, (iGet s a ha hs).mono fun k h => ?_, by omega⟩
    unfold impl_reader_num
    rw [h, e]
    simp only [Option.bind_some]
    rw [show (c != 0) = true by simpa using hc]
    rfl
end
end Go.Proofs.YtaajcllchbnjiaaGreatE

namespace Go.Proofs.YtaajcllchbnjiaaGreatE
open Go
set_option linter.unusedVariables false
theorem sPutText (s : Str) (h : s.length ≤ 8000) : Ever fun k => spec_PutText k s = some (putTextOf s) := by
  refine (sPutNum (s.length : Int) ⟨by omega, by omega⟩).mono fun k hk => ?_
  have := putOf_len (s.length : Int)
  unfold spec_PutText
  rw [decide_eq_false (by omega : ¬ (8000 < (s.length : Int))), hk]
  simp only [cond_false, Option.bind_some]
  rw [cat_some (by omega)]
  rfl
section
variable (s : Str) (a : Nat) (ha : a < 9223372036854775000)
include ha
theorem sGetText (hs : s.length ≤ 8000) : Ever fun k => spec_GetText k s (a : Int) = some (getTextZ s a) := by
  refine (sGet s a ha hs).mono fun k h => ?_
  unfold spec_GetText getTextZ
  rw [h]
  rcases num_cases s a with ⟨n, a', e, g⟩ | ⟨c, hc, e⟩
  · rw [e]
    simp only [if_true, Option.bind_some]
    have hle := g.le
    rw [show ((0 : Int) != 0) = false from rfl, cond_false]
    by_cases hn : 0 ≤ n ∧ n ≤ 8000
    · rw [decide_eq_false (by omega : ¬ (n < 0)), decide_eq_false (by omega : ¬ (8000 < n)), if_pos hn, w64 (n := (s.length : Int) - n) (by omega) (by omega), w64 (n := (a' : Int) + n) (by omega) (by omega)]
      by_cases hq : n > (s.length : Int) - (a' : Int)
      · rw [decide_eq_true (by omega : (s.length : Int) - n < (a' : Int)), if_pos hq]
        rfl
      · rw [decide_eq_false (by omega : ¬ ((s.length : Int) - n < (a' : Int))), if_neg hq]
        obtain ⟨m, rfl⟩ : ∃ m : Nat, n = (m : Int) := ⟨n.toNat, by omega⟩
        rw [show ((a' : Int) + (m : Int)) = ((a' + m : Nat) : Int) by omega]
        have hc := cut_ok (l := s) (i := a') (j := a' + m) (by omega) (by omega)
        simp only [Bool.or_false, cond_false]
        rw [hc]
        rfl
    · rw [if_neg hn, show (decide (n < 0) || decide (8000 < n)) = true by
        by_cases h0 : n < 0
        · rw [decide_eq_true h0]; rfl
        · rw [decide_eq_true (by omega : 8000 < n), Bool.or_true]]
      rfl
  · rw [e]
    simp only [Option.bind_some]
    rw [if_neg hc, show (c != 0) = true by simpa using hc]
    rfl
theorem iGetText (hs : s.length ≤ 140737488351232) : Ever fun k => impl_getText k s (a : Int) = some (getTextZ s a) := by
  refine (iGet s a ha hs).mono fun k h => ?_
  unfold impl_getText getTextZ
  rw [h]
  rcases num_cases s a with ⟨n, a', e, g⟩ | ⟨c, hc, e⟩
  · rw [e]
    simp only [if_true, Option.bind_some]
    have hle := g.le
    rw [show ((0 : Int) != 0) = false from rfl, cond_false]
    unfold impl_within
    simp only [Option.bind_some]
    by_cases hn : 0 ≤ n ∧ n ≤ 8000
    · rw [decide_eq_true (by omega : 0 ≤ n), decide_eq_true (by omega : n ≤ 8000), if_pos hn, w64 (n := (s.length : Int) - (a' : Int)) (by omega) (by omega), w64 (n := (a' : Int) + n) (by omega) (by omega)]
      by_cases hq : n > (s.length : Int) - (a' : Int)
      · rw [decide_eq_true (by omega : (s.length : Int) - (a' : Int) < n), if_pos hq]
        rfl
      · rw [decide_eq_false (by omega : ¬ ((s.length : Int) - (a' : Int) < n)), if_neg hq]
        obtain ⟨m, rfl⟩ : ∃ m : Nat, n = (m : Int) := ⟨n.toNat, by omega⟩
        rw [show ((a' : Int) + (m : Int)) = ((a' + m : Nat) : Int) by omega]
        have hc := cut_ok (l := s) (i := a') (j := a' + m) (by omega) (by omega)
        simp only [Bool.and_true, Bool.not_true, cond_false]
        rw [hc]
        rfl
    · rw [if_neg hn, show (decide (0 ≤ n) && decide (n ≤ 8000)) = false by
        by_cases h0 : 0 ≤ n
        · rw [decide_eq_false (by omega : ¬ (n ≤ 8000)), Bool.and_false]
        · rw [decide_eq_false h0]; rfl]
      rfl
  · rw [e]
    simp only [Option.bind_some]
    rw [if_neg hc, show (c != 0) = true by simpa using hc]
    rfl
theorem iWord (hs : s.length ≤ 140737488351232) : Ever fun k => impl_reader_word k (s, ((a : Int), false)) = some (textR s a) := by
  refine (iGetText s a ha hs).mono fun k h => ?_
  unfold impl_reader_word textR
  rw [h]
  rcases text_cases s a with ⟨n, a', e, g⟩ | ⟨c, hc, e⟩
  · rw [e]; rfl
  · rw [e, if_neg hc]
    simp only [Option.bind_some]
    rw [show (c != 0) = true by simpa using hc]
    rfl
theorem sText (hs : s.length ≤ 8000) : Ever fun k => spec_l06Reader_text k (s, ((a : Int), false)) = some (textR s a) := by
  refine (sGetText s a ha hs).mono fun k h => ?_
  unfold spec_l06Reader_text textR
  rw [h]
  rcases text_cases s a with ⟨n, a', e, g⟩ | ⟨c, hc, e⟩
  · rw [e]; rfl
  · rw [e, if_neg hc]
    simp only [Option.bind_some]
    rw [show (c != 0) = true by simpa using hc]
    rfl
theorem sTextF (hs : s.length ≤ 8000) : Ever fun k => spec_l06Reader_text k (s, ((a : Int), true)) = some ([], s, (a : Int), true) := by
  refine (sGetText s a ha hs).mono fun k h => ?_
  unfold spec_l06Reader_text
  rw [h]
  rfl
theorem iWordF (hs : s.length ≤ 140737488351232) : ∃ (t : Str) (a' : Nat), (Ever fun k => impl_reader_word k (s, ((a : Int), true)) = some (t, s, (a' : Int), true)) ∧ a' ≤ max a s.length := by
  rcases text_cases s a with ⟨n, a', e, g⟩ | ⟨c, hc, e⟩
  · refine ⟨n, a', (iGetText s a ha hs).mono fun k h => ?_, ?_⟩
    · unfold impl_reader_word
      rw [h, e]
      rfl
    · have := g.le; omega
  · refine ⟨[], a, (iGetText s a ha hs).mono fun k h => ?_, by omega⟩
    unfold impl_reader_word
    rw [h, e]
    simp only [Option.bind_some]
    rw [show (c != 0) = true by simpa using hc]
    rfl
end
end Go.Proofs.YtaajcllchbnjiaaGreatE

namespace Go.Proofs.YtaajcllchbnjiaaGreatE
open Go
set_option linter.unusedVariables false
/-- Three numbers and a text from the start of s, and where they end. -/
def quadZ (s : Str) : Option (Int × Int × Int × Str × Nat) :=
  if (numR s 0).2.2.2 = true then none else
  if (numR s (numR s 0).2.2.1.toNat).2.2.2 = true then none else
  if (numR s (numR s (numR s 0).2.2.1.toNat).2.2.1.toNat).2.2.2 = true then none else
  if (textR s (numR s (numR s (numR s 0).2.2.1.toNat).2.2.1.toNat).2.2.1.toNat).2.2.2 = true then none else
  some ((numR s 0).1, (numR s (numR s 0).2.2.1.toNat).1, (numR s (numR s (numR s 0).2.2.1.toNat).2.2.1.toNat).1, (textR s (numR s (numR s (numR s 0).2.2.1.toNat).2.2.1.toNat).2.2.1.toNat).1, (textR s (numR s (numR s (numR s 0).2.2.1.toNat).2.2.1.toNat).2.2.1.toNat).2.2.1.toNat)
theorem head_whole {s : Str} {x y z : Int} {t : Str} {a b c d : Nat} (g1 : Got s 0 x a) (g2 : Got s a y b) (g3 : Got s b z c) (g4 : GotT s c t d) : putOf x ++ putOf y ++ putOf z ++ putTextOf t = s ↔ d = s.length := by
  have e1 := g1.eq
  have e2 := g2.eq
  have e3 := g3.eq
  have e4 := g4.eq
  rw [List.drop_zero] at e1
  constructor
  · intro h
    have h1 := congrArg List.length h
    rw [List.length_append, List.length_append, List.length_append] at h1
    have := g1.at'; have := g2.at'; have := g3.at'; have := g4.at'
    omega
  · rintro rfl
    rw [List.drop_of_length_le (l := s) (i := s.length) (Nat.le_refl _), List.append_nil] at e4
    rw [← e4, List.append_assoc, ← e3, List.append_assoc, ← e2, ← e1]
/-- What was found stands there. -/
theorem quad_got {s : Str} {x y z : Int} {t : Str} {d : Nat} (h : quadZ s = some (x, y, z, t, d)) : ∃ a b c, Got s 0 x a ∧ Got s a y b ∧ Got s b z c ∧ GotT s c t d := by
  unfold quadZ at h
  rcases numR_cases s 0 with ⟨x', a, e1, g1⟩ | e1
  · rw [e1] at h
    simp only [Int.toNat_natCast, Bool.false_eq_true, if_false] at h
    rcases numR_cases s a with ⟨y', b, e2, g2⟩ | e2
    · rw [e2] at h
      simp only [Int.toNat_natCast, Bool.false_eq_true, if_false] at h
      rcases numR_cases s b with ⟨z', c, e3, g3⟩ | e3
      · rw [e3] at h
        simp only [Int.toNat_natCast, Bool.false_eq_true, if_false] at h
        rcases textR_cases s c with ⟨t', d', e4, g4⟩ | e4
        · rw [e4] at h
          simp only [Int.toNat_natCast, Bool.false_eq_true, if_false, Option.some.injEq, Prod.mk.injEq] at h
          obtain ⟨rfl, rfl, rfl, rfl, rfl⟩ := h
          exact ⟨a, b, c, g1, g2, g3, g4⟩
        · rw [e4] at h; simp at h
      · rw [e3] at h; simp at h
    · rw [e2] at h; simp at h
  · rw [e1] at h; simp at h
/-- The reference reads them so. -/
def ReadsS (k : Nat) (s : Str) : Prop := ∃ v3 v4 v5 : Int × Str × Int × Bool, ∃ v6 : Str × Str × Int × Bool, spec_l06Reader_num k (s, (0, false)) = some v3 ∧ spec_l06Reader_num k v3.2 = some v4 ∧ spec_l06Reader_num k v4.2 = some v5 ∧ spec_l06Reader_text k v5.2 = some v6 ∧
  ((∃ x y z t d, quadZ s = some (x, y, z, t, d) ∧ v3.1 = x ∧ v4.1 = y ∧ v5.1 = z ∧ v6 = (t, s, ((d : Nat) : Int), false)) ∨ (quadZ s = none ∧ v6.2.2.2 = true))
/-- The program reads them so. -/
def ReadsI (k : Nat) (s : Str) : Prop := ∃ v3 v4 v5 : Int × Str × Int × Bool, ∃ v6 : Str × Str × Int × Bool, impl_reader_num k (s, (0, false)) = some v3 ∧ impl_reader_num k v3.2 = some v4 ∧ impl_reader_num k v4.2 = some v5 ∧ impl_reader_word k v5.2 = some v6 ∧
  ((∃ x y z t d, quadZ s = some (x, y, z, t, d) ∧ v3.1 = x ∧ v4.1 = y ∧ v5.1 = z ∧ v6 = (t, s, ((d : Nat) : Int), false)) ∨ (quadZ s = none ∧ v6.2.2.2 = true))
theorem readsS (s : Str) (hs : s.length ≤ 8000) : Ever fun k => ReadsS k s := by
  have f0 := sNum s 0 (by omega) hs
  rcases numR_cases s 0 with ⟨x, a, e1, g1⟩ | e1
  · have l1 := g1.le
    have f1 := sNum s a (by omega) hs
    rcases numR_cases s a with ⟨y, b, e2, g2⟩ | e2
    · have l2 := g2.le
      have f2 := sNum s b (by omega) hs
      rcases numR_cases s b with ⟨z, c, e3, g3⟩ | e3
      · have l3 := g3.le
        have f3 := sText s c (by omega) hs
        refine (((f0.and f1).and f2).and f3).mono fun k ⟨⟨⟨h0, h1⟩, h2⟩, h3⟩ => ⟨numR s 0, numR s a, numR s b, textR s c, h0, ?_, ?_, ?_, ?_⟩
        · rw [e1]; exact h1
        · rw [e2]; exact h2
        · rw [e3]; exact h3
        · rcases textR_cases s c with ⟨t, d, e4, g4⟩ | e4
          · refine .inl ⟨x, y, z, t, d, ?_, by rw [e1], by rw [e2], by rw [e3], e4⟩
            unfold quadZ
            simp [e1, e2, e3, e4]
          · refine .inr ⟨?_, by rw [e4]⟩
            unfold quadZ
            simp [e1, e2, e3, e4]
      · have f3 := sTextF s b (by omega) hs
        refine (((f0.and f1).and f2).and f3).mono fun k ⟨⟨⟨h0, h1⟩, h2⟩, h3⟩ => ⟨numR s 0, numR s a, numR s b, ([], s, (b : Int), true), h0, ?_, ?_, ?_, .inr ⟨?_, ?_⟩⟩
        · rw [e1]; exact h1
        · rw [e2]; exact h2
        · rw [e3]; exact h3
        · unfold quadZ
          simp [e1, e2, e3]
        · rfl
    · have f2 := sNumF s a (by omega) hs
      have f3 := sTextF s a (by omega) hs
      refine (((f0.and f1).and f2).and f3).mono fun k ⟨⟨⟨h0, h1⟩, h2⟩, h3⟩ => ⟨numR s 0, numR s a, (0, s, (a : Int), true), ([], s, (a : Int), true), h0, ?_, ?_, h3, .inr ⟨?_, rfl⟩⟩
      · rw [e1]; exact h1
      · rw [e2]; exact h2
      · unfold quadZ
        simp [e1, e2]
  · have f1 := sNumF s 0 (by omega) hs
    have f3 := sTextF s 0 (by omega) hs
    refine ((f0.and f1).and f3).mono fun k ⟨⟨h0, h1⟩, h3⟩ => ⟨numR s 0, (0, s, ((0 : Nat) : Int), true), (0, s, ((0 : Nat) : Int), true), ([], s, ((0 : Nat) : Int), true), h0, ?_, h1, h3, .inr ⟨?_, rfl⟩⟩
    · rw [e1]; exact h1
    · unfold quadZ
      simp [e1]
theorem readsI (s : Str) (hs : s.length ≤ 8000) : Ever fun k => ReadsI k s := by
  have f0 := iNum s 0 (by omega) (by omega)
  rcases numR_cases s 0 with ⟨x, a, e1, g1⟩ | e1
  · have l1 := g1.le
    have f1 := iNum s a (by omega) (by omega)
    rcases numR_cases s a with ⟨y, b, e2, g2⟩ | e2
    · have l2 := g2.le
      have f2 := iNum s b (by omega) (by omega)
      rcases numR_cases s b with ⟨z, c, e3, g3⟩ | e3
      · have l3 := g3.le
        have f3 := iWord s c (by omega) (by omega)
        refine (((f0.and f1).and f2).and f3).mono fun k ⟨⟨⟨h0, h1⟩, h2⟩, h3⟩ => ⟨numR s 0, numR s a, numR s b, textR s c, h0, ?_, ?_, ?_, ?_⟩
        · rw [e1]; exact h1
        · rw [e2]; exact h2
        · rw [e3]; exact h3
        · rcases textR_cases s c with ⟨t, d, e4, g4⟩ | e4
          · refine .inl ⟨x, y, z, t, d, ?_, by rw [e1], by rw [e2], by rw [e3], e4⟩
            unfold quadZ
            simp [e1, e2, e3, e4]
          · refine .inr ⟨?_, by rw [e4]⟩
            unfold quadZ
            simp [e1, e2, e3, e4]
      · obtain ⟨t3, a3, f3, _⟩ := iWordF s b (by omega) (by omega)
        refine (((f0.and f1).and f2).and f3).mono fun k ⟨⟨⟨h0, h1⟩, h2⟩, h3⟩ => ⟨numR s 0, numR s a, numR s b, (t3, s, (a3 : Int), true), h0, ?_, ?_, ?_, .inr ⟨?_, rfl⟩⟩
        · rw [e1]; exact h1
        · rw [e2]; exact h2
        · rw [e3]; exact h3
        · unfold quadZ
          simp [e1, e2, e3]
    · obtain ⟨n2, a2, f2, l2⟩ := iNumF s a (by omega) (by omega)
      obtain ⟨t3, a3, f3, _⟩ := iWordF s a2 (by omega) (by omega)
      refine (((f0.and f1).and f2).and f3).mono fun k ⟨⟨⟨h0, h1⟩, h2⟩, h3⟩ => ⟨numR s 0, numR s a, (n2, s, (a2 : Int), true), (t3, s, (a3 : Int), true), h0, ?_, ?_, h3, .inr ⟨?_, rfl⟩⟩
      · rw [e1]; exact h1
      · rw [e2]; exact h2
      · unfold quadZ
        simp [e1, e2]
  · obtain ⟨n1, a1, f1, l1⟩ := iNumF s 0 (by omega) (by omega)
    obtain ⟨n2, a2, f2, l2⟩ := iNumF s a1 (by omega) (by omega)
    obtain ⟨t3, a3, f3, _⟩ := iWordF s a2 (by omega) (by omega)
    refine (((f0.and f1).and f2).and f3).mono fun k ⟨⟨⟨h0, h1⟩, h2⟩, h3⟩ => ⟨numR s 0, (n1, s, (a1 : Int), true), (n2, s, (a2 : Int), true), (t3, s, (a3 : Int), true), h0, ?_, h2, h3, .inr ⟨?_, rfl⟩⟩
    · rw [e1]; exact h1
    · unfold quadZ
      simp [e1]
end Go.Proofs.YtaajcllchbnjiaaGreatE

namespace Go.Proofs.YtaajcllchbnjiaaGreatE
open Go
set_option linter.unusedVariables false
/-- A step is right, for so many blocks. -/
def stepB (k t f : Int) (d : Str) (n : Int) : Bool :=
  if k = 1 then decide (0 ≤ t) && decide (t ≤ n - 1) && decide (f = 0) && (d == [])
  else if k = 2 then decide (0 ≤ t) && decide (t ≤ n - 1) && decide (f = 0) && decide ((d.length : Int) = 8)
  else if k = 3 then decide (0 ≤ t) && decide (t ≤ n - 1) && (decide (0 ≤ f) && decide (f ≤ n - 1)) && (d == [])
  else if k = 4 then decide (0 ≤ t) && decide (t ≤ n - 1) && (decide (0 ≤ f) && decide (f ≤ n - 1)) && decide ((d.length : Int) = 8)
  else if k = 5 then decide (t = 0) && (decide (0 ≤ f) && decide (f ≤ 1000000)) && (d == [])
  else false
theorem sStep (k t f : Int) (d : Str) (n : Int) (h1 : 1 ≤ n) (h2 : n ≤ 8) : spec_StepRight (k, (t, (f, d))) n = some (stepB k t f d n) := by
  unfold spec_StepRight spec_l03Is stepB
  simp only [Option.bind_some]
  rw [w64 (n := n - 1) (by omega) (by omega), decide_eq_true h1, decide_eq_true h2]
  simp only [beqd]
  generalize (decide (0 ≤ t) && decide (t ≤ n - 1)) = P
  generalize (decide (0 ≤ f) && decide (f ≤ n - 1)) = Q
  generalize (decide (0 ≤ f) && decide (f ≤ 1000000)) = R
  generalize (d == ([] : Str)) = E
  generalize decide ((d.length : Int) = 8) = Z
  by_cases c1 : k = 1
  · subst c1; cases P <;> by_cases h : f = 0 <;> simp [h]
  by_cases c2 : k = 2
  · subst c2; cases P <;> by_cases h : f = 0 <;> simp [h]
  by_cases c3 : k = 3
  · subst c3; cases P <;> cases Q <;> simp
  by_cases c4 : k = 4
  · subst c4; cases P <;> cases Q <;> simp
  by_cases c5 : k = 5
  · subst c5; cases R <;> by_cases h : t = 0 <;> simp [h]
  simp [c1, c2, c3, c4, c5]
theorem sStepNo (k t f : Int) (d : Str) (n : Int) (h : ¬ (1 ≤ n ∧ n ≤ 8)) : spec_StepRight (k, (t, (f, d))) n = some false := by
  unfold spec_StepRight spec_l03Is
  simp only [Option.bind_some]
  rw [show (decide (1 ≤ n) && decide (n ≤ 8)) = false by rw [Bool.eq_false_iff, Ne, Bool.and_eq_true, decide_eq_true_eq, decide_eq_true_eq]; exact h]
  rfl
theorem iStep (k t f : Int) (d : Str) (n : Int) (h1 : 1 ≤ n) (h2 : n ≤ 8) : impl_isStep (k, (t, (f, d))) n = some (stepB k t f d n) := by
  have hw : IntKind.wrap .i64 (n - 1) = n - 1 := w64 (by omega) (by omega)
  unfold impl_isStep
  simp only [impl_within, impl_isTime, Option.bind_some, hw, impl_isStep.j0, impl_isStep.j1, stepB, beqd]
  generalize (decide (0 ≤ t) && decide (t ≤ n - 1)) = P
  generalize (decide (0 ≤ f) && decide (f ≤ n - 1)) = Q
  generalize (d == ([] : Str)) = E
  by_cases c1 : k = 1
  · subst c1; cases P <;> by_cases h : f = 0 <;> simp [h]
  by_cases c2 : k = 2
  · subst c2; cases P <;> by_cases h : f = 0 <;> simp [h]
  by_cases c3 : k = 3
  · subst c3; cases P <;> cases Q <;> simp
  by_cases c4 : k = 4
  · subst c4; cases P <;> cases Q <;> simp
  by_cases c5 : k = 5
  · subst c5; cases E <;> by_cases h : t = 0 <;> simp [h]
  have hk : (decide (1 ≤ k) && decide (k ≤ 5)) = false := by
    rw [Bool.eq_false_iff, Ne, Bool.and_eq_true, decide_eq_true_eq, decide_eq_true_eq]; omega
  simp [c1, c2, c3, c4, c5, hk]
theorem stepB_data {k t f : Int} {d : Str} {n : Int} (h : stepB k t f d n = true) : d.length ≤ 8 := by
  unfold stepB at h
  have e : (d == ([] : Str)) = true → d.length ≤ 8 := fun q => by
    rw [beq_str] at q
    rw [of_decide_eq_true q]; simp
  have e8 : decide ((d.length : Int) = 8) = true → d.length ≤ 8 := fun q => by
    have := of_decide_eq_true q; omega
  split at h
  · exact e ((Bool.and_eq_true _ _).mp h).2
  split at h
  · exact e8 ((Bool.and_eq_true _ _).mp h).2
  split at h
  · exact e ((Bool.and_eq_true _ _).mp h).2
  split at h
  · exact e8 ((Bool.and_eq_true _ _).mp h).2
  split at h
  · exact e ((Bool.and_eq_true _ _).mp h).2
  · cases h
/-- A step, read from the body of a text. -/
def stepOf (s : Str) : Option (Int × Int × Int × Str) := match quadZ s with
  | some (x, y, z, t, d) => if d = s.length ∧ stepB x y z t 8 = true then some (x, y, z, t) else none
  | none => none
theorem stepOf_right {s : Str} {x y z : Int} {t : Str} (h : stepOf s = some (x, y, z, t)) : stepB x y z t 8 = true := by
  unfold stepOf at h
  split at h
  · split at h
    · rename_i hq
      cases h
      exact hq.2
    · cases h
  · cases h
theorem puts4 (x y z : Int) (t : Str) (hx : Num x) (hy : Num y) (hz : Num z) (ht : t.length ≤ 8000) : Ever fun k => spec_PutNum k x = some (putOf x) ∧ spec_PutNum k y = some (putOf y) ∧ spec_PutNum k z = some (putOf z) ∧ spec_PutText k t = some (putTextOf t) :=
  ((sPutNum x hx).and ((sPutNum y hy).and ((sPutNum z hz).and (sPutText t ht))))
theorem sStepBytes (x y z : Int) (t : Str) (hx : Num x) (hy : Num y) (hz : Num z) (ht : t.length ≤ 8000) : Ever fun k => spec_StepBytes k (x, (y, (z, t))) = some (if stepB x y z t 8 = true then putOf x ++ putOf y ++ putOf z ++ putTextOf t else []) := by
  refine (puts4 x y z t hx hy hz ht).mono fun k ⟨h1, h2, h3, h4⟩ => ?_
  have l1 := putOf_len x
  have l2 := putOf_len y
  have l3 := putOf_len z
  have l4 := putTextOf_len t
  unfold spec_StepBytes
  rw [sStep x y z t 8 (by omega) (by omega)]
  simp only [Option.bind_some]
  by_cases hb : stepB x y z t 8 = true
  · rw [hb, if_pos rfl]
    unfold spec_l06Bytes
    simp only [Bool.not_true, cond_false]
    rw [h1, h2, h3, h4]
    simp only [Option.bind_some]
    rw [cat_some (by omega)]
    simp only [Option.bind_some]
    rw [cat_some (by simp; omega)]
    simp only [Option.bind_some]
    rw [cat_some (by simp; omega)]
    rfl
  · rw [if_neg hb, (Bool.eq_false_iff.2 hb : stepB x y z t 8 = false)]
    rfl
theorem empty_ne {s : Str} (h : 1 ≤ s.length) : (([] : Str) == s) = false := by
  cases s with
  | nil => exact absurd h (by simp)
  | cons _ _ => rfl
theorem sStepRead (s : Str) (hs : s.length ≤ 8000) : Ever fun k => spec_StepRead k s = some (match stepOf s with
    | some (x, y, z, t) => (x, y, z, t, 0)
    | none => (0, 0, 0, [], 3)) := by
  cases hq : quadZ s with
  | none =>
    refine (readsS s hs).mono fun k ⟨v3, v4, v5, v6, h3, h4, h5, h6, h⟩ => ?_
    have h7 : v6.2.2.2 = true := by
      rcases h with ⟨x, y, z, t, d, e, _⟩ | ⟨_, h⟩
      · rw [hq] at e; cases e
      · exact h
    unfold spec_StepRead stepOf
    rw [hq, decide_eq_false (by omega : ¬ (8000 < (s.length : Int)))]
    simp only [cond_false]
    rw [h3]
    simp only [Option.bind_some]
    rw [h4]
    simp only [Option.bind_some]
    rw [h5]
    simp only [Option.bind_some]
    rw [h6]
    simp only [Option.bind_some]
    rw [h7]
    rfl
  | some q =>
    obtain ⟨x, y, z, t, d⟩ := q
    obtain ⟨a, b, c, g1, g2, g3, g4⟩ := quad_got hq
    refine ((readsS s hs).and (sStepBytes x y z t g1.range g2.range g3.range g4.size)).mono fun k ⟨⟨v3, v4, v5, v6, h3, h4, h5, h6, h⟩, hb⟩ => ?_
    have h7 : v3.1 = x ∧ v4.1 = y ∧ v5.1 = z ∧ v6 = (t, s, ((d : Nat) : Int), false) := by
      rcases h with ⟨x', y', z', t', d', e, h⟩ | ⟨e, _⟩
      · rw [hq] at e; cases e; exact h
      · rw [hq] at e; cases e
    obtain ⟨i1, i2, i3, i4⟩ := h7
    unfold spec_StepRead stepOf
    rw [hq, decide_eq_false (by omega : ¬ (8000 < (s.length : Int)))]
    simp only [cond_false]
    rw [h3]
    simp only [Option.bind_some]
    rw [h4]
    simp only [Option.bind_some]
    rw [h5]
    simp only [Option.bind_some]
    rw [h6]
    simp only [Option.bind_some]
    rw [i1, i2, i3, i4]
    simp only [cond_false]
    rw [hb]
    simp only [Option.bind_some]
    by_cases hr : stepB x y z t 8 = true
    · rw [if_pos hr, beq_str]
      by_cases hd : d = s.length
      · rw [decide_eq_true ((head_whole g1 g2 g3 g4).2 hd), if_pos ⟨hd, hr⟩]
        rfl
      · rw [decide_eq_false (fun q => hd ((head_whole g1 g2 g3 g4).1 q)), if_neg (fun q => hd q.1)]
        rfl
    · have := g1.le
      have := g1.at'
      have := putOf_pos x
      rw [if_neg hr, if_neg (fun q => hr q.2), empty_ne (by omega)]
      rfl
theorem iStepRead (s : Str) (hs : s.length ≤ 8000) : Ever fun k => impl_stepRead k s = some (match stepOf s with
    | some (x, y, z, t) => (x, y, z, t, true)
    | none => (0, 0, 0, [], false)) := by
  refine (readsI s hs).mono fun k ⟨v3, v4, v5, v6, h3, h4, h5, h6, h⟩ => ?_
  unfold impl_stepRead impl_reader_step stepOf
  rw [h3]
  simp only [Option.bind_some]
  rw [h4]
  simp only [Option.bind_some]
  rw [h5]
  simp only [Option.bind_some]
  rw [h6]
  simp only [Option.bind_some]
  rcases h with ⟨x, y, z, t, d, e, i1, i2, i3, i4⟩ | ⟨e, h7⟩
  · rw [e, i1, i2, i3, i4]
    simp only [Bool.false_or]
    rw [iStep x y z t 8 (by omega) (by omega)]
    by_cases hd : d = s.length
    · rw [show (((d : Nat) : Int) != (s.length : Int)) = false by rw [hd]; simp]
      simp only [cond_false, Option.bind_some]
      by_cases hr : stepB x y z t 8 = true
      · rw [if_pos ⟨hd, hr⟩, hr]; rfl
      · rw [if_neg (fun q => hr q.2), Bool.eq_false_iff.2 hr]; rfl
    · rw [show (((d : Nat) : Int) != (s.length : Int)) = true by simp; omega, if_neg (fun q => hd q.1)]
      rfl
  · rw [e, h7]
    rfl
/-! ### heads -/
def headB (x y z : Int) (t : Str) : Bool := (decide (1 ≤ x) && decide (x ≤ 8)) && ((decide (1 ≤ y) && decide (y ≤ 20)) && ((decide (0 ≤ z) && decide (z ≤ 4)) && decide ((t.length : Int) = 32)))
theorem sHead (x y z : Int) (t : Str) : spec_HeadRight (x, (y, (z, t))) = some (headB x y z t) := by
  unfold spec_HeadRight spec_l03Is headB
  simp only [Option.bind_some, beqd]
  cases (decide (1 ≤ x) && decide (x ≤ 8)) <;> cases (decide (1 ≤ y) && decide (y ≤ 20)) <;> rfl
theorem iHead (x y z : Int) (t : Str) : impl_isHead (x, (y, (z, t))) = some (headB x y z t) := by
  unfold impl_isHead impl_isBlocks impl_within headB
  simp only [Option.bind_some, beqd]
  cases (decide (1 ≤ x) && decide (x ≤ 8)) <;> cases (decide (1 ≤ y) && decide (y ≤ 20)) <;> rfl
theorem headB_is {x y z : Int} {t : Str} (h : headB x y z t = true) : (1 ≤ x ∧ x ≤ 8) ∧ (1 ≤ y ∧ y ≤ 20) ∧ (0 ≤ z ∧ z ≤ 4) ∧ t.length = 32 := by
  unfold headB at h
  simp only [Bool.and_eq_true, decide_eq_true_eq] at h
  omega
/-- A head, read from the body of a text: the head, or none. -/
def headOf (s : Str) : Option (Int × Int × Int × Str) := match quadZ s with
  | some (x, y, z, t, d) => if d = s.length ∧ headB x y z t = true then some (x, y, z, t) else none
  | none => none
def headR (s : Str) : Int × Int × Int × Str × Int := if (unsealI s).2 = 0 then match headOf (bodyOf s) with
    | some (x, y, z, t) => (x, y, z, t, 0)
    | none => (0, 0, 0, [], 3) else (0, 0, 0, [], (unsealI s).2)
theorem sHeadBytes (x y z : Int) (t : Str) (hx : Num x) (hy : Num y) (hz : Num z) (ht : t.length ≤ 8000) : Ever fun k => spec_HeadBytes k (x, (y, (z, t))) = some (if headB x y z t = true then sealOf (putOf x ++ putOf y ++ putOf z ++ putTextOf t) else []) := by
  by_cases hb : headB x y z t = true
  · have hl := headB_is hb
    have l1 := putOf_len x
    have l2 := putOf_len y
    have l3 := putOf_len z
    have l4 := putTextOf_len t
    refine ((puts4 x y z t hx hy hz ht).and (sSeal (putOf x ++ putOf y ++ putOf z ++ putTextOf t) (by simp; omega))).mono fun k ⟨⟨h1, h2, h3, h4⟩, h5⟩ => ?_
    unfold spec_HeadBytes
    rw [sHead, hb, if_pos rfl]
    simp only [Option.bind_some, Bool.not_true, cond_false]
    rw [h1, h2, h3, h4]
    simp only [Option.bind_some]
    rw [cat_some (by omega)]
    simp only [Option.bind_some]
    rw [cat_some (by simp; omega)]
    simp only [Option.bind_some]
    rw [cat_some (by simp; omega)]
    simp only [Option.bind_some]
    rw [h5]
    rfl
  · refine Ever.of fun k => ?_
    unfold spec_HeadBytes
    rw [sHead, if_neg hb, Bool.eq_false_iff.2 hb]
    rfl
theorem sHeadRead (s : Str) (hs : s.length ≤ 8000) : Ever fun k => spec_HeadRead k s = some (headR s) := by
  by_cases hu : (unsealI s).2 = 0
  · obtain ⟨e1, e2, e3⟩ := unseal_ok hu
    have hbl : (bodyOf s).length ≤ 8000 := by rw [body_len]; omega
    cases hq : quadZ (bodyOf s) with
    | none =>
      refine ((sUnseal s hs).and (readsS (bodyOf s) hbl)).mono fun k ⟨h0, v3, v4, v5, v6, h3, h4, h5, h6, h⟩ => ?_
      have h7 : v6.2.2.2 = true := by
        rcases h with ⟨x, y, z, t, d, e, _⟩ | ⟨_, h⟩
        · rw [hq] at e; cases e
        · exact h
      unfold spec_HeadRead headR headOf
      rw [if_pos hu, hq, h0, e1]
      simp only [Option.bind_some]
      rw [show ((0 : Int) != 0) = false from rfl, cond_false, h3]
      simp only [Option.bind_some]
      rw [h4]
      simp only [Option.bind_some]
      rw [h5]
      simp only [Option.bind_some]
      rw [h6]
      simp only [Option.bind_some]
      rw [h7]
      rfl
    | some q =>
      obtain ⟨x, y, z, t, d⟩ := q
      obtain ⟨a, b, c, g1, g2, g3, g4⟩ := quad_got hq
      refine (((sUnseal s hs).and (readsS (bodyOf s) hbl)).and (sHeadBytes x y z t g1.range g2.range g3.range g4.size)).mono fun k ⟨⟨h0, v3, v4, v5, v6, h3, h4, h5, h6, h⟩, hb⟩ => ?_
      have h7 : v3.1 = x ∧ v4.1 = y ∧ v5.1 = z ∧ v6 = (t, bodyOf s, ((d : Nat) : Int), false) := by
        rcases h with ⟨x', y', z', t', d', e, h⟩ | ⟨e, _⟩
        · rw [hq] at e; cases e; exact h
        · rw [hq] at e; cases e
      obtain ⟨i1, i2, i3, i4⟩ := h7
      unfold spec_HeadRead headR headOf
      rw [if_pos hu, hq, h0, e1]
      simp only [Option.bind_some]
      rw [show ((0 : Int) != 0) = false from rfl, cond_false, h3]
      simp only [Option.bind_some]
      rw [h4]
      simp only [Option.bind_some]
      rw [h5]
      simp only [Option.bind_some]
      rw [h6]
      simp only [Option.bind_some]
      rw [i1, i2, i3, i4]
      simp only [cond_false]
      rw [hb]
      simp only [Option.bind_some]
      by_cases hr : headB x y z t = true
      · rw [if_pos hr, beq_str]
        by_cases hd : d = (bodyOf s).length
        · have : sealOf (putOf x ++ putOf y ++ putOf z ++ putTextOf t) = s := by rw [(head_whole g1 g2 g3 g4).2 hd, e2]
          rw [decide_eq_true this, if_pos ⟨hd, hr⟩]
          rfl
        · rw [decide_eq_false (fun q => hd ((head_whole g1 g2 g3 g4).1 (seal_inj.1 (q.trans e2.symm)))), if_neg (fun q => hd q.1)]
          rfl
      · rw [if_neg hr, if_neg (fun q => hr q.2), empty_ne (by omega)]
        rfl
  · refine (sUnseal s hs).mono fun k h0 => ?_
    unfold spec_HeadRead headR
    rw [if_neg hu, h0]
    simp only [Option.bind_some]
    rw [show ((unsealI s).2 != 0) = true by simpa using hu]
    rfl
theorem iHeadRead (s : Str) (hs : s.length ≤ 8000) : Ever fun k => impl_headRead k s = some (headR s) := by
  by_cases hu : (unsealI s).2 = 0
  · obtain ⟨e1, e2, e3⟩ := unseal_ok hu
    have hbl : (bodyOf s).length ≤ 8000 := by rw [body_len]; omega
    refine ((iUnseal s (by omega)).and (readsI (bodyOf s) hbl)).mono fun k ⟨h0, v3, v4, v5, v6, h3, h4, h5, h6, h⟩ => ?_
    unfold impl_headRead headR headOf
    rw [if_pos hu, h0, e1]
    simp only [Option.bind_some]
    rw [show ((0 : Int) != 0) = false from rfl, cond_false, h3]
    simp only [Option.bind_some]
    rw [h4]
    simp only [Option.bind_some]
    rw [h5]
    simp only [Option.bind_some]
    rw [h6]
    simp only [Option.bind_some]
    rcases h with ⟨x, y, z, t, d, e, i1, i2, i3, i4⟩ | ⟨e, h7⟩
    · rw [e, i1, i2, i3, i4]
      simp only [Bool.false_or]
      rw [iHead]
      by_cases hd : d = (bodyOf s).length
      · rw [show (((d : Nat) : Int) != ((bodyOf s).length : Int)) = false by rw [hd]; simp]
        simp only [cond_false, Option.bind_some]
        by_cases hr : headB x y z t = true
        · rw [if_pos ⟨hd, hr⟩, hr]; rfl
        · rw [if_neg (fun q => hr q.2), Bool.eq_false_iff.2 hr]; rfl
      · rw [show (((d : Nat) : Int) != ((bodyOf s).length : Int)) = true by simp; omega, if_neg (fun q => hd q.1)]
        rfl
    · rw [e, h7]
      rfl
  · refine (iUnseal s (by omega)).mono fun k h0 => ?_
    unfold impl_headRead headR
    rw [if_neg hu, h0]
    simp only [Option.bind_some]
    rw [show ((unsealI s).2 != 0) = true by simpa using hu]
    rfl
end Go.Proofs.YtaajcllchbnjiaaGreatE

namespace Go.Proofs.YtaajcllchbnjiaaGreatE
open Go
set_option linter.unusedVariables false
/-- A step is taken for each element, until one of them ends it. -/
def runL {α S R : Type} (f : S → α → S ⊕ R) (g : S → R) : List α → S → R
  | [], s => g s
  | x :: l, s => match f s x with
    | .inl s' => runL f g l s'
    | .inr r => r
theorem runL_inl {α S R : Type} {f : S → α → S ⊕ R} {g : S → R} {x : α} {l : List α} {s s' : S} (h : f s x = .inl s') : runL f g (x :: l) s = runL f g l s' := by
  have e : runL f g (x :: l) s = match f s x with | .inl s' => runL f g l s' | .inr r => r := rfl
  rw [e, h]
theorem runL_inr {α S R : Type} {f : S → α → S ⊕ R} {g : S → R} {x : α} {l : List α} {s : S} {r : R} (h : f s x = .inr r) : runL f g (x :: l) s = r := by
  have e : runL f g (x :: l) s = match f s x with | .inl s' => runL f g l s' | .inr r => r := rfl
  rw [e, h]
theorem loop_from {α S R : Type} (L : Nat → S → Int → Option R) (l : List α) (f : S → α → S ⊕ R) (g : S → R) (I : Nat → S → Prop)
    (hs : ∀ (i : Nat) (h : i < l.length) (s : S), I i s → (∃ s', f s l[i] = .inl s' ∧ I (i + 1) s' ∧ ∀ j, L (j + 1) s (i : Int) = L j s' ((i + 1 : Nat) : Int)) ∨ ∃ r, f s l[i] = .inr r ∧ ∀ j, L (j + 1) s (i : Int) = some r)
    (he : ∀ (s : S), I l.length s → ∀ j, L (j + 1) s (l.length : Int) = some (g s)) : ∀ (d i : Nat) (s : S), i + d = l.length → I i s → ∀ j, d < j → L j s (i : Int) = some (runL f g (l.drop i) s) := by
  intro d
  induction d with
  | zero =>
    intro i s hi hI j hj
    obtain ⟨j, rfl⟩ : ∃ q, j = q + 1 := ⟨j - 1, by omega⟩
    obtain rfl : i = l.length := by omega
    rw [List.drop_length, he s hI]
    rfl
  | succ d ih =>
    intro i s hi hI j hj
    obtain ⟨j, rfl⟩ : ∃ q, j = q + 1 := ⟨j - 1, by omega⟩
    have hlt : i < l.length := by omega
    rw [List.drop_eq_getElem_cons hlt]
    rcases hs i hlt s hI with ⟨s', h1, h2, h3⟩ | ⟨r, h1, h3⟩
    · rw [h3 j]
      show _ = some (match f s l[i] with | .inl s' => runL f g (l.drop (i + 1)) s' | .inr r => r)
      rw [h1]
      exact ih (i + 1) s' (by omega) h2 j (by omega)
    · rw [h3 j]
      show _ = some (match f s l[i] with | .inl s' => runL f g (l.drop (i + 1)) s' | .inr r => r)
      rw [h1]
theorem loop_fold {α S R : Type} (L : Nat → S → Int → Option R) (l : List α) (f : S → α → S ⊕ R) (g : S → R) (I : Nat → S → Prop)
    (hs : ∀ (i : Nat) (h : i < l.length) (s : S), I i s → (∃ s', f s l[i] = .inl s' ∧ I (i + 1) s' ∧ ∀ j, L (j + 1) s (i : Int) = L j s' ((i + 1 : Nat) : Int)) ∨ ∃ r, f s l[i] = .inr r ∧ ∀ j, L (j + 1) s (i : Int) = some r)
    (he : ∀ (s : S), I l.length s → ∀ j, L (j + 1) s (l.length : Int) = some (g s)) {s : S} (hI : I 0 s) {k : Nat} (hk : l.length < k) : L k s 0 = some (runL f g l s) :=
  loop_from L l f g I hs he l.length 0 s (Nat.zero_add _) hI k hk
/-- A loop that tests each element with a partial function that answers, and leaves at the first that passes. -/
def firstI {α : Type} (p : α → Bool) : List α → Nat → Option Nat
  | [], _ => none
  | x :: l, i => if p x then some i else firstI p l (i + 1)
theorem loop_find {α R : Type} (L : Nat → Int → Option R) (l : List α) (p : α → Bool) (a : R) (b : Nat → R)
    (hs : ∀ (i : Nat) (h : i < l.length), (p l[i] = false → ∀ j, L (j + 1) (i : Int) = L j ((i + 1 : Nat) : Int)) ∧ (p l[i] = true → ∀ j, L (j + 1) (i : Int) = some (b i)))
    (he : ∀ j, L (j + 1) (l.length : Int) = some a) {k : Nat} (hk : l.length < k) : L k 0 = some (match firstI p l 0 with | some i => b i | none => a) := by
  have key : ∀ (d i : Nat), i + d = l.length → ∀ j, d < j → L j (i : Int) = some (match firstI p (l.drop i) i with | some i => b i | none => a) := by
    intro d
    induction d with
    | zero =>
      intro i hi j hj
      obtain ⟨j, rfl⟩ : ∃ q, j = q + 1 := ⟨j - 1, by omega⟩
      obtain rfl : i = l.length := by omega
      rw [List.drop_length, he]
      rfl
    | succ d ih =>
      intro i hi j hj
      obtain ⟨j, rfl⟩ : ∃ q, j = q + 1 := ⟨j - 1, by omega⟩
      have hlt : i < l.length := by omega
      rw [List.drop_eq_getElem_cons hlt]
      obtain ⟨h1, h2⟩ := hs i hlt
      cases hp : p l[i] with
      | true => rw [h2 hp j]; simp [firstI, hp]
      | false =>
        rw [h1 hp j, ih (i + 1) (by omega) j (by omega)]
        simp [firstI, hp]
  have := key l.length 0 (Nat.zero_add _) k hk
  rwa [List.drop_zero] at this
theorem firstI_some {α : Type} {p : α → Bool} : ∀ {l : List α} {n i : Nat}, firstI p l n = some i → n ≤ i ∧ ∃ h : i - n < l.length, p (l[i - n]) = true ∧ ∀ j, (hj : j < i - n) → p (l[j]'(by omega)) = false
  | [], _, _, h => by cases h
  | x :: l, n, i, h => by
    unfold firstI at h
    split at h
    · rename_i hp
      cases h
      refine ⟨Nat.le_refl _, by simp, ?_, fun j hj => by omega⟩
      simpa using hp
    · rename_i hp
      obtain ⟨h1, h2, h3, h4⟩ := firstI_some h
      refine ⟨by omega, by simp only [List.length_cons]; omega, ?_, fun j hj => ?_⟩
      · have e : i - n = (i - (n + 1)) + 1 := by omega
        simpa [e] using h3
      · cases j with
        | zero => simpa using hp
        | succ j => simpa using h4 j (by omega)
theorem firstI_none {α : Type} {p : α → Bool} : ∀ {l : List α} {n : Nat}, firstI p l n = none ↔ ∀ x ∈ l, p x = false
  | [], n => by simp [firstI]
  | x :: l, n => by
    unfold firstI
    split
    · rename_i hp
      simp [hp]
    · rename_i hp
      rw [firstI_none]
      simp at hp
      simp [hp]
theorem firstI_any {α : Type} {p : α → Bool} {l : List α} {n : Nat} : (firstI p l n).isSome = l.any p := by
  cases h : firstI p l n with
  | none =>
    have := firstI_none.1 h
    symm
    simp only [Option.isSome_none, List.any_eq_false]
    intro x hx
    rw [this x hx]
    exact nofun
  | some i =>
    obtain ⟨_, h2, h3, _⟩ := firstI_some h
    symm
    exact List.any_eq_true.2 ⟨_, List.getElem_mem h2, h3⟩
/-- A list that is copied place by place. -/
theorem copy_loop {α : Type} (L : Nat → Int → List α → Option (List α)) (l : List α) (z : α)
    (hs : ∀ (i : Nat) (h : i < l.length) (c : List α), c.length = l.length → ∀ j, L (j + 1) (i : Int) c = L j ((i + 1 : Nat) : Int) (c.set i l[i]))
    (he : ∀ (c : List α) j, L (j + 1) (l.length : Int) c = some c) {k : Nat} (hk : l.length < k) : L k 0 (List.replicate l.length z) = some l := by
  have key : ∀ (d i : Nat), i + d = l.length → ∀ j, d < j → L j (i : Int) (l.take i ++ List.replicate (l.length - i) z) = some l := by
    intro d
    induction d with
    | zero =>
      intro i hi j hj
      obtain ⟨j, rfl⟩ : ∃ q, j = q + 1 := ⟨j - 1, by omega⟩
      obtain rfl : i = l.length := by omega
      rw [he, Nat.sub_self, List.take_length]
      simp
    | succ d ih =>
      intro i hi j hj
      obtain ⟨j, rfl⟩ : ∃ q, j = q + 1 := ⟨j - 1, by omega⟩
      have hlt : i < l.length := by omega
      rw [hs i hlt _ (by simp; omega)]
      have e : (l.take i ++ List.replicate (l.length - i) z).set i l[i] = l.take (i + 1) ++ List.replicate (l.length - (i + 1)) z := by
        have hl : (l.take i).length = i := by simp; omega
        rw [List.set_append_right _ _ (by omega), hl, Nat.sub_self, show l.length - i = (l.length - (i + 1)) + 1 by omega, List.replicate_succ, List.set_cons_zero, take_succ' hlt, List.append_assoc]
        rfl
      rw [e]
      exact ih (i + 1) (by omega) j (by omega)
  have := key l.length 0 (Nat.zero_add _) k hk
  simpa using this
theorem dlt {a b : Nat} (h : a < b) : decide ((a : Int) < (b : Int)) = true := decide_eq_true (by omega)
theorem dnlt {a b : Nat} (h : b ≤ a) : decide ((a : Int) < (b : Int)) = false := decide_eq_false (by omega)
theorem bnd' {α β : Type} {x : Option α} {f : α → Option β} {a : α} {b : Option β} (h : x = some a) (k : f a = b) : x.bind f = b := by rw [h]; exact k
end Go.Proofs.YtaajcllchbnjiaaGreatE

namespace Go.Proofs.YtaajcllchbnjiaaGreatE
open Go
set_option linter.unusedVariables false
abbrev StepT := Int × Int × Int × Str
def szF (s : Int) (x : StepT) : Int ⊕ (Int ⊕ Int) := if s < (x.2.2.2.length : Int) then .inr (.inr (-1)) else .inl (s - (x.2.2.2.length : Int))
theorem szRun : ∀ (l : List StepT) (s : Int), 0 ≤ s → (∃ v, runL szF (fun s => .inl s) l s = .inl v ∧ 0 ≤ v ∧ v ≤ s ∧ ∀ x ∈ l, (x.2.2.2.length : Int) ≤ s) ∨ runL szF (fun s => .inl s) l s = .inr (-1)
  | [], s, h => .inl ⟨s, rfl, h, Int.le_refl _, fun x hx => nomatch hx⟩
  | x :: l, s, h => by
    by_cases hx : s < (x.2.2.2.length : Int)
    · exact .inr (runL_inr (by unfold szF; rw [if_pos hx]))
    · rw [runL_inl (by unfold szF; rw [if_neg hx])]
      rcases szRun l (s - (x.2.2.2.length : Int)) (by omega) with ⟨v, h1, h2, h3, h4⟩ | h1
      · refine .inl ⟨v, h1, h2, by omega, fun y hy => ?_⟩
        rcases List.mem_cons.1 hy with rfl | hy
        · omega
        · have := h4 y hy; omega
      · exact .inr h1
abbrev PkgT := Int × Str × List StepT
end Go.Proofs.YtaajcllchbnjiaaGreatE
