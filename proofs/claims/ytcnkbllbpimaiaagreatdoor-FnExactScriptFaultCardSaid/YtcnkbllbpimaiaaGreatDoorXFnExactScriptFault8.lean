/- What the law FnExactScriptFault needs, part 9 of 11: the Lean functions of the Go functions that it reaches, with the proofs that the calls come to what they say, and plain facts about them. Conditions: those that each theorem states. Written by a session and by its programs (after the kit's printer). -/
import Derived.Laws.BitsLemmas
import Derived.Lib.ItoaNum
import Derived.Lib.Join
import Derived.Test.YtcnkbllbpimaiaaGreatDoorXFnExactScriptFault5
import Derived.Test.YtcnkbllbpimaiaaGreatDoorXFnExactScriptFault7
namespace Go.Proofs.YtcnkbllbpimaiaaGreatDoorE
open Go Go.RowKit
set_option linter.unusedVariables false
def impl_deedRead.j0 (k : Nat) (a1 : Int) (a2 : Int) (a3 : Int) (a4 : Str) (a5 : Int) (a6 : Int) (a7 : Int) (a8 : Str) (a9 : Int) (a10 : List Str) (a11 : List Int) (a12 : List Int) : Option ((List Str × Int × Int × Int × Str × Int × Int × Int × Str × Int × List Int × List Int)) :=
  Option.bind (at? a10 0) fun v13 =>
  Option.bind (at? a10 0) fun v14 =>
  bif (v14 == ([99, 117, 116] : Str)) && (decide (4 < ((a10.length) : Int))) then
    Option.bind (at? a10 1) fun v15 =>
    Option.bind (at? a10 1) fun v16 =>
    Option.bind (impl_wordNumber v16) fun v17 =>
    Option.bind (at? a10 2) fun v18 =>
    Option.bind (at? a10 2) fun v19 =>
    Option.bind (impl_wordNumbers k v19) fun v20 =>
    Option.bind (at? a10 3) fun v21 =>
    Option.bind (at? a10 3) fun v22 =>
    Option.bind (impl_wordNumbers k v22) fun v23 =>
    Option.bind (cut? a10 4 ((a10.length) : Int)) fun v24 =>
    some (v24, a1, a2, a3, a4, a5, a6, a7, a8, v17, v20, v23)
  else
  some (a10, a1, a2, a3, a4, a5, a6, a7, a8, a9, a11, a12)
def impl_deedRead (k : Nat) (a1 : Str) : Option (Int × Int × Int × Str × Int × Int × Int × Str × Int × List Int × List Int × Bool) :=
  Option.bind (strings_Split a1 ([32] : Str)) fun v2 =>
  Option.bind (impl_deedRead.j0 k 0 0 0 [] 0 0 0 [] (-1) v2 [] []) fun y3 =>
  Option.bind (impl_cmdRead k y3.1) fun v4 =>
  let e5 := (v4, y3.2.2.2.2.2.2.2.2.2)
  Option.bind (impl_isDeed k e5) fun v6 =>
  bif !v6 then
    some (0, 0, 0, [], 0, 0, 0, [], 0, [], [], false)
  else
  Option.bind (impl_deedText k e5) fun v7 =>
  bif !(v7 == a1) then
    some (0, 0, 0, [], 0, 0, 0, [], 0, [], [], false)
  else
  some (v4.1, v4.2.1, v4.2.2.1, v4.2.2.2.1, v4.2.2.2.2.1, v4.2.2.2.2.2.1, v4.2.2.2.2.2.2.1, v4.2.2.2.2.2.2.2, y3.2.2.2.2.2.2.2.2.2.1, y3.2.2.2.2.2.2.2.2.2.2.1, y3.2.2.2.2.2.2.2.2.2.2.2, true)
def impl_deedRead.sig : Sig := { ps := [.val false .str (ros .str)], rs := [.val true [.v (.int .i64), .v (.int .i64), .v (.int .i64), .v .str, .v (.int .i64), .v (.int .i64), .v (.int .i64), .v .str, .v (.int .i64), .own 2 (.int .i64), .own 2 (.int .i64)], .val false [.v .bool]], ntmps := 49 }
def impl_deedRead.con (k : Nat) : Con := impl_deedRead.sig.con (fun x => impl_deedRead k x)
def impl_deedRead.C (k : Nat) : Ctx := { ti := TAB, con := conL [(60, impl_isDeed.con k), (93, strings_Split.con k), (94, impl_wordNumber.con k), (95, impl_wordNumbers.con k), (96, impl_cmdRead.con k), (97, impl_deedText.con k)] }
theorem impl_deedRead.cok (k : Nat) : CtxOk Tryz.prog (impl_deedRead.C k) := ctx_ok TABok ⟨impl_isDeed.ok k, strings_Split.ok k, impl_wordNumber.ok k, impl_wordNumbers.ok k, impl_cmdRead.ok k, impl_deedText.ok k, trivial⟩
def impl_deedRead.j0.ish : Shape := { tmps := [(4, .one (.own 3)), (5, .one (.ptr 2 0))], slots := [(2, .box 28 [.v (.int .i64), .v (.int .i64), .v (.int .i64), .v .str, .v (.int .i64), .v (.int .i64), .v (.int .i64), .v .str, .v (.int .i64), .own 4, .own 5]), (3, .arr false 9 .str), (4, .arr false 2 (.int .i64)), (5, .arr false 2 (.int .i64))], nb := 6 }
def impl_deedRead.j0.outs : List (Ex × Shape) := [(.nrm, { tmps := [(4, .one (.v (.sl .str)))], slots := [(2, .box 28 [.v (.int .i64), .v (.int .i64), .v (.int .i64), .v .str, .v (.int .i64), .v (.int .i64), .v (.int .i64), .v .str, .v (.int .i64), .own 6, .own 7]), (6, .arr false 2 (.int .i64)), (7, .arr false 2 (.int .i64))], nb := 8 })]
def impl_deedRead.j0.F (k : Nat) (x : Prod' impl_deedRead.j0.ish.tys) : Option (Outs impl_deedRead.j0.outs) := impl_deedRead.j0 k x.1 x.2.1 x.2.2.1 x.2.2.2.1 x.2.2.2.2.1 x.2.2.2.2.2.1 x.2.2.2.2.2.2.1 x.2.2.2.2.2.2.2.1 x.2.2.2.2.2.2.2.2.1 x.2.2.2.2.2.2.2.2.2.1 x.2.2.2.2.2.2.2.2.2.2.1 x.2.2.2.2.2.2.2.2.2.2.2
def impl_deedRead.j0.s (k : Nat) : Summ := { n := 49, ish := impl_deedRead.j0.ish, outs := impl_deedRead.j0.outs, f := impl_deedRead.j0.F k }
theorem impl_deedRead.j0.ev (k : Nat) (x : Prod' impl_deedRead.j0.ish.tys) : V (impl_deedRead.C k) .auto (cL (cR (cR (cR (cB Tryz.f45))))) (mk impl_deedRead.j0.ish 49 x) (fun e st' => rdOut e st' impl_deedRead.j0.outs) = impl_deedRead.j0.F k x := by kernel_rfl
theorem impl_deedRead.j0.ok (k : Nat) : SumOk Tryz.prog (impl_deedRead.C k) (cL (cR (cR (cR (cB Tryz.f45))))) (impl_deedRead.j0.s k) := sum_ok (by kernel_rfl) (sum_code (p := .auto) (impl_deedRead.cok k) (by kernel_rfl) (plan_of (L := []) (by kernel_rfl) trivial) (fun x y h => (impl_deedRead.j0.ev k x).trans h))
theorem impl_deedRead.ev (k : Nat) (x : Prod' impl_deedRead.sig.ins) : impl_deedRead.sig.ev (impl_deedRead.C k) (.two .auto (.two .auto (.two .auto (.two (.sum (impl_deedRead.j0.s k)) .auto)))) Tryz.f45.results.toList (cB Tryz.f45) x = impl_deedRead k x := by kernel_rfl
theorem impl_deedRead.ok (k : Nat) : ConOk Tryz.prog 45 (impl_deedRead.con k) := sig_ok (p := (.two .auto (.two .auto (.two .auto (.two (.sum (impl_deedRead.j0.s k)) .auto))))) (impl_deedRead.cok k) Tryz.func45 (by kernel_rfl) (show Tryz.f45.body = some (cB Tryz.f45) by kernel_rfl) (by kernel_rfl) (by kernel_rfl) (plan_of (L := [(impl_deedRead.j0.s k, cL (cR (cR (cR (cB Tryz.f45)))))]) (by kernel_rfl) ⟨impl_deedRead.j0.ok k, trivial⟩) (fun x y h => (impl_deedRead.ev k x).trans h)
/-- strings.Cut of a text that fits (the variable 3 is internal/bytealg.MaxLen: some number). -/
def strings_Cut (s sep : Str) : Option (Str × Str × Bool) := if s.length < 4294967281 then some (Lib.cut s sep) else none
def strings_Cut.sig : Sig := { ps := [.val false .str (ros .str), .val false .str (ros .str)], rs := [.val false [.v .str], .val false [.v .str], .val false [.v .bool]], ntmps := 0 }
def strings_Cut.con (k : Nat) : Con := strings_Cut.sig.con (fun x => strings_Cut x.1 x.2)
theorem strings_Cut.ok (k : Nat) : ConOk Tryz.prog 135 (strings_Cut.con k) := hand_glob (enter_of Tryz.func135 (by kernel_rfl) (show Tryz.f135.body = some (cB Tryz.f135) by kernel_rfl)) (by kernel_rfl) (by kernel_rfl) (by
  intro (x : Str × Str) (y : Str × Str × Bool) w hg h
  obtain ⟨s, sep⟩ := x
  replace h : strings_Cut s sep = some y := h
  unfold strings_Cut at h
  split at h
  · rename_i h0
    injection h with h
    subst h
    obtain ⟨m, hm⟩ : ∃ m, w.cell? ⟨3, 0, none⟩ = some (.int .i64 m) := (hg 3 (.int .i64) [] (by kernel_rfl)).2
    refine (Tryz.strings_Cut (ba s) (ba sep) m w h0 hm).mono ?_
    rintro e w' ⟨rfl, k, rfl⟩
    exact ⟨[.string (ba (Lib.cut s sep).1), .string (ba (Lib.cut s sep).2.1), .bool (Lib.cut s sep).2.2], rfl, rfl, rfl, ⟨rfl, rfl, rfl, Nat.le_refl _, fun _ _ => rfl⟩⟩
  · cases h)
/-- strings.CutPrefix. -/
def strings_CutPrefix (s p : Str) : Option (Str × Bool) := some (Lib.trimPrefix s p, Lib.hasPrefix s p)
def strings_CutPrefix.sig : Sig := { ps := [.val false .str (ros .str), .val false .str (ros .str)], rs := [.val false [.v .str], .val false [.v .bool]], ntmps := 0 }
def strings_CutPrefix.con (k : Nat) : Con := strings_CutPrefix.sig.con (fun x => strings_CutPrefix x.1 x.2)
theorem strings_CutPrefix.ok (k : Nat) : ConOk Tryz.prog 136 (strings_CutPrefix.con k) := hand_scal (enter_of Tryz.func136 (by kernel_rfl) (show Tryz.f136.body = some (cB Tryz.f136) by kernel_rfl)) (by kernel_rfl) (by kernel_rfl) (by
  intro (x : Str × Str) (y : Str × Bool) w h
  obtain ⟨s, p⟩ := x
  replace h : strings_CutPrefix s p = some y := h
  injection h with h
  subst h
  refine (Tryz.strings_CutPrefix (ba s) (ba p) w).mono ?_
  rintro e w' ⟨rfl, rfl⟩
  exact ⟨[.string (ba (Lib.trimPrefix s p)), .bool (Lib.hasPrefix s p)], rfl, rfl, rfl, Below.refl _ _⟩)
def impl_size_string (a1 : List Str) : Option (Int) :=
  some ((a1.length) : Int)
def impl_size_string.sig : Sig := { ps := [.val false (.sl .str) (ros (.sl .str))], rs := [.val false [.v (.int .i64)]], ntmps := 5 }
def impl_size_string.con (k : Nat) : Con := impl_size_string.sig.con (fun x => impl_size_string x)
def impl_size_string.C (k : Nat) : Ctx := { ti := TAB, con := conL [] }
theorem impl_size_string.cok (k : Nat) : CtxOk Tryz.prog (impl_size_string.C k) := ctx_ok TABok trivial
theorem impl_size_string.ev (k : Nat) (x : Prod' impl_size_string.sig.ins) : impl_size_string.sig.ev (impl_size_string.C k) .auto Tryz.f117.results.toList (cB Tryz.f117) x = impl_size_string x := by kernel_rfl
theorem impl_size_string.ok (k : Nat) : ConOk Tryz.prog 117 (impl_size_string.con k) := sig_ok (p := .auto) (impl_size_string.cok k) Tryz.func117 (by kernel_rfl) (show Tryz.f117.body = some (cB Tryz.f117) by kernel_rfl) (by kernel_rfl) (by kernel_rfl) (plan_of (L := []) (by kernel_rfl) trivial) (fun x y h => (impl_size_string.ev k x).trans h)
def impl_isBlocks (a1 : Int) : Option (Bool) :=
  Option.bind (impl_within a1 1 8) fun v2 =>
  some v2
def impl_isBlocks.sig : Sig := { ps := [.val false (.int .i64) (ros (.int .i64))], rs := [.val false [.v .bool]], ntmps := 5 }
def impl_isBlocks.con (k : Nat) : Con := impl_isBlocks.sig.con (fun x => impl_isBlocks x)
def impl_isBlocks.C (k : Nat) : Ctx := { ti := TAB, con := conL [(114, impl_within.con k)] }
theorem impl_isBlocks.cok (k : Nat) : CtxOk Tryz.prog (impl_isBlocks.C k) := ctx_ok TABok ⟨impl_within.ok k, trivial⟩
theorem impl_isBlocks.ev (k : Nat) (x : Prod' impl_isBlocks.sig.ins) : impl_isBlocks.sig.ev (impl_isBlocks.C k) .auto Tryz.f172.results.toList (cB Tryz.f172) x = impl_isBlocks x := by kernel_rfl
theorem impl_isBlocks.ok (k : Nat) : ConOk Tryz.prog 172 (impl_isBlocks.con k) := sig_ok (p := .auto) (impl_isBlocks.cok k) Tryz.func172 (by kernel_rfl) (show Tryz.f172.body = some (cB Tryz.f172) by kernel_rfl) (by kernel_rfl) (by kernel_rfl) (plan_of (L := []) (by kernel_rfl) trivial) (fun x y h => (impl_isBlocks.ev k x).trans h)
def impl_isImage_1 (a1 : Str) : Option (Bool) :=
  some (((a1.length) : Int) != 8)
def impl_isImage_1.sig : Sig := { ps := [.val false .str (ros .str)], rs := [.val false [.v .bool]], ntmps := 6 }
def impl_isImage_1.con (k : Nat) : Con := impl_isImage_1.sig.con (fun x => impl_isImage_1 x)
def impl_isImage_1.C (k : Nat) : Ctx := { ti := TAB, con := conL [] }
theorem impl_isImage_1.cok (k : Nat) : CtxOk Tryz.prog (impl_isImage_1.C k) := ctx_ok TABok trivial
theorem impl_isImage_1.ev (k : Nat) (x : Prod' impl_isImage_1.sig.ins) : impl_isImage_1.sig.ev (impl_isImage_1.C k) .auto Tryz.f174.results.toList (cB Tryz.f174) x = impl_isImage_1 x := by kernel_rfl
theorem impl_isImage_1.ok (k : Nat) : ConOk Tryz.prog 174 (impl_isImage_1.con k) := sig_ok (p := .auto) (impl_isImage_1.cok k) Tryz.func174 (by kernel_rfl) (show Tryz.f174.body = some (cB Tryz.f174) by kernel_rfl) (by kernel_rfl) (by kernel_rfl) (plan_of (L := []) (by kernel_rfl) trivial) (fun x y h => (impl_isImage_1.ev k x).trans h)
def slices_IndexFunc_string_isImage_1.l0 : Nat → List Str → Int → Int → Option (Unit ⊕ Int)
  | 0, _, _, _ => none
  | j + 1, a1, a2, a3 =>
    bif decide (a3 < a2) then
      Option.bind (at? a1 a3) fun v4 =>
      Option.bind (impl_isImage_1 v4) fun v5 =>
      bif v5 then
        some (.inr a3)
      else
      slices_IndexFunc_string_isImage_1.l0 j a1 a2 (IntKind.wrap .i64 (a3 + 1))
    else
    some (.inl ())
def slices_IndexFunc_string_isImage_1 (k : Nat) (a1 : List Str) : Option (Int) :=
  Option.bind (slices_IndexFunc_string_isImage_1.l0 k a1 ((a1.length) : Int) 0) fun
    | .inl y2 =>
      some (-1)
    | .inr y3 =>
      some y3
def slices_IndexFunc_string_isImage_1.sig : Sig := { ps := [.val false (.sl .str) (ros (.sl .str)), .fn 174 []], rs := [.val false [.v (.int .i64)]], ntmps := 19 }
def slices_IndexFunc_string_isImage_1.con (k : Nat) : Con := slices_IndexFunc_string_isImage_1.sig.con (fun x => slices_IndexFunc_string_isImage_1 k x)
def slices_IndexFunc_string_isImage_1.C (k : Nat) : Ctx := { ti := TAB, con := conL [(174, impl_isImage_1.con k)] }
theorem slices_IndexFunc_string_isImage_1.cok (k : Nat) : CtxOk Tryz.prog (slices_IndexFunc_string_isImage_1.C k) := ctx_ok TABok ⟨impl_isImage_1.ok k, trivial⟩
def slices_IndexFunc_string_isImage_1.l0.ish : Shape := { tmps := [(0, .one (.bor .str)), (1, .fn 174 []), (7, .one (.v (.int .i64))), (8, .one (.v (.int .i64)))], slots := [], nb := 0 }
def slices_IndexFunc_string_isImage_1.l0.outs : List (Ex × Shape) := [(.exit 0, { tmps := [], slots := [], nb := 0 }), (.ret, { tmps := [(4, .one (.v (.int .i64)))], slots := [], nb := 0 })]
def slices_IndexFunc_string_isImage_1.l0.F (k j : Nat) (x : Prod' slices_IndexFunc_string_isImage_1.l0.ish.tys) : Option (Outs slices_IndexFunc_string_isImage_1.l0.outs) := slices_IndexFunc_string_isImage_1.l0 j x.1 x.2.1 x.2.2
def slices_IndexFunc_string_isImage_1.l0.s (k : Nat) : Summ := { n := 19, ish := slices_IndexFunc_string_isImage_1.l0.ish, outs := slices_IndexFunc_string_isImage_1.l0.outs, f := slices_IndexFunc_string_isImage_1.l0.F k k }
theorem slices_IndexFunc_string_isImage_1.l0.ev (k j : Nat) (x : Prod' slices_IndexFunc_string_isImage_1.l0.ish.tys) : V (slices_IndexFunc_string_isImage_1.C k) .auto (cO (cO (cR (cL (cR (cB Tryz.f231)))))) (mk slices_IndexFunc_string_isImage_1.l0.ish 19 x) (fun e st' => match e with | .nrm => (rd slices_IndexFunc_string_isImage_1.l0.ish st').bind (slices_IndexFunc_string_isImage_1.l0.F k j) | e => rdOut e st' slices_IndexFunc_string_isImage_1.l0.outs) = slices_IndexFunc_string_isImage_1.l0.F k (j + 1) x := by kernel_rfl
theorem slices_IndexFunc_string_isImage_1.l0.ok (k : Nat) : SumOk Tryz.prog (slices_IndexFunc_string_isImage_1.C k) (.loop (cO (cO (cR (cL (cR (cB Tryz.f231))))))) (slices_IndexFunc_string_isImage_1.l0.s k) := sum_ok (by kernel_rfl) (sum_loop (p := .auto) (F := slices_IndexFunc_string_isImage_1.l0.F k) (slices_IndexFunc_string_isImage_1.cok k) (by kernel_rfl) (plan_of (L := []) (by kernel_rfl) trivial) (fun _ => rfl) (fun j x y h => (slices_IndexFunc_string_isImage_1.l0.ev k j x).trans h) k rfl)
theorem slices_IndexFunc_string_isImage_1.ev (k : Nat) (x : Prod' slices_IndexFunc_string_isImage_1.sig.ins) : slices_IndexFunc_string_isImage_1.sig.ev (slices_IndexFunc_string_isImage_1.C k) (.two .auto (.two (.two .auto (.one (.sum (slices_IndexFunc_string_isImage_1.l0.s k)))) .auto)) Tryz.f231.results.toList (cB Tryz.f231) x = slices_IndexFunc_string_isImage_1 k x := by kernel_rfl
theorem slices_IndexFunc_string_isImage_1.ok (k : Nat) : ConOk Tryz.prog 231 (slices_IndexFunc_string_isImage_1.con k) := sig_ok (p := (.two .auto (.two (.two .auto (.one (.sum (slices_IndexFunc_string_isImage_1.l0.s k)))) .auto))) (slices_IndexFunc_string_isImage_1.cok k) Tryz.func231 (by kernel_rfl) (show Tryz.f231.body = some (cB Tryz.f231) by kernel_rfl) (by kernel_rfl) (by kernel_rfl) (plan_of (L := [(slices_IndexFunc_string_isImage_1.l0.s k, cO (cR (cL (cR (cB Tryz.f231)))))]) (by kernel_rfl) ⟨slices_IndexFunc_string_isImage_1.l0.ok k, trivial⟩) (fun x y h => (slices_IndexFunc_string_isImage_1.ev k x).trans h)
def slices_ContainsFunc_string_isImage_1 (k : Nat) (a1 : List Str) : Option (Bool) :=
  Option.bind (slices_IndexFunc_string_isImage_1 k a1) fun v2 =>
  some (decide (0 ≤ v2))
def slices_ContainsFunc_string_isImage_1.sig : Sig := { ps := [.val false (.sl .str) (ros (.sl .str)), .fn 174 []], rs := [.val false [.v .bool]], ntmps := 9 }
def slices_ContainsFunc_string_isImage_1.con (k : Nat) : Con := slices_ContainsFunc_string_isImage_1.sig.con (fun x => slices_ContainsFunc_string_isImage_1 k x)
def slices_ContainsFunc_string_isImage_1.C (k : Nat) : Ctx := { ti := TAB, con := conL [(231, slices_IndexFunc_string_isImage_1.con k)] }
theorem slices_ContainsFunc_string_isImage_1.cok (k : Nat) : CtxOk Tryz.prog (slices_ContainsFunc_string_isImage_1.C k) := ctx_ok TABok ⟨slices_IndexFunc_string_isImage_1.ok k, trivial⟩
theorem slices_ContainsFunc_string_isImage_1.ev (k : Nat) (x : Prod' slices_ContainsFunc_string_isImage_1.sig.ins) : slices_ContainsFunc_string_isImage_1.sig.ev (slices_ContainsFunc_string_isImage_1.C k) .auto Tryz.f173.results.toList (cB Tryz.f173) x = slices_ContainsFunc_string_isImage_1 k x := by kernel_rfl
theorem slices_ContainsFunc_string_isImage_1.ok (k : Nat) : ConOk Tryz.prog 173 (slices_ContainsFunc_string_isImage_1.con k) := sig_ok (p := .auto) (slices_ContainsFunc_string_isImage_1.cok k) Tryz.func173 (by kernel_rfl) (show Tryz.f173.body = some (cB Tryz.f173) by kernel_rfl) (by kernel_rfl) (by kernel_rfl) (plan_of (L := []) (by kernel_rfl) trivial) (fun x y h => (slices_ContainsFunc_string_isImage_1.ev k x).trans h)
def impl_isImage (k : Nat) (a1 : List Str) : Option (Bool) :=
  Option.bind (impl_size_string a1) fun v2 =>
  Option.bind (impl_isBlocks v2) fun v3 =>
  bif v3 then
    Option.bind (slices_ContainsFunc_string_isImage_1 k a1) fun v4 =>
    some (!v4)
  else
  some false
def impl_isImage.sig : Sig := { ps := [.val false (.sl .str) (ros (.sl .str))], rs := [.val false [.v .bool]], ntmps := 11 }
def impl_isImage.con (k : Nat) : Con := impl_isImage.sig.con (fun x => impl_isImage k x)
def impl_isImage.C (k : Nat) : Ctx := { ti := TAB, con := conL [(117, impl_size_string.con k), (172, impl_isBlocks.con k), (173, slices_ContainsFunc_string_isImage_1.con k)] }
theorem impl_isImage.cok (k : Nat) : CtxOk Tryz.prog (impl_isImage.C k) := ctx_ok TABok ⟨impl_size_string.ok k, impl_isBlocks.ok k, slices_ContainsFunc_string_isImage_1.ok k, trivial⟩
theorem impl_isImage.ev (k : Nat) (x : Prod' impl_isImage.sig.ins) : impl_isImage.sig.ev (impl_isImage.C k) .auto Tryz.f115.results.toList (cB Tryz.f115) x = impl_isImage k x := by kernel_rfl
theorem impl_isImage.ok (k : Nat) : ConOk Tryz.prog 115 (impl_isImage.con k) := sig_ok (p := .auto) (impl_isImage.cok k) Tryz.func115 (by kernel_rfl) (show Tryz.f115.body = some (cB Tryz.f115) by kernel_rfl) (by kernel_rfl) (by kernel_rfl) (plan_of (L := []) (by kernel_rfl) trivial) (fun x y h => (impl_isImage.ev k x).trans h)
def impl_imageText.l0 : Nat → Str → List Str → Int → Int → Option (Str ⊕ Str)
  | 0, _, _, _, _ => none
  | j + 1, a1, a2, a3, a4 =>
    bif decide (a4 < a3) then
      Option.bind (at? a2 a4) fun v5 =>
      Option.bind (impl_letterOf v5) fun v6 =>
      bif v6 == [] then
        some (.inr ([]))
      else
      Option.bind (cat? a1 v6) fun v7 =>
      impl_imageText.l0 j v7 a2 a3 (IntKind.wrap .i64 (a4 + 1))
    else
    some (.inl a1)
def impl_imageText (k : Nat) (a1 : List Str) : Option (Str) :=
  Option.bind (impl_imageText.l0 k [] a1 ((a1.length) : Int) 0) fun
    | .inl y2 =>
      some y2
    | .inr y3 =>
      some y3
def impl_imageText.sig : Sig := { ps := [.val false (.sl .str) (ros (.sl .str))], rs := [.val false [.v .str]], ntmps := 22 }
def impl_imageText.con (k : Nat) : Con := impl_imageText.sig.con (fun x => impl_imageText k x)
def impl_imageText.C (k : Nat) : Ctx := { ti := TAB, con := conL [(239, impl_letterOf.con k)] }
theorem impl_imageText.cok (k : Nat) : CtxOk Tryz.prog (impl_imageText.C k) := ctx_ok TABok ⟨impl_letterOf.ok k, trivial⟩
def impl_imageText.l0.ish : Shape := { tmps := [(3, .one (.v .str)), (7, .one (.bor .str)), (8, .one (.v (.int .i64))), (9, .one (.v (.int .i64)))], slots := [], nb := 0 }
def impl_imageText.l0.outs : List (Ex × Shape) := [(.exit 0, { tmps := [(3, .one (.v .str))], slots := [], nb := 0 }), (.ret, { tmps := [(2, .one (.v .str))], slots := [], nb := 0 })]
def impl_imageText.l0.F (k j : Nat) (x : Prod' impl_imageText.l0.ish.tys) : Option (Outs impl_imageText.l0.outs) := impl_imageText.l0 j x.1 x.2.1 x.2.2.1 x.2.2.2
def impl_imageText.l0.s (k : Nat) : Summ := { n := 22, ish := impl_imageText.l0.ish, outs := impl_imageText.l0.outs, f := impl_imageText.l0.F k k }
theorem impl_imageText.l0.ev (k j : Nat) (x : Prod' impl_imageText.l0.ish.tys) : V (impl_imageText.C k) .auto (cO (cO (cR (cL (cR (cR (cB Tryz.f193))))))) (mk impl_imageText.l0.ish 22 x) (fun e st' => match e with | .nrm => (rd impl_imageText.l0.ish st').bind (impl_imageText.l0.F k j) | e => rdOut e st' impl_imageText.l0.outs) = impl_imageText.l0.F k (j + 1) x := by kernel_rfl
theorem impl_imageText.l0.ok (k : Nat) : SumOk Tryz.prog (impl_imageText.C k) (.loop (cO (cO (cR (cL (cR (cR (cB Tryz.f193)))))))) (impl_imageText.l0.s k) := sum_ok (by kernel_rfl) (sum_loop (p := .auto) (F := impl_imageText.l0.F k) (impl_imageText.cok k) (by kernel_rfl) (plan_of (L := []) (by kernel_rfl) trivial) (fun _ => rfl) (fun j x y h => (impl_imageText.l0.ev k j x).trans h) k rfl)
theorem impl_imageText.ev (k : Nat) (x : Prod' impl_imageText.sig.ins) : impl_imageText.sig.ev (impl_imageText.C k) (.two .auto (.two .auto (.two (.two .auto (.one (.sum (impl_imageText.l0.s k)))) .auto))) Tryz.f193.results.toList (cB Tryz.f193) x = impl_imageText k x := by kernel_rfl
theorem impl_imageText.ok (k : Nat) : ConOk Tryz.prog 193 (impl_imageText.con k) := sig_ok (p := (.two .auto (.two .auto (.two (.two .auto (.one (.sum (impl_imageText.l0.s k)))) .auto)))) (impl_imageText.cok k) Tryz.func193 (by kernel_rfl) (show Tryz.f193.body = some (cB Tryz.f193) by kernel_rfl) (by kernel_rfl) (by kernel_rfl) (plan_of (L := [(impl_imageText.l0.s k, cO (cR (cL (cR (cR (cB Tryz.f193))))))]) (by kernel_rfl) ⟨impl_imageText.l0.ok k, trivial⟩) (fun x y h => (impl_imageText.ev k x).trans h)
def impl_imageRead.l0 : Nat → Str → Int → Int → List Str → Option ((List Str))
  | 0, _, _, _, _ => none
  | j + 1, a1, a2, a3, a4 =>
    bif decide (a3 < a2) then
      let e5 := IntKind.wrap .i64 (a3 + 1)
      Option.bind (cut? a1 a3 e5) fun v6 =>
      Option.bind (strings_Repeat v6 8) fun v7 =>
      Option.bind (app? 16 a4 [v7]) fun v8 =>
      impl_imageRead.l0 j a1 a2 e5 v8
    else
    some a4
def impl_imageRead (k : Nat) (a1 : Str) : Option (List Str × Bool) :=
  bif decide (8 < ((a1.length) : Int)) then
    some ([], false)
  else
  Option.bind (impl_imageRead.l0 k a1 ((a1.length) : Int) 0 []) fun y2 =>
  Option.bind (impl_isImage k y2) fun v3 =>
  bif v3 then
    Option.bind (impl_imageText k y2) fun v4 =>
    some (y2, v4 == a1)
  else
  some (y2, false)
def impl_imageRead.sig : Sig := { ps := [.val false .str (ros .str)], rs := [.val false [.own 9 .str], .val false [.v .bool]], ntmps := 33 }
def impl_imageRead.con (k : Nat) : Con := impl_imageRead.sig.con (fun x => impl_imageRead k x)
def impl_imageRead.C (k : Nat) : Ctx := { ti := TAB, con := conL [(115, impl_isImage.con k), (162, strings_Repeat.con k), (193, impl_imageText.con k)] }
theorem impl_imageRead.cok (k : Nat) : CtxOk Tryz.prog (impl_imageRead.C k) := ctx_ok TABok ⟨impl_isImage.ok k, strings_Repeat.ok k, impl_imageText.ok k, trivial⟩
def impl_imageRead.l0.ish : Shape := { tmps := [(0, .one (.v .str)), (4, .one (.own 0)), (10, .one (.v (.int .i64))), (11, .one (.v (.int .i64)))], slots := [(0, .arr false 9 .str)], nb := 1 }
def impl_imageRead.l0.outs : List (Ex × Shape) := [(.exit 0, { tmps := [(4, .one (.own 1))], slots := [(1, .arr false 9 .str)], nb := 2 })]
def impl_imageRead.l0.F (k j : Nat) (x : Prod' impl_imageRead.l0.ish.tys) : Option (Outs impl_imageRead.l0.outs) := impl_imageRead.l0 j x.1 x.2.1 x.2.2.1 x.2.2.2
def impl_imageRead.l0.s (k : Nat) : Summ := { n := 33, ish := impl_imageRead.l0.ish, outs := impl_imageRead.l0.outs, f := impl_imageRead.l0.F k k }
theorem impl_imageRead.l0.ev (k j : Nat) (x : Prod' impl_imageRead.l0.ish.tys) : V (impl_imageRead.C k) .auto (cO (cO (cR (cL (cR (cR (cR (cB Tryz.f137)))))))) (mk impl_imageRead.l0.ish 33 x) (fun e st' => match e with | .nrm => (rd impl_imageRead.l0.ish st').bind (impl_imageRead.l0.F k j) | e => rdOut e st' impl_imageRead.l0.outs) = impl_imageRead.l0.F k (j + 1) x := by kernel_rfl
theorem impl_imageRead.l0.ok (k : Nat) : SumOk Tryz.prog (impl_imageRead.C k) (.loop (cO (cO (cR (cL (cR (cR (cR (cB Tryz.f137))))))))) (impl_imageRead.l0.s k) := sum_ok (by kernel_rfl) (sum_loop (p := .auto) (F := impl_imageRead.l0.F k) (impl_imageRead.cok k) (by kernel_rfl) (plan_of (L := []) (by kernel_rfl) trivial) (fun _ => rfl) (fun j x y h => (impl_imageRead.l0.ev k j x).trans h) k rfl)
theorem impl_imageRead.ev (k : Nat) (x : Prod' impl_imageRead.sig.ins) : impl_imageRead.sig.ev (impl_imageRead.C k) (.two .auto (.two .auto (.two .auto (.two (.two .auto (.one (.sum (impl_imageRead.l0.s k)))) .auto)))) Tryz.f137.results.toList (cB Tryz.f137) x = impl_imageRead k x := by kernel_rfl
theorem impl_imageRead.ok (k : Nat) : ConOk Tryz.prog 137 (impl_imageRead.con k) := sig_ok (p := (.two .auto (.two .auto (.two .auto (.two (.two .auto (.one (.sum (impl_imageRead.l0.s k)))) .auto))))) (impl_imageRead.cok k) Tryz.func137 (by kernel_rfl) (show Tryz.f137.body = some (cB Tryz.f137) by kernel_rfl) (by kernel_rfl) (by kernel_rfl) (plan_of (L := [(impl_imageRead.l0.s k, cO (cR (cL (cR (cR (cR (cB Tryz.f137)))))))]) (by kernel_rfl) ⟨impl_imageRead.l0.ok k, trivial⟩) (fun x y h => (impl_imageRead.ev k x).trans h)
def impl_size_impl_Deed (a1 : List G28) : Option (Int) :=
  some ((a1.length) : Int)
def impl_size_impl_Deed.sig : Sig := { ps := [.val false (.sl T28) (ros (.sl T28))], rs := [.val false [.v (.int .i64)]], ntmps := 5 }
def impl_size_impl_Deed.con (k : Nat) : Con := impl_size_impl_Deed.sig.con (fun x => impl_size_impl_Deed x)
def impl_size_impl_Deed.C (k : Nat) : Ctx := { ti := TAB, con := conL [] }
theorem impl_size_impl_Deed.cok (k : Nat) : CtxOk Tryz.prog (impl_size_impl_Deed.C k) := ctx_ok TABok trivial
theorem impl_size_impl_Deed.ev (k : Nat) (x : Prod' impl_size_impl_Deed.sig.ins) : impl_size_impl_Deed.sig.ev (impl_size_impl_Deed.C k) .auto Tryz.f138.results.toList (cB Tryz.f138) x = impl_size_impl_Deed x := by kernel_rfl
theorem impl_size_impl_Deed.ok (k : Nat) : ConOk Tryz.prog 138 (impl_size_impl_Deed.con k) := sig_ok (p := .auto) (impl_size_impl_Deed.cok k) Tryz.func138 (by kernel_rfl) (show Tryz.f138.body = some (cB Tryz.f138) by kernel_rfl) (by kernel_rfl) (by kernel_rfl) (plan_of (L := []) (by kernel_rfl) trivial) (fun x y h => (impl_size_impl_Deed.ev k x).trans h)
def impl_scriptRead.l0 (k : Nat) : Nat → Str → List G28 → Option ((List G28) ⊕ (Int × Bool × List Str × List G28))
  | 0, _, _ => none
  | j + 1, a1, a2 =>
    bif !(a1 == []) then
      Option.bind (strings_Cut a1 ([10] : Str)) fun v3 =>
      Option.bind (impl_deedRead k v3.1) fun v4 =>
      bif ((!v3.2.2) || (!v4.2.2.2.2.2.2.2.2.2.2.2)) || (((a2.length) : Int) == 60) then
        Option.bind (impl_size_impl_Deed a2) fun v5 =>
        some (.inr (IntKind.wrap .i64 (v5 + 1), false, [], []))
      else
      Option.bind (app? 136 a2 [((v4.1, (v4.2.1, (v4.2.2.1, (v4.2.2.2.1, (v4.2.2.2.2.1, (v4.2.2.2.2.2.1, (v4.2.2.2.2.2.2.1, v4.2.2.2.2.2.2.2.1))))))), (v4.2.2.2.2.2.2.2.2.1, (v4.2.2.2.2.2.2.2.2.2.1, v4.2.2.2.2.2.2.2.2.2.2.1)))]) fun v6 =>
      impl_scriptRead.l0 k j v3.2.1 v6
    else
    some (.inl a2)
def impl_scriptRead (k : Nat) (a1 : Str) : Option (List Str × List G28 × Int × Bool) :=
  Option.bind (strings_Cut a1 ([10] : Str)) fun v2 =>
  Option.bind (strings_CutPrefix v2.1 ([109, 97, 99, 104, 105, 110, 101, 32] : Str)) fun v3 =>
  Option.bind (impl_imageRead k v3.1) fun v4 =>
  bif ((!v2.2.2) || (!v3.2)) || (!v4.2) then
    some ([], [], 0, false)
  else
  Option.bind (impl_scriptRead.l0 k k v2.2.1 []) fun
    | .inl y5 =>
      some (v4.1, y5, 0, true)
    | .inr y6 =>
      some (y6.2.2.1, y6.2.2.2, y6.1, y6.2.1)
def impl_scriptRead.sig : Sig := { ps := [.val false .str (ros .str)], rs := [.val false [.own 9 .str], .val false [.own 28 T28], .val false [.v (.int .i64)], .val false [.v .bool]], ntmps := 75 }
def impl_scriptRead.con (k : Nat) : Con := impl_scriptRead.sig.con (fun x => impl_scriptRead k x)
def impl_scriptRead.C (k : Nat) : Ctx := { ti := TAB, con := conL [(45, impl_deedRead.con k), (135, strings_Cut.con k), (136, strings_CutPrefix.con k), (137, impl_imageRead.con k), (138, impl_size_impl_Deed.con k)] }
theorem impl_scriptRead.cok (k : Nat) : CtxOk Tryz.prog (impl_scriptRead.C k) := ctx_ok TABok ⟨impl_deedRead.ok k, strings_Cut.ok k, strings_CutPrefix.ok k, impl_imageRead.ok k, impl_size_impl_Deed.ok k, trivial⟩
def impl_scriptRead.l0.ish : Shape := { tmps := [(7, .one (.v .str)), (13, .one (.own 1))], slots := [(1, .arr false 28 T28)], nb := 2 }
def impl_scriptRead.l0.outs : List (Ex × Shape) := [(.exit 0, { tmps := [(13, .one (.own 2))], slots := [(2, .arr false 28 T28)], nb := 3 }), (.ret, { tmps := [(2, .one (.own 2)), (3, .one (.own 3)), (4, .one (.v (.int .i64))), (5, .one (.v .bool))], slots := [(2, .arr false 9 .str), (3, .arr false 28 T28)], nb := 4 })]
def impl_scriptRead.l0.F (k j : Nat) (x : Prod' impl_scriptRead.l0.ish.tys) : Option (Outs impl_scriptRead.l0.outs) := impl_scriptRead.l0 k j x.1 x.2
def impl_scriptRead.l0.s (k : Nat) : Summ := { n := 75, ish := impl_scriptRead.l0.ish, outs := impl_scriptRead.l0.outs, f := impl_scriptRead.l0.F k k }
theorem impl_scriptRead.l0.ev (k j : Nat) (x : Prod' impl_scriptRead.l0.ish.tys) : V (impl_scriptRead.C k) .auto (cO (cO (cL (cR (cR (cR (cR (cR (cR (cB Tryz.f74)))))))))) (mk impl_scriptRead.l0.ish 75 x) (fun e st' => match e with | .nrm => (rd impl_scriptRead.l0.ish st').bind (impl_scriptRead.l0.F k j) | e => rdOut e st' impl_scriptRead.l0.outs) = impl_scriptRead.l0.F k (j + 1) x := by kernel_rfl
theorem impl_scriptRead.l0.ok (k : Nat) : SumOk Tryz.prog (impl_scriptRead.C k) (.loop (cO (cO (cL (cR (cR (cR (cR (cR (cR (cB Tryz.f74))))))))))) (impl_scriptRead.l0.s k) := sum_ok (by kernel_rfl) (sum_loop (p := .auto) (F := impl_scriptRead.l0.F k) (impl_scriptRead.cok k) (by kernel_rfl) (plan_of (L := []) (by kernel_rfl) trivial) (fun _ => rfl) (fun j x y h => (impl_scriptRead.l0.ev k j x).trans h) k rfl)
theorem impl_scriptRead.ev (k : Nat) (x : Prod' impl_scriptRead.sig.ins) : impl_scriptRead.sig.ev (impl_scriptRead.C k) (.two .auto (.two .auto (.two .auto (.two .auto (.two .auto (.two .auto (.two (.one (.sum (impl_scriptRead.l0.s k))) .auto))))))) Tryz.f74.results.toList (cB Tryz.f74) x = impl_scriptRead k x := by kernel_rfl
theorem impl_scriptRead.ok (k : Nat) : ConOk Tryz.prog 74 (impl_scriptRead.con k) := sig_ok (p := (.two .auto (.two .auto (.two .auto (.two .auto (.two .auto (.two .auto (.two (.one (.sum (impl_scriptRead.l0.s k))) .auto)))))))) (impl_scriptRead.cok k) Tryz.func74 (by kernel_rfl) (show Tryz.f74.body = some (cB Tryz.f74) by kernel_rfl) (by kernel_rfl) (by kernel_rfl) (plan_of (L := [(impl_scriptRead.l0.s k, cO (cL (cR (cR (cR (cR (cR (cR (cB Tryz.f74)))))))))]) (by kernel_rfl) ⟨impl_scriptRead.l0.ok k, trivial⟩) (fun x y h => (impl_scriptRead.ev k x).trans h)
def impl_ScriptFault (k : Nat) (a1 : Str) : Option (Str × Int × Int) :=
  bif decide (8000 < ((a1.length) : Int)) then
    some ([], 0, 2)
  else
  Option.bind (impl_scriptRead k a1) fun v2 =>
  bif !v2.2.2.2 then
    some ([], v2.2.2.1, 3)
  else
  some ([], 0, 0)
def impl_ScriptFault.sig : Sig := { ps := [.val false .str (ros .str)], rs := [.val true [.v .str, .v (.int .i64), .v (.int .i64)]], ntmps := 23 }
def impl_ScriptFault.con (k : Nat) : Con := impl_ScriptFault.sig.con (fun x => impl_ScriptFault k x)
def impl_ScriptFault.C (k : Nat) : Ctx := { ti := TAB, con := conL [(74, impl_scriptRead.con k)] }
theorem impl_ScriptFault.cok (k : Nat) : CtxOk Tryz.prog (impl_ScriptFault.C k) := ctx_ok TABok ⟨impl_scriptRead.ok k, trivial⟩
theorem impl_ScriptFault.ev (k : Nat) (x : Prod' impl_ScriptFault.sig.ins) : impl_ScriptFault.sig.ev (impl_ScriptFault.C k) .auto Tryz.f26.results.toList (cB Tryz.f26) x = impl_ScriptFault k x := by kernel_rfl
theorem impl_ScriptFault.ok (k : Nat) : ConOk Tryz.prog 26 (impl_ScriptFault.con k) := sig_ok (p := .auto) (impl_ScriptFault.cok k) Tryz.func26 (by kernel_rfl) (show Tryz.f26.body = some (cB Tryz.f26) by kernel_rfl) (by kernel_rfl) (by kernel_rfl) (plan_of (L := []) (by kernel_rfl) trivial) (fun x y h => (impl_ScriptFault.ev k x).trans h)
def laws_eqScriptOut (a1 : G61) (a2 : G61) : Option (Bool) :=
  bif !(a1.1 == a2.1) then
    some false
  else
  bif a1.2.1 != a2.2.1 then
    some false
  else
  bif a1.2.2 != a2.2.2 then
    some false
  else
  some true
def laws_eqScriptOut.sig : Sig := { ps := [.val true T61 (ros T61), .val true T61 (ros T61)], rs := [.val false [.v .bool]], ntmps := 20 }
def laws_eqScriptOut.con (k : Nat) : Con := laws_eqScriptOut.sig.con (fun x => laws_eqScriptOut x.1 x.2)
def laws_eqScriptOut.C (k : Nat) : Ctx := { ti := TAB, con := conL [] }
theorem laws_eqScriptOut.cok (k : Nat) : CtxOk Tryz.prog (laws_eqScriptOut.C k) := ctx_ok TABok trivial
theorem laws_eqScriptOut.ev (k : Nat) (x : Prod' laws_eqScriptOut.sig.ins) : laws_eqScriptOut.sig.ev (laws_eqScriptOut.C k) .auto Tryz.f27.results.toList (cB Tryz.f27) x = laws_eqScriptOut x.1 x.2 := by kernel_rfl
theorem laws_eqScriptOut.ok (k : Nat) : ConOk Tryz.prog 27 (laws_eqScriptOut.con k) := sig_ok (p := .auto) (laws_eqScriptOut.cok k) Tryz.func27 (by kernel_rfl) (show Tryz.f27.body = some (cB Tryz.f27) by kernel_rfl) (by kernel_rfl) (by kernel_rfl) (plan_of (L := []) (by kernel_rfl) trivial) (fun x y h => (laws_eqScriptOut.ev k x).trans h)
def laws_FnExactScriptFault (k : Nat) (a1 : Str) : Option (Bool) :=
  bif decide (1048576 < ((a1.length) : Int)) then
    some true
  else
  Option.bind (spec_ScriptFault k a1) fun v2 =>
  Option.bind (impl_ScriptFault k a1) fun v3 =>
  Option.bind (laws_eqScriptOut v3 v2) fun v4 =>
  bif !v4 then
    some false
  else
  some true
def laws_FnExactScriptFault.sig : Sig := { ps := [.val false .str (ros .str)], rs := [.val false [.v .bool]], ntmps := 16 }
def laws_FnExactScriptFault.con (k : Nat) : Con := laws_FnExactScriptFault.sig.con (fun x => laws_FnExactScriptFault k x)
def laws_FnExactScriptFault.C (k : Nat) : Ctx := { ti := TAB, con := conL [(25, spec_ScriptFault.con k), (26, impl_ScriptFault.con k), (27, laws_eqScriptOut.con k)] }
theorem laws_FnExactScriptFault.cok (k : Nat) : CtxOk Tryz.prog (laws_FnExactScriptFault.C k) := ctx_ok TABok ⟨spec_ScriptFault.ok k, impl_ScriptFault.ok k, laws_eqScriptOut.ok k, trivial⟩
theorem laws_FnExactScriptFault.ev (k : Nat) (x : Prod' laws_FnExactScriptFault.sig.ins) : laws_FnExactScriptFault.sig.ev (laws_FnExactScriptFault.C k) .auto Tryz.f5.results.toList (cB Tryz.f5) x = laws_FnExactScriptFault k x := by kernel_rfl
theorem laws_FnExactScriptFault.ok (k : Nat) : ConOk Tryz.prog 5 (laws_FnExactScriptFault.con k) := sig_ok (p := .auto) (laws_FnExactScriptFault.cok k) Tryz.func5 (by kernel_rfl) (show Tryz.f5.body = some (cB Tryz.f5) by kernel_rfl) (by kernel_rfl) (by kernel_rfl) (plan_of (L := []) (by kernel_rfl) trivial) (fun x y h => (laws_FnExactScriptFault.ev k x).trans h)
end Go.Proofs.YtcnkbllbpimaiaaGreatDoorE

namespace Go.Proofs.YtcnkbllbpimaiaaGreatDoorE
open Go
set_option linter.unusedVariables false
def Ever (p : Nat → Prop) : Prop := ∃ K, ∀ k, K ≤ k → p k
theorem Ever.of {p : Nat → Prop} (h : ∀ k, p k) : Ever p := ⟨0, fun k _ => h k⟩
theorem Ever.ge {p : Nat → Prop} (K : Nat) (h : ∀ k, K ≤ k → p k) : Ever p := ⟨K, h⟩
theorem Ever.mono {p q : Nat → Prop} (h : Ever p) (f : ∀ k, p k → q k) : Ever q := by
  obtain ⟨K, h⟩ := h
  exact ⟨K, fun k hk => f k (h k hk)⟩
theorem Ever.and {p q : Nat → Prop} (h : Ever p) (g : Ever q) : Ever fun k => p k ∧ q k := by
  obtain ⟨K, h⟩ := h
  obtain ⟨J, g⟩ := g
  exact ⟨K + J, fun k hk => ⟨h k (by omega), g k (by omega)⟩⟩
theorem Ever.ex {p : Nat → Prop} (h : Ever p) : ∃ k, p k := by
  obtain ⟨K, h⟩ := h
  exact ⟨K, h K (Nat.le_refl K)⟩
theorem Ever.all {n : Nat} {p : Nat → Nat → Prop} : (∀ i, i < n → Ever (p i)) → Ever fun k => ∀ i, i < n → p i k := by
  induction n with
  | zero => exact fun _ => ⟨0, fun k _ i hi => absurd hi (Nat.not_lt_zero i)⟩
  | succ n ih =>
    intro h
    refine ((ih fun i hi => h i (Nat.lt_succ_of_lt hi)).and (h n (Nat.lt_succ_self n))).mono fun k hk i hi => ?_
    rcases Nat.eq_or_lt_of_le (Nat.le_of_lt_succ hi) with rfl | hi
    · exact hk.2
    · exact hk.1 i hi
/-- Two facts, then a third. -/
theorem Ever.two {p q r : Nat → Prop} (h : Ever p) (g : Ever q) (f : ∀ k, p k → q k → r k) : Ever r := (h.and g).mono fun k hk => f k hk.1 hk.2
/-- A loop of n rounds: what it has in hand at round i is told by i. -/
theorem ever_loop {R : Type} (L : Nat → Nat → Nat → Option R) (n : Nat) (r : R) (hs : Ever fun k => ∀ i, i < n → ∀ j, L k (j + 1) i = L k j (i + 1)) (hl : Ever fun k => ∀ j, L k (j + 1) n = some r) : Ever fun k => L k k 0 = some r := by
  obtain ⟨K, hs⟩ := hs
  obtain ⟨J, hl⟩ := hl
  refine ⟨K + J + n + 1, fun k hk => ?_⟩
  have hs := hs k (by omega)
  have hl := hl k (by omega)
  have key : ∀ d i j, i + d = n → d < j → L k j i = some r := by
    intro d
    induction d with
    | zero =>
      intro i j hi hj
      obtain ⟨m, rfl⟩ : ∃ m, j = m + 1 := ⟨j - 1, by omega⟩
      obtain rfl : i = n := by omega
      exact hl m
    | succ d ih =>
      intro i j hi hj
      obtain ⟨m, rfl⟩ : ∃ m, j = m + 1 := ⟨j - 1, by omega⟩
      rw [hs i (by omega) m]
      exact ih (i + 1) m (by omega) (by omega)
  exact key n 0 k (by omega) (by omega)
/-- The same, where neither the round nor the end hangs on fuel. -/
theorem loop_of {R : Type} (L : Nat → Nat → Option R) (n : Nat) (r : R) (hs : ∀ i, i < n → ∀ j, L (j + 1) i = L j (i + 1)) (hl : ∀ j, L (j + 1) n = some r) : Ever fun k => L k 0 = some r :=
  ever_loop (fun _ j i => L j i) n r (Ever.of fun _ => hs) (Ever.of fun _ => hl)
theorem loop_at {R : Type} (L : Nat → Nat → Option R) (n : Nat) (r : R) (hs : ∀ i, i < n → ∀ j, L (j + 1) i = L j (i + 1)) (hl : ∀ j, L (j + 1) n = some r) : ∀ k, n < k → L k 0 = some r := by
  have key : ∀ d i j, i + d = n → d < j → L j i = some r := by
    intro d
    induction d with
    | zero =>
      intro i j hi hj
      obtain ⟨m, rfl⟩ : ∃ m, j = m + 1 := ⟨j - 1, by omega⟩
      obtain rfl : i = n := by omega
      exact hl m
    | succ d ih =>
      intro i j hi hj
      obtain ⟨m, rfl⟩ : ∃ m, j = m + 1 := ⟨j - 1, by omega⟩
      rw [hs i (by omega) m]
      exact ih (i + 1) m (by omega) (by omega)
  exact fun k hk => key n 0 k (by omega) hk
theorem bnd {α β : Type} {f : Nat → Option α} {g : Nat → α → Option β} {a : α} {b : β} (h : Ever fun k => f k = some a) (k : Ever fun k => g k a = some b) : Ever fun k => (f k).bind (g k) = some b :=
  h.two k fun k h1 h2 => by rw [h1]; exact h2
theorem some_cond {α : Type} {b : Bool} {x y : Option α} (hx : ∃ v, x = some v) (hy : ∃ v, y = some v) : ∃ v, (bif b then x else y) = some v := by
  cases b
  · exact hy
  · exact hx
theorem some_bind {α β : Type} {x : Option α} {f : α → Option β} (hx : ∃ v, x = some v) (hf : ∀ v, ∃ w, f v = some w) : ∃ w, x.bind f = some w := by
  obtain ⟨v, rfl⟩ := hx
  exact hf v
/-! ### numbers -/
theorem w64 {n : Int} (h0 : -9223372036854775808 ≤ n) (h1 : n < 9223372036854775808) : IntKind.wrap .i64 n = n := by
  simp [IntKind.wrap, IntKind.bits, IntKind.signed]
  omega
theorem wf64 {n : Int} (h : Bnd (.int .i64) n) : -9223372036854775808 ≤ n ∧ n < 9223372036854775808 := by
  have h : (Lit.int .i64 n).wf = true := h
  simp [Lit.wf, IntKind.min, IntKind.max, IntKind.signed, IntKind.bits] at h
  omega
theorem wn {n : Nat} (h : n < 9223372036854775808) : IntKind.wrap .i64 (n : Int) = n := w64 (by omega) (by omega)
theorem wsuc {n : Nat} (h : n < 9223372036854775807) : IntKind.wrap .i64 ((n : Int) + 1) = ((n + 1 : Nat) : Int) := by rw [w64] <;> omega
/-! ### partial answers -/
theorem at_nat {α : Type} {l : List α} {i : Nat} (h : i < l.length) : at? l (i : Int) = some l[i] := by
  unfold at?
  rw [if_pos (by omega), Int.toNat_natCast, List.getElem?_eq_getElem h]
theorem app_ok {α : Type} {n : Nat} {a b : List α} (h : (a.length + b.length) * n ≤ 140737488355328) : app? n a b = some (a ++ b) := if_pos h
theorem cat_some {a b : Str} (h : a.length + b.length ≤ 9223372036854775807) : cat? a b = some (a ++ b) := if_pos h
theorem make_some {α : Type} {b n : Nat} {x : α} (h : n * b ≤ 140737488355328) : make? b (n : Int) (n : Int) x = some (List.replicate n x) := by
  unfold make?
  rw [if_pos ⟨by omega, Int.le_refl _, by rw [Int.toNat_natCast]; exact h⟩, Int.toNat_natCast]
theorem cut_ok {α : Type} {l : List α} {i j : Nat} (h : i ≤ j) (k : j ≤ l.length) : cut? l (i : Int) (j : Int) = some ((l.take j).drop i) := by
  unfold cut?
  rw [if_pos ⟨by omega, by omega, by omega⟩, Int.toNat_natCast, Int.toNat_natCast]
theorem room_some {n b : Nat} (h : n * b ≤ 140737488355328) : room? n b = some () := if_pos h
theorem nz_some {b : Int} (h : b ≠ 0) : nz? b = some () := if_neg h
theorem nneg_some {b : Int} (h : 0 ≤ b) : nneg? b = some () := if_neg (by omega)
theorem take_map_succ {α β : Type} {l : List α} (f : α → β) {i : Nat} (h : i < l.length) : (l.take (i + 1)).map f = (l.take i).map f ++ [f l[i]] := by
  rw [List.take_add_one, List.getElem?_eq_getElem h, List.map_append]
  rfl
theorem take_succ' {α : Type} {l : List α} {i : Nat} (h : i < l.length) : l.take (i + 1) = l.take i ++ [l[i]] := by
  rw [List.take_add_one, List.getElem?_eq_getElem h]
  rfl
/-- A list that is filled, place by place. -/
theorem fill_set {α β : Type} {l : List α} {f : α → β} {z : β} {i : Nat} (h : i < l.length) :
    ((l.take i).map f ++ List.replicate (l.length - i) z).set i (f l[i]) = (l.take (i + 1)).map f ++ List.replicate (l.length - (i + 1)) z := by
  have hl : ((l.take i).map f).length = i := by simp; omega
  rw [List.set_append_right _ _ (by rw [hl]; exact Nat.le_refl i), hl, Nat.sub_self, show l.length - i = (l.length - (i + 1)) + 1 by omega, List.replicate_succ, List.set_cons_zero, take_map_succ f h, List.append_assoc]
  rfl
theorem fill_len {α β : Type} {l : List α} {f : α → β} {z : β} {i : Nat} (h : i ≤ l.length) : ((l.take i).map f ++ List.replicate (l.length - i) z).length = l.length := by simp; omega
end Go.Proofs.YtcnkbllbpimaiaaGreatDoorE

namespace Go.Proofs.YtcnkbllbpimaiaaGreatDoorE
open Go
set_option linter.unusedVariables false
/-- A step is taken for each element, until one of them ends it. -/
def runL {α S R : Type} (f : S → α → S ⊕ R) (g : S → R) : List α → S → R
  | [], s => g s
  | x :: l, s => match f s x with
    | .inl s' => runL f g l s'
    | .inr r => r
theorem runL_inl {α S R : Type} {f : S → α → S ⊕ R} {g : S → R} {x : α} {l : List α} {s s' : S} (h : f s x = .inl s') : runL f g (x :: l) s = runL f g l s' := by
  have e : runL f g (x :: l) s = match f s x with | .inl s' => runL f g l s' | .inr r => r := rfl
  rw [e, h]
theorem runL_inr {α S R : Type} {f : S → α → S ⊕ R} {g : S → R} {x : α} {l : List α} {s : S} {r : R} (h : f s x = .inr r) : runL f g (x :: l) s = r := by
  have e : runL f g (x :: l) s = match f s x with | .inl s' => runL f g l s' | .inr r => r := rfl
  rw [e, h]
theorem loop_from {α S R : Type} (L : Nat → S → Int → Option R) (l : List α) (f : S → α → S ⊕ R) (g : S → R) (I : Nat → S → Prop)
    (hs : ∀ (i : Nat) (h : i < l.length) (s : S), I i s → (∃ s', f s l[i] = .inl s' ∧ I (i + 1) s' ∧ ∀ j, L (j + 1) s (i : Int) = L j s' ((i + 1 : Nat) : Int)) ∨ ∃ r, f s l[i] = .inr r ∧ ∀ j, L (j + 1) s (i : Int) = some r)
    (he : ∀ (s : S), I l.length s → ∀ j, L (j + 1) s (l.length : Int) = some (g s)) : ∀ (d i : Nat) (s : S), i + d = l.length → I i s → ∀ j, d < j → L j s (i : Int) = some (runL f g (l.drop i) s) := by
  intro d
  induction d with
  | zero =>
    intro i s hi hI j hj
    obtain ⟨j, rfl⟩ : ∃ q, j = q + 1 := ⟨j - 1, by omega⟩
    obtain rfl : i = l.length := by omega
    rw [List.drop_length, he s hI]
    rfl
  | succ d ih =>
    intro i s hi hI j hj
    obtain ⟨j, rfl⟩ : ∃ q, j = q + 1 := ⟨j - 1, by omega⟩
    have hlt : i < l.length := by omega
    rw [List.drop_eq_getElem_cons hlt]
    rcases hs i hlt s hI with ⟨s', h1, h2, h3⟩ | ⟨r, h1, h3⟩
    · rw [h3 j]
      show _ = some (match f s l[i] with | .inl s' => runL f g (l.drop (i + 1)) s' | .inr r => r)
      rw [h1]
      exact ih (i + 1) s' (by omega) h2 j (by omega)
    · rw [h3 j]
      show _ = some (match f s l[i] with | .inl s' => runL f g (l.drop (i + 1)) s' | .inr r => r)
      rw [h1]
theorem loop_fold {α S R : Type} (L : Nat → S → Int → Option R) (l : List α) (f : S → α → S ⊕ R) (g : S → R) (I : Nat → S → Prop)
    (hs : ∀ (i : Nat) (h : i < l.length) (s : S), I i s → (∃ s', f s l[i] = .inl s' ∧ I (i + 1) s' ∧ ∀ j, L (j + 1) s (i : Int) = L j s' ((i + 1 : Nat) : Int)) ∨ ∃ r, f s l[i] = .inr r ∧ ∀ j, L (j + 1) s (i : Int) = some r)
    (he : ∀ (s : S), I l.length s → ∀ j, L (j + 1) s (l.length : Int) = some (g s)) {s : S} (hI : I 0 s) {k : Nat} (hk : l.length < k) : L k s 0 = some (runL f g l s) :=
  loop_from L l f g I hs he l.length 0 s (Nat.zero_add _) hI k hk
/-- A loop that tests each element with a partial function that answers, and leaves at the first that passes. -/
def firstI {α : Type} (p : α → Bool) : List α → Nat → Option Nat
  | [], _ => none
  | x :: l, i => if p x then some i else firstI p l (i + 1)
theorem loop_find {α R : Type} (L : Nat → Int → Option R) (l : List α) (p : α → Bool) (a : R) (b : Nat → R)
    (hs : ∀ (i : Nat) (h : i < l.length), (p l[i] = false → ∀ j, L (j + 1) (i : Int) = L j ((i + 1 : Nat) : Int)) ∧ (p l[i] = true → ∀ j, L (j + 1) (i : Int) = some (b i)))
    (he : ∀ j, L (j + 1) (l.length : Int) = some a) {k : Nat} (hk : l.length < k) : L k 0 = some (match firstI p l 0 with | some i => b i | none => a) := by
  have key : ∀ (d i : Nat), i + d = l.length → ∀ j, d < j → L j (i : Int) = some (match firstI p (l.drop i) i with | some i => b i | none => a) := by
    intro d
    induction d with
    | zero =>
      intro i hi j hj
      obtain ⟨j, rfl⟩ : ∃ q, j = q + 1 := ⟨j - 1, by omega⟩
      obtain rfl : i = l.length := by omega
      rw [List.drop_length, he]
      rfl
    | succ d ih =>
      intro i hi j hj
      obtain ⟨j, rfl⟩ : ∃ q, j = q + 1 := ⟨j - 1, by omega⟩
      have hlt : i < l.length := by omega
      rw [List.drop_eq_getElem_cons hlt]
      obtain ⟨h1, h2⟩ := hs i hlt
      cases hp : p l[i] with
      | true => rw [h2 hp j]; simp [firstI, hp]
      | false =>
        rw [h1 hp j, ih (i + 1) (by omega) j (by omega)]
        simp [firstI, hp]
  have := key l.length 0 (Nat.zero_add _) k hk
  rwa [List.drop_zero] at this
theorem firstI_some {α : Type} {p : α → Bool} : ∀ {l : List α} {n i : Nat}, firstI p l n = some i → n ≤ i ∧ ∃ h : i - n < l.length, p (l[i - n]) = true ∧ ∀ j, (hj : j < i - n) → p (l[j]'(by omega)) = false
  | [], _, _, h => by cases h
  | x :: l, n, i, h => by
    unfold firstI at h
    split at h
    · rename_i hp
      cases h
      refine ⟨Nat.le_refl _, by simp, ?_, fun j hj => by omega⟩
      simpa using hp
    · rename_i hp
      obtain ⟨h1, h2, h3, h4⟩ := firstI_some h
      refine ⟨by omega, by simp only [List.length_cons]; omega, ?_, fun j hj => ?_⟩
      · have e : i - n = (i - (n + 1)) + 1 := by omega
        simpa [e] using h3
      · cases j with
        | zero => simpa using hp
        | succ j => simpa using h4 j (by omega)
theorem firstI_none {α : Type} {p : α → Bool} : ∀ {l : List α} {n : Nat}, firstI p l n = none ↔ ∀ x ∈ l, p x = false
  | [], n => by simp [firstI]
  | x :: l, n => by
    unfold firstI
    split
    · rename_i hp
      simp [hp]
    · rename_i hp
      rw [firstI_none]
      simp at hp
      simp [hp]
theorem firstI_any {α : Type} {p : α → Bool} {l : List α} {n : Nat} : (firstI p l n).isSome = l.any p := by
  cases h : firstI p l n with
  | none =>
    have := firstI_none.1 h
    symm
    simp only [Option.isSome_none, List.any_eq_false]
    intro x hx
    rw [this x hx]
    exact nofun
  | some i =>
    obtain ⟨_, h2, h3, _⟩ := firstI_some h
    symm
    exact List.any_eq_true.2 ⟨_, List.getElem_mem h2, h3⟩
/-- A list that is copied place by place. -/
theorem copy_loop {α : Type} (L : Nat → Int → List α → Option (List α)) (l : List α) (z : α)
    (hs : ∀ (i : Nat) (h : i < l.length) (c : List α), c.length = l.length → ∀ j, L (j + 1) (i : Int) c = L j ((i + 1 : Nat) : Int) (c.set i l[i]))
    (he : ∀ (c : List α) j, L (j + 1) (l.length : Int) c = some c) {k : Nat} (hk : l.length < k) : L k 0 (List.replicate l.length z) = some l := by
  have key : ∀ (d i : Nat), i + d = l.length → ∀ j, d < j → L j (i : Int) (l.take i ++ List.replicate (l.length - i) z) = some l := by
    intro d
    induction d with
    | zero =>
      intro i hi j hj
      obtain ⟨j, rfl⟩ : ∃ q, j = q + 1 := ⟨j - 1, by omega⟩
      obtain rfl : i = l.length := by omega
      rw [he, Nat.sub_self, List.take_length]
      simp
    | succ d ih =>
      intro i hi j hj
      obtain ⟨j, rfl⟩ : ∃ q, j = q + 1 := ⟨j - 1, by omega⟩
      have hlt : i < l.length := by omega
      rw [hs i hlt _ (by simp; omega)]
      have e : (l.take i ++ List.replicate (l.length - i) z).set i l[i] = l.take (i + 1) ++ List.replicate (l.length - (i + 1)) z := by
        have hl : (l.take i).length = i := by simp; omega
        rw [List.set_append_right _ _ (by omega), hl, Nat.sub_self, show l.length - i = (l.length - (i + 1)) + 1 by omega, List.replicate_succ, List.set_cons_zero, take_succ' hlt, List.append_assoc]
        rfl
      rw [e]
      exact ih (i + 1) (by omega) j (by omega)
  have := key l.length 0 (Nat.zero_add _) k hk
  simpa using this
theorem dlt {a b : Nat} (h : a < b) : decide ((a : Int) < (b : Int)) = true := decide_eq_true (by omega)
theorem dnlt {a b : Nat} (h : b ≤ a) : decide ((a : Int) < (b : Int)) = false := decide_eq_false (by omega)
theorem bnd' {α β : Type} {x : Option α} {f : α → Option β} {a : α} {b : Option β} (h : x = some a) (k : f a = b) : x.bind f = b := by rw [h]; exact k
theorem cat_loop {α : Type} (L : Nat → Nat → Str → Int → Option Str) (l : List α) (f : α → Str) (B M : Nat) (hB : ∀ x ∈ l, (f x).length ≤ B)
    (hs : ∀ i, (h : i < l.length) → Ever fun k => ∀ acc j, acc.length ≤ M → L k (j + 1) acc (i : Int) = L k j (acc ++ f l[i]) ((i + 1 : Nat) : Int))
    (he : ∀ k acc j, L k (j + 1) acc (l.length : Int) = some acc) (acc : Str) (ha : acc.length + B * l.length ≤ M) : Ever fun k => L k k acc 0 = some (acc ++ (l.map f).flatten) := by
  have hall : Ever fun k => ∀ i, i < l.length → ∀ (h : i < l.length) acc j, acc.length ≤ M → L k (j + 1) acc (i : Int) = L k j (acc ++ f l[i]) ((i + 1 : Nat) : Int) := Ever.all fun i hi => (hs i hi).mono fun k hk h => hk
  obtain ⟨K, hK⟩ := hall
  refine Ever.ge (K + l.length + 1) fun k hk => ?_
  have hK := hK k (by omega)
  have key : ∀ (d i : Nat) (acc : Str), i + d = l.length → acc.length + B * d ≤ M → ∀ j, d < j → L k j acc (i : Int) = some (acc ++ ((l.drop i).map f).flatten) := by
    intro d
    induction d with
    | zero =>
      intro i acc hi hacc j hj
      obtain ⟨j, rfl⟩ : ∃ q, j = q + 1 := ⟨j - 1, by omega⟩
      obtain rfl : i = l.length := by omega
      rw [he, List.drop_length]
      simp
    | succ d ih =>
      intro i acc hi hacc j hj
      obtain ⟨j, rfl⟩ : ∃ q, j = q + 1 := ⟨j - 1, by omega⟩
      have h : i < l.length := by omega
      have hf := hB _ (List.getElem_mem h)
      rw [Nat.mul_succ] at hacc
      rw [hK i h h acc j (by omega), ih (i + 1) _ (by omega) (by rw [List.length_append]; omega) j (by omega), List.drop_eq_getElem_cons h, List.map_cons, List.flatten_cons, List.append_assoc]
  have := key l.length 0 acc (Nat.zero_add _) ha k (by omega)
  rwa [List.drop_zero] at this
end Go.Proofs.YtcnkbllbpimaiaaGreatDoorE

namespace Go.Proofs.YtcnkbllbpimaiaaGreatDoorE
open Go
set_option linter.unusedVariables false
theorem u8w (n : Int) : IntKind.wrap .u8 n = n % 256 := by simp [IntKind.wrap, IntKind.bits, IntKind.signed]
theorem u32w (n : Int) : IntKind.wrap .u32 n = n % 4294967296 := by simp [IntKind.wrap, IntKind.bits, IntKind.signed]
theorem u64w (n : Int) : IntKind.wrap .u64 n = n % 18446744073709551616 := by simp [IntKind.wrap, IntKind.bits, IntKind.signed]
theorem bx32 (a b : Nat) (ha : a < 4294967296) (hb : b < 4294967296) : intBits .xor .u32 (a : Int) (b : Int) = ((a ^^^ b : Nat) : Int) := by
  have hx : a ^^^ b < 2 ^ 32 := Nat.xor_lt_two_pow (by omega) (by omega)
  show IntKind.wrap .u32 (((BitVec.ofInt 32 (a : Int)) ^^^ (BitVec.ofInt 32 (b : Int))).toNat : Int) = _
  rw [BitVec.ofInt_natCast, BitVec.ofInt_natCast, BitVec.toNat_xor, BitVec.toNat_ofNat, BitVec.toNat_ofNat, u32w, Nat.mod_eq_of_lt (show a < 2 ^ 32 by omega), Nat.mod_eq_of_lt (show b < 2 ^ 32 by omega)]
  omega
theorem band1 (a : Nat) (ha : a < 4294967296) : intBits .and .u32 (a : Int) 1 = ((a % 2 : Nat) : Int) := by
  have h : a &&& 1 = a % 2 := Nat.and_one_is_mod a
  show IntKind.wrap .u32 (((BitVec.ofInt 32 (a : Int)) &&& (BitVec.ofInt 32 ((1 : Nat) : Int))).toNat : Int) = _
  rw [BitVec.ofInt_natCast, BitVec.ofInt_natCast, BitVec.toNat_and, BitVec.toNat_ofNat, BitVec.toNat_ofNat, u32w, Nat.mod_eq_of_lt (show a < 2 ^ 32 by omega), Nat.mod_eq_of_lt (show 1 < 2 ^ 32 by omega), h]
  omega
theorem band64 (a : Nat) (ha : a < 18446744073709551616) : intBits .and .u64 (a : Int) 1 = ((a % 2 : Nat) : Int) := by
  have h : a &&& 1 = a % 2 := Nat.and_one_is_mod a
  show IntKind.wrap .u64 (((BitVec.ofInt 64 (a : Int)) &&& (BitVec.ofInt 64 ((1 : Nat) : Int))).toNat : Int) = _
  rw [BitVec.ofInt_natCast, BitVec.ofInt_natCast, BitVec.toNat_and, BitVec.toNat_ofNat, BitVec.toNat_ofNat, u64w, Nat.mod_eq_of_lt (show a < 2 ^ 64 by omega), Nat.mod_eq_of_lt (show 1 < 2 ^ 64 by omega), h]
  omega
theorem bor64 (a b : Nat) (ha : a < 18446744073709551616) (hb : b < 18446744073709551616) : intBits .or .u64 (a : Int) (b : Int) = ((a ||| b : Nat) : Int) := by
  show IntKind.wrap .u64 (((BitVec.ofInt 64 (a : Int)) ||| (BitVec.ofInt 64 (b : Int))).toNat : Int) = _
  have hx : a ||| b < 2 ^ 64 := Nat.or_lt_two_pow (by omega) (by omega)
  rw [BitVec.ofInt_natCast, BitVec.ofInt_natCast, BitVec.toNat_or, BitVec.toNat_ofNat, BitVec.toNat_ofNat, u64w, Nat.mod_eq_of_lt (show a < 2 ^ 64 by omega), Nat.mod_eq_of_lt (show b < 2 ^ 64 by omega)]
  omega
theorem and127 : ∀ a : Nat, a < 256 → intBits .and .u8 ((a : Nat) : Int) 127 = ((a % 128 : Nat) : Int) := by decide +kernel
theorem noti64 (a : Nat) (h : a < 9223372036854775808) : intBits .xor .i64 (-1) (a : Int) = -(a : Int) - 1 := by
  show IntKind.wrap .i64 (((BitVec.ofInt 64 (-1)) ^^^ (BitVec.ofInt 64 (a : Int))).toNat : Int) = _
  have e : (BitVec.ofInt 64 (-1)) = BitVec.allOnes 64 := by decide
  rw [BitVec.ofInt_natCast, e, BitVec.allOnes_xor, BitVec.toNat_not, BitVec.toNat_ofNat, IntKind.wrap_i64, Nat.mod_eq_of_lt (show a < 2 ^ 64 by omega)]
  omega
theorem shr_nat (k : IntKind) (r m : Nat) (h : m ≤ k.bits) : shr k (r : Int) (m : Int) = ((r / 2 ^ m : Nat) : Int) := by
  unfold shr
  rw [Int.toNat_natCast, Nat.min_eq_left h, Int.fdiv_eq_ediv_of_nonneg _ (by exact Int.le_of_lt (Int.pow_pos (by omega)))]
  push_cast
  rfl
theorem byte_lt (c : UInt8) : c.toNat < 256 := c.toNat_lt
theorem byte_of (c : UInt8) : UInt8.ofNat ((c.toNat : Nat) : Int).toNat = c := by simp
/-! ### the CRC -/
def crcBit (r : Nat) : Nat := if r % 2 = 1 then (r / 2) ^^^ 3988292384 else r / 2
def crcBits : Nat → Nat → Nat
  | 0, r => r
  | n + 1, r => crcBits n (crcBit r)
def crcRun : Str → Nat → Nat
  | [], r => r
  | c :: l, r => crcRun l (crcBits 8 (r ^^^ c.toNat))
def crcOf (c : Nat) (s : Str) : Nat := (crcRun s (c ^^^ 4294967295)) ^^^ 4294967295
theorem x32 {a b : Nat} (ha : a < 4294967296) (hb : b < 4294967296) : a ^^^ b < 4294967296 := Nat.xor_lt_two_pow (n := 32) ha hb
theorem crcBit_lt {r : Nat} (h : r < 4294967296) : crcBit r < 4294967296 := by
  unfold crcBit
  split
  · exact x32 (by omega) (by omega)
  · omega
theorem crcBits_lt : ∀ (n : Nat) {r : Nat}, r < 4294967296 → crcBits n r < 4294967296
  | 0, _, h => h
  | n + 1, _, h => crcBits_lt n (crcBit_lt h)
theorem crcRun_lt : ∀ (l : Str) {r : Nat}, r < 4294967296 → crcRun l r < 4294967296
  | [], _, h => h
  | c :: l, r, h => crcRun_lt l (crcBits_lt 8 (x32 h (by have := byte_lt c; omega)))
theorem crcOf_lt {c : Nat} (s : Str) (h : c < 4294967296) : crcOf c s < 4294967296 := x32 (crcRun_lt _ (x32 h (by omega))) (by omega)
/-- The four bytes of a CRC. -/
def four (n : Nat) : Str := listByte [((n % 256 : Nat) : Int), ((n / 256 % 256 : Nat) : Int), ((n / 65536 % 256 : Nat) : Int), ((n / 16777216 % 256 : Nat) : Int)]
def sealOf (s : Str) : Str := s ++ four (crcOf 0 s)
theorem four_len (n : Nat) : (four n).length = 4 := rfl
theorem sealOf_len (s : Str) : (sealOf s).length = s.length + 4 := by unfold sealOf; rw [List.length_append, four_len]
/-- What stands ahead of the seal. -/
def bodyOf (s : Str) : Str := s.take (s.length - 4)
theorem body_len (s : Str) : (bodyOf s).length = s.length - 4 := by unfold bodyOf; simp
theorem seal_inj {a b : Str} : sealOf a = sealOf b ↔ a = b := by
  constructor
  · intro h
    exact List.append_inj_left' h (by rw [four_len, four_len])
  · rintro rfl; rfl
theorem tail_iff (s : Str) : (four (crcOf 0 (bodyOf s)) = s.drop (s.length - 4)) ↔ sealOf (bodyOf s) = s := by
  have e : s = bodyOf s ++ s.drop (s.length - 4) := (List.take_append_drop _ _).symm
  unfold sealOf
  constructor
  · intro h; rw [h]; exact e.symm
  · intro h
    exact List.append_cancel_left (h.trans e)
theorem body_seal (s : Str) : bodyOf (sealOf s) = s := by
  unfold bodyOf
  rw [sealOf_len, Nat.add_sub_cancel]
  unfold sealOf
  simp
def unsealI (s : Str) : Str × Int := if s.length < 4 then ([], 4) else if sealOf (bodyOf s) = s then (bodyOf s, 0) else ([], 5)
theorem unseal_ok {s : Str} (h : (unsealI s).2 = 0) : unsealI s = (bodyOf s, 0) ∧ sealOf (bodyOf s) = s ∧ 4 ≤ s.length := by
  unfold unsealI at h ⊢
  by_cases h4 : s.length < 4
  · rw [if_pos h4] at h; simp at h
  · rw [if_neg h4] at h ⊢
    by_cases he : sealOf (bodyOf s) = s
    · rw [if_pos he]; exact ⟨rfl, he, by omega⟩
    · rw [if_neg he] at h; simp at h
theorem unseal_no {s : Str} (h : (unsealI s).2 ≠ 0) : (unsealI s).1 = [] := by
  unfold unsealI at h ⊢
  by_cases h4 : s.length < 4
  · rw [if_pos h4]
  · rw [if_neg h4] at h ⊢
    by_cases he : sealOf (bodyOf s) = s
    · rw [if_pos he] at h; exact absurd rfl h
    · rw [if_neg he]
theorem unseal_len (s : Str) : (unsealI s).1.length ≤ s.length := by
  unfold unsealI
  split
  · simp
  · split
    · rw [body_len]; omega
    · simp
theorem unseal_seal (s : Str) : unsealI (sealOf s) = (s, 0) := by
  unfold unsealI
  rw [body_seal, if_neg (by rw [sealOf_len]; omega), if_pos rfl]
/-! ### numbers as bytes -/
/-- The zigzag number. -/
def zig (n : Int) : Nat := if n < 0 then (-2 * n - 1).toNat else (2 * n).toNat
/-- The groups of seven bits of a number, as bytes; f: a bound on their count. -/
def groups : Nat → Nat → List Int
  | 0, _ => []
  | f + 1, u => if 128 ≤ u then ((u % 128 + 128 : Nat) : Int) :: groups f (u / 128) else [(u : Int)]
def putOf (n : Int) : Str := listByte (groups 10 (zig n))
def Num (n : Int) : Prop := -9223372036854775808 ≤ n ∧ n < 9223372036854775808
theorem zig_lt {n : Int} (h : Num n) : zig n < 18446744073709551616 := by unfold Num at h; unfold zig; split <;> omega
theorem groups_len : ∀ (f u : Nat), (groups f u).length ≤ f
  | 0, _ => by simp [groups]
  | f + 1, u => by
    unfold groups
    split
    · simp only [List.length_cons]; have := groups_len f (u / 128); omega
    · simp
theorem listByte_len (l : List Int) : (listByte l).length = l.length := by simp [listByte]
theorem putOf_len (n : Int) : (putOf n).length ≤ 10 := by
  unfold putOf
  rw [listByte_len]
  exact groups_len 10 _
theorem putOf_pos (n : Int) : 1 ≤ (putOf n).length := by
  unfold putOf
  rw [listByte_len]
  unfold groups
  split <;> simp
def putTextOf (s : Str) : Str := putOf (s.length : Int) ++ s
theorem putTextOf_len (s : Str) : (putTextOf s).length ≤ 10 + s.length := by
  unfold putTextOf
  have := putOf_len (s.length : Int)
  rw [List.length_append]
  omega
/-! ### numbers, read back -/
def unz (u : Nat) : Int := if u % 2 = 1 then -((u / 2 : Nat) : Int) - 1 else ((u / 2 : Nat) : Int)
/-- A number's groups, read: the number, how many bytes, the code. -/
def gn : Nat → Nat → Nat → Str → Int × Nat × Int
  | 0, _, _, _ => (0, 0, 3)
  | _ + 1, _, _, [] => (0, 0, 4)
  | f + 1, i, u, b :: l => if i = 9 ∧ 1 < b.toNat then (0, 0, 3) else if 128 ≤ b.toNat then gn f (i + 1) (u + b.toNat % 128 * 128 ^ i) l else if b.toNat = 0 ∧ 0 < i then (0, 0, 3) else (unz (u + b.toNat % 128 * 128 ^ i), i + 1, 0)
/-- What the readers make of it: the number, the place behind it, the code. -/
def fin (a : Nat) (r : Int × Nat × Int) : Int × Int × Int := if r.2.2 = 0 then (r.1, ((a + r.2.1 : Nat) : Int), 0) else (0, 0, r.2.2)
def getNumZ (s : Str) (a : Nat) : Int × Int × Int := fin a (gn 10 0 0 (s.drop a))
theorem p128 (i : Nat) : (2 : Nat) ^ (7 * i) = 128 ^ i := by rw [Nat.pow_mul]
theorem step_lt {i u b : Nat} (_ : i ≤ 8) (hu : u < 128 ^ i) : u + b % 128 * 128 ^ i < 128 ^ (i + 1) := by
  have h1 : b % 128 ≤ 127 := by omega
  have h2 : b % 128 * 128 ^ i ≤ 127 * 128 ^ i := Nat.mul_le_mul_right _ h1
  rw [Nat.pow_succ]
  omega
theorem pow_le9 {i : Nat} (hi : i ≤ 9) : 128 ^ i ≤ 9223372036854775808 := by
  have : 128 ^ i ≤ 128 ^ 9 := Nat.pow_le_pow_right (by omega) hi
  simpa using this
theorem term_lt {i b : Nat} (hi : i ≤ 9) (h9 : i = 9 → b ≤ 1) : b % 128 * 128 ^ i < 18446744073709551616 := by
  by_cases h : i = 9
  · have := h9 h
    subst h
    have : b % 128 ≤ 1 := by omega
    have := Nat.mul_le_mul_right (128 ^ 9) this
    simp at this ⊢
    omega
  · have h1 : 128 ^ i ≤ 128 ^ 8 := Nat.pow_le_pow_right (by omega) (by omega)
    have h2 : b % 128 ≤ 127 := by omega
    have := Nat.mul_le_mul h2 h1
    simp at this
    omega
theorem sum_lt {i u b : Nat} (hi : i ≤ 9) (hu : u < 128 ^ i) (h9 : i = 9 → b ≤ 1) : u + b % 128 * 128 ^ i < 18446744073709551616 := by
  by_cases h : i = 9
  · have := h9 h
    subst h
    have h1 : b % 128 ≤ 1 := by omega
    have := Nat.mul_le_mul_right (128 ^ 9) h1
    simp at this hu ⊢
    omega
  · have h1 := step_lt (b := b) (show i ≤ 8 by omega) hu
    have h2 := pow_le9 (show i + 1 ≤ 9 by omega)
    omega
theorem shl_eq {i b : Nat} (hi : i ≤ 9) (h9 : i = 9 → b ≤ 1) : shl .u64 ((b % 128 : Nat) : Int) ((7 * i : Nat) : Int) = ((b % 128 * 128 ^ i : Nat) : Int) := by
  unfold shl
  rw [Int.toNat_natCast, Nat.min_eq_left (by simp [IntKind.bits]; omega), u64w]
  have e : ((b % 128 : Nat) : Int) * 2 ^ (7 * i) = ((b % 128 * 128 ^ i : Nat) : Int) := by rw [← p128]; push_cast; rfl
  rw [e]
  have := term_lt hi h9
  omega
theorem or_sum {i u b : Nat} (hu : u < 128 ^ i) : u ||| (b % 128 * 128 ^ i) = u + b % 128 * 128 ^ i := by
  have h := @Nat.shiftLeft_add_eq_or_of_lt (7 * i) u (by rw [p128]; exact hu) (b % 128)
  rw [Nat.shiftLeft_eq, p128] at h
  rw [Nat.or_comm, ← h, Nat.add_comm]
theorem zig_unz (v : Nat) : zig (unz v) = v := by
  unfold unz
  split
  · unfold zig; split <;> omega
  · unfold zig; split <;> omega
theorem unz_zig (n : Int) : unz (zig n) = n := by
  unfold zig
  split
  · unfold unz; split <;> omega
  · unfold unz; split <;> omega
theorem unz_range {v : Nat} (h : v < 18446744073709551616) : Num (unz v) := by
  unfold Num unz
  split <;> omega
theorem gn_canon : ∀ (f i u : Nat) (l : Str), i + f = 10 → i ≤ 9 → u < 128 ^ i → (gn f i u l).2.2 = 0 →
    ∃ v, gn f i u l = (unz (u + v * 128 ^ i), i + (groups f v).length, 0) ∧ l = listByte (groups f v) ++ l.drop (groups f v).length ∧ u + v * 128 ^ i < 18446744073709551616 ∧ (0 < i → v ≠ 0)
  | 0, i, u, l, hf, h9, _, _ => by omega
  | f + 1, i, u, [], hf, h9, hu, h0 => by simp [gn] at h0
  | f + 1, i, u, c :: l, hf, hi9, hu, h0 => by
    have hb := byte_lt c
    have hbc := byte_of c
    simp only [gn] at h0 ⊢
    generalize hcb : c.toNat = b at h0 hb hbc ⊢
    by_cases h9 : i = 9 ∧ 1 < b
    · rw [if_pos h9] at h0; simp at h0
    rw [if_neg h9] at h0 ⊢
    have hb9 : i = 9 → b ≤ 1 := fun h => by
      rcases Nat.lt_or_ge 1 b with h1 | h1
      · exact absurd ⟨h, h1⟩ h9
      · exact h1
    by_cases h128 : 128 ≤ b
    · have hi8 : i ≤ 8 := by
        by_cases h : i = 9
        · have := hb9 h; omega
        · omega
      rw [if_pos h128] at h0 ⊢
      obtain ⟨v, e1, e2, e3, e4⟩ := gn_canon f (i + 1) (u + b % 128 * 128 ^ i) l (by omega) (by omega) (step_lt hi8 hu) h0
      have hv := e4 (by omega)
      have hs : u + b % 128 * 128 ^ i + v * 128 ^ (i + 1) = u + (b % 128 + 128 * v) * 128 ^ i := by
        rw [Nat.pow_succ, Nat.add_mul, Nat.mul_comm (128 ^ i) 128, ← Nat.mul_assoc, Nat.mul_comm v 128, Nat.add_assoc]
      have hg : groups (f + 1) (b % 128 + 128 * v) = (b : Int) :: groups f v := by
        have h1 : 128 ≤ b % 128 + 128 * v := by omega
        have h2 : (b % 128 + 128 * v) / 128 = v := by omega
        have h3 : (b % 128 + 128 * v) % 128 + 128 = b := by omega
        simp only [groups, if_pos h1, h2, h3]
      refine ⟨b % 128 + 128 * v, ?_, ?_, ?_, ?_⟩
      · rw [e1, hs, hg, List.length_cons, Nat.add_assoc, Nat.add_comm 1]
      · rw [hg]
        show c :: l = UInt8.ofNat ((b : Nat) : Int).toNat :: (listByte (groups f v) ++ l.drop (groups f v).length)
        rw [hbc, ← e2]
      · rw [← hs]; exact e3
      · intro _; omega
    · rw [if_neg h128] at h0 ⊢
      by_cases hz : b = 0 ∧ 0 < i
      · rw [if_pos hz] at h0; simp at h0
      rw [if_neg hz] at h0 ⊢
      have hm : b % 128 = b := by omega
      have hsl := sum_lt (b := b) hi9 hu hb9
      rw [hm] at hsl ⊢
      have hg : groups (f + 1) b = [(b : Int)] := by simp only [groups, if_neg h128]
      refine ⟨b, ?_, ?_, hsl, ?_⟩
      · rw [hg]; rfl
      · rw [hg]
        show c :: l = UInt8.ofNat ((b : Nat) : Int).toNat :: l
        rw [hbc]
      · intro hi hb0; exact hz ⟨hb0, hi⟩
/-- At a stands the encoding of n, and it ends at a'. -/
structure Got (s : Str) (a : Nat) (n : Int) (a' : Nat) : Prop where
  at' : a' = a + (putOf n).length
  le : a' ≤ s.length
  eq : s.drop a = putOf n ++ s.drop a'
  range : Num n
theorem num_cases (s : Str) (a : Nat) : (∃ (n : Int) (a' : Nat), getNumZ s a = (n, (a' : Int), 0) ∧ Got s a n a') ∨ ∃ c, c ≠ 0 ∧ getNumZ s a = (0, 0, c) := by
  unfold getNumZ fin
  by_cases h : (gn 10 0 0 (s.drop a)).2.2 = 0
  · left
    obtain ⟨v, e1, e2, e3, _⟩ := gn_canon 10 0 0 (s.drop a) (by omega) (by omega) (by omega) h
    simp only [Nat.pow_zero, Nat.mul_one, Nat.zero_add] at e1 e3
    have hB : putOf (unz v) = listByte (groups 10 v) := by unfold putOf; rw [zig_unz]
    have hsz : (putOf (unz v)).length = (groups 10 v).length := by rw [hB, listByte_len]
    refine ⟨unz v, a + (putOf (unz v)).length, ?_, rfl, ?_, ?_, unz_range e3⟩
    · rw [e1, hsz]
      rfl
    · have := congrArg List.length e2
      simp only [List.length_append, listByte_len, List.length_drop] at this
      have hp : 0 < (groups 10 v).length := by unfold groups; split <;> simp
      omega
    · rw [hsz, ← List.drop_drop, hB]
      exact e2
  · right
    exact ⟨_, h, by rw [if_neg h]⟩
/-- What was encoded is read back, whatever follows. -/
theorem gn_put : ∀ (f i u v : Nat) (l : Str), i + f = 10 → i ≤ 9 → v < 128 ^ f → u + v * 128 ^ i < 18446744073709551616 → (0 < i → v ≠ 0) → gn f i u (listByte (groups f v) ++ l) = (unz (u + v * 128 ^ i), i + (groups f v).length, 0)
  | 0, i, u, v, l, hf, h9, _, _, _ => by omega
  | f + 1, i, u, v, l, hf, hi9, hv, hb, hz => by
    have h9' : i = 9 → v ≤ 1 := fun h => by subst h; simp at hb; omega
    by_cases h128 : 128 ≤ v
    · have hi8 : i ≤ 8 := by
        by_cases h : i = 9
        · have := h9' h; omega
        · omega
      have hg : groups (f + 1) v = ((v % 128 + 128 : Nat) : Int) :: groups f (v / 128) := by simp only [groups, if_pos h128]
      have ht : (UInt8.ofNat (((v % 128 + 128 : Nat) : Int)).toNat).toNat = v % 128 + 128 := by
        rw [Int.toNat_natCast, UInt8.toNat_ofNat']
        omega
      rw [hg]
      show gn (f + 1) i u (UInt8.ofNat (((v % 128 + 128 : Nat) : Int)).toNat :: (listByte (groups f (v / 128)) ++ l)) = _
      simp only [gn]
      rw [ht, if_neg (by omega), if_pos (by omega)]
      have hs : u + (v % 128 + 128) % 128 * 128 ^ i + v / 128 * 128 ^ (i + 1) = u + v * 128 ^ i := by
        have e : (v % 128 + 128) % 128 = v % 128 := by omega
        have e2 : v % 128 * 128 ^ i + v / 128 * (128 * 128 ^ i) = v * 128 ^ i := by
          rw [← Nat.mul_assoc, ← Nat.add_mul]
          congr 1
          omega
        rw [e, Nat.pow_succ, Nat.mul_comm (128 ^ i) 128, Nat.add_assoc, e2]
      rw [gn_put f (i + 1) _ (v / 128) l (by omega) (by omega) (by rw [Nat.pow_succ] at hv; exact Nat.div_lt_of_lt_mul (by rw [Nat.mul_comm]; exact hv)) (by rw [hs]; exact hb) (fun _ => by omega), hs]
      simp only [List.length_cons, Prod.mk.injEq, and_true, true_and]
      omega
    · have hg : groups (f + 1) v = [(v : Int)] := by simp only [groups, if_neg h128]
      have ht : (UInt8.ofNat ((v : Int)).toNat).toNat = v := by
        rw [Int.toNat_natCast, UInt8.toNat_ofNat']
        omega
      rw [hg]
      show gn (f + 1) i u (UInt8.ofNat ((v : Int)).toNat :: l) = _
      simp only [gn]
      rw [ht, if_neg (fun q => by have := h9' q.1; omega), if_neg h128, if_neg (fun q => hz q.2 q.1), Nat.mod_eq_of_lt (by omega)]
      rfl
theorem get_put (n : Int) (h : Num n) (s : Str) (a : Nat) (t : Str) (hs : s.drop a = putOf n ++ t) : getNumZ s a = (n, ((a + (putOf n).length : Nat) : Int), 0) := by
  unfold getNumZ
  have hz := zig_lt h
  rw [hs]
  unfold putOf
  rw [gn_put 10 0 0 (zig n) t rfl (by omega) (by omega) (by omega) (fun q => absurd q (by omega))]
  simp only [Nat.pow_zero, Nat.mul_one, Nat.zero_add, unz_zig, listByte_len]
  rfl
/-! ### texts, read back -/
def getTextZ (s : Str) (a : Nat) : Str × Int × Int :=
  if (getNumZ s a).2.2 = 0 then
    if 0 ≤ (getNumZ s a).1 ∧ (getNumZ s a).1 ≤ 8000 then
      if (getNumZ s a).1 > (s.length : Int) - (getNumZ s a).2.1 then ([], 0, 4)
      else ((s.take ((getNumZ s a).2.1 + (getNumZ s a).1).toNat).drop (getNumZ s a).2.1.toNat, (getNumZ s a).2.1 + (getNumZ s a).1, 0)
    else ([], 0, 3)
  else ([], 0, (getNumZ s a).2.2)
/-- At a stands the encoding of the text t, and it ends at a'. -/
structure GotT (s : Str) (a : Nat) (t : Str) (a' : Nat) : Prop where
  at' : a' = a + (putTextOf t).length
  le : a' ≤ s.length
  eq : s.drop a = putTextOf t ++ s.drop a'
  size : t.length ≤ 8000
theorem text_cases (s : Str) (a : Nat) : (∃ t a', getTextZ s a = (t, ((a' : Nat) : Int), 0) ∧ GotT s a t a') ∨ ∃ c, c ≠ 0 ∧ getTextZ s a = ([], 0, c) := by
  unfold getTextZ
  rcases num_cases s a with ⟨n, a', e, g⟩ | ⟨c, hc, e⟩
  · rw [e]
    simp only [if_true]
    by_cases hn : 0 ≤ n ∧ n ≤ 8000
    · rw [if_pos hn]
      have hle := g.le
      by_cases hs : n > (s.length : Int) - (a' : Int)
      · rw [if_pos hs]
        exact .inr ⟨4, by omega, rfl⟩
      · rw [if_neg hs]
        obtain ⟨m, rfl⟩ : ∃ m : Nat, n = (m : Int) := ⟨n.toNat, by omega⟩
        have e1 : ((a' : Int) + (m : Int)).toNat = a' + m := by omega
        rw [e1, Int.toNat_natCast]
        have hB : (s.take (a' + m)).drop a' = (s.drop a').take m := by
          rw [List.drop_take, Nat.add_sub_cancel_left]
        have hsz : ((s.take (a' + m)).drop a').length = m := by
          rw [hB, List.length_take, List.length_drop]
          omega
        refine .inl ⟨_, a' + m, by push_cast; rfl, ?_, ?_, ?_, ?_⟩
        · unfold putTextOf
          rw [List.length_append, hsz]
          have := g.at'
          omega
        · omega
        · unfold putTextOf
          rw [hsz, hB, g.eq, List.append_assoc, ← List.drop_drop, List.take_append_drop]
        · rw [hsz]; omega
    · rw [if_neg hn]
      exact .inr ⟨3, by omega, rfl⟩
  · rw [e]
    simp only
    rw [if_neg hc]
    exact .inr ⟨c, hc, rfl⟩
/-- One number, read: the number, the place, whether it failed. -/
def numR (s : Str) (a : Nat) : Int × Str × Int × Bool := if (getNumZ s a).2.2 = 0 then ((getNumZ s a).1, s, (getNumZ s a).2.1, false) else (0, s, (a : Int), true)
theorem numR_cases (s : Str) (a : Nat) : (∃ n a', numR s a = (n, s, ((a' : Nat) : Int), false) ∧ Got s a n a') ∨ numR s a = (0, s, (a : Int), true) := by
  unfold numR
  rcases num_cases s a with ⟨n, a', e, g⟩ | ⟨c, hc, e⟩
  · left; exact ⟨n, a', by rw [e]; rfl, g⟩
  · right; rw [e, if_neg hc]
/-- One text, read: the text, the place, whether it failed. -/
def textR (s : Str) (a : Nat) : Str × Str × Int × Bool := if (getTextZ s a).2.2 = 0 then ((getTextZ s a).1, s, (getTextZ s a).2.1, false) else ([], s, (a : Int), true)
theorem textR_cases (s : Str) (a : Nat) : (∃ t a', textR s a = (t, s, ((a' : Nat) : Int), false) ∧ GotT s a t a') ∨ textR s a = ([], s, (a : Int), true) := by
  unfold textR
  rcases text_cases s a with ⟨n, a', e, g⟩ | ⟨c, hc, e⟩
  · left; exact ⟨n, a', by rw [e]; rfl, g⟩
  · right; rw [e, if_neg hc]
end Go.Proofs.YtcnkbllbpimaiaaGreatDoorE

namespace Go.Proofs.YtcnkbllbpimaiaaGreatDoorE
open Go
set_option linter.unusedVariables false
theorem loop_inv {S R : Type} (L : Nat → S → Option R) (m : S → Nat) (I : S → Prop) (Q : R → Prop) (step : ∀ s, I s → (∃ r, (∀ j, L (j + 1) s = some r) ∧ Q r) ∨ ∃ s', I s' ∧ m s' < m s ∧ ∀ j, L (j + 1) s = L j s') : ∀ (n : Nat) (s : S) (j : Nat), I s → m s ≤ n → n < j → ∃ r, L j s = some r ∧ Q r := by
  intro n
  induction n with
  | zero =>
    intro s j hi hm hj
    obtain ⟨j, rfl⟩ : ∃ q, j = q + 1 := ⟨j - 1, by omega⟩
    rcases step s hi with ⟨r, hr, hq⟩ | ⟨s', _, hm', _⟩
    · exact ⟨r, hr j, hq⟩
    · omega
  | succ n ih =>
    intro s j hi hm hj
    obtain ⟨j, rfl⟩ : ∃ q, j = q + 1 := ⟨j - 1, by omega⟩
    rcases step s hi with ⟨r, hr, hq⟩ | ⟨s', hi', hm', hs⟩
    · exact ⟨r, hr j, hq⟩
    · rw [hs j]
      exact ih s' j hi' (by omega) (by omega)
/-- The same, whatever the fuel. -/
theorem loop_uni {S R : Type} (L : Nat → S → Option R) (m : S → Nat) (I : S → Prop) (Q : R → Prop) (step : ∀ s, I s → (∃ r, (∀ j, L (j + 1) s = some r) ∧ Q r) ∨ ∃ s', I s' ∧ m s' < m s ∧ ∀ j, L (j + 1) s = L j s') : ∀ (n : Nat) (s : S), I s → m s ≤ n → ∃ r, Q r ∧ ∀ j, n < j → L j s = some r := by
  intro n
  induction n with
  | zero =>
    intro s hi hm
    rcases step s hi with ⟨r, hr, hq⟩ | ⟨s', _, hm', _⟩
    · refine ⟨r, hq, fun j hj => ?_⟩
      obtain ⟨j, rfl⟩ : ∃ q, j = q + 1 := ⟨j - 1, by omega⟩
      exact hr j
    · omega
  | succ n ih =>
    intro s hi hm
    rcases step s hi with ⟨r, hr, hq⟩ | ⟨s', hi', hm', hs⟩
    · refine ⟨r, hq, fun j hj => ?_⟩
      obtain ⟨j, rfl⟩ : ∃ q, j = q + 1 := ⟨j - 1, by omega⟩
      exact hr j
    · obtain ⟨r, hq, hr⟩ := ih s' hi' (by omega)
      refine ⟨r, hq, fun j hj => ?_⟩
      obtain ⟨j, rfl⟩ : ∃ q, j = q + 1 := ⟨j - 1, by omega⟩
      rw [hs j]
      exact hr j (by omega)
theorem at_in {α : Type} {l : List α} {i : Int} (h : 0 ≤ i) (h2 : i < (l.length : Int)) : ∃ x, at? l i = some x ∧ x ∈ l := by
  obtain ⟨n, rfl⟩ : ∃ n : Nat, i = (n : Int) := ⟨i.toNat, by omega⟩
  exact ⟨l[n]'(by omega), at_nat (by omega), List.getElem_mem _⟩
theorem wid {n : Int} (h0 : 0 ≤ n) (h1 : n < 9223372036854775808) : IntKind.wrap .i64 n = n := w64 (by omega) h1
theorem wuid {n : Int} (h0 : 0 ≤ n) (h1 : n < 18446744073709551616) : IntKind.wrap .u64 n = n := by rw [u64w]; omega
theorem cut_in {α : Type} {l : List α} {i j : Int} (h0 : 0 ≤ i) (h1 : i ≤ j) (h2 : j ≤ (l.length : Int)) : ∃ t, cut? l i j = some t ∧ (t.length : Int) = j - i := by
  obtain ⟨a, rfl⟩ : ∃ n : Nat, i = (n : Int) := ⟨i.toNat, by omega⟩
  obtain ⟨b, rfl⟩ : ∃ n : Nat, j = (n : Int) := ⟨j.toNat, by omega⟩
  refine ⟨_, cut_ok (by omega) (by omega), ?_⟩
  rw [List.length_drop, List.length_take]
  omega
end Go.Proofs.YtcnkbllbpimaiaaGreatDoorE

namespace Go.Proofs.YtcnkbllbpimaiaaGreatDoorE
open Go
set_option linter.unusedVariables false
/-- From some fuel on it comes to one value, of which Q is known. -/
def Ev {α : Type} (f : Nat → Option α) (Q : α → Prop) : Prop := ∃ p, Q p ∧ Ever fun k => f k = some p
theorem Ev.bind {α β : Type} {f : Nat → Option α} {g : Nat → α → Option β} {Q : α → Prop} {R : β → Prop} (h : Ev f Q) (k : ∀ p, Q p → Ev (fun k => g k p) R) : Ev (fun k => (f k).bind (g k)) R := by
  obtain ⟨p, hp, e⟩ := h
  obtain ⟨q, hq, e2⟩ := k p hp
  exact ⟨q, hq, (e.and e2).mono fun k h => (congrArg (fun z => Option.bind z (g k)) h.1).trans h.2⟩
theorem Ev.ret {α : Type} {p : α} {Q : α → Prop} (h : Q p) : Ev (fun _ => some p) Q := ⟨p, h, Ever.of fun _ => rfl⟩
theorem Ev.of {α : Type} {x : Option α} {Q : α → Prop} (h : ∃ p, x = some p ∧ Q p) : Ev (fun _ => x) Q := by
  obtain ⟨p, e, h⟩ := h
  exact ⟨p, h, Ever.of fun _ => e⟩
theorem Ev.ever {α : Type} {f : Nat → Option α} {p : α} {Q : α → Prop} (h : Ever fun k => f k = some p) (q : Q p) : Ev f Q := ⟨p, q, h⟩
theorem Ev.mono {α : Type} {f : Nat → Option α} {Q R : α → Prop} (h : Ev f Q) (k : ∀ p, Q p → R p) : Ev f R := by
  obtain ⟨p, hp, e⟩ := h
  exact ⟨p, k p hp, e⟩
theorem Ev.cond {α : Type} {b : Bool} {f g : Nat → Option α} {Q : α → Prop} (h1 : b = true → Ev f Q) (h2 : b = false → Ev g Q) : Ev (fun k => bif b then f k else g k) Q := by
  cases b with
  | true => exact h1 rfl
  | false => exact h2 rfl
/-- A bind that surely has its value. -/
theorem Ev.bnd {α β : Type} {x : Option α} {g : Nat → α → Option β} {R : β → Prop} {p : α} (h : x = some p) (k : Ev (fun k => g k p) R) : Ev (fun k => x.bind (g k)) R := by
  rw [h]
  exact k
theorem loop_ev {S R : Type} (L : Nat → Nat → S → Option R) (m : S → Nat) (I : S → Prop) (Q : R → Prop) (step : ∀ s, I s → (∃ r, (Ever fun k => ∀ j, L k (j + 1) s = some r) ∧ Q r) ∨ ∃ s', I s' ∧ m s' < m s ∧ Ever fun k => ∀ j, L k (j + 1) s = L k j s') : ∀ (n : Nat) (s : S), I s → m s ≤ n → ∃ r, Q r ∧ Ever fun k => ∀ j, n < j → L k j s = some r := by
  intro n
  induction n with
  | zero =>
    intro s hi hm
    rcases step s hi with ⟨r, hr, hq⟩ | ⟨s', _, hm', _⟩
    · refine ⟨r, hq, hr.mono fun k hr j hj => ?_⟩
      obtain ⟨j, rfl⟩ : ∃ q, j = q + 1 := ⟨j - 1, by omega⟩
      exact hr j
    · omega
  | succ n ih =>
    intro s hi hm
    rcases step s hi with ⟨r, hr, hq⟩ | ⟨s', hi', hm', hs⟩
    · refine ⟨r, hq, hr.mono fun k hr j hj => ?_⟩
      obtain ⟨j, rfl⟩ : ∃ q, j = q + 1 := ⟨j - 1, by omega⟩
      exact hr j
    · obtain ⟨r, hq, hr⟩ := ih s' hi' (by omega)
      refine ⟨r, hq, (hr.and hs).mono fun k h j hj => ?_⟩
      obtain ⟨j, rfl⟩ : ∃ q, j = q + 1 := ⟨j - 1, by omega⟩
      rw [h.2 j]
      exact h.1 j (by omega)
theorem Ev.loop {S R : Type} (L : Nat → Nat → S → Option R) (m : S → Nat) (I : S → Prop) (Q : R → Prop) (s : S) (hs : I s) (step : ∀ s, I s → (∃ r, (Ever fun k => ∀ j, L k (j + 1) s = some r) ∧ Q r) ∨ ∃ s', I s' ∧ m s' < m s ∧ Ever fun k => ∀ j, L k (j + 1) s = L k j s') : Ev (fun k => L k k s) Q := by
  obtain ⟨r, hq, K, h⟩ := loop_ev L m I Q step (m s) s hs (Nat.le_refl _)
  exact ⟨r, hq, K + m s + 1, fun k hk => h k (by omega) k (by omega)⟩
end Go.Proofs.YtcnkbllbpimaiaaGreatDoorE

namespace Go.Proofs.YtcnkbllbpimaiaaGreatDoorE
open Go
set_option linter.unusedVariables false
abbrev DirtyT := Int × Str
abbrev FlashT := List Str × List DirtyT
abbrev MachT := Int × FlashT
theorem szLoop_ev {α : Type} (L : Nat → Int → Int → Option (Int ⊕ Int)) (l : List α) (len : α → Nat) (n : Int) (h0 : 0 ≤ n)
    (hs : ∀ i, (h : i < l.length) → ∀ s, 0 ≤ s → s ≤ n → ∀ j, L (j + 1) s (i : Int) = if s < (len l[i] : Int) then some (.inr (-1)) else L j (s - (len l[i] : Int)) ((i + 1 : Nat) : Int))
    (he : ∀ s j, L (j + 1) s (l.length : Int) = some (.inl s)) : Ev (fun k => L k n 0) fun r => (∃ v, r = .inl v ∧ 0 ≤ v ∧ v ≤ n ∧ ∀ x ∈ l, (len x : Int) ≤ n) ∨ r = .inr (-1) := by
  refine Ev.loop (fun k j (z : Int × Nat) => L j z.1 (z.2 : Int)) (fun z => l.length - z.2) (fun z => 0 ≤ z.1 ∧ z.1 ≤ n ∧ z.2 ≤ l.length ∧ ∀ x ∈ l.take z.2, (len x : Int) ≤ n) _ (n, 0) ⟨h0, Int.le_refl _, Nat.zero_le _, fun x hx => by simp at hx⟩ ?_
  rintro ⟨s, i⟩ ⟨q0, q1, q2, q3⟩
  have q0 : 0 ≤ s := q0
  have q1 : s ≤ n := q1
  have q2 : i ≤ l.length := q2
  by_cases hi : i < l.length
  · by_cases hb : s < (len l[i] : Int)
    · left
      refine ⟨.inr (-1), Ever.of fun k j => ?_, .inr rfl⟩
      show L (j + 1) s (i : Int) = _
      rw [hs i hi s q0 q1, if_pos hb]
    · right
      refine ⟨(s - (len l[i] : Int), i + 1), ⟨by show 0 ≤ s - _; omega, by show s - _ ≤ n; omega, hi, fun x hx => ?_⟩, by show l.length - (i + 1) < l.length - i; omega, Ever.of fun k j => ?_⟩
      · have hx : x ∈ l.take (i + 1) := hx
        rw [take_succ' hi] at hx
        rcases List.mem_append.1 hx with hx | hx
        · exact q3 x hx
        · rw [List.mem_singleton.1 hx]; omega
      · show L (j + 1) s (i : Int) = L j (s - (len l[i] : Int)) ((i + 1 : Nat) : Int)
        rw [hs i hi s q0 q1, if_neg hb]
  · left
    obtain rfl : i = l.length := by omega
    refine ⟨.inl s, Ever.of fun k j => he s j, .inl ⟨s, rfl, q0, q1, fun x hx => q3 x (by rw [List.take_length]; exact hx)⟩⟩
def FlashBig (f : FlashT) : Prop := (f.1.length ≤ 140737488351232 ∧ ∀ x ∈ f.1, x.length ≤ 140737488351232) ∧ f.2.length ≤ 140737488351232 ∧ ∀ x ∈ f.2, x.2.length ≤ 140737488351232
def FlashFit (f : FlashT) (n : Int) : Prop := ((f.1.length : Int) ≤ n ∧ ∀ x ∈ f.1, (x.length : Int) ≤ n) ∧ (f.2.length : Int) ≤ n ∧ ∀ x ∈ f.2, (x.2.length : Int) ≤ n
/-! ### copies -/
/-! ### comparisons -/
end Go.Proofs.YtcnkbllbpimaiaaGreatDoorE

namespace Go.Proofs.YtcnkbllbpimaiaaGreatDoorE
open Go
set_option linter.unusedVariables false
theorem beqd (a b : Int) : (a == b) = decide (a = b) := by rw [Bool.eq_iff_iff]; simp
theorem w8u (i : Nat) (h : i < 9223372036854775807) : IntKind.wrap .i64 ((i : Int) + 1) = ((i + 1 : Nat) : Int) := wsuc h
theorem half32 (r : Nat) : shr .u32 (r : Int) 1 = ((r / 2 : Nat) : Int) := shr_nat .u32 r 1 (by decide)
theorem beq_str (s t : Str) : (s == t) = decide (s = t) := by rw [Bool.eq_iff_iff]; simp
end Go.Proofs.YtcnkbllbpimaiaaGreatDoorE

namespace Go.Proofs.YtcnkbllbpimaiaaGreatDoorE
open Go
set_option linter.unusedVariables false
theorem listByte_byteList (s : Str) : listByte (byteList s) = s := by
  unfold listByte byteList
  rw [List.map_map]
  have : ((fun n : Int => UInt8.ofNat n.toNat) ∘ fun b : UInt8 => (b.toNat : Int)) = id := by
    funext b
    simp
  rw [this, List.map_id]
theorem listByte_app (a b : List Int) : listByte (a ++ b) = listByte a ++ listByte b := by simp [listByte]
theorem byteList_app (a b : Str) : byteList (a ++ b) = byteList a ++ byteList b := by simp [byteList]
theorem byteList_len (s : Str) : (byteList s).length = s.length := by simp [byteList]
/-! ### decimal -/
theorem dec_small {u : Nat} (h : u < 10) : Lib.decDigits u = [UInt8.ofNat (48 + u)] := by
  rw [Lib.decDigits, dif_pos h]
theorem dec_big {u : Nat} (h : ¬ u < 10) : Lib.decDigits u = Lib.decDigits (u / 10) ++ [UInt8.ofNat (48 + u % 10)] := by
  rw [Lib.decDigits, dif_neg h]
theorem dec_len : ∀ (d u : Nat), u < 10 ^ (d + 1) → (Lib.decDigits u).length ≤ d + 1
  | 0, u, h => by
    rw [dec_small (by simpa using h)]
    simp
  | d + 1, u, h => by
    by_cases hu : u < 10
    · rw [dec_small hu]; simp
    · rw [dec_big hu, List.length_append]
      have := dec_len d (u / 10) (by rw [Nat.pow_succ] at h; omega)
      simp
      omega
/-- A number, as it is written: what is below nothing is nothing. -/
def decM (n : Int) : Str := Lib.decDigits n.toNat
theorem decM_len {n : Int} (h : n < 9223372036854775808) : (decM n).length ≤ 20 := dec_len 19 n.toNat (by omega)
theorem iDec (n : Int) (h : n < 9223372036854775808) : impl_decimal n = some (decM n) := by
  have hm : imax 0 n = ((n.toNat : Nat) : Int) := by
    unfold imax
    by_cases h0 : n > 0
    · rw [if_pos h0]; omega
    · rw [if_neg h0]; omega
  unfold impl_decimal strconv_FormatInt int_strconv_FormatInt decM
  rw [hm, if_pos ⟨rfl, by omega, by omega⟩]
  simp only [Option.bind_some]
  unfold Lib.itoa
  rw [if_neg (by omega), Int.toNat_natCast]
theorem sDecL : ∀ (d u : Nat) (acc : Str) (j : Nat), u < 10 ^ d → u < 9223372036854775808 → acc.length + d ≤ 100 → d < j → spec_l01Dec.l0 j (u : Int) acc = some ((if u = 0 then [] else Lib.decDigits u) ++ acc)
  | d, 0, acc, j, _, _, _, hj => by
    obtain ⟨j, rfl⟩ : ∃ q, j = q + 1 := ⟨j - 1, by omega⟩
    unfold spec_l01Dec.l0
    rfl
  | 0, u + 1, acc, j, h, _, _, _ => by simp at h
  | d + 1, u + 1, acc, j, h, h63, ha, hj => by
    obtain ⟨j, rfl⟩ : ∃ q, j = q + 1 := ⟨j - 1, by omega⟩
    generalize hu : u + 1 = v at h h63 ⊢
    have hv : v ≠ 0 := by omega
    have e1 : Int.tmod (v : Int) 10 = ((v % 10 : Nat) : Int) := by rw [Int.tmod_eq_emod_of_nonneg (by omega)]; omega
    have e2 : Int.tdiv (v : Int) 10 = ((v / 10 : Nat) : Int) := by rw [Int.tdiv_eq_ediv_of_nonneg (by omega)]; omega
    have e3 : IntKind.wrap .i64 (48 + ((v % 10 : Nat) : Int)) = ((48 + v % 10 : Nat) : Int) := by rw [w64 (by omega) (by omega)]; omega
    have e4 : IntKind.wrap .u8 ((48 + v % 10 : Nat) : Int) = ((48 + v % 10 : Nat) : Int) := by
      simp [IntKind.wrap, IntKind.bits, IntKind.signed]
      omega
    have e5 : listByte [((48 + v % 10 : Nat) : Int)] = [UInt8.ofNat (48 + v % 10)] := rfl
    rw [spec_l01Dec.l0, show ((v : Int) != 0) = true by simp; omega, e1, e2, e3, e4, e5, decide_eq_false (by omega : ¬ (((v % 10 : Nat) : Int) < 0)), nz_some (by omega), w64 (n := ((v / 10 : Nat) : Int)) (by omega) (by omega)]
    simp only [cond_true, cond_false, Option.bind_some]
    rw [cat_some (by simp; omega)]
    simp only [Option.bind_some]
    rw [sDecL d (v / 10) _ j (by rw [Nat.pow_succ] at h; omega) (by omega) (by simp; omega) (by omega), if_neg hv]
    congr 1
    by_cases h10 : v < 10
    · rw [dec_small h10, if_pos (by omega)]
      rw [Nat.mod_eq_of_lt h10]
      simp
    · rw [dec_big h10, if_neg (by omega)]
      simp
/-! ### hexadecimal -/
def hexD : Str := [48, 49, 50, 51, 52, 53, 54, 55, 56, 57, 97, 98, 99, 100, 101, 102]
def hexP (b : UInt8) : List Int := [((hexD.getD (b.toNat / 16) 0).toNat : Int), ((hexD.getD (b.toNat % 16) 0).toNat : Int)]
theorem hex_hi : ∀ n : Nat, n < 256 → at? hexD (shr .u8 ((n : Nat) : Int) 4) = some (hexD.getD (n / 16) 0) := by decide +kernel
theorem hex_lo : ∀ n : Nat, n < 256 → at? hexD (intBits .and .u8 ((n : Nat) : Int) 15) = some (hexD.getD (n % 16) 0) := by decide +kernel
def hexL (s : Str) : List Int := s.flatMap hexP
theorem hexL_len (s : Str) : (hexL s).length = 2 * s.length := by
  unfold hexL
  induction s with
  | nil => rfl
  | cons b s ih => rw [List.flatMap_cons, List.length_append, ih, List.length_cons]; show 2 + _ = _; omega
def hexM (s : Str) : Str := listByte (hexL s)
theorem hex_loop (L : Nat → Int → List Int → Option (List Int)) (s : Str) (hl : s.length ≤ 1048576)
    (hs : ∀ i, (h : i < s.length) → ∀ acc j, acc.length ≤ 4000000 → L (j + 1) (i : Int) acc = L j ((i + 1 : Nat) : Int) (acc ++ hexP s[i]))
    (he : ∀ acc j, L (j + 1) (s.length : Int) acc = some acc) : ∀ k, s.length < k → L k 0 [] = some (hexL s) := by
  intro k hk
  have key : ∀ (d i : Nat), i + d = s.length → ∀ j, d < j → L j (i : Int) (hexL (s.take i)) = some (hexL s) := by
    intro d
    induction d with
    | zero =>
      intro i hi j hj
      obtain ⟨j, rfl⟩ : ∃ q, j = q + 1 := ⟨j - 1, by omega⟩
      obtain rfl : i = s.length := by omega
      rw [he, List.take_length]
    | succ d ih =>
      intro i hi j hj
      obtain ⟨j, rfl⟩ : ∃ q, j = q + 1 := ⟨j - 1, by omega⟩
      have h : i < s.length := by omega
      rw [hs i h _ j (by rw [hexL_len, List.length_take]; omega)]
      have := ih (i + 1) (by omega) j (by omega)
      rw [take_succ' h] at this
      unfold hexL at this ⊢
      rw [List.flatMap_append] at this
      simpa using this
  exact key s.length 0 (Nat.zero_add _) k hk
theorem byte_lt' (b : UInt8) : b.toNat < 256 := b.toNat_lt
theorem sHex (s : Str) (hl : s.length ≤ 1048576) : ∀ k, s.length < k → spec_l16Hex k s = some (hexM s) := by
  intro k hk
  have run := hex_loop (fun j i acc => spec_l16Hex.l0 j s hexD i acc) s hl (fun i h acc j ha => by
    show spec_l16Hex.l0 (j + 1) s hexD (i : Int) acc = _
    rw [spec_l16Hex.l0, dlt h, at_nat h, nneg_some (by omega), wsuc (by omega)]
    simp only [cond_true, Option.bind_some]
    rw [hex_hi _ (byte_lt' _), hex_lo _ (byte_lt' _)]
    simp only [Option.bind_some]
    rw [app_ok (by simp; omega)]
    rfl) (fun acc j => by
    show spec_l16Hex.l0 (j + 1) s hexD (s.length : Int) acc = _
    unfold spec_l16Hex.l0
    rw [dnlt (Nat.le_refl _)]
    rfl) k hk
  unfold spec_l16Hex
  have run : spec_l16Hex.l0 k s [48, 49, 50, 51, 52, 53, 54, 55, 56, 57, 97, 98, 99, 100, 101, 102] 0 [] = some (hexL s) := run
  rw [run]
  rfl
theorem iHex (s : Str) (hl : s.length ≤ 1048576) : ∀ k, s.length < k → impl_hexText k s = some (hexM s) := by
  intro k hk
  have run := hex_loop (fun j i acc => impl_hexText.l0 j s (s.length : Int) i acc) s hl (fun i h acc j ha => by
    show impl_hexText.l0 (j + 1) s (s.length : Int) (i : Int) acc = _
    rw [impl_hexText.l0, dlt h, at_nat h, nneg_some (by omega), wsuc (by omega)]
    simp only [cond_true, Option.bind_some]
    have e1 := hex_hi _ (byte_lt' s[i])
    have e2 := hex_lo _ (byte_lt' s[i])
    unfold hexD at e1 e2
    rw [e1, e2]
    simp only [Option.bind_some]
    rw [app_ok (by simp; omega)]
    rfl) (fun acc j => by
    show impl_hexText.l0 (j + 1) s (s.length : Int) (s.length : Int) acc = _
    unfold impl_hexText.l0
    rw [dnlt (Nat.le_refl _)]
    rfl) k hk
  unfold impl_hexText
  have run : impl_hexText.l0 k s (s.length : Int) 0 [] = some (hexL s) := run
  rw [run]
  rfl
theorem hexM_len (s : Str) : (hexM s).length = 2 * s.length := by
  unfold hexM
  rw [show (listByte (hexL s)).length = (hexL s).length by simp [listByte], hexL_len]
end Go.Proofs.YtcnkbllbpimaiaaGreatDoorE

namespace Go.Proofs.YtcnkbllbpimaiaaGreatDoorE
open Go
set_option linter.unusedVariables false
theorem drop_cases (s : Str) (j : Nat) : (s.drop j = [] ∧ s.length ≤ j) ∨ ∃ h : j < s.length, s.drop j = s[j] :: s.drop (j + 1) := by
  by_cases h : j < s.length
  · exact .inr ⟨h, List.drop_eq_getElem_cons h⟩
  · exact .inl ⟨List.drop_eq_nil_of_le (by omega), by omega⟩
section
variable (s : Str) (a : Nat) (ha : a < 9223372036854775000)
include ha
end
end Go.Proofs.YtcnkbllbpimaiaaGreatDoorE

namespace Go.Proofs.YtcnkbllbpimaiaaGreatDoorE
open Go
set_option linter.unusedVariables false
section
variable (s : Str) (a : Nat) (ha : a < 9223372036854775000)
include ha
end
end Go.Proofs.YtcnkbllbpimaiaaGreatDoorE

namespace Go.Proofs.YtcnkbllbpimaiaaGreatDoorE
open Go
set_option linter.unusedVariables false
/-- Three numbers and a text from the start of s, and where they end. -/
def quadZ (s : Str) : Option (Int × Int × Int × Str × Nat) :=
  if (numR s 0).2.2.2 = true then none else
  if (numR s (numR s 0).2.2.1.toNat).2.2.2 = true then none else
  if (numR s (numR s (numR s 0).2.2.1.toNat).2.2.1.toNat).2.2.2 = true then none else
  if (textR s (numR s (numR s (numR s 0).2.2.1.toNat).2.2.1.toNat).2.2.1.toNat).2.2.2 = true then none else
  some ((numR s 0).1, (numR s (numR s 0).2.2.1.toNat).1, (numR s (numR s (numR s 0).2.2.1.toNat).2.2.1.toNat).1, (textR s (numR s (numR s (numR s 0).2.2.1.toNat).2.2.1.toNat).2.2.1.toNat).1, (textR s (numR s (numR s (numR s 0).2.2.1.toNat).2.2.1.toNat).2.2.1.toNat).2.2.1.toNat)
theorem head_whole {s : Str} {x y z : Int} {t : Str} {a b c d : Nat} (g1 : Got s 0 x a) (g2 : Got s a y b) (g3 : Got s b z c) (g4 : GotT s c t d) : putOf x ++ putOf y ++ putOf z ++ putTextOf t = s ↔ d = s.length := by
  have e1 := g1.eq
  have e2 := g2.eq
  have e3 := g3.eq
  have e4 := g4.eq
  rw [List.drop_zero] at e1
  constructor
  · intro h
    have h1 := congrArg List.length h
    rw [List.length_append, List.length_append, List.length_append] at h1
    have := g1.at'; have := g2.at'; have := g3.at'; have := g4.at'
    omega
  · rintro rfl
    rw [List.drop_of_length_le (l := s) (i := s.length) (Nat.le_refl _), List.append_nil] at e4
    rw [← e4, List.append_assoc, ← e3, List.append_assoc, ← e2, ← e1]
/-- What was found stands there. -/
theorem quad_got {s : Str} {x y z : Int} {t : Str} {d : Nat} (h : quadZ s = some (x, y, z, t, d)) : ∃ a b c, Got s 0 x a ∧ Got s a y b ∧ Got s b z c ∧ GotT s c t d := by
  unfold quadZ at h
  rcases numR_cases s 0 with ⟨x', a, e1, g1⟩ | e1
  · rw [e1] at h
    simp only [Int.toNat_natCast, Bool.false_eq_true, if_false] at h
    rcases numR_cases s a with ⟨y', b, e2, g2⟩ | e2
    · rw [e2] at h
      simp only [Int.toNat_natCast, Bool.false_eq_true, if_false] at h
      rcases numR_cases s b with ⟨z', c, e3, g3⟩ | e3
      · rw [e3] at h
        simp only [Int.toNat_natCast, Bool.false_eq_true, if_false] at h
        rcases textR_cases s c with ⟨t', d', e4, g4⟩ | e4
        · rw [e4] at h
          simp only [Int.toNat_natCast, Bool.false_eq_true, if_false, Option.some.injEq, Prod.mk.injEq] at h
          obtain ⟨rfl, rfl, rfl, rfl, rfl⟩ := h
          exact ⟨a, b, c, g1, g2, g3, g4⟩
        · rw [e4] at h; simp at h
      · rw [e3] at h; simp at h
    · rw [e2] at h; simp at h
  · rw [e1] at h; simp at h
end Go.Proofs.YtcnkbllbpimaiaaGreatDoorE

namespace Go.Proofs.YtcnkbllbpimaiaaGreatDoorE
open Go
set_option linter.unusedVariables false
/-- A step is right, for so many blocks. -/
def stepB (k t f : Int) (d : Str) (n : Int) : Bool :=
  if k = 1 then decide (0 ≤ t) && decide (t ≤ n - 1) && decide (f = 0) && (d == [])
  else if k = 2 then decide (0 ≤ t) && decide (t ≤ n - 1) && decide (f = 0) && decide ((d.length : Int) = 8)
  else if k = 3 then decide (0 ≤ t) && decide (t ≤ n - 1) && (decide (0 ≤ f) && decide (f ≤ n - 1)) && (d == [])
  else if k = 4 then decide (0 ≤ t) && decide (t ≤ n - 1) && (decide (0 ≤ f) && decide (f ≤ n - 1)) && decide ((d.length : Int) = 8)
  else if k = 5 then decide (t = 0) && (decide (0 ≤ f) && decide (f ≤ 1000000)) && (d == [])
  else false
theorem sStep (k t f : Int) (d : Str) (n : Int) (h1 : 1 ≤ n) (h2 : n ≤ 8) : spec_StepRight (k, (t, (f, d))) n = some (stepB k t f d n) := by
  unfold spec_StepRight spec_l03Is stepB
  simp only [Option.bind_some]
  rw [w64 (n := n - 1) (by omega) (by omega), decide_eq_true h1, decide_eq_true h2]
  simp only [beqd]
  generalize (decide (0 ≤ t) && decide (t ≤ n - 1)) = P
  generalize (decide (0 ≤ f) && decide (f ≤ n - 1)) = Q
  generalize (decide (0 ≤ f) && decide (f ≤ 1000000)) = R
  generalize (d == ([] : Str)) = E
  generalize decide ((d.length : Int) = 8) = Z
  by_cases c1 : k = 1
  · subst c1; cases P <;> by_cases h : f = 0 <;> simp [h]
  by_cases c2 : k = 2
  · subst c2; cases P <;> by_cases h : f = 0 <;> simp [h]
  by_cases c3 : k = 3
  · subst c3; cases P <;> cases Q <;> simp
  by_cases c4 : k = 4
  · subst c4; cases P <;> cases Q <;> simp
  by_cases c5 : k = 5
  · subst c5; cases R <;> by_cases h : t = 0 <;> simp [h]
  simp [c1, c2, c3, c4, c5]
theorem sStepNo (k t f : Int) (d : Str) (n : Int) (h : ¬ (1 ≤ n ∧ n ≤ 8)) : spec_StepRight (k, (t, (f, d))) n = some false := by
  unfold spec_StepRight spec_l03Is
  simp only [Option.bind_some]
  rw [show (decide (1 ≤ n) && decide (n ≤ 8)) = false by rw [Bool.eq_false_iff, Ne, Bool.and_eq_true, decide_eq_true_eq, decide_eq_true_eq]; exact h]
  rfl
theorem iStep (k t f : Int) (d : Str) (n : Int) (h1 : 1 ≤ n) (h2 : n ≤ 8) : impl_isStep (k, (t, (f, d))) n = some (stepB k t f d n) := by
  have hw : IntKind.wrap .i64 (n - 1) = n - 1 := w64 (by omega) (by omega)
  unfold impl_isStep
  simp only [impl_within, impl_isTime, Option.bind_some, hw, impl_isStep.j0, impl_isStep.j1, stepB, beqd]
  generalize (decide (0 ≤ t) && decide (t ≤ n - 1)) = P
  generalize (decide (0 ≤ f) && decide (f ≤ n - 1)) = Q
  generalize (d == ([] : Str)) = E
  by_cases c1 : k = 1
  · subst c1; cases P <;> by_cases h : f = 0 <;> simp [h]
  by_cases c2 : k = 2
  · subst c2; cases P <;> by_cases h : f = 0 <;> simp [h]
  by_cases c3 : k = 3
  · subst c3; cases P <;> cases Q <;> simp
  by_cases c4 : k = 4
  · subst c4; cases P <;> cases Q <;> simp
  by_cases c5 : k = 5
  · subst c5; cases E <;> by_cases h : t = 0 <;> simp [h]
  have hk : (decide (1 ≤ k) && decide (k ≤ 5)) = false := by
    rw [Bool.eq_false_iff, Ne, Bool.and_eq_true, decide_eq_true_eq, decide_eq_true_eq]; omega
  simp [c1, c2, c3, c4, c5, hk]
theorem stepB_data {k t f : Int} {d : Str} {n : Int} (h : stepB k t f d n = true) : d.length ≤ 8 := by
  unfold stepB at h
  have e : (d == ([] : Str)) = true → d.length ≤ 8 := fun q => by
    rw [beq_str] at q
    rw [of_decide_eq_true q]; simp
  have e8 : decide ((d.length : Int) = 8) = true → d.length ≤ 8 := fun q => by
    have := of_decide_eq_true q; omega
  split at h
  · exact e ((Bool.and_eq_true _ _).mp h).2
  split at h
  · exact e8 ((Bool.and_eq_true _ _).mp h).2
  split at h
  · exact e ((Bool.and_eq_true _ _).mp h).2
  split at h
  · exact e8 ((Bool.and_eq_true _ _).mp h).2
  split at h
  · exact e ((Bool.and_eq_true _ _).mp h).2
  · cases h
/-- A step, read from the body of a text. -/
def stepOf (s : Str) : Option (Int × Int × Int × Str) := match quadZ s with
  | some (x, y, z, t, d) => if d = s.length ∧ stepB x y z t 8 = true then some (x, y, z, t) else none
  | none => none
theorem stepOf_right {s : Str} {x y z : Int} {t : Str} (h : stepOf s = some (x, y, z, t)) : stepB x y z t 8 = true := by
  unfold stepOf at h
  split at h
  · split at h
    · rename_i hq
      cases h
      exact hq.2
    · cases h
  · cases h
theorem empty_ne {s : Str} (h : 1 ≤ s.length) : (([] : Str) == s) = false := by
  cases s with
  | nil => exact absurd h (by simp)
  | cons _ _ => rfl
/-! ### heads -/
def headB (x y z : Int) (t : Str) : Bool := (decide (1 ≤ x) && decide (x ≤ 8)) && ((decide (1 ≤ y) && decide (y ≤ 20)) && ((decide (0 ≤ z) && decide (z ≤ 4)) && decide ((t.length : Int) = 32)))
theorem headB_is {x y z : Int} {t : Str} (h : headB x y z t = true) : (1 ≤ x ∧ x ≤ 8) ∧ (1 ≤ y ∧ y ≤ 20) ∧ (0 ≤ z ∧ z ≤ 4) ∧ t.length = 32 := by
  unfold headB at h
  simp only [Bool.and_eq_true, decide_eq_true_eq] at h
  omega
/-- A head, read from the body of a text: the head, or none. -/
def headOf (s : Str) : Option (Int × Int × Int × Str) := match quadZ s with
  | some (x, y, z, t, d) => if d = s.length ∧ headB x y z t = true then some (x, y, z, t) else none
  | none => none
def headR (s : Str) : Int × Int × Int × Str × Int := if (unsealI s).2 = 0 then match headOf (bodyOf s) with
    | some (x, y, z, t) => (x, y, z, t, 0)
    | none => (0, 0, 0, [], 3) else (0, 0, 0, [], (unsealI s).2)
end Go.Proofs.YtcnkbllbpimaiaaGreatDoorE

namespace Go.Proofs.YtcnkbllbpimaiaaGreatDoorE
open Go
set_option linter.unusedVariables false
abbrev StepT := Int × Int × Int × Str
def szF (s : Int) (x : StepT) : Int ⊕ (Int ⊕ Int) := if s < (x.2.2.2.length : Int) then .inr (.inr (-1)) else .inl (s - (x.2.2.2.length : Int))
theorem szRun : ∀ (l : List StepT) (s : Int), 0 ≤ s → (∃ v, runL szF (fun s => .inl s) l s = .inl v ∧ 0 ≤ v ∧ v ≤ s ∧ ∀ x ∈ l, (x.2.2.2.length : Int) ≤ s) ∨ runL szF (fun s => .inl s) l s = .inr (-1)
  | [], s, h => .inl ⟨s, rfl, h, Int.le_refl _, fun x hx => nomatch hx⟩
  | x :: l, s, h => by
    by_cases hx : s < (x.2.2.2.length : Int)
    · exact .inr (runL_inr (by unfold szF; rw [if_pos hx]))
    · rw [runL_inl (by unfold szF; rw [if_neg hx])]
      rcases szRun l (s - (x.2.2.2.length : Int)) (by omega) with ⟨v, h1, h2, h3, h4⟩ | h1
      · refine .inl ⟨v, h1, h2, by omega, fun y hy => ?_⟩
        rcases List.mem_cons.1 hy with rfl | hy
        · omega
        · have := h4 y hy; omega
      · exact .inr h1
abbrev PkgT := Int × Str × List StepT
end Go.Proofs.YtcnkbllbpimaiaaGreatDoorE

namespace Go.Proofs.YtcnkbllbpimaiaaGreatDoorE
open Go
set_option linter.unusedVariables false
/-- A loop that ends at the first place where a test fails. -/
theorem ever_stop {R : Type} (L : Nat → Nat → Nat → Option R) (n : Nat) (p : Nat → Bool) (m : Nat) (r : R) (hm : m ≤ n) (hall : ∀ i, i < m → p i = true) (hs : Ever fun k => ∀ i, i < n → p i = true → ∀ j, L k (j + 1) i = L k j (i + 1))
    (hl : Ever fun k => ∀ j, L k (j + 1) m = some r) : Ever fun k => L k k 0 = some r :=
  ever_loop L m r (hs.mono fun k h i hi => h i (by omega) (hall i hi)) hl
/-- Either all places pass, or there is a first that does not. -/
theorem all_or_first (n : Nat) (p : Nat → Bool) : (∀ i, i < n → p i = true) ∨ ∃ m, m < n ∧ p m = false ∧ ∀ i, i < m → p i = true := by
  induction n with
  | zero => exact .inl fun i hi => absurd hi (Nat.not_lt_zero i)
  | succ n ih =>
    rcases ih with h | ⟨m, h1, h2, h3⟩
    · cases hp : p n with
      | true =>
        refine .inl fun i hi => ?_
        rcases Nat.eq_or_lt_of_le (Nat.le_of_lt_succ hi) with rfl | hi
        · exact hp
        · exact h i hi
      | false => exact .inr ⟨n, Nat.lt_succ_self n, hp, h⟩
    · exact .inr ⟨m, Nat.lt_succ_of_lt h1, h2, h3⟩
theorem all_get {α : Type} {l : List α} {q : α → Bool} : (∀ x ∈ l, q x = true) ↔ ∀ i, (h : i < l.length) → q l[i] = true := by
  constructor
  · exact fun h i hi => h _ (List.getElem_mem hi)
  · intro h x hx
    obtain ⟨i, hi, rfl⟩ := List.getElem_of_mem hx
    exact h i hi
/-- All elements pass, or there is a first that does not. -/
theorem list_first {α : Type} (l : List α) (q : α → Bool) : (l.all q = true) ∨ (l.all q = false ∧ ∃ m, ∃ h : m < l.length, q l[m] = false ∧ ∀ i, (hi : i < m) → q (l[i]'(by omega)) = true) := by
  rcases all_or_first l.length (fun i => match l[i]? with | some x => q x | none => true) with h | ⟨m, h1, h2, h3⟩
  · refine .inl (List.all_eq_true.2 (all_get.2 fun i hi => ?_))
    have := h i hi
    rwa [List.getElem?_eq_getElem hi] at this
  · rw [List.getElem?_eq_getElem h1] at h2
    replace h2 : q l[m] = false := h2
    refine .inr ⟨?_, m, h1, h2, fun i hi => ?_⟩
    · cases ha : l.all q with
      | false => rfl
      | true => rw [List.all_eq_true.1 ha _ (List.getElem_mem h1)] at h2; cases h2
    · have := h3 i hi
      rwa [List.getElem?_eq_getElem (by omega)] at this
/-- A loop that tests all places; where a test fails it leaves with what q says. -/
theorem loop_test {R : Type} (L : Nat → Nat → Option (Unit ⊕ R)) (n : Nat) (p : Nat → Bool) (q : Nat → R) (hs : ∀ i, i < n → p i = true → ∀ j, L (j + 1) i = L j (i + 1)) (hf : ∀ i, i < n → p i = false → ∀ j, L (j + 1) i = some (.inr (q i))) (he : ∀ j, L (j + 1) n = some (.inl ())) :
    ((List.range n).all p = true ∧ ∀ k, n < k → L k 0 = some (.inl ())) ∨ ((List.range n).all p = false ∧ ∃ i, i < n ∧ p i = false ∧ ∀ k, n < k → L k 0 = some (.inr (q i))) := by
  rcases all_or_first n p with h | ⟨m, h1, h2, h3⟩
  · refine .inl ⟨List.all_eq_true.2 fun i hi => h i (List.mem_range.1 hi), loop_at L n _ (fun i hi => hs i hi (h i hi)) he⟩
  · refine .inr ⟨?_, m, h1, h2, fun k hk => loop_at L m _ (fun i hi => hs i (by omega) (h3 i hi)) (hf m h1 h2) k (by omega)⟩
    cases ha : (List.range n).all p with
    | false => rfl
    | true => rw [List.all_eq_true.1 ha m (List.mem_range.2 h1)] at h2; cases h2
end Go.Proofs.YtcnkbllbpimaiaaGreatDoorE

namespace Go.Proofs.YtcnkbllbpimaiaaGreatDoorE
open Go
set_option linter.unusedVariables false
abbrev CmdT := Int × Int × Int × Str × StepT
abbrev DeedT := CmdT × Int × List Int × List Int
/-! ### tests -/
def zeroStep (s : StepT) : Bool := decide (s.1 = 0) && (decide (s.2.1 = 0) && (decide (s.2.2.1 = 0) && (s.2.2.2 == [])))
def cmdB (c : CmdT) : Bool :=
  if c.1 = 1 then (decide (1 ≤ c.2.1) && decide (c.2.1 ≤ 20)) && (decide (0 ≤ c.2.2.1) && decide (c.2.2.1 ≤ 4)) && decide ((c.2.2.2.1.length : Int) = 32) && zeroStep c.2.2.2.2
  else if c.1 = 2 then decide (c.2.1 = 0) && decide (c.2.2.1 = 0) && (c.2.2.2.1 == []) && stepB c.2.2.2.2.1 c.2.2.2.2.2.1 c.2.2.2.2.2.2.1 c.2.2.2.2.2.2.2 8
  else if c.1 = 9 then (decide (1 ≤ c.2.1) && decide (c.2.1 ≤ 24)) && decide (c.2.2.1 = 0) && (c.2.2.2.1 == []) && zeroStep c.2.2.2.2
  else if c.1 = 7 then (decide (0 ≤ c.2.1) && decide (c.2.1 ≤ 1000000)) && decide (c.2.2.1 = 0) && (c.2.2.2.1 == []) && zeroStep c.2.2.2.2
  else (decide (1 ≤ c.1) && decide (c.1 ≤ 11)) && decide (c.2.1 = 0) && decide (c.2.2.1 = 0) && (c.2.2.2.1 == []) && zeroStep c.2.2.2.2
theorem iCmd (c : CmdT) : impl_isCmd c = some (cmdB c) := by
  obtain ⟨o, a, b, t, s⟩ := c
  have hs : impl_isStep s 8 = some (stepB s.1 s.2.1 s.2.2.1 s.2.2.2 8) := iStep s.1 s.2.1 s.2.2.1 s.2.2.2 8 (by decide) (by decide)
  unfold impl_isCmd cmdB zeroStep
  simp only [impl_within, impl_isTime, Option.bind_some, hs, beqd]
  generalize (decide (s.1 = 0) && (decide (s.2.1 = 0) && (decide (s.2.2.1 = 0) && (s.2.2.2 == [])))) = Z
  generalize (t == ([] : Str)) = E
  generalize stepB s.1 s.2.1 s.2.2.1 s.2.2.2 8 = S
  by_cases c1 : o = 1
  · subst c1; simp
  by_cases c2 : o = 2
  · subst c2; simp
  by_cases c9 : o = 9
  · subst c9; simp
  by_cases c7 : o = 7
  · subst c7; simp
  simp [c1, c2, c9, c7]
theorem sCmd (c : CmdT) : spec_CmdRight c = some (cmdB c) := by
  obtain ⟨o, a, b, t, s⟩ := c
  have hs : spec_StepRight s 8 = some (stepB s.1 s.2.1 s.2.2.1 s.2.2.2 8) := sStep s.1 s.2.1 s.2.2.1 s.2.2.2 8 (by decide) (by decide)
  unfold spec_CmdRight cmdB zeroStep
  simp only [spec_l03Is, Option.bind_some, hs, bne, beqd]
  generalize (decide (s.1 = 0) && (decide (s.2.1 = 0) && (decide (s.2.2.1 = 0) && (s.2.2.2 == [])))) = Z
  generalize (t == ([] : Str)) = E
  generalize stepB s.1 s.2.1 s.2.2.1 s.2.2.2 8 = S
  generalize decide ((t.length : Int) = 32) = W
  by_cases c1 : o = 1
  · subst c1
    generalize (decide (1 ≤ a) && decide (a ≤ 20)) = P
    generalize (decide (0 ≤ b) && decide (b ≤ 4)) = Q
    cases P <;> cases Q <;> cases W <;> cases Z <;> simp
  by_cases c2 : o = 2
  · subst c2
    generalize decide (a = 0) = P
    generalize decide (b = 0) = Q
    cases P <;> cases Q <;> cases E <;> cases S <;> simp
  by_cases c9 : o = 9
  · subst c9
    generalize (decide (1 ≤ a) && decide (a ≤ 24)) = P
    generalize decide (b = 0) = Q
    cases P <;> cases Q <;> cases E <;> cases Z <;> simp
  by_cases c7 : o = 7
  · subst c7
    generalize (decide (0 ≤ a) && decide (a ≤ 1000000)) = P
    generalize decide (b = 0) = Q
    cases P <;> cases Q <;> cases E <;> cases Z <;> simp
  simp only [decide_eq_false c1, decide_eq_false c2, decide_eq_false c9, decide_eq_false c7, if_neg c1, if_neg c2, if_neg c9, if_neg c7]
  generalize decide (a = 0) = P
  generalize decide (b = 0) = Q
  generalize (decide (1 ≤ o) && decide (o ≤ 11)) = R
  cases P <;> cases Q <;> cases E <;> cases Z <;> cases R <;> simp
def numsB (l : List Int) (m : Nat) (h : Int) : Bool := decide (l.length ≤ m) && !(l.any fun x => !(decide (0 ≤ x) && decide (x ≤ h)))
theorem sNums (l : List Int) (m : Nat) (h : Int) {k : Nat} (hk : l.length < k) (hm : m ≤ 1000) : spec_l16Nums k l (m : Int) h = some (numsB l m h) := by
  unfold spec_l16Nums numsB
  by_cases c : m < l.length
  · rw [dlt c, decide_eq_false (by omega : ¬ l.length ≤ m)]
    rfl
  · rw [dnlt (by omega), decide_eq_true (by omega : l.length ≤ m)]
    have run := loop_find (fun j i => spec_l16Nums.l0 j l h i) l (fun x => !(decide (0 ≤ x) && decide (x ≤ h))) (.inl ()) (fun _ => .inr false) (fun i hi => by
      refine ⟨fun hp j => ?_, fun hp j => ?_⟩
      · show spec_l16Nums.l0 (j + 1) l h (i : Int) = spec_l16Nums.l0 j l h ((i + 1 : Nat) : Int)
        rw [spec_l16Nums.l0, dlt hi, at_nat hi, wsuc (by omega)]
        simp only [cond_true, Option.bind_some, spec_l03Is]
        rw [hp]
        rfl
      · show spec_l16Nums.l0 (j + 1) l h (i : Int) = some (.inr false)
        rw [spec_l16Nums.l0, dlt hi, at_nat hi]
        simp only [cond_true, Option.bind_some, spec_l03Is]
        rw [hp]
        rfl) (fun j => by
      show spec_l16Nums.l0 (j + 1) l h (l.length : Int) = some (.inl ())
      rw [spec_l16Nums.l0, dnlt (Nat.le_refl _)]
      rfl) hk
    have run : spec_l16Nums.l0 k l h 0 = _ := run
    rw [run, ← firstI_any (n := 0)]
    cases firstI (fun x => !(decide (0 ≤ x) && decide (x ≤ h))) l 0 <;> rfl
theorem iNums1 (l : List Int) {k : Nat} (hk : l.length < k) (hl : l.length ≤ 1000) : slices_ContainsFunc_int64_isDeed_1 k l = some (l.any fun x => !(decide (0 ≤ x) && decide (x ≤ 200))) := by
  unfold slices_ContainsFunc_int64_isDeed_1 slices_IndexFunc_int64_isDeed_1
  have run := loop_find (fun j i => slices_IndexFunc_int64_isDeed_1.l0 j l (l.length : Int) i) l (fun x => !(decide (0 ≤ x) && decide (x ≤ 200))) (.inl ()) (fun i => .inr (i : Int)) (fun i hi => by
    refine ⟨fun hp j => ?_, fun hp j => ?_⟩
    · show slices_IndexFunc_int64_isDeed_1.l0 (j + 1) l (l.length : Int) (i : Int) = slices_IndexFunc_int64_isDeed_1.l0 j l (l.length : Int) ((i + 1 : Nat) : Int)
      rw [slices_IndexFunc_int64_isDeed_1.l0, dlt hi, at_nat hi, wsuc (by omega)]
      simp only [cond_true, Option.bind_some, impl_isDeed_1, impl_within]
      rw [hp]
      rfl
    · show slices_IndexFunc_int64_isDeed_1.l0 (j + 1) l (l.length : Int) (i : Int) = some (.inr (i : Int))
      rw [slices_IndexFunc_int64_isDeed_1.l0, dlt hi, at_nat hi]
      simp only [cond_true, Option.bind_some, impl_isDeed_1, impl_within]
      rw [hp]
      rfl) (fun j => by
    show slices_IndexFunc_int64_isDeed_1.l0 (j + 1) l (l.length : Int) (l.length : Int) = some (.inl ())
    rw [slices_IndexFunc_int64_isDeed_1.l0, dnlt (Nat.le_refl _)]
    rfl) hk
  have run : slices_IndexFunc_int64_isDeed_1.l0 k l (l.length : Int) 0 = _ := run
  rw [run, ← firstI_any (n := 0)]
  cases firstI (fun x => !(decide (0 ≤ x) && decide (x ≤ 200))) l 0 with
  | none => rfl
  | some i =>
    simp only [Option.bind_some]
    rw [decide_eq_true (by omega : (0 : Int) ≤ (i : Int))]
    rfl
theorem iNums2 (l : List Int) {k : Nat} (hk : l.length < k) (hl : l.length ≤ 1000) : slices_ContainsFunc_int64_isDeed_2 k l = some (l.any fun x => !(decide (0 ≤ x) && decide (x ≤ 50))) := by
  unfold slices_ContainsFunc_int64_isDeed_2 slices_IndexFunc_int64_isDeed_2
  have run := loop_find (fun j i => slices_IndexFunc_int64_isDeed_2.l0 j l (l.length : Int) i) l (fun x => !(decide (0 ≤ x) && decide (x ≤ 50))) (.inl ()) (fun i => .inr (i : Int)) (fun i hi => by
    refine ⟨fun hp j => ?_, fun hp j => ?_⟩
    · show slices_IndexFunc_int64_isDeed_2.l0 (j + 1) l (l.length : Int) (i : Int) = slices_IndexFunc_int64_isDeed_2.l0 j l (l.length : Int) ((i + 1 : Nat) : Int)
      rw [slices_IndexFunc_int64_isDeed_2.l0, dlt hi, at_nat hi, wsuc (by omega)]
      simp only [cond_true, Option.bind_some, impl_isDeed_2, impl_within]
      rw [hp]
      rfl
    · show slices_IndexFunc_int64_isDeed_2.l0 (j + 1) l (l.length : Int) (i : Int) = some (.inr (i : Int))
      rw [slices_IndexFunc_int64_isDeed_2.l0, dlt hi, at_nat hi]
      simp only [cond_true, Option.bind_some, impl_isDeed_2, impl_within]
      rw [hp]
      rfl) (fun j => by
    show slices_IndexFunc_int64_isDeed_2.l0 (j + 1) l (l.length : Int) (l.length : Int) = some (.inl ())
    rw [slices_IndexFunc_int64_isDeed_2.l0, dnlt (Nat.le_refl _)]
    rfl) hk
  have run : slices_IndexFunc_int64_isDeed_2.l0 k l (l.length : Int) 0 = _ := run
  rw [run, ← firstI_any (n := 0)]
  cases firstI (fun x => !(decide (0 ≤ x) && decide (x ≤ 50))) l 0 with
  | none => rfl
  | some i =>
    simp only [Option.bind_some]
    rw [decide_eq_true (by omega : (0 : Int) ≤ (i : Int))]
    rfl
def deedB (d : DeedT) : Bool := cmdB d.1 && (decide (-1 ≤ d.2.1) && decide (d.2.1 ≤ 50)) && numsB d.2.2.1 40 200 && numsB d.2.2.2 5 50 && (decide (0 ≤ d.2.1) || (decide (d.2.2.1.length = 0) && decide (d.2.2.2.length = 0)))
theorem sDeed (d : DeedT) {k : Nat} (h1 : d.2.2.1.length < k) (h2 : d.2.2.2.length < k) : spec_DeedRight k d = some (deedB d) := by
  unfold spec_DeedRight deedB
  have e1 : spec_l16Nums k d.2.2.1 40 200 = some (numsB d.2.2.1 40 200) := sNums d.2.2.1 40 200 h1 (by omega)
  have e2 : spec_l16Nums k d.2.2.2 5 50 = some (numsB d.2.2.2 5 50) := sNums d.2.2.2 5 50 h2 (by omega)
  rw [sCmd, e1, e2]
  simp only [Option.bind_some, spec_l03Is, beqd]
  rw [show decide ((d.2.2.1.length : Int) = 0) = decide (d.2.2.1.length = 0) from decide_eq_decide.2 (by omega), show decide ((d.2.2.2.length : Int) = 0) = decide (d.2.2.2.length = 0) from decide_eq_decide.2 (by omega)]
  cases cmdB d.1 <;> cases (decide (-1 ≤ d.2.1) && decide (d.2.1 ≤ 50)) <;> cases numsB d.2.2.1 40 200 <;> cases numsB d.2.2.2 5 50 <;> rfl
theorem iDeed (d : DeedT) {k : Nat} (h1 : d.2.2.1.length < k) (h2 : d.2.2.2.length < k) (hb1 : d.2.2.1.length ≤ 1048576) (hb2 : d.2.2.2.length ≤ 1048576) : impl_isDeed k d = some (deedB d) := by
  unfold impl_isDeed deedB
  rw [iCmd]
  simp only [Option.bind_some, impl_within]
  rw [show IntKind.wrap .i64 ((d.2.2.1.length : Int) + (d.2.2.2.length : Int)) = (d.2.2.1.length : Int) + (d.2.2.2.length : Int) from w64 (by omega) (by omega)]
  cases cmdB d.1 with
  | false => rfl
  | true =>
  simp only [Bool.not_true, cond_false]
  unfold numsB
  cases (decide (-1 ≤ d.2.1) && decide (d.2.1 ≤ 50)) with
  | false => rfl
  | true =>
  by_cases c1 : d.2.2.1.length ≤ 40
  · by_cases c2 : d.2.2.2.length ≤ 5
    · rw [decide_eq_false (by omega : ¬ (40 : Int) < (d.2.2.1.length : Int)), decide_eq_false (by omega : ¬ (5 : Int) < (d.2.2.2.length : Int)), decide_eq_true c1, decide_eq_true c2, iNums1 _ h1 (by omega), iNums2 _ h2 (by omega)]
      simp only [Option.bind_some]
      have e : (decide (0 ≤ d.2.1) || (decide (d.2.2.1.length = 0) && decide (d.2.2.2.length = 0))) = !(decide (d.2.1 < 0) && decide (0 < (d.2.2.1.length : Int) + (d.2.2.2.length : Int))) := by
        rw [Bool.eq_iff_iff]
        simp only [Bool.or_eq_true, Bool.and_eq_true, decide_eq_true_eq, Bool.not_eq_true', Bool.and_eq_false_iff, decide_eq_false_iff_not]
        omega
      rw [e]
      cases (decide (d.2.1 < 0) && decide (0 < (d.2.2.1.length : Int) + (d.2.2.2.length : Int))) <;> cases (d.2.2.1.any fun x => !(decide (0 ≤ x) && decide (x ≤ 200))) <;> cases (d.2.2.2.any fun x => !(decide (0 ≤ x) && decide (x ≤ 50))) <;> rfl
    · rw [decide_eq_true (by omega : (5 : Int) < (d.2.2.2.length : Int)), decide_eq_false c2]
      simp
  · rw [decide_eq_true (by omega : (40 : Int) < (d.2.2.1.length : Int)), decide_eq_false c1]
    simp
/-! ### numbers -/
theorem sDec1 (n : Int) (h0 : 0 ≤ n) (h : n < 9223372036854775808) {k : Nat} (hk : 30 ≤ k) : spec_l01Dec k n = some (decM n) := by
  unfold decM
  obtain ⟨u, rfl⟩ : ∃ u : Nat, n = (u : Int) := ⟨n.toNat, by omega⟩
  rw [Int.toNat_natCast]
  have hu2 : u < 9223372036854775808 := by omega
  unfold spec_l01Dec
  by_cases h0 : u = 0
  · subst h0
    rw [dec_small (by omega : 0 < 10)]
    rfl
  · rw [show ((u : Int) == 0) = false by rw [beqd]; exact decide_eq_false (by omega)]
    simp only [cond_false]
    rw [sDecL 20 u [] k (by omega) hu2 (by simp) (by omega), if_neg h0]
    simp only [Option.bind_some, List.append_nil]
    rw [decide_eq_false (by omega : ¬ ((u : Int) < 0))]
    rfl
theorem decM_ne (n : Int) : decM n ≠ [] := by
  unfold decM
  by_cases h : n.toNat < 10
  · rw [dec_small h]; simp
  · rw [dec_big h]; simp
theorem flatB (B : Nat) : ∀ (l : List Str), (∀ x ∈ l, x.length ≤ B) → l.flatten.length ≤ B * l.length
  | [], _ => Nat.le_refl _
  | x :: l, h => by
    have := h x List.mem_cons_self
    have := flatB B l fun y hy => h y (List.mem_cons_of_mem _ hy)
    rw [List.flatten_cons, List.length_append, List.length_cons, Nat.mul_succ]
    omega
def numsM (l : List Int) : Str := if l = [] then [45] else Lib.join (l.map decM) [44]
theorem join_len (l : List Int) (h : ∀ n ∈ l, n < 9223372036854775808) : (Lib.join (l.map decM) [44]).length ≤ 21 * l.length := by
  cases l with
  | nil => exact Nat.le_refl _
  | cons x r =>
    rw [List.map_cons, Lib.join_cons]
    unfold Lib.joinTail
    have h1 := decM_len (h x List.mem_cons_self)
    have h2 := flatB 21 ((r.map decM).map ([44] ++ ·)) (fun y hy => by
      obtain ⟨z, hz, rfl⟩ := List.mem_map.1 hy
      obtain ⟨n, hn, rfl⟩ := List.mem_map.1 hz
      have := decM_len (h n (List.mem_cons_of_mem _ hn))
      simp
      omega)
    rw [List.length_map, List.length_map] at h2
    rw [List.length_append, List.length_cons]
    refine Nat.le_trans (Nat.add_le_add h1 h2) ?_
    omega
theorem numsM_len (l : List Int) (h : ∀ n ∈ l, n < 9223372036854775808) : (numsM l).length ≤ 21 * l.length + 1 := by
  unfold numsM
  split
  · simp
  · have := join_len l h; omega
theorem iCommas (l : List Int) (h : ∀ n ∈ l, n < 9223372036854775808) (hl : l.length ≤ 1000) {k : Nat} (hk : l.length < k) : impl_commas k l = some (numsM l) := by
  unfold impl_commas numsM
  by_cases c : l = []
  · subst c; rfl
  · have hlen : l.length ≠ 0 := fun e => c (List.eq_nil_of_length_eq_zero e)
    rw [if_neg c, beqd, decide_eq_false (by omega : ¬ (l.length : Int) = 0), make_some (by omega)]
    simp only [cond_false, Option.bind_some]
    have run : impl_commas.l0 k l (l.length : Int) 0 (List.replicate l.length []) = some (l.map decM) := by
      have := loop_at (fun j i => impl_commas.l0 j l (l.length : Int) (i : Int) ((l.take i).map decM ++ List.replicate (l.length - i) [])) l.length (l.map decM) (fun i hi j => by
        show impl_commas.l0 (j + 1) l (l.length : Int) (i : Int) _ = impl_commas.l0 j l (l.length : Int) ((i + 1 : Nat) : Int) _
        have hlen := fill_len (l := l) (f := decM) (z := ([] : Str)) (i := i) (by omega)
        rw [impl_commas.l0, dlt hi, at_nat hi, wsuc (by omega)]
        simp only [cond_true, Option.bind_some]
        rw [iDec _ (h _ (List.getElem_mem hi)), at_nat (by rw [hlen]; exact hi)]
        simp only [Option.bind_some]
        rw [Int.toNat_natCast, fill_set hi]) (fun j => by
        show impl_commas.l0 (j + 1) l (l.length : Int) (l.length : Int) _ = _
        rw [impl_commas.l0, dnlt (Nat.le_refl _), List.take_length, Nat.sub_self]
        simp) k hk
      simpa using this
    rw [run]
    simp only [Option.bind_some]
    unfold strings_Join
    have := join_len l h
    rw [if_pos ⟨by rw [List.length_map]; omega, by omega⟩]
    rfl
theorem sCommas (l : List Int) (h : ∀ n ∈ l, 0 ≤ n ∧ n < 9223372036854775808) (hl : l.length ≤ 1000) {k : Nat} (hk : l.length + 30 < k) : spec_l17Nums k l = some (numsM l) := by
  unfold spec_l17Nums numsM
  cases l with
  | nil =>
    obtain ⟨k, rfl⟩ : ∃ q, k = q + 1 := ⟨k - 1, by omega⟩
    rfl
  | cons x r =>
    have hx := h x List.mem_cons_self
    have key : ∀ (d i : Nat) (acc : Str), i + d = r.length → acc.length + 21 * d ≤ 100000 → ∀ j, d < j → spec_l17Nums.l0 k j (x :: r) acc ((i + 1 : Nat) : Int) = some (acc ++ Lib.joinTail [44] ((r.drop i).map decM)) := by
      intro d
      induction d with
      | zero =>
        intro i acc hi hacc j hj
        obtain ⟨j, rfl⟩ : ∃ q, j = q + 1 := ⟨j - 1, by omega⟩
        obtain rfl : i = r.length := by omega
        rw [spec_l17Nums.l0, dnlt (by simp), List.drop_length]
        simp [Lib.joinTail]
      | succ d ih =>
        intro i acc hi hacc j hj
        obtain ⟨j, rfl⟩ : ∃ q, j = q + 1 := ⟨j - 1, by omega⟩
        have hir : i < r.length := by omega
        have hil : i + 1 < (x :: r).length := by simp; omega
        have hy := h r[i] (List.mem_cons_of_mem _ (List.getElem_mem hir))
        have hd := decM_len hy.2
        rw [Nat.mul_succ] at hacc
        rw [spec_l17Nums.l0, dlt hil, decide_eq_true (by omega : (0 : Int) < ((i + 1 : Nat) : Int)), at_nat hil, wsuc (by simp at hl; omega)]
        simp only [cond_true]
        rw [cat_some (by simp; omega)]
        simp only [Option.bind_some, List.getElem_cons_succ]
        rw [sDec1 _ hy.1 hy.2 (by omega)]
        simp only [Option.bind_some]
        rw [cat_some (by simp; omega)]
        simp only [Option.bind_some]
        rw [ih (i + 1) _ (by omega) (by simp; omega) j (by omega), List.drop_eq_getElem_cons hir]
        simp only [Lib.joinTail, List.map_cons, List.flatten_cons, List.append_assoc]
    have run : spec_l17Nums.l0 k k (x :: r) [] 0 = some (Lib.join ((x :: r).map decM) [44]) := by
      obtain ⟨j, hj⟩ : ∃ q, k = q + 1 := ⟨k - 1, by omega⟩
      have hlen : (x :: r).length = r.length + 1 := rfl
      have := key r.length 0 (decM x) (by omega) (by have := decM_len hx.2; omega) j (by omega)
      rw [List.map_cons, Lib.join_cons]
      rw [List.drop_zero] at this
      rw [← this]
      conv => lhs; rw [show spec_l17Nums.l0 k k (x :: r) [] 0 = spec_l17Nums.l0 k (j + 1) (x :: r) [] ((0 : Nat) : Int) by rw [← hj]; rfl]
      rw [spec_l17Nums.l0, dlt (by simp), decide_eq_false (by omega : ¬ (0 : Int) < ((0 : Nat) : Int)), at_nat (by simp), wsuc (by omega)]
      simp only [cond_true, cond_false, Option.bind_some, List.getElem_cons_zero]
      rw [sDec1 _ hx.1 hx.2 (by omega)]
      simp only [Option.bind_some]
      rw [cat_some (by have := decM_len hx.2; simp; omega)]
      simp only [Option.bind_some, List.nil_append]
    rw [run, if_neg (by simp)]
    simp only [Option.bind_some]
    have hne : (Lib.join ((x :: r).map decM) [44] == []) = false := by
      rw [List.map_cons, Lib.join_cons]
      have := decM_ne x
      cases h : decM x with
      | nil => exact absurd h this
      | cons _ _ => rfl
    rw [hne]
    rfl
end Go.Proofs.YtcnkbllbpimaiaaGreatDoorE
