/- What the law FnExactAnswerText needs, part 8 of 8: the Lean functions of the Go functions that it reaches, with the proofs that the calls come to what they say, and plain facts about them; the last theorem is the law. Conditions: those that each theorem states. Written by a session and by its programs (after the kit's printer). -/
import Derived.Test.YtaajcllchbnjiaaDoorRows
import Derived.Test.YtaajcllchbnjiaaDoorCards
import Derived.Test.YtaajcllchbnjiaaDoorTie
import Derived.Carry
import Derived.Handed
import Derived.LaidMore
import Derived.OpenShut
import Derived.ProofKit
import Derived.SevenTiedAt
import Derived.MakeChecks
import Derived.Test.YtaajcllchbnjiaaDoorXFnExactAnswerText5
import Derived.Test.YtaajcllchbnjiaaDoorXFnExactAnswerText6
namespace Go.Proofs.YtaajcllchbnjiaaDoorE
open Go
set_option linter.unusedVariables false
abbrev AnsT := MachT × Str × List Int × Int
def ans0 (c : Int) : Str := if c = 0 then [111, 107] else [101, 114, 114, 111, 114, 32] ++ decM c
def ans1 (c : Int) (l : List Int) : Str := ans0 c ++ (l.map fun n => [32] ++ decM n).flatten
def ansM (a : AnsT) : Str := if a.2.1 = [] then ans1 a.2.2.2 a.2.2.1 else ans1 a.2.2.2 a.2.2.1 ++ ([32] ++ hexM a.2.1)
theorem ans0_len {c : Int} (h : c < 9223372036854775808) : (ans0 c).length ≤ 30 := by
  unfold ans0
  split
  · simp
  · have := decM_len h
    rw [List.length_append]
    simp
    omega
theorem flat21 : ∀ (l : List Str), (∀ x ∈ l, x.length ≤ 21) → l.flatten.length ≤ 21 * l.length
  | [], _ => Nat.le_refl _
  | x :: l, h => by
    have := h x List.mem_cons_self
    have := flat21 l fun y hy => h y (List.mem_cons_of_mem _ hy)
    rw [List.flatten_cons, List.length_append, List.length_cons]
    omega
theorem word_len {n : Int} (h : n < 9223372036854775808) : ([32] ++ decM n).length ≤ 21 := by
  have := decM_len h
  rw [List.length_append]
  simp
  omega
theorem ans1_len {c : Int} {l : List Int} (h : c < 9223372036854775808) (hl : l.length ≤ 1048576) (hn : ∀ n ∈ l, n < 9223372036854775808) : (ans1 c l).length ≤ 30000000 := by
  unfold ans1
  have h0 := ans0_len h
  have h1 := flat21 (l.map fun n => [32] ++ decM n) (fun x hx => by
    obtain ⟨n, hnl, rfl⟩ := List.mem_map.1 hx
    exact word_len (hn n hnl))
  rw [List.length_map] at h1
  rw [List.length_append]
  omega
theorem iAns (a : AnsT) (hc : a.2.2.2 < 9223372036854775808) (hl : a.2.2.1.length ≤ 1048576) (hn : ∀ n ∈ a.2.2.1, n < 9223372036854775808) (ht : a.2.1.length ≤ 1048576) : Ever fun k => impl_AnswerText k a = some (ansM a) := by
  have run := cat_loop (fun k j acc i => impl_answerText.l1 j acc a.2.2.1 (a.2.2.1.length : Int) i) a.2.2.1 (fun n => [32] ++ decM n) 21 30000000 (fun n h => word_len (hn n h)) (fun i h => Ever.of fun k acc j ha => by
    show impl_answerText.l1 (j + 1) acc a.2.2.1 (a.2.2.1.length : Int) (i : Int) = impl_answerText.l1 j (acc ++ ([32] ++ decM a.2.2.1[i])) a.2.2.1 (a.2.2.1.length : Int) ((i + 1 : Nat) : Int)
    have hni := hn _ (List.getElem_mem h)
    have h21 := word_len hni
    rw [impl_answerText.l1, dlt h, at_nat h, wsuc (by omega)]
    simp only [cond_true, Option.bind_some]
    rw [iDec _ hni]
    simp only [Option.bind_some]
    rw [List.length_append] at h21
    rw [cat_some (by omega)]
    simp only [Option.bind_some]
    rw [cat_some (by rw [List.length_append]; omega)]
    rfl) (fun k acc j => by
    show impl_answerText.l1 (j + 1) acc a.2.2.1 (a.2.2.1.length : Int) (a.2.2.1.length : Int) = some acc
    unfold impl_answerText.l1
    rw [dnlt (Nat.le_refl _)]
    rfl) (ans0 a.2.2.2) (by have := ans0_len hc; omega)
  refine (run.and (Ever.ge (a.2.1.length + 1) fun k hk => hk)).mono fun k ⟨e, hk⟩ => ?_
  have e : impl_answerText.l1 k (ans0 a.2.2.2) a.2.2.1 (a.2.2.1.length : Int) 0 = some (ans1 a.2.2.2 a.2.2.1) := e
  have h0 : impl_answerText.j0 a.1.1 a.1.2.1 a.1.2.2 a.2.1 a.2.2.1 a.2.2.2 [111, 107] = some (ans0 a.2.2.2) := by
    unfold impl_answerText.j0 ans0
    by_cases hz : a.2.2.2 = 0
    · rw [hz]; rfl
    · rw [show (a.2.2.2 != 0) = true by simpa using hz, iDec _ hc, if_neg hz]
      have := decM_len hc
      simp only [cond_true, Option.bind_some]
      rw [cat_some (by simp; omega)]
      rfl
  unfold impl_AnswerText impl_answerText ansM
  rw [h0]
  simp only [Option.bind_some]
  rw [e]
  simp only [Option.bind_some]
  by_cases hx : a.2.1 = []
  · rw [if_pos hx, hx]; rfl
  · have hle := ans1_len hc hl hn
    have hhl := hexM_len a.2.1
    rw [if_neg hx, show (a.2.1 == []) = false by simpa using hx, iHex a.2.1 ht k (by omega)]
    simp only [Bool.not_false, cond_true, Option.bind_some]
    rw [cat_some (by simp; omega)]
    simp only [Option.bind_some]
    rw [cat_some (by simp; omega)]
    rfl
theorem sAns (a : AnsT) (hc : a.2.2.2 < 9223372036854775808) (hl : a.2.2.1.length ≤ 1048576) (hn : ∀ n ∈ a.2.2.1, n < 9223372036854775808) (ht : a.2.1.length ≤ 1048576) : Ever fun k => spec_AnswerText k a = some (ansM a) := by
  have run := cat_loop (fun k j acc i => (spec_AnswerText.l1 k j a.1.1 a.1.2.1 a.1.2.2 a.2.1 a.2.2.1 a.2.2.2 i (byteList acc)).map listByte) a.2.2.1 (fun n => [32] ++ decM n) 21 30000000 (fun n h => word_len (hn n h)) (fun i h => Ever.ge 30 fun k hk acc j ha => by
    show (spec_AnswerText.l1 k (j + 1) a.1.1 a.1.2.1 a.1.2.2 a.2.1 a.2.2.1 a.2.2.2 (i : Int) (byteList acc)).map listByte = (spec_AnswerText.l1 k j a.1.1 a.1.2.1 a.1.2.2 a.2.1 a.2.2.1 a.2.2.2 ((i + 1 : Nat) : Int) (byteList (acc ++ ([32] ++ decM a.2.2.1[i])))).map listByte
    have hni := hn _ (List.getElem_mem h)
    have h21 := word_len hni
    rw [spec_AnswerText.l1, dlt h, at_nat h, wsuc (by omega)]
    simp only [cond_true, Option.bind_some]
    rw [sDec _ hni k hk]
    simp only [Option.bind_some]
    rw [List.length_append] at h21
    rw [cat_some (by omega)]
    simp only [Option.bind_some]
    rw [app_ok (by rw [byteList_len, byteList_len, List.length_append]; omega), ← byteList_app]
    rfl) (fun k acc j => by
    show (spec_AnswerText.l1 k (j + 1) a.1.1 a.1.2.1 a.1.2.2 a.2.1 a.2.2.1 a.2.2.2 (a.2.2.1.length : Int) (byteList acc)).map listByte = some acc
    unfold spec_AnswerText.l1
    rw [dnlt (Nat.le_refl _)]
    show some (listByte (byteList acc)) = some acc
    rw [listByte_byteList]) (ans0 a.2.2.2) (by have := ans0_len hc; omega)
  refine (run.and (Ever.ge (a.2.1.length + 30) fun k hk => hk)).mono fun k ⟨e, hk⟩ => ?_
  have e : (spec_AnswerText.l1 k k a.1.1 a.1.2.1 a.1.2.2 a.2.1 a.2.2.1 a.2.2.2 0 (byteList (ans0 a.2.2.2))).map listByte = some (ans1 a.2.2.2 a.2.2.1) := e
  have h0 : spec_AnswerText.j0 k a.1.1 a.1.2.1 a.1.2.2 a.2.1 a.2.2.1 a.2.2.2 [111, 107] = some (byteList (ans0 a.2.2.2)) := by
    unfold spec_AnswerText.j0 ans0
    by_cases hz : a.2.2.2 = 0
    · rw [hz]; rfl
    · rw [show (a.2.2.2 != 0) = true by simpa using hz, sDec _ hc k (by omega), if_neg hz]
      have := decM_len hc
      simp only [cond_true, Option.bind_some]
      rw [cat_some (by simp; omega)]
      simp only [Option.bind_some]
      rw [room_some (by simp; omega)]
      rfl
  obtain ⟨y, hy, hy2⟩ := Option.map_eq_some_iff.1 e
  unfold spec_AnswerText ansM
  rw [h0]
  simp only [Option.bind_some]
  rw [hy]
  simp only [Option.bind_some]
  have hyl : y.length = (ans1 a.2.2.2 a.2.2.1).length := by rw [← hy2]; simp [listByte]
  by_cases hx : a.2.1 = []
  · rw [if_pos hx, hx, ← hy2]; rfl
  · have hle := ans1_len hc hl hn
    have hhl := hexM_len a.2.1
    rw [if_neg hx, show (a.2.1 == []) = false by simpa using hx, sHex a.2.1 ht k (by omega)]
    simp only [Bool.not_false, cond_true, Option.bind_some]
    rw [cat_some (by simp; omega)]
    simp only [Option.bind_some]
    rw [app_ok (by rw [byteList_len, hyl]; simp; omega)]
    simp only [Option.bind_some]
    rw [listByte_app, listByte_byteList, hy2]
theorem laws_FnExactAnswerText.proved : laws_FnExactAnswerText.Pure := by
  intro a ha
  have hc : a.2.2.2 < 9223372036854775808 := (wf64 ha.2.2.2).2
  have hn : ∀ n ∈ a.2.2.1, n < 9223372036854775808 := fun n hn => (wf64 (ha.2.2.1.2 n hn)).2
  have hsz : Ev (fun k => laws_szDoOut k a 1048576) fun v => 0 ≤ v → FlashFit a.1.2 1048576 ∧ a.2.1.length ≤ 1048576 ∧ a.2.2.1.length ≤ 1048576 := by
    unfold laws_szDoOut
    have hbig : FlashBig a.1.2 := ⟨⟨ha.1.2.1.1, fun x hx => ha.1.2.1.2 x hx⟩, ha.1.2.2.1, fun x hx => (ha.1.2.2.2 x hx).2⟩
    have htl : a.2.1.length ≤ 140737488351232 := ha.2.1
    refine Ev.bind (szMachine_ev a.1 1048576 hbig (by omega) (by omega)) fun v hv => Ev.cond (fun _ => Ev.ret fun h => by omega) fun hv0 => ?_
    have hv0 : 0 ≤ v := by simpa using hv0
    rw [w64 (n := v - (a.2.1.length : Int)) (by omega) (by omega)]
    refine Ev.cond (fun _ => Ev.ret fun h => by omega) fun hu0 => ?_
    have hu0 : 0 ≤ v - (a.2.1.length : Int) := by simpa using hu0
    obtain ⟨u, eu, hu1, hu2⟩ := szInt64S_eq a.2.2.1 (v - (a.2.1.length : Int)) ha.2.2.1.1 hu0 (by omega)
    refine Ev.bnd eu (Ev.cond (fun _ => Ev.ret fun h => by omega) fun hc0 => Ev.ret fun h => ⟨hv.2 hv0, by omega, ?_⟩)
    have := hu2 h
    omega
  obtain ⟨v, hv, ev⟩ := hsz
  by_cases h0 : v < 0
  · obtain ⟨k, hk⟩ := ev.ex
    have hk : laws_szDoOut k a 1048576 = some v := hk
    refine ⟨k, ?_⟩
    unfold laws_FnExactAnswerText
    rw [hk]
    simp only [Option.bind_some]
    rw [decide_eq_true h0]
    rfl
  · obtain ⟨hf, htl, hl⟩ := hv (by omega)
    obtain ⟨k, ⟨⟨⟨⟨⟨g1, g2⟩, g3⟩, g4⟩, g5⟩, g6⟩, g7⟩ := ((((((ev.and (toMachine_eq a.1 1048576 hf (by omega))).and (toInt64S_eq a.2.2.1 hl)).and (eqMachine_refl a.1 1048576 hf (by omega))).and (eqInt64S_refl a.2.2.1 hl)).and (iAns a hc hl hn htl)).and (sAns a hc hl hn htl)).ex
    have g1 : laws_szDoOut k a 1048576 = some v := g1
    refine ⟨k, ?_⟩
    have e2 : laws_toDoOut k a = some (a.1.1, a.1.2.1, a.1.2.2, a.2.1, a.2.2.1, a.2.2.2) := by
      unfold laws_toDoOut
      rw [g2, g3]
      rfl
    have e3 : laws_eqDoOut k a a = some true := by
      unfold laws_eqDoOut
      rw [g4, g5]
      simp only [bne_self_eq_false, beq_self_eq_true, Option.bind_some, Bool.not_true, cond_false]
    unfold laws_FnExactAnswerText
    rw [g1]
    simp only [Option.bind_some]
    rw [decide_eq_false h0, e2]
    simp only [cond_false, Option.bind_some]
    rw [show (((a.1.1, (a.1.2.1, a.1.2.2)), (a.2.1, (a.2.2.1, a.2.2.2))) : AnsT) = a from rfl]
    rw [g7, g6]
    simp only [Option.bind_some, beq_self_eq_true, Bool.not_true, cond_false]
    rw [e3]
    rfl
end Go.Proofs.YtaajcllchbnjiaaDoorE

namespace Go.Proofs.YtaajcllchbnjiaaDoor.fnExactAnswerText
open Go Go.ChangeShapes Go.WideShapes Go.ChangeAt Go.RowKit Go.Proofs.YtaajcllchbnjiaaDoorE
set_option linter.unusedVariables false
theorem own : ownKnob Tryd.prog.godebug = none := by kernel_rfl
theorem laidOut : laidOutB Tryd.prog = true := by kernel_rfl
theorem go (k : Nat) (y0 : G30) : (laws_FnExactAnswerText.con k).f [argC true T30 y0] = .opt (Prod' laws_FnExactAnswerText.sig.outs) (laws_FnExactAnswerText k y0) laws_FnExactAnswerText.sig.enc := by kernel_rfl
abbrev laidL : List (String × DataW Unit) := [("math/bits.deBruijn32tab", Rows.laid_math_bits_deBruijn32tab), ("math/bits.deBruijn64tab", Rows.laid_math_bits_deBruijn64tab), ("internal/strconv.uint64pow10", Rows.laid_internal_strconv_uint64pow10)]
theorem door_met (os : Os) (args : Array Value) : laidMetH Tryd.prog laidL ((World.doorLaid Tryd.prog 34 os).forCall (fun _ _ => 0) ⟨#[], args, []⟩).memory :=
  laidMetH_of_parts3 (fuel := 8) (laidMet_of_run' 8 (by kernel_rfl) (by kernel_rfl)) (by kernel_rfl) (by kernel_rfl)
theorem globals {W : World} (h : laidMetH Tryd.prog laidL W) : GlW W := by
  rw [MakeChecks.laidMetH_plain _ _ _ (by kernel_rfl)] at h
  intro n r l e
  unfold GL at e
  split at e
  · cases e; exact laid_ints h (name := "internal/strconv.uint64pow10") (k := .u64) (zs := tab2) (List.mem_of_getElem? (i := 2) (by kernel_rfl)) (n := 20) (t := 128) (e := 119) (by kernel_rfl) (by kernel_rfl) (by kernel_rfl) (by kernel_rfl) (by kernel_rfl) (by kernel_rfl)
  · cases e; exact laid_ints h (name := "math/bits.deBruijn32tab") (k := .u8) (zs := tab4) (List.mem_of_getElem? (i := 0) (by kernel_rfl)) (n := 32) (t := 139) (e := 5) (by kernel_rfl) (by kernel_rfl) (by kernel_rfl) (by kernel_rfl) (by kernel_rfl) (by kernel_rfl)
  · cases e; exact laid_ints h (name := "math/bits.deBruijn64tab") (k := .u8) (zs := tab5) (List.mem_of_getElem? (i := 1) (by kernel_rfl)) (n := 64) (t := 140) (e := 5) (by kernel_rfl) (by kernel_rfl) (by kernel_rfl) (by kernel_rfl) (by kernel_rfl) (by kernel_rfl)
  · cases e
set_option maxRecDepth 100000 in
theorem lifted (os : Os) (started : os.Started) (H : Type) (enc : TypeId × Value → H) :
    ReturnsInHanded {} Tryd.checked os 3 .any (fun w args => (Rows.fnExactAnswerTextSpec.pre enc Tryd.prog Tryd.f3 [] false w args ∧ laidMetH Tryd.prog laidL w) ∧ sizedMet enc Tryd.prog Tryd.f3 (OpenSpec.ofChange Rows.fnExactAnswerTextSpec) false w args) (Rows.fnExactAnswerTextSpec.post enc Tryd.prog Tryd.f3 false true false false) := by
  refine returnsInHanded_of_change_and (C := Tryd.checked) (X := fun w _ => laidMetH Tryd.prog laidL w) (fun _ _ _ hh h => h.of_heap hh) own started (by kernel_rfl) Tryd.func3
    (ChangeSpec.witness_shaped (enc := enc) (C := Tryd.checked) (os := os) (X := fun w _ => laidMetH Tryd.prog laidL w) false (World.doorLaid Tryd.prog 34 os) #[.agg #[.int .i64 0, .slice none 0 0, .slice none 0 0, .string ByteArray.empty, .slice none 0 0, .int .i64 0]] 8 rfl (World.shaped_of_RefB (by kernel_rfl) (by kernel_rfl)) (by kernel_rfl) (by kernel_rfl) (by kernel_rfl) (door_met os _)) ?_
  intro W base args ds gs before hval0 hW hcnd hsz0 hL _
  have hsz : (DataW.weightsEach Tryd.prog (Tryd.f3.params.toList ++ Rows.fnExactAnswerTextSpec.plain.varTypes Tryd.prog) (ds ++ gs)).all (· ≤ reachBytes) = true := hsz0
  have hval : ∀ (j : Nat) t v, Tryd.f3.params[j]? = some t → args[j]? = some v → Value.okWide Tryd.prog W .any base t v := hval0
  have hW' := hW
  obtain ⟨p, q, hA0, hV, rfl, hfz, hnd⟩ := hW
  have hA : DataW.TrodAll enc Tryd.prog W 0 (fun _ => true) true Tryd.f3.params.toList args.toList ds p := hA0
  rw [Tryd.params3] at hA hval hsz
  obtain ⟨v0, vs0, d0, ds0, p0, q0, hargs, rfl, rfl, h0, r0⟩ := trodAll_cons hA
  obtain ⟨rfl, rfl, rfl⟩ := trodAll_nil r0
  obtain rfl : args = #[v0] := by cases args; simp_all
  obtain ⟨rfl, rfl⟩ := trodVars_none hV
  have lt0 := trod_lt_all h0
  have z0 := weights_arg hsz (j := 0) (t := 30) rfl rfl
  obtain ⟨y0, b0, c0⟩ := arg_rep (ty := T30) (n := 20) (ag := true) (by kernel_rfl) (by kernel_rfl) (hval 0 30 v0 rfl rfl) h0 z0
  obtain ⟨k, hp⟩ := laws_FnExactAnswerText.proved y0 b0
  have hrr : ((laws_FnExactAnswerText.con k).f [argC true T30 y0]).val = some ⟨[.val false [.leaf (.bool true)]], []⟩ := by
    refine (congrArg CR.val (go k y0)).trans ?_
    rw [hp]
    kernel_rfl
  refine (law_true (laws_FnExactAnswerText.ok k) hrr (globals hL) (vs := [v0]) (cargs_cons (c0 _) cargs_nil)).mono fun e W' ⟨he, bel0⟩ => ?_
  have bel : Below W.heap.size W W' := bel0
  subst he
  exact ⟨_, rfl, _, _, _, [], _, [], hW', trodAll_mk1 (shutB Tryd.underlying4 _), (trodAll_cons_mk (Below.trod laidOut (by kernel_rfl) (of_decide_eq_true (by kernel_rfl)) h0 bel lt0) trodAll_mk0), rfl, bel.frame _, fun h => by cases h⟩
theorem over : Rows.fnExactAnswerTextRow.holds Tryd.pinned (OpenSpec.ofChange Rows.fnExactAnswerTextSpec) :=
  OpenClaim.holds_of_wide 3 Tryd.f3 rfl rfl rfl rfl rfl rfl rfl ⟨rfl, rfl, rfl, rfl, rfl⟩ rfl rfl rfl rfl rfl (by kernel_rfl) Tryd.func3 (by kernel_rfl)
    (of_decide_eq_true (by kernel_rfl)) (by unfold Func.isWrapper; first | (rw [if_pos (by decide +kernel)]; kernel_rfl) | (rw [if_neg (by decide +kernel)]; exact ⟨rfl, rfl⟩))
    (fun os started H enc _ => lifted os started H enc)
theorem proved : Rows.FnExactAnswerTextSaid := over
theorem tied : Rows.FnExactAnswerTextCardSaid :=
  Claim7.holds_tied_plain_at .later [] [.data, .data, .data] true (true, "3b76345b23212d0e64de17c58e15c19faf894a4004afb61a50491fbd74a4d1f6") false
    proved (fun _ h => by cases h) (by kernel_rfl) (fun _ h => by cases h) fnExactAnswerText_row_tie rfl ⟨rfl, rfl⟩ (by kernel_rfl) rfl
    (fun f fn hf hfn => by
      obtain rfl : f = 3 := Option.some.inj ((show Tryd.prog.funcNamed "loop.example/g00668/laws.FnExactAnswerText" = some 3 by kernel_rfl).symm.trans hf) |>.symm
      obtain rfl : fn = Tryd.f3 := (Option.some.inj (Tryd.func3.symm.trans hfn)).symm
      exact ⟨by kernel_rfl, fun j t ht => by
        rw [Tryd.params3] at ht
        have hm : t ∈ [30] := by simpa using Array.mem_of_getElem? ht
        have hall : ([30].all fun u => !Tryd.prog.wantsStandIn u) = true := by kernel_rfl
        exact (show Tryd.prog.wantsStandIn t = false by simpa using List.all_eq_true.1 hall t hm)⟩)
    (by kernel_rfl)
end Go.Proofs.YtaajcllchbnjiaaDoor.fnExactAnswerText
namespace Go.Proofs.YtaajcllchbnjiaaDoor
/-- The tied card, under a short name, for the claim. -/
theorem fnExactAnswerText_card : Rows.FnExactAnswerTextCardSaid := fnExactAnswerText.tied
#print axioms fnExactAnswerText_card
end Go.Proofs.YtaajcllchbnjiaaDoor
