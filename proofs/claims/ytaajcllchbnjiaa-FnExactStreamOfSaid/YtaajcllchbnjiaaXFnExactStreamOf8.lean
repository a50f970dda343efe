/- What the law FnExactStreamOf needs, part 9 of 9: the Lean functions of the Go functions that it reaches, with the proofs that the calls come to what they say, and plain facts about them; the last theorem is the law. Conditions: those that each theorem states. Written by a session and by its programs (after the kit's printer). -/
import Derived.Test.YtaajcllchbnjiaaRows
import Derived.Carry
import Derived.Handed
import Derived.Test.YtaajcllchbnjiaaXFnExactStreamOf4
import Derived.Test.YtaajcllchbnjiaaXFnExactStreamOf6
import Derived.Test.YtaajcllchbnjiaaXFnExactStreamOf7
namespace Go.Proofs.YtaajcllchbnjiaaE
open Go
set_option linter.unusedVariables false
theorem iPutText (s : Str) (h : s.length ≤ 1000000) : Ever fun k => impl_putText k s = some (putTextOf s) := by
  refine (iPutNum (s.length : Int) (by constructor <;> omega)).mono fun k e => ?_
  have := putOf_len (s.length : Int)
  unfold impl_putText putTextOf
  rw [e]
  simp only [Option.bind_some]
  rw [cat_some (by omega)]
  rfl
theorem cat_loop {α : Type} (L : Nat → Nat → Str → Int → Option Str) (l : List α) (f : α → Str) (B M : Nat) (hB : ∀ x ∈ l, (f x).length ≤ B)
    (hs : ∀ i, (h : i < l.length) → Ever fun k => ∀ acc j, acc.length ≤ M → L k (j + 1) acc (i : Int) = L k j (acc ++ f l[i]) ((i + 1 : Nat) : Int))
    (he : ∀ k acc j, L k (j + 1) acc (l.length : Int) = some acc) (acc : Str) (ha : acc.length + B * l.length ≤ M) : Ever fun k => L k k acc 0 = some (acc ++ (l.map f).flatten) := by
  have hall : Ever fun k => ∀ i, i < l.length → ∀ (h : i < l.length) acc j, acc.length ≤ M → L k (j + 1) acc (i : Int) = L k j (acc ++ f l[i]) ((i + 1 : Nat) : Int) := Ever.all fun i hi => (hs i hi).mono fun k hk h => hk
  obtain ⟨K, hK⟩ := hall
  refine Ever.ge (K + l.length + 1) fun k hk => ?_
  have hK := hK k (by omega)
  have key : ∀ (d i : Nat) (acc : Str), i + d = l.length → acc.length + B * d ≤ M → ∀ j, d < j → L k j acc (i : Int) = some (acc ++ ((l.drop i).map f).flatten) := by
    intro d
    induction d with
    | zero =>
      intro i acc hi hacc j hj
      obtain ⟨j, rfl⟩ : ∃ q, j = q + 1 := ⟨j - 1, by omega⟩
      obtain rfl : i = l.length := by omega
      rw [he, List.drop_length]
      simp
    | succ d ih =>
      intro i acc hi hacc j hj
      obtain ⟨j, rfl⟩ : ∃ q, j = q + 1 := ⟨j - 1, by omega⟩
      have h : i < l.length := by omega
      have hf := hB _ (List.getElem_mem h)
      rw [Nat.mul_succ] at hacc
      rw [hK i h h acc j (by omega), ih (i + 1) _ (by omega) (by rw [List.length_append]; omega) j (by omega), List.drop_eq_getElem_cons h, List.map_cons, List.flatten_cons, List.append_assoc]
  have := key l.length 0 acc (Nat.zero_add _) ha k (by omega)
  rwa [List.drop_zero] at this
/-- A step's bytes, and its element in a stream. -/
def stepX (x : StepT) : Str := putOf x.1 ++ putOf x.2.1 ++ putOf x.2.2.1 ++ putTextOf x.2.2.2
def elX (x : StepT) : Str := putTextOf (sealOf (stepX x))
def NumS (x : StepT) : Prop := Num x.1 ∧ Num x.2.1 ∧ Num x.2.2.1
theorem stepX_len (x : StepT) (h : x.2.2.2.length ≤ 8) : (stepX x).length ≤ 48 := by
  have l1 := putOf_len x.1
  have l2 := putOf_len x.2.1
  have l3 := putOf_len x.2.2.1
  have l4 := putTextOf_len x.2.2.2
  unfold stepX
  simp only [List.length_append]
  omega
theorem elX_len (x : StepT) (h : x.2.2.2.length ≤ 8) : (elX x).length ≤ 62 := by
  have l1 := stepX_len x h
  have l2 := putTextOf_len (sealOf (stepX x))
  rw [sealOf_len] at l2
  unfold elX
  omega
theorem s06 (x : StepT) (hn : NumS x) (h : x.2.2.2.length ≤ 8) : Ever fun k => spec_l06Bytes k x = some (stepX x) := by
  have l1 := putOf_len x.1
  have l2 := putOf_len x.2.1
  have l3 := putOf_len x.2.2.1
  have l4 := putTextOf_len x.2.2.2
  refine (puts4 x.1 x.2.1 x.2.2.1 x.2.2.2 hn.1 hn.2.1 hn.2.2 (by omega)).mono fun k ⟨h1, h2, h3, h4⟩ => ?_
  unfold spec_l06Bytes stepX
  rw [h1, h2]
  simp only [Option.bind_some]
  rw [cat_some (by omega), h3]
  simp only [Option.bind_some]
  rw [cat_some (by simp; omega), h4]
  simp only [Option.bind_some]
  rw [cat_some (by simp; omega)]
  rfl
theorem puts3 (x y z : Int) : putsOf [x, y, z] = putOf x ++ putOf y ++ putOf z := by simp [putsOf]
theorem iStepX (x : StepT) (hn : NumS x) (h : x.2.2.2.length ≤ 8) : Ever fun k => impl_stepBytes k x = some (stepX x) := by
  have l1 := putOf_len x.1
  have l2 := putOf_len x.2.1
  have l3 := putOf_len x.2.2.1
  have l4 := putTextOf_len x.2.2.2
  refine ((iPutNums [x.1, x.2.1, x.2.2.1] (by
    intro n hm
    simp only [List.mem_cons, List.not_mem_nil, or_false] at hm
    rcases hm with rfl | rfl | rfl
    · exact hn.1
    · exact hn.2.1
    · exact hn.2.2) (by simp)).and (iPutText x.2.2.2 (by omega))).mono fun k ⟨h1, h2⟩ => ?_
  unfold impl_stepBytes stepX
  rw [h1, h2, puts3]
  simp only [Option.bind_some]
  rw [cat_some (by simp; omega)]
  rfl
theorem iHeadX (x y z : Int) (t : Str) (hx : Num x) (hy : Num y) (hz : Num z) (ht : t.length ≤ 8000) : Ever fun k => impl_headBytes k (x, (y, (z, t))) = some (sealOf (putOf x ++ putOf y ++ putOf z ++ putTextOf t)) := by
  have l1 := putOf_len x
  have l2 := putOf_len y
  have l3 := putOf_len z
  have l4 := putTextOf_len t
  refine (((iPutNums [x, y, z] (by
    intro n hm
    simp only [List.mem_cons, List.not_mem_nil, or_false] at hm
    rcases hm with rfl | rfl | rfl
    · exact hx
    · exact hy
    · exact hz) (by simp)).and (iPutText t (by omega))).and (iSeal (putOf x ++ putOf y ++ putOf z ++ putTextOf t) (by simp; omega))).mono fun k ⟨⟨h1, h2⟩, h3⟩ => ?_
  unfold impl_headBytes
  rw [h1, h2, puts3]
  simp only [Option.bind_some]
  rw [cat_some (by simp; omega)]
  simp only [Option.bind_some]
  rw [h3]
  rfl
def headX (p : PkgT) : Str := putTextOf (sealOf (putOf p.1 ++ putOf (p.2.2.length : Int) ++ putOf (slotsM (planM p.2.2)) ++ putTextOf p.2.1))
def streamM (p : PkgT) : Str := if agentB p = true then headX p ++ (p.2.2.map elX).flatten else []
theorem sStreamLoop (p : PkgT) (hl : p.2.2.length ≤ 20) (hx : ∀ x ∈ p.2.2, NumS x ∧ x.2.2.2.length ≤ 8) (acc : Str) (ha : acc.length ≤ 1000) : Ever fun k => spec_StreamOf.l0 k k p.1 p.2.1 p.2.2 acc 0 = some (acc ++ (p.2.2.map elX).flatten) := by
  refine cat_loop (fun k j acc i => spec_StreamOf.l0 k j p.1 p.2.1 p.2.2 acc i) p.2.2 elX 62 10000 (fun x h => elX_len x (hx x h).2) (fun i h => ?_) (fun k acc j => ?_) acc (by omega)
  · obtain ⟨q1, q2⟩ := hx _ (List.getElem_mem h)
    have l1 := stepX_len _ q2
    have l2 := elX_len _ q2
    refine (((s06 _ q1 q2).and (sSeal (stepX p.2.2[i]) (by omega))).and (sPutText (sealOf (stepX p.2.2[i])) (by rw [sealOf_len]; omega))).mono fun k ⟨⟨h1, h2⟩, h3⟩ acc j ha => ?_
    show spec_StreamOf.l0 k (j + 1) p.1 p.2.1 p.2.2 acc (i : Int) = spec_StreamOf.l0 k j p.1 p.2.1 p.2.2 (acc ++ elX p.2.2[i]) ((i + 1 : Nat) : Int)
    rw [spec_StreamOf.l0, dlt h, at_nat h, wsuc (by omega)]
    simp only [cond_true, Option.bind_some]
    rw [h1]
    simp only [Option.bind_some]
    rw [h2]
    simp only [Option.bind_some]
    rw [h3]
    simp only [Option.bind_some]
    unfold elX at l2
    rw [cat_some (by omega)]
    rfl
  · show spec_StreamOf.l0 k (j + 1) p.1 p.2.1 p.2.2 acc (p.2.2.length : Int) = some acc
    unfold spec_StreamOf.l0
    rw [dnlt (Nat.le_refl _)]
    rfl
theorem iStreamLoop (p : PkgT) (hl : p.2.2.length ≤ 20) (hx : ∀ x ∈ p.2.2, NumS x ∧ x.2.2.2.length ≤ 8) (acc : Str) (ha : acc.length ≤ 1000) : Ever fun k => impl_StreamOf.l0 k k acc p.2.2 (p.2.2.length : Int) 0 = some (acc ++ (p.2.2.map elX).flatten) := by
  refine cat_loop (fun k j acc i => impl_StreamOf.l0 k j acc p.2.2 (p.2.2.length : Int) i) p.2.2 elX 62 10000 (fun x h => elX_len x (hx x h).2) (fun i h => ?_) (fun k acc j => ?_) acc (by omega)
  · obtain ⟨q1, q2⟩ := hx _ (List.getElem_mem h)
    have l1 := stepX_len _ q2
    have l2 := elX_len _ q2
    refine (((iStepX _ q1 q2).and (iSeal (stepX p.2.2[i]) (by omega))).and (iPutText (sealOf (stepX p.2.2[i])) (by rw [sealOf_len]; omega))).mono fun k ⟨⟨h1, h2⟩, h3⟩ acc j ha => ?_
    show impl_StreamOf.l0 k (j + 1) acc p.2.2 (p.2.2.length : Int) (i : Int) = impl_StreamOf.l0 k j (acc ++ elX p.2.2[i]) p.2.2 (p.2.2.length : Int) ((i + 1 : Nat) : Int)
    rw [impl_StreamOf.l0, dlt h, at_nat h, wsuc (by omega)]
    simp only [cond_true, Option.bind_some]
    rw [h1]
    simp only [Option.bind_some]
    rw [h2]
    simp only [Option.bind_some]
    rw [h3]
    simp only [Option.bind_some]
    unfold elX at l2
    rw [cat_some (by omega)]
    rfl
  · show impl_StreamOf.l0 k (j + 1) acc p.2.2 (p.2.2.length : Int) (p.2.2.length : Int) = some acc
    unfold impl_StreamOf.l0
    rw [dnlt (Nat.le_refl _)]
    rfl
theorem pack_steps {p : PkgT} (h : packB p = true) (hn : ∀ x ∈ p.2.2, NumS x) : ∀ x ∈ p.2.2, NumS x ∧ x.2.2.2.length ≤ 8 := by
  intro x hx
  have h3 := (codeM_ok (packB_ok h).1).2.2.2.1 x hx
  exact ⟨hn x hx, stepB_data h3⟩
theorem headX_len {p : PkgT} (h : packB p = true) : (headX p).length ≤ 100 := by
  have l1 := putOf_len p.1
  have l2 := putOf_len (p.2.2.length : Int)
  have l3 := putOf_len (slotsM (planM p.2.2))
  have l4 := putTextOf_len p.2.1
  have h32 := (packB_ok h).2
  unfold headX
  refine Nat.le_trans (putTextOf_len _) ?_
  rw [sealOf_len]
  simp only [List.length_append]
  omega
theorem sStreamOf (p : PkgT) (hl : p.2.2.length ≤ 1048576) (hn : ∀ x ∈ p.2.2, NumS x) : Ever fun k => spec_StreamOf k p = some (streamM p) := by
  unfold streamM agentB
  cases hp : packB p with
  | false =>
    refine (sPackage p hl).mono fun k h => ?_
    unfold spec_StreamOf
    rw [h, hp]
    rfl
  | true =>
    cases ha : (decide (0 < p.2.2.length) && decide (slotsM (planM p.2.2) ≤ 4)) with
    | false =>
      refine ((sPackage p hl).and (sHeadOf p hp)).mono fun k ⟨h, h2⟩ => ?_
      unfold spec_StreamOf
      rw [h, hp, h2]
      simp only [Option.bind_some, Bool.not_true, cond_false]
      rw [headP_right p hp, ha]
      rfl
    | true =>
      obtain ⟨hc, h32⟩ := packB_ok hp
      obtain ⟨h20, h1, h8, _⟩ := codeM_ok hc
      have hs := slots_le (planM p.2.2)
      have hpl := planM_len _ h20 (codeM_to hc)
      have hb := sHeadBytes p.1 (p.2.2.length : Int) (slotsM (planM p.2.2)) p.2.1 (by constructor <;> omega) (by constructor <;> omega) (by constructor <;> omega) (by omega)
      have hr := headP_right p hp
      rw [ha] at hr
      have hr2 := hr
      unfold headP at hr2
      rw [sHead] at hr2
      rw [if_pos (Option.some.inj hr2)] at hb
      have hlen : (sealOf (putOf p.1 ++ putOf (p.2.2.length : Int) ++ putOf (slotsM (planM p.2.2)) ++ putTextOf p.2.1)).length ≤ 8000 := by
        have := headX_len hp
        unfold headX putTextOf at this
        rw [List.length_append] at this
        unfold putTextOf
        omega
      refine ((((((sPackage p hl).and (sHeadOf p hp)).and hb).and (sPutText _ hlen))).and (sStreamLoop p h20 (pack_steps hp hn) (headX p) (Nat.le_trans (headX_len hp) (by omega)))).mono fun k ⟨⟨⟨⟨h, h2⟩, h3⟩, h4⟩, h5⟩ => ?_
      unfold spec_StreamOf
      rw [h, hp, h2]
      simp only [Option.bind_some, Bool.not_true, cond_false]
      rw [hr]
      simp only [Option.bind_some, Bool.not_true, cond_false]
      unfold headP
      rw [h3]
      simp only [Option.bind_some]
      rw [h4]
      simp only [Option.bind_some]
      unfold headX at h5 ⊢
      rw [h5]
      rfl
theorem iStreamOf (p : PkgT) (hl : p.2.2.length ≤ 1048576) (hn : ∀ x ∈ p.2.2, NumS x) : Ever fun k => impl_StreamOf k p = some (streamM p) := by
  unfold streamM agentB
  cases hp : packB p with
  | false =>
    refine (iPackage p hl).mono fun k h => ?_
    unfold impl_StreamOf
    rw [h, hp]
    rfl
  | true =>
    obtain ⟨hc, h32⟩ := packB_ok hp
    obtain ⟨h20, h1, h8, _⟩ := codeM_ok hc
    have hs := slots_le (planM p.2.2)
    have hpl := planM_len _ h20 (codeM_to hc)
    have hlen : (sealOf (putOf p.1 ++ putOf (p.2.2.length : Int) ++ putOf (slotsM (planM p.2.2)) ++ putTextOf p.2.1)).length ≤ 8000 := by
      have := headX_len hp
      unfold headX putTextOf at this
      rw [List.length_append] at this
      unfold putTextOf
      omega
    refine ((((((iPackage p hl).and (iPlanOf p.2.2 h20 (codeM_to hc))).and (iHeadX p.1 (p.2.2.length : Int) (slotsM (planM p.2.2)) p.2.1 (by constructor <;> omega) (by constructor <;> omega) (by constructor <;> omega) (by omega))).and (iPutText _ (Nat.le_trans hlen (by omega)))).and (iStreamLoop p h20 (pack_steps hp hn) (headX p) (Nat.le_trans (headX_len hp) (by omega)))).and (Ever.ge 60 fun k hk => hk)).mono fun k ⟨⟨⟨⟨⟨h, h2⟩, h3⟩, h4⟩, h5⟩, h6⟩ => ?_
    unfold impl_StreamOf impl_size_impl_Step
    rw [h, hp]
    simp only [Option.bind_some, Bool.not_true, Bool.false_or]
    by_cases h0 : 0 < p.2.2.length
    · rw [show ((p.2.2.length : Int) == 0) = false by rw [beqd]; exact decide_eq_false (by omega), decide_eq_true h0, h2]
      simp only [cond_false, Option.bind_some]
      rw [iSlots _ (Nat.le_trans hpl (by omega)) k (by omega)]
      simp only [Option.bind_some]
      by_cases h4s : slotsM (planM p.2.2) ≤ 4
      · rw [decide_eq_false (by omega : ¬ (4 < slotsM (planM p.2.2))), decide_eq_true h4s, h3]
        simp only [cond_false, Option.bind_some]
        rw [h4]
        simp only [Option.bind_some]
        unfold headX at h5 ⊢
        rw [h5]
        rfl
      · rw [decide_eq_true (by omega : 4 < slotsM (planM p.2.2)), decide_eq_false h4s]
        rfl
    · rw [show ((p.2.2.length : Int) == 0) = true by rw [beqd]; exact decide_eq_true (by omega), decide_eq_false h0]
      rfl
end Go.Proofs.YtaajcllchbnjiaaE

namespace Go.Proofs.YtaajcllchbnjiaaE
open Go
def laws_FnExactStreamOf.Pure : Prop := ∀ (y0 : G24), Bnd T24 y0 → ∃ k : Nat, laws_FnExactStreamOf k y0 = some true
end Go.Proofs.YtaajcllchbnjiaaE

namespace Go.Proofs.YtaajcllchbnjiaaE
open Go
set_option linter.unusedVariables false
theorem laws_FnExactStreamOf.proved : laws_FnExactStreamOf.Pure := by
  intro p hp
  obtain ⟨v, hv, h1, h2⟩ := szPackage_ok p 1048576 hp (by omega) (by omega)
  by_cases h0 : v < 0
  · obtain ⟨k, hk⟩ := hv.ex
    refine ⟨k, ?_⟩
    unfold laws_FnExactStreamOf
    rw [hk]
    simp only [Option.bind_some]
    rw [decide_eq_true h0]
    rfl
  · obtain ⟨_, hl, _⟩ := h2 (by omega)
    have hl : p.2.2.length ≤ 1048576 := by omega
    have hn : ∀ x ∈ p.2.2, NumS x := fun x hx => by
      have hb := hp.2.2.2 x hx
      exact ⟨wf64 hb.1, wf64 hb.2.1, wf64 hb.2.2.1⟩
    obtain ⟨k, ⟨⟨⟨⟨g1, g2⟩, g3⟩, g4⟩, g5⟩⟩ := ((((hv.and (toPackage_eq p hl)).and (eqPackage_refl p hl)).and (sStreamOf p hl hn)).and (iStreamOf p hl hn)).ex
    refine ⟨k, ?_⟩
    unfold laws_FnExactStreamOf
    rw [g1]
    simp only [Option.bind_some]
    rw [decide_eq_false h0, g2]
    simp only [cond_false, Option.bind_some]
    rw [g4, g5]
    simp only [Option.bind_some, beq_self_eq_true, Bool.not_true, cond_false]
    rw [g3]
    rfl
end Go.Proofs.YtaajcllchbnjiaaE

namespace Go.Proofs.Ytaajcllchbnjiaa.fnExactStreamOf
open Go Go.ChangeShapes Go.WideShapes Go.ChangeAt Go.RowKit Go.Proofs.YtaajcllchbnjiaaE
set_option linter.unusedVariables false
theorem own : ownKnob Try.prog.godebug = none := by kernel_rfl
theorem laidOut : laidOutB Try.prog = true := by kernel_rfl
theorem go (k : Nat) (y0 : G24) : (laws_FnExactStreamOf.con k).f [argC true T24 y0] = .opt (Prod' laws_FnExactStreamOf.sig.outs) (laws_FnExactStreamOf k y0) laws_FnExactStreamOf.sig.enc := by kernel_rfl
set_option maxRecDepth 100000 in
theorem lifted (os : Os) (started : os.Started) (H : Type) (enc : TypeId × Value → H) :
    ReturnsInHanded {} Try.checked os 4 .any (Rows.fnExactStreamOfSpec.pre6 enc Try.prog Try.f4 Rows.fnExactStreamOfRow.domain false) (Rows.fnExactStreamOfSpec.post enc Try.prog Try.f4 false true false false) := by
  refine returnsInHanded_of_change_sized (C := Try.checked) own started (by kernel_rfl) Try.func4
    (ChangeSpec.witness6 (enc := enc) (C := Try.checked) false ⟨#[], #[.agg #[.int .i64 0, .string ByteArray.empty, .slice none 0 0]], []⟩ 8 (by kernel_rfl) (by kernel_rfl) (by kernel_rfl) (by kernel_rfl)) ?_
  intro W base args ds gs before hval0 hW hcnd hsz0 _
  have hsz : (DataW.weightsEach Try.prog (Try.f4.params.toList ++ Rows.fnExactStreamOfSpec.plain.varTypes Try.prog) (ds ++ gs)).all (· ≤ reachBytes) = true := hsz0
  have hval : ∀ (j : Nat) t v, Try.f4.params[j]? = some t → args[j]? = some v → Value.okWide Try.prog W .any base t v := hval0
  have hW' := hW
  obtain ⟨p, q, hA0, hV, rfl, hfz, hnd⟩ := hW
  have hA : DataW.TrodAll enc Try.prog W 0 (fun _ => true) true Try.f4.params.toList args.toList ds p := hA0
  rw [Try.params4] at hA hval hsz
  obtain ⟨v0, vs0, d0, ds0, p0, q0, hargs, rfl, rfl, h0, r0⟩ := trodAll_cons hA
  obtain ⟨rfl, rfl, rfl⟩ := trodAll_nil r0
  obtain rfl : args = #[v0] := by cases args; simp_all
  obtain ⟨rfl, rfl⟩ := trodVars_none hV
  have lt0 := trod_lt_all h0
  have z0 := weights_arg hsz (j := 0) (t := 24) rfl rfl
  obtain ⟨y0, b0, c0⟩ := arg_rep (ty := T24) (n := 20) (ag := true) (by kernel_rfl) (by kernel_rfl) (hval 0 24 v0 rfl rfl) h0 z0
  obtain ⟨k, hp⟩ := laws_FnExactStreamOf.proved y0 b0
  have hrr : ((laws_FnExactStreamOf.con k).f [argC true T24 y0]).val = some ⟨[.val false [.leaf (.bool true)]], []⟩ := by
    refine (congrArg CR.val (go k y0)).trans ?_
    rw [hp]
    kernel_rfl
  refine (law_true (laws_FnExactStreamOf.ok k) hrr (vs := [v0]) (cargs_cons (c0 _) cargs_nil)).mono fun e W' ⟨he, bel0⟩ => ?_
  have bel : Below W.heap.size W W' := bel0
  subst he
  exact ⟨_, rfl, _, _, _, [], _, [], hW', trodAll_mk1 (shutB Try.underlying4 _), (trodAll_cons_mk (Below.trod laidOut (by kernel_rfl) (of_decide_eq_true (by kernel_rfl)) h0 bel lt0) trodAll_mk0), rfl, bel.frame _, fun h => by cases h⟩
theorem over : Rows.fnExactStreamOfRow.holds Try.pinned (OpenSpec.ofChange Rows.fnExactStreamOfSpec) :=
  OpenClaim.holds_of_wide 4 Try.f4 rfl rfl rfl rfl rfl rfl rfl ⟨rfl, rfl, rfl, rfl, rfl⟩ rfl rfl rfl rfl rfl (by kernel_rfl) Try.func4 (by kernel_rfl)
    (of_decide_eq_true (by kernel_rfl)) (by unfold Func.isWrapper; first | (rw [if_pos (by decide +kernel)]; kernel_rfl) | (rw [if_neg (by decide +kernel)]; exact ⟨rfl, rfl⟩))
    (fun os started H enc _ => lifted os started H enc)
theorem proved : Rows.FnExactStreamOfSaid := over
end Go.Proofs.Ytaajcllchbnjiaa.fnExactStreamOf
namespace Go.Proofs.Ytaajcllchbnjiaa
/-- The row, under a short name, for the claim. -/
theorem fnExactStreamOf_holds : Rows.FnExactStreamOfSaid := fnExactStreamOf.proved
#print axioms fnExactStreamOf_holds
end Go.Proofs.Ytaajcllchbnjiaa
