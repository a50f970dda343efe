/- What the law FnExactScriptFault needs, part 6 of 11: the Lean functions of the Go functions that it reaches, with the proofs that the calls come to what they say, and plain facts about them. Conditions: those that each theorem states. Written by a session and by its programs (after the kit's printer). -/
import Derived.Laws.StructEq
import Derived.ChangeKeysEq
import Derived.OpenShut
import Derived.ChangeOld
import Derived.Below
import Derived.SizedLaws
import Derived.ChangeArms
import Derived.ChangeShapes
import Derived.WideShapes
import Derived.Lib.LaidTab
import Derived.Lib.AppendIntMem
import Derived.Handed
import Derived.HandedShaped
import Derived.Shelf.Vars
import Derived.LaidLaws
import Derived.Test.YtcnkbllbpimaiaaGreatDoorXFnExactScriptFault4
namespace Go.Proofs.YtcnkbllbpimaiaaGreatDoorE
open Go Go.RowKit
set_option linter.unusedVariables false
/-- From one state of memory to a later one, names aside. -/
structure Ext0 (ρ : Rho) (w : World) (ρ' : Rho) (w' : World) : Prop where
  os : w'.os = w.os
  tape : w'.tape = w.tape
  output : w'.output = w.output
  size : w.heap.size ≤ w'.heap.size
  keep : ∀ b, b < w.heap.size → (∀ i, ¬ owns (ρ i) b) → w'.heap[b]? = w.heap[b]?
  own : ∀ i b, owns (ρ' i) b → (∃ j, owns (ρ j) b) ∨ w.heap.size ≤ b
theorem Ext.ext0 {ρ ρ' : Rho} {w w' : World} (h : Ext ρ w ρ' w') : Ext0 ρ w ρ' w' := ⟨h.os, h.tape, h.output, h.size, h.keep, h.own⟩
theorem Ext0.refl (ρ : Rho) (w : World) : Ext0 ρ w ρ w := (Ext.refl ρ w).ext0
theorem Ext0.trans {ρ ρ1 ρ2 : Rho} {w w1 w2 : World} (h : Ext0 ρ w ρ1 w1) (k : Ext0 ρ1 w1 ρ2 w2) : Ext0 ρ w ρ2 w2 := by
  refine ⟨k.os.trans h.os, k.tape.trans h.tape, k.output.trans h.output, Nat.le_trans h.size k.size, ?_, ?_⟩
  · intro b hb hn
    refine (k.keep b (Nat.lt_of_lt_of_le hb h.size) (fun i hi => ?_)).trans (h.keep b hb hn)
    rcases h.own i b hi with ⟨j, hj⟩ | hj
    · exact hn j hj
    · omega
  · intro i b hi
    rcases k.own i b hi with ⟨j, hj⟩ | hj
    · exact h.own j b hj
    · exact .inr (Nat.le_trans h.size hj)
/-- The same world, fewer rows. -/
theorem Ext0.less {ρ ρ1 ρ2 : Rho} {w w1 : World} (h : Ext0 ρ w ρ1 w1) (k : ∀ i b, owns (ρ2 i) b → ∃ j, owns (ρ1 j) b) : Ext0 ρ w ρ2 w1 :=
  ⟨h.os, h.tape, h.output, h.size, h.keep, fun i b hi => by
    obtain ⟨j, hj⟩ := k i b hi
    exact h.own j b hj⟩
def OutP : (os : List (Ex × Shape)) → Outs os → (Ex → (sh : Shape) → Prod' sh.tys → Prop) → Prop
  | [], y, _ => nomatch y
  | [o], y, Q => Q o.1 o.2 y
  | o :: o' :: os, y, Q => match y with
    | .inl y => Q o.1 o.2 y
    | .inr y => OutP (o' :: os) y Q
/-- What is shown of a summary, in its own shapes. -/
def SumIn (P : Program) (c : Code) (s : Summ) : Prop :=
  ∀ (X : Nat → Prop) (ρ : Rho) (x : Prod' s.ish.tys) (y : Outs s.outs) (a : Act) (w : World), s.f x = some y → Rel X ρ (mk s.ish s.n x) a w → (∀ i ∈ boxIds s.ish.slots, Live (ρ i)) → (∀ i, i ∉ s.ish.slots.map (·.1) → ρ i = none) →
    ∀ Q : Exit → Act → World → Prop, OutP s.outs y (fun e sh y' => ∀ ρ' a' w', Rel X ρ' (mk sh s.n y') a' w' → Ext0 ρ w ρ' w' → (∀ i ∈ boxIds sh.slots, i ∈ boxIds s.ish.slots → ρ' i = ρ i) → (∀ i, i ∉ sh.slots.map (·.1) → ρ' i = none) → SameBut (dsts c) a a' → Q (exOf e) a' w') → c.wp P Q a w
section
variable {P : Program} {X X' : Nat → Prop} {ρ ρ' : Rho} {st st' : St} {a : Act} {w w' : World} {R : Type} {r : R} {C : Ctx} {m : List (Nat × Nat)} {sh : Shape}
theorem beq_ex {e e' : Ex} (h : e.beq e' = true) : e = e' := by
  cases e <;> cases e' <;> first
    | rfl
    | cases h
    | (rw [Nat.eq_of_beq_eq_true h])
theorem rd_some {x : Prod' sh.tys} (h : rd sh st = some x) : ∃ ds m, rdAll sh st = some (ds, m) ∧ toProd sh.tys ds = some x := by
  unfold rd at h
  split at h
  · rename_i ds m hr
    exact ⟨ds, m, hr, h⟩
  · cases h
/-- A state read by a shape, in the same world. -/
theorem rd_same (h : Rel X ρ st a w) (hok : shOk sh = true) {x : Prod' sh.tys} (hx : rd sh st = some x) :
    ∃ ρ' : Rho, Rel X ρ' (mk sh st.n x) a w ∧ (∀ i ∈ boxIds sh.slots, ρ' i = ρ i) ∧ (∀ i ∈ boxIds sh.slots, Live (ρ i)) ∧ (∀ i, i ∉ sh.slots.map (·.1) → ρ' i = none) ∧ ∀ i b, owns (ρ' i) b → ∃ j, owns (ρ j) b := by
  obtain ⟨ds, m, hr, hp⟩ := rd_some hx
  obtain ⟨ρ', k1, k2, k3, k4⟩ := rd_sound h hok hr hp (fun _ hb => hb) h.xlt (fun b hb => .inl hb)
  refine ⟨ρ', k1, k2, ?_, k3, fun i b hb => ?_⟩
  · exact rd_live h hr
  · obtain ⟨j, _, hj⟩ := k4 i b hb
    exact ⟨j, hj⟩
theorem rdOut_P : ∀ {os : List (Ex × Shape)} {e : Ex} {y : Outs os} {Q : Ex → (sh : Shape) → Prod' sh.tys → Prop}, rdOut e st os = some y → OutP os y Q → ∃ o ∈ os, o.1 = e ∧ ∃ y', rd o.2 st = some y' ∧ Q o.1 o.2 y'
  | [], e, y, Q, h, _ => by cases h
  | [o], e, y, Q, h, hq => by
    have h : (bif o.1.beq e then rd o.2 st else none) = some y := h
    cases he : o.1.beq e with
    | false => rw [he] at h; cases h
    | true =>
      rw [he] at h
      exact ⟨o, List.mem_cons_self, beq_ex he, y, h, hq⟩
  | o :: o' :: os, e, y, Q, h, hq => by
    replace h : (bif o.1.beq e then (match rd o.2 st with
      | some y => some (.inl y)
      | none => none) else match rdOut e st (o' :: os) with
      | some y => some (.inr y)
      | none => none) = some y := h
    cases he : o.1.beq e with
    | true =>
      rw [he] at h
      replace h : (match rd o.2 st with
        | some y => some (.inl y)
        | none => none : Option (Prod' o.2.tys ⊕ Outs (o' :: os))) = some y := h
      split at h
      · rename_i y' hy'
        cases h
        exact ⟨o, List.mem_cons_self, beq_ex he, y', hy', hq⟩
      · cases h
    | false =>
      rw [he] at h
      replace h : (match rdOut e st (o' :: os) with
        | some y => some (.inr y)
        | none => none : Option (Prod' o.2.tys ⊕ Outs (o' :: os))) = some y := h
      split at h
      · rename_i y' hy'
        cases h
        obtain ⟨p, hp, h1, h2⟩ := rdOut_P hy' hq
        exact ⟨p, List.mem_cons_of_mem _ hp, h1, h2⟩
      · cases h
/-- The end of a piece of code, read by an end's shape. -/
theorem out_ok {s : Summ} (hok : s.ok = true) {c : Code} {ρ0 : Rho} {a0 : Act} {w0 : World} (hbox : ∀ i ∈ boxIds s.ish.slots, Live (ρ0 i)) {y : Outs s.outs} {Q : Exit → Act → World → Prop}
    (hq : OutP s.outs y (fun e sh y' => ∀ ρ' a' w', Rel X ρ' (mk sh s.n y') a' w' → Ext0 ρ0 w0 ρ' w' → (∀ i ∈ boxIds sh.slots, i ∈ boxIds s.ish.slots → ρ' i = ρ0 i) → (∀ i, i ∉ sh.slots.map (·.1) → ρ' i = none) → SameBut (dsts c) a0 a' → Q (exOf e) a' w'))
    {e : Ex} (h : Rel X ρ st a w) (hn : st.n = s.n) (hr : rdOut e st s.outs = some y) (hx : Ext0 ρ0 w0 ρ w) (hkeep : ∀ i ∈ boxIds s.ish.slots, Live (ρ i) → ρ i = ρ0 i) (hs : SameBut (dsts c) a0 a) : Q (exOf e) a w := by
  obtain ⟨o, ho, he, y', hy', hQ⟩ := rdOut_P hr hq
  have hsh : shOk o.2 = true := by
    unfold Summ.ok at hok
    have := List.all_eq_true.1 ((Bool.and_eq_true _ _).mp hok).2 o ho
    exact ((Bool.and_eq_true _ _).mp this).2
  obtain ⟨ρ', k1, k2, k3, k4, k5⟩ := rd_same h hsh hy'
  rw [hn] at k1
  rw [← he]
  refine hQ ρ' a w k1 (hx.less k5) ?_ k4 hs
  intro i hi hi2
  rw [k2 i hi]
  exact hkeep i hi2 (k3 i hi)
theorem keep_box {ρ0 ρ1 : Rho} {w0 w1 : World} {i : Nat} (hbox : Live (ρ0 i)) (x : Ext ρ0 w0 ρ1 w1) (h : Live (ρ1 i)) : ρ1 i = ρ0 i := by
  rcases hbox with ⟨g, hg⟩ | ⟨u, hg⟩
  · rcases x.conc i _ hg with k | k | ⟨v, k, _⟩
    · rw [k, hg]
    · rcases h with ⟨g', hg'⟩ | ⟨v', hg'⟩ <;> (rw [k] at hg'; cases hg')
    · cases k
  · rcases x.conc i _ hg with k | k | ⟨v, _, k⟩
    · rw [k, hg]
    · rcases h with ⟨g', hg'⟩ | ⟨v', hg'⟩ <;> (rw [k] at hg'; cases hg')
    · rcases h with ⟨g', hg'⟩ | ⟨v', hg'⟩ <;> (rw [k] at hg'; cases hg')
/-- A summary of code that is no loop. -/
theorem sum_code (H : CtxOk P C) {c : Code} {p : Plan} {s : Summ} (hok : s.ok = true) (hp : PlanOk P C p c) (hev : ∀ x y, s.f x = some y → V C p c (mk s.ish s.n x) (fun e st' => rdOut e st' s.outs) = some y) : SumIn P c s := by
  intro X ρ x y a w hf h hbox hnone Q hq
  refine V_sound H c hp h (hev x y hf) Q ?_
  intro e ρ1 st1 a1 w1 k1 k2 k3 k4 k5
  exact out_ok hok hbox hq k2 k4 k1 k3.ext0 (fun i hi hb => keep_box (hbox i hi) k3 hb) k5
theorem least {p : Nat → Prop} : ∀ (n : Nat), p n → ∃ k, p k ∧ ∀ j, j < k → ¬ p j := by
  intro n
  induction n using Nat.strongRecOn with
  | _ n ih =>
    intro hn
    by_cases h : ∃ j, j < n ∧ p j
    · obtain ⟨j, hj, hp⟩ := h
      exact ih j hj hp
    · exact ⟨n, hn, fun j hj hp => h ⟨j, hj, hp⟩⟩
open Classical in
/-- A summary of a loop: its function tells each round out of the round's text. -/
theorem sum_loop (H : CtxOk P C) {c : Code} {p : Plan} {s : Summ} {F : Nat → Prod' s.ish.tys → Option (Outs s.outs)} (hok : s.ok = true) (hp : PlanOk P C p c) (h0 : ∀ x, F 0 x = none)
    (hev : ∀ k x y, F (k + 1) x = some y → V C p c (mk s.ish s.n x) (fun e st' => match e with
      | .nrm => (rd s.ish st').bind (F k)
      | e => rdOut e st' s.outs) = some y) (k : Nat) (hsf : s.f = F k) : SumIn P (.loop c) s := by
  intro X ρ0 x0 y a0 w0 hf0 hrel0 hbox hnone Q hq
  rw [hsf] at hf0
  have hsh : shOk s.ish = true := by
    unfold Summ.ok at hok
    exact ((Bool.and_eq_true _ _).mp hok).1
  let J : Nat → Act → World → Prop := fun k a w => ∃ x ρ, F k x = some y ∧ Rel X ρ (mk s.ish s.n x) a w ∧ Ext0 ρ0 w0 ρ w ∧ (∀ i ∈ boxIds s.ish.slots, ρ i = ρ0 i) ∧ SameBut (dsts c) a0 a
  let μ : Act → World → Nat := fun a w => if h : ∃ k, J k a w then Classical.choose (least (p := fun k => J k a w) (Classical.choose h) (Classical.choose_spec h)) else 0
  have hμ : ∀ a w, (∃ k, J k a w) → J (μ a w) a w ∧ ∀ j, J j a w → μ a w ≤ j := by
    intro a w h
    have e : μ a w = Classical.choose (least (p := fun k => J k a w) (Classical.choose h) (Classical.choose_spec h)) := by
      show (if h : ∃ k, J k a w then _ else 0) = _
      rw [dif_pos h]
    have sp := Classical.choose_spec (least (p := fun k => J k a w) (Classical.choose h) (Classical.choose_spec h))
    rw [e]
    exact ⟨sp.1, fun j hj => Nat.le_of_not_lt fun hlt => sp.2 j hlt hj⟩
  refine wp_loop (fun a w => ∃ k, J k a w) μ ⟨k, x0, ρ0, hf0, hrel0, Ext0.refl _ _, fun _ _ => rfl, SameBut.refl _ _⟩ ?_
  intro a w hI
  obtain ⟨hJ, hmin⟩ := hμ a w hI
  generalize hk : μ a w = k1 at hJ
  obtain ⟨x, ρ, hfx, hrel, hx, hb, hs⟩ := hJ
  cases k1 with
  | zero => rw [h0] at hfx; cases hfx
  | succ k1 =>
    refine V_sound H c hp hrel (hev k1 x y hfx) _ ?_
    intro e ρ1 st1 a1 w1 m1 m2 m3 m4 m5
    have hbk : ∀ i ∈ boxIds s.ish.slots, Live (ρ1 i) → ρ1 i = ρ0 i := fun i hi hg => by
      rw [← hb i hi]
      exact keep_box (by rw [hb i hi]; exact hbox i hi) m3 hg
    have other : ∀ e, (rdOut e st1 s.outs = some y) → Q (exOf e) a1 w1 := fun e hr => out_ok (c := .loop c) hok hbox hq m2 m4 hr (hx.trans m3.ext0) hbk (hs.trans m5)
    cases e with
    | nrm =>
      cases hrd : rd s.ish st1 with
      | none => rw [hrd] at m1; cases m1
      | some x' =>
        rw [hrd] at m1
        have m1 : F k1 x' = some y := m1
        obtain ⟨ρ', q1, q2, q3, q4, q5⟩ := rd_same m2 hsh hrd
        rw [m4] at q1
        have hJ' : J k1 a1 w1 := ⟨x', ρ', m1, q1, (hx.trans m3.ext0).less q5, fun i hi => by rw [q2 i hi]; exact hbk i hi (q3 i hi), hs.trans m5⟩
        refine ⟨⟨k1, hJ'⟩, ?_⟩
        have := (hμ a1 w1 ⟨k1, hJ'⟩).2 k1 hJ'
        omega
    | exit j => exact other (.exit j) m1
    | ret => exact other .ret m1
end
end Go.Proofs.YtcnkbllbpimaiaaGreatDoorE

namespace Go.Proofs.YtcnkbllbpimaiaaGreatDoorE
open Go Go.RowKit
set_option linter.unusedVariables false
section
variable {P : Program} {X X' : Nat → Prop} {ρ ρ' : Rho} {st st' : St} {a : Act} {w w' : World} {R : Type} {r : R} {C : Ctx} {m : List (Nat × Nat)} {sh : Shape}
theorem V_sum (C : Ctx) (s : Summ) (c : Code) (st : St) (K : Ex → St → Option R) : V C (.sum s) c st K = (bif plainB st && Nat.beq st.n s.n && (Nat.ble st.nb s.ish.nb && (pureSlots s.ish (frzAll st (pureSlots s.ish st))).isEmpty) then match rd s.ish (frzAll st (pureSlots s.ish st)) with
      | some x => (s.f x).bind fun y => outK (dsts c) (usedSlots s.ish (frzAll st (pureSlots s.ish st))) (frzAll st (pureSlots s.ish st)) K s.outs y
      | none => none
    else none) := by
  cases c <;> rfl
theorem frzAll_ok : ∀ (os : List Nat) {ρ : Rho} {st : St}, Rel X ρ st a w → ∃ ρ1, Rel X ρ1 (frzAll st os) a w ∧ Ext ρ w ρ1 w ∧ (frzAll st os).n = st.n ∧ (frzAll st os).nb = st.nb ∧ (frzAll st os).lim = st.lim ∧ (frzAll st os).res = st.res
  | [], ρ, st, h => ⟨ρ, h, Ext.refl _ _, rfl, rfl, rfl, rfl⟩
  | o :: os, ρ, st, h => by
    have one : ∃ ρ1, Rel X ρ1 (frzOne st o) a w ∧ Ext ρ w ρ1 w ∧ (frzOne st o).n = st.n ∧ (frzOne st o).nb = st.nb ∧ (frzOne st o).lim = st.lim ∧ (frzOne st o).res = st.res := by
      unfold frzOne
      split
      · rename_i z e t l he
        cases hm : isMap e with
        | true => exact ⟨ρ, h, Ext.refl _ _, rfl, rfl, rfl, rfl⟩
        | false =>
        obtain ⟨u, hu, h1, h2, _⟩ := h.freeze he hm
        exact ⟨_, h1, h2, rfl, rfl, rfl, rfl⟩
      · exact ⟨ρ, h, Ext.refl _ _, rfl, rfl, rfl, rfl⟩
    obtain ⟨ρ1, h1, e1, n1, b1, l1, r1⟩ := one
    obtain ⟨ρ2, h2, e2, n2, b2, l2, r2⟩ := frzAll_ok os h1
    exact ⟨ρ2, h2, e1.trans e2, n2.trans n1, b2.trans b1, l2.trans l1, r2.trans r1⟩
/-! ### overlays -/
theorem mkTs_over : ∀ (ks : List (Nat × TK)) (ds : List DV) (ts : List AV), (mkTs ks ds ts).2 = (mkTs ks ds []).2 ∧ ∀ j, getL .unk (mkTs ks ds ts).1 j = if j ∈ ks.map (·.1) then getL .unk (mkTs ks ds []).1 j else getL .unk ts j
  | [], ds, ts => ⟨rfl, fun j => by simp [mkTs]⟩
  | (i, k) :: ks, ds, ts => by
    obtain ⟨a1, a2⟩ := mkTs_over ks (mkT k ds).2 (setL .unk ts i (mkT k ds).1)
    obtain ⟨b1, b2⟩ := mkTs_over ks (mkT k ds).2 (setL .unk [] i (mkT k ds).1)
    refine ⟨a1.trans b1.symm, fun j => ?_⟩
    show getL .unk (mkTs ks (mkT k ds).2 (setL .unk ts i (mkT k ds).1)).1 j = if j ∈ i :: ks.map (·.1) then getL .unk (mkTs ks (mkT k ds).2 (setL .unk [] i (mkT k ds).1)).1 j else getL .unk ts j
    rw [a2 j, b2 j, getL_setL, getL_setL]
    by_cases h1 : j ∈ ks.map (·.1)
    · rw [if_pos h1, if_pos (List.mem_cons_of_mem _ h1), if_pos h1]
    · rw [if_neg h1]
      by_cases h2 : i = j
      · subst h2
        rw [if_pos rfl, if_pos List.mem_cons_self, if_neg h1, if_pos rfl]
      · rw [if_neg h2, if_neg (fun hm => by
          rcases List.mem_cons.1 hm with e | hm
          · exact h2 e.symm
          · exact h1 hm)]
theorem mkBs_over : ∀ (ss : List (Nat × BK)) (ds : List DV) (hs : List Ent), ∀ j, getL .free (mkBs ss ds hs) j = if j ∈ ss.map (·.1) then getL .free (mkBs ss ds []) j else getL .free hs j
  | [], ds, hs, j => by simp [mkBs]
  | (i, k) :: ss, ds, hs, j => by
    show getL .free (mkBs ss (mkB k ds).2 (setL .free hs i (mkB k ds).1)) j = if j ∈ i :: ss.map (·.1) then getL .free (mkBs ss (mkB k ds).2 (setL .free [] i (mkB k ds).1)) j else getL .free hs j
    rw [mkBs_over ss _ _ j, mkBs_over ss _ (setL .free [] i _) j, getL_setL, getL_setL]
    by_cases h1 : j ∈ ss.map (·.1)
    · rw [if_pos h1, if_pos (List.mem_cons_of_mem _ h1), if_pos h1]
    · rw [if_neg h1]
      by_cases h2 : i = j
      · subst h2
        rw [if_pos rfl, if_pos List.mem_cons_self, if_neg h1, if_pos rfl]
      · rw [if_neg h2, if_neg (fun hm => by
          rcases List.mem_cons.1 hm with e | hm
          · exact h2 e.symm
          · exact h1 hm)]
theorem dropT_get : ∀ (ds : List Nat) (ts : List AV) (j : Nat), getL .unk (dropT ds ts) j = if j ∈ ds then .unk else getL .unk ts j
  | [], ts, j => by simp [dropT]
  | d :: ds, ts, j => by
    show getL .unk (dropT ds (setL .unk ts d .unk)) j = _
    rw [dropT_get ds, getL_setL]
    by_cases h1 : j ∈ ds
    · rw [if_pos h1, if_pos (List.mem_cons_of_mem _ h1)]
    · rw [if_neg h1]
      by_cases h2 : d = j
      · subst h2; rw [if_pos rfl, if_pos List.mem_cons_self]
      · rw [if_neg h2, if_neg (fun hm => by
          rcases List.mem_cons.1 hm with e | hm
          · exact h2 e.symm
          · exact h1 hm)]
theorem dropB_get : ∀ (ds : List Nat) (hs : List Ent) (j : Nat), getL .free (dropB ds hs) j = if j ∈ ds then .free else getL .free hs j
  | [], hs, j => by simp [dropB]
  | d :: ds, hs, j => by
    show getL .free (dropB ds (setL .free hs d .free)) j = _
    rw [dropB_get ds, getL_setL]
    by_cases h1 : j ∈ ds
    · rw [if_pos h1, if_pos (List.mem_cons_of_mem _ h1)]
    · rw [if_neg h1]
      by_cases h2 : d = j
      · subst h2; rw [if_pos rfl, if_pos List.mem_cons_self]
      · rw [if_neg h2, if_neg (fun hm => by
          rcases List.mem_cons.1 hm with e | hm
          · exact h2 e.symm
          · exact h1 hm)]
/-! ### the same facts under another naming -/
/-- Nothing borrowed. -/
def Leaf.nb : Leaf → Prop
  | .bor _ _ => False
  | .rp _ _ => False
  | _ => True
def AV.nb : AV → Prop
  | .one x => x.nb
  | .agg xs => ∀ x ∈ xs, x.nb
  | .tup xs => ∀ p ∈ xs, ∀ x ∈ p.2, x.nb
  | .eptr _ => False
  | .full _ _ => False
  | .fn _ xs => ∀ x ∈ xs, x.nb
  | _ => True
def Ent.nb : Ent → Prop
  | .box _ xs => ∀ x ∈ xs, x.nb
  | _ => True
theorem nb_leaves : ∀ (t : Ty) (x : t.T), ∀ y ∈ leaves t x, y.nb
  | .int _, _, y, h => by rw [List.mem_singleton.1 h]; trivial
  | .bool, _, y, h => by rw [List.mem_singleton.1 h]; trivial
  | .str, _, y, h => by rw [List.mem_singleton.1 h]; trivial
  | .sl _, _, y, h => by rw [List.mem_singleton.1 h]; trivial
  | .pair a b, x, y, h => (List.mem_append.1 h).elim (nb_leaves a x.1 y) (nb_leaves b x.2 y)
  | .unit, _, y, h => nomatch h
theorem nb_one1 {xs : List Leaf} (h : ∀ y ∈ xs, y.nb) : (one1 xs).nb := by
  unfold one1
  split
  · exact h _ List.mem_cons_self
  · trivial
theorem nb_mkLeaf {k : LK} (h : k.nb = true) (ds : List DV) : (mkLeaf k ds).1.nb := by
  cases k with
  | v t => cases ds with
    | nil => trivial
    | cons d ds => exact nb_one1 (nb_leaves d.1 d.2)
  | bor t => cases h
  | rp t => cases h
  | _ => trivial
theorem nb_mkLeaves : ∀ {ks : List LK} (h : ks.all LK.nb = true) (ds : List DV), ∀ x ∈ (mkLeaves ks ds).1, x.nb
  | [], _, _, x, hx => nomatch hx
  | k :: ks, h, ds, x, hx => by
    obtain ⟨h1, h2⟩ := (Bool.and_eq_true _ _).mp (show (k.nb && ks.all LK.nb) = true from h)
    rcases List.mem_cons.1 hx with rfl | hx
    · exact nb_mkLeaf h1 ds
    · exact nb_mkLeaves h2 _ x hx
theorem nb_mkT {k : TK} (h : k.nb = true) (ds : List DV) : (mkT k ds).1.nb := by
  cases k with
  | one k => exact nb_mkLeaf h ds
  | agg ks => exact nb_mkLeaves h ds
  | eptr ks => cases h
  | fn f ks => exact nb_mkLeaves h ds
theorem nb_mkTs : ∀ {ks : List (Nat × TK)} (h : (ks.all fun p => p.2.nb) = true) (ds : List DV) (ts : List AV), (∀ j, (getL .unk ts j).nb) → ∀ j, (getL .unk (mkTs ks ds ts).1 j).nb
  | [], _, ds, ts, ht, j => ht j
  | (i, k) :: ks, h, ds, ts, ht, j => by
    obtain ⟨h1, h2⟩ := (Bool.and_eq_true _ _).mp (show (k.nb && ks.all fun p => p.2.nb) = true from h)
    refine nb_mkTs h2 _ _ (fun j => ?_) j
    rw [getL_setL]
    split
    · exact nb_mkT h1 ds
    · exact ht j
theorem nb_mkB {k : BK} (h : k.nb = true) (ds : List DV) : (mkB k ds).1.nb := by
  cases k with
  | box t ks => exact nb_mkLeaves h ds
  | arr z e t => cases ds with
    | nil => trivial
    | cons d ds =>
      show (mkArr z e t d).nb
      unfold mkArr
      split
      · split <;> trivial
      · trivial
  | pin e t => cases ds with
    | nil => trivial
    | cons d ds =>
      show (mkArr false e t d).nb
      unfold mkArr
      split
      · split <;> trivial
      · trivial
theorem nb_mkBs : ∀ {ks : List (Nat × BK)} (h : (ks.all fun p => p.2.nb) = true) (ds : List DV) (hs : List Ent), (∀ j, (getL .free hs j).nb) → ∀ j, (getL .free (mkBs ks ds hs) j).nb
  | [], _, ds, hs, ht, j => ht j
  | (i, k) :: ks, h, ds, hs, ht, j => by
    obtain ⟨h1, h2⟩ := (Bool.and_eq_true _ _).mp (show (k.nb && ks.all fun p => p.2.nb) = true from h)
    refine nb_mkBs h2 _ _ (fun j => ?_) j
    rw [getL_setL]
    split
    · exact nb_mkB h1 ds
    · exact ht j
theorem LeafOk.conv (hρ : ∀ n c, ρ n = some c → ρ' n = some c) (hF : ∀ b, Fix X ρ w b → Fix X' ρ' w b) {x : Leaf} {v : Value} (hb : x.nb) (h : LeafOk X ρ w x v) : LeafOk X' ρ' w x v := by
  cases x with
  | list r l => exact Rep.move (fun b hb => ⟨rfl, hF b hb⟩) h
  | bor r l => exact hb.elim
  | rp t y => exact hb.elim
  | own n =>
    refine ⟨h.1, ?_⟩
    have h2 := h.2
    cases hn : ρ n with
    | none => rw [hn] at h2; exact h2.elim
    | some c => rw [hn] at h2; rw [hρ n c hn]; exact h2
  | ptr b off =>
    refine ⟨h.1, ?_⟩
    have h2 := h.2
    cases hn : ρ b with
    | none => rw [hn] at h2; exact h2.elim
    | some c => rw [hn] at h2; rw [hρ b c hn]; exact h2
  | _ => exact h
theorem LeavesOk.conv (hρ : ∀ n c, ρ n = some c → ρ' n = some c) (hF : ∀ b, Fix X ρ w b → Fix X' ρ' w b) : ∀ {xs : List Leaf} {vs : List Value}, (∀ x ∈ xs, x.nb) → LeavesOk X ρ w xs vs → LeavesOk X' ρ' w xs vs
  | [], [], _, _ => trivial
  | x :: _, _ :: _, hb, h => ⟨h.1.conv hρ hF (hb x List.mem_cons_self), LeavesOk.conv hρ hF (fun y hy => hb y (List.mem_cons_of_mem _ hy)) h.2⟩
  | [], _ :: _, _, h => h.elim
  | _ :: _, [], _, h => h.elim
theorem CompsOk.conv (hρ : ∀ n c, ρ n = some c → ρ' n = some c) (hF : ∀ b, Fix X ρ w b → Fix X' ρ' w b) : ∀ {xs : List (Bool × List Leaf)} {vs : List Value}, (∀ p ∈ xs, ∀ x ∈ p.2, x.nb) → CompsOk X ρ w xs vs → CompsOk X' ρ' w xs vs
  | [], [], _, _ => trivial
  | x :: _, _ :: _, hb, h => by
    refine ⟨?_, CompsOk.conv hρ hF (fun y hy => hb y (List.mem_cons_of_mem _ hy)) h.2⟩
    have hb1 := hb x List.mem_cons_self
    have h1 := h.1
    unfold CompOk at h1 ⊢
    split
    · rename_i hx
      rw [if_pos hx] at h1
      obtain ⟨cs, rfl, h1⟩ := h1
      exact ⟨cs, rfl, h1.conv hρ hF hb1⟩
    · rename_i hx
      rw [if_neg hx] at h1
      exact h1.conv hρ hF hb1
  | [], _ :: _, _, h => h.elim
  | _ :: _, [], _, h => h.elim
theorem AvOk.conv (hρ : ∀ n c, ρ n = some c → ρ' n = some c) (hF : ∀ b, Fix X ρ w b → Fix X' ρ' w b) {x : AV} {v : Value} (hb : x.nb) (h : AvOk X ρ w x v) : AvOk X' ρ' w x v := by
  cases x with
  | unk => trivial
  | undef => exact h
  | one x => exact LeafOk.conv hρ hF hb h
  | agg xs => obtain ⟨cs, rfl, h⟩ := h; exact ⟨cs, rfl, h.conv hρ hF hb⟩
  | tup xs => obtain ⟨cs, rfl, h⟩ := h; exact ⟨cs, rfl, h.conv hρ hF hb⟩
  | eptr xs => exact hb.elim
  | full r l => exact hb.elim
  | aptr n i z off =>
    have h : AptrOk (ρ n) i z off v := h
    show AptrOk (ρ' n) i z off v
    cases hn : ρ n with
    | none => rw [hn] at h; exact h.elim
    | some c => rw [hn] at h; rw [hρ n c hn]; exact h
  | tl n i z =>
    have h : TlOk (ρ n) i z v := h
    show TlOk (ρ' n) i z v
    cases hn : ρ n with
    | none => rw [hn] at h; exact h.elim
    | some c => rw [hn] at h; rw [hρ n c hn]; exact h
  | fn f xs => obtain ⟨cs, rfl, h⟩ := h; exact ⟨cs, rfl, h.conv hρ hF hb⟩
  | gd t b x => exact h.elim
theorem EntOk.conv (hρ : ∀ n c, ρ n = some c → ρ' n = some c) (hF : ∀ b, Fix X ρ w b → Fix X' ρ' w b) {e : Ent} {c : Option Conc} (hb : e.nb) (h : EntOk X ρ w e c) : EntOk X' ρ' w e c := by
  cases e with
  | free => trivial
  | box t xs => obtain ⟨g, cs, fr, h0, h1, h2, h3⟩ := h; exact ⟨g, cs, fr, h0, h1, h2, h3.conv hρ hF hb⟩
  | arr z e t l => obtain ⟨v, h0, h1⟩ := h; exact ⟨v, h0, h1.mono hF⟩
  | frz t l => obtain ⟨v, h0, h1⟩ := h; exact ⟨v, h0, Rep.move (fun b hb => ⟨rfl, hF b hb⟩) h1⟩
theorem outK_P {ds us : List Nat} {K : Ex → St → Option R} : ∀ {os : List (Ex × Shape)} {y : Outs os} {Q : Ex → (sh : Shape) → Prod' sh.tys → Prop}, outK ds us st K os y = some r → (∀ o ∈ os, ∀ y', K o.1 (behind ds us o.2 st y') = some r → Q o.1 o.2 y') → OutP os y Q
  | [], y, Q, h, _ => nomatch y
  | [o], y, Q, h, k => k o List.mem_cons_self y h
  | o :: o' :: os, .inl y, Q, h, k => k o List.mem_cons_self y h
  | o :: o' :: os, .inr y, Q, h, k => outK_P (os := o' :: os) h fun p hp => k p (List.mem_cons_of_mem _ hp)
theorem sum_ok {c : Code} {s : Summ} (hok : s.ok = true) (h : SumIn P c s) : SumOk P C c s := by
  intro R X ρ st a w K r hrel hr
  rw [V_sum] at hr
  cases hc : (plainB st && Nat.beq st.n s.n && (Nat.ble st.nb s.ish.nb && (pureSlots s.ish (frzAll st (pureSlots s.ish st))).isEmpty)) with
  | false => rw [hc] at hr; cases hr
  | true =>
    rw [hc] at hr
    obtain ⟨c01, c2⟩ := (Bool.and_eq_true _ _).mp hc
    obtain ⟨c0, c1⟩ := (Bool.and_eq_true _ _).mp c01
    obtain ⟨c0a, c0b⟩ := (Bool.and_eq_true _ _).mp c0
    have c0a := Nat.eq_of_beq_eq_true c0a
    have c0b : st.res = [] := by
      cases hres : st.res with
      | nil => rfl
      | cons _ _ => rw [hres] at c0b; cases c0b
    obtain ⟨c2, _⟩ := (Bool.and_eq_true _ _).mp c2
    have c1 := Nat.eq_of_beq_eq_true c1
    have c2 := Nat.le_of_ble_eq_true c2
    obtain ⟨ρ1, h1, e1, n1, b1, l1, q1⟩ := frzAll_ok (pureSlots s.ish st) hrel
    generalize hst1 : frzAll st (pureSlots s.ish st) = st1 at hr h1 n1 b1 l1 q1
    replace hr : (match rd s.ish st1 with
      | some x => (s.f x).bind fun y => outK (dsts c) (usedSlots s.ish st1) st1 K s.outs y
      | none => none) = some r := hr
    split at hr
    · rename_i x hx
      obtain ⟨ds, m, hrd, hp⟩ := rd_some hx
      have hus : usedSlots s.ish st1 = boxIds s.ish.slots ++ m.map (·.2) := by
        unfold usedSlots
        rw [hrd]
      rw [hus] at hr
      generalize hu : boxIds s.ish.slots ++ m.map (·.2) = us at hr
      cases hf : s.f x with
      | none => rw [hf] at hr; cases hr
      | some y =>
        rw [hf] at hr
        replace hr : outK (dsts c) us st1 K s.outs y = some r := hr
        have hish : shOk s.ish = true := by
          unfold Summ.ok at hok
          exact ((Bool.and_eq_true _ _).mp hok).1
        let X' : Nat → Prop := fun b => X b ∨ ∃ j, j ∉ us ∧ owns (ρ1 j) b
        obtain ⟨ρi, k1, k2, k3, k4⟩ := rd_sound (X' := X') h1 hish hrd hp (fun b hb => .inl hb) (fun b hb => by
          rcases hb with hb | ⟨j, _, hb⟩
          · exact h1.xlt b hb
          · exact (h1.lt j b hb).1) (fun b hb => by
          rcases hb with hb | ⟨j, hj, hb⟩
          · exact .inl hb
          · exact .inr ⟨j, by rw [hu]; exact hj, hb⟩)
        rw [hu] at k4
        have hb1 := rd_live h1 hrd
        rw [n1, c1] at k1
        intro Q hq
        refine h X' ρi x y a w hf k1 (fun i hi => by rw [k2 i hi]; exact hb1 i hi) k3 Q (outK_P hr ?_)
        intro o ho y' hK ρ' a' w' m1 m2 m3 m4 m5
        have hoo : outOk s.ish o.2 = true ∧ shOk o.2 = true := by
          unfold Summ.ok at hok
          exact (Bool.and_eq_true _ _).mp (List.all_eq_true.1 ((Bool.and_eq_true _ _).mp hok).2 o ho)
        obtain ⟨hoo1, hoo2⟩ := hoo
        have hsm : ∀ i ∈ o.2.slots.map (·.1), i < 1000000 := fun i hi => by
          unfold shOk at hoo2
          simp only [Bool.and_eq_true] at hoo2
          obtain ⟨p, hp, rfl⟩ := List.mem_map.1 hi
          have := List.all_eq_true.1 hoo2.1.1.2 p hp
          obtain ⟨t1, t2⟩ := (Bool.and_eq_true _ _).mp this
          exact Nat.le_of_ble_eq_true t2
        unfold outOk at hoo1
        simp only [Bool.and_eq_true] at hoo1
        obtain ⟨⟨⟨⟨⟨nb1, nb2⟩, o1⟩, o2⟩, o3⟩, o4⟩ := hoo1
        have o3 := Nat.le_of_ble_eq_true o3
        let ids := o.2.slots.map (·.1)
        have hids : ∀ i ∈ ids, (i ∈ boxIds s.ish.slots ∧ i ∈ boxIds o.2.slots) ∨ s.ish.nb ≤ i := fun i hi => by
          obtain ⟨p, hp, rfl⟩ := List.mem_map.1 hi
          have := List.all_eq_true.1 o1 p hp
          obtain ⟨pi, pk⟩ := p
          rcases (Bool.or_eq_true _ _).mp this with h | h
          · cases pk with
            | box t ks => exact .inl ⟨any_beq h, mem_boxIds hp⟩
            | pin e t => exact .inl ⟨any_beq h, mem_pinIds hp⟩
            | arr z e t => cases h
          · exact .inr (Nat.le_of_ble_eq_true h)
        have hidlt : ∀ i ∈ ids, i < o.2.nb := fun i hi => by
          obtain ⟨p, hp, rfl⟩ := List.mem_map.1 hi
          exact Nat.le_of_ble_eq_true (List.all_eq_true.1 o2 p hp)
        let ρ2 : Rho := fun i => if i ∈ ids then ρ' i else if i ∈ us then (ρ1 i).map (fun _ => .dead) else ρ1 i
        have q1 : ∀ i ∈ ids, ρ2 i = ρ' i := fun i hi => by
          show (if i ∈ ids then ρ' i else _) = _
          rw [if_pos hi]
        have q2 : ∀ i, i ∉ ids → i ∈ us → ρ2 i = (ρ1 i).map (fun _ => .dead) := fun i hi hi2 => by
          show (if i ∈ ids then ρ' i else if i ∈ us then _ else _) = _
          rw [if_neg hi, if_pos hi2]
        have q3 : ∀ i, i ∉ ids → i ∉ us → ρ2 i = ρ1 i := fun i hi hi2 => by
          show (if i ∈ ids then ρ' i else if i ∈ us then _ else _) = _
          rw [if_neg hi, if_neg hi2]
        have fresh1 : ∀ i, st1.nb ≤ i → i < 1000000 → ρ1 i = none := fun i hge hlt => h1.fresh.1 i (.inl ⟨hge, by rw [l1, c0a]; exact hlt⟩)
        have old : ∀ i c, i < 1000000 → ρ1 i = some c → i < s.ish.nb := fun i c hm hc => by
          rcases Nat.lt_or_ge i st1.nb with hlt | hge
          · omega
          · rw [fresh1 i hge hm] at hc; cases hc
        have own2 : ∀ i b, owns (ρ2 i) b → (i ∈ ids ∧ owns (ρ' i) b) ∨ (i ∉ us ∧ i ∉ ids ∧ owns (ρ1 i) b) := fun i b hb => by
          by_cases hi : i ∈ ids
          · rw [q1 i hi] at hb; exact .inl ⟨hi, hb⟩
          · by_cases hi2 : i ∈ us
            · rw [q2 i hi hi2] at hb
              cases hρ : ρ1 i with
              | none => rw [hρ] at hb; exact hb.elim
              | some c => rw [hρ] at hb; exact hb.elim
            · rw [q3 i hi hi2] at hb; exact .inr ⟨hi2, hi, hb⟩
        have x2 : Ext ρ1 w ρ2 w' := by
          refine ⟨m2.os, m2.tape, m2.output, m2.size, ?_, ?_, ?_⟩
          · intro b hb hn
            refine m2.keep b hb fun i hi => ?_
            obtain ⟨j, _, hj⟩ := k4 i b hi
            exact hn j hj
          · intro i b hi
            rcases own2 i b hi with ⟨_, hb⟩ | ⟨_, _, hb⟩
            · rcases m2.own i b hb with ⟨j, hj⟩ | hj
              · obtain ⟨j', _, hj'⟩ := k4 j b hj
                exact .inl ⟨j', hj'⟩
              · exact .inr hj
            · exact .inl ⟨i, hb⟩
          · intro i c hc
            by_cases hi : i ∈ ids
            · have hlt := old i c (hsm i hi) hc
              rcases hids i hi with ⟨hb, hb2⟩ | hge
              · rw [q1 i hi, m3 i hb2 hb, k2 i hb]
                exact .inl hc
              · omega
            · by_cases hi2 : i ∈ us
              · rw [q2 i hi hi2, hc]
                exact .inr (.inl rfl)
              · rw [q3 i hi hi2]
                exact .inl hc
        have hρ2 : ∀ n c, ρ' n = some c → ρ2 n = some c := fun n c hc => by
          by_cases hi : n ∈ ids
          · rw [q1 n hi]; exact hc
          · rw [m4 n hi] at hc; cases hc
        have hF : ∀ b, Fix X' ρ' w' b → Fix X ρ2 w' b := fun b hb => by
          refine ⟨hb.1, fun hx => hb.2.1 (.inl hx), fun i hi => ?_⟩
          rcases own2 i b hi with ⟨_, hi'⟩ | ⟨hn, _, hi'⟩
          · exact hb.2.2 i hi'
          · exact hb.2.1 (.inr ⟨i, hn, hi'⟩)
        have hkeep : ∀ j b, j ∉ us → owns (ρ1 j) b → w'.heap[b]? = w.heap[b]? := fun j b hj hb => by
          refine m2.keep b (h1.lt j b hb).1 fun i hi => ?_
          obtain ⟨j', hj', hb'⟩ := k4 i b hi
          have := h1.sep j j' b hb hb'
          subst this
          exact hj hj'
        have hrel2 : Rel X ρ2 (behind (dsts c) us o.2 st1 y') a' w' := by
          have hn2 : (mk o.2 s.n y').n = s.n := rfl
          refine ⟨m1.defers, ?_, ?_, ?_, ?_, ?_, (fun _ _ _ _ hm => nomatch hm), ?_, fun b hb => m1.xlt b (.inl hb), ⟨m1.gl.1, fun n hn i hi => by
            rcases own2 i n hi with ⟨_, hb⟩ | ⟨_, _, hb⟩
            · exact m1.gl.2 n hn i hb
            · exact h1.gl.2 n hn i hb⟩⟩
          · show a'.tmps.size = st1.n
            rw [m1.size, hn2, n1, c1]
          · intro i j b hi hj
            rcases own2 i b hi with ⟨hi1, hi2⟩ | ⟨hi1, hi3, hi2⟩ <;> rcases own2 j b hj with ⟨hj1, hj2⟩ | ⟨hj1, hj3, hj2⟩
            · exact m1.sep i j b hi2 hj2
            · exact absurd (.inr ⟨j, hj1, hj2⟩) (m1.lt i b hi2).2
            · exact absurd (.inr ⟨i, hi1, hi2⟩) (m1.lt j b hj2).2
            · exact h1.sep i j b hi2 hj2
          · intro i b hi
            rcases own2 i b hi with ⟨_, hb⟩ | ⟨_, _, hb⟩
            · exact ⟨(m1.lt i b hb).1, fun hx => (m1.lt i b hb).2 (.inl hx)⟩
            · exact ⟨Nat.lt_of_lt_of_le (h1.lt i b hb).1 x2.size, (h1.lt i b hb).2⟩
          · intro i
            have he : (behind (dsts c) us o.2 st1 y').ent i = if i ∈ ids then (mk o.2 s.n y').ent i else if i ∈ us then .free else st1.ent i := by
              show getL .free (mkBs o.2.slots (mkTs o.2.tmps (ofProd o.2.tys y') (dropT (dsts c) st1.tmps)).2 (dropB us st1.heap)) i = _
              rw [mkBs_over, dropB_get, (mkTs_over o.2.tmps _ _).1]
              rfl
            rw [he]
            by_cases hi : i ∈ ids
            · rw [if_pos hi, q1 i hi]
              exact (m1.ents i).conv hρ2 hF (nb_mkBs nb2 _ _ (fun j => by rw [getL_nil]; trivial) i)
            · rw [if_neg hi]
              by_cases hi2 : i ∈ us
              · rw [if_pos hi2]; trivial
              · rw [if_neg hi2]
                exact EntOk.ext (h1.ents i) x2 (q3 i hi hi2) (fun b hb => hkeep i b hi2 hb)
          · intro j
            show AvOk X ρ2 w' (getL .unk (mkTs o.2.tmps (ofProd o.2.tys y') (dropT (dsts c) st1.tmps)).1 j) (tmOf a' j)
            rw [(mkTs_over o.2.tmps _ _).2 j, dropT_get]
            by_cases hj : j ∈ o.2.tmps.map (·.1)
            · rw [if_pos hj]
              exact AvOk.conv hρ2 hF (nb_mkTs nb1 _ _ (fun j => by rw [getL_nil]; trivial) j) (m1.tmps j)
            · rw [if_neg hj]
              by_cases hj2 : j ∈ dsts c
              · rw [if_pos hj2]; trivial
              · rw [if_neg hj2, m5 j hj2]
                exact (h1.tmps j).ext x2
          · refine ⟨fun i hi => ?_, fun p hp => nomatch hp⟩
            rcases hi with ⟨hi, hi9⟩ | ⟨p, hp, _⟩
            rotate_left
            · cases hp
            have hi : o.2.nb ≤ i := hi
            have hi9 : i < 1000000 := hi9
            have hni : i ∉ ids := fun hm => by have := hidlt i hm; omega
            have hρ : ρ1 i = none := fresh1 i (by omega) hi9
            by_cases hi2 : i ∈ us
            · rw [q2 i hni hi2, hρ]; rfl
            · rw [q3 i hni hi2, hρ]
        exact hq o.1 ρ2 _ a' w' hK hrel2 (e1.trans x2) n1 m5
    · cases hr
end
end Go.Proofs.YtcnkbllbpimaiaaGreatDoorE

namespace Go.Proofs.YtcnkbllbpimaiaaGreatDoorE
open Go
set_option linter.unusedVariables false
def cL : Code → Code
  | .seq a _ => a
  | .cond _ a _ => a
  | c => c
def cR : Code → Code
  | .seq _ b => b
  | .cond _ _ b => b
  | c => c
def cO : Code → Code
  | .block _ a => a
  | .loop a => a
  | c => c
def cB (f : Func) : Code := f.body.getD .skip
/-- The contracts of a list of functions; more than one for a function stand one after the other. -/
def conL : List (Nat × Con) → FuncId → List Con
  | [], _ => []
  | p :: ps, f => bif Nat.beq p.1 f then p.2 :: conL ps f else conL ps f
def AllC (P : Program) : List (Nat × Con) → Prop
  | [] => True
  | p :: ps => ConOk P p.1 p.2 ∧ AllC P ps
theorem conL_ok {P : Program} : ∀ {L : List (Nat × Con)}, AllC P L → ConsOk P (conL L)
  | [], _, f, c, hc => nomatch hc
  | p :: ps, h, f, c, hc => by
    unfold conL at hc
    cases hf : Nat.beq p.1 f with
    | false => rw [hf] at hc; exact conL_ok h.2 f c hc
    | true =>
      rw [hf] at hc
      obtain rfl := Nat.eq_of_beq_eq_true hf
      rcases List.mem_cons.1 hc with rfl | hc
      · exact h.1
      · exact conL_ok h.2 p.1 c hc
theorem ctx_ok {P : Program} {ti : Tab TI} {L : List (Nat × Con)} {rob tl : Bool} (T : TiOk P ti ∧ P.follows .mixedOrders = true) (h : AllC P L) : CtxOk P { ti := ti, con := conL L, rob := rob, tl := tl } := ⟨T.1, conL_ok h, T.2⟩
/-- The summaries of a plan, each with its code. -/
def sumsOf (p : Plan) (c : Code) : List (Summ × Code) := match p with
  | .sum s => [(s, c)]
  | p => match c with
    | .seq a b => sumsOf p.l a ++ sumsOf p.r b
    | .cond _ a b => sumsOf p.l a ++ sumsOf p.r b
    | .block _ a => sumsOf p.o a
    | _ => []
def AllS (P : Program) (C : Ctx) : List (Summ × Code) → Prop
  | [] => True
  | p :: ps => SumOk P C p.2 p.1 ∧ AllS P C ps
theorem AllS.mem {P : Program} {C : Ctx} : ∀ {L : List (Summ × Code)}, AllS P C L → ∀ p ∈ L, SumOk P C p.2 p.1
  | [], _, p, hp => nomatch hp
  | q :: L, h, p, hp => by
    rcases List.mem_cons.1 hp with rfl | hp
    · exact h.1
    · exact AllS.mem h.2 p hp
theorem plan_mem {P : Program} {C : Ctx} : ∀ {c : Code} {p : Plan}, (∀ q ∈ sumsOf p c, SumOk P C q.2 q.1) → PlanOk P C p c := by
  intro c
  induction c with
  | seq a b iha ihb =>
    intro p h
    by_cases hs : ∃ s, p = .sum s
    · obtain ⟨s, rfl⟩ := hs; exact h (s, _) List.mem_cons_self
    · have e : sumsOf p (.seq a b) = sumsOf p.l a ++ sumsOf p.r b := by cases p <;> first | rfl | exact absurd ⟨_, rfl⟩ hs
      rw [e] at h
      have k : PlanOk P C p.l a ∧ PlanOk P C p.r b := ⟨iha fun q hq => h q (List.mem_append_left _ hq), ihb fun q hq => h q (List.mem_append_right _ hq)⟩
      cases p <;> first | exact k | exact absurd ⟨_, rfl⟩ hs
  | cond x a b iha ihb =>
    intro p h
    by_cases hs : ∃ s, p = .sum s
    · obtain ⟨s, rfl⟩ := hs; exact h (s, _) List.mem_cons_self
    · have e : sumsOf p (.cond x a b) = sumsOf p.l a ++ sumsOf p.r b := by cases p <;> first | rfl | exact absurd ⟨_, rfl⟩ hs
      rw [e] at h
      have k : PlanOk P C p.l a ∧ PlanOk P C p.r b := ⟨iha fun q hq => h q (List.mem_append_left _ hq), ihb fun q hq => h q (List.mem_append_right _ hq)⟩
      cases p <;> first | exact k | exact absurd ⟨_, rfl⟩ hs
  | block id a ih =>
    intro p h
    by_cases hs : ∃ s, p = .sum s
    · obtain ⟨s, rfl⟩ := hs; exact h (s, _) List.mem_cons_self
    · have e : sumsOf p (.block id a) = sumsOf p.o a := by cases p <;> first | rfl | exact absurd ⟨_, rfl⟩ hs
      rw [e] at h
      have k : PlanOk P C p.o a := ih fun q hq => h q hq
      cases p <;> first | exact k | exact absurd ⟨_, rfl⟩ hs
  | _ =>
    intro p h
    by_cases hs : ∃ s, p = .sum s
    · obtain ⟨s, rfl⟩ := hs; exact h (s, _) List.mem_cons_self
    · cases p <;> first | trivial | exact absurd ⟨_, rfl⟩ hs
theorem plan_of {P : Program} {C : Ctx} {p : Plan} {c : Code} {L : List (Summ × Code)} (h : sumsOf p c = L) (k : AllS P C L) : PlanOk P C p c := plan_mem (by rw [h]; exact k.mem)
/-- All leaves alike. -/
def ros (t : Ty) : List PL := (leafTys t).map fun _ => .ro
def kept (t : Ty) : List PL := (leafTys t).map fun _ => .v
end Go.Proofs.YtcnkbllbpimaiaaGreatDoorE

namespace Go.Proofs.YtcnkbllbpimaiaaGreatDoorE
open Go
set_option linter.unusedVariables false
def leafChk : Leaf → Value → Bool
  | .int k n, .int k' n' => decide (k = k') && decide (n = n')
  | .kb b, .bool b' => b == b'
  | .str [], .string s => Nat.beq s.data.toList.length 0
  | .nil, .slice none 0 0 => true
  | .unk, v => v.oneCell'
  | _, _ => false
def leavesChk : List Leaf → List Value → Bool
  | [], [] => true
  | x :: xs, v :: vs => leafChk x v && leavesChk xs vs
  | _, _ => false
def nz (P : Program) (t : TypeId) : Bool := match P.info? t with
  | some q => !(Nat.beq q.size 0)
  | none => false
def fieldsChk (P : Program) : List (Nat × TypeId) → List Field → Bool
  | [], [] => true
  | (o, t) :: os, f :: fs => Nat.beq f.offset o && Nat.beq f.type t && nz P t && fieldsChk P os fs
  | _, _ => false
def kindChk (P : Program) (i : TI) : TypeDesc → Bool
  | .int k => Nat.beq i.kind 1 && decide (k = i.ik)
  | .string => Nat.beq i.kind 2
  | .slice e => Nat.beq i.kind 3 && Nat.beq e i.elem
  | .struct fs => Nat.beq i.kind 4 && fieldsChk P i.offs fs.toList
  | .bool => Nat.beq i.kind 5
  | .map _ _ => Nat.beq i.kind 6
  | .array _ _ => Nat.beq i.kind 7
  | _ => Nat.beq i.kind 0
def aggD : TypeDesc → Bool
  | .struct _ => true
  | .array _ _ => true
  | _ => false
def notAgg : Value → Bool
  | .agg _ => false
  | _ => true
def zeroChk (i : TI) : Option Value → Bool
  | some z => Nat.beq z.cells.size i.sz && leavesChk i.zero z.cells.toList && (i.agg || notAgg z)
  | none => false
def scalT : Ty → Option TypeDesc → Bool
  | .int _, some (.int _) => true
  | .bool, some .bool => true
  | .str, some .string => true
  | _, _ => false
/-- The leaves that a type's comparison takes off a list of leaves. -/
def eqFs (P : Program) (rec : TypeId → List Ty → Option (List Ty)) : List Field → Nat → List Ty → Option (List Ty)
  | [], _, ts => some ts
  | f :: fs, o, ts => bif !(f.name == "_") && Nat.beq f.offset o then match rec f.type ts with
      | some r => bif Nat.blt r.length ts.length && Nat.beq ((P.info? f.type).map (·.size) |>.getD 0) (ts.length - r.length) then eqFs P rec fs (o + (ts.length - r.length)) r else none
      | none => none
    else none
def eqC (P : Program) : Nat → TypeId → List Ty → Option (List Ty)
  | 0, _, _ => none
  | n + 1, t, ts => match P.underlying t with
    | some (.int _) => match ts with
      | .int _ :: r => some r
      | _ => none
    | some .bool => match ts with
      | .bool :: r => some r
      | _ => none
    | some .string => match ts with
      | .str :: r => some r
      | _ => none
    | some (.struct fs) => bif P.stoodInHeld t || Nat.beq fs.toList.length 0 then none else eqFs P (eqC P n) fs.toList 0 ts
    | _ => none
def eqChk (P : Program) (t : TypeId) (ty : Ty) : Bool := match P.underlying t with
  | some (.struct fs) => !(P.stoodInHeld t) && !(Nat.beq fs.toList.length 0) && (match eqFs P (eqC P 8) fs.toList 0 (leafTys ty) with
    | some [] => true
    | _ => false)
  | _ => false
def zeroIs (P : Program) (e : TypeId) : Bool := match P.info? e with
  | some q => match q.zero with
    | some (.bool false) => true
    | _ => false
  | none => false
def mapChk (P : Program) : TypeDesc → Bool
  | .map k e => (match P.underlying k with
    | some (.int .i64) => true
    | _ => false) && zeroIs P e
  | _ => false
def arrChk (i : TI) : TypeDesc → Bool
  | .array n e => Nat.beq e i.elem && match i.offs with
    | [(m, _)] => Nat.beq m n
    | _ => false
  | _ => false
def tiChk (P : Program) (t : TypeId) (i : TI) : Bool := match P.info? t, P.underlying t with
  | some q, some d => Nat.beq q.size i.sz && Nat.beq q.bytes i.bytes && zeroChk i q.zero && (i.agg == aggD d) && kindChk P i d && (Nat.beq i.sz 0 || Nat.blt 0 i.bytes) && (!i.eqs || eqChk P t i.ty) && (!(Nat.beq i.kind 3) || !(isMap i.elem)) && (!(Nat.beq i.kind 6) || mapChk P d) && (!(Nat.beq i.kind 7) || arrChk i d)
  | _, _ => false
def tabChk (P : Program) : Tab TI → (Nat → Nat) → Bool
  | .nil, _ => true
  | .node l v r, g => (match v with
    | some i => tiChk P (g 0) i
    | none => true) && tabChk P l (fun m => g (2 * m + 1)) && tabChk P r (fun m => g (2 * m + 2))
section
variable {P : Program} {X : Nat → Prop} {ρ : Rho} {w : World}
theorem leafChk_ok {x : Leaf} {v : Value} (h : leafChk x v = true) : LeafOk X ρ w x v := by
  unfold leafChk at h
  split at h
  · obtain ⟨h1, h2⟩ := (Bool.and_eq_true _ _).mp h
    rw [of_decide_eq_true h1, of_decide_eq_true h2]
    rfl
  · rename_i b b'
    rw [show b = b' by simpa using h]
    rfl
  · rename_i s
    have h := Nat.eq_of_beq_eq_true h
    show Value.string s = .string (ba [])
    congr 1
    apply ByteArray.ext
    apply Array.ext'
    show s.data.toList = []
    exact List.eq_nil_of_length_eq_zero h
  · rfl
  · exact h
  · cases h
theorem leavesChk_ok : ∀ {xs : List Leaf} {vs : List Value}, leavesChk xs vs = true → LeavesOk X ρ w xs vs
  | [], [], _ => trivial
  | x :: xs, v :: vs, h => by
    obtain ⟨h1, h2⟩ := (Bool.and_eq_true _ _).mp (show (leafChk x v && leavesChk xs vs) = true from h)
    exact ⟨leafChk_ok h1, leavesChk_ok h2⟩
  | [], _ :: _, h => by cases h
  | _ :: _, [], h => by cases h
theorem nz_ok {t : TypeId} (h : nz P t = true) : ∃ q, P.info? t = some q ∧ q.size ≠ 0 := by
  unfold nz at h
  split at h
  · rename_i q hq
    refine ⟨q, hq, fun e => ?_⟩
    rw [e] at h
    cases h
  · cases h
theorem fieldsChk_ok : ∀ {os : List (Nat × TypeId)} {fs : List Field}, fieldsChk P os fs = true →
    (∀ (f o : Nat) (ft : TypeId), os[f]? = some (o, ft) → ∃ fl, fs[f]? = some fl ∧ fl.offset = o ∧ fl.type = ft ∧ ∃ q, P.info? ft = some q ∧ q.size ≠ 0) ∧
    ∃ places, fs.mapM (fun f => (P.info? f.type).map fun i => (f.offset, i.size)) = some places ∧ ∀ (f o : Nat) (ft : TypeId), os[f]? = some (o, ft) → ∃ q, P.info? ft = some q ∧ places[f]? = some (o, q.size)
  | [], [], _ => ⟨fun f o ft h => (by rw [List.getElem?_nil] at h; cases h), [], by simp, fun f o ft h => by rw [List.getElem?_nil] at h; cases h⟩
  | (o, t) :: os, f :: fs, h => by
    unfold fieldsChk at h
    simp only [Bool.and_eq_true] at h
    obtain ⟨⟨⟨h1, h2⟩, h3⟩, h4⟩ := h
    have h1 := Nat.eq_of_beq_eq_true h1
    have h2 := Nat.eq_of_beq_eq_true h2
    obtain ⟨q, hq, hq0⟩ := nz_ok h3
    obtain ⟨i1, places, i2, i3⟩ := fieldsChk_ok h4
    refine ⟨fun j o' ft hj => ?_, (o, q.size) :: places, ?_, fun j o' ft hj => ?_⟩
    · cases j with
      | zero =>
        cases hj
        exact ⟨f, rfl, h1, h2, q, hq, hq0⟩
      | succ j => exact i1 j o' ft hj
    · rw [List.mapM_cons, h2, hq]
      simp [i2, h1]
    · cases j with
      | zero =>
        cases hj
        exact ⟨q, hq, rfl⟩
      | succ j => exact i3 j o' ft hj
  | [], _ :: _, h => by cases h
  | _ :: _, [], h => by cases h
/-! #### '==' of structs of scalars -/
theorem scal_plain {t : TypeId} {ty : Ty} (h : scalT ty (P.underlying t) = true) : (∃ k k', ty = .int k ∧ P.underlying t = some (.int k')) ∨ (ty = .bool ∧ P.underlying t = some .bool) ∨ (ty = .str ∧ P.underlying t = some .string) := by
  unfold scalT at h
  split at h
  · rename_i hu; exact .inl ⟨_, _, rfl, hu⟩
  · rename_i hu; exact .inr (.inl ⟨rfl, hu⟩)
  · rename_i hu; exact .inr (.inr ⟨rfl, hu⟩)
  · cases h
theorem scal_part {t : TypeId} {ty : Ty} (h : scalT ty (P.underlying t) = true) {xs : Array Value} {off : Nat} {v : Value} (hx : xs[off]? = some v) : (Go.part t xs off).run P w = .ok v w := by
  rcases scal_plain h with ⟨k, k', _, hu⟩ | ⟨_, hu⟩ | ⟨_, hu⟩ <;> simp [Go.part, isAgg, run_underlying hu, hx]
theorem scal_eq {t : TypeId} {ty : Ty} (h : scalT ty (P.underlying t) = true) {x y : Leaf} {u v : Value} {b : Bool} {d : Nat} (hx : LeafOk X ρ w x u) (hy : LeafOk X ρ w y v) (hb : eqLeafT ty x y = some b) : (Op.equalIn (d + 1) t u v).run P w = .ok b w := by
  rcases scal_plain h with ⟨k, k', rfl, hu⟩ | ⟨rfl, hu⟩ | ⟨rfl, hu⟩
  · unfold eqLeafT at hb
    split at hb
    · rename_i k1 a k2 c he
      split at hb
      · rename_i hk
        subst hk
        cases hb
        obtain rfl : u = .int k1 a := hx
        obtain rfl : v = .int k1 c := hy
        exact run_equalIn_int _ d t k1 k' a c hu
      · cases hb
    all_goals first | (rename_i he; cases he; done) | cases hb
  · unfold eqLeafT at hb
    split at hb
    · rename_i he; cases he
    · rename_i a c _
      cases hb
      obtain rfl : u = .bool a := hx
      obtain rfl : v = .bool c := hy
      exact run_equalIn_bool' _ d t a c hu
    · rename_i a c _
      cases hb
      obtain rfl : u = .bool a := hx
      obtain rfl : v = .bool c := hy
      exact run_equalIn_bool' _ d t a c hu
    · rename_i a c _
      cases hb
      obtain rfl : u = .bool a := hx
      obtain rfl : v = .bool c := hy
      exact run_equalIn_bool' _ d t a c hu
    · rename_i he; cases he
    · cases hb
  · unfold eqLeafT at hb
    split at hb
    · rename_i he; cases he
    · rename_i he; cases he
    · rename_i he; cases he
    · rename_i he; cases he
    · rename_i a c _
      cases hb
      obtain rfl : u = .string (ba a) := hx
      obtain rfl : v = .string (ba c) := hy
      have := run_equalIn_string (P := P) w d t (ba a) (ba c) hu
      rw [this]
      rw [ba_toList, ba_toList]
    · cases hb
theorem eqf_last {d : Nat} {xs ys : Array Value} {f : Field} {a b : Value} {r : Bool} (hn : (f.name == "_") = false) (ha : (Go.part f.type xs f.offset).run P w = .ok a w) (hb : (Go.part f.type ys f.offset).run P w = .ok b w) (he : (Op.equalIn d f.type a b).run P w = .ok r w) : (Op.eqFields d xs ys [f]).run P w = .ok r w := by
  have hn' : f.name ≠ "_" := by simpa using hn
  simp only [Op.eqFields, if_pos hn', Sem.run_bind, ha, hb, he, Result.andThen_ok]
  cases r <;> simp
theorem eqf_cons {d : Nat} {xs ys : Array Value} {f : Field} {fs : List Field} {a b : Value} {r s : Bool} (hn : (f.name == "_") = false) (ha : (Go.part f.type xs f.offset).run P w = .ok a w) (hb : (Go.part f.type ys f.offset).run P w = .ok b w) (he : (Op.equalIn d f.type a b).run P w = .ok r w) (hr : (Op.eqFields d xs ys fs).run P w = .ok s w) : (Op.eqFields d xs ys (f :: fs)).run P w = .ok (r && s) w := by
  have hn' : f.name ≠ "_" := by simpa using hn
  rw [Op.eqFields]
  simp only [if_pos hn', Sem.run_bind, ha, hb, he, Result.andThen_ok]
  cases r
  · simp
  · simpa using hr
theorem eqL_split : ∀ {us rs : List Ty} {xs ys : List Leaf} {b : Bool}, us ≠ [] → rs ≠ [] → eqLeavesT (us ++ rs) xs ys = some b → xs.length = us.length + rs.length → ys.length = us.length + rs.length →
    ∃ b1 b2, eqLeavesT us (xs.take us.length) (ys.take us.length) = some b1 ∧ eqLeavesT rs (xs.drop us.length) (ys.drop us.length) = some b2 ∧ b = (b1 && b2)
  | [], _, _, _, _, h, _, _, _, _ => absurd rfl h
  | u :: us, rs, [], _, _, _, _, _, hx, _ => by simp at hx; omega
  | u :: us, rs, x :: xs, [], _, _, _, _, _, hy => by simp at hy; omega
  | [u], r :: rs, x :: xs, y :: ys, b, _, _, h, hx, hy => by
    have h : (match eqLeafT u x y, eqLeavesT (r :: rs) xs ys with
      | some a, some b => some (a && b)
      | _, _ => none) = some b := h
    split at h
    · rename_i a c ha hc
      cases h
      exact ⟨a, c, ha, hc, rfl⟩
    · cases h
  | u :: u' :: us, rs, x :: xs, y :: ys, b, _, hr, h, hx, hy => by
    have h : (match eqLeafT u x y, eqLeavesT (u' :: us ++ rs) xs ys with
      | some a, some b => some (a && b)
      | _, _ => none) = some b := h
    split at h
    · rename_i a c ha hc
      cases h
      obtain ⟨b1, b2, e1, e2, rfl⟩ := eqL_split (us := u' :: us) (rs := rs) nofun hr hc (by simp at hx ⊢; omega) (by simp at hy ⊢; omega)
      refine ⟨a && b1, b2, ?_, e2, (Bool.and_assoc _ _ _).symm⟩
      match xs, ys, hx, hy with
      | [], _, hx, _ => simp at hx; omega
      | _ :: _, [], _, hy => simp at hy; omega
      | x2 :: xs, y2 :: ys, _, _ =>
        show (match eqLeafT u x y, eqLeavesT (u' :: us) ((x2 :: xs).take (u' :: us).length) ((y2 :: ys).take (u' :: us).length) with
          | some a, some b => some (a && b)
          | _, _ => none) = some (a && b1)
        rw [ha, e1]
    · cases h
  | [u], [], _, _, _, _, hr, _, _, _ => absurd rfl hr
theorem leavesOk_len : ∀ {xs : List Leaf} {vs : List Value}, LeavesOk X ρ w xs vs → xs.length = vs.length
  | [], [], _ => rfl
  | _ :: _, _ :: _, h => congrArg (· + 1) (leavesOk_len h.2)
theorem leavesOk_take : ∀ {xs : List Leaf} {vs : List Value} (n : Nat), LeavesOk X ρ w xs vs → LeavesOk X ρ w (xs.take n) (vs.take n)
  | _, _, 0, _ => trivial
  | [], [], _ + 1, _ => trivial
  | _ :: _, _ :: _, n + 1, h => ⟨h.1, leavesOk_take n h.2⟩
theorem leavesOk_drop : ∀ {xs : List Leaf} {vs : List Value} (n : Nat), LeavesOk X ρ w xs vs → LeavesOk X ρ w (xs.drop n) (vs.drop n)
  | _, _, 0, h => h
  | [], [], _ + 1, _ => trivial
  | _ :: _, _ :: _, n + 1, h => leavesOk_drop n h.2
/-- A type's comparison, of values that lie in rows of cells. -/
def Cmp (P : Program) (n : Nat) (t : TypeId) (us : List Ty) : Prop := ∀ (X : Nat → Prop) (ρ : Rho) (w : World) (cs ds : Array Value) (o : Nat) (xs ys : List Leaf) (b : Bool), o + us.length ≤ cs.size → o + us.length ≤ ds.size →
  LeavesOk X ρ w xs ((cs.toList.drop o).take us.length) → LeavesOk X ρ w ys ((ds.toList.drop o).take us.length) → eqLeavesT us xs ys = some b →
  ∃ v u, (Go.part t cs o).run P w = .ok v w ∧ (Go.part t ds o).run P w = .ok u w ∧ ∀ d, n ≤ d → (Op.equalIn d t v u).run P w = .ok b w
theorem cmp_scal {n : Nat} {t : TypeId} {ty : Ty} (h : scalT ty (P.underlying t) = true) : Cmp P (n + 1) t [ty] := by
  intro X ρ w cs ds o xs ys b hc hd hx hy hb
  have hc : o + 1 ≤ cs.size := hc
  have hd : o + 1 ≤ ds.size := hd
  have e1 : (cs.toList.drop o).take [ty].length = [cs[o]] := by
    rw [List.drop_eq_getElem_cons (by simp; omega)]
    simp
  have e2 : (ds.toList.drop o).take [ty].length = [ds[o]] := by
    rw [List.drop_eq_getElem_cons (by simp; omega)]
    simp
  rw [e1] at hx
  rw [e2] at hy
  match xs, ys, hx, hy with
  | [x], [y], hx, hy =>
    refine ⟨cs[o], ds[o], scal_part h (by simp), scal_part h (by simp), fun d hd => ?_⟩
    obtain ⟨d, rfl⟩ : ∃ m, d = m + 1 := ⟨d - 1, by omega⟩
    exact scal_eq h hx.1 hy.1 hb
theorem eqFs_ok {n : Nat} {rec : TypeId → List Ty → Option (List Ty)} (hrec : ∀ t ts r, rec t ts = some r → r.length < ts.length → ((P.info? t).map (·.size) |>.getD 0) = ts.length - r.length → ∃ us, ts = us ++ r ∧ Cmp P n t us ∧ ∀ m, n ≤ m → P.eqGuardType m t = false) : ∀ (fs : List Field) (o : Nat) (ts r : List Ty), fs ≠ [] → eqFs P rec fs o ts = some r →
    ∃ us, ts = us ++ r ∧ us ≠ [] ∧ (∀ m, n ≤ m → ∀ f ∈ fs, P.eqGuardType m f.type = false) ∧ ∀ (X : Nat → Prop) (ρ : Rho) (w : World) (cs ds : Array Value) (xs ys : List Leaf) (b : Bool), o + us.length ≤ cs.size → o + us.length ≤ ds.size →
      LeavesOk X ρ w xs ((cs.toList.drop o).take us.length) → LeavesOk X ρ w ys ((ds.toList.drop o).take us.length) → eqLeavesT us xs ys = some b → ∀ d, n ≤ d → (Op.eqFields d cs ds fs).run P w = .ok b w
  | [], _, _, _, h, _ => absurd rfl h
  | f :: fs, o, ts, r, _, h => by
    unfold eqFs at h
    cases hn : (!(f.name == "_") && Nat.beq f.offset o) with
    | false => rw [hn] at h; cases h
    | true =>
      rw [hn] at h
      obtain ⟨n1, n2⟩ := (Bool.and_eq_true _ _).mp hn
      have n1 : (f.name == "_") = false := by simpa using n1
      have n2 := Nat.eq_of_beq_eq_true n2
      replace h : (match rec f.type ts with
        | some r => bif Nat.blt r.length ts.length && Nat.beq ((P.info? f.type).map (·.size) |>.getD 0) (ts.length - r.length) then eqFs P rec fs (o + (ts.length - r.length)) r else none
        | none => none) = some r := h
      split at h
      · rename_i r1 hr1
        cases hc : (Nat.blt r1.length ts.length && Nat.beq ((P.info? f.type).map (·.size) |>.getD 0) (ts.length - r1.length)) with
        | false => rw [hc] at h; cases h
        | true =>
          rw [hc] at h
          obtain ⟨c1, c2⟩ := (Bool.and_eq_true _ _).mp hc
          have c1 : r1.length < ts.length := Nat.le_of_ble_eq_true c1
          obtain ⟨us, rfl, cmp, gd⟩ := hrec _ _ _ hr1 c1 (Nat.eq_of_beq_eq_true c2)
          have hl : (us ++ r1).length - r1.length = us.length := by simp
          rw [hl] at h
          have hne : us ≠ [] := by rintro rfl; simp at c1
          replace h : eqFs P rec fs (o + us.length) r1 = some r := h
          cases fs with
          | nil =>
            cases h
            refine ⟨us, rfl, hne, fun m hm g hg => ?_, ?_⟩
            · rw [List.mem_singleton.1 hg]; exact gd m hm
            · intro X ρ w cs ds xs ys b h1 h2 hx hy hb d hd
              obtain ⟨v, u, p1, p2, p3⟩ := cmp X ρ w cs ds o xs ys b h1 h2 hx hy hb
              exact eqf_last n1 (by rw [n2]; exact p1) (by rw [n2]; exact p2) (p3 d hd)
          | cons f2 fs =>
            obtain ⟨us2, rfl, hne2, gd2, ih⟩ := eqFs_ok hrec (f2 :: fs) (o + us.length) r1 r nofun h
            refine ⟨us ++ us2, (List.append_assoc _ _ _).symm, fun e => hne (List.append_eq_nil_iff.1 e).1, fun m hm g hg => ?_, ?_⟩
            · rcases List.mem_cons.1 hg with rfl | hg
              · exact gd m hm
              · exact gd2 m hm g hg
            · intro X ρ w cs ds xs ys b h1 h2 hx hy hb d hd
              rw [List.length_append] at h1 h2 hx hy
              have lx := leavesOk_len hx
              have ly := leavesOk_len hy
              simp only [List.length_take, List.length_drop, Array.length_toList] at lx ly
              obtain ⟨b1, b2, e1, e2, rfl⟩ := eqL_split hne hne2 hb (by omega) (by omega)
              have t1 : ∀ c : List Value, ((c.drop o).take (us.length + us2.length)).take us.length = (c.drop o).take us.length := fun c => by rw [List.take_take]; congr 1; omega
              have t2 : ∀ c : List Value, ((c.drop o).take (us.length + us2.length)).drop us.length = (c.drop (o + us.length)).take us2.length := fun c => by rw [List.drop_take, List.drop_drop]; congr 1; omega
              have hx1 := leavesOk_take us.length hx
              have hy1 := leavesOk_take us.length hy
              have hx2 := leavesOk_drop us.length hx
              have hy2 := leavesOk_drop us.length hy
              rw [t1] at hx1 hy1
              rw [t2] at hx2 hy2
              obtain ⟨v, u, p1, p2, p3⟩ := cmp X ρ w cs ds o _ _ b1 (by omega) (by omega) hx1 hy1 e1
              exact eqf_cons n1 (by rw [n2]; exact p1) (by rw [n2]; exact p2) (p3 d hd) (ih X ρ w cs ds _ _ b2 (by omega) (by omega) hx2 hy2 e2 d hd)
      · cases h
theorem eqS_ok {n : Nat} (hrec : ∀ t ts r, eqC P n t ts = some r → r.length < ts.length → ((P.info? t).map (·.size) |>.getD 0) = ts.length - r.length → ∃ us, ts = us ++ r ∧ Cmp P n t us ∧ ∀ m, n ≤ m → P.eqGuardType m t = false) {t : TypeId} {fs : Array Field} {ts r : List Ty}
    (hu : P.underlying t = some (.struct fs)) (hp : P.stoodInHeld t = false) (hne : fs.toList ≠ []) (h : eqFs P (eqC P n) fs.toList 0 ts = some r) :
    ∃ us, ts = us ++ r ∧ us ≠ [] ∧ (∀ m, n + 1 ≤ m → P.eqGuardType m t = false) ∧ ∀ (X : Nat → Prop) (ρ : Rho) (w : World) (cs ds : Array Value) (xs ys : List Leaf) (b : Bool), us.length ≤ cs.size → us.length ≤ ds.size →
      LeavesOk X ρ w xs (cs.toList.take us.length) → LeavesOk X ρ w ys (ds.toList.take us.length) → eqLeavesT us xs ys = some b → ∀ d, n + 1 ≤ d → (Op.equalIn d t (.agg cs) (.agg ds)).run P w = .ok b w := by
  obtain ⟨us, e, hne', gd, ih⟩ := eqFs_ok hrec fs.toList 0 ts r hne h
  refine ⟨us, e, hne', fun m hm => ?_, fun X ρ w cs ds xs ys b h1 h2 hx hy hb d hd => ?_⟩
  · obtain ⟨m, rfl⟩ : ∃ q, m = q + 1 := ⟨m - 1, by omega⟩
    rw [Program.eqGuardType, hu]
    show (fs.any fun f => f.name != "_" && P.eqGuardType m f.type) = false
    rw [← Array.any_toList, List.any_eq_false]
    intro f hf
    rw [gd m (by omega) f hf]
    simp
  · obtain ⟨d, rfl⟩ : ∃ q, d = q + 1 := ⟨d - 1, by omega⟩
    have hf : P.fieldsOf t = fs := by simp [Program.fieldsOf, hu]
    rw [run_equalIn_struct (P := P) w d t cs ds (by rw [hf]; exact hu) hp, hf]
    exact ih X ρ w cs ds xs ys b (by omega) (by omega) (by rw [List.drop_zero]; exact hx) (by rw [List.drop_zero]; exact hy) hb d (by omega)
theorem eqC_ok : ∀ (n : Nat) (t : TypeId) (ts r : List Ty), eqC P n t ts = some r → r.length < ts.length → ((P.info? t).map (·.size) |>.getD 0) = ts.length - r.length → ∃ us, ts = us ++ r ∧ Cmp P n t us ∧ ∀ m, n ≤ m → P.eqGuardType m t = false
  | 0, t, ts, r, h, _, _ => by cases h
  | n + 1, t, ts, r, h, hlt, hsz => by
    have scal : ∀ ty, scalT ty (P.underlying t) = true → ts = ty :: r → ∃ us, ts = us ++ r ∧ Cmp P (n + 1) t us ∧ ∀ m, n + 1 ≤ m → P.eqGuardType m t = false := fun ty hs e => by
      refine ⟨[ty], e, cmp_scal hs, fun m hm => ?_⟩
      obtain ⟨m, rfl⟩ : ∃ q, m = q + 1 := ⟨m - 1, by omega⟩
      rcases scal_plain hs with ⟨k, k', _, hu⟩ | ⟨_, hu⟩ | ⟨_, hu⟩ <;> simp [Program.eqGuardType, hu]
    unfold eqC at h
    split at h
    · rename_i hu
      split at h
      · cases h
        exact scal _ (by rw [hu]; rfl) rfl
      · cases h
    · rename_i hu
      split at h
      · cases h
        exact scal _ (by rw [hu]; rfl) rfl
      · cases h
    · rename_i hu
      split at h
      · cases h
        exact scal _ (by rw [hu]; rfl) rfl
      · cases h
    · rename_i fs hu
      cases hc : (P.stoodInHeld t || Nat.beq fs.toList.length 0) with
      | true => rw [hc] at h; cases h
      | false =>
        rw [hc] at h
        replace h : eqFs P (eqC P n) fs.toList 0 ts = some r := h
        obtain ⟨c1, c2⟩ := Bool.or_eq_false_iff.1 hc
        have hne : fs.toList ≠ [] := by
          intro e
          rw [e] at c2
          cases c2
        obtain ⟨us, e, hne', gd, ok⟩ := eqS_ok (eqC_ok n) hu c1 hne h
        refine ⟨us, e, fun X ρ w cs ds o xs ys b h1 h2 hx hy hb => ?_, gd⟩
        have hl : ts.length - r.length = us.length := by rw [e]; simp
        rw [hl] at hsz
        have hpos : 0 < us.length := List.length_pos_iff.2 hne'
        obtain ⟨q, hq, hqs⟩ : ∃ q, P.info? t = some q ∧ q.size = us.length := by
          cases hq : P.info? t with
          | none => rw [hq] at hsz; simp at hsz; omega
          | some q => rw [hq] at hsz; exact ⟨q, rfl, hsz⟩
        have part : ∀ c : Array Value, (Go.part t c o).run P w = .ok (.agg (c.extract o (o + us.length))) w := fun c => by
          simp [Go.part, isAgg, run_underlying hu, sizeOf, typeInfo, hq, hqs]
        have ext : ∀ c : Array Value, o + us.length ≤ c.size → (c.extract o (o + us.length)).toList.take us.length = (c.toList.drop o).take us.length := fun c hc => by
          rw [Array.toList_extract, List.extract_eq_take_drop, Nat.add_sub_cancel_left, List.take_take, Nat.min_self]
        exact ⟨_, _, part cs, part ds, ok X ρ w _ _ xs ys b (by simp; omega) (by simp; omega) (by rw [ext cs h1]; exact hx) (by rw [ext ds h2]; exact hy) hb⟩
    · cases h
theorem eqChk_ok {t : TypeId} {ty : Ty} (h : eqChk P t ty = true) : P.eqGuardType P.depth t = false ∧ ∀ X ρ w (cs ds : Array Value) (xs ys : List Leaf) (b : Bool), LeavesOk X ρ w xs cs.toList → LeavesOk X ρ w ys ds.toList → eqLeavesT (leafTys ty) xs ys = some b → (Op.equal t (.agg cs) (.agg ds)).run P w = .ok b w := by
  unfold eqChk at h
  split at h
  · rename_i fs hu
    obtain ⟨h12, h3⟩ := (Bool.and_eq_true _ _).mp h
    obtain ⟨h1, h2⟩ := (Bool.and_eq_true _ _).mp h12
    have h1 : P.stoodInHeld t = false := by simpa using h1
    have hne : fs.toList ≠ [] := by
      intro e
      rw [e] at h2
      cases h2
    split at h3
    · rename_i hr
      obtain ⟨us, e, hne', gd, ok⟩ := eqS_ok (eqC_ok 8) hu h1 hne hr
      rw [List.append_nil] at e
      subst e
      refine ⟨gd _ (by unfold Program.depth Made.depth; omega), fun X ρ w cs ds xs ys b hx hy hb => ?_⟩
      have lx := leavesOk_len hx
      have ly := leavesOk_len hy
      have key : ∀ {us : List Ty} {xs ys : List Leaf} {b : Bool}, eqLeavesT us xs ys = some b → xs.length = us.length ∧ ys.length = us.length := by
        intro us
        induction us with
        | nil => intro xs ys b h; cases h
        | cons u us ih =>
          intro xs ys b h
          match xs, ys, h with
          | [], _, h => cases us <;> cases h
          | x :: xs, [], h => cases us <;> cases xs <;> cases h
          | x :: xs, y :: ys, h =>
            have long : (match eqLeafT u x y, eqLeavesT us xs ys with
              | some a, some b => some (a && b)
              | _, _ => none) = some b → (x :: xs).length = (u :: us).length ∧ (y :: ys).length = (u :: us).length := fun h => by
              split at h
              · rename_i hc
                obtain ⟨i1, i2⟩ := ih hc
                exact ⟨congrArg (· + 1) i1, congrArg (· + 1) i2⟩
              · cases h
            cases us with
            | cons _ _ => exact long h
            | nil =>
              cases xs with
              | cons _ _ => exact long h
              | nil =>
                cases ys with
                | cons _ _ => exact long h
                | nil => exact ⟨rfl, rfl⟩
      obtain ⟨k1, k2⟩ := key hb
      simp only [Array.length_toList] at lx ly
      exact ok X ρ w cs ds xs ys b (by omega) (by omega) (by rw [List.take_of_length_le (by rw [Array.length_toList]; omega)]; exact hx) (by rw [List.take_of_length_le (by rw [Array.length_toList]; omega)]; exact hy) hb 10000 (by omega)
    · cases h3
  · cases h
theorem tiChk_ok {t : TypeId} {i : TI} (h : tiChk P t i = true) : TiFor P t i := by
  unfold tiChk at h
  split at h
  · rename_i q d hq hd
    simp only [Bool.and_eq_true] at h
    obtain ⟨⟨⟨⟨⟨⟨⟨⟨⟨h1, h2⟩, h3⟩, h4⟩, h5⟩, h6⟩, h7⟩, h8⟩, h9⟩, h10⟩ := h
    have h1 := Nat.eq_of_beq_eq_true h1
    have h2 := Nat.eq_of_beq_eq_true h2
    have h4 : i.agg = aggD d := by simpa using h4
    have hst : i.kind = 4 → ∃ fs, d = .struct fs ∧ fieldsChk P i.offs fs.toList = true := fun e => by
      unfold kindChk at h5
      split at h5 <;> (try rw [e] at h5) <;> first
        | (cases h5; done)
        | exact ⟨_, rfl, ((Bool.and_eq_true _ _).mp h5).2⟩
        | simp at h5
    refine ⟨⟨q, hq, h1, h2, ?_⟩, ⟨d, hd, ?_, ?_, ?_, ?_, ?_, ?_⟩, ?_, ?_, ?_, ?_, ?_, ?_, ?_⟩
    · unfold zeroChk at h3
      split at h3
      · rename_i z hz
        obtain ⟨k12, _⟩ := (Bool.and_eq_true _ _).mp h3
        obtain ⟨k1, k2⟩ := (Bool.and_eq_true _ _).mp k12
        exact ⟨z, hz, Nat.eq_of_beq_eq_true k1, fun X ρ w => leavesChk_ok k2⟩
      · cases h3
    · rw [h4]
      cases d <;> rfl
    · intro e
      unfold kindChk at h5
      split at h5 <;> (try rw [e] at h5) <;> first
        | (cases h5; done)
        | (rw [of_decide_eq_true ((Bool.and_eq_true _ _).mp h5).2]; done)
        | simp at h5
    · intro e
      unfold kindChk at h5
      split at h5 <;> (try rw [e] at h5) <;> first
        | (cases h5; done)
        | rfl
        | simp at h5
    · intro e
      unfold kindChk at h5
      split at h5 <;> (try rw [e] at h5) <;> first
        | (cases h5; done)
        | (rw [Nat.eq_of_beq_eq_true ((Bool.and_eq_true _ _).mp h5).2]; done)
        | simp at h5
    · intro e
      unfold kindChk at h5
      split at h5 <;> (try rw [e] at h5) <;> first
        | (cases h5; done)
        | rfl
        | simp at h5
    · intro e
      obtain ⟨fs, hfs, hc⟩ := hst e
      refine ⟨fs, hfs, fun f o ft ho => ?_⟩
      obtain ⟨fl, k1, k2⟩ := (fieldsChk_ok hc).1 f o ft ho
      exact ⟨fl, by rw [← Array.getElem?_toList]; exact k1, k2⟩
    · intro e
      obtain ⟨fs, rfl, hc⟩ := hst e
      obtain ⟨_, places, k1, k2⟩ := fieldsChk_ok hc
      exact ⟨fs, places, hd, k1, k2⟩
    · intro hz
      rcases (Bool.or_eq_true _ _).mp h6 with k | k
      · have := Nat.eq_of_beq_eq_true k; omega
      · exact (Nat.blt_eq).mp k
    · intro hk
      rw [hk] at h8
      simpa using h8
    · intro hk
      rw [hk] at h10
      replace h10 : arrChk i d = true := by simpa using h10
      unfold arrChk at h10
      split at h10
      · obtain ⟨k1, k2⟩ := (Bool.and_eq_true _ _).mp h10
        split at k2
        · rename_i hoff
          refine ⟨_, _, hoff, ?_⟩
          rw [hd, Nat.eq_of_beq_eq_true k1, Nat.eq_of_beq_eq_true k2]
        · cases k2
      · cases h10
    · intro hk
      rw [hk] at h9
      replace h9 : mapChk P d = true := by simpa using h9
      unfold mapChk at h9
      split at h9
      · rename_i k e _
        obtain ⟨k1, k2⟩ := (Bool.and_eq_true _ _).mp h9
        unfold zeroIs at k2
        split at k2
        · rename_i q hq2
          split at k2
          · rename_i hz
            refine ⟨k, e, q, hd, ?_, hq2, hz⟩
            split at k1
            · assumption
            · cases k1
          · cases k2
        · cases k2
      · cases h9
    · intro ha q' z hq' hz
      rw [hq] at hq'
      cases hq'
      unfold zeroChk at h3
      rw [hz] at h3
      obtain ⟨_, k⟩ := (Bool.and_eq_true _ _).mp h3
      rw [ha] at k
      have k : notAgg z = true := k
      cases z <;> first | rfl | cases k
    · intro e
      rw [e] at h7
      exact eqChk_ok (by simpa using h7)
  · cases h
theorem tabChk_ok : ∀ {T : Tab TI} {g : Nat → Nat}, tabChk P T g = true → ∀ n i, T.get n = some i → TiFor P (g n) i
  | .nil, g, _, n, i, h => by cases h
  | .node l v r, g, hc, n, i, h => by
    unfold tabChk at hc
    simp only [Bool.and_eq_true] at hc
    obtain ⟨⟨h1, h2⟩, h3⟩ := hc
    unfold Tab.get at h
    cases h0 : Nat.beq n 0 with
    | true =>
      rw [h0] at h
      have h : v = some i := h
      subst h
      rw [Nat.eq_of_beq_eq_true h0]
      exact tiChk_ok h1
    | false =>
      rw [h0] at h
      have hn0 := Nat.ne_of_beq_eq_false h0
      cases hp : Nat.beq (n % 2) 1 with
      | true =>
        rw [hp] at h
        have hp := Nat.eq_of_beq_eq_true hp
        have := tabChk_ok h2 (n / 2) i h
        rwa [show 2 * (n / 2) + 1 = n by omega] at this
      | false =>
        rw [hp] at h
        have hp := Nat.ne_of_beq_eq_false hp
        have := tabChk_ok h3 (n / 2 - 1) i h
        rwa [show 2 * (n / 2 - 1) + 2 = n by omega] at this
theorem ti_ok {T : Tab TI} (h : tabChk P T (fun n => n) = true) : TiOk P T := fun t i hi => tabChk_ok h t i hi
end
end Go.Proofs.YtcnkbllbpimaiaaGreatDoorE

namespace Go.Proofs.YtcnkbllbpimaiaaGreatDoorE
open Go Go.RowKit Go.WideShapes
set_option linter.unusedVariables false
def oFs (chk : TypeId → Ty → Bool) (P : Program) : List Field → Nat → Ty → Bool
  | [], _, _ => false
  | [f], o, ty => Nat.beq f.offset o && chk f.type ty
  | f :: fs, o, .pair a b => Nat.beq f.offset o && chk f.type a && oFs chk P fs (o + a.sz) b
  | _, _, _ => false
/-- The type, as a type of data. -/
def oChk (P : Program) : Nat → TypeId → Ty → Bool
  | 0, _, _ => false
  | n + 1, t, ty => Nat.beq (P.cellsOf t) ty.sz && match P.underlying t with
    | some (.struct fs) => oFs (oChk P n) P fs.toList 0 ty
    | d => match d, ty with
      | some (.int k), .int k' => decide (k = k')
      | some .bool, .bool => true
      | some .string, .str => true
      | some (.slice e), .sl r => Nat.blt 0 r.sz && Nat.blt 0 (P.bytesOf e) && oChk P n e r
      | _, _ => false
/-- In bounds. -/
def Bnd : (t : Ty) → t.T → Prop
  | .int k, n => (Lit.int k n).wf = true
  | .bool, _ => True
  | .str, s => s.length ≤ 140737488351232
  | .sl r, l => l.length ≤ 140737488351232 ∧ ∀ a ∈ l, Bnd r a
  | .pair a b, x => Bnd a x.1 ∧ Bnd b x.2
  | .unit, _ => True
/-- Any block there is. -/
def Old (w : World) (b : Nat) : Prop := b < w.heap.size
def Opn (P : Program) (t : TypeId) (ty : Ty) : Prop :=
  ∀ (H : Type) (enc : TypeId × Value → H) (w : World) (base : Nat) (spare : Nat → Bool) (held : Bool) (fuel : Nat) (cs : List Value) (x : DataW H × List MemPlace),
    DataW.trod enc P w base spare held fuel t cs = some x → (x.1.weights P t).all (· ≤ reachBytes) = true → ∃ y : ty.T, Rep w (Old w) ty y cs ∧ Bnd ty y
theorem weightsAll_mem {H : Type} {P : Program} {e : TypeId} : ∀ {l : List (DataW H)} {d : DataW H}, d ∈ l → ∀ n ∈ d.weights P e, n ∈ DataW.weightsAll P e l
  | d0 :: l, d, hd, n, hn => by
    simp only [DataW.weightsAll, List.mem_append]
    rcases List.mem_cons.1 hd with rfl | hd
    · exact .inl hn
    · exact .inr (weightsAll_mem hd n hn)
theorem choose_list {α β : Type} {R : Nat → β → α → Prop} : ∀ (l : List β) (o : Nat), (∀ i y, l[i]? = some y → ∃ a, R (o + i) y a) → ∃ al : List α, al.length = l.length ∧ ∀ i a, al[i]? = some a → ∃ y, l[i]? = some y ∧ R (o + i) y a
  | [], _, _ => ⟨[], rfl, fun i a h => by simp at h⟩
  | y :: l, o, h => by
    obtain ⟨a, ha⟩ := h 0 y rfl
    obtain ⟨al, h1, h2⟩ := choose_list (R := R) l (o + 1) (fun i z hz => by have := h (i + 1) z (by simpa using hz); rwa [show o + 1 + i = o + (i + 1) by omega])
    refine ⟨a :: al, by simp [h1], ?_⟩
    intro i b hb
    cases i with
    | zero =>
      simp at hb
      subst hb
      exact ⟨y, rfl, ha⟩
    | succ i =>
      obtain ⟨z, hz, hr⟩ := h2 i b (by simpa using hb)
      exact ⟨z, by simpa using hz, by rwa [show o + 1 + i = o + (i + 1) by omega] at hr⟩
section
variable {P : Program}
theorem opn_slice {t e : TypeId} {r : Ty} (ht : P.underlying t = some (.slice e)) (hr : 0 < r.sz) (hB : 0 < P.bytesOf e) (hc : P.cellsOf e = r.sz) (he : Opn P e r) : Opn P t (.sl r) := by
  intro H enc w base spare held fuel cs x h hz
  rcases DataW.trod_slice ht h with ⟨rfl, rfl⟩ | ⟨a, len, cap, elems, rest, n, _, rfl, rfl, _, hl, hm, hlen, hel, _, _⟩
  · exact ⟨[], ⟨none, 0, rfl, Nat.le_refl _, .inl rfl⟩, by simp, by simp⟩
  · have hwt : ∀ y ∈ elems, (y.1.weights P e).all (· ≤ reachBytes) = true := by
      intro y hy
      rw [List.all_eq_true]
      intro m hm'
      refine List.all_eq_true.1 hz m ?_
      simp only [DataW.weights, ht, List.mem_cons, List.mem_append]
      exact .inr (.inl (weightsAll_mem (List.mem_map_of_mem hy) m hm'))
    have hbytes : len ≤ 140737488351232 := by
      have z := of_decide_eq_true (List.all_eq_true.1 hz ((elems.map (·.1)).length + (rest.map (·.1)).length |>.mul (P.bytesOf e)) (by simp only [DataW.weights, ht, List.mem_cons]; exact .inl rfl))
      simp only [List.length_map] at z
      have z3 : (elems.length + rest.length) * P.bytesOf e ≤ 140737488351232 := z
      have z4 : (elems.length + rest.length) * 1 ≤ (elems.length + rest.length) * P.bytesOf e := Nat.mul_le_mul_left _ hB
      omega
    obtain ⟨l, hll, hla⟩ := choose_list (R := fun i y (b : r.T) => ∃ c, w.cells? base (a.add (i * P.cellsOf e)) (P.cellsOf e) = some c ∧ Rep w (Old w) r b c ∧ Bnd r b) elems 0 (by
      intro i y hy
      have hi : i < len := by
        have := (List.getElem?_eq_some_iff.1 hy).1
        omega
      have := hel i hi
      rw [hy, Option.bind_eq_some_iff] at this
      obtain ⟨c, hc, ht'⟩ := this
      obtain ⟨b, hk, hb⟩ := he H enc w base spare held n c y ht' (hwt y (List.mem_of_getElem? hy))
      exact ⟨b, c, by rw [Nat.zero_add]; exact hc, hk, hb⟩)
    have hll' : l.length = len := by omega
    subst hll'
    have hcell : ∀ (j : Nat) (p : r.T), l[j]? = some p → ∃ c, Rep w (Old w) r p c ∧ Bnd r p ∧ ∀ (i : Nat) (u : Value), c[i]? = some u → w.cell? ((a.add (j * r.sz)).add i) = some u := by
      intro j p hp
      obtain ⟨y, _, c, hc', hk, hb⟩ := hla j p hp
      rw [Nat.zero_add] at hc'
      refine ⟨c, hk, hb, fun i u hu => ?_⟩
      have hlen' := hk.len
      have hi : i < P.cellsOf e := by
        rw [hc, ← hlen']
        exact (List.getElem?_eq_some_iff.1 hu).1
      have := (World.cells?_some hc').2.2 i hi
      rw [hu, hc] at this
      exact this
    refine ⟨l, ⟨some a, cap, rfl, hl, ?_⟩, hbytes, fun b hb => ?_⟩
    · cases hl0 : l with
      | nil => exact .inl rfl
      | cons p l' =>
        refine .inr ?_
        obtain ⟨c, hk, _, hu⟩ := hcell 0 p (by rw [hl0]; rfl)
        have h0 : w.cell? a = some (c[0]'(by rw [hk.len]; exact hr)) := by
          have := hu 0 _ (List.getElem?_eq_getElem (by rw [hk.len]; exact hr))
          simpa [Addr.add] using this
        have hspot : a.spot = none := by
          unfold World.cell? at h0
          split at h0
          · cases hs : a.spot with
            | none => rfl
            | some _ => rw [hs] at h0; simp at h0
          · cases h0
        have hblk : a.block < w.heap.size := by
          unfold World.cell? at h0
          split at h0
          · rename_i hh
            exact (Array.getElem?_eq_some_iff.1 hh).1
          · cases h0
        refine ⟨a.block, a.off, ?_, hblk, fun j q hq => ?_⟩
        · rw [← hspot]
        · obtain ⟨c', hk', _, hu'⟩ := hcell j q (by rw [hl0]; exact hq)
          refine ⟨c', fun i u hu1 => ?_, hk'⟩
          rw [← hu' i u hu1]
          congr 1
          simp only [Addr.add]
          by_cases h1 : j * r.sz = 0
          · by_cases h2 : i = 0
            · simp [h1, h2, ← hspot]
            · simp [h1, h2]
          · by_cases h2 : i = 0 <;> simp [h1, h2, Nat.add_assoc]
    · obtain ⟨i, hi⟩ := List.getElem?_of_mem hb
      obtain ⟨c, _, h2, _⟩ := hcell i b hi
      exact h2
theorem oFs_rep {chk : TypeId → Ty → Bool} (hchk : ∀ t ty, chk t ty = true → P.cellsOf t = ty.sz ∧ Opn P t ty) : ∀ {fs : List Field} {o : Nat} {ty : Ty}, oFs chk P fs o ty = true →
    ∀ (H : Type) (enc : TypeId × Value → H) (w : World) (base : Nat) (spare : Nat → Bool) (held : Bool) (fuel : Nat) (cs : List Value) (xs : List (DataW H × List MemPlace)),
    (∀ (i : Nat) (f : Field), fs[i]? = some f → DataW.trod enc P w base spare held fuel f.type ((cs.drop f.offset).take (P.cellsOf f.type)) = xs[i]?) → xs.length = fs.length → cs.length = o + ty.sz →
    (DataW.weightsEach P (fs.map (·.type)) (xs.map (·.1))).all (· ≤ reachBytes) = true → ∃ y : ty.T, Rep w (Old w) ty y (cs.drop o) ∧ Bnd ty y
  | [], o, ty, h => by cases h
  | [f], o, ty, h => by
    obtain ⟨h1, h2⟩ := (Bool.and_eq_true _ _).mp (show (Nat.beq f.offset o && chk f.type ty) = true by cases ty <;> exact h)
    have h1 := Nat.eq_of_beq_eq_true h1
    obtain ⟨hc, ho⟩ := hchk _ _ h2
    intro H enc w base spare held fuel cs xs hx hl hcs hz
    cases xs with
    | nil => simp at hl
    | cons x xs =>
      have h0 := hx 0 f rfl
      rw [h1, hc, List.take_of_length_le (by simp; omega)] at h0
      exact ho H enc w base spare held fuel _ x h0 (by
        simp only [List.map_cons, DataW.weightsEach, List.all_append, Bool.and_eq_true] at hz
        exact hz.1)
  | f :: g :: fs, o, ty, h => by
    cases ty with
    | pair a b =>
      obtain ⟨h12, h3⟩ := (Bool.and_eq_true _ _).mp (show ((Nat.beq f.offset o && chk f.type a) && oFs chk P (g :: fs) (o + a.sz) b) = true from h)
      obtain ⟨h1, h2⟩ := (Bool.and_eq_true _ _).mp h12
      have h1 := Nat.eq_of_beq_eq_true h1
      obtain ⟨hc, ho⟩ := hchk _ _ h2
      intro H enc w base spare held fuel cs xs hx hl hcs hz
      cases xs with
      | nil => simp at hl
      | cons x xs =>
        have h0 := hx 0 f rfl
        rw [h1, hc] at h0
        replace hz : (DataW.weights P f.type x.1 ++ DataW.weightsEach P ((g :: fs).map (·.type)) (xs.map (·.1))).all (· ≤ reachBytes) = true := hz
        rw [List.all_append, Bool.and_eq_true] at hz
        have hcs' : cs.length = o + (a.sz + b.sz) := hcs
        obtain ⟨y, hy, by_⟩ := ho H enc w base spare held fuel _ x h0 hz.1
        obtain ⟨z, hz1, bz⟩ := oFs_rep hchk h3 H enc w base spare held fuel cs xs (fun i q hq => hx (i + 1) q (by simpa using hq)) (by simpa using hl) (by omega) hz.2
        refine ⟨(y, z), ⟨_, _, ?_, hy, hz1⟩, by_, bz⟩
        rw [← List.drop_drop, List.take_append_drop]
    | _ => cases h
theorem opn_of : ∀ (n : Nat) (t : TypeId) (ty : Ty), oChk P n t ty = true → P.cellsOf t = ty.sz ∧ Opn P t ty
  | 0, _, _, h => by cases h
  | n + 1, t, ty, h => by
    unfold oChk at h
    obtain ⟨hc, h⟩ := (Bool.and_eq_true _ _).mp h
    have hc := Nat.eq_of_beq_eq_true hc
    refine ⟨hc, ?_⟩
    split at h
    · rename_i fs hu
      intro H enc w base spare held fuel cs x hx hz
      obtain ⟨xs, m, rfl, rfl, hl, hxs, he⟩ := DataW.trod_struct hu hx
      simp only [DataW.weights, hu] at hz
      obtain ⟨y, hy, b⟩ := oFs_rep (opn_of n) h H enc w base spare held m cs xs (fun i q hq => he i q (by rw [← Array.getElem?_toList]; exact hq)) (by simpa using hxs) (by rw [Nat.zero_add, ← hc]; exact hl) hz
      exact ⟨y, hy, b⟩
    · split at h
      · rename_i k k' hu _ _
        have hk := of_decide_eq_true h
        subst hk
        intro H enc w base spare held fuel cs x hx hz
        obtain ⟨m, rfl, _, hw⟩ := DataW.trod_int hu hx
        exact ⟨m, rfl, hw⟩
      · rename_i hu _ _
        intro H enc w base spare held fuel cs x hx hz
        obtain ⟨m, rfl, _⟩ := DataW.trod_bool hu hx
        exact ⟨m, rfl, trivial⟩
      · rename_i hu _ _
        intro H enc w base spare held fuel cs x hx hz
        obtain ⟨s, rfl, rfl, _⟩ := DataW.trod_string hu hx
        refine ⟨s.data.toList, rfl, ?_⟩
        have z := List.all_eq_true.1 hz s.data.toList.length (by simp [DataW.weights])
        show s.data.toList.length ≤ 140737488351232
        exact of_decide_eq_true z
      · rename_i e r hu _ _
        simp only [Bool.and_eq_true] at h
        obtain ⟨⟨h1, h2⟩, h3⟩ := h
        obtain ⟨k1, k2⟩ := opn_of n e r h3
        exact opn_slice hu ((Nat.blt_eq).mp h1) ((Nat.blt_eq).mp h2) k1 k2
      · cases h
/-! ### arguments -/
theorem weights_arg {H : Type} {ts : List TypeId} {ds : List (DataW H)} (h : (DataW.weightsEach P ts ds).all (· ≤ reachBytes) = true) {j : Nat} {t : TypeId} {d : DataW H} (ht : ts[j]? = some t) (hd : ds[j]? = some d) : (d.weights P t).all (· ≤ reachBytes) = true :=
  List.all_eq_true.2 fun n hn => List.all_eq_true.1 h n (DataW.weights_mem_each ht hd n hn)
theorem trod_lt_all {H : Type} {enc : TypeId × Value → H} {w : World} {base : Nat} {spare : Nat → Bool} {held : Bool} {t : TypeId} {v : Value} {x : DataW H} {ps : List MemPlace} (hd : DataW.Trod enc P w base spare held t v x ps) : ∀ q ∈ ps, q.block < w.heap.size := by
  obtain ⟨m, hm⟩ := hd
  exact DataW.trod_lt m _ _ _ hm
theorem vls_of {w : World} {F B : Nat → Prop} : ∀ {xs : List Leaf} {vs : List Value}, DLeaves w F B xs vs → VLs w F B (xs.map .leaf) vs []
  | [], [], _ => rfl
  | _ :: _, _ :: _, h => ⟨h.1, vls_of h.2⟩
  | [], _ :: _, h => h.elim
  | _ :: _, [], h => h.elim
/-- An argument: a struct, or a value of one cell. -/
def argC (ag : Bool) (ty : Ty) (y : ty.T) : CArg := .val ag ((leaves ty y).map .leaf)
def isStruct : Option TypeDesc → Bool
  | some (.struct _) => true
  | _ => false
theorem arg_rep {H : Type} {enc : TypeId × Value → H} {w : World} {base : Nat} {spare : Nat → Bool} {held : Bool} {t : TypeId} {v : Value} {x : DataW H} {ps : List MemPlace} {r : Reach} {b0 : Nat} {ty : Ty} {n : Nat} {ag : Bool}
    (hk : oChk P n t ty = true) (hag : isStruct (P.underlying t) = ag) (hv : Value.okWide P w r b0 t v) (hd : DataW.Trod enc P w base spare held t v x ps) (hz : (x.weights P t).all (· ≤ reachBytes) = true) :
    ∃ y : ty.T, Bnd ty y ∧ ∀ B, CArgOk w (Old w) B (argC ag ty y) v [] [] := by
  obtain ⟨fuel, hf⟩ := hd
  obtain ⟨y, hy, hb⟩ := (opn_of n t ty hk).2 H enc w base spare held fuel _ _ hf hz
  refine ⟨y, hb, fun B => ?_⟩
  have hd := vls_of ((rep_data hy).mono (fun b hb => hb) (B' := B) fun b hb => hb.elim)
  cases ag with
  | true =>
    cases hu : P.underlying t with
    | none => rw [hu] at hag; cases hag
    | some d =>
      rw [hu] at hag
      cases d with
      | struct fs =>
        obtain ⟨cs, rfl, _⟩ := okWide_struct hu hv
        exact ⟨rfl, cs, rfl, hd⟩
      | _ => cases hag
  | false =>
    have hcell : v.cells.toList = [v] := by
      cases n with
      | zero => cases hk
      | succ n =>
        unfold oChk at hk
        obtain ⟨_, hk⟩ := (Bool.and_eq_true _ _).mp hk
        split at hk
        · rename_i fs hu
          rw [hu] at hag
          cases hag
        · split at hk
          · rename_i hu _ _; obtain ⟨_, rfl⟩ := okWide_int hu hv; rfl
          · rename_i hu _ _; obtain ⟨_, rfl⟩ := okWide_bool hu hv; rfl
          · rename_i hu _ _; obtain ⟨_, rfl⟩ := okWide_string hu hv; rfl
          · rename_i hu _ _; obtain ⟨_, _, _, rfl⟩ := okWide_slice hu hv; rfl
          · cases hk
    rw [hcell] at hd
    exact ⟨rfl, hd⟩
theorem cargs_nil {w : World} {F B : Nat → Prop} : CArgsOk w F B [] [] [] [] := ⟨rfl, rfl⟩
theorem cargs_cons {w : World} {F B : Nat → Prop} {c : CArg} {cs : List CArg} {v : Value} {vs : List Value} (h : CArgOk w F B c v [] []) (k : CArgsOk w F B cs vs [] []) : CArgsOk w F B (c :: cs) (v :: vs) [] [] := ⟨[], [], [], [], rfl, rfl, h, k⟩
/-- A law that returns true, by its contract. -/
theorem law_true {f : FuncId} {c : Con} (h : ConOk P f c) {asx : List CArg} (hrr : (c.f asx).val = some ⟨[.val false [.leaf (.bool true)]], []⟩) {w : World} {vs : List Value} (hgl : GlW w) (ha : CArgsOk w (Old w) (Bor w []) asx vs [] []) :
    Calls P f vs.toArray w fun e w' => e = .returned (.bool true) ∧ Below w.heap.size w w' := by
  refine (h.2 asx _ hrr w vs (Old w) [] [] (fun b hb => ⟨hb, fun hm => nomatch hm⟩) List.nodup_nil ⟨hgl, fun _ _ hm => nomatch hm⟩ ha).mono ?_
  rintro e w' ⟨v, rfl, keep, O1, O2, _, _, _, hv⟩
  have hv : RLsOk w' (Out (Old w) (mBlocks []) w w' (O1 ++ O2)) [.leaf (.bool true)] [v] O2 := hv
  have hv : v = .bool true := hv.1
  refine ⟨by rw [hv], keep.1, keep.2.1, keep.2.2.1, keep.2.2.2.1, fun b hb => keep.2.2.2.2 b hb fun hm => nomatch hm⟩
theorem shutB {H : Type} {enc : TypeId × Value → H} {W : World} {base : Nat} {sp : Nat → Bool} {held : Bool} {t : TypeId} (ht : P.underlying t = some .bool) (b : Bool) : DataW.Trod enc P W base sp held t (.bool b) (.lit (.bool b)) [] := ⟨1, by simp [DataW.trod, Value.cells, ht]⟩
end
end Go.Proofs.YtcnkbllbpimaiaaGreatDoorE

namespace Go.Proofs.YtcnkbllbpimaiaaGreatDoorE
open Go Go.RowKit
set_option linter.unusedVariables false
def valS : DV → Option Value
  | .mk (.int k) n => some (.int k n)
  | .mk .bool b => some (.bool b)
  | .mk .str s => some (.string (ba s))
  | _ => none
def scalar : Ty → Bool
  | .int _ => true
  | .bool => true
  | .str => true
  | _ => false
def scalPs : List PK → Bool
  | [] => true
  | .val false t [.ro] :: ps => scalar t && scalPs ps
  | _ => false
def scalRs : List SK → Bool
  | [] => true
  | .val false [.v t] :: rs => scalar t && scalRs rs
  | _ => false
section
variable {P : Program} {w : World} {F B : Nat → Prop}
theorem enter_of {f : FuncId} {fn : Func} {c : Code} (hf : P.funcs[f]? = some fn) (hname : (fn.name == "runtime.NumGoroutine") = false) (hb : fn.body = some c) : ∀ args w, (callFunc f args).run P w = .ok (.enter f args) w := fun args w => by
  simp [callFunc, hf, hb, by simpa using hname]
theorem unl_scal {t : Ty} (ht : scalar t = true) {x : Leaf} {y : t.T} {v : Value} (h : unlA t [x] = some y) (hx : DLeaf w F B x v) : valS (.mk t y) = some v := by
  have key : ∃ y', unl t [x] = some (y', []) ∧ y' = y := by
    unfold unlA at h
    split at h
    · rename_i z hz; cases h; exact ⟨_, hz, rfl⟩
    · cases h
  obtain ⟨y', hu, rfl⟩ := key
  cases t with
  | int k =>
    replace hu : unlInt k [x] = some (y', []) := hu
    unfold unlInt at hu
    split at hu
    · rename_i k' n xs he
      cases he
      split at hu
      · rename_i hk
        subst hk
        cases hu
        exact congrArg (fun u => some u) (show v = _ from hx).symm
      · cases hu
    · cases hu
  | bool =>
    replace hu : unlBool [x] = some (y', []) := hu
    unfold unlBool at hu
    split at hu
    · rename_i b xs he; cases he; cases hu; exact congrArg (fun u => some u) (show v = _ from hx).symm
    · rename_i b xs he; cases he; cases hu; exact congrArg (fun u => some u) (show v = _ from hx).symm
    · cases hu
  | str =>
    replace hu : unlStr [x] = some (y', []) := hu
    unfold unlStr at hu
    split at hu
    · rename_i s xs he; cases he; cases hu; exact congrArg (fun u => some u) (show v = _ from hx).symm
    · cases hu
  | _ => cases ht
theorem scal_args : ∀ {ps : List PK} {asx : List CArg} {vs : List Value} {L : List GI} {M : List Value} {ds : List DV}, scalPs ps = true → CArgsOk w F B asx vs L M → decArgs ps asx = some ds → L = [] ∧ M = [] ∧ vs = ds.filterMap valS
  | [], [], [], L, M, ds, _, h, hd => by
    obtain ⟨rfl, rfl⟩ := h
    cases hd
    exact ⟨rfl, rfl, rfl⟩
  | p :: ps, a :: asx, v :: vs, L, M, ds, hp, h, hd => by
    obtain ⟨L1, L2, M1, M2, rfl, rfl, h1, h2⟩ := h
    unfold scalPs at hp
    split at hp
    · rename_i he; cases he
    · rename_i t ps' he
      cases he
      obtain ⟨ht, hp⟩ := (Bool.and_eq_true _ _).mp hp
      unfold decArgs at hd
      split at hd
      · rename_i d1 d2 hd1 hd2
        cases hd
        obtain ⟨rfl, rfl, rfl⟩ := scal_args hp h2 hd2
        unfold decArg at hd1
        split at hd1
        · rename_i ag t' ms ag' xs he
          cases he
          cases ag' with
          | true => cases hd1
          | false =>
            obtain ⟨rfl, h1⟩ := h1
            replace hd1 : (match dv t (decCLs [.ro] xs) with
              | some x => some [x]
              | none => none) = some d1 := hd1
            split at hd1
            · rename_i d hdv
              cases hd1
              unfold dv at hdv
              split at hdv
              · rename_i ys hys
                split at hdv
                · rename_i y hy
                  cases hdv
                  match xs, hys, h1 with
                  | [], hys, h1 => cases hys
                  | [.leaf z], hys, h1 =>
                    obtain ⟨h1, rfl⟩ := h1
                    have hz : ∃ z', ys = [z'] ∧ (z' = z ∨ ∃ r l, z = .bor r l ∧ z' = .list r l) := by
                      cases z <;> cases hys <;> first | exact ⟨_, rfl, .inl rfl⟩ | exact ⟨_, rfl, .inr ⟨_, _, rfl, rfl⟩⟩
                    obtain ⟨z', rfl, hz⟩ := hz
                    have hv : valS (.mk t y) = some v := by
                      rcases hz with rfl | ⟨r, l, rfl, rfl⟩
                      · exact unl_scal ht hy h1
                      · cases t <;> first | (cases ht; done) | cases hy
                    refine ⟨rfl, rfl, ?_⟩
                    show v :: _ = (DV.mk t y :: d2).filterMap valS
                    rw [List.filterMap_cons_some hv]
                  | [.row e r l], hys, h1 => cases hys
                  | [.nil], hys, h1 => cases hys
                  | _ :: _ :: _, hys, h1 => exact (by
                      unfold decCLs at hys
                      split at hys
                      · rename_i h5; cases h5
                      · cases hys)
                · cases hdv
              · cases hdv
            · cases hd1
        · rename_i he; cases he
        · rename_i he; cases he
        · rename_i he; cases he
        · rename_i he; cases he
        · cases hd1
      · cases hd
    · cases hp
  | [], _ :: _, _, _, _, _, _, _, hd => by cases hd
  | _ :: _, [], _, _, _, _, _, _, hd => by cases hd
  | [], [], _ :: _, _, _, _, _, h, _ => h.elim
  | _ :: _, _ :: _, [], _, _, _, _, h, _ => h.elim
theorem scal_back : ∀ {ps : List PK} (ds : List DV), scalPs ps = true → encBacks ps ds = []
  | [], _, _ => rfl
  | p :: ps, ds, hp => by
    unfold scalPs at hp
    split at hp
    · rename_i he; cases he
    · rename_i t ps' he
      cases he
      obtain ⟨ht, hp⟩ := (Bool.and_eq_true _ _).mp hp
      have e : rowKs (leafTys t) [.ro] = [] := by cases t <;> first | rfl | cases ht
      show (encRows (rowKs (leafTys t) [.ro]) ds).1 ++ encBacks ps _ = []
      rw [e]
      exact scal_back _ hp
    · cases hp
theorem valS_leaf {t : Ty} {y : t.T} {v : Value} (h : valS (.mk t y) = some v) : ∃ x, leaves t y = [x] ∧ DLeaf w F (fun _ => False) x v := by
  cases t with
  | int k => cases h; exact ⟨_, rfl, rfl⟩
  | bool => cases h; exact ⟨_, rfl, rfl⟩
  | str => cases h; exact ⟨_, rfl, rfl⟩
  | _ => cases h
theorem scal_res : ∀ {rs : List SK} {ds : List DV} {us : List Value}, scalRs rs = true → ds.map valS = us.map some → ds.length = rs.length → RComps w F (encRes rs ds).1 us []
  | [], [], [], _, _, _ => rfl
  | r :: rs, d :: ds, u :: us, hr, h, hl => by
    unfold scalRs at hr
    split at hr
    · rename_i he; cases he
    · rename_i t rs' he
      cases he
      obtain ⟨ht, hr⟩ := (Bool.and_eq_true _ _).mp hr
      obtain ⟨h1, h2⟩ : valS d = some u ∧ ds.map valS = us.map some := by
        simpa using h
      obtain ⟨t', y⟩ := d
      obtain ⟨x, e, hx⟩ := valS_leaf (w := w) (F := F) h1
      refine ⟨[], [], rfl, ?_, show RComps w F (encRes rs ds).1 us [] from scal_res hr h2 (by simpa using hl)⟩
      show RLsOk w F ((leaves t' y).map .leaf ++ []) [u] []
      rw [e]
      exact ⟨hx, rfl⟩
    · cases hr
  | [], _ :: _, _, _, _, hl => by cases hl
  | _ :: _, [], _, _, _, hl => by cases hl
  | [], [], _ :: _, _, h, _ => by cases h
  | _ :: _, _ :: _, [], _, h, _ => by cases h
/-- A function of scalars that may read package-level variables: its contract. -/
theorem hand_glob {f : FuncId} {s : Sig} {G : Prod' s.ins → Option (Prod' s.outs)} (henter : ∀ args w, (callFunc f args).run P w = .ok (.enter f args) w) (hps : scalPs s.ps = true) (hrs : scalRs s.rs = true)
    (hc : ∀ (x : Prod' s.ins) (y : Prod' s.outs) (w : World), GlW w → G x = some y → Calls P f ((ofProd s.ins x).filterMap valS).toArray w fun e w' => ∃ us, e = .returned (tupOf us) ∧ (ofProd s.outs y).map valS = us.map some ∧ (ofProd s.outs y).length = s.rs.length ∧ Below w.heap.size w w') : ConOk P f (s.con G) := by
  refine ⟨henter, ?_⟩
  intro asx rr hrr w vs F0 L N hF0 hG hgl hargs
  replace hrr : (s.run G asx).val = some rr := hrr
  unfold Sig.run at hrr
  split at hrr
  · rename_i ds hds
    split at hrr
    · rename_i x hx
      cases hFx : G x with
      | none => simp [CR.val, hFx] at hrr
      | some y =>
        have hrr : s.enc y = rr := by simpa [CR.val, hFx] using hrr
        subst hrr
        obtain ⟨rfl, rfl, rfl⟩ := scal_args hps hargs hds
        have hofx : ofProd s.ins x = ds := of_toProd hx
        have := hc x y w hgl.1 hFx
        rw [hofx] at this
        refine this.mono ?_
        rintro e w' ⟨us, rfl, hus, hlen, bel⟩
        refine ⟨_, rfl, ⟨bel.os, bel.tape, bel.output, bel.size, fun b hb _ => bel.block b hb⟩, [], [], (fun c hc => nomatch hc), List.nodup_nil, ?_, ?_⟩
        · show RRefs w' _ [] (encBacks s.ps (encRes s.rs (ofProd s.outs y)).2) []
          rw [scal_back _ hps]
          rfl
        · exact comps_ret (scal_res hrs hus hlen)
    · cases hrr
  · cases hrr
/-- A function of scalars: its contract. -/
theorem hand_scal {f : FuncId} {s : Sig} {G : Prod' s.ins → Option (Prod' s.outs)} (henter : ∀ args w, (callFunc f args).run P w = .ok (.enter f args) w) (hps : scalPs s.ps = true) (hrs : scalRs s.rs = true)
    (hc : ∀ (x : Prod' s.ins) (y : Prod' s.outs) (w : World), G x = some y → Calls P f ((ofProd s.ins x).filterMap valS).toArray w fun e w' => ∃ us, e = .returned (tupOf us) ∧ (ofProd s.outs y).map valS = us.map some ∧ (ofProd s.outs y).length = s.rs.length ∧ Below w.heap.size w w') : ConOk P f (s.con G) :=
  hand_glob henter hps hrs fun x y w _ h => hc x y w h
end
end Go.Proofs.YtcnkbllbpimaiaaGreatDoorE

namespace Go.Proofs.YtcnkbllbpimaiaaGreatDoorE
open Go Go.RowKit
set_option linter.unusedVariables false
section
variable {P : Program} {X : Nat → Prop} {ρ ρ' : Rho} {st st' : St} {a : Act} {w w' : World} {C : Ctx}
theorem sums_auto : ∀ c : Code, sumsOf .auto c = []
  | .seq a b => by
    show sumsOf .auto a ++ sumsOf .auto b = []
    rw [sums_auto a, sums_auto b]; rfl
  | .cond _ a b => by
    show sumsOf .auto a ++ sumsOf .auto b = []
    rw [sums_auto a, sums_auto b]; rfl
  | .block _ a => sums_auto a
  | .skip => rfl
  | .region _ _ _ => rfl
  | .exit _ => rfl
  | .ret => rfl
  | .loop _ => rfl
  | .rangeFunc _ _ _ _ => rfl
  | .scope _ => rfl
  | .label _ => rfl
  | .goto _ => rfl
  | .refuse _ => rfl
theorem plan_auto_ok (c : Code) : PlanOk P C .auto c := plan_of (sums_auto c) trivial
theorem run_eq_nil {t e : TypeId} (hu : P.underlying t = some (.slice e)) (A : Option Addr) (n c : Nat) : (Go.binOp .eql t (.slice A n c) (.slice none 0 0)).run P w = .ok (.bool A.isNone) w := by
  have h : (Op.equalIn (9999 + 1) t (.slice A n c) (.slice none 0 0)).run P w = .ok A.isNone w := by
    unfold Op.equalIn
    simp only [Sem.run_bind, run_underlying hu, Result.andThen_ok]
    cases A <;> rfl
  show ((Op.equalIn (9999 + 1) t (.slice A n c) (.slice none 0 0)) >>= fun b => pure (Value.bool b)).run P w = _
  simp only [Sem.run_bind, h, Result.andThen_ok, Sem.run_pure]
/-- Clone of a slice: of nil, nil; else a new row. -/
theorem clone_wp {f : FuncId} {fn : Func} {A N Z : Code} {o1 o2 : Oper} {i1 : Nat} {t e u : TypeId} {s : Sig} {G : Prod' s.ins → Option (Prod' s.outs)} (H : CtxOk P C) (hf : P.funcs[f]? = some fn) (hname : (fn.name == "runtime.NumGoroutine") = false)
    (hb : fn.body = some (.seq A (.seq (.seq (.region i1 #[o1, o2] false) (.cond (.tmp 4) N .skip)) Z))) (hn : fn.ntmps = s.ntmps) (hps : Nat.ble s.ps.length s.ntmps = true) (hlt : Nat.blt 4 s.ntmps = true)
    (g1 : o1.guard = none) (p1 : o1.op = .move (.tmp 0)) (d1 : o1.dst = some 3) (g2 : o2.guard = none) (p2 : o2.op = .binOp .eql t (.tmp 3) (.const (.slice none 0 0)) u) (d2 : o2.dst = some 4)
    (hu : P.underlying t = some (.slice e)) (hd : (dsts A).any (Nat.beq 0) = false)
    (hsl : ∀ x, ∃ (r : Ty) (l : List r.T), ((s.start x).tmps.headD .unk = .one (.bor r l) ∨ (s.start x).tmps.headD .unk = .one (.list r l)))
    (hno : ∀ x y, G x = some y → V C .auto A (s.start x) (fun e st => match e with
      | .nrm => V C .auto Z ((st.setT 3 .unk).setT 4 (.one (.kb false))) (s.done C.ti fn.results.toList)
      | _ => none) = some y)
    (hyes : ∀ x y, G x = some y → (∀ (r : Ty) (l : List r.T), ((s.start x).tmps.headD .unk = .one (.bor r l) ∨ (s.start x).tmps.headD .unk = .one (.list r l)) → l = []) → V C .auto A (s.start x) (fun e st => match e with
      | .nrm => V C .auto N ((st.setT 3 .unk).setT 4 (.one (.kb true))) (fun e st => match e with
        | .ret => s.done C.ti fn.results.toList .ret st
        | _ => none)
      | _ => none) = some y) : ConOk P f (s.con G) := by
  refine sig_wp H.ti hf hname hb hn hps fun x y hx X ρ a w hrel => ?_
  have h4 : 4 < s.ntmps := Nat.le_of_ble_eq_true hlt
  have hsn : (s.start x).n = s.ntmps := rfl
  have hslice : ∃ B n c, tmOf a 0 = .slice B n c ∧ (B = none → ∀ (r : Ty) (l : List r.T), ((s.start x).tmps.headD .unk = .one (.bor r l) ∨ (s.start x).tmps.headD .unk = .one (.list r l)) → l = []) := by
    have h0 := hrel.tmps 0
    have e0 : getL .unk (s.start x).tmps 0 = (s.start x).tmps.headD .unk := by cases (s.start x).tmps <;> rfl
    rw [e0] at h0
    obtain ⟨r, l, hl⟩ := hsl x
    have key : ∀ (r : Ty) (l : List r.T), ((s.start x).tmps.headD .unk = .one (.bor r l) ∨ (s.start x).tmps.headD .unk = .one (.list r l)) → ∃ B c, tmOf a 0 = .slice B l.length c ∧ (B = none → l = []) := by
      intro r l hl
      rcases hl with hl | hl
      · rw [hl] at h0
        obtain ⟨B, c, hv, _, h1⟩ := h0
        refine ⟨B, c, List.singleton_inj.1 hv, fun hB => ?_⟩
        rcases h1 with h1 | ⟨_, _, h1, _⟩
        · exact h1
        · rw [hB] at h1; cases h1
      · rw [hl] at h0
        obtain ⟨B, c, hv, _, h1⟩ := h0
        refine ⟨B, c, List.singleton_inj.1 hv, fun hB => ?_⟩
        rcases h1 with h1 | ⟨_, _, h1, _⟩
        · exact h1
        · rw [hB] at h1; cases h1
    obtain ⟨B, c, hv, _⟩ := key r l hl
    refine ⟨B, l.length, c, hv, fun hB r' l' hl' => ?_⟩
    obtain ⟨B', c', hv', h'⟩ := key r' l' hl'
    have e := hv.symm.trans hv'
    injection e with e1 e2 e3
    exact h' (e1 ▸ hB)
  obtain ⟨B, n, c, hv, hnil⟩ := hslice
  intro Q hq
  -- the region of the test, whatever comes behind
  have test : ∀ {ρ1 : Rho} {st1 : St} {a1 : Act} {w1 : World} (Q2 : Exit → Act → World → Prop), Rel X ρ1 st1 a1 w1 → st1.n = s.ntmps → tmOf a1 0 = .slice B n c →
      (∀ a2, Rel X ρ1 ((st1.setT 3 .unk).setT 4 (.one (.kb B.isNone))) a2 w1 → a2.eval (.tmp 4) = .bool B.isNone → SameBut [3, 4] a1 a2 → Q2 .normal a2 w1) → (Code.region i1 #[o1, o2] false).wp P Q2 a1 w1 := by
    intro ρ1 st1 a1 w1 Q2 h1 hn1 hv1 hk
    refine wp_region_list ?_
    show wpList P #[o1, o2] Q2 [o1, o2] a1 w1
    unfold wpList
    rw [if_pos (by simp [Region.wanted, g1])]
    have hx1 : (execOp a1.eval o1).run P w1 = .ok (.value (.slice B n c)) w1 := by
      unfold execOp
      rw [p1]
      have : a1.eval (.tmp 0) = .slice B n c := hv1
      simp [this]
    have hs3 : 3 < a1.tmps.size := by rw [h1.size, hn1]; omega
    have r2 : Rel X ρ1 (st1.setT 3 .unk) (actPut a1 3 (.slice B n c)) w1 := h1.setT (by rw [hn1]; omega) trivial
    have hs4 : 4 < (actPut a1 3 (.slice B n c)).tmps.size := by rw [r2.size]; show 4 < st1.n; rw [hn1]; exact h4
    refine .inl ?_
    unfold Oper.wp
    rw [hx1]
    show wpList P #[o1, o2] Q2 [o2] (a1.put o1.dst (.slice B n c)) w1
    rw [d1]
    show wpList P #[o1, o2] Q2 [o2] (actPut a1 3 (.slice B n c)) w1
    unfold wpList
    rw [if_pos (by simp [Region.wanted, g2])]
    have hx2 : (execOp (actPut a1 3 (.slice B n c)).eval o2).run P w1 = .ok (.value (.bool B.isNone)) w1 := by
      unfold execOp
      rw [p2]
      have e3 : (actPut a1 3 (.slice B n c)).eval (.tmp 3) = .slice B n c := (tmOf_put a1 3 (.slice B n c) hs3 3).trans (if_pos rfl)
      have e5 : (actPut a1 3 (.slice B n c)).eval (.const (.slice none 0 0)) = .slice none 0 0 := rfl
      simp [e3, e5, run_eq_nil hu, Go.eqGuard]
    refine .inl ?_
    unfold Oper.wp
    rw [hx2]
    show wpList P #[o1, o2] Q2 [] ((actPut a1 3 (.slice B n c)).put o2.dst (.bool B.isNone)) w1
    rw [d2]
    refine hk (actPut (actPut a1 3 (.slice B n c)) 4 (.bool B.isNone)) (r2.setT (by show 4 < st1.n; rw [hn1]; exact h4) rfl) ((tmOf_put _ 4 _ hs4 4).trans (if_pos rfl)) fun i hi => ?_
    rw [tmOf_put _ 4 _ hs4 i, if_neg (fun q => hi (by rw [q]; simp)), tmOf_put a1 3 _ hs3 i, if_neg (fun q => hi (by rw [q]; simp))]
  have h0A : (0 : Nat) ∉ dsts A := fun hm => by
    have : (dsts A).any (Nat.beq 0) = true := List.any_eq_true.2 ⟨0, hm, rfl⟩
    rw [hd] at this; cases this
  have hdR : dsts (.region i1 #[o1, o2] false) = [3, 4] := by
    show [o1, o2].filterMap (·.dst) = _
    simp [d1, d2]
  have subA : ∀ i, i ∈ dsts A → i ∈ dsts (.seq A (.seq (.seq (.region i1 #[o1, o2] false) (.cond (.tmp 4) N .skip)) Z)) := fun i hi => List.mem_append_left _ hi
  have subR : ∀ i, i ∈ ([3, 4] : List Nat) → i ∈ dsts (.seq A (.seq (.seq (.region i1 #[o1, o2] false) (.cond (.tmp 4) N .skip)) Z)) := fun i hi => List.mem_append_right _ (List.mem_append_left _ (List.mem_append_left _ (by rw [hdR]; exact hi)))
  have subN : ∀ i, i ∈ dsts N → i ∈ dsts (.seq A (.seq (.seq (.region i1 #[o1, o2] false) (.cond (.tmp 4) N .skip)) Z)) := fun i hi => List.mem_append_right _ (List.mem_append_left _ (List.mem_append_right _ (List.mem_append_left _ hi)))
  have subZ : ∀ i, i ∈ dsts Z → i ∈ dsts (.seq A (.seq (.seq (.region i1 #[o1, o2] false) (.cond (.tmp 4) N .skip)) Z)) := fun i hi => List.mem_append_right _ (List.mem_append_right _ hi)
  cases hB : B with
  | none =>
    refine wp_seq (V_sound H A (plan_auto_ok A) hrel (hyes x y hx (hnil hB)) _ ?_)
    intro e1 ρ1 st1 a1 w1 k1 k2 k3 k4 k5
    cases e1 with
    | exit _ => cases k1
    | ret => cases k1
    | nrm =>
      refine wp_seq (wp_seq (test _ k2 (k4.trans hsn) ((k5 0 h0A).trans hv) ?_))
      intro a2 r3 e4 sb
      rw [hB] at r3 e4
      refine wp_cond_true e4 (V_sound H N (plan_auto_ok N) r3 k1 _ ?_)
      intro e2 ρ2 st2 a3 w2 m1 m2 m3 m4 m5
      cases e2 with
      | nrm => cases m1
      | exit _ => cases m1
      | ret => exact hq .ret ρ2 st2 a3 w2 m1 m2 (k3.trans m3) (m4.trans k4) ((k5.mono subA).trans ((SameBut.mono sb subR).trans (m5.mono subN)))
  | some b =>
    refine wp_seq (V_sound H A (plan_auto_ok A) hrel (hno x y hx) _ ?_)
    intro e1 ρ1 st1 a1 w1 k1 k2 k3 k4 k5
    cases e1 with
    | exit _ => cases k1
    | ret => cases k1
    | nrm =>
      refine wp_seq (wp_seq (test _ k2 (k4.trans hsn) ((k5 0 h0A).trans hv) ?_))
      intro a2 r3 e4 sb
      rw [hB] at r3 e4
      refine wp_cond_false e4 (wp_skip ?_)
      refine V_sound H Z (plan_auto_ok Z) r3 k1 Q ?_
      intro e2 ρ2 st2 a3 w2 m1 m2 m3 m4 m5
      exact hq e2 ρ2 st2 a3 w2 m1 m2 (k3.trans m3) (m4.trans k4) ((k5.mono subA).trans ((SameBut.mono sb subR).trans (m5.mono subZ)))
end
end Go.Proofs.YtcnkbllbpimaiaaGreatDoorE

namespace Go.Proofs.YtcnkbllbpimaiaaGreatDoorE
open Go Go.RowKit
set_option linter.unusedVariables false
/-- One cell's value. -/
def val1 : (r : Ty) → r.T → Option Value
  | .int k, n => some (.int k n)
  | .bool, b => some (.bool b)
  | .str, s => some (.string (ba s))
  | _, _ => none
section
variable {P : Program} {w : World}
theorem rep_val1 {F : Nat → Prop} : ∀ {r : Ty} {x : r.T} {v : Value}, val1 r x = some v → Rep w F r x [v] ∧ r.sz = 1
  | .int k, _, _, h => by cases h; exact ⟨rfl, rfl⟩
  | .bool, _, _, h => by cases h; exact ⟨rfl, rfl⟩
  | .str, _, _, h => by cases h; exact ⟨rfl, rfl⟩
  | .sl _, _, _, h => by cases h
  | .pair _ _, _, _, h => by cases h
  | .unit, _, _, h => by cases h
theorem gl1_of {n : Nat} {r : Ty} {l : List r.T} {cs : Array Value} {ty : TypeId} {fr : Nat × Nat} (hg : w.heap[n]? = some (.cells cs ty fr)) (h : l.map (val1 r) = cs.toList.map some) (hr : r.sz = 1) : Gl1 w n r l := by
  have hlen : l.length = cs.size := by
    have := congrArg List.length h
    simpa using this
  refine ⟨(Array.getElem?_eq_some_iff.1 hg).1, ⟨_, _, rfl, Nat.le_refl _, .inr ⟨n, 0, rfl, rfl, fun j x hj => ?_⟩⟩, cs, ty, fr, hg, by rw [hr, hlen, Nat.mul_one]⟩
  have hx := congrArg (fun z => z[j]?) h
  simp only [List.getElem?_map, hj, Option.map_some] at hx
  cases hv : cs.toList[j]? with
  | none => rw [hv] at hx; cases hx
  | some v =>
    rw [hv] at hx
    have hx : val1 r x = some v := Option.some.inj hx
    refine ⟨[v], fun i u hu => ?_, (rep_val1 hx).1⟩
    cases i with
    | zero =>
      cases hu
      rw [cell_of_row w n _ cs ty fr hg, hr, Nat.zero_add, Nat.mul_one, Nat.add_zero]
      simpa using hv
    | succ i => cases hu
theorem tab_of {n : Nat} {name : String} {k : IntKind} {zs : List Int} (hn : P.globalNamed name = some n) (h : Gl1 w n (.int k) zs) : Lib.TabIs P w name k zs := by
  obtain ⟨_, ⟨A, c, hA, _, hrow⟩, cs, ty, fr, hg, hsz⟩ := h
  cases hA
  unfold Lib.TabIs World.var?
  rw [hn]
  simp only [Option.bind_some, hg]
  congr 1
  apply Array.ext
  · rw [hsz]; simp [Ty.sz]
  · intro i h1 h2
    rcases hrow with rfl | ⟨gb, o, hq, _, hrow⟩
    · rw [hsz] at h1; simp at h1
    · cases hq
      have hi : i < zs.length := by rw [hsz] at h1; simpa [Ty.sz] using h1
      obtain ⟨c, hc, hr⟩ := hrow i zs[i] (List.getElem?_eq_getElem hi)
      have hr : c = [.int k zs[i]] := hr
      subst hr
      have := hc 0 _ rfl
      rw [cell_of_row w n _ cs ty fr hg] at this
      have hz : 0 + i * (Ty.int k).sz + 0 = i := by show 0 + i * 1 + 0 = i; omega
      rw [hz, Array.getElem?_eq_getElem h1] at this
      simp only [List.getElem_toArray, List.getElem_map]
      exact Option.some.inj this
theorem laid_vars {ps : List MemPlace} : ∀ {l : List (String × DataW Unit)} {ps : List MemPlace}, DataW.LaidVars P w l ps → ∀ {name : String} {d : DataW Unit}, (name, d) ∈ l → ∃ g t cs fuel p, P.globalNamed name = some g ∧ (P.globals[g]?).map (·.type) = some t ∧ w.var? P name = some cs ∧ DataW.trod (fun _ => ()) P w 0 (fun _ => true) false fuel t cs.toList = some (d, p)
  | [], _, _, _, _, hm => nomatch hm
  | (n, d) :: l, _, ⟨g, t, cs, fuel, p, q, h1, h2, h3, h4, h5, _⟩, name, d', hm => by
    rcases List.mem_cons.1 hm with e | hm
    · cases e
      exact ⟨g, t, cs, fuel, p, h1, h2, h3, h4⟩
    · exact laid_vars (ps := ps) h5 hm
theorem var_block {name : String} {g : Nat} {cs : Array Value} (hg : P.globalNamed name = some g) (h : w.var? P name = some cs) : ∃ ty fr, w.heap[g]? = some (.cells cs ty fr) := by
  unfold World.var? at h
  rw [hg, Option.bind_some] at h
  split at h
  · rename_i c ty fr hb
    cases h
    exact ⟨ty, fr, hb⟩
  · cases h
/-- A listed table of numbers holds them. -/
theorem laid_ints {l : List (String × DataW Unit)} (h : laidMet P l w) {name : String} {k : IntKind} {zs : List Int} (hm : (name, Lib.tabData k zs) ∈ l) {g n : Nat} {t e : TypeId} (hg : P.globalNamed name = some g) (hty : (P.globals[g]?).map (·.type) = some t)
    (ht : P.underlying t = some (.array n e)) (he : P.underlying e = some (.int k)) (hce : P.cellsOf e = 1) (hct : P.cellsOf t = n) : Gl1 w g (.int k) zs := by
  obtain ⟨ps, hv, _⟩ := h
  obtain ⟨g', t', cs, fuel, p, h1, h2, h3, h4⟩ := laid_vars (ps := ps) hv hm
  obtain rfl := Option.some.inj (hg.symm.trans h1)
  obtain rfl := Option.some.inj (hty.symm.trans h2)
  obtain ⟨ty, fr, hb⟩ := var_block hg h3
  have hc := Lib.cells_of_tab ht he hce hct h4
  exact gl1_of hb (by rw [hc]; simp [val1]) rfl
theorem cells_of_strs {H : Type} {enc : TypeId × Value → H} {base : Nat} {sp : Nat → Bool} {held : Bool} {fuel : Nat} {t e : TypeId} {n : Nat} {cs : List Value} {ss : List Str} {p : List MemPlace}
    (ht : P.underlying t = some (.array n e)) (he : P.underlying e = some .string) (hce : P.cellsOf e = 1) (hct : P.cellsOf t = n)
    (h : DataW.trod enc P w base sp held fuel t cs = some (.agg (ss.map fun s => .lit (.string s)), p)) : cs = ss.map fun s => Value.string (ba s) := by
  cases fuel with
  | zero => simp [DataW.trod] at h
  | succ fuel =>
    simp only [DataW.trod, ht, hce, hct, Nat.mul_one] at h
    split at h
    · rename_i hl
      obtain ⟨xs, hm, hx⟩ := Option.map_eq_some_iff.1 h
      have hxs : xs.map (·.1) = ss.map fun s => (DataW.lit (.string s) : DataW H) := by
        have := congrArg Prod.fst hx
        simpa using this
      have hxl : xs.length = n := by simpa using Lib.mapM_length hm
      have hzl : ss.length = n := by
        have := congrArg List.length hxs
        simp at this
        omega
      apply List.ext_getElem?
      intro i
      by_cases hi : i < n
      · obtain ⟨b, hb, hf⟩ := Lib.mapM_at hm i i (by simp [hi])
        obtain ⟨z, hc, rfl, _⟩ := DataW.trod_string he hf
        have h1 : cs[i]? = some (.string z) := by
          have := congrArg (·[0]?) hc
          simpa [List.getElem?_take, List.getElem?_drop] using this
        have h2 : (xs.map (·.1))[i]? = some (DataW.lit (.string z.data.toList) : DataW H) := by simp [hb]
        rw [hxs] at h2
        simp only [List.getElem?_map, Option.map_eq_some_iff, DataW.lit.injEq, Lit.string.injEq] at h2
        obtain ⟨z', hz', he'⟩ := h2
        rw [h1, List.getElem?_map, hz', Option.map_some, he', ba_data]
      · rw [List.getElem?_eq_none (by omega), List.getElem?_eq_none (by simp; omega)]
    · cases h
/-- A listed table of strings holds them. -/
theorem laid_strs {l : List (String × DataW Unit)} (h : laidMet P l w) {name : String} {ss : List Str} (hm : (name, (.agg (ss.map fun s => .lit (.string s)) : DataW Unit)) ∈ l) {g n : Nat} {t e : TypeId} (hg : P.globalNamed name = some g) (hty : (P.globals[g]?).map (·.type) = some t)
    (ht : P.underlying t = some (.array n e)) (he : P.underlying e = some .string) (hce : P.cellsOf e = 1) (hct : P.cellsOf t = n) : Gl1 w g .str ss := by
  obtain ⟨ps, hv, _⟩ := h
  obtain ⟨g', t', cs, fuel, p, h1, h2, h3, h4⟩ := laid_vars (ps := ps) hv hm
  obtain rfl := Option.some.inj (hg.symm.trans h1)
  obtain rfl := Option.some.inj (hty.symm.trans h2)
  obtain ⟨ty, fr, hb⟩ := var_block hg h3
  have hc := cells_of_strs ht he hce hct h4
  exact gl1_of hb (by rw [hc]; simp [val1]) rfl
end
end Go.Proofs.YtcnkbllbpimaiaaGreatDoorE

namespace Go.Proofs.YtcnkbllbpimaiaaGreatDoorE
open Go Go.RowKit
set_option linter.unusedVariables false
variable {H : Type} {enc : TypeId × Value → H}
theorem handed_and_shaped {a : Assume} {C : Checked} {os : Os} {f : FuncId} {fn : Func} {s : ChangeSpec} {conds : List PathCond} {apart fresh handsOn again : Bool} {X : World → Array Value → Prop}
    (hX : ∀ (w w' : World) (args : Array Value), w.heap = w'.heap → X w args → X w' args)
    (own : ownKnob C.prog.godebug = none) (started : os.Started) (noInit : C.prog.inits.idxOf? f = none) (hfn : C.prog.funcs[f]? = some fn)
    (witness : ∃ (w : World) (tape : Tape) (i : Input), w.os = os ∧ (w.forCall tape i).Shaped C.prog ∧ i.vars = [] ∧ Input.okWide C.prog (w.forCall tape i) .any w.heap.size f i ∧
      ((s.pre enc C.prog fn conds apart (w.forCall tape i).memory i.args ∧ X (w.forCall tape i).memory i.args) ∧ sizedMet enc C.prog fn (OpenSpec.ofChange s) apart (w.forCall tape i).memory i.args) ∧ a.holds C.prog (lone (Frame.enter C.prog f i.args .normal) [] (w.forCall tape i)))
    (contract : ∀ (W : World) (base : Nat) (args : Array Value) (ds gs : List (DataW H)) (before : List MemPlace),
      (∀ (j : Nat) t v, fn.params[j]? = some t → args[j]? = some v → Value.okWide C.prog W .any base t v) →
      DataW.Whole enc C.prog fn.params.toList s.vars apart W args.toList ds gs before →
      conds.all (PathCond.test C.prog ⟨fn.params.toList, ds, s.plain.varTypes C.prog, gs⟩) = true →
      (DataW.weightsEach C.prog (fn.params.toList ++ s.plain.varTypes C.prog) (ds ++ gs)).all (· ≤ reachBytes) = true → X W args → W.ShapedOpen C.prog →
      Calls C.prog f args W fun e W' => ∃ v, e = .returned v ∧ s.post enc C.prog fn apart fresh handsOn again W args v W') :
    ReturnsInHanded a C os f .any (fun w args => (s.pre enc C.prog fn conds apart w args ∧ X w args) ∧ sizedMet enc C.prog fn (OpenSpec.ofChange s) apart w args) (s.post enc C.prog fn apart fresh handsOn again) := by
  refine returnsInHanded_of_calls own started noInit witness ?_
  intro w tape i _ shape _ ok pre _
  obtain ⟨_, _, _, g, hg, _, _, _, _, val⟩ := ok
  obtain rfl : g = fn := Option.some.inj (hg.symm.trans hfn)
  obtain ⟨⟨⟨ds, gs, before, whole, hc⟩, x⟩, sized⟩ := pre
  refine (contract _ w.heap.size i.args ds gs before val (DataW.Whole.of_heap (by rfl) whole) hc (sized.weights whole) (hX _ _ _ (by rfl) x) shape).mono fun e W' he => ?_
  obtain ⟨v, rfl, post⟩ := he
  exact ChangeSpec.post_blind post
def ifaceAt (l : List (String × DataW Unit)) (i : Nat) (name : String) : Bool := match l[i]? with
  | some (n, .iface _ _) => n == name
  | _ => false
def isIface (P : Program) (t : TypeId) : Bool := match P.underlying t with
  | some (.interface _) => true
  | _ => false
/-- A listed variable of an interface's type holds some interface value. -/
theorem laid_iface {P : Program} {w : World} {l : List (String × DataW Unit)} (h : laidMet P l w) {name : String} {i : Nat} (hm1 : ifaceAt l i name = true) {g : Nat} {t : TypeId} (hg : P.globalNamed name = some g) (hty : (P.globals[g]?).map (·.type) = some t)
    (hi1 : isIface P t = true) : GlK w g .unit [] := by
  obtain ⟨nm, d, hm⟩ : ∃ nm d, (name, .iface nm d) ∈ l := by
    unfold ifaceAt at hm1
    split at hm1
    · rename_i n nm d e
      have hn : n = name := by simpa using hm1
      subst hn
      exact ⟨nm, d, List.mem_of_getElem? e⟩
    · cases hm1
  obtain ⟨ms, hi⟩ : ∃ ms, P.underlying t = some (.interface ms) := by
    unfold isIface at hi1
    split at hi1
    · rename_i ms e
      exact ⟨ms, e⟩
    · cases hi1
  obtain ⟨ps, hv, _⟩ := h
  obtain ⟨g', t', cs, fuel, p, h1, h2, h3, h4⟩ := laid_vars (ps := ps) hv hm
  obtain rfl := Option.some.inj (hg.symm.trans h1)
  obtain rfl := Option.some.inj (hty.symm.trans h2)
  obtain ⟨ty, fr, hb⟩ := var_block hg h3
  obtain ⟨f1, u, v, hcs, _⟩ := iface_of_trod hi h4
  have h0 : cs[0]? = some (.iface u v) := by rw [← Array.getElem?_toList, hcs]; rfl
  exact ⟨(Array.getElem?_eq_some_iff.1 hb).1, .iface u v, by rw [cell_of_row w g 0 cs ty fr hb]; exact h0, .inr ⟨u, v, rfl⟩⟩
/-- A variable of a number's type holds some number. -/
theorem shaped_int {P : Program} {w : World} {g : Nat} {t : TypeId} {zero : Array Value} {k : IntKind} (h : w.ShapedOpen P) (hg : g < P.globals.size)
    (h0 : ((begin P (fun _ _ => 0) default).world.heap[g]?).bind Obj.row? = some (zero, t)) (hz : zero.size = 1)
    (hb : P.buildable t = true) (hc : P.cellTypes P.depth t = some [t]) (hu : P.underlying t = some (.int k)) : GlK w g (.int k) [] := by
  obtain ⟨cs, hh, _, _⟩ := h.1 g zero t hg h0
  exact ⟨(Array.getElem?_eq_some_iff.1 hh).1, Go.Proofs.cell_of_shapedOpen_int h hg h0 hz hb hc hu⟩
end Go.Proofs.YtcnkbllbpimaiaaGreatDoorE
