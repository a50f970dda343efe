/- What the law FnExactDeedText needs, part 4 of 8: the Lean functions of the Go functions that it reaches, with the proofs that the calls come to what they say, and plain facts about them. Conditions: those that each theorem states. Written by a session and by its programs (after the kit's printer). -/
import Derived.Orders
import Derived.Test.YtaajcllchbnjiaaDoorXFnExactDeedText2
namespace Go.Proofs.YtaajcllchbnjiaaDoorE
open Go Go.RowKit
set_option linter.unusedVariables false
section
variable {P : Program} {o : Oper} {X : Nat → Prop} {ρ ρ' : Rho} {st st' : St} {a : Act} {w w' : World} {g : Option (Nat × Bool)} {R : Type} {r : R} {K : AV → St → Option R} {C : Ctx}
structure CtxOk (P : Program) (C : Ctx) : Prop where
  ti : TiOk P C.ti
  con : ConsOk P C.con
  mix : P.follows .mixedOrders = true
theorem evalCall_sound (H : CtxOk P C) (h : Rel X ρ st a w) (hg : Held a g) {c : Call} (ho : o.op = .call c) (hr : (evalCall C g c).run st K = some r) : Good P o a w X ρ st K r := by
  unfold evalCall at hr
  split at hr
  · exact good_len H.ti h hg ho (by assumption) (by assumption) hr
  · exact good_append H.ti h hg ho (by assumption) (by assumption) hr
  · exact good_call H.con h hg ho (by assumption) hr
  · exact good_max (mx := true) h hg ho (by assumption) (by assumption) hr
  · exact good_max (mx := false) h hg ho (by assumption) (by assumption) hr
  · exact good_clear H.ti h hg ho (by assumption) (by assumption) hr
  · exact good_copy H.ti h hg ho (by assumption) (by assumption) hr
  · cases hr
theorem evalOp_sound (H : CtxOk P C) (h : Rel X ρ st a w) (hg : Held a g) (hr : (evalOp C g o).run st K = some r) : Good P o a w X ρ st K r := by
  unfold evalOp at hr
  split at hr
  · exact good_move h hg (.inl (by assumption)) hr
  · exact good_move h hg (.inr (by assumption)) hr
  · exact good_pick h hg (by assumption) hr
  · exact good_alloc H.ti h (by assumption) hr
  · exact good_box h hg (by assumption) hr
  · exact good_build H.ti h hg (by assumption) hr
  · exact good_buildSlice H.ti h hg (by assumption) hr
  · exact good_load H.ti h hg (by assumption) hr
  · exact good_store H.ti h hg (by assumption) hr
  · exact good_nilCheck h hg (by assumption) hr
  · exact good_binOp H.ti h hg (by assumption) hr
  · exact good_unOp h hg (by assumption) hr
  · exact good_convertM H.ti h hg (by assumption) hr
  · exact good_makeFunc h hg (by assumption) hr
  · exact good_makeSlice H.ti h hg (by assumption) hr
  · exact good_slice H.ti h hg (by assumption) hr
  · exact good_makeMap H.ti h (by assumption) hr
  · exact good_lookup H.ti h hg (by assumption) hr
  · exact good_mapUpdate H.ti h hg (by assumption) hr
  · exact good_fieldAddr H.ti h hg (by assumption) hr
  · exact good_field H.ti h hg (by assumption) hr
  · exact good_glAddr H.ti h hg (by assumption) hr
  · exact good_indexAddr H.ti h hg (by assumption) hr
  · exact good_index H.ti h hg (by assumption) hr
  · exact good_extract h hg (by assumption) hr
  · exact evalCall_sound H h hg (by assumption) hr
  · cases hr
/-! ### a bool that is known -/
theorem known_sound : ∀ (k t : Nat) {st : St} {K : St → Option R}, Rel X ρ st a w → known k t st K = some r → ∃ st', K st' = some r ∧ Rel X ρ st' a w ∧ st'.n = st.n
  | 0, _, _, _, _, hr => by cases hr
  | k + 1, t, st, K, h, hr => by
    unfold known at hr
    have ht := h.tmp t
    split at hr
    · exact ⟨st, hr, h, rfl⟩
    · exact ⟨st, hr, h, rfl⟩
    · rename_i b hb
      rw [hb] at ht
      have ht : tmOf a t = .bool b := by
        rcases ht with ht | ⟨_, _, _, e, _⟩
        · exact ht
        · cases e
      cases b with
      | true => exact ⟨_, hr, h.refT ht, rfl⟩
      | false => exact ⟨_, hr, h.refT ht, rfl⟩
    · rename_i t1 w1 x hb
      rw [hb] at ht
      have ht : GdOk X ρ w (tmOf a) t1 w1 x (tmOf a t) := by
        rcases ht with ht | ⟨_, _, _, e, ht⟩
        · exact ht.elim
        · cases e; exact ht
      obtain ⟨st1, hr1, h1, n1⟩ := known_sound k t1 h hr
      have ht1 := h1.tmp t1
      split at hr1
      · rename_i b hb1
        rw [hb1] at ht1
        have ht1 : tmOf a t1 = .bool b := by
          rcases ht1 with ht1 | ⟨_, _, _, e, _⟩
          · exact ht1
          · cases e
        cases hbw : (b == w1) with
        | true =>
          rw [hbw] at hr1
          have : b = w1 := by simpa using hbw
          subst this
          have hx : AvOk X ρ w x (tmOf a t) := by
            rcases ht with ht | ht
            · exact ht.2
            · exact absurd ht1 ht.1
          obtain ⟨st2, hr2, h2, n2⟩ := known_sound k t (h1.refT hx) hr1
          exact ⟨st2, hr2, h2, n2.trans n1⟩
        | false =>
          rw [hbw] at hr1
          refine ⟨_, hr1, h1.refT ?_, n1⟩
          show tmOf a t = undef
          rcases ht with ht | ht
          · rw [ht.1] at ht1
            cases ht1
            simp at hbw
          · exact ht.2
      · rename_i hb1
        rw [hb1] at ht1
        have ht1 : tmOf a t1 = undef := by
          rcases ht1 with ht1 | ⟨_, _, _, e, _⟩
          · exact ht1
          · cases e
        refine ⟨_, hr1, h1.refT ?_, n1⟩
        show tmOf a t = undef
        rcases ht with ht | ht
        · rw [ht.1] at ht1
          cases ht1
        · exact ht.2
      · cases hr1
    · cases hr
/-! ### regions -/
theorem wanted_true {ops : Array Oper} {j t : Nat} {b : Bool} (hg : o.guard = some (j, b)) (ht : (ops[j]?).bind (·.dst) = some t) (h : tmOf a t = .bool b) : Region.wanted o (yielded ops a.tmps) = true := by
  unfold Region.wanted yielded
  rw [hg]
  have h1 : a.tmps[t]? = some (.bool b) := by
    unfold tmOf at h
    rw [Array.getD_eq_getD_getElem?] at h
    cases h2 : a.tmps[t]? with
    | none => rw [h2] at h; cases h
    | some v => rw [h2] at h; exact congrArg some h
  simp [ht, h1]
theorem wanted_false {ops : Array Oper} {j t : Nat} {b : Bool} (hg : o.guard = some (j, b)) (ht : (ops[j]?).bind (·.dst) = some t) (h : tmOf a t ≠ .bool b) : Region.wanted o (yielded ops a.tmps) = false := by
  unfold Region.wanted yielded
  rw [hg]
  simp only [ht, Option.bind_some]
  unfold tmOf at h
  rw [Array.getD_eq_getD_getElem?] at h
  cases h2 : a.tmps[t]? with
  | none => simp
  | some v =>
    rw [h2] at h
    have h : v ≠ .bool b := h
    cases v with
    | bool b' =>
      have hb : b' ≠ b := fun e => h (congrArg Value.bool e)
      simpa using hb
    | _ => rfl
/-- Slots that no operation of a list writes are as they were. -/
def SameBut (ds : List Nat) (a a' : Act) : Prop := ∀ i, i ∉ ds → tmOf a' i = tmOf a i
theorem SameBut.refl (ds : List Nat) (a : Act) : SameBut ds a a := fun _ _ => rfl
theorem tmOf_aput {d : Option Tmp} {v : Value} {i : Nat} (h : d ≠ some i) : tmOf (a.put d v) i = tmOf a i := by
  cases d with
  | none => rfl
  | some d =>
    have hd : d ≠ i := fun e => h (by rw [e])
    unfold tmOf Act.put
    simp only [Array.getD_eq_getD_getElem?, Array.getElem?_setIfInBounds]
    rw [if_neg hd]
theorem dstOk_lt (h : dstOk st o = true) : ∀ i, o.dst = some i → i < st.n := by
  intro i hi
  unfold dstOk at h
  rw [hi] at h
  exact Nat.le_of_ble_eq_true h
theorem runOps_sound (H : CtxOk P C) (ops : Array Oper) : ∀ (l : List Oper) {ρ : Rho} {st : St} {a : Act} {w : World} {K : St → Option R}, Rel X ρ st a w → runOps C ops l st K = some r →
    ∀ Q : Exit → Act → World → Prop, (∀ ρ' st' a' w', K st' = some r → Rel X ρ' st' a' w' → Ext ρ w ρ' w' → st'.n = st.n → SameBut (l.filterMap (·.dst)) a a' → Q .normal a' w') → wpList P ops Q l a w
  | [], ρ, st, a, w, K, h, hr, Q, hq => hq ρ _ a w hr h.clear (Ext.refl _ _) rfl (SameBut.refl _ _)
  | o :: rest, ρ, st, a, w, K, h, hr, Q, hq => by
    unfold runOps at hr
    cases hd : dstOk st o with
    | false => rw [hd] at hr; cases hr
    | true =>
      rw [hd] at hr
      have hlt := dstOk_lt hd
      -- what follows an operation that is carried out
      have exec : ∀ {st1 : St} {K2 : AV → St → Option R}, Rel X ρ st1 a w → st1.n = st.n → (evalOp C none o).run st1 (fun v st' => runOps C ops rest (st'.put o.dst v) K) = some r → Region.wanted o (yielded ops a.tmps) = true → wpList P ops Q (o :: rest) a w := by
        intro st1 K2 h1 n1 hr1 hw
        unfold wpList
        rw [if_pos hw]
        refine .inl (evalOp_sound H h1 (fun t b (e : none = some (t, b)) => nomatch e) hr1 _ _ ?_)
        intro av v ρ' st' w' hk hv hrel hx hn
        refine runOps_sound H ops rest (hrel.put (fun i hi => by rw [hn, n1]; exact hlt i hi) hv) hk Q ?_
        intro ρ2 st2 a2 w2 k1 k2 k3 k4 k5
        refine hq ρ2 st2 a2 w2 k1 k2 (hx.trans k3) (k4.trans ?_) ?_
        · have : (st'.put o.dst av).n = st'.n := by cases o.dst <;> rfl
          rw [this, hn, n1]
        · intro i hi
          have h1 : o.dst ≠ some i := fun e => hi (List.mem_filterMap.2 ⟨o, List.mem_cons_self, e⟩)
          rw [k5 i (fun hm => hi (by
            obtain ⟨q, hq1, hq2⟩ := List.mem_filterMap.1 hm
            exact List.mem_filterMap.2 ⟨q, List.mem_cons_of_mem _ hq1, hq2⟩))]
          exact tmOf_aput h1
      have skip : ∀ {st1 : St} (st2 : St), Rel X ρ st2 (a.put o.dst undef) w → st2.n = st.n → runOps C ops rest st2 K = some r → Region.wanted o (yielded ops a.tmps) = false → wpList P ops Q (o :: rest) a w := by
        intro st1 st2 h1 n1 hr1 hw
        unfold wpList
        rw [if_neg (by rw [hw]; simp)]
        refine runOps_sound H ops rest h1 hr1 Q ?_
        intro ρ2 st3 a2 w2 k1 k2 k3 k4 k5
        refine hq ρ2 st3 a2 w2 k1 k2 k3 (k4.trans n1) ?_
        intro i hi
        have h1 : o.dst ≠ some i := fun e => hi (List.mem_filterMap.2 ⟨o, List.mem_cons_self, e⟩)
        rw [k5 i (fun hm => hi (by
          obtain ⟨q, hq1, hq2⟩ := List.mem_filterMap.1 hm
          exact List.mem_filterMap.2 ⟨q, List.mem_cons_of_mem _ hq1, hq2⟩))]
        exact tmOf_aput h1
      replace hr : (match o.guard with
        | none => (evalOp C none o).run st fun v st' => runOps C ops rest (st'.put o.dst v) K
        | some (j, w) => match (ops[j]?).bind (·.dst) with
          | none => none
          | some t => runGd C o (fun v st' => runOps C ops rest (st'.put o.dst v) K) (fun st' => runOps C ops rest st' K) t w st) = some r := hr
      split at hr
      · rename_i hgd
        exact exec (K2 := fun _ _ => none) h rfl hr (by simp [Region.wanted, hgd])
      · rename_i j wb hgd
        split at hr
        · cases hr
        · rename_i t ht
          have goes : ∀ {st1 : St}, Rel X ρ st1 a w → st1.n = st.n → runKb C o (fun v st' => runOps C ops rest (st'.put o.dst v) K) (fun st' => runOps C ops rest st' K) t wb st1 = some r → wpList P ops Q (o :: rest) a w := by
            intro st1 h1 n1 hr1
            unfold runKb at hr1
            have ht1 := h1.tmp t
            split at hr1
            · rename_i b hb
              rw [hb] at ht1
              have ht1 : tmOf a t = .bool b := by
                rcases ht1 with ht1 | ⟨_, _, _, e, _⟩
                · exact ht1
                · cases e
              cases hbw : (b == wb) with
              | true =>
                rw [hbw] at hr1
                have : b = wb := by simpa using hbw
                subst this
                exact exec (K2 := fun _ _ => none) h1 n1 hr1 (wanted_true hgd ht ht1)
              | false =>
                rw [hbw] at hr1
                refine skip (st1 := st) _ (h1.put (av := .undef) (v := undef) (fun i hi => by rw [n1]; exact hlt i hi) rfl) ?_ hr1 (wanted_false hgd ht ?_)
                · rw [show (st1.put o.dst .undef).n = st1.n by cases o.dst <;> rfl, n1]
                · rw [ht1]
                  intro e
                  cases e
                  simp at hbw
            · rename_i hb
              rw [hb] at ht1
              have ht1 : tmOf a t = undef := by
                rcases ht1 with ht1 | ⟨_, _, _, e, _⟩
                · exact ht1
                · cases e
              refine skip (st1 := st) _ (h1.put (av := .undef) (v := undef) (fun i hi => by rw [n1]; exact hlt i hi) rfl) ?_ hr1 (wanted_false hgd ht ?_)
              · rw [show (st1.put o.dst .undef).n = st1.n by cases o.dst <;> rfl, n1]
              · rw [ht1]; intro e; cases e
            · cases hr1
          unfold runGd at hr
          split at hr
          · exact goes h rfl hr
          · exact goes h rfl hr
          · split at hr
            · rename_i v hstill
              by_cases hw : tmOf a t = .bool wb
              · unfold wpList
                rw [if_pos (wanted_true hgd ht hw)]
                have hgood := evalOp_sound (g := some (t, wb)) (K := fun av st' => some (av, st')) (r := (v, st)) H h (fun t' b' e => by cases e; exact hw) (M.run_still _ _ _ hstill _)
                refine .inl (hgood _ _ ?_)
                intro av u ρ' st' w' hk hv hrel hx hn
                obtain ⟨rfl, rfl⟩ : av = v ∧ st' = st := by simpa using hk
                refine runOps_sound H ops rest (hrel.putG (t := t) (b := wb) hlt (.inl ⟨hw, hv⟩)) hr Q ?_
                intro ρ2 st2 a2 w2 k1 k2 k3 k4 k5
                refine hq ρ2 st2 a2 w2 k1 k2 (hx.trans k3) (k4.trans ?_) ?_
                · cases o.dst <;> rfl
                · intro i hi
                  have h1 : o.dst ≠ some i := fun e => hi (List.mem_filterMap.2 ⟨o, List.mem_cons_self, e⟩)
                  rw [k5 i (fun hm => hi (by
                    obtain ⟨q, hq1, hq2⟩ := List.mem_filterMap.1 hm
                    exact List.mem_filterMap.2 ⟨q, List.mem_cons_of_mem _ hq1, hq2⟩))]
                  exact tmOf_aput h1
              · refine skip (st1 := st) _ (h.putG (t := t) (b := wb) hlt (.inr ⟨hw, rfl⟩)) ?_ hr (wanted_false hgd ht hw)
                cases o.dst <;> rfl
            · obtain ⟨st1, hr1, h1, n1⟩ := known_sound 4 t h hr
              exact goes h1 n1 hr1
end
end Go.Proofs.YtaajcllchbnjiaaDoorE

namespace Go.Proofs.YtaajcllchbnjiaaDoorE
open Go Go.RowKit
set_option linter.unusedVariables false
/-! ### footprints -/
structure FP.le (f f' : FP) : Prop where
  rt : ∀ t, t ∈ f.rt → t ∈ f'.rt
  rb : ∀ t, t ∈ f.rb → t ∈ f'.rb
  wb : ∀ t, t ∈ f.wb → t ∈ f'.wb
theorem FP.le.refl (f : FP) : f.le f := ⟨fun _ h => h, fun _ h => h, fun _ h => h⟩
theorem FP.le.trans {f g h : FP} (a : f.le g) (b : g.le h) : f.le h := ⟨fun t k => b.rt t (a.rt t k), fun t k => b.rb t (a.rb t k), fun t k => b.wb t (a.wb t k)⟩
/-- Two states that agree on what a footprint touches. -/
structure Agr (f : FP) (st st2 : St) : Prop where
  tm : ∀ t, t ∈ f.rt → st2.tmp t = st.tmp t
  en : ∀ b, b ∈ f.rb ∨ b ∈ f.wb → st2.ent b = st.ent b
/-- All but the blocks is as it was. -/
structure Still (st st' : St) : Prop where
  tmps : st'.tmps = st.tmps
  gs : st'.gs = st.gs
  n : st'.n = st.n
  lim : st'.lim = st.lim
  res : st'.res = st.res
theorem Still.refl (st : St) : Still st st := ⟨rfl, rfl, rfl, rfl, rfl⟩
theorem Still.trans {a b c : St} (h : Still a b) (k : Still b c) : Still a c := ⟨k.tmps.trans h.tmps, k.gs.trans h.gs, k.n.trans h.n, k.lim.trans h.lim, k.res.trans h.res⟩
theorem Still.tmp {a b : St} (h : Still a b) (i : Nat) : b.tmp i = a.tmp i := by
  unfold St.tmp
  rw [h.gs, h.tmps]
/-- What a program did: from any state that agrees on its footprint it does the same. -/
structure Did {α : Type} (p : M α) (st : St) (a : α) (st' : St) (f : FP) : Prop where
  still : Still st st'
  nb : st.nb ≤ st'.nb
  lim : st.nb = st'.nb ∨ st'.nb ≤ st.lim
  out : ∀ b, b ∉ f.wb → st'.ent b = st.ent b
  loc : ∀ st2 : St, Agr f st st2 → st2.nb = st.nb → (st.nb = st'.nb ∨ st'.nb ≤ st2.lim) → ∃ st2' : St, (p.run st2 fun a st' => some (a, st')) = some (a, st2') ∧ Still st2 st2' ∧ st2'.nb = st'.nb ∧
    (∀ b, b ∈ f.rb ∨ b ∈ f.wb → st2'.ent b = st'.ent b) ∧ ∀ b, b ∉ f.wb → st2'.ent b = st2.ent b
theorem runF_did {α R : Type} {r : R} : ∀ (p : M α) {st : St} {f : FP} {K : α → St → FP → Option R}, p.runF st f K = some r → ∃ a st' f', K a st' f' = some r ∧ f.le f' ∧ Did p st a st' f'
  | .ret a, st, f, K, h => ⟨a, st, f, h, FP.le.refl f, Still.refl st, Nat.le_refl _, .inl rfl, fun _ _ => rfl, fun st2 ha hn _ => ⟨st2, rfl, Still.refl st2, hn, fun b hb => ha.en b hb, fun _ _ => rfl⟩⟩
  | .get i k, st, f, K, h => by
    obtain ⟨a, st', f', h1, h2, d⟩ := runF_did (k (st.tmp i)) (show (k (st.tmp i)).runF st { f with rt := i :: f.rt } K = some r from h)
    refine ⟨a, st', f', h1, ⟨fun t ht => h2.rt t (List.mem_cons_of_mem _ ht), h2.rb, h2.wb⟩, d.still, d.nb, d.lim, d.out, fun st2 ha hn hl => ?_⟩
    have e := ha.tm i (h2.rt i List.mem_cons_self)
    obtain ⟨st2', g1, g2⟩ := d.loc st2 ha hn hl
    exact ⟨st2', by show (k (st2.tmp i)).run st2 _ = _; rw [e]; exact g1, g2⟩
  | .getb i k, st, f, K, h => by
    obtain ⟨a, st', f', h1, h2, d⟩ := runF_did (k (st.ent i)) (show (k (st.ent i)).runF st { f with rb := i :: f.rb } K = some r from h)
    refine ⟨a, st', f', h1, ⟨h2.rt, fun t ht => h2.rb t (List.mem_cons_of_mem _ ht), h2.wb⟩, d.still, d.nb, d.lim, d.out, fun st2 ha hn hl => ?_⟩
    have e := ha.en i (.inl (h2.rb i List.mem_cons_self))
    obtain ⟨st2', g1, g2⟩ := d.loc st2 ha hn hl
    exact ⟨st2', by show (k (st2.ent i)).run st2 _ = _; rw [e]; exact g1, g2⟩
  | .setb i e k, st, f, K, h => by
    obtain ⟨a, st', f', h1, h2, d⟩ := runF_did k (show k.runF (st.setB i e) { f with wb := i :: f.wb } K = some r from h)
    have hi := h2.wb i List.mem_cons_self
    refine ⟨a, st', f', h1, ⟨h2.rt, h2.rb, fun t ht => h2.wb t (List.mem_cons_of_mem _ ht)⟩, ⟨d.still.tmps, d.still.gs, d.still.n, d.still.lim, d.still.res⟩, d.nb, d.lim, fun b hb => ?_, fun st2 ha hn hl => ?_⟩
    · rw [d.out b hb, ent_setB, if_neg (fun q : i = b => hb (q ▸ hi))]
    · obtain ⟨st2', g1, g2, g3, g4, g5⟩ := d.loc (st2.setB i e) ⟨ha.tm, fun b hb => by rw [ent_setB, ent_setB, ha.en b hb]⟩ hn hl
      exact ⟨st2', g1, ⟨g2.tmps, g2.gs, g2.n, g2.lim, g2.res⟩, g3, g4, fun b hb => by rw [g5 b hb, ent_setB, if_neg (fun q : i = b => hb (q ▸ hi))]⟩
  | .new e k, st, f, K, h => by
    cases hlt : Nat.blt st.nb st.lim with
    | false =>
      replace h : (bif Nat.blt st.nb st.lim then (k st.nb).runF (st.newB e) { f with wb := st.nb :: f.wb } K else none) = some r := h
      rw [hlt] at h; cases h
    | true =>
      replace h : (bif Nat.blt st.nb st.lim then (k st.nb).runF (st.newB e) { f with wb := st.nb :: f.wb } K else none) = some r := h
      rw [hlt] at h
      obtain ⟨a, st', f', h1, h2, d⟩ := runF_did (k st.nb) (show (k st.nb).runF (st.newB e) { f with wb := st.nb :: f.wb } K = some r from h)
      have hi := h2.wb st.nb List.mem_cons_self
      have hn1 : st.nb + 1 ≤ st'.nb := d.nb
      have hlt := (Nat.blt_eq).mp hlt
      refine ⟨a, st', f', h1, ⟨h2.rt, h2.rb, fun t ht => h2.wb t (List.mem_cons_of_mem _ ht)⟩, ⟨d.still.tmps, d.still.gs, d.still.n, d.still.lim, d.still.res⟩, by omega, ?_, fun b hb => ?_, fun st2 ha hn hl => ?_⟩
      · rcases d.lim with k1 | k1
        · have k1 : st.nb + 1 = st'.nb := k1
          exact .inr (by omega)
        · exact .inr k1
      · rw [d.out b hb, ent_newB, if_neg (fun q : st.nb = b => hb (q ▸ hi))]
      · have hl' : st'.nb ≤ st2.lim := by
          rcases hl with hl | hl
          · omega
          · exact hl
        obtain ⟨st2', g1, g2, g3, g4, g5⟩ := d.loc (st2.newB e) ⟨ha.tm, fun b hb => by rw [ent_newB, ent_newB, hn, ha.en b hb]⟩ (congrArg (· + 1) hn) (.inr hl')
        refine ⟨st2', ?_, ⟨g2.tmps, g2.gs, g2.n, g2.lim, g2.res⟩, g3, g4, fun b hb => by rw [g5 b hb, ent_newB, hn, if_neg (fun q : st.nb = b => hb (q ▸ hi))]⟩
        show (bif Nat.blt st2.nb st2.lim then (k st2.nb).run (st2.newB e) _ else none) = _
        rw [(Nat.blt_eq).mpr (by omega : st2.nb < st2.lim), hn]
        exact g1
  | .opt β o k, st, f, K, h => by
    cases ho : o with
    | none =>
      replace h : (o.bind fun b => (k b).runF st f K) = some r := h
      rw [ho] at h; cases h
    | some b =>
      replace h : (o.bind fun b => (k b).runF st f K) = some r := h
      rw [ho] at h
      obtain ⟨a, st', f', h1, h2, d⟩ := runF_did (k b) h
      refine ⟨a, st', f', h1, h2, d.still, d.nb, d.lim, d.out, fun st2 ha hn hl => ?_⟩
      obtain ⟨st2', g1, g2⟩ := d.loc st2 ha hn hl
      exact ⟨st2', g1, g2⟩
  | .fail, _, _, _, h => by cases h
/-! ### one operation -/
/-- What an operation does, from any state that agrees on its footprint. -/
structure StepOk (P : Program) (ops : Array Oper) (k : Nat) (pre post : St) (rc : Rec) : Prop where
  n : post.n = pre.n
  gs : pre.gs = [] → post.gs = []
  lim : post.lim = pre.lim
  res : post.res = pre.res
  nb : pre.nb ≤ post.nb
  outB : ∀ b, b ∉ rc.fp.wb → post.ent b = pre.ent b
  outT : ∀ t, t ∉ rc.dst → getL .unk post.tmps t = getL .unk pre.tmps t
  dst : ∀ t, t ∈ rc.dst → ∃ o, ops[k]? = some o ∧ o.dst = some t
  exec : ∀ (X : Nat → Prop) (ρ : Rho) (st2 : St) (a : Act) (w : World), Rel X ρ st2 a w → st2.gs = [] → Agr rc.fp pre st2 → st2.n = pre.n → st2.nb = pre.nb → post.nb ≤ st2.lim → ∀ (Q : Exit → Act → World → Prop) (K : Act → World → Prop),
    (∀ ρ' st2' a' w', Rel X ρ' st2' a' w' → Ext ρ w ρ' w' → st2'.gs = [] → st2'.n = st2.n → st2'.nb = post.nb → st2'.lim = st2.lim → st2'.res = st2.res → (∀ b, b ∈ rc.fp.wb → st2'.ent b = post.ent b) → (∀ b, b ∉ rc.fp.wb → st2'.ent b = st2.ent b) →
      (∀ t, t ∈ rc.dst → getL .unk st2'.tmps t = getL .unk post.tmps t) → (∀ t, t ∉ rc.dst → getL .unk st2'.tmps t = getL .unk st2.tmps t) → (∀ t, t ∉ rc.dst → tmOf a' t = tmOf a t) → K a' w') → wpOp P ops Q k K a w
theorem put_fields (st : St) (d : Option Tmp) (v : AV) : (st.put d v).n = st.n ∧ (st.put d v).nb = st.nb ∧ (st.put d v).lim = st.lim ∧ (st.put d v).res = st.res ∧ (st.put d v).heap = st.heap ∧ (st.gs = [] → (st.put d v).gs = []) ∧
    (∀ t, t ∉ d.toList → getL .unk (st.put d v).tmps t = getL .unk st.tmps t) ∧ ∀ t, t ∈ d.toList → getL .unk (st.put d v).tmps t = v := by
  cases d with
  | none => exact ⟨rfl, rfl, rfl, rfl, rfl, id, fun _ _ => rfl, fun t ht => nomatch ht⟩
  | some i =>
    refine ⟨rfl, rfl, rfl, rfl, rfl, fun h => ?_, fun t ht => ?_, fun t ht => ?_⟩
    · show dropG st.gs i = []
      rw [h]; rfl
    · show getL .unk (setL .unk st.tmps i v) t = _
      rw [getL_setL, if_neg (fun e => ht (by rw [e]; exact List.mem_singleton.2 rfl))]
    · show getL .unk (setL .unk st.tmps i v) t = _
      rw [getL_setL, if_pos (List.mem_singleton.1 ht).symm]
theorem tmp_nil {st : St} (h : st.gs = []) (t : Nat) : st.tmp t = getL .unk st.tmps t := by
  unfold St.tmp
  rw [h]
  rfl
section
variable {P : Program} {o : Oper} {X : Nat → Prop} {ρ ρ' : Rho} {st st' : St} {a : Act} {w w' : World} {R : Type} {r : R} {C : Ctx} {ops : Array Oper}
theorem split_some {g : Bool} {v : AV} {K : AV → Option R} (h : splitB g v K = some r) : ∃ v', K v' = some r ∧ ∀ (X : Nat → Prop) (ρ : Rho) (w : World) (u : Value), AvOk X ρ w v u → AvOk X ρ w v' u := by
  unfold splitB at h
  split at h
  · rename_i b
    cases b with
    | true => exact ⟨_, h, fun X ρ w u hu => hu⟩
    | false => exact ⟨_, h, fun X ρ w u hu => hu⟩
  · exact ⟨v, h, fun X ρ w u hu => hu⟩
theorem drawOp_ok (H : CtxOk P C) {k : Nat} (hk : ops[k]? = some o) (hlt : ∀ i, o.dst = some i → i < st.n) {g : Bool} {rs : List Rec} {m : Nat} {f : FP} {K : St → List Rec → Option R}
    (hw : ∀ a : Act, (∀ t, t ∈ f.rt → ∃ X ρ w, AvOk X ρ w (st.tmp t) (tmOf a t)) → Region.wanted o (yielded ops a.tmps) = true) (hr : drawOp C g o rs m f st K = some r) :
    ∃ st' rc, K st' (rc :: rs) = some r ∧ okR rs rc = true ∧ rc.anc = m ∧ StepOk P ops k st st' rc := by
  unfold drawOp at hr
  obtain ⟨v0, st1, f1, hr1, hle, d⟩ := runF_did _ hr
  obtain ⟨v, hr2, hsp⟩ := split_some hr1
  clear hr hr1
  cases hok : okR rs ⟨o.dst.toList, f1, m⟩ with
  | false => rw [hok] at hr2; cases hr2
  | true =>
    rw [hok] at hr2
    refine ⟨st1.put o.dst v, ⟨o.dst.toList, f1, m⟩, hr2, hok, rfl, ?_⟩
    obtain ⟨p1, p2, p3, p4, p5, p6, p7, p8⟩ := put_fields st1 o.dst v
    refine ⟨p1.trans d.still.n, fun h => p6 (d.still.gs.trans h), p3.trans d.still.lim, p4.trans d.still.res, by rw [p2]; exact d.nb, fun b hb => ?_, fun t ht => ?_, fun t ht => ⟨o, hk, ?_⟩, ?_⟩
    · have := d.out b hb
      unfold St.ent at this ⊢
      rw [p5]; exact this
    · rw [p7 t ht, d.still.tmps]
    · cases hd : o.dst with
      | none =>
        replace ht : t ∈ o.dst.toList := ht
        rw [hd] at ht; cases ht
      | some i =>
        replace ht : t ∈ o.dst.toList := ht
        rw [hd] at ht; rw [List.mem_singleton.1 ht]
    · intro X ρ st2 a w hrel hgs ha hn hnb hlim Q K2 hq
      obtain ⟨st2', g1, g2, g3, g4, g5⟩ := d.loc st2 ha hnb (.inr (by rw [← p2]; exact hlim))
      unfold wpOp
      rw [hk]
      dsimp only
      have hwanted := hw a fun t ht => ⟨X, ρ, w, by
        rw [← ha.tm t (hle.rt t ht), tmp_nil hgs]
        exact hrel.tmps t⟩
      rw [if_pos hwanted]
      refine .inl (evalOp_sound H hrel (fun t b (e : none = some (t, b)) => nomatch e) g1 _ _ ?_)
      intro av u ρ' st3 w' hk3 hv hrel3 hx hn3
      obtain ⟨rfl, rfl⟩ : v0 = av ∧ st2' = st3 := by
        have := Option.some.inj hk3
        exact ⟨(congrArg Prod.fst this).symm, (congrArg Prod.snd this).symm⟩
      obtain ⟨q1, q2, q3, q4, q5, q6, q7, q8⟩ := put_fields st2' o.dst v
      refine hq ρ' (st2'.put o.dst v) _ w' (hrel3.put (fun i hi => by rw [hn3, hn]; exact hlt i hi) (hsp X ρ' w' u hv)) hx (q6 (g2.gs.trans hgs)) (q1.trans hn3) ?_ (q3.trans g2.lim) (q4.trans g2.res) ?_ ?_ ?_ ?_ ?_
      · rw [q2, p2]; exact g3
      · intro b hb
        have := g4 b (.inr hb)
        unfold St.ent at this ⊢
        rw [q5, p5]; exact this
      · intro b hb
        have := g5 b hb
        unfold St.ent at this ⊢
        rw [q5]; exact this
      · intro t ht; rw [q8 t ht, p8 t ht]
      · intro t ht; rw [q7 t ht, g2.tmps]
      · intro t ht
        exact tmOf_aput (fun e => ht (by show t ∈ o.dst.toList; rw [e]; exact List.mem_singleton.2 rfl))
theorem drawSkip_ok {k : Nat} (hk : ops[k]? = some o) (hlt : ∀ i, o.dst = some i → i < st.n) {rs : List Rec} {m : Nat} {f : FP} {K : St → List Rec → Option R} (hfb : f.wb = [])
    (hw : ∀ a : Act, (∀ t, t ∈ f.rt → ∃ X ρ w, AvOk X ρ w (st.tmp t) (tmOf a t)) → Region.wanted o (yielded ops a.tmps) = false) (hr : drawSkip o rs m f st K = some r) :
    ∃ st' rc, K st' (rc :: rs) = some r ∧ okR rs rc = true ∧ rc.anc = m ∧ StepOk P ops k st st' rc := by
  unfold drawSkip at hr
  cases hok : okR rs ⟨o.dst.toList, f, m⟩ with
  | false => rw [hok] at hr; cases hr
  | true =>
    rw [hok] at hr
    refine ⟨st.put o.dst .undef, ⟨o.dst.toList, f, m⟩, hr, hok, rfl, ?_⟩
    obtain ⟨p1, p2, p3, p4, p5, p6, p7, p8⟩ := put_fields st o.dst .undef
    refine ⟨p1, p6, p3, p4, by rw [p2]; exact Nat.le_refl _, fun b hb => by unfold St.ent; rw [p5], fun t ht => p7 t ht, fun t ht => ⟨o, hk, ?_⟩, ?_⟩
    · cases hd : o.dst with
      | none =>
        replace ht : t ∈ o.dst.toList := ht
        rw [hd] at ht; cases ht
      | some i =>
        replace ht : t ∈ o.dst.toList := ht
        rw [hd] at ht; rw [List.mem_singleton.1 ht]
    · intro X ρ st2 a w hrel hgs ha hn hnb hlim Q K2 hq
      unfold wpOp
      rw [hk]
      dsimp only
      have hwanted := hw a fun t ht => ⟨X, ρ, w, by
        rw [← ha.tm t ht, tmp_nil hgs]
        exact hrel.tmps t⟩
      rw [if_neg (by rw [hwanted]; simp)]
      obtain ⟨q1, q2, q3, q4, q5, q6, q7, q8⟩ := put_fields st2 o.dst .undef
      refine hq ρ (st2.put o.dst .undef) _ w (hrel.put (fun i hi => by rw [hn]; exact hlt i hi) rfl) (Ext.refl _ _) (q6 hgs) q1 ?_ q3 q4 ?_ ?_ ?_ ?_ ?_
      · rw [q2, p2]; exact hnb
      · intro b hb
        replace hb : b ∈ f.wb := hb
        rw [hfb] at hb; cases hb
      · intro b hb; unfold St.ent; rw [q5]
      · intro t ht; rw [q8 t ht, p8 t ht]
      · intro t ht; exact q7 t ht
      · intro t ht
        exact tmOf_aput (fun e => ht (by show t ∈ o.dst.toList; rw [e]; exact List.mem_singleton.2 rfl))
theorem drawOne_ok (H : CtxOk P C) {k : Nat} (hk : ops[k]? = some o) (hlt : ∀ i, o.dst = some i → i < st.n) {rs : List Rec} {m : Nat} {K : St → List Rec → Option R} (hr : drawOne C ops o rs m st K = some r) :
    ∃ st' rc, K st' (rc :: rs) = some r ∧ okR rs rc = true ∧ rc.anc = m ∧ StepOk P ops k st st' rc := by
  unfold drawOne at hr
  split at hr
  · rename_i hgd
    exact drawOp_ok H hk hlt (fun a _ => by simp [Region.wanted, hgd]) hr
  · rename_i j wb hgd
    split at hr
    · cases hr
    · rename_i t ht
      split at hr
      · rename_i b hb
        have tm : ∀ a : Act, (∀ s, s ∈ [t] → ∃ X ρ w, AvOk X ρ w (st.tmp s) (tmOf a s)) → tmOf a t = .bool b := fun a ha => by
          obtain ⟨X, ρ, w, h⟩ := ha t (List.mem_singleton.2 rfl)
          rw [hb] at h
          exact h
        cases hbw : (b == wb) with
        | true =>
          rw [hbw] at hr
          have : b = wb := by simpa using hbw
          subst this
          exact drawOp_ok H hk hlt (fun a ha => wanted_true hgd ht (tm a ha)) hr
        | false =>
          rw [hbw] at hr
          exact drawSkip_ok hk hlt rfl (fun a ha => wanted_false hgd ht (by
            rw [tm a ha]
            intro e
            cases e
            simp at hbw)) hr
      · rename_i hb
        exact drawSkip_ok hk hlt rfl (fun a ha => wanted_false hgd ht (by
          obtain ⟨X, ρ, w, h⟩ := ha t (List.mem_singleton.2 rfl)
          rw [hb] at h
          have h : tmOf a t = undef := h
          rw [h]
          intro e
          cases e)) hr
      · cases hr
/-! ### the text's order -/
def below (rc : Nat → Rec) : Nat → List Rec
  | 0 => []
  | k + 1 => rc k :: below rc k
theorem below_congr {rc rc' : Nat → Rec} : ∀ {k : Nat}, (∀ i, i < k → rc i = rc' i) → below rc k = below rc' k
  | 0, _ => rfl
  | k + 1, h => by
    show rc k :: below rc k = rc' k :: below rc' k
    rw [h k (Nat.lt_succ_self k), below_congr fun i hi => h i (Nat.lt_succ_of_lt hi)]
theorem below_len (rc : Nat → Rec) : ∀ k, (below rc k).length = k
  | 0 => rfl
  | k + 1 => congrArg (· + 1) (below_len rc k)
structure Info (P : Program) (ops : Array Oper) (s : Nat → St) (rc : Nat → Rec) (i : Nat) : Prop where
  step : StepOk P ops i (s i) (s (i + 1)) (rc i)
  ok : okR (below rc i) (rc i) = true
  anc : ∃ o, ops[i]? = some o ∧ ancOf (below rc i) o.after.toList = some (rc i).anc
theorem runDraw_info (H : CtxOk P C) : ∀ (rest : List Oper) (k : Nat) (s0 : Nat → St) (rc0 : Nat → Rec) {K : St → Option R}, (∀ i, rest[i]? = ops[k + i]?) → runDraw C ops rest (below rc0 k) (s0 k) K = some r →
    ∃ s rc, (∀ i, i ≤ k → s i = s0 i) ∧ (∀ i, i < k → rc i = rc0 i) ∧ (∀ i, k ≤ i → i < k + rest.length → Info P ops s rc i) ∧ K (s (k + rest.length)) = some r ∧ (s (k + rest.length)).nb ≤ 1000000
  | [], k, s0, rc0, K, _, hr => by
    unfold runDraw at hr
    cases hb : Nat.ble (s0 k).nb 1000000 with
    | false => rw [hb] at hr; cases hr
    | true =>
      rw [hb] at hr
      exact ⟨s0, rc0, fun _ _ => rfl, fun _ _ => rfl, fun i h1 h2 => absurd h2 (by simp; omega), hr, Nat.le_of_ble_eq_true hb⟩
  | o :: rest, k, s0, rc0, K, hops, hr => by
    unfold runDraw at hr
    have hk : ops[k]? = some o := by
      have := hops 0
      rw [Nat.add_zero] at this
      rw [← this]; rfl
    cases hd : dstOk (s0 k) o with
    | false => rw [hd] at hr; cases hr
    | true =>
      rw [hd] at hr
      replace hr : (match ancOf (below rc0 k) o.after.toList with
        | some m => drawOne C ops o (below rc0 k) m (s0 k) fun st' rs' => runDraw C ops rest rs' st' K
        | none => none) = some r := hr
      split at hr
      · rename_i m hm
        obtain ⟨st', rc, hr1, hok, hanc, hstep⟩ := drawOne_ok H hk (dstOk_lt hd) hr
        let s1 : Nat → St := fun i => if i = k + 1 then st' else s0 i
        let rc1 : Nat → Rec := fun i => if i = k then rc else rc0 i
        have hb1 : below rc1 (k + 1) = rc :: below rc0 k := by
          show rc1 k :: below rc1 k = _
          rw [show rc1 k = rc from if_pos rfl, below_congr (rc' := rc0) fun i hi => if_neg (Nat.ne_of_lt hi)]
        have hr2 : runDraw C ops rest (below rc1 (k + 1)) (s1 (k + 1)) K = some r := by
          rw [hb1, show s1 (k + 1) = st' from if_pos rfl]
          exact hr1
        obtain ⟨s, rcs, e1, e2, e3, e4, e5⟩ := runDraw_info H rest (k + 1) s1 rc1 (fun i => by
          have := hops (i + 1)
          rw [List.getElem?_cons_succ] at this
          rw [this, Nat.add_assoc, Nat.add_comm 1 i]) hr2
        have hlen : k + 1 + rest.length = k + (o :: rest).length := by
          rw [List.length_cons]; omega
        rw [hlen] at e3 e4 e5
        have hb2 : below rcs k = below rc0 k := below_congr fun i hi => by
          rw [e2 i (Nat.lt_succ_of_lt hi)]
          exact if_neg (Nat.ne_of_lt hi)
        refine ⟨s, rcs, fun i hi => ?_, fun i hi => ?_, fun i h1 h2 => ?_, e4, e5⟩
        · rw [e1 i (Nat.le_succ_of_le hi)]
          exact if_neg (by omega)
        · rw [e2 i (Nat.lt_succ_of_lt hi)]
          exact if_neg (Nat.ne_of_lt hi)
        · rcases Nat.eq_or_lt_of_le h1 with h1 | h1
          · subst h1
            have ek : s k = s0 k := by
              rw [e1 k (Nat.le_succ k)]
              exact if_neg (by omega)
            have ek1 : s (k + 1) = st' := by
              rw [e1 (k + 1) (Nat.le_refl _)]
              exact if_pos rfl
            have er : rcs k = rc := by
              rw [e2 k (Nat.lt_succ_self k)]
              exact if_pos rfl
            refine ⟨?_, ?_, o, hk, ?_⟩
            · rw [ek, ek1, er]; exact hstep
            · rw [hb2, er]; exact hok
            · rw [hb2, er, hanc]; exact hm
          · exact e3 i h1 h2
      · cases hr
end
end Go.Proofs.YtaajcllchbnjiaaDoorE

namespace Go.Proofs.YtaajcllchbnjiaaDoorE
open Go Go.RowKit
set_option linter.unusedVariables false
section
variable {P : Program} {o : Oper} {X : Nat → Prop} {ρ ρ' : Rho} {st st' : St} {a : Act} {w w' : World} {R : Type} {r : R} {C : Ctx} {ops : Array Oper} {s : Nat → St} {rc : Nat → Rec}
/-! ### what comes before -/
/-- All that an operation waits for is done. -/
def Rdy (ops : Array Oper) (S : Nat → Prop) (i : Nat) : Prop := ∀ o, ops[i]? = some o → ∀ e ∈ o.after.toList, Region.binds .any e = true → S e.on
theorem anc_spec {rs : List Rec} : ∀ {es : List Edge} {m : Nat}, ancOf rs es = some m → (∀ e ∈ es, Region.binds .any e = true → ∃ q, rs.reverse[e.on]? = some q) ∧ ∀ j, m.testBit j = true → ∃ e ∈ es, Region.binds .any e = true ∧ ∃ q, rs.reverse[e.on]? = some q ∧ (j = e.on ∨ q.anc.testBit j = true)
  | [], m, h => by
    cases h
    exact ⟨(fun e he => nomatch he), fun j hj => by simp at hj⟩
  | e :: es, m, h => by
    unfold ancOf at h
    cases hb : Region.binds .any e with
    | false =>
      rw [hb] at h
      obtain ⟨i1, i2⟩ := anc_spec (es := es) h
      refine ⟨fun x hx hxb => ?_, fun j hj => ?_⟩
      · rcases List.mem_cons.1 hx with rfl | hx
        · rw [hb] at hxb; cases hxb
        · exact i1 x hx hxb
      · obtain ⟨x, h1, h2⟩ := i2 j hj
        exact ⟨x, List.mem_cons_of_mem _ h1, h2⟩
    | true =>
      rw [hb] at h
      replace h : (match rs.reverse[e.on]?, ancOf rs es with
        | some r, some m => some (r.anc ||| (1 <<< e.on) ||| m)
        | _, _ => none) = some m := h
      split at h
      · rename_i q m' hq hm'
        cases h
        obtain ⟨i1, i2⟩ := anc_spec hm'
        refine ⟨fun x hx hxb => ?_, fun j hj => ?_⟩
        · rcases List.mem_cons.1 hx with rfl | hx
          · exact ⟨q, hq⟩
          · exact i1 x hx hxb
        · rw [Nat.testBit_or, Nat.testBit_or] at hj
          rcases (Bool.or_eq_true _ _).mp hj with hj | hj
          · rcases (Bool.or_eq_true _ _).mp hj with hj | hj
            · exact ⟨e, List.mem_cons_self, hb, q, hq, .inr hj⟩
            · refine ⟨e, List.mem_cons_self, hb, q, hq, .inl ?_⟩
              rw [Nat.one_shiftLeft, Nat.testBit_two_pow] at hj
              exact (of_decide_eq_true hj).symm
          · obtain ⟨x, h1, h2⟩ := i2 j hj
            exact ⟨x, List.mem_cons_of_mem _ h1, h2⟩
      · cases h
theorem below_get (rc : Nat → Rec) : ∀ (k i : Nat) (q : Rec), (below rc k).reverse[i]? = some q → i < k ∧ q = rc i
  | 0, i, q, h => by simp [below] at h
  | k + 1, i, q, h => by
    rw [show below rc (k + 1) = rc k :: below rc k from rfl, List.reverse_cons] at h
    rcases Nat.lt_or_ge i k with hlt | hge
    · rw [List.getElem?_append_left (by rw [List.length_reverse, below_len]; exact hlt)] at h
      obtain ⟨h1, h2⟩ := below_get rc k i q h
      exact ⟨Nat.lt_succ_of_lt h1, h2⟩
    · rw [List.getElem?_append_right (by rw [List.length_reverse, below_len]; exact hge), List.length_reverse, below_len] at h
      have : i - k = 0 := by
        rcases Nat.eq_zero_or_pos (i - k) with h0 | h0
        · exact h0
        · rw [List.getElem?_eq_none (by rw [List.length_singleton]; omega)] at h; cases h
      rw [this] at h
      cases h
      have : i = k := by omega
      subst this
      exact ⟨Nat.lt_succ_self i, rfl⟩
theorem anc_ok {n : Nat} (hI : ∀ i, i < n → Info P ops s rc i) {S : Nat → Prop} (hC : ∀ i, S i → Rdy ops S i) : ∀ k, k < n → Rdy ops S k → ∀ j, (rc k).anc.testBit j = true → S j := by
  intro k
  induction k using Nat.strongRecOn with
  | _ k ih =>
    intro hk hr j hj
    obtain ⟨o, ho, ha⟩ := (hI k hk).anc
    obtain ⟨e, he, hb, q, hq, hj⟩ := (anc_spec ha).2 j hj
    obtain ⟨h1, rfl⟩ := below_get rc k _ q hq
    have hS := hr o ho e he hb
    rcases hj with rfl | hj
    · exact hS
    · exact ih e.on h1 (by omega) (hC _ hS) j hj
theorem okR_spec (rc : Nat → Rec) {q : Rec} : ∀ {k : Nat}, okR (below rc k) q = true → ∀ j, j < k → q.anc.testBit j = true ∨ apartR (rc j) q = true
  | 0, _, j, hj => nomatch hj
  | k + 1, h, j, hj => by
    replace h : ((Nat.testBit q.anc (below rc k).length || apartR (rc k) q) && okR (below rc k) q) = true := h
    obtain ⟨h1, h2⟩ := (Bool.and_eq_true _ _).mp h
    rcases Nat.eq_or_lt_of_le (Nat.le_of_lt_succ hj) with rfl | hj
    · rw [below_len] at h1
      exact (Bool.or_eq_true _ _).mp h1
    · exact okR_spec rc h2 j hj
theorem disjN_ok {xs ys : List Nat} (h : disjN xs ys = true) {n : Nat} (hx : n ∈ xs) (hy : n ∈ ys) : False := disjB_ok h n hx hy
structure Apart (j k : Rec) : Prop where
  a : ∀ t, t ∈ j.dst → t ∈ k.fp.rt → False
  b : ∀ t, t ∈ j.dst → t ∈ k.dst → False
  c : ∀ t, t ∈ k.dst → t ∈ j.fp.rt → False
  d : ∀ t, t ∈ j.fp.wb → t ∈ k.fp.rb → False
  e : ∀ t, t ∈ j.fp.wb → t ∈ k.fp.wb → False
  f : ∀ t, t ∈ j.fp.rb → t ∈ k.fp.wb → False
theorem apart_ok {j k : Rec} (h : apartR j k = true) : Apart j k := by
  unfold apartR at h
  simp only [Bool.and_eq_true] at h
  obtain ⟨⟨⟨⟨⟨h1, h2⟩, h3⟩, h4⟩, h5⟩, h6⟩ := h
  exact ⟨fun t x y => disjN_ok h1 x y, fun t x y => disjN_ok h2 x y, fun t x y => disjN_ok h3 x y, fun t x y => disjN_ok h4 x y, fun t x y => disjN_ok h5 x y, fun t x y => disjN_ok h6 x y⟩
/-! ### the last writer -/
def last {α : Type} (S wr : Nat → Bool) (val : Nat → α) : Nat → α → α
  | 0, e => e
  | n + 1, e => if S n && wr n then val n else last S wr val n e
theorem last_congr {α : Type} {S S' wr : Nat → Bool} {val : Nat → α} {e : α} : ∀ {n : Nat}, (∀ j, j < n → wr j = true → S j = S' j) → last S wr val n e = last S' wr val n e
  | 0, _ => rfl
  | n + 1, h => by
    unfold last
    rw [last_congr (n := n) fun j hj => h j (Nat.lt_succ_of_lt hj)]
    cases hw : wr n with
    | false => simp
    | true => rw [h n (Nat.lt_succ_self n) hw]
theorem last_text {α : Type} {wr : Nat → Bool} {x : Nat → α} : ∀ {n : Nat}, (∀ j, j < n → wr j = false → x (j + 1) = x j) → last (fun _ => true) wr (fun j => x (j + 1)) n (x 0) = x n
  | 0, _ => rfl
  | n + 1, h => by
    unfold last
    cases hw : wr n with
    | false =>
      rw [h n (Nat.lt_succ_self n) hw]
      exact last_text fun j hj => h j (Nat.lt_succ_of_lt hj)
    | true => rfl
theorem last_lt {α : Type} {wr : Nat → Bool} {val : Nat → α} {e : α} {k : Nat} : ∀ {n : Nat}, k ≤ n → last (fun j => decide (j < k)) wr val n e = last (fun _ => true) wr val k e
  | 0, h => by
    obtain rfl : k = 0 := by omega
    rfl
  | n + 1, h => by
    rcases Nat.eq_or_lt_of_le h with rfl | h
    · refine last_congr fun j hj _ => by simpa using hj
    · rw [← last_lt (n := n) (by omega)]
      show (if decide (n < k) && wr n then val n else last _ wr val n e) = _
      rw [decide_eq_false (by omega : ¬ n < k)]
      rfl
/-- A thing that an operation touches is, before the operation, as it is in the text's order; and so behind it. -/
theorem last_at {α : Type} {S wr : Nat → Bool} {x : Nat → α} {n k : Nat} (hx : ∀ j, j < n → wr j = false → x (j + 1) = x j) (hk : k ≤ n) (hS : ∀ j, j < n → wr j = true → S j = decide (j < k)) : last S wr (fun j => x (j + 1)) n (x 0) = x k := by
  rw [last_congr hS, last_lt hk]
  exact last_text fun j hj => hx j (by omega)
/-! ### any order -/
def wrB (rc : Nat → Rec) (b : Nat) (j : Nat) : Bool := (rc j).fp.wb.any (Nat.beq b)
def wrT (rc : Nat → Rec) (t : Nat) (j : Nat) : Bool := (rc j).dst.any (Nat.beq t)
theorem any_mem {l : List Nat} {n : Nat} : l.any (Nat.beq n) = true ↔ n ∈ l := by
  constructor
  · intro h
    obtain ⟨x, h1, h2⟩ := List.any_eq_true.1 h
    rw [Nat.eq_of_beq_eq_true h2]
    exact h1
  · exact fun h => List.any_eq_true.2 ⟨n, h, Nat.beq_refl n⟩
theorem any_not {l : List Nat} {n : Nat} (h : n ∉ l) : l.any (Nat.beq n) = false := by
  cases hb : l.any (Nat.beq n) with
  | false => rfl
  | true => exact absurd (any_mem.1 hb) h
theorem not_any {l : List Nat} {n : Nat} (h : l.any (Nat.beq n) = false) : n ∉ l := fun hm => by
  rw [any_mem.2 hm] at h; cases h
/-- The state when some operations are done. -/
structure Inv (ops : Array Oper) (s : Nat → St) (rc : Nat → Rec) (N : Nat) (X : Nat → Prop) (S : Nat → Bool) (ρ : Rho) (st : St) (a : Act) (w : World) : Prop where
  rel : Rel X ρ st a w
  n : st.n = (s 0).n
  gs : st.gs = []
  tm : ∀ t, getL .unk st.tmps t = last S (wrT rc t) (fun j => getL .unk (s (j + 1)).tmps t) N (getL .unk (s 0).tmps t)
  en : ∀ b, st.ent b = last S (wrB rc b) (fun j => (s (j + 1)).ent b) N ((s 0).ent b)
  free : ∀ i, (∃ j, j < N ∧ S j = false ∧ (s j).nb ≤ i ∧ i < (s (j + 1)).nb) ∨ ((s N).nb ≤ i ∧ i < 1000000) → ρ i = none
theorem Rel.names (h : Rel X ρ st a w) {nb lim : Nat} {res : List (Nat × Nat)} (f : Free ρ { st with nb := nb, lim := lim, res := res }) : Rel X ρ { st with nb := nb, lim := lim, res := res } a w :=
  ⟨h.defers, h.size, h.sep, h.lt, h.ents, h.tmps, h.gs, f, h.xlt, h.gl⟩
/-- The same facts of a state that is the same to all that ask. -/
theorem Rel.same (h : Rel X ρ st a w) (hn : st'.n = st.n) (hg : st'.gs = []) (ht : ∀ t, getL .unk st'.tmps t = getL .unk st.tmps t) (he : ∀ b, st'.ent b = st.ent b) (f : Free ρ st') : Rel X ρ st' a w :=
  ⟨h.defers, by rw [hn]; exact h.size, h.sep, h.lt, fun i => by rw [he]; exact h.ents i, fun i => by rw [ht]; exact h.tmps i, (fun i t b x hm => by rw [hg] at hm; cases hm), f, h.xlt, h.gl⟩
theorem mono_nb {N : Nat} (hI : ∀ i, i < N → Info P ops s rc i) : ∀ {i j : Nat}, i ≤ j → j ≤ N → (s i).nb ≤ (s j).nb
  | i, 0, h, _ => by
    obtain rfl : i = 0 := by omega
    exact Nat.le_refl _
  | i, j + 1, h, hj => by
    rcases Nat.eq_or_lt_of_le h with rfl | h
    · exact Nat.le_refl _
    · exact Nat.le_trans (mono_nb hI (Nat.le_of_lt_succ h) (by omega)) (hI j (by omega)).step.nb
theorem same_n {N : Nat} (hI : ∀ i, i < N → Info P ops s rc i) (hg : (s 0).gs = []) : ∀ {i : Nat}, i ≤ N → (s i).n = (s 0).n ∧ (s i).gs = [] ∧ (s i).lim = (s 0).lim ∧ (s i).res = (s 0).res
  | 0, _ => ⟨rfl, hg, rfl, rfl⟩
  | i + 1, h => by
    obtain ⟨h1, h2, h3, h4⟩ := same_n hI hg (i := i) (by omega)
    have := (hI i (by omega)).step
    exact ⟨this.n.trans h1, this.gs h2, this.lim.trans h3, this.res.trans h4⟩
/-- One more operation. -/
theorem inv_step {N : Nat} (hN : (s N).nb ≤ 1000000) (hI : ∀ i, i < N → Info P ops s rc i) (hg0 : (s 0).gs = []) {S : Nat → Bool} (hC : ∀ i, S i = true → Rdy ops (fun j => S j = true) i) {k : Nat} (hk : k < N) (hkS : S k = false) (hR : Rdy ops (fun j => S j = true) k)
    (h : Inv ops s rc N X S ρ st a w) {S' : Nat → Bool} (hS' : ∀ j, S' j = if j = k then true else S j) (Q : Exit → Act → World → Prop) (K : Act → World → Prop)
    (hq : ∀ ρ' st' a' w', Inv ops s rc N X S' ρ' st' a' w' → Ext ρ w ρ' w' → (∀ t, (∀ o, ops[k]? = some o → o.dst ≠ some t) → tmOf a' t = tmOf a t) → K a' w') : wpOp P ops Q k K a w := by
  have info := hI k hk
  have hlt := okR_spec rc info.ok
  have hanc := anc_ok hI hC k hk hR
  -- which writers of what this operation touches are done
  have done : ∀ (wr : Nat → Bool), (∀ j, j < k → wr j = true → apartR (rc j) (rc k) = true → False) → (∀ j, k < j → j < N → wr j = true → apartR (rc k) (rc j) = true → False) → ∀ j, j < N → wr j = true → j ≠ k → S j = decide (j < k) := by
    intro wr h1 h2 j hj hw hne
    rcases Nat.lt_or_gt_of_ne hne with hlt' | hgt
    · rw [decide_eq_true hlt']
      rcases hlt j hlt' with h | h
      · exact hanc j h
      · exact (h1 j hlt' hw h).elim
    · rw [decide_eq_false (by omega)]
      cases hSj : S j with
      | false => rfl
      | true =>
        rcases okR_spec rc (hI j hj).ok k hgt with h | h
        · have := anc_ok hI hC j hj (hC j hSj) k h
          rw [hkS] at this; cases this
        · exact (h2 j hgt hj hw h).elim
  have doneB : ∀ b, b ∈ (rc k).fp.rb ∨ b ∈ (rc k).fp.wb → ∀ j, j < N → wrB rc b j = true → j ≠ k → S j = decide (j < k) := fun b hb => done _ (fun j _ hw hap => by
      have hap := apart_ok hap
      rcases hb with hb | hb
      · exact hap.d b (any_mem.1 hw) hb
      · exact hap.e b (any_mem.1 hw) hb) fun j _ _ hw hap => by
      have hap := apart_ok hap
      rcases hb with hb | hb
      · exact hap.f b hb (any_mem.1 hw)
      · exact hap.e b hb (any_mem.1 hw)
  have doneT : ∀ t, t ∈ (rc k).fp.rt ∨ t ∈ (rc k).dst → ∀ j, j < N → wrT rc t j = true → j ≠ k → S j = decide (j < k) := fun t ht => done _ (fun j _ hw hap => by
      have hap := apart_ok hap
      rcases ht with ht | ht
      · exact hap.a t (any_mem.1 hw) ht
      · exact hap.b t (any_mem.1 hw) ht) fun j _ _ hw hap => by
      have hap := apart_ok hap
      rcases ht with ht | ht
      · exact hap.c t (any_mem.1 hw) ht
      · exact hap.b t ht (any_mem.1 hw)
  have before : ∀ {wr : Nat → Bool}, (∀ j, j < N → wr j = true → j ≠ k → S j = decide (j < k)) → ∀ j, j < N → wr j = true → S j = decide (j < k) := fun hd j hj hw => by
    by_cases e : j = k
    · subst e; rw [hkS]; simp
    · exact hd j hj hw e
  have after : ∀ {wr : Nat → Bool}, (∀ j, j < N → wr j = true → j ≠ k → S j = decide (j < k)) → ∀ j, j < N → wr j = true → S' j = decide (j < k + 1) := fun hd j hj hw => by
    rw [hS' j]
    by_cases e : j = k
    · subst e; rw [if_pos rfl]; simp
    · rw [if_neg e, hd j hj hw e]
      by_cases hjk : j < k
      · rw [decide_eq_true hjk, decide_eq_true (by omega)]
      · rw [decide_eq_false hjk, decide_eq_false (by omega)]
  have other : ∀ {wr : Nat → Bool}, wr k = false → ∀ j, j < N → wr j = true → S' j = S j := fun hw j _ hw2 => by
    rw [hS' j, if_neg (fun e => by rw [e, hw] at hw2; cases hw2)]
  have textB : ∀ b j, j < N → wrB rc b j = false → (s (j + 1)).ent b = (s j).ent b := fun b j hj hw => (hI j hj).step.outB b (not_any hw)
  have textT : ∀ t j, j < N → wrT rc t j = false → getL .unk (s (j + 1)).tmps t = getL .unk (s j).tmps t := fun t j hj hw => (hI j hj).step.outT t (not_any hw)
  -- the state in which the operation is carried out
  let wins : List (Nat × Nat) := ((List.range N).filter fun j => !S j && !(Nat.beq j k)).map fun j => ((s j).nb, (s (j + 1)).nb)
  have hwins : ∀ p, p ∈ wins ↔ ∃ j, j < N ∧ S j = false ∧ j ≠ k ∧ p = ((s j).nb, (s (j + 1)).nb) := by
    intro p
    constructor
    · intro hp
      obtain ⟨j, hj, rfl⟩ := List.mem_map.1 hp
      obtain ⟨h1, h2⟩ := List.mem_filter.1 hj
      obtain ⟨h3, h4⟩ := (Bool.and_eq_true _ _).mp h2
      refine ⟨j, List.mem_range.1 h1, by simpa using h3, fun e => ?_, rfl⟩
      subst e
      rw [Nat.beq_refl] at h4; cases h4
    · rintro ⟨j, h1, h2, h3, rfl⟩
      refine List.mem_map.2 ⟨j, List.mem_filter.2 ⟨List.mem_range.2 h1, ?_⟩, rfl⟩
      rw [h2]
      cases hb : Nat.beq j k with
      | false => rfl
      | true => exact absurd (Nat.eq_of_beq_eq_true hb) h3
  let st2 : St := { st with nb := (s k).nb, lim := (s (k + 1)).nb, res := ((s N).nb, 1000000) :: wins }
  have hfree : Free ρ st2 := by
    refine ⟨fun i hi => h.free i ?_, fun p hp => ?_⟩
    · rcases hi with hi | ⟨p, hp, hi⟩
      · exact .inl ⟨k, hk, hkS, hi⟩
      · rcases List.mem_cons.1 hp with rfl | hp
        · exact .inr hi
        · obtain ⟨j, h1, h2, _, rfl⟩ := (hwins p).1 hp
          exact .inl ⟨j, h1, h2, hi⟩
    · rcases List.mem_cons.1 hp with rfl | hp
      · exact .inr (mono_nb hI hk (Nat.le_refl _))
      · obtain ⟨j, h1, h2, h3, rfl⟩ := (hwins p).1 hp
        rcases Nat.lt_or_gt_of_ne h3 with h4 | h4
        · exact .inl (mono_nb hI h4 (by omega))
        · exact .inr (mono_nb hI h4 (by omega))
  have hrel2 : Rel X ρ st2 a w := h.rel.names hfree
  obtain ⟨kn, kg, _, _⟩ := same_n hI hg0 (i := k) (by omega)
  have hagr : Agr (rc k).fp (s k) st2 := by
    refine ⟨fun t ht => ?_, fun b hb => ?_⟩
    · rw [tmp_nil (show st2.gs = [] from h.gs), tmp_nil kg]
      show getL .unk st.tmps t = _
      rw [h.tm t]
      exact last_at (x := fun j => getL .unk (s j).tmps t) (textT t) (by omega) (before (doneT t (.inl ht)))
    · show st.ent b = _
      rw [h.en b]
      exact last_at (x := fun j => (s j).ent b) (textB b) (by omega) (before (doneB b hb))
  refine info.step.exec X ρ st2 a w hrel2 h.gs hagr (h.n.trans kn.symm) rfl (Nat.le_refl _) Q K ?_
  intro ρ' st2' a' w' q1 q2 q3 q4 q5 q6 q7 q8 q9 q10 q11 q12
  refine hq ρ' st2' a' w' ⟨q1, q4.trans h.n, q3, fun t => ?_, fun b => ?_, fun i hi => q1.fresh.1 i ?_⟩ q2 fun t ht => q12 t fun hm => ?_
  · by_cases ht : t ∈ (rc k).dst
    · rw [q10 t ht]
      exact (last_at (x := fun j => getL .unk (s j).tmps t) (textT t) (by omega : k + 1 ≤ N) (after (doneT t (.inr ht)))).symm
    · rw [q11 t ht]
      show getL .unk st.tmps t = _
      rw [h.tm t]
      exact (last_congr (other (any_not ht))).symm
  · by_cases hb : b ∈ (rc k).fp.wb
    · rw [q8 b hb]
      exact (last_at (x := fun j => (s j).ent b) (textB b) (by omega : k + 1 ≤ N) (after (doneB b (.inr hb)))).symm
    · rw [q9 b hb]
      show st.ent b = _
      rw [h.en b]
      exact (last_congr (other (any_not hb))).symm
  · unfold St.fr
    rw [q7]
    rcases hi with ⟨j, h1, h2, h3⟩ | hi
    · rw [hS' j] at h2
      by_cases e : j = k
      · rw [if_pos e] at h2; cases h2
      · rw [if_neg e] at h2
        exact .inr ⟨_, List.mem_cons_of_mem _ ((hwins _).2 ⟨j, h1, h2, e, rfl⟩), h3⟩
    · exact .inr ⟨_, List.mem_cons_self, hi⟩
  · obtain ⟨o, ho1, ho2⟩ := info.step.dst t hm
    exact ht o ho1 ho2
theorem mem_ready {listed : Array Bool} {i : Nat} : i ∈ Region.ready .any ops listed ↔ i < ops.size ∧ listed.getD i true = false ∧ ((ops[i]?).map (·.after.all fun e => !Region.binds .any e || listed.getD e.on false)).getD false = true := by
  unfold Region.ready
  rw [List.mem_filter, List.mem_range, Bool.and_eq_true]
  constructor
  · rintro ⟨h1, h2, h3⟩
    exact ⟨h1, by simpa using h2, h3⟩
  · rintro ⟨h1, h2, h3⟩
    exact ⟨h1, by rw [h2]; rfl, h3⟩
theorem ready_rdy {listed : Array Bool} {i : Nat} (h : i ∈ Region.ready .any ops listed) : Rdy ops (fun j => listed.getD j false = true) i := by
  obtain ⟨_, _, h3⟩ := mem_ready.1 h
  intro o ho e he hb
  rw [ho] at h3
  have := Array.all_eq_true_iff_forall_mem.1 (show (o.after.all fun e => !Region.binds .any e || listed.getD e.on false) = true from h3) e (Array.mem_toList_iff.1 he)
  rw [hb] at this
  simpa using this
def cnt (S : Nat → Bool) : Nat → Nat
  | 0 => 0
  | n + 1 => cnt S n + (if S n then 0 else 1)
theorem cnt_zero {S : Nat → Bool} : ∀ {n : Nat}, cnt S n = 0 → ∀ i, i < n → S i = true
  | 0, _, i, h => nomatch h
  | n + 1, h, i, hi => by
    unfold cnt at h
    cases hs : S n with
    | false => rw [hs] at h; simp at h
    | true =>
      rw [hs] at h
      rcases Nat.eq_or_lt_of_le (Nat.le_of_lt_succ hi) with rfl | hi
      · exact hs
      · exact cnt_zero (by simpa using h) i hi
theorem cnt_set {S S' : Nat → Bool} {k : Nat} (hkS : S k = false) (hS' : ∀ j, S' j = if j = k then true else S j) : ∀ {n : Nat}, (k < n → cnt S n = cnt S' n + 1) ∧ (n ≤ k → cnt S n = cnt S' n)
  | 0 => ⟨(fun h => nomatch h), fun _ => rfl⟩
  | n + 1 => by
    obtain ⟨i1, i2⟩ := cnt_set hkS hS' (n := n)
    refine ⟨fun h => ?_, fun h => ?_⟩
    · unfold cnt
      rcases Nat.eq_or_lt_of_le (Nat.le_of_lt_succ h) with rfl | h
      · rw [i2 (Nat.le_refl _), hkS, hS' k, if_pos rfl]
        simp
      · have hne : ¬ n = k := by omega
        rw [i1 h, hS' n, if_neg hne]
        omega
    · unfold cnt
      have hne : ¬ n = k := by omega
      rw [i2 (by omega), hS' n, if_neg hne]
theorem any_order {N : Nat} (hNs : ops.size = N) (hN : (s N).nb ≤ 1000000) (hI : ∀ i, i < N → Info P ops s rc i) (hg0 : (s 0).gs = []) (hl0 : (s 0).lim = 1000000) (hr0 : (s 0).res = []) {Q : Exit → Act → World → Prop} : ∀ (fuel : Nat) (listed : Array Bool) (ρ : Rho) (st : St) (a : Act) (w : World), listed.size = N → (∀ i, listed.getD i false = true → Rdy ops (fun j => listed.getD j false = true) i) → cnt (fun i => listed.getD i false) N ≤ fuel →
    Inv ops s rc N X (fun i => listed.getD i false) ρ st a w → (∀ ρ' a' w', Rel X ρ' (s N) a' w' → Ext ρ w ρ' w' → (∀ t, (∀ (i : Nat) (o : Oper), ops[i]? = some o → o.dst ≠ some t) → tmOf a' t = tmOf a t) → Q .normal a' w') →
    wpAny P .any ops Q fuel listed a w := by
  intro fuel
  have fin : ∀ (listed : Array Bool) (ρ : Rho) (st : St) (a : Act) (w : World), (∀ i, i < N → listed.getD i false = true) → Inv ops s rc N X (fun i => listed.getD i false) ρ st a w → (∀ ρ' a' w', Rel X ρ' (s N) a' w' → Ext ρ w ρ' w' → (∀ t, (∀ (i : Nat) (o : Oper), ops[i]? = some o → o.dst ≠ some t) → tmOf a' t = tmOf a t) → Q .normal a' w') → Q .normal a w := by
    intro listed ρ st a w hall h hq
    obtain ⟨n1, n2, n3, n4⟩ := same_n hI hg0 (i := N) (Nat.le_refl _)
    refine hq ρ a w (h.rel.same (n1.trans h.n.symm) n2 (fun t => ?_) (fun b => ?_) ⟨fun i hi => ?_, fun p hp => ?_⟩) (Ext.refl _ _) fun _ _ => rfl
    · rw [h.tm t]
      exact (last_at (S := fun i => listed.getD i false) (x := fun j => getL .unk (s j).tmps t) (fun j hj hw => (hI j hj).step.outT t (not_any hw)) (Nat.le_refl _) fun j hj _ => (hall j hj).trans (decide_eq_true hj).symm).symm
    · rw [h.en b]
      exact (last_at (S := fun i => listed.getD i false) (x := fun j => (s j).ent b) (fun j hj hw => (hI j hj).step.outB b (not_any hw)) (Nat.le_refl _) fun j hj _ => (hall j hj).trans (decide_eq_true hj).symm).symm
    · rcases hi with hi | ⟨p, hp, _⟩
      · exact h.free i (.inr ⟨hi.1, by rw [← hl0, ← n3]; exact hi.2⟩)
      · rw [n4, hr0] at hp; cases hp
    · rw [n4, hr0] at hp; cases hp
  -- as long as something is left, something is ready
  have live : ∀ (listed : Array Bool), listed.size = N → Region.ready .any ops listed = [] → ∀ i, i < N → listed.getD i false = true := by
    intro listed hsz hnil i
    induction i using Nat.strongRecOn with
    | _ i ih =>
      intro hi
      cases hl : listed.getD i false with
      | true => rfl
      | false =>
        exfalso
        have hmem : i ∈ Region.ready .any ops listed := by
          refine mem_ready.2 ⟨by omega, ?_, ?_⟩
          · rw [Array.getD_eq_getD_getElem?] at hl ⊢
            rw [Array.getElem?_eq_getElem (by omega)] at hl ⊢
            exact hl
          · obtain ⟨o, ho, ha⟩ := (hI i hi).anc
            rw [ho]
            show (o.after.all fun e => !Region.binds .any e || listed.getD e.on false) = true
            refine Array.all_eq_true_iff_forall_mem.2 fun e he => ?_
            cases hb : Region.binds .any e with
            | false => rfl
            | true =>
              obtain ⟨q, hq⟩ := (anc_spec ha).1 e (Array.mem_toList_iff.2 he) hb
              obtain ⟨h1, _⟩ := below_get rc i _ q hq
              rw [ih e.on h1 (by omega)]
              rfl
        rw [hnil] at hmem
        cases hmem
  induction fuel with
  | zero =>
    intro listed ρ st a w hsz hC hc h hq
    have hall := cnt_zero (Nat.le_zero.1 hc)
    refine ⟨?_, fin listed ρ st a w hall h hq⟩
    cases hr : Region.ready .any ops listed with
    | nil => rfl
    | cons i is =>
      exfalso
      have hm : i ∈ Region.ready .any ops listed := by rw [hr]; exact List.mem_cons_self
      obtain ⟨h1, h2, _⟩ := mem_ready.1 hm
      have := hall i (by omega)
      rw [Array.getD_eq_getD_getElem?, Array.getElem?_eq_getElem (by omega)] at this h2
      have h2 : listed[i] = false := h2
      have this : listed[i] = true := this
      rw [h2] at this
      cases this
  | succ fuel ih =>
    intro listed ρ st a w hsz hC hc h hq
    refine ⟨fun hnil => fin listed ρ st a w (live listed hsz hnil) h hq, fun k hk => ?_⟩
    obtain ⟨k1, k2, _⟩ := mem_ready.1 hk
    have hkN : k < N := by omega
    have hkS : listed.getD k false = false := by
      rw [Array.getD_eq_getD_getElem?, Array.getElem?_eq_getElem (by omega)] at k2 ⊢
      exact k2
    have hS' : ∀ j, (listed.setIfInBounds k true).getD j false = if j = k then true else listed.getD j false := fun j => by
      rw [Array.getD_eq_getD_getElem?, Array.getElem?_setIfInBounds]
      by_cases e : k = j
      · subst e; rw [if_pos rfl, if_pos rfl, if_pos (by omega)]; rfl
      · rw [if_neg e, if_neg (fun q => e q.symm), Array.getD_eq_getD_getElem?]
    refine inv_step hN hI hg0 hC hkN hkS (ready_rdy hk) h (S' := fun i => (listed.setIfInBounds k true).getD i false) hS' Q _ ?_
    intro ρ' st' a' w' h' hx hs
    refine ih (listed.setIfInBounds k true) ρ' st' a' w' (by simpa using hsz) ?_ ?_ h' fun ρ2 a2 w2 e1 e2 e3 => hq ρ2 a2 w2 e1 (hx.trans e2) fun t ht => (e3 t ht).trans (hs t (ht k))
    · intro i hi o ho e he hb
      rw [hS' e.on]
      by_cases q : e.on = k
      · rw [if_pos q]
      · rw [if_neg q]
        rw [hS' i] at hi
        by_cases q2 : i = k
        · subst q2
          exact ready_rdy hk o ho e he hb
        · rw [if_neg q2] at hi
          exact hC i hi o ho e he hb
    · have := (cnt_set (S := fun i => listed.getD i false) (S' := fun i => (listed.setIfInBounds k true).getD i false) hkS hS' (n := N)).1 hkN
      omega
theorem Rel.drawn (h : Rel X ρ st a w) : Rel X ρ st a { w with drawn := w.drawn + 1 } ∧ Ext ρ w ρ { w with drawn := w.drawn + 1 } := by
  have x : Ext ρ w ρ { w with drawn := w.drawn + 1 } := ⟨rfl, rfl, rfl, Nat.le_refl _, fun _ _ _ => rfl, fun i _ h => .inl ⟨i, h⟩, fun _ _ h => .inl h⟩
  exact ⟨⟨h.defers, h.size, h.sep, h.lt, fun i => EntOk.ext (h.ents i) x rfl fun b hb => rfl, fun i => (h.tmps i).ext x, fun i t b y hm => (h.gs i t b y hm).imp (fun h => ⟨h.1, h.2.ext x⟩) id, h.fresh, h.xlt, h.gl.ext x⟩, x⟩
theorem drawAll_sound (H : CtxOk P C) {K : St → Option R} {id : Nat} (h : Rel X ρ st a w) (hr : drawAll C ops st K = some r) (Q : Exit → Act → World → Prop)
    (hq : ∀ ρ' st' a' w', K st' = some r → Rel X ρ' st' a' w' → Ext ρ w ρ' w' → st'.n = st.n → SameBut (ops.toList.filterMap (·.dst)) a a' → Q .normal a' w') : (Code.region id ops true).wp P Q a w := by
  unfold drawAll at hr
  cases hc : (plainB st) with
  | false => rw [hc] at hr; cases hr
  | true =>
    rw [hc] at hr
    obtain ⟨c1a, c1b⟩ := (Bool.and_eq_true _ _).mp hc
    have c1a := Nat.eq_of_beq_eq_true c1a
    have c1b : st.res = [] := by
      cases hres : st.res with
      | nil => rfl
      | cons _ _ => rw [hres] at c1b; cases c1b
    replace hr : runDraw C ops ops.toList [] { st with gs := [] } K = some r := hr
    obtain ⟨s, rc, e1, e2, e3, e4, e5⟩ := runDraw_info H ops.toList 0 (fun _ => { st with gs := [] }) (fun _ => ⟨[], ⟨[], [], []⟩, 0⟩) (fun i => by rw [Nat.zero_add, Array.getElem?_toList]) hr
    have hlen : 0 + ops.toList.length = ops.size := by rw [Nat.zero_add, Array.length_toList]
    rw [hlen] at e3 e4 e5
    have hI : ∀ i, i < ops.size → Info P ops s rc i := fun i hi => e3 i (Nat.zero_le _) hi
    have s0 : s 0 = { st with gs := [] } := e1 0 (Nat.le_refl _)
    obtain ⟨hd, xd⟩ := h.drawn
    refine wp_region_draw fun t => ?_
    have hsch : Region.schedule (P.follows .mixedOrders) ops t = Region.linearise .any ops t := by
      unfold Region.schedule
      rw [H.mix]
      simp
    rw [hsch]
    unfold Region.linearise
    have hff : ∀ i, (Array.replicate ops.size false).getD i false = false := fun i => by
      rw [Array.getD_eq_getD_getElem?, Array.getElem?_replicate]
      split <;> rfl
    refine wpAny_sound ops.size t _ a _ (any_order (X := X) rfl e5 hI (by rw [s0]) (by rw [s0]; exact c1a) (by rw [s0]; exact c1b) ops.size _ ρ { st with gs := [] } a _ (by simp) (fun i hi => by rw [hff i] at hi; cases hi) ?_ ⟨hd.clear, by rw [s0], rfl, fun t => ?_, fun b => ?_, fun i hi => ?_⟩ ?_)
    · have : ∀ n, cnt (fun i => (Array.replicate ops.size false).getD i false) n = n := by
        intro n
        induction n with
        | zero => rfl
        | succ n ih =>
          unfold cnt
          rw [ih, hff n]
          rfl
      rw [this]
      exact Nat.le_refl _
    · have : ∀ n, last (fun i => (Array.replicate ops.size false).getD i false) (wrT rc t) (fun j => getL .unk (s (j + 1)).tmps t) n (getL .unk (s 0).tmps t) = getL .unk (s 0).tmps t := by
        intro n
        induction n with
        | zero => rfl
        | succ n ih =>
          unfold last
          rw [hff n, ih]
          rfl
      rw [this, s0]
    · have : ∀ n, last (fun i => (Array.replicate ops.size false).getD i false) (wrB rc b) (fun j => (s (j + 1)).ent b) n ((s 0).ent b) = (s 0).ent b := by
        intro n
        induction n with
        | zero => rfl
        | succ n ih =>
          unfold last
          rw [hff n, ih]
          rfl
      rw [this, s0]
    · have m0 := mono_nb hI (i := 0) (j := ops.size) (Nat.zero_le _) (Nat.le_refl _)
      have s0n : (s 0).nb = st.nb := by rw [s0]
      refine h.fresh.1 i (.inl ⟨?_, ?_⟩)
      · rcases hi with ⟨j, h1, _, h2, h3⟩ | hi
        · have := mono_nb hI (i := 0) (j := j) (Nat.zero_le _) (by omega)
          omega
        · omega
      · rw [c1a]
        rcases hi with ⟨j, h1, _, h2, h3⟩ | hi
        · have := mono_nb hI (i := j + 1) (j := ops.size) h1 (Nat.le_refl _)
          omega
        · exact hi.2
    · intro ρ' a' w' k1 k2 k3
      refine hq ρ' (s ops.size) a' w' e4 k1 (xd.trans k2) ?_ fun t ht => k3 t fun i o ho e => ht (List.mem_filterMap.2 ⟨o, ?_, e⟩)
      · rw [(same_n hI (by rw [s0]) (i := ops.size) (Nat.le_refl _)).1, s0]
      · exact Array.mem_toList_iff.2 (Array.mem_of_getElem? ho)
end
end Go.Proofs.YtaajcllchbnjiaaDoorE

namespace Go.Proofs.YtaajcllchbnjiaaDoorE
open Go Go.RowKit
set_option linter.unusedVariables false
def exOf : Ex → Exit
  | .nrm => .normal
  | .exit id => .exit id
  | .ret => .ret
def CGood {R : Type} (P : Program) (c : Code) (a : Act) (w : World) (X : Nat → Prop) (ρ : Rho) (st : St) (K : Ex → St → Option R) (r : R) : Prop :=
  ∀ Q : Exit → Act → World → Prop, (∀ e ρ' st' a' w', K e st' = some r → Rel X ρ' st' a' w' → Ext ρ w ρ' w' → st'.n = st.n → SameBut (dsts c) a a' → Q (exOf e) a' w') → c.wp P Q a w
def SumOk (P : Program) (C : Ctx) (c : Code) (s : Summ) : Prop :=
  ∀ (R : Type) (X : Nat → Prop) (ρ : Rho) (st : St) (a : Act) (w : World) (K : Ex → St → Option R) (r : R), Rel X ρ st a w → V C (.sum s) c st K = some r → CGood P c a w X ρ st K r
def PlanOk (P : Program) (C : Ctx) : Plan → Code → Prop
  | .sum s, c => SumOk P C c s
  | p, .seq a b => PlanOk P C p.l a ∧ PlanOk P C p.r b
  | p, .cond _ a b => PlanOk P C p.l a ∧ PlanOk P C p.r b
  | p, .block _ a => PlanOk P C p.o a
  | _, _ => True
section
variable {P : Program} {X : Nat → Prop} {ρ ρ' : Rho} {st st' : St} {a : Act} {w w' : World} {R : Type} {r : R} {C : Ctx}
theorem SameBut.mono {ds es : List Nat} {a a' : Act} (h : SameBut ds a a') (hs : ∀ i, i ∈ ds → i ∈ es) : SameBut es a a' := fun i hi => h i fun hm => hi (hs i hm)
theorem SameBut.trans {ds : List Nat} {a b c : Act} (h : SameBut ds a b) (k : SameBut ds b c) : SameBut ds a c := fun i hi => (k i hi).trans (h i hi)
theorem V_auto {p : Plan} (hp : ∀ s, p ≠ .sum s) (c : Code) (st : St) (K : Ex → St → Option R) : V C p c st K = match c with
    | .skip => K .nrm st
    | .region _ ops false => runOps C ops ops.toList st fun st' => K .nrm st'
    | .region _ ops true => drawAll C ops st fun st' => K .nrm st'
    | .seq a b => V C p.l a st fun e st' => match e with
      | .nrm => V C p.r b st' K
      | e => K e st'
    | .cond x a b => match x with
      | .tmp t => known 1 t st fun st' => match st'.tmp t with
        | .one (.kb true) => V C p.l a st' K
        | .one (.kb false) => V C p.r b st' K
        | _ => none
      | .const (.bool true) => V C p.l a st K
      | .const (.bool false) => V C p.r b st K
      | _ => none
    | .block id a => V C p.o a st fun e st' => match e with
      | .exit j => bif Nat.beq j id then K .nrm st' else K (.exit j) st'
      | e => K e st'
    | .exit id => K (.exit id) st
    | .ret => K .ret st
    | _ => none := by
  cases p with
  | sum s => exact absurd rfl (hp s)
  | auto => cases c <;> first | rfl | (rename_i draw; cases draw <;> rfl)
  | two p q => cases c <;> first | rfl | (rename_i draw; cases draw <;> rfl)
  | one p => cases c <;> first | rfl | (rename_i draw; cases draw <;> rfl)
theorem plan_auto {p : Plan} (hp : ∀ s, p ≠ .sum s) (c : Code) (h : PlanOk P C p c) : match c with
    | .seq a b => PlanOk P C p.l a ∧ PlanOk P C p.r b
    | .cond _ a b => PlanOk P C p.l a ∧ PlanOk P C p.r b
    | .block _ a => PlanOk P C p.o a
    | _ => True := by
  cases p with
  | sum s => exact absurd rfl (hp s)
  | auto => cases c <;> first | exact h | trivial
  | two p q => cases c <;> first | exact h | trivial
  | one p => cases c <;> first | exact h | trivial
theorem V_sound (H : CtxOk P C) : ∀ (c : Code) {p : Plan} {ρ : Rho} {st : St} {a : Act} {w : World} {K : Ex → St → Option R}, PlanOk P C p c → Rel X ρ st a w → V C p c st K = some r → CGood P c a w X ρ st K r := by
  intro c
  induction c with
  | skip =>
    intro p ρ st a w K hp h hr
    by_cases hs : ∃ s, p = .sum s
    · obtain ⟨s, rfl⟩ := hs; exact hp R X ρ st a w K r h hr
    · rw [V_auto (fun s e => hs ⟨s, e⟩)] at hr
      exact fun Q hq => wp_skip (hq .nrm ρ st a w hr h (Ext.refl _ _) rfl (SameBut.refl _ _))
  | region id ops draw =>
    intro p ρ st a w K hp h hr
    by_cases hs : ∃ s, p = .sum s
    · obtain ⟨s, rfl⟩ := hs; exact hp R X ρ st a w K r h hr
    · rw [V_auto (fun s e => hs ⟨s, e⟩)] at hr
      cases draw with
      | true =>
        intro Q hq
        refine drawAll_sound H h hr Q ?_
        intro ρ' st' a' w' k1 k2 k3 k4 k5
        exact hq .nrm ρ' st' a' w' k1 k2 k3 k4 k5
      | false =>
        intro Q hq
        refine wp_region_list (runOps_sound H ops ops.toList h hr Q ?_)
        intro ρ' st' a' w' k1 k2 k3 k4 k5
        exact hq .nrm ρ' st' a' w' k1 k2 k3 k4 k5
  | seq x y ihx ihy =>
    intro p ρ st a w K hp h hr
    by_cases hs : ∃ s, p = .sum s
    · obtain ⟨s, rfl⟩ := hs; exact hp R X ρ st a w K r h hr
    · have hs' : ∀ s, p ≠ .sum s := fun s e => hs ⟨s, e⟩
      rw [V_auto hs'] at hr
      obtain ⟨hp1, hp2⟩ := plan_auto hs' _ hp
      intro Q hq
      refine wp_seq (ihx hp1 h hr _ ?_)
      intro e ρ1 st1 a1 w1 k1 k2 k3 k4 k5
      have k5' : SameBut (dsts (.seq x y)) a a1 := k5.mono fun i hi => List.mem_append_left _ hi
      cases e with
      | nrm =>
        refine ihy hp2 k2 k1 Q ?_
        intro e2 ρ2 st2 a2 w2 m1 m2 m3 m4 m5
        exact hq e2 ρ2 st2 a2 w2 m1 m2 (k3.trans m3) (m4.trans k4) (k5'.trans (m5.mono fun i hi => List.mem_append_right _ hi))
      | exit id => exact hq _ ρ1 st1 a1 w1 k1 k2 k3 k4 k5'
      | ret => exact hq _ ρ1 st1 a1 w1 k1 k2 k3 k4 k5'
  | cond x t e iht ihe =>
    intro p ρ st a w K hp h hr
    by_cases hs : ∃ s, p = .sum s
    · obtain ⟨s, rfl⟩ := hs; exact hp R X ρ st a w K r h hr
    · have hs' : ∀ s, p ≠ .sum s := fun s e => hs ⟨s, e⟩
      rw [V_auto hs'] at hr
      obtain ⟨hp1, hp2⟩ := plan_auto hs' _ hp
      have goT : ∀ {st1 : St}, Rel X ρ st1 a w → st1.n = st.n → V C p.l t st1 K = some r → a.eval x = .bool true → CGood P (.cond x t e) a w X ρ st K r := by
        intro st1 h1 n1 hr1 hx Q hq
        refine wp_cond_true hx (iht hp1 h1 hr1 Q ?_)
        intro e2 ρ2 st2 a2 w2 m1 m2 m3 m4 m5
        exact hq e2 ρ2 st2 a2 w2 m1 m2 m3 (m4.trans n1) (m5.mono fun i hi => List.mem_append_left _ hi)
      have goF : ∀ {st1 : St}, Rel X ρ st1 a w → st1.n = st.n → V C p.r e st1 K = some r → a.eval x = .bool false → CGood P (.cond x t e) a w X ρ st K r := by
        intro st1 h1 n1 hr1 hx Q hq
        refine wp_cond_false hx (ihe hp2 h1 hr1 Q ?_)
        intro e2 ρ2 st2 a2 w2 m1 m2 m3 m4 m5
        exact hq e2 ρ2 st2 a2 w2 m1 m2 m3 (m4.trans n1) (m5.mono fun i hi => List.mem_append_right _ hi)
      dsimp only at hr
      split at hr
      · rename_i tt
        obtain ⟨st1, hr1, h1, n1⟩ := known_sound 1 tt h hr
        have ht := h1.tmp tt
        split at hr1
        · rename_i hb
          rw [hb] at ht
          refine goT h1 n1 hr1 ?_
          rcases ht with ht | ⟨_, _, _, e, _⟩
          · exact ht
          · cases e
        · rename_i hb
          rw [hb] at ht
          refine goF h1 n1 hr1 ?_
          rcases ht with ht | ⟨_, _, _, e, _⟩
          · exact ht
          · cases e
        · cases hr1
      · exact goT h rfl hr rfl
      · exact goF h rfl hr rfl
      · cases hr
  | block id x ih =>
    intro p ρ st a w K hp h hr
    by_cases hs : ∃ s, p = .sum s
    · obtain ⟨s, rfl⟩ := hs; exact hp R X ρ st a w K r h hr
    · have hs' : ∀ s, p ≠ .sum s := fun s e => hs ⟨s, e⟩
      rw [V_auto hs'] at hr
      have hp1 := plan_auto hs' _ hp
      intro Q hq
      refine wp_block (ih hp1 h hr _ ?_)
      intro e ρ1 st1 a1 w1 k1 k2 k3 k4 k5
      cases e with
      | nrm => exact hq .nrm ρ1 st1 a1 w1 k1 k2 k3 k4 k5
      | ret => exact hq .ret ρ1 st1 a1 w1 k1 k2 k3 k4 k5
      | exit j =>
        replace k1 : (bif Nat.beq j id then K .nrm st1 else K (.exit j) st1) = some r := k1
        show (if j = id then Q .normal a1 w1 else Q (.exit j) a1 w1)
        cases hj : Nat.beq j id with
        | true =>
          rw [hj] at k1
          rw [if_pos (Nat.eq_of_beq_eq_true hj)]
          exact hq .nrm ρ1 st1 a1 w1 k1 k2 k3 k4 k5
        | false =>
          rw [hj] at k1
          rw [if_neg (Nat.ne_of_beq_eq_false hj)]
          exact hq (.exit j) ρ1 st1 a1 w1 k1 k2 k3 k4 k5
  | exit id =>
    intro p ρ st a w K hp h hr
    by_cases hs : ∃ s, p = .sum s
    · obtain ⟨s, rfl⟩ := hs; exact hp R X ρ st a w K r h hr
    · rw [V_auto (fun s e => hs ⟨s, e⟩)] at hr
      exact fun Q hq => wp_exit (hq (.exit id) ρ st a w hr h (Ext.refl _ _) rfl (SameBut.refl _ _))
  | ret =>
    intro p ρ st a w K hp h hr
    by_cases hs : ∃ s, p = .sum s
    · obtain ⟨s, rfl⟩ := hs; exact hp R X ρ st a w K r h hr
    · rw [V_auto (fun s e => hs ⟨s, e⟩)] at hr
      exact fun Q hq => wp_ret (hq .ret ρ st a w hr h (Ext.refl _ _) rfl (SameBut.refl _ _))
  | loop x ih =>
    intro p ρ st a w K hp h hr
    by_cases hs : ∃ s, p = .sum s
    · obtain ⟨s, rfl⟩ := hs; exact hp R X ρ st a w K r h hr
    · rw [V_auto (fun s e => hs ⟨s, e⟩)] at hr
      cases hr
  | rangeFunc f ps x y ihx ihy =>
    intro p ρ st a w K hp h hr
    by_cases hs : ∃ s, p = .sum s
    · obtain ⟨s, rfl⟩ := hs; exact hp R X ρ st a w K r h hr
    · rw [V_auto (fun s e => hs ⟨s, e⟩)] at hr
      cases hr
  | scope x ih =>
    intro p ρ st a w K hp h hr
    by_cases hs : ∃ s, p = .sum s
    · obtain ⟨s, rfl⟩ := hs; exact hp R X ρ st a w K r h hr
    · rw [V_auto (fun s e => hs ⟨s, e⟩)] at hr
      cases hr
  | label l =>
    intro p ρ st a w K hp h hr
    by_cases hs : ∃ s, p = .sum s
    · obtain ⟨s, rfl⟩ := hs; exact hp R X ρ st a w K r h hr
    · rw [V_auto (fun s e => hs ⟨s, e⟩)] at hr
      cases hr
  | goto l =>
    intro p ρ st a w K hp h hr
    by_cases hs : ∃ s, p = .sum s
    · obtain ⟨s, rfl⟩ := hs; exact hp R X ρ st a w K r h hr
    · rw [V_auto (fun s e => hs ⟨s, e⟩)] at hr
      cases hr
  | refuse y =>
    intro p ρ st a w K hp h hr
    by_cases hs : ∃ s, p = .sum s
    · obtain ⟨s, rfl⟩ := hs; exact hp R X ρ st a w K r h hr
    · rw [V_auto (fun s e => hs ⟨s, e⟩)] at hr
      cases hr
end
end Go.Proofs.YtaajcllchbnjiaaDoorE

namespace Go.Proofs.YtaajcllchbnjiaaDoorE
open Go Go.RowKit
set_option linter.unusedVariables false

theorem same_refl : ∀ t : Ty, ∃ h, Ty.same t t = some h
  | .int k => ⟨⟨rfl⟩, by simp [Ty.same]⟩
  | .bool => ⟨⟨rfl⟩, rfl⟩
  | .str => ⟨⟨rfl⟩, rfl⟩
  | .unit => ⟨⟨rfl⟩, rfl⟩
  | .sl r => by obtain ⟨h, e⟩ := same_refl r; exact ⟨⟨rfl⟩, by simp [Ty.same, e]⟩
  | .pair a b => by
    obtain ⟨h, e⟩ := same_refl a
    obtain ⟨h', e'⟩ := same_refl b
    exact ⟨⟨rfl⟩, by simp [Ty.same, e, e']⟩
theorem as_some {t : Ty} {d : DV} {x : t.T} (h : d.asx t = some x) : d = .mk t x := by
  cases d with
  | mk t' y =>
    replace h : (match Ty.same t' t with
      | some h => some (h.down ▸ y : t.T)
      | none => none) = some x := h
    split at h
    · rename_i e _
      have e' := e.down
      subst e'
      cases h
      rfl
    · cases h
theorem castL_some {r' r : Ty} {l : List r'.T} {m : List r.T} (h : castL l = some m) : ∃ e : r' = r, m = (e ▸ l : List r.T) := by
  unfold castL at h
  split at h
  · rename_i e _
    cases h
    exact ⟨e.down, rfl⟩
  · cases h
theorem of_toProd : ∀ {ts : List Ty} {ds : List DV} {x : Prod' ts}, toProd ts ds = some x → ofProd ts x = ds
  | [], [], _, _ => rfl
  | [t], [d], x, h => by rw [as_some (show d.asx t = some x from h)]; rfl
  | t :: t' :: ts, d :: ds, x, h => by
    unfold toProd at h
    split at h
    · rename_i a b ha hb
      cases h
      show DV.mk t a :: ofProd (t' :: ts) b = _
      rw [of_toProd hb, as_some ha]
    · cases h
  | [], _ :: _, _, h => by cases h
  | [t], [], _, h => by cases h
  | [t], _ :: _ :: _, _, h => by simp [toProd] at h
  | _ :: _ :: _, [], _, h => by cases h
section
variable {P : Program} {X : Nat → Prop} {ρ ρ' : Rho} {st st' : St} {a : Act} {w w' : World} {R : Type} {r : R} {C : Ctx}
/-- Where a list that is read may lie: blocks that are not written, or a row that is told of. -/
def FixOr (X : Nat → Prop) (ρ : Rho) (w : World) (ns : List Nat) (b : Nat) : Prop := Fix X ρ w b ∨ ∃ n ∈ ns, owns (ρ n) b
theorem pureOf_ok (h : Rel X ρ st a w) {t : Ty} {x : Leaf} {v : Value} {y : t.T} {ns : List Nat} (hx : LeafOk X ρ w x v) (hs : pureOf st t x = some (y, ns)) : Rep w (FixOr X ρ w ns) t y [v] := by
  have plain : ∀ {t : Ty} {x : Leaf} {y : t.T}, LeafOk X ρ w x v → unlA t [x] = some y → Rep w (FixOr X ρ w []) t y [v] := fun hx hu =>
    Rep.move (fun b hb => ⟨rfl, .inl hb⟩) (unlA_ok (cs := [v]) hu ⟨hx, trivial⟩)
  have scalar : ∀ {t : Ty} {y : t.T} {ns : List Nat}, (match unlA t [x] with | some y => some (y, []) | none => none) = some (y, ns) → Rep w (FixOr X ρ w ns) t y [v] := by
    intro t y ns hs
    split at hs
    · rename_i z hz
      cases hs
      exact plain hx hz
    · cases hs
  cases t with
  | int k => exact scalar hs
  | bool => exact scalar hs
  | str => exact scalar hs
  | pair p q => exact scalar hs
  | unit => exact scalar hs
  | sl r =>
    replace hs : pureSl st r x = some (y, ns) := hs
    unfold pureSl at hs
    split at hs
    · rename_i n
      have h0 := h.ents n
      have hx2 := hx.2
      unfold ownList at hs
      split at hs
      · rename_i z e rt l he
        rw [he] at h0
        obtain ⟨u, hu, h0⟩ := h0
        rw [hu] at hx2
        have hx2 : v = u := hx2
        subst hx2
        cases hm : isMap e with
        | true => rw [hm] at hs; cases hs
        | false =>
        rw [hm] at hs
        simp only [cond_false] at hs
        split at hs
        · rename_i l2 hl2
          cases hs
          obtain ⟨ee, rfl⟩ := castL_some hl2
          refine cast_list ee ?_
          rcases h0.slice hm with ⟨rfl, rfl⟩ | ⟨gb, cap, cs, fr, rfl, hh, hun, _, hlc, hsz, hrow⟩
          · exact ⟨none, 0, rfl, Nat.le_refl _, .inl rfl⟩
          · refine ⟨_, cap, rfl, hlc, .inr ⟨gb, 0, rfl, .inr ⟨n, List.mem_singleton.2 rfl, by rw [hu]; rfl⟩, ?_⟩⟩
            intro j z hj
            refine ⟨_, ?_, Rep.move (fun b hb => ⟨rfl, .inl hb⟩) (hrow j z hj)⟩
            intro i q hq
            rw [cell_of_row w gb _ cs _ fr hh]
            rw [row_get] at hq
            split at hq
            · rw [Nat.zero_add]
              simpa using hq
            · cases hq
        · cases hs
      · rename_i rt l he
        rw [he] at h0
        obtain ⟨u, hu, h0⟩ := h0
        rw [hu] at hx2
        have hx2 : v = u := hx2
        subst hx2
        split at hs
        · rename_i l2 hl2
          cases hs
          obtain ⟨e, rfl⟩ := castL_some hl2
          exact cast_list e (Rep.move (fun b hb => ⟨rfl, .inl hb⟩) h0)
        · cases hs
      · cases hs
    · split at hs
      · rename_i l hl
        cases hs
        exact plain hx hl
      · cases hs
theorem rep_data {F : Nat → Prop} {t : Ty} {y : t.T} {cs : List Value} (h : Rep w F t y cs) : DLeaves w F (fun _ => False) (leaves t y) cs := by
  induction t generalizing cs with
  | int k => cases h; exact ⟨rfl, trivial⟩
  | bool => cases h; exact ⟨rfl, trivial⟩
  | str => cases h; exact ⟨rfl, trivial⟩
  | sl r ih =>
    obtain ⟨A, c, rfl, h⟩ := h
    exact ⟨⟨A, c, rfl, h⟩, trivial⟩
  | pair p q ihp ihq =>
    obtain ⟨c1, c2, rfl, h1, h2⟩ := h
    have a1 := ihp h1
    have a2 := ihq h2
    clear ihp ihq h1 h2
    show DLeaves w F (fun _ => False) (leaves p y.1 ++ leaves q y.2) (c1 ++ c2)
    generalize leaves p y.1 = xs at a1
    induction xs generalizing c1 with
    | nil =>
      cases c1 with
      | nil => exact a2
      | cons _ _ => exact a1.elim
    | cons x xs ih =>
      cases c1 with
      | nil => exact a1.elim
      | cons c c1 => exact ⟨a1.1, ih c1 a1.2⟩
  | unit => cases h; trivial
theorem rls_data {F : Nat → Prop} : ∀ {xs : List Leaf} {vs : List Value}, DLeaves w F (fun _ => False) xs vs → RLsOk w F (xs.map .leaf) vs []
  | [], [], _ => rfl
  | _ :: _, _ :: _, h => ⟨h.1, rls_data h.2⟩
  | [], _ :: _, h => h.elim
  | _ :: _, [], h => h.elim
theorem RLsOk.append {F : Nat → Prop} : ∀ {xs ys : List RL} {us vs : List Value} {O1 O2 : List Conc}, RLsOk w F xs us O1 → RLsOk w F ys vs O2 → RLsOk w F (xs ++ ys) (us ++ vs) (O1 ++ O2)
  | [], ys, [], vs, O1, O2, h, k => by
    obtain rfl : O1 = [] := h
    exact k
  | .leaf x :: xs, ys, u :: us, vs, O1, O2, h, k => ⟨h.1, RLsOk.append h.2 k⟩
  | .own e r l :: xs, ys, u :: us, vs, o :: O1, O2, h, k => ⟨h.1, h.2.1, RLsOk.append h.2.2 k⟩
  | .own _ _ _ :: _, _, _ :: _, _, [], _, h, _ => h.elim
  | [], _, _ :: _, _, _, _, h, _ => h.elim
  | .leaf _ :: _, _, [], _, _, _, h, _ => h.elim
  | .own _ _ _ :: _, _, [], _, _, _, h, _ => h.elim
/-- What a told leaf is, as the contract tells it: the rows that are handed on, and where the data lies. -/
def Told (X : Nat → Prop) (ρ : Rho) (w : World) (d : DR) (xs : List RL) (vs : List Value) (O : List Conc) : Prop :=
  (∀ F : Nat → Prop, (∀ b, FixOr X ρ w d.pures b → F b) → RLsOk w F xs vs O) ∧ ((O.filterMap cb).Sublist (d.owns.filterMap fun n => cbO (ρ n))) ∧
    (∀ u ∈ O, ∀ b, cb u = some b → ∃ n ∈ d.owns, owns (ρ n) b) ∧ ∀ n ∈ d.owns ++ d.pures, ∃ u, ρ n = some (.row u)
theorem scalar_rows {t : Ty} {x : Leaf} {y : t.T} {ns : List Nat} (hs : (match unlA t [x] with | some y => some (y, []) | none => none) = some (y, ns)) : ∀ n ∈ ns, ∃ u, ρ n = some (.row u) := by
  split at hs
  · cases hs
    intro m hm
    cases hm
  · cases hs
theorem pureOf_rows (h : Rel X ρ st a w) {t : Ty} {x : Leaf} {y : t.T} {ns : List Nat} (hs : pureOf st t x = some (y, ns)) : ∀ n ∈ [] ++ ns, ∃ u, ρ n = some (.row u) := by
  rw [List.nil_append]
  cases t with
  | sl r =>
    replace hs : pureSl st r x = some (y, ns) := hs
    unfold pureSl at hs
    split at hs
    · rename_i n
      have h0 := h.ents n
      unfold ownList at hs
      split at hs
      · rename_i z e rt l he
        rw [he] at h0
        obtain ⟨u, hu, h0⟩ := h0
        cases hme : isMap e with
        | true => rw [hme] at hs; cases hs
        | false =>
        rw [hme] at hs
        simp only [cond_false] at hs
        split at hs
        · cases hs
          intro m hm
          rw [List.mem_singleton.1 hm]
          exact ⟨u, hu⟩
        · cases hs
      · split at hs
        · cases hs
          intro m hm
          cases hm
        · cases hs
      · cases hs
    · split at hs
      · cases hs
        intro m hm
        cases hm
      · cases hs
  | int k => exact scalar_rows hs
  | bool => exact scalar_rows hs
  | str => exact scalar_rows hs
  | pair p q => exact scalar_rows hs
  | unit => exact scalar_rows (t := .unit) (x := x) hs
theorem FixOr.mono {ns ms : List Nat} (h : ∀ n ∈ ns, n ∈ ms) {b : Nat} (k : FixOr X ρ w ns b) : FixOr X ρ w ms b := k.imp id fun ⟨n, h1, h2⟩ => ⟨n, h n h1, h2⟩
theorem decK_ok (h : Rel X ρ st a w) {k : RK} {x : Leaf} {v : Value} {d : DR} (hx : LeafOk X ρ w x v) (hs : decK st k x = some d) (ds : List DV) :
    ∃ O, Told X ρ w d (encRK [k] (d.ds ++ ds)).1 [v] O ∧ ∀ ks, encRK (k :: ks) (d.ds ++ ds) = ((encRK [k] (d.ds ++ ds)).1 ++ (encRK ks ds).1, (encRK ks ds).2) := by
  cases k with
  | v t =>
    replace hs : decV st t x = some d := hs
    unfold decV at hs
    split at hs
    · rename_i y ns hy
      cases hs
      refine ⟨[], ⟨fun F hF => ?_, List.Sublist.refl _, (fun u hu => nomatch hu), pureOf_rows h hy⟩, fun ks => ?_⟩
      · have hrep := pureOf_ok h hx hy
        have := rls_data (rep_data (Rep.move (fun b hb => ⟨rfl, hF b hb⟩) hrep))
        show RLsOk w F ((leaves t y).map .leaf ++ []) [v] []
        rw [List.append_nil]
        exact this
      · show ((leaves t y).map RL.leaf ++ (encRK ks ds).1, (encRK ks ds).2) = ((leaves t y).map RL.leaf ++ [] ++ (encRK ks ds).1, (encRK ks ds).2)
        rw [List.append_nil]
    · cases hs
  | own e r =>
    replace hs : decOwn st e r x = some d := hs
    unfold decOwn at hs
    split at hs
    · rename_i n
      have h0 := h.ents n
      have hx2 := hx.2
      split at hs
      · rename_i e' rt l he
        rw [he] at h0
        obtain ⟨u, hu, h0⟩ := h0
        rw [hu] at hx2
        have hx2 : v = u := hx2
        subst hx2
        split at hs
        · rename_i l2 hl2
          cases hee : Nat.beq e e' with
          | false => rw [hee] at hs; cases hs
          | true =>
            rw [hee] at hs
            cases hs
            obtain rfl := Nat.eq_of_beq_eq_true hee
            obtain ⟨ee, rfl⟩ := castL_some hl2
            refine ⟨[.row v], ⟨fun F hF => ?_, ?_, ?_, fun n' hn' => by rw [List.mem_singleton.1 hn']; exact ⟨v, hu⟩⟩, fun ks => rfl⟩
            · refine ⟨rfl, ?_, rfl⟩
              have hm := RowOk.mono (F' := F) (fun b hb => hF b (.inl hb)) h0
              subst ee
              exact hm
            · simp only [List.filterMap_cons, List.filterMap_nil, hu, cbO, cb, Option.bind_some]
              exact List.Sublist.refl _
            · intro q hq b hb
              rw [List.mem_singleton.1 hq] at hb
              exact ⟨n, List.mem_singleton.2 rfl, by rw [hu]; exact hb⟩
        · cases hs
      · cases hs
    · cases hm : isMap e with
      | true => rw [hm] at hs; cases hs
      | false =>
      rw [hm] at hs
      cases hs
      have hx : v = .slice none 0 0 := hx
      subst hx
      refine ⟨[.row (.slice none 0 0)], ⟨fun F hF => ⟨rfl, RowS.ok (.inl ⟨rfl, rfl⟩) hm, rfl⟩, ?_, ?_, fun n' hn' => nomatch hn'⟩, fun ks => rfl⟩
      · simp [cb, ownB]
      · intro q hq b hb
        rw [List.mem_singleton.1 hq] at hb
        cases hb
    · cases hs
theorem told_rows {d : DR} {xs : List RL} {vs : List Value} {O : List Conc} (h : Told X ρ w d xs vs O) {d2 : DR} (h1 : ∀ n ∈ d.pures, n ∈ d2.pures) {F : Nat → Prop} (hF : ∀ b, FixOr X ρ w d2.pures b → F b) : RLsOk w F xs vs O := h.1 F fun b hb => hF b (hb.mono h1)
theorem rows_app {d1 d2 : DR} (h : ∀ n ∈ d1.owns ++ d1.pures, ∃ u, ρ n = some (.row u)) (k : ∀ n ∈ d2.owns ++ d2.pures, ∃ u, ρ n = some (.row u)) : ∀ n ∈ (d1.app d2).owns ++ (d1.app d2).pures, ∃ u, ρ n = some (.row u) := by
  intro n hn
  rcases List.mem_append.1 hn with hn | hn
  · rcases List.mem_append.1 (show n ∈ d1.owns ++ d2.owns from hn) with hn | hn
    · exact h n (List.mem_append_left _ hn)
    · exact k n (List.mem_append_left _ hn)
  · rcases List.mem_append.1 (show n ∈ d1.pures ++ d2.pures from hn) with hn | hn
    · exact h n (List.mem_append_right _ hn)
    · exact k n (List.mem_append_right _ hn)
theorem Told.app {d1 d2 : DR} {xs ys : List RL} {us vs : List Value} {O1 O2 : List Conc} (h : Told X ρ w d1 xs us O1) (k : Told X ρ w d2 ys vs O2) : Told X ρ w (d1.app d2) (xs ++ ys) (us ++ vs) (O1 ++ O2) := by
  refine ⟨fun F hF => (told_rows h (d2 := d1.app d2) (fun n hn => List.mem_append_left _ hn) hF).append (told_rows k (d2 := d1.app d2) (fun n hn => List.mem_append_right _ hn) hF), ?_, ?_⟩
  · rw [List.filterMap_append]
    show List.Sublist _ ((d1.owns ++ d2.owns).filterMap _)
    rw [List.filterMap_append]
    exact h.2.1.append k.2.1
  · refine ⟨?_, rows_app h.2.2.2 k.2.2.2⟩
    intro u hu b hb
    rcases List.mem_append.1 hu with hu | hu
    · obtain ⟨n, h1, h2⟩ := h.2.2.1 u hu b hb
      exact ⟨n, List.mem_append_left _ h1, h2⟩
    · obtain ⟨n, h1, h2⟩ := k.2.2.1 u hu b hb
      exact ⟨n, List.mem_append_right _ h1, h2⟩
theorem decRK_ok (h : Rel X ρ st a w) : ∀ {ks : List RK} {xs : List Leaf} {vs : List Value} {d : DR} (ds : List DV), LeavesOk X ρ w xs vs → decRK st ks xs = some d → ∃ O, Told X ρ w d (encRK ks (d.ds ++ ds)).1 vs O ∧ (encRK ks (d.ds ++ ds)).2 = ds
  | [], [], [], d, ds, _, hs => by
    cases hs
    exact ⟨[], ⟨fun F _ => rfl, List.Sublist.refl _, (fun u hu => nomatch hu), fun n hn => nomatch hn⟩, rfl⟩
  | k :: ks, x :: xs, v :: vs, d, ds, hx, hs => by
    unfold decRK at hs
    split at hs
    · rename_i d1 d2 h1 h2
      cases hs
      obtain ⟨O1, t1, e1⟩ := decK_ok h hx.1 h1 (d2.ds ++ ds)
      obtain ⟨O2, t2, e2⟩ := decRK_ok h ds hx.2 h2
      have e3 : encRK (k :: ks) ((d1.app d2).ds ++ ds) = ((encRK [k] (d1.ds ++ (d2.ds ++ ds))).1 ++ (encRK ks (d2.ds ++ ds)).1, (encRK ks (d2.ds ++ ds)).2) := by
        rw [← e1 ks, ← List.append_assoc]
        rfl
      rw [e3]
      exact ⟨O1 ++ O2, t1.app t2, e2⟩
    · cases hs
  | [], _ :: _, _, _, _, _, hs => by cases hs
  | _ :: _, [], _, _, _, _, hs => by cases hs
  | [], [], _ :: _, _, _, h, _ => h.elim
  | _ :: _, _ :: _, [], _, _, h, _ => h.elim
end
end Go.Proofs.YtaajcllchbnjiaaDoorE

namespace Go.Proofs.YtaajcllchbnjiaaDoorE
open Go Go.RowKit
set_option linter.unusedVariables false
section
variable {P : Program} {X : Nat → Prop} {ρ ρ' : Rho} {st st' : St} {a : Act} {w w' : World} {R : Type} {r : R} {C : Ctx}
/-! #### results -/
def ResRun (P : Program) (w : World) (tmps : Array Value) : ResultVar → Value → Prop
  | .tmp t, u => u = tmps.getD t undef
  | .cell p ty, u => ∃ A, tmps.getD p undef = .pointer (some A) ∧ (loadVar ty A).run P w = .ok u w
theorem compOf_ok (T : TiOk P C.ti) (h : Rel X ρ st a w) {ag : Bool} {v : ResultVar} {xs : List Leaf} (hs : compOf C.ti st ag v = some xs) :
    ∃ u, ResRun P w a.tmps v u ∧ CompOk X ρ w (ag, xs) u := by
  cases v with
  | tmp t =>
    replace hs : compT ag (st.tmp t) = some xs := hs
    have ht := h.tmp t
    refine ⟨tmOf a t, rfl, ?_⟩
    unfold compT at hs
    split at hs
    · rename_i x hx
      rw [hx] at ht
      cases ag with
      | true => cases hs
      | false =>
        cases hs
        rcases ht with ht | ⟨_, _, _, e, _⟩
        · exact ⟨ht, trivial⟩
        · cases e
    · rename_i ys hx
      rw [hx] at ht
      cases ag with
      | false => cases hs
      | true =>
        cases hs
        rcases ht with ht | ⟨_, _, _, e, _⟩
        · exact ht
        · cases e
    · cases hs
  | cell p ty =>
    replace hs : compC C.ti st ag ty (st.tmp p) = some xs := hs
    have ht := h.tmp p
    unfold compC at hs
    split at hs
    · rename_i b hb
      rw [hb] at ht
      split at hs
      · rename_i bt ys he
        have h0 := h.ents b
        rw [he] at h0
        obtain ⟨gb, cs, fr, hρ, hh, hun, hys⟩ := h0
        have ht2 : tmOf a p = .pointer (some ⟨gb, 0, none⟩) := by
          rcases ht with ht | ⟨_, _, _, e, _⟩
          · have := ht.2
            rw [hρ] at this
            exact this
          · cases e
        unfold cellOf at hs
        split at hs
        · rename_i i hi
          cases hc : ((i.agg == ag) && Nat.beq (bif ag then i.sz else 1) ys.length) with
          | false => rw [hc] at hs; cases hs
          | true =>
            rw [hc] at hs
            cases hs
            obtain ⟨c1, c2⟩ := (Bool.and_eq_true _ _).mp hc
            have c1 : i.agg = ag := by simpa using c1
            have c2 := Nat.eq_of_beq_eq_true c2
            have hlen := hys.len
            have hload : ∀ u, (loadVar ty ⟨gb, 0, none⟩).run P w = .ok u w → ResRun P w a.tmps (.cell p ty) u := fun u hu => ⟨_, ht2, hu⟩
            cases ag with
            | true =>
              refine ⟨.agg cs, hload _ ?_, ⟨cs, rfl, hys⟩⟩
              obtain ⟨q, hq, hq2, _⟩ := (T _ _ hi).info
              obtain ⟨d, hd, hag, _⟩ := (T _ _ hi).und
              refine run_loadVar_row w gb bt ty cs fr d hh hd ?_ ?_
              · rw [c1] at hag
                rw [hag]
                cases d <;> rfl
              · rw [hq]
                simp only [Option.map_some, hq2]
                have c2 : i.sz = xs.length := c2
                rw [c2, hlen, Array.length_toList]
            | false =>
              have c2 : 1 = xs.length := c2
              rw [hlen] at c2
              have hcs : ∃ u, cs.toList = [u] := by
                cases hcl : cs.toList with
                | nil => rw [hcl] at c2; cases c2
                | cons u us =>
                  cases us with
                  | nil => exact ⟨u, rfl⟩
                  | cons _ _ => rw [hcl] at c2; simp at c2
              obtain ⟨u, hu⟩ := hcs
              refine ⟨u, hload u ?_, ?_⟩
              · have hc0 : w.cell? ⟨gb, 0, none⟩ = some u := by
                  rw [cell_of_row w gb 0 cs bt fr hh, ← Array.getElem?_toList, hu]
                  rfl
                unfold loadVar
                simp only [Sem.run_bind, run_isAgg (T _ _ hi), Result.andThen_ok, c1]
                simp [hc0]
              · rw [hu] at hys
                exact hys
        · cases hs
      · cases hs
    · cases hs
def ResRuns (P : Program) (w : World) (tmps : Array Value) : List ResultVar → List Value → Prop
  | [], [] => True
  | v :: vs, u :: us => ResRun P w tmps v u ∧ ResRuns P w tmps vs us
  | _, _ => False
def resOne (tmps : Array Value) : ResultVar → Sem Value
  | .tmp t => pure (tmps.getD t undef)
  | .cell p t => do loadVar t (← asAddr (tmps.getD p undef))
theorem run_resOne {tmps : Array Value} {v : ResultVar} {u : Value} (h : ResRun P w tmps v u) : (resOne tmps v).run P w = .ok u w := by
  cases v with
  | tmp t => rw [show u = _ from h]; rfl
  | cell p ty =>
    obtain ⟨A, h1, h2⟩ := h
    unfold resOne
    simp only [Sem.run_bind, h1, asAddr, Sem.run_pure, Result.andThen_ok, h2]
theorem run_resAll {tmps : Array Value} : ∀ {vs : List ResultVar} {us : List Value}, ResRuns P w tmps vs us → (vs.mapM (resOne tmps)).run P w = .ok us w
  | [], [], _ => by simp
  | v :: vs, u :: us, h => by
    rw [List.mapM_cons]
    simp only [Sem.run_bind, run_resOne h.1, Result.andThen_ok, run_resAll h.2, Sem.run_pure]
  | [], _ :: _, h => h.elim
  | _ :: _, [], h => h.elim
def tupOf : List Value → Value
  | [u] => u
  | us => .tuple us.toArray
theorem run_results {fn : Func} {tmps : Array Value} {us : List Value} (h : ResRuns P w tmps fn.results.toList us) :
    (results fn tmps).run P w = .ok (tupOf us) w := by
  have h0 : results fn tmps = (do let vs ← fn.results.mapM (resOne tmps); pure (if h : vs.size = 1 then vs[0] else .tuple vs)) := by
    unfold results
    first
      | rfl
      | (congr 2; funext v; cases v <;> rfl)
  rw [h0, Array.mapM_eq_mapM_toList]
  simp only [Sem.run_bind, Sem.run_map, run_resAll h, Result.andThen_ok, Sem.run_pure]
  congr 1
  match us with
  | [] => rfl
  | [u] => rfl
  | _ :: _ :: _ => rfl
/-- Results, as the contract tells them; S: the slots of what is handed on, in order. -/
structure ToldC (X : Nat → Prop) (ρ : Rho) (w : World) (d : DR) (bs : List Nat) (ps : List RC) (us : List Value) (O : List Conc) (S : List Nat) : Prop where
  perm : S.Perm (d.owns ++ bs)
  sub : (O.filterMap cb).Sublist (S.filterMap fun n => cbO (ρ n))
  told : ∀ F : Nat → Prop, (∀ b, FixOr X ρ w d.pures b → F b) → RComps w F ps us O
  rows : ∀ n ∈ d.owns ++ d.pures, ∃ u, ρ n = some (.row u)
  boxes : ∀ n ∈ bs, ∃ g, ρ n = some (.blk g)
structure Told1 (X : Nat → Prop) (ρ : Rho) (w : World) (d : DR) (bs : List Nat) (p : RC) (u : Value) (O : List Conc) (S : List Nat) : Prop where
  perm : S.Perm (d.owns ++ bs)
  sub : (O.filterMap cb).Sublist (S.filterMap fun n => cbO (ρ n))
  told : ∀ F : Nat → Prop, (∀ b, FixOr X ρ w d.pures b → F b) → RComp w F p u O
  rows : ∀ n ∈ d.owns ++ d.pures, ∃ u, ρ n = some (.row u)
  boxes : ∀ n ∈ bs, ∃ g, ρ n = some (.blk g)
theorem decSK_ok (T : TiOk P C.ti) (h : Rel X ρ st a w) {k : SK} {v : ResultVar} {d : DR} {bs : List Nat} (ds : List DV) (hs : decSK C.ti st v k = some (d, bs)) :
    ∃ u O S p, ResRun P w a.tmps v u ∧ Told1 X ρ w d bs p u O S ∧ ∀ rs, encRes (k :: rs) (d.ds ++ ds) = (p :: (encRes rs ds).1, (encRes rs ds).2) := by
  cases k with
  | val ag ks =>
    replace hs : (match compOf C.ti st ag v with
      | some xs => match decRK st ks xs with
        | some d => some (d, [])
        | none => none
      | none => none) = some (d, bs) := hs
    split at hs
    · rename_i xs hxs
      split at hs
      · rename_i d' h1
        cases hs
        obtain ⟨u, hu, hc⟩ := compOf_ok T h hxs
        unfold CompOk at hc
        cases ag with
        | true =>
          obtain ⟨cs, rfl, hc⟩ := hc
          obtain ⟨O1, t1, e1⟩ := decRK_ok h ds hc h1
          refine ⟨_, O1, d.owns, .val true (encRK ks (d.ds ++ ds)).1, hu, ⟨by simp, t1.2.1, fun F hF => ⟨cs, rfl, t1.1 F hF⟩, t1.2.2.2, fun n hn => nomatch hn⟩, fun rs => ?_⟩
          show (RC.val true (encRK ks (d.ds ++ ds)).1 :: (encRes rs (encRK ks (d.ds ++ ds)).2).1, (encRes rs (encRK ks (d.ds ++ ds)).2).2) = _
          rw [e1]
        | false =>
          obtain ⟨O1, t1, e1⟩ := decRK_ok h ds hc h1
          refine ⟨u, O1, d.owns, .val false (encRK ks (d.ds ++ ds)).1, hu, ⟨by simp, t1.2.1, fun F hF => t1.1 F hF, t1.2.2.2, fun n hn => nomatch hn⟩, fun rs => ?_⟩
          show (RC.val false (encRK ks (d.ds ++ ds)).1 :: (encRes rs (encRK ks (d.ds ++ ds)).2).1, (encRes rs (encRK ks (d.ds ++ ds)).2).2) = _
          rw [e1]
      · cases hs
    · cases hs
  | box tid ks =>
    replace hs : (match compOf C.ti st false v with
      | some xs => match boxOfR st tid xs with
        | some (ys, b) => match decRK st ks ys with
          | some d => some (d, [b])
          | none => none
        | none => none
      | none => none) = some (d, bs) := hs
    split at hs
    · rename_i xs hxs
      split at hs
      · rename_i ys b hb
        split at hs
        · rename_i d' h1
          cases hs
          obtain ⟨u, hu, hc⟩ := compOf_ok T h hxs
          have hc : LeavesOk X ρ w xs [u] := hc
          unfold boxOfR at hb
          split at hb
          · rename_i n
            split at hb
            · rename_i t zs he
              cases ht : Nat.beq t tid with
              | false => rw [ht] at hb; cases hb
              | true =>
                rw [ht] at hb
                cases hb
                obtain rfl := Nat.eq_of_beq_eq_true ht
                have h0 := h.ents b
                rw [he] at h0
                obtain ⟨gb, cs, fr, hρ, hh, hun, hys⟩ := h0
                have hu2 := hc.1.2
                rw [hρ] at hu2
                obtain rfl : u = .pointer (some ⟨gb, 0, none⟩) := hu2
                obtain ⟨O1, t1, e1⟩ := decRK_ok h ds hys h1
                refine ⟨_, O1 ++ [.blk gb], d.owns ++ [b], .box t (encRK ks (d.ds ++ ds)).1, hu, ⟨List.Perm.refl _, ?_, fun F hF => ⟨gb, cs, fr, O1, rfl, rfl, hh, hun, t1.1 F hF⟩, t1.2.2.2, fun n hn => ?_⟩, fun rs => ?_⟩
                · rw [List.filterMap_append, List.filterMap_append]
                  refine t1.2.1.append ?_
                  have e2 : List.filterMap (fun n => cbO (ρ n)) [b] = [gb] := by simp [hρ, cbO, cb]
                  rw [e2]
                  exact List.Sublist.refl _
                · rw [List.mem_singleton.1 hn]; exact ⟨gb, hρ⟩
                · show (RC.box t (encRK ks (d.ds ++ ds)).1 :: (encRes rs (encRK ks (d.ds ++ ds)).2).1, (encRes rs (encRK ks (d.ds ++ ds)).2).2) = _
                  rw [e1]
            · cases hb
          · cases hb
        · cases hs
      · cases hs
    · cases hs
theorem decRes_ok (T : TiOk P C.ti) (h : Rel X ρ st a w) : ∀ {rs : List SK} {vs : List ResultVar} {d : DR} {bs : List Nat} (ds : List DV), decRes C.ti st rs vs = some (d, bs) →
    ∃ us O S, ResRuns P w a.tmps vs us ∧ ToldC X ρ w d bs (encRes rs (d.ds ++ ds)).1 us O S ∧ (encRes rs (d.ds ++ ds)).2 = ds
  | [], [], d, bs, ds, hs => by
    cases hs
    exact ⟨[], [], [], trivial, ⟨List.Perm.refl _, List.Sublist.refl _, fun F _ => rfl, (fun n hn => nomatch hn), fun n hn => nomatch hn⟩, rfl⟩
  | k :: rs, v :: vs, d, bs, ds, hs => by
    unfold decRes at hs
    split at hs
    · rename_i d1 d2 h1 h2
      cases hs
      obtain ⟨us, O2, S2, hus, t2, e2⟩ := decRes_ok T h (d := d2.1) (bs := d2.2) ds h2
      obtain ⟨u, O1, S1, p, hu, t1, e1⟩ := decSK_ok T h (d := d1.1) (bs := d1.2) (d2.1.ds ++ ds) h1
      have e3 : encRes (k :: rs) ((d1.1.app d2.1).ds ++ ds) = (p :: (encRes rs (d2.1.ds ++ ds)).1, (encRes rs (d2.1.ds ++ ds)).2) := by
        rw [← e1 rs, ← List.append_assoc]
        rfl
      rw [e3]
      refine ⟨u :: us, O1 ++ O2, S1 ++ S2, ⟨hu, hus⟩, ⟨?_, ?_, ?_, rows_app t1.rows t2.rows, ?_⟩, e2⟩
      · have := t1.perm.append t2.perm
        refine this.trans ?_
        show List.Perm (d1.1.owns ++ d1.2 ++ (d2.1.owns ++ d2.2)) (d1.1.owns ++ d2.1.owns ++ (d1.2 ++ d2.2))
        rw [List.append_assoc, List.append_assoc]
        refine List.Perm.append_left _ ?_
        rw [← List.append_assoc, ← List.append_assoc]
        exact List.Perm.append_right _ List.perm_append_comm
      · rw [List.filterMap_append, List.filterMap_append]
        exact t1.sub.append t2.sub
      · exact fun F hF => ⟨O1, O2, rfl, t1.told F fun b hb => hF b (hb.mono fun n hn => List.mem_append_left _ hn), t2.told F fun b hb => hF b (hb.mono fun n hn => List.mem_append_right _ hn)⟩
      · intro n hn
        rcases List.mem_append.1 hn with hn | hn
        · exact t1.boxes n hn
        · exact t2.boxes n hn
    · cases hs
  | [], _ :: _, _, _, _, hs => by cases hs
  | _ :: _, [], _, _, _, hs => by cases hs
end
end Go.Proofs.YtaajcllchbnjiaaDoorE

namespace Go.Proofs.YtaajcllchbnjiaaDoorE
open Go Go.RowKit
set_option linter.unusedVariables false
section
variable {P : Program} {X : Nat → Prop} {ρ ρ' : Rho} {st st' : St} {a : Act} {w w' : World} {R : Type} {r : R} {C : Ctx} {F B : Nat → Prop}
/-- A leaf, and the same as data writes it. -/
inductive Canon : Leaf → Leaf → Prop where
  | int (k : IntKind) (n : Int) : Canon (.int k n) (.int k n)
  | bool (b : Bool) : Canon (.bool b) (.bool b)
  | kb (b : Bool) : Canon (.kb b) (.bool b)
  | str (s : Str) : Canon (.str s) (.str s)
  | list (t : Ty) (l : List t.T) : Canon (.list t l) (.list t l)
  | nil (t : Ty) : Canon .nil (.list t [])
inductive Canons : List Leaf → List Leaf → Prop where
  | nil : Canons [] []
  | cons {x y : Leaf} {xs ys : List Leaf} (h : Canon x y) (k : Canons xs ys) : Canons (x :: xs) (y :: ys)
theorem Canons.append {xs ys zs us : List Leaf} (h : Canons xs ys) (k : Canons zs us) : Canons (xs ++ zs) (ys ++ us) := by
  induction h with
  | nil => exact k
  | cons h1 _ ih => exact .cons h1 ih
theorem unl_canon : ∀ {t : Ty} {xs ys : List Leaf} {x : t.T}, unl t xs = some (x, ys) → ∃ zs, xs = zs ++ ys ∧ Canons zs (leaves t x)
  | .int k, xs, ys, x, h => by
    replace h : unlInt k xs = some (x, ys) := h
    unfold unlInt at h
    split at h
    · split at h
      · rename_i hk
        subst hk
        cases h
        exact ⟨[_], rfl, .cons (.int _ _) .nil⟩
      · cases h
    · cases h
  | .bool, xs, ys, x, h => by
    replace h : unlBool xs = some (x, ys) := h
    unfold unlBool at h
    split at h
    · cases h; exact ⟨[_], rfl, .cons (.bool _) .nil⟩
    · cases h; exact ⟨[_], rfl, .cons (.kb _) .nil⟩
    · cases h
  | .str, xs, ys, x, h => by
    replace h : unlStr xs = some (x, ys) := h
    unfold unlStr at h
    split at h
    · cases h; exact ⟨[_], rfl, .cons (.str _) .nil⟩
    · cases h
  | .sl r, xs, ys, x, h => by
    replace h : unlSl r xs = some (x, ys) := h
    unfold unlSl at h
    split at h
    · split at h
      · rename_i r' l xs hs _
        cases h
        have e := hs.down
        subst e
        exact ⟨[_], rfl, .cons (.list _ _) .nil⟩
      · cases h
    · cases h; exact ⟨[_], rfl, .cons (.nil _) .nil⟩
    · cases h
  | .pair p q, xs, ys, x, h => by
    unfold unl at h
    split at h
    · rename_i x1 ys1 h1
      split at h
      · rename_i y1 zs1 h2
        cases h
        obtain ⟨z1, rfl, c1⟩ := unl_canon h1
        obtain ⟨z2, rfl, c2⟩ := unl_canon h2
        exact ⟨z1 ++ z2, (List.append_assoc _ _ _).symm, c1.append c2⟩
      · cases h
    · cases h
  | .unit, xs, ys, x, h => by
    cases h
    exact ⟨[], rfl, .nil⟩
theorem unlA_canon {t : Ty} {xs : List Leaf} {x : t.T} (h : unlA t xs = some x) : Canons xs (leaves t x) := by
  unfold unlA at h
  split at h
  · rename_i y hy
    cases h
    obtain ⟨zs, e, c⟩ := unl_canon hy
    rw [List.append_nil] at e
    rw [e]
    exact c
  · cases h
/-- The leaves of a parameter: as they are told, and what the slots stand for. -/
def PLs (w : World) (F B : Nat → Prop) : List PL → List Leaf → List Value → List Conc → Prop
  | [], [], [], cs => cs = []
  | .v :: ms, x :: xs, v :: vs, cs => DLeaf w F (fun _ => False) x v ∧ PLs w F B ms xs vs cs
  | .ro :: ms, x :: xs, v :: vs, cs => DLeaf w B (fun _ => False) x v ∧ PLs w F B ms xs vs cs
  | .own e :: ms, .list t l :: xs, v :: vs, c :: cs => c = .row v ∧ RowOk w F false e t v l ∧ PLs w F B ms xs vs cs
  | _, _, _, _ => False
theorem canon_leaf {x y : Leaf} {v : Value} {B' : Nat → Prop} (c : Canon x y) (h : DLeaf w F B x v) : DLeaf w F B' y v := by
  cases c with
  | nil t => exact ⟨none, 0, by rw [show v = _ from h]; rfl, Nat.le_refl _, .inl rfl⟩
  | _ => exact h
/-- Lent rows, and what the slots stand for. -/
def LRows : List GI → List Conc → Prop
  | [], [] => True
  | .row v :: L, .row u :: cs => u = v ∧ LRows L cs
  | .no :: L, .row u :: cs => ownB u = none ∧ LRows L cs
  | _, _ => False
theorem vls_pls (hFB : ∀ b, F b → B b) : ∀ {ms : List PL} {cls : List CL} {xs ys : List Leaf} {vs : List Value} {L : List GI}, decCLs ms cls = some xs → Canons xs ys → VLs w F B cls vs L →
    ∃ cs, PLs w F B ms ys vs cs ∧ cs.filterMap cb = GI.blocks L ∧ LRows L cs
  | [], [], xs, ys, vs, L, h, c, k => by
    cases h
    cases c
    cases vs with
    | nil => obtain rfl : L = [] := k; exact ⟨[], rfl, rfl, trivial⟩
    | cons _ _ => exact k.elim
  | m :: ms, cl :: cls, xs, ys, vs, L, h, c, k => by
    unfold decCLs at h
    split at h
    · rename_i x xs' hx hxs
      cases h
      cases c with
      | cons c1 c2 =>
        rename_i y ys
        match cl, vs, L, k with
        | .leaf z, v :: vs, L, k =>
          obtain ⟨cs, i1, i2, i3⟩ := vls_pls hFB hxs c2 k.2
          cases m with
          | v =>
            refine ⟨cs, ⟨?_, i1⟩, i2, i3⟩
            cases z with
            | bor t l => cases hx
            | _ => cases hx; exact canon_leaf c1 k.1
          | ro =>
            refine ⟨cs, ⟨?_, i1⟩, i2, i3⟩
            cases z with
            | bor t l => cases hx; exact canon_leaf c1 (show DLeaf w B B (.list t l) v from k.1)
            | _ => cases hx; exact canon_leaf c1 (k.1.mono hFB fun b hb => hb)
          | own e => cases hx
        | .row e' t l, v :: vs, .row u :: L, ⟨h1, h2, h3⟩ =>
          obtain ⟨cs, i1, i2, i3⟩ := vls_pls hFB hxs c2 h3
          cases m with
          | v => cases hx
          | ro => cases hx
          | own e =>
            cases he : Nat.beq e e' with
            | false =>
              replace hx : (bif Nat.beq e e' then some (Leaf.list t l) else none) = some x := hx
              rw [he] at hx; cases hx
            | true =>
              replace hx : (bif Nat.beq e e' then some (Leaf.list t l) else none) = some x := hx
              rw [he] at hx
              cases hx
              obtain rfl := Nat.eq_of_beq_eq_true he
              cases c1
              subst h1
              refine ⟨.row u :: cs, ⟨rfl, h2, i1⟩, ?_, rfl, i3⟩
              show List.filterMap cb (Conc.row u :: cs) = (ownB u).toList ++ GI.blocks L
              cases hu : (ownB u) with
              | none => rw [List.filterMap_cons_none (show cb (.row u) = none from hu), i2]; rfl
              | some b => rw [List.filterMap_cons_some (show cb (.row u) = some b from hu), i2]; rfl
        | .nil, v :: vs, .no :: L, ⟨h1, h3⟩ =>
          obtain ⟨cs, i1, i2, i3⟩ := vls_pls hFB hxs c2 h3
          cases m with
          | v => cases hx
          | ro => cases hx
          | own e =>
            cases hm : isMap e with
            | true =>
              replace hx : (bif isMap e then none else some Leaf.nil) = some x := hx
              rw [hm] at hx; cases hx
            | false =>
            replace hx : (bif isMap e then none else some Leaf.nil) = some x := hx
            rw [hm] at hx
            cases hx
            cases c1
            refine ⟨.row v :: cs, ⟨rfl, RowS.ok (.inl ⟨h1, rfl⟩) hm, i1⟩, ?_, (by rw [h1]; rfl), i3⟩
            rw [List.filterMap_cons_none (show cb (.row v) = none by rw [h1]; rfl), i2]
            rfl
    · cases h
  | [], _ :: _, _, _, _, _, h, _, _ => by cases h
  | _ :: _, [], _, _, _, _, h, _, _ => by cases h
theorem mls_pls (hFB : ∀ b, F b → B b) : ∀ {ms : List PL} {cls : List CL} {xs ys : List Leaf} {vs : List Value} {N : List Value}, decCLs ms cls = some xs → Canons xs ys → MLs w F B cls vs N →
    ∃ cs, PLs w F B ms ys vs cs ∧ cs.filterMap cb = mBlocks N
  | [], [], xs, ys, vs, N, h, c, k => by
    cases h
    cases c
    cases vs with
    | nil => obtain rfl : N = [] := k; exact ⟨[], rfl, rfl⟩
    | cons _ _ => exact k.elim
  | m :: ms, cl :: cls, xs, ys, vs, N, h, c, k => by
    unfold decCLs at h
    split at h
    · rename_i x xs' hx hxs
      cases h
      cases c with
      | cons c1 c2 =>
        rename_i y ys
        match cl, vs, N, k with
        | .leaf z, v :: vs, N, k =>
          obtain ⟨cs, i1, i2⟩ := mls_pls hFB hxs c2 k.2
          cases m with
          | v =>
            refine ⟨cs, ⟨?_, i1⟩, i2⟩
            cases z with
            | bor t l => cases hx
            | _ => cases hx; exact canon_leaf c1 k.1
          | ro =>
            refine ⟨cs, ⟨?_, i1⟩, i2⟩
            cases z with
            | bor t l => cases hx; exact canon_leaf c1 (show DLeaf w B B (.list t l) v from k.1)
            | _ => cases hx; exact canon_leaf c1 (k.1.mono hFB fun b hb => hb)
          | own e => cases hx
        | .row e' t l, v :: vs, u :: N, ⟨h1, h2, h3⟩ =>
          obtain ⟨cs, i1, i2⟩ := mls_pls hFB hxs c2 h3
          cases m with
          | v => cases hx
          | ro => cases hx
          | own e =>
            cases he : Nat.beq e e' with
            | false =>
              replace hx : (bif Nat.beq e e' then some (Leaf.list t l) else none) = some x := hx
              rw [he] at hx; cases hx
            | true =>
              replace hx : (bif Nat.beq e e' then some (Leaf.list t l) else none) = some x := hx
              rw [he] at hx
              cases hx
              obtain rfl := Nat.eq_of_beq_eq_true he
              cases c1
              subst h1
              refine ⟨.row u :: cs, ⟨rfl, h2, i1⟩, ?_⟩
              unfold mBlocks
              cases hu : (ownB u) with
              | none => rw [List.filterMap_cons_none (show cb (.row u) = none from hu), List.filterMap_cons_none hu, i2]; rfl
              | some b => rw [List.filterMap_cons_some (show cb (.row u) = some b from hu), List.filterMap_cons_some hu, i2]; rfl
        | .nil, v :: vs, N, ⟨h1, h3⟩ =>
          obtain ⟨cs, i1, i2⟩ := mls_pls hFB hxs c2 h3
          cases m with
          | v => cases hx
          | ro => cases hx
          | own e =>
            cases hm : isMap e with
            | true =>
              replace hx : (bif isMap e then none else some Leaf.nil) = some x := hx
              rw [hm] at hx; cases hx
            | false =>
            replace hx : (bif isMap e then none else some Leaf.nil) = some x := hx
            rw [hm] at hx
            cases hx
            cases c1
            refine ⟨.row v :: cs, ⟨rfl, RowS.ok (.inl ⟨h1, rfl⟩) hm, i1⟩, ?_⟩
            rw [List.filterMap_cons_none (show cb (.row v) = none by rw [h1]; rfl), i2]
    · cases h
  | [], _ :: _, _, _, _, _, h, _, _ => by cases h
  | _ :: _, [], _, _, _, _, h, _, _ => by cases h
/-- Each slot's content is what the slot stands for. -/
def EntsOk (X : Nat → Prop) (ρ : Rho) (w : World) : List Ent → List Conc → Prop
  | [], [] => True
  | e :: es, c :: cs => EntOk X ρ w e (some c) ∧ EntsOk X ρ w es cs
  | _, _ => False
theorem EntsOk.append : ∀ {es fs : List Ent} {cs ds : List Conc}, EntsOk X ρ w es cs → EntsOk X ρ w fs ds → EntsOk X ρ w (es ++ fs) (cs ++ ds)
  | [], _, [], _, _, k => k
  | _ :: _, _, _ :: _, _, h, k => ⟨h.1, EntsOk.append h.2 k⟩
  | [], _, _ :: _, _, h, _ => h.elim
  | _ :: _, _, [], _, h, _ => h.elim
theorem EntsOk.len : ∀ {es : List Ent} {cs : List Conc}, EntsOk X ρ w es cs → es.length = cs.length
  | [], [], _ => rfl
  | _ :: _, _ :: _, h => congrArg (· + 1) (EntsOk.len h.2)
  | [], _ :: _, h => h.elim
  | _ :: _, [], h => h.elim
theorem leaf_of_f (hF : ∀ b, F b → Fix X ρ w b) {x : Leaf} {v : Value} (h : DLeaf w F (fun _ => False) x v) : LeafOk X ρ w x v := leaf_of_d (h.mono hF fun b hb => hb)
theorem leaf_of_b (hB : ∀ b, B b → Brw ρ w b) {x : Leaf} {v : Value} (h : DLeaf w B (fun _ => False) x v) : LeafOk X ρ w (borL x) v := by
  cases x <;> first | exact h | exact h.elim | exact Rep.move (fun b hb => ⟨rfl, hB b hb⟩) h | exact Rep.move (fun b hb => hb.elim) h
theorem leavesIn_ok (hF : ∀ b, F b → Fix X ρ w b) (hB : ∀ b, B b → Brw ρ w b) : ∀ {ms : List PL} {xs : List Leaf} {vs : List Value} {cs : List Conc} {nb : Nat}, PLs w F B ms xs vs cs → RowsAt ρ nb cs →
    LeavesOk X ρ w (leavesIn ms xs nb).1 vs ∧ EntsOk X ρ w (leavesIn ms xs nb).2 cs
  | [], [], [], cs, nb, h, _ => by
    obtain rfl : cs = [] := h
    exact ⟨trivial, trivial⟩
  | .v :: ms, x :: xs, v :: vs, cs, nb, h, k => by
    obtain ⟨h1, h2⟩ := h
    obtain ⟨i1, i2⟩ := leavesIn_ok hF hB (nb := nb) h2 k
    have e : leavesIn (.v :: ms) (x :: xs) nb = (x :: (leavesIn ms xs nb).1, (leavesIn ms xs nb).2) := rfl
    rw [e]
    exact ⟨⟨leaf_of_f hF h1, i1⟩, i2⟩
  | .ro :: ms, x :: xs, v :: vs, cs, nb, h, k => by
    obtain ⟨h1, h2⟩ := h
    obtain ⟨i1, i2⟩ := leavesIn_ok hF hB (nb := nb) h2 k
    have e : leavesIn (.ro :: ms) (x :: xs) nb = (borL x :: (leavesIn ms xs nb).1, (leavesIn ms xs nb).2) := rfl
    rw [e]
    exact ⟨⟨leaf_of_b hB h1, i1⟩, i2⟩
  | .own e :: ms, .list t l :: xs, v :: vs, c :: cs, nb, h, k => by
    obtain ⟨rfl, h1, h2⟩ := h
    obtain ⟨i1, i2⟩ := leavesIn_ok hF hB (nb := nb + 1) h2 (fun j u hj => by
      have := k (j + 1) u hj
      rwa [show nb + (j + 1) = nb + 1 + j by omega] at this)
    have e' : leavesIn (.own e :: ms) (.list t l :: xs) nb = (.own nb :: (leavesIn ms xs (nb + 1)).1, .arr false e t l :: (leavesIn ms xs (nb + 1)).2) := rfl
    rw [e']
    refine ⟨⟨⟨row_form h1, by rw [show ρ nb = some (.row v) from k 0 _ rfl]⟩, i1⟩, ⟨v, rfl, h1.mono hF⟩, i2⟩
def lty : Leaf → Ty
  | .int k _ => .int k
  | .bool _ => .bool
  | .kb _ => .bool
  | .str _ => .str
  | .list r _ => .sl r
  | _ => .unit
theorem leafTys_map : ∀ (t : Ty) (x : t.T), leafTys t = (leaves t x).map lty
  | .int _, _ => rfl
  | .bool, _ => rfl
  | .str, _ => rfl
  | .sl _, _ => rfl
  | .pair a b, x => by
    show leafTys a ++ leafTys b = (leaves a x.1 ++ leaves b x.2).map lty
    rw [List.map_append, ← leafTys_map a x.1, ← leafTys_map b x.2]
  | .unit, _ => rfl
/-- How many slots a parameter's rows take. -/
theorem pls_rows : ∀ {ms : List PL} {xs : List Leaf} {vs : List Value} {cs : List Conc}, PLs w F B ms xs vs cs → cs.length = (rowKs (xs.map lty) ms).length ∧ ∀ c ∈ cs, ∃ v, c = .row v
  | [], [], [], cs, h => by
    obtain rfl : cs = [] := h
    exact ⟨rfl, fun c hc => nomatch hc⟩
  | .v :: ms, x :: xs, v :: vs, cs, h => by
    obtain ⟨i1, i2⟩ := pls_rows h.2
    refine ⟨?_, i2⟩
    rw [i1]
    cases x <;> rfl
  | .ro :: ms, x :: xs, v :: vs, cs, h => by
    obtain ⟨i1, i2⟩ := pls_rows h.2
    refine ⟨?_, i2⟩
    rw [i1]
    cases x <;> rfl
  | .own e :: ms, .list t l :: xs, v :: vs, c :: cs, h => by
    obtain ⟨h1, _, h2⟩ := h
    obtain ⟨i1, i2⟩ := pls_rows h2
    refine ⟨congrArg (· + 1) i1, fun c' hc => ?_⟩
    rcases List.mem_cons.1 hc with rfl | hc
    · exact ⟨v, h1⟩
    · exact i2 c' hc
end
end Go.Proofs.YtaajcllchbnjiaaDoorE

namespace Go.Proofs.YtaajcllchbnjiaaDoorE
open Go Go.RowKit
set_option linter.unusedVariables false
section
variable {P : Program} {X : Nat → Prop} {ρ ρ' : Rho} {st st' : St} {a : Act} {w w' : World} {R : Type} {r : R} {C : Ctx} {F B : Nat → Prop}
theorem blocks_app : ∀ (L1 L2 : List GI), GI.blocks (L1 ++ L2) = GI.blocks L1 ++ GI.blocks L2
  | [], _ => rfl
  | .blk g :: L, L2 => congrArg (g :: ·) (blocks_app L L2)
  | .row v :: L, L2 => by
    show (ownB v).toList ++ GI.blocks (L ++ L2) = ((ownB v).toList ++ GI.blocks L) ++ GI.blocks L2
    rw [blocks_app L L2, List.append_assoc]
  | .no :: L, L2 => blocks_app L L2
theorem mBlocks_app (M N : List Value) : mBlocks (M ++ N) = mBlocks M ++ mBlocks N := List.filterMap_append
theorem perm4 {α : Type} {a b c d e f : List α} (h : List.Perm a (c ++ d)) (k : List.Perm b (e ++ f)) : List.Perm (a ++ b) (c ++ e ++ (d ++ f)) := by
  refine (h.append k).trans ?_
  rw [List.append_assoc, List.append_assoc]
  refine List.Perm.append_left _ ?_
  rw [← List.append_assoc, ← List.append_assoc]
  exact List.Perm.append_right _ List.perm_append_comm
theorem DLeaves.split2 {F B : Nat → Prop} : ∀ {xs ys : List Leaf} {vs : List Value}, DLeaves w F B (xs ++ ys) vs → ∃ v1 v2, vs = v1 ++ v2 ∧ DLeaves w F B xs v1 ∧ DLeaves w F B ys v2
  | [], _, vs, h => ⟨[], vs, rfl, trivial, h⟩
  | _ :: _, _, v :: vs, h => by
    obtain ⟨v1, v2, rfl, h1, h2⟩ := DLeaves.split2 h.2
    exact ⟨v :: v1, v2, rfl, ⟨h.1, h1⟩, h2⟩
  | _ :: _, _, [], h => h.elim
/-- What the slots of parameters stand for, beside what is lent. -/
def CSlots : List (TypeId × Ty × List PL) → List GI → List Conc → Prop
  | [], L, cs => L = [] ∧ cs = []
  | k :: ks, L, cs => if k.1 = roT then CSlots ks L cs else ∃ g rest L' cs', L = .blk g :: L' ∧ cs = .blk g :: rest ++ cs' ∧ rest.length = rowsN (leafTys k.2.1) k.2.2 ∧ CSlots ks L' cs'
def PSlot : PK → List GI → List Conc → Prop
  | .val _ t ms, L, cs => LRows L cs ∧ cs.length = rowsN (leafTys t) ms
  | .rptr _, L, cs => L = [] ∧ cs = []
  | .ref _ t ms, L, cs => ∃ g rest, L = [.blk g] ∧ cs = .blk g :: rest ∧ rest.length = rowsN (leafTys t) ms
  | .fn _ ks, L, cs => CSlots ks L cs
  | .mv _ _, L, cs => L = [] ∧ ∃ v, cs = [.row v]
def PSlots : List PK → List GI → List Conc → Prop
  | [], L, cs => L = [] ∧ cs = []
  | p :: ps, L, cs => ∃ L1 L2 c1 c2, L = L1 ++ L2 ∧ cs = c1 ++ c2 ∧ PSlot p L1 c1 ∧ PSlots ps L2 c2
theorem pls_rowsN {t : Ty} {x : t.T} {ms : List PL} {vs : List Value} {cs : List Conc} (h : PLs w F B ms (leaves t x) vs cs) : cs.length = rowsN (leafTys t) ms := by
  unfold rowsN
  rw [leafTys_map t x]
  exact (pls_rows h).1
theorem box_cs (hFB : ∀ b, F b → B b) {tid : TypeId} {t : Ty} {ms : List PL} {xs : List CL} {v : Value} {L : List GI} {N : List Value} {d : DV} (h : BoxOk w F B tid xs v L N) (hd : dv t (decCLs ms xs) = some d) :
    ∃ (x : t.T) (g : Nat) (cs : List Conc), L = [.blk g] ∧ cs.length = rowsN (leafTys t) ms ∧ d = .mk t x ∧ v = .pointer (some ⟨g, 0, none⟩) ∧ ((Conc.blk g :: cs).filterMap cb).Perm (GI.blocks L ++ mBlocks N) ∧
      ∀ (X : Nat → Prop) (ρ : Rho) (nb : Nat), (∀ b, F b → Fix X ρ w b) → (∀ b, B b → Brw ρ w b) → RowsAt ρ nb (.blk g :: cs) → EntsOk X ρ w (boxIn tid ms (leaves t x) nb) (.blk g :: cs) := by
  obtain ⟨g, cells, fr, rfl, rfl, hh, hu, hm⟩ := h
  unfold dv at hd
  split at hd
  · rename_i ys hys
    split at hd
    · rename_i x hx
      cases hd
      obtain ⟨cs, c1, c2⟩ := mls_pls hFB hys (unlA_canon hx) hm
      refine ⟨x, g, cs, rfl, pls_rowsN c1, rfl, rfl, ?_, fun X ρ nb hF hB hr => ?_⟩
      · rw [List.filterMap_cons_some (show cb (.blk g) = some g from rfl), c2]
        exact List.Perm.refl _
      · obtain ⟨i1, i2⟩ := leavesIn_ok (X := X) hF hB (nb := nb + 1) c1 (fun j u hj => by
          have := hr (j + 1) u hj
          rwa [show nb + (j + 1) = nb + 1 + j by omega] at this)
        exact ⟨⟨g, cells, fr, rfl, hh, hu, i1⟩, i2⟩
    · cases hd
  · cases hd
theorem dleaves_rep {F : Nat → Prop} : ∀ {t : Ty} {x : t.T} {cs : List Value}, DLeaves w F (fun _ => False) (leaves t x) cs → Rep w F t x cs
  | .int k, x, [v], h => by rw [show v = _ from h.1]; rfl
  | .bool, x, [v], h => by rw [show v = _ from h.1]; rfl
  | .str, x, [v], h => by rw [show v = _ from h.1]; rfl
  | .sl r, x, [v], h => h.1
  | .unit, x, [], h => rfl
  | .pair p q, x, cs, h => by
    obtain ⟨c1, c2, rfl, h1, h2⟩ := DLeaves.split2 (xs := leaves p x.1) (ys := leaves q x.2) h
    exact ⟨c1, c2, rfl, dleaves_rep h1, dleaves_rep h2⟩
  | .int _, _, [], h => h.elim
  | .bool, _, [], h => h.elim
  | .str, _, [], h => h.elim
  | .sl _, _, [], h => h.elim
  | .int _, _, _ :: _ :: _, h => h.2.elim
  | .bool, _, _ :: _ :: _, h => h.2.elim
  | .str, _, _ :: _ :: _, h => h.2.elim
  | .sl _, _, _ :: _ :: _, h => h.2.elim
  | .unit, _, _ :: _, h => h.elim
theorem pls_dleaves (hFB : ∀ b, F b → B b) : ∀ {ms : List PL} {xs : List Leaf} {vs : List Value}, PLs w F B ms xs vs [] → DLeaves w B (fun _ => False) xs vs
  | [], [], [], _ => trivial
  | .v :: ms, x :: xs, v :: vs, h => ⟨h.1.mono hFB fun b hb => hb, pls_dleaves hFB (ms := ms) h.2⟩
  | .ro :: ms, x :: xs, v :: vs, h => ⟨h.1, pls_dleaves hFB (ms := ms) h.2⟩
  | .own _ :: _, x :: _, _ :: _, h => by cases x <;> exact h.elim
  | .own _ :: _, x :: _, [], h => by cases x <;> exact h.elim
theorem ro_cs (hFB : ∀ b, F b → B b) {t : Ty} {ms : List PL} {xs : List CL} {v : Value} {L : List GI} {N : List Value} {d : DV} (h : RpOk w F B xs v L N) (hd : dv t (decCLs ms xs) = some d) :
    ∃ x : t.T, L = [] ∧ N = [] ∧ d = .mk t x ∧ ∀ (X : Nat → Prop) (ρ : Rho), (∀ b, B b → Brw ρ w b) → LeafOk X ρ w (.rp t x) v := by
  obtain ⟨rfl, rfl, g, o, cells, rfl, hg, hc, hx⟩ := h
  unfold dv at hd
  split at hd
  · rename_i ys hys
    split at hd
    · rename_i x hx2
      cases hd
      obtain ⟨cs, c1, c2, c3⟩ := vls_pls hFB hys (unlA_canon hx2) hx
      match cs, c3 with
      | [], _ =>
        refine ⟨x, rfl, rfl, rfl, fun X ρ hB => ⟨g, o, cells, rfl, hB g hg, hc, Rep.move (fun b hb => ⟨rfl, hB b hb⟩) (dleaves_rep (pls_dleaves hFB c1))⟩⟩
    · cases hd
  · cases hd
theorem capsIn_ro {tid : TypeId} {t : Ty} {ms : List PL} {ks : List (TypeId × Ty × List PL)} {x : t.T} {ds : List DV} {nb : Nat} (h : tid = roT) : capsIn ((tid, t, ms) :: ks) (.mk t x :: ds) nb = (.rp t x :: (capsIn ks ds nb).1, (capsIn ks ds nb).2) := by
  subst h; rfl
theorem capsIn_box {tid : TypeId} {t : Ty} {ms : List PL} {ks : List (TypeId × Ty × List PL)} {x : t.T} {ds : List DV} {nb : Nat} (h : tid ≠ roT) :
    capsIn ((tid, t, ms) :: ks) (.mk t x :: ds) nb = (.ptr nb 0 :: (capsIn ks ds (nb + (boxIn tid ms (leaves t x) nb).length)).1, boxIn tid ms (leaves t x) nb ++ (capsIn ks ds (nb + (boxIn tid ms (leaves t x) nb).length)).2) := by
  have e : Nat.beq tid roT = false := by
    cases hb : Nat.beq tid roT with
    | false => rfl
    | true => exact absurd (Nat.eq_of_beq_eq_true hb) h
  have h1 : capsIn ((tid, t, ms) :: ks) (.mk t x :: ds) nb = bif Nat.beq tid roT then (.rp t x :: (capsIn ks ds nb).1, (capsIn ks ds nb).2) else
    (.ptr nb 0 :: (capsIn ks ds (nb + (boxIn tid ms (leaves t x) nb).length)).1, boxIn tid ms (leaves t x) nb ++ (capsIn ks ds (nb + (boxIn tid ms (leaves t x) nb).length)).2) := rfl
  rw [h1, e]
  rfl
theorem caps_cs (hFB : ∀ b, F b → B b) : ∀ {ks : List (TypeId × Ty × List PL)} {asx : List (TypeId × List CL)} {vs : List Value} {L : List GI} {N : List Value} {ds : List DV}, CapsOk w F B asx vs L N → decCaps ks asx = some ds →
    ∃ cs : List Conc, CSlots ks L cs ∧ (cs.filterMap cb).Perm (GI.blocks L ++ mBlocks N) ∧ ds.length = ks.length ∧ ∀ (X : Nat → Prop) (ρ : Rho) (nb : Nat) (es : List DV), (∀ b, F b → Fix X ρ w b) → (∀ b, B b → Brw ρ w b) → RowsAt ρ nb cs →
      LeavesOk X ρ w (capsIn ks (ds ++ es) nb).1 vs ∧ EntsOk X ρ w (capsIn ks (ds ++ es) nb).2 cs
  | [], [], [], L, N, ds, h, hd => by
    obtain ⟨rfl, rfl⟩ := h
    cases hd
    exact ⟨[], ⟨rfl, rfl⟩, List.Perm.refl _, rfl, fun X ρ nb es _ _ _ => ⟨trivial, trivial⟩⟩
  | (tid, t, ms) :: ks, (tid', xs) :: asx, v :: vs, L, N, ds, h, hd => by
    obtain ⟨L1, L2, N1, N2, rfl, rfl, h1, h2⟩ := h
    unfold decCaps at hd
    cases ht : Nat.beq tid tid' with
    | false => rw [ht] at hd; cases hd
    | true =>
      rw [ht] at hd
      obtain rfl := Nat.eq_of_beq_eq_true ht
      replace hd : (match dv t (decCLs ms xs), decCaps ks asx with
        | some x, some ds => some (x :: ds)
        | _, _ => none) = some ds := hd
      split at hd
      · rename_i d ds' hd1 hd2
        cases hd
        obtain ⟨cs2, z2, p2, l2, q2⟩ := caps_cs hFB h2 hd2
        unfold CapOk at h1
        split at h1
        · rename_i hro
          obtain ⟨x, rfl, rfl, rfl, q1⟩ := ro_cs hFB h1 hd1
          refine ⟨cs2, ?_, p2, congrArg (· + 1) l2, fun X ρ nb es hF hB hr => ?_⟩
          · show (if tid = roT then CSlots ks L2 cs2 else _)
            rw [if_pos hro]
            exact z2
          · rw [List.cons_append, capsIn_ro hro]
            obtain ⟨i1, i2⟩ := q2 X ρ nb es hF hB hr
            exact ⟨⟨q1 X ρ hB, i1⟩, i2⟩
        · rename_i hro
          obtain ⟨x, g, cs1, rfl, n1, rfl, rfl, p1, q1⟩ := box_cs hFB h1 hd1
          refine ⟨(.blk g :: cs1) ++ cs2, ?_, ?_, congrArg (· + 1) l2, fun X ρ nb es hF hB hr => ?_⟩
          · show (if tid = roT then CSlots ks ([.blk g] ++ L2) ((.blk g :: cs1) ++ cs2) else _)
            rw [if_neg hro]
            exact ⟨g, cs1, L2, cs2, rfl, rfl, n1, z2⟩
          · rw [List.filterMap_append, blocks_app, mBlocks_app]
            exact perm4 p1 p2
          · have b1 := q1 X ρ nb hF hB hr.left
            have hr2 := hr.right
            rw [← b1.len] at hr2
            obtain ⟨i1, i2⟩ := q2 X ρ _ es hF hB hr2
            rw [List.cons_append, capsIn_box hro]
            have h0 : ρ nb = some (.blk g) := hr 0 _ rfl
            exact ⟨⟨⟨⟨_, rfl⟩, by rw [h0]⟩, i1⟩, b1.append i2⟩
      · cases hd
  | [], _ :: _, _, _, _, _, _, hd => by cases hd
  | _ :: _, [], _, _, _, _, _, hd => by cases hd
  | [], [], _ :: _, _, _, _, h, _ => h.elim
  | _ :: _, _ :: _, [], _, _, _, h, _ => h.elim
theorem dleaves_canon {F B : Nat → Prop} : ∀ {xs ys : List Leaf} {vs us : List Value}, Canons xs ys → DLeaves w F B xs vs → DLeaves w F B ys vs
  | [], _, [], _, c, _ => by cases c; trivial
  | x :: xs, _, v :: vs, us, c, h => by
    cases c with
    | cons c1 c2 => exact ⟨canon_leaf c1 h.1, dleaves_canon (us := us) c2 h.2⟩
  | [], _, _ :: _, _, _, h => h.elim
  | _ :: _, _, [], _, _, h => h.elim
theorem dleaves_unB (hFB : ∀ b, F b → B b) : ∀ {xs : List Leaf} {vs : List Value}, DLeaves w F B xs vs → DLeaves w B (fun _ => False) (xs.map unB) vs
  | [], [], _ => trivial
  | x :: xs, v :: vs, h => by
    refine ⟨?_, dleaves_unB hFB h.2⟩
    have h1 := h.1
    cases x with
    | bor t l => exact h1
    | list t l => exact Rep.move (fun b hb => ⟨rfl, hFB b hb⟩) h1
    | _ => exact h1
  | [], _ :: _, h => h.elim
  | _ :: _, [], h => h.elim
theorem DLeaves.split {F B : Nat → Prop} : ∀ {xs ys : List Leaf} {vs : List Value}, DLeaves w F B (xs ++ ys) vs → ∃ v1 v2, vs = v1 ++ v2 ∧ DLeaves w F B xs v1
  | [], _, vs, _ => ⟨[], vs, rfl, trivial⟩
  | _ :: _, _, v :: vs, h => by
    obtain ⟨v1, v2, rfl, h1⟩ := DLeaves.split h.2
    exact ⟨v :: v1, v2, rfl, h.1, h1⟩
  | _ :: _, _, [], h => h.elim
theorem leaves_b (hB : ∀ b, B b → Brw ρ w b) : ∀ {xs : List Leaf} {vs : List Value}, DLeaves w B (fun _ => False) xs vs → LeavesOk X ρ w (xs.map borL) vs
  | [], [], _ => trivial
  | _ :: _, _ :: _, h => ⟨leaf_of_b hB h.1, leaves_b hB h.2⟩
  | [], _ :: _, h => h.elim
  | _ :: _, [], h => h.elim
theorem CellsAt.left {g o : Nat} {c1 c2 : List Value} (h : CellsAt w g o (c1 ++ c2)) : CellsAt w g o c1 := fun i v hv => h i v (by rw [List.getElem?_append_left (List.getElem?_eq_some_iff.1 hv).1]; exact hv)
theorem arg_cs (hFB : ∀ b, F b → B b) {p : PK} {c : CArg} {v : Value} {L : List GI} {N : List Value} {d : List DV} (h : CArgOk w F B c v L N) (hd : decArg p c = some d) :
    ∃ cs : List Conc, PSlot p L cs ∧ (cs.filterMap cb).Perm (GI.blocks L ++ mBlocks N) ∧ ∀ (ps : List PK) (ds : List DV) (X : Nat → Prop) (ρ : Rho) (nb : Nat), (∀ b, F b → Fix X ρ w b) → (∀ b, B b → Brw ρ w b) → RowsAt ρ nb cs →
      ∃ av es, entry (p :: ps) (d ++ ds) nb = (av :: (entry ps ds (nb + cs.length)).1, es ++ (entry ps ds (nb + cs.length)).2) ∧ AvOk X ρ w av v ∧ EntsOk X ρ w es cs := by
  unfold decArg at hd
  split at hd
  · rename_i ag t ms ag' xs
    cases hag : (ag == ag') with
    | false => rw [hag] at hd; cases hd
    | true =>
      rw [hag] at hd
      have hag : ag = ag' := by simpa using hag
      subst hag
      replace hd : (match dv t (decCLs ms xs) with
        | some x => some [x]
        | none => none) = some d := hd
      split at hd
      · rename_i d' hdv
        cases hd
        unfold dv at hdv
        split at hdv
        · rename_i ys hys
          split at hdv
          · rename_i x hx
            cases hdv
            obtain ⟨vs, hv, rfl, hvl⟩ : ∃ vs, (if ag then ∃ cs : Array Value, v = .agg cs ∧ vs = cs.toList else vs = [v]) ∧ N = [] ∧ VLs w F B xs vs L := by
              cases ag with
              | true =>
                obtain ⟨h1, cs, h2, h3⟩ := h
                exact ⟨_, by simp only [if_true]; exact ⟨cs, h2, rfl⟩, h1, h3⟩
              | false => exact ⟨_, rfl, h.1, h.2⟩
            obtain ⟨cs, c1, c2, c3⟩ := vls_pls hFB hys (unlA_canon hx) hvl
            refine ⟨cs, ⟨c3, pls_rowsN c1⟩, ?_, fun ps ds X ρ nb hF hB hr => ?_⟩
            · rw [c2]
              show List.Perm (GI.blocks L) (GI.blocks L ++ [])
              rw [List.append_nil]
            · obtain ⟨i1, i2⟩ := leavesIn_ok (X := X) hF hB (nb := nb) c1 hr
              refine ⟨mk1 ag (leavesIn ms (leaves t x) nb).1, (leavesIn ms (leaves t x) nb).2, ?_, mk1_ok ?_, i2⟩
              · show (mk1 ag (leavesIn ms (leaves t x) nb).1 :: (entry ps ds (nb + (leavesIn ms (leaves t x) nb).2.length)).1, (leavesIn ms (leaves t x) nb).2 ++ (entry ps ds (nb + (leavesIn ms (leaves t x) nb).2.length)).2) = _
                rw [i2.len]
              · unfold CompOk
                cases ag with
                | true =>
                  obtain ⟨ar, rfl, rfl⟩ := hv
                  exact ⟨ar, rfl, i1⟩
                | false =>
                  obtain rfl : vs = [v] := hv
                  exact i1
          · cases hdv
        · cases hdv
      · cases hd
  · rename_i t xs
    obtain ⟨rfl, rfl, g, o, cells, rfl, hg, hc, hx⟩ := h
    split at hd
    · rename_i d' hu
      cases hd
      unfold unlF at hu
      split at hu
      · rename_i x ys hx2
        cases hu
        obtain ⟨zs, e, c⟩ := unl_canon hx2
        have hx3 := dleaves_unB hFB hx
        rw [e] at hx3
        obtain ⟨v1, v2, rfl, hx4⟩ := hx3.split
        refine ⟨[], ⟨rfl, rfl⟩, List.Perm.refl _, fun ps ds X ρ nb hF hB hr => ⟨.eptr ((leaves t x).map borL), [], rfl, ⟨g, o, v1, rfl, hB g hg, hc.left, leaves_b hB (dleaves_canon (us := []) c hx4)⟩, trivial⟩⟩
      · cases hu
    · cases hd
  · rename_i tid t ms tid' xs
    cases ht : Nat.beq tid tid' with
    | false => rw [ht] at hd; cases hd
    | true =>
      rw [ht] at hd
      obtain rfl := Nat.eq_of_beq_eq_true ht
      replace hd : (match dv t (decCLs ms xs) with
        | some x => some [x]
        | none => none) = some d := hd
      split at hd
      · rename_i d' hdv
        cases hd
        obtain ⟨x, g, cs, rfl, n1, rfl, rfl, p1, q1⟩ := box_cs hFB h hdv
        refine ⟨.blk g :: cs, ⟨g, cs, rfl, rfl, n1⟩, p1, fun ps ds X ρ nb hF hB hr => ?_⟩
        have b1 := q1 X ρ nb hF hB hr
        refine ⟨.one (.ptr nb 0), boxIn tid ms (leaves t x) nb, ?_, ⟨⟨_, rfl⟩, by rw [show ρ nb = some (.blk g) from hr 0 _ rfl]⟩, b1⟩
        show (AV.one (.ptr nb 0) :: (entry ps ds (nb + (boxIn tid ms (leaves t x) nb).length)).1, boxIn tid ms (leaves t x) nb ++ (entry ps ds (nb + (boxIn tid ms (leaves t x) nb).length)).2) = _
        rw [b1.len]
      · cases hd
  · rename_i f ks f' asx
    cases ht : Nat.beq f f' with
    | false => rw [ht] at hd; cases hd
    | true =>
      rw [ht] at hd
      obtain rfl := Nat.eq_of_beq_eq_true ht
      replace hd : decCaps ks asx = some d := hd
      obtain ⟨ar, rfl, hc⟩ := h
      obtain ⟨cs, z1, p1, l1, q1⟩ := caps_cs hFB hc hd
      refine ⟨cs, z1, p1, fun ps ds X ρ nb hF hB hr => ?_⟩
      obtain ⟨i1, i2⟩ := q1 X ρ nb ds hF hB hr
      refine ⟨.fn f (capsIn ks (d ++ ds) nb).1, (capsIn ks (d ++ ds) nb).2, ?_, ⟨ar, rfl, i1⟩, i2⟩
      show (AV.fn f (capsIn ks (d ++ ds) nb).1 :: (entry ps ((d ++ ds).drop ks.length) (nb + (capsIn ks (d ++ ds) nb).2.length)).1, (capsIn ks (d ++ ds) nb).2 ++ (entry ps ((d ++ ds).drop ks.length) (nb + (capsIn ks (d ++ ds) nb).2.length)).2) = _
      rw [i2.len, ← l1, List.drop_left]
  · rename_i e rt e' rt' l
    cases ht : Nat.beq e e' with
    | false => rw [ht] at hd; cases hd
    | true =>
      rw [ht] at hd
      obtain rfl := Nat.eq_of_beq_eq_true ht
      replace hd : (match dv (.sl rt) (some [.list rt' l]) with
        | some x => some [x]
        | none => none) = some d := hd
      split at hd
      · rename_i d' hdv
        cases hd
        obtain ⟨rfl, rfl, hrow⟩ := h
        have hds : ∃ hh : rt' = rt, d' = .mk (.sl rt) (hh ▸ l : List rt.T) := by
          unfold dv at hdv
          split at hdv
          · rename_i zs hzs
            cases hzs
            split at hdv
            · rename_i x hx
              cases hdv
              unfold unlA at hx
              split at hx
              · rename_i y hy
                cases hx
                replace hy : (match Ty.same rt' rt with
                  | some h => some ((h.down ▸ l : List rt.T), ([] : List Leaf))
                  | none => none) = some (x, []) := hy
                split at hy
                · rename_i hs _
                  cases hy
                  exact ⟨hs.down, rfl⟩
                · cases hy
              · cases hx
            · cases hdv
          · cases hdv
        obtain ⟨rfl, rfl⟩ := hds
        refine ⟨[.row v], ⟨rfl, v, rfl⟩, ?_, fun ps ds X ρ nb hF hB hr => ?_⟩
        · show List.Perm ([Conc.row v].filterMap cb) (GI.blocks [] ++ mBlocks [v])
          exact List.Perm.refl _
        · have h0 : ρ nb = some (.row v) := hr 0 _ rfl
          have hrow' := hrow.mono (F' := Fix X ρ w) hF
          exact ⟨.one (.own nb), [.arr false e rt' l], rfl, ⟨hrow.form, by rw [h0]⟩, ⟨⟨v, rfl, hrow'⟩, trivial⟩⟩
      · cases hd
  · cases hd
theorem args_cs (hFB : ∀ b, F b → B b) : ∀ {ps : List PK} {asx : List CArg} {vs : List Value} {L : List GI} {N : List Value} {ds : List DV}, CArgsOk w F B asx vs L N → decArgs ps asx = some ds →
    ∃ cs : List Conc, PSlots ps L cs ∧ (cs.filterMap cb).Perm (GI.blocks L ++ mBlocks N) ∧ ∀ (X : Nat → Prop) (ρ : Rho) (nb : Nat), (∀ b, F b → Fix X ρ w b) → (∀ b, B b → Brw ρ w b) → RowsAt ρ nb cs →
      AvsOk X ρ w (entry ps ds nb).1 vs ∧ EntsOk X ρ w (entry ps ds nb).2 cs
  | [], [], [], L, N, ds, h, hd => by
    obtain ⟨rfl, rfl⟩ := h
    cases hd
    exact ⟨[], ⟨rfl, rfl⟩, List.Perm.refl _, fun X ρ nb _ _ _ => ⟨trivial, trivial⟩⟩
  | p :: ps, a :: asx, v :: vs, L, N, ds, h, hd => by
    obtain ⟨L1, L2, N1, N2, rfl, rfl, h1, h2⟩ := h
    unfold decArgs at hd
    split at hd
    · rename_i d ds' hd1 hd2
      cases hd
      obtain ⟨cs1, z1, p1, q1⟩ := arg_cs hFB h1 hd1
      obtain ⟨cs2, z2, p2, q2⟩ := args_cs hFB h2 hd2
      refine ⟨cs1 ++ cs2, ⟨L1, L2, cs1, cs2, rfl, rfl, z1, z2⟩, ?_, fun X ρ nb hF hB hr => ?_⟩
      · rw [List.filterMap_append, blocks_app, mBlocks_app]
        exact perm4 p1 p2
      · obtain ⟨av, es, e, i1, i2⟩ := q1 ps ds' X ρ nb hF hB hr.left
        obtain ⟨j1, j2⟩ := q2 X ρ _ hF hB hr.right
        rw [e]
        exact ⟨⟨i1, j1⟩, i2.append j2⟩
    · cases hd
  | [], _ :: _, _, _, _, _, _, hd => by cases hd
  | _ :: _, [], _, _, _, _, _, hd => by cases hd
  | [], [], _ :: _, _, _, _, h, _ => h.elim
  | _ :: _, _ :: _, [], _, _, _, h, _ => h.elim
end
end Go.Proofs.YtaajcllchbnjiaaDoorE
