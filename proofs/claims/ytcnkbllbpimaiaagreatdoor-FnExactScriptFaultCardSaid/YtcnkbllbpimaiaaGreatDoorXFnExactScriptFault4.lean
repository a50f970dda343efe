/- What the law FnExactScriptFault needs, part 5 of 11: the Lean functions of the Go functions that it reaches, with the proofs that the calls come to what they say, and plain facts about them. Conditions: those that each theorem states. Written by a session and by its programs (after the kit's printer). -/
import Derived.Test.YtcnkbllbpimaiaaGreatDoorXFnExactScriptFault3
namespace Go.Proofs.YtcnkbllbpimaiaaGreatDoorE
open Go Go.RowKit
set_option linter.unusedVariables false

theorem same_refl : ∀ t : Ty, ∃ h, Ty.same t t = some h
  | .int k => ⟨⟨rfl⟩, by simp [Ty.same]⟩
  | .bool => ⟨⟨rfl⟩, rfl⟩
  | .str => ⟨⟨rfl⟩, rfl⟩
  | .unit => ⟨⟨rfl⟩, rfl⟩
  | .sl r => by obtain ⟨h, e⟩ := same_refl r; exact ⟨⟨rfl⟩, by simp [Ty.same, e]⟩
  | .pair a b => by
    obtain ⟨h, e⟩ := same_refl a
    obtain ⟨h', e'⟩ := same_refl b
    exact ⟨⟨rfl⟩, by simp [Ty.same, e, e']⟩
theorem as_some {t : Ty} {d : DV} {x : t.T} (h : d.asx t = some x) : d = .mk t x := by
  cases d with
  | mk t' y =>
    replace h : (match Ty.same t' t with
      | some h => some (h.down ▸ y : t.T)
      | none => none) = some x := h
    split at h
    · rename_i e _
      have e' := e.down
      subst e'
      cases h
      rfl
    · cases h
theorem castL_some {r' r : Ty} {l : List r'.T} {m : List r.T} (h : castL l = some m) : ∃ e : r' = r, m = (e ▸ l : List r.T) := by
  unfold castL at h
  split at h
  · rename_i e _
    cases h
    exact ⟨e.down, rfl⟩
  · cases h
theorem of_toProd : ∀ {ts : List Ty} {ds : List DV} {x : Prod' ts}, toProd ts ds = some x → ofProd ts x = ds
  | [], [], _, _ => rfl
  | [t], [d], x, h => by rw [as_some (show d.asx t = some x from h)]; rfl
  | t :: t' :: ts, d :: ds, x, h => by
    unfold toProd at h
    split at h
    · rename_i a b ha hb
      cases h
      show DV.mk t a :: ofProd (t' :: ts) b = _
      rw [of_toProd hb, as_some ha]
    · cases h
  | [], _ :: _, _, h => by cases h
  | [t], [], _, h => by cases h
  | [t], _ :: _ :: _, _, h => by simp [toProd] at h
  | _ :: _ :: _, [], _, h => by cases h
section
variable {P : Program} {X : Nat → Prop} {ρ ρ' : Rho} {st st' : St} {a : Act} {w w' : World} {R : Type} {r : R} {C : Ctx}
/-- Where a list that is read may lie: blocks that are not written, or a row that is told of. -/
def FixOr (X : Nat → Prop) (ρ : Rho) (w : World) (ns : List Nat) (b : Nat) : Prop := Fix X ρ w b ∨ ∃ n ∈ ns, owns (ρ n) b
theorem pureOf_ok (h : Rel X ρ st a w) {t : Ty} {x : Leaf} {v : Value} {y : t.T} {ns : List Nat} (hx : LeafOk X ρ w x v) (hs : pureOf st t x = some (y, ns)) : Rep w (FixOr X ρ w ns) t y [v] := by
  have plain : ∀ {t : Ty} {x : Leaf} {y : t.T}, LeafOk X ρ w x v → unlA t [x] = some y → Rep w (FixOr X ρ w []) t y [v] := fun hx hu =>
    Rep.move (fun b hb => ⟨rfl, .inl hb⟩) (unlA_ok (cs := [v]) hu ⟨hx, trivial⟩)
  have scalar : ∀ {t : Ty} {y : t.T} {ns : List Nat}, (match unlA t [x] with | some y => some (y, []) | none => none) = some (y, ns) → Rep w (FixOr X ρ w ns) t y [v] := by
    intro t y ns hs
    split at hs
    · rename_i z hz
      cases hs
      exact plain hx hz
    · cases hs
  cases t with
  | int k => exact scalar hs
  | bool => exact scalar hs
  | str => exact scalar hs
  | pair p q => exact scalar hs
  | unit => exact scalar hs
  | sl r =>
    replace hs : pureSl st r x = some (y, ns) := hs
    unfold pureSl at hs
    split at hs
    · rename_i n
      have h0 := h.ents n
      have hx2 := hx.2
      unfold ownList at hs
      split at hs
      · rename_i z e rt l he
        rw [he] at h0
        obtain ⟨u, hu, h0⟩ := h0
        rw [hu] at hx2
        have hx2 : v = u := hx2
        subst hx2
        cases hm : isMap e with
        | true => rw [hm] at hs; cases hs
        | false =>
        rw [hm] at hs
        simp only [cond_false] at hs
        split at hs
        · rename_i l2 hl2
          cases hs
          obtain ⟨ee, rfl⟩ := castL_some hl2
          refine cast_list ee ?_
          rcases h0.slice hm with ⟨rfl, rfl⟩ | ⟨gb, cap, cs, fr, rfl, hh, hun, _, hlc, hsz, hrow⟩
          · exact ⟨none, 0, rfl, Nat.le_refl _, .inl rfl⟩
          · refine ⟨_, cap, rfl, hlc, .inr ⟨gb, 0, rfl, .inr ⟨n, List.mem_singleton.2 rfl, by rw [hu]; rfl⟩, ?_⟩⟩
            intro j z hj
            refine ⟨_, ?_, Rep.move (fun b hb => ⟨rfl, .inl hb⟩) (hrow j z hj)⟩
            intro i q hq
            rw [cell_of_row w gb _ cs _ fr hh]
            rw [row_get] at hq
            split at hq
            · rw [Nat.zero_add]
              simpa using hq
            · cases hq
        · cases hs
      · rename_i rt l he
        rw [he] at h0
        obtain ⟨u, hu, h0⟩ := h0
        rw [hu] at hx2
        have hx2 : v = u := hx2
        subst hx2
        split at hs
        · rename_i l2 hl2
          cases hs
          obtain ⟨e, rfl⟩ := castL_some hl2
          exact cast_list e (Rep.move (fun b hb => ⟨rfl, .inl hb⟩) h0)
        · cases hs
      · cases hs
    · split at hs
      · rename_i l hl
        cases hs
        exact plain hx hl
      · cases hs
theorem rep_data {F : Nat → Prop} {t : Ty} {y : t.T} {cs : List Value} (h : Rep w F t y cs) : DLeaves w F (fun _ => False) (leaves t y) cs := by
  induction t generalizing cs with
  | int k => cases h; exact ⟨rfl, trivial⟩
  | bool => cases h; exact ⟨rfl, trivial⟩
  | str => cases h; exact ⟨rfl, trivial⟩
  | sl r ih =>
    obtain ⟨A, c, rfl, h⟩ := h
    exact ⟨⟨A, c, rfl, h⟩, trivial⟩
  | pair p q ihp ihq =>
    obtain ⟨c1, c2, rfl, h1, h2⟩ := h
    have a1 := ihp h1
    have a2 := ihq h2
    clear ihp ihq h1 h2
    show DLeaves w F (fun _ => False) (leaves p y.1 ++ leaves q y.2) (c1 ++ c2)
    generalize leaves p y.1 = xs at a1
    induction xs generalizing c1 with
    | nil =>
      cases c1 with
      | nil => exact a2
      | cons _ _ => exact a1.elim
    | cons x xs ih =>
      cases c1 with
      | nil => exact a1.elim
      | cons c c1 => exact ⟨a1.1, ih c1 a1.2⟩
  | unit => cases h; trivial
theorem rls_data {F : Nat → Prop} : ∀ {xs : List Leaf} {vs : List Value}, DLeaves w F (fun _ => False) xs vs → RLsOk w F (xs.map .leaf) vs []
  | [], [], _ => rfl
  | _ :: _, _ :: _, h => ⟨h.1, rls_data h.2⟩
  | [], _ :: _, h => h.elim
  | _ :: _, [], h => h.elim
theorem RLsOk.append {F : Nat → Prop} : ∀ {xs ys : List RL} {us vs : List Value} {O1 O2 : List Conc}, RLsOk w F xs us O1 → RLsOk w F ys vs O2 → RLsOk w F (xs ++ ys) (us ++ vs) (O1 ++ O2)
  | [], ys, [], vs, O1, O2, h, k => by
    obtain rfl : O1 = [] := h
    exact k
  | .leaf x :: xs, ys, u :: us, vs, O1, O2, h, k => ⟨h.1, RLsOk.append h.2 k⟩
  | .own e r l :: xs, ys, u :: us, vs, o :: O1, O2, h, k => ⟨h.1, h.2.1, RLsOk.append h.2.2 k⟩
  | .own _ _ _ :: _, _, _ :: _, _, [], _, h, _ => h.elim
  | [], _, _ :: _, _, _, _, h, _ => h.elim
  | .leaf _ :: _, _, [], _, _, _, h, _ => h.elim
  | .own _ _ _ :: _, _, [], _, _, _, h, _ => h.elim
/-- What a told leaf is, as the contract tells it: the rows that are handed on, and where the data lies. -/
def Told (X : Nat → Prop) (ρ : Rho) (w : World) (d : DR) (xs : List RL) (vs : List Value) (O : List Conc) : Prop :=
  (∀ F : Nat → Prop, (∀ b, FixOr X ρ w d.pures b → F b) → RLsOk w F xs vs O) ∧ ((O.filterMap cb).Sublist (d.owns.filterMap fun n => cbO (ρ n))) ∧
    (∀ u ∈ O, ∀ b, cb u = some b → ∃ n ∈ d.owns, owns (ρ n) b) ∧ ∀ n ∈ d.owns ++ d.pures, ∃ u, ρ n = some (.row u)
theorem scalar_rows {t : Ty} {x : Leaf} {y : t.T} {ns : List Nat} (hs : (match unlA t [x] with | some y => some (y, []) | none => none) = some (y, ns)) : ∀ n ∈ ns, ∃ u, ρ n = some (.row u) := by
  split at hs
  · cases hs
    intro m hm
    cases hm
  · cases hs
theorem pureOf_rows (h : Rel X ρ st a w) {t : Ty} {x : Leaf} {y : t.T} {ns : List Nat} (hs : pureOf st t x = some (y, ns)) : ∀ n ∈ [] ++ ns, ∃ u, ρ n = some (.row u) := by
  rw [List.nil_append]
  cases t with
  | sl r =>
    replace hs : pureSl st r x = some (y, ns) := hs
    unfold pureSl at hs
    split at hs
    · rename_i n
      have h0 := h.ents n
      unfold ownList at hs
      split at hs
      · rename_i z e rt l he
        rw [he] at h0
        obtain ⟨u, hu, h0⟩ := h0
        cases hme : isMap e with
        | true => rw [hme] at hs; cases hs
        | false =>
        rw [hme] at hs
        simp only [cond_false] at hs
        split at hs
        · cases hs
          intro m hm
          rw [List.mem_singleton.1 hm]
          exact ⟨u, hu⟩
        · cases hs
      · split at hs
        · cases hs
          intro m hm
          cases hm
        · cases hs
      · cases hs
    · split at hs
      · cases hs
        intro m hm
        cases hm
      · cases hs
  | int k => exact scalar_rows hs
  | bool => exact scalar_rows hs
  | str => exact scalar_rows hs
  | pair p q => exact scalar_rows hs
  | unit => exact scalar_rows (t := .unit) (x := x) hs
theorem FixOr.mono {ns ms : List Nat} (h : ∀ n ∈ ns, n ∈ ms) {b : Nat} (k : FixOr X ρ w ns b) : FixOr X ρ w ms b := k.imp id fun ⟨n, h1, h2⟩ => ⟨n, h n h1, h2⟩
theorem decK_ok (h : Rel X ρ st a w) {k : RK} {x : Leaf} {v : Value} {d : DR} (hx : LeafOk X ρ w x v) (hs : decK st k x = some d) (ds : List DV) :
    ∃ O, Told X ρ w d (encRK [k] (d.ds ++ ds)).1 [v] O ∧ ∀ ks, encRK (k :: ks) (d.ds ++ ds) = ((encRK [k] (d.ds ++ ds)).1 ++ (encRK ks ds).1, (encRK ks ds).2) := by
  cases k with
  | v t =>
    replace hs : decV st t x = some d := hs
    unfold decV at hs
    split at hs
    · rename_i y ns hy
      cases hs
      refine ⟨[], ⟨fun F hF => ?_, List.Sublist.refl _, (fun u hu => nomatch hu), pureOf_rows h hy⟩, fun ks => ?_⟩
      · have hrep := pureOf_ok h hx hy
        have := rls_data (rep_data (Rep.move (fun b hb => ⟨rfl, hF b hb⟩) hrep))
        show RLsOk w F ((leaves t y).map .leaf ++ []) [v] []
        rw [List.append_nil]
        exact this
      · show ((leaves t y).map RL.leaf ++ (encRK ks ds).1, (encRK ks ds).2) = ((leaves t y).map RL.leaf ++ [] ++ (encRK ks ds).1, (encRK ks ds).2)
        rw [List.append_nil]
    · cases hs
  | own e r =>
    replace hs : decOwn st e r x = some d := hs
    unfold decOwn at hs
    split at hs
    · rename_i n
      have h0 := h.ents n
      have hx2 := hx.2
      split at hs
      · rename_i e' rt l he
        rw [he] at h0
        obtain ⟨u, hu, h0⟩ := h0
        rw [hu] at hx2
        have hx2 : v = u := hx2
        subst hx2
        split at hs
        · rename_i l2 hl2
          cases hee : Nat.beq e e' with
          | false => rw [hee] at hs; cases hs
          | true =>
            rw [hee] at hs
            cases hs
            obtain rfl := Nat.eq_of_beq_eq_true hee
            obtain ⟨ee, rfl⟩ := castL_some hl2
            refine ⟨[.row v], ⟨fun F hF => ?_, ?_, ?_, fun n' hn' => by rw [List.mem_singleton.1 hn']; exact ⟨v, hu⟩⟩, fun ks => rfl⟩
            · refine ⟨rfl, ?_, rfl⟩
              have hm := RowOk.mono (F' := F) (fun b hb => hF b (.inl hb)) h0
              subst ee
              exact hm
            · simp only [List.filterMap_cons, List.filterMap_nil, hu, cbO, cb, Option.bind_some]
              exact List.Sublist.refl _
            · intro q hq b hb
              rw [List.mem_singleton.1 hq] at hb
              exact ⟨n, List.mem_singleton.2 rfl, by rw [hu]; exact hb⟩
        · cases hs
      · cases hs
    · cases hm : isMap e with
      | true => rw [hm] at hs; cases hs
      | false =>
      rw [hm] at hs
      cases hs
      have hx : v = .slice none 0 0 := hx
      subst hx
      refine ⟨[.row (.slice none 0 0)], ⟨fun F hF => ⟨rfl, RowS.ok (.inl ⟨rfl, rfl⟩) hm, rfl⟩, ?_, ?_, fun n' hn' => nomatch hn'⟩, fun ks => rfl⟩
      · simp [cb, ownB]
      · intro q hq b hb
        rw [List.mem_singleton.1 hq] at hb
        cases hb
    · cases hs
theorem told_rows {d : DR} {xs : List RL} {vs : List Value} {O : List Conc} (h : Told X ρ w d xs vs O) {d2 : DR} (h1 : ∀ n ∈ d.pures, n ∈ d2.pures) {F : Nat → Prop} (hF : ∀ b, FixOr X ρ w d2.pures b → F b) : RLsOk w F xs vs O := h.1 F fun b hb => hF b (hb.mono h1)
theorem rows_app {d1 d2 : DR} (h : ∀ n ∈ d1.owns ++ d1.pures, ∃ u, ρ n = some (.row u)) (k : ∀ n ∈ d2.owns ++ d2.pures, ∃ u, ρ n = some (.row u)) : ∀ n ∈ (d1.app d2).owns ++ (d1.app d2).pures, ∃ u, ρ n = some (.row u) := by
  intro n hn
  rcases List.mem_append.1 hn with hn | hn
  · rcases List.mem_append.1 (show n ∈ d1.owns ++ d2.owns from hn) with hn | hn
    · exact h n (List.mem_append_left _ hn)
    · exact k n (List.mem_append_left _ hn)
  · rcases List.mem_append.1 (show n ∈ d1.pures ++ d2.pures from hn) with hn | hn
    · exact h n (List.mem_append_right _ hn)
    · exact k n (List.mem_append_right _ hn)
theorem Told.app {d1 d2 : DR} {xs ys : List RL} {us vs : List Value} {O1 O2 : List Conc} (h : Told X ρ w d1 xs us O1) (k : Told X ρ w d2 ys vs O2) : Told X ρ w (d1.app d2) (xs ++ ys) (us ++ vs) (O1 ++ O2) := by
  refine ⟨fun F hF => (told_rows h (d2 := d1.app d2) (fun n hn => List.mem_append_left _ hn) hF).append (told_rows k (d2 := d1.app d2) (fun n hn => List.mem_append_right _ hn) hF), ?_, ?_⟩
  · rw [List.filterMap_append]
    show List.Sublist _ ((d1.owns ++ d2.owns).filterMap _)
    rw [List.filterMap_append]
    exact h.2.1.append k.2.1
  · refine ⟨?_, rows_app h.2.2.2 k.2.2.2⟩
    intro u hu b hb
    rcases List.mem_append.1 hu with hu | hu
    · obtain ⟨n, h1, h2⟩ := h.2.2.1 u hu b hb
      exact ⟨n, List.mem_append_left _ h1, h2⟩
    · obtain ⟨n, h1, h2⟩ := k.2.2.1 u hu b hb
      exact ⟨n, List.mem_append_right _ h1, h2⟩
theorem decRK_ok (h : Rel X ρ st a w) : ∀ {ks : List RK} {xs : List Leaf} {vs : List Value} {d : DR} (ds : List DV), LeavesOk X ρ w xs vs → decRK st ks xs = some d → ∃ O, Told X ρ w d (encRK ks (d.ds ++ ds)).1 vs O ∧ (encRK ks (d.ds ++ ds)).2 = ds
  | [], [], [], d, ds, _, hs => by
    cases hs
    exact ⟨[], ⟨fun F _ => rfl, List.Sublist.refl _, (fun u hu => nomatch hu), fun n hn => nomatch hn⟩, rfl⟩
  | k :: ks, x :: xs, v :: vs, d, ds, hx, hs => by
    unfold decRK at hs
    split at hs
    · rename_i d1 d2 h1 h2
      cases hs
      obtain ⟨O1, t1, e1⟩ := decK_ok h hx.1 h1 (d2.ds ++ ds)
      obtain ⟨O2, t2, e2⟩ := decRK_ok h ds hx.2 h2
      have e3 : encRK (k :: ks) ((d1.app d2).ds ++ ds) = ((encRK [k] (d1.ds ++ (d2.ds ++ ds))).1 ++ (encRK ks (d2.ds ++ ds)).1, (encRK ks (d2.ds ++ ds)).2) := by
        rw [← e1 ks, ← List.append_assoc]
        rfl
      rw [e3]
      exact ⟨O1 ++ O2, t1.app t2, e2⟩
    · cases hs
  | [], _ :: _, _, _, _, _, hs => by cases hs
  | _ :: _, [], _, _, _, _, hs => by cases hs
  | [], [], _ :: _, _, _, h, _ => h.elim
  | _ :: _, _ :: _, [], _, _, h, _ => h.elim
end
end Go.Proofs.YtcnkbllbpimaiaaGreatDoorE

namespace Go.Proofs.YtcnkbllbpimaiaaGreatDoorE
open Go Go.RowKit
set_option linter.unusedVariables false
section
variable {P : Program} {X : Nat → Prop} {ρ ρ' : Rho} {st st' : St} {a : Act} {w w' : World} {R : Type} {r : R} {C : Ctx}
/-! #### results -/
def ResRun (P : Program) (w : World) (tmps : Array Value) : ResultVar → Value → Prop
  | .tmp t, u => u = tmps.getD t undef
  | .cell p ty, u => ∃ A, tmps.getD p undef = .pointer (some A) ∧ (loadVar ty A).run P w = .ok u w
theorem compOf_ok (T : TiOk P C.ti) (h : Rel X ρ st a w) {ag : Bool} {v : ResultVar} {xs : List Leaf} (hs : compOf C.ti st ag v = some xs) :
    ∃ u, ResRun P w a.tmps v u ∧ CompOk X ρ w (ag, xs) u := by
  cases v with
  | tmp t =>
    replace hs : compT ag (st.tmp t) = some xs := hs
    have ht := h.tmp t
    refine ⟨tmOf a t, rfl, ?_⟩
    unfold compT at hs
    split at hs
    · rename_i x hx
      rw [hx] at ht
      cases ag with
      | true => cases hs
      | false =>
        cases hs
        rcases ht with ht | ⟨_, _, _, e, _⟩
        · exact ⟨ht, trivial⟩
        · cases e
    · rename_i ys hx
      rw [hx] at ht
      cases ag with
      | false => cases hs
      | true =>
        cases hs
        rcases ht with ht | ⟨_, _, _, e, _⟩
        · exact ht
        · cases e
    · cases hs
  | cell p ty =>
    replace hs : compC C.ti st ag ty (st.tmp p) = some xs := hs
    have ht := h.tmp p
    unfold compC at hs
    split at hs
    · rename_i b hb
      rw [hb] at ht
      split at hs
      · rename_i bt ys he
        have h0 := h.ents b
        rw [he] at h0
        obtain ⟨gb, cs, fr, hρ, hh, hun, hys⟩ := h0
        have ht2 : tmOf a p = .pointer (some ⟨gb, 0, none⟩) := by
          rcases ht with ht | ⟨_, _, _, e, _⟩
          · have := ht.2
            rw [hρ] at this
            exact this
          · cases e
        unfold cellOf at hs
        split at hs
        · rename_i i hi
          cases hc : ((i.agg == ag) && Nat.beq (bif ag then i.sz else 1) ys.length) with
          | false => rw [hc] at hs; cases hs
          | true =>
            rw [hc] at hs
            cases hs
            obtain ⟨c1, c2⟩ := (Bool.and_eq_true _ _).mp hc
            have c1 : i.agg = ag := by simpa using c1
            have c2 := Nat.eq_of_beq_eq_true c2
            have hlen := hys.len
            have hload : ∀ u, (loadVar ty ⟨gb, 0, none⟩).run P w = .ok u w → ResRun P w a.tmps (.cell p ty) u := fun u hu => ⟨_, ht2, hu⟩
            cases ag with
            | true =>
              refine ⟨.agg cs, hload _ ?_, ⟨cs, rfl, hys⟩⟩
              obtain ⟨q, hq, hq2, _⟩ := (T _ _ hi).info
              obtain ⟨d, hd, hag, _⟩ := (T _ _ hi).und
              refine run_loadVar_row w gb bt ty cs fr d hh hd ?_ ?_
              · rw [c1] at hag
                rw [hag]
                cases d <;> rfl
              · rw [hq]
                simp only [Option.map_some, hq2]
                have c2 : i.sz = xs.length := c2
                rw [c2, hlen, Array.length_toList]
            | false =>
              have c2 : 1 = xs.length := c2
              rw [hlen] at c2
              have hcs : ∃ u, cs.toList = [u] := by
                cases hcl : cs.toList with
                | nil => rw [hcl] at c2; cases c2
                | cons u us =>
                  cases us with
                  | nil => exact ⟨u, rfl⟩
                  | cons _ _ => rw [hcl] at c2; simp at c2
              obtain ⟨u, hu⟩ := hcs
              refine ⟨u, hload u ?_, ?_⟩
              · have hc0 : w.cell? ⟨gb, 0, none⟩ = some u := by
                  rw [cell_of_row w gb 0 cs bt fr hh, ← Array.getElem?_toList, hu]
                  rfl
                unfold loadVar
                simp only [Sem.run_bind, run_isAgg (T _ _ hi), Result.andThen_ok, c1]
                simp [hc0]
              · rw [hu] at hys
                exact hys
        · cases hs
      · cases hs
    · cases hs
def ResRuns (P : Program) (w : World) (tmps : Array Value) : List ResultVar → List Value → Prop
  | [], [] => True
  | v :: vs, u :: us => ResRun P w tmps v u ∧ ResRuns P w tmps vs us
  | _, _ => False
def resOne (tmps : Array Value) : ResultVar → Sem Value
  | .tmp t => pure (tmps.getD t undef)
  | .cell p t => do loadVar t (← asAddr (tmps.getD p undef))
theorem run_resOne {tmps : Array Value} {v : ResultVar} {u : Value} (h : ResRun P w tmps v u) : (resOne tmps v).run P w = .ok u w := by
  cases v with
  | tmp t => rw [show u = _ from h]; rfl
  | cell p ty =>
    obtain ⟨A, h1, h2⟩ := h
    unfold resOne
    simp only [Sem.run_bind, h1, asAddr, Sem.run_pure, Result.andThen_ok, h2]
theorem run_resAll {tmps : Array Value} : ∀ {vs : List ResultVar} {us : List Value}, ResRuns P w tmps vs us → (vs.mapM (resOne tmps)).run P w = .ok us w
  | [], [], _ => by simp
  | v :: vs, u :: us, h => by
    rw [List.mapM_cons]
    simp only [Sem.run_bind, run_resOne h.1, Result.andThen_ok, run_resAll h.2, Sem.run_pure]
  | [], _ :: _, h => h.elim
  | _ :: _, [], h => h.elim
def tupOf : List Value → Value
  | [u] => u
  | us => .tuple us.toArray
theorem run_results {fn : Func} {tmps : Array Value} {us : List Value} (h : ResRuns P w tmps fn.results.toList us) :
    (results fn tmps).run P w = .ok (tupOf us) w := by
  have h0 : results fn tmps = (do let vs ← fn.results.mapM (resOne tmps); pure (if h : vs.size = 1 then vs[0] else .tuple vs)) := by
    unfold results
    first
      | rfl
      | (congr 2; funext v; cases v <;> rfl)
  rw [h0, Array.mapM_eq_mapM_toList]
  simp only [Sem.run_bind, Sem.run_map, run_resAll h, Result.andThen_ok, Sem.run_pure]
  congr 1
  match us with
  | [] => rfl
  | [u] => rfl
  | _ :: _ :: _ => rfl
/-- Results, as the contract tells them; S: the slots of what is handed on, in order. -/
structure ToldC (X : Nat → Prop) (ρ : Rho) (w : World) (d : DR) (bs : List Nat) (ps : List RC) (us : List Value) (O : List Conc) (S : List Nat) : Prop where
  perm : S.Perm (d.owns ++ bs)
  sub : (O.filterMap cb).Sublist (S.filterMap fun n => cbO (ρ n))
  told : ∀ F : Nat → Prop, (∀ b, FixOr X ρ w d.pures b → F b) → RComps w F ps us O
  rows : ∀ n ∈ d.owns ++ d.pures, ∃ u, ρ n = some (.row u)
  boxes : ∀ n ∈ bs, ∃ g, ρ n = some (.blk g)
structure Told1 (X : Nat → Prop) (ρ : Rho) (w : World) (d : DR) (bs : List Nat) (p : RC) (u : Value) (O : List Conc) (S : List Nat) : Prop where
  perm : S.Perm (d.owns ++ bs)
  sub : (O.filterMap cb).Sublist (S.filterMap fun n => cbO (ρ n))
  told : ∀ F : Nat → Prop, (∀ b, FixOr X ρ w d.pures b → F b) → RComp w F p u O
  rows : ∀ n ∈ d.owns ++ d.pures, ∃ u, ρ n = some (.row u)
  boxes : ∀ n ∈ bs, ∃ g, ρ n = some (.blk g)
theorem decSK_ok (T : TiOk P C.ti) (h : Rel X ρ st a w) {k : SK} {v : ResultVar} {d : DR} {bs : List Nat} (ds : List DV) (hs : decSK C.ti st v k = some (d, bs)) :
    ∃ u O S p, ResRun P w a.tmps v u ∧ Told1 X ρ w d bs p u O S ∧ ∀ rs, encRes (k :: rs) (d.ds ++ ds) = (p :: (encRes rs ds).1, (encRes rs ds).2) := by
  cases k with
  | val ag ks =>
    replace hs : (match compOf C.ti st ag v with
      | some xs => match decRK st ks xs with
        | some d => some (d, [])
        | none => none
      | none => none) = some (d, bs) := hs
    split at hs
    · rename_i xs hxs
      split at hs
      · rename_i d' h1
        cases hs
        obtain ⟨u, hu, hc⟩ := compOf_ok T h hxs
        unfold CompOk at hc
        cases ag with
        | true =>
          obtain ⟨cs, rfl, hc⟩ := hc
          obtain ⟨O1, t1, e1⟩ := decRK_ok h ds hc h1
          refine ⟨_, O1, d.owns, .val true (encRK ks (d.ds ++ ds)).1, hu, ⟨by simp, t1.2.1, fun F hF => ⟨cs, rfl, t1.1 F hF⟩, t1.2.2.2, fun n hn => nomatch hn⟩, fun rs => ?_⟩
          show (RC.val true (encRK ks (d.ds ++ ds)).1 :: (encRes rs (encRK ks (d.ds ++ ds)).2).1, (encRes rs (encRK ks (d.ds ++ ds)).2).2) = _
          rw [e1]
        | false =>
          obtain ⟨O1, t1, e1⟩ := decRK_ok h ds hc h1
          refine ⟨u, O1, d.owns, .val false (encRK ks (d.ds ++ ds)).1, hu, ⟨by simp, t1.2.1, fun F hF => t1.1 F hF, t1.2.2.2, fun n hn => nomatch hn⟩, fun rs => ?_⟩
          show (RC.val false (encRK ks (d.ds ++ ds)).1 :: (encRes rs (encRK ks (d.ds ++ ds)).2).1, (encRes rs (encRK ks (d.ds ++ ds)).2).2) = _
          rw [e1]
      · cases hs
    · cases hs
  | box tid ks =>
    replace hs : (match compOf C.ti st false v with
      | some xs => match boxOfR st tid xs with
        | some (ys, b) => match decRK st ks ys with
          | some d => some (d, [b])
          | none => none
        | none => none
      | none => none) = some (d, bs) := hs
    split at hs
    · rename_i xs hxs
      split at hs
      · rename_i ys b hb
        split at hs
        · rename_i d' h1
          cases hs
          obtain ⟨u, hu, hc⟩ := compOf_ok T h hxs
          have hc : LeavesOk X ρ w xs [u] := hc
          unfold boxOfR at hb
          split at hb
          · rename_i n
            split at hb
            · rename_i t zs he
              cases ht : Nat.beq t tid with
              | false => rw [ht] at hb; cases hb
              | true =>
                rw [ht] at hb
                cases hb
                obtain rfl := Nat.eq_of_beq_eq_true ht
                have h0 := h.ents b
                rw [he] at h0
                obtain ⟨gb, cs, fr, hρ, hh, hun, hys⟩ := h0
                have hu2 := hc.1.2
                rw [hρ] at hu2
                obtain rfl : u = .pointer (some ⟨gb, 0, none⟩) := hu2
                obtain ⟨O1, t1, e1⟩ := decRK_ok h ds hys h1
                refine ⟨_, O1 ++ [.blk gb], d.owns ++ [b], .box t (encRK ks (d.ds ++ ds)).1, hu, ⟨List.Perm.refl _, ?_, fun F hF => ⟨gb, cs, fr, O1, rfl, rfl, hh, hun, t1.1 F hF⟩, t1.2.2.2, fun n hn => ?_⟩, fun rs => ?_⟩
                · rw [List.filterMap_append, List.filterMap_append]
                  refine t1.2.1.append ?_
                  have e2 : List.filterMap (fun n => cbO (ρ n)) [b] = [gb] := by simp [hρ, cbO, cb]
                  rw [e2]
                  exact List.Sublist.refl _
                · rw [List.mem_singleton.1 hn]; exact ⟨gb, hρ⟩
                · show (RC.box t (encRK ks (d.ds ++ ds)).1 :: (encRes rs (encRK ks (d.ds ++ ds)).2).1, (encRes rs (encRK ks (d.ds ++ ds)).2).2) = _
                  rw [e1]
            · cases hb
          · cases hb
        · cases hs
      · cases hs
    · cases hs
theorem decRes_ok (T : TiOk P C.ti) (h : Rel X ρ st a w) : ∀ {rs : List SK} {vs : List ResultVar} {d : DR} {bs : List Nat} (ds : List DV), decRes C.ti st rs vs = some (d, bs) →
    ∃ us O S, ResRuns P w a.tmps vs us ∧ ToldC X ρ w d bs (encRes rs (d.ds ++ ds)).1 us O S ∧ (encRes rs (d.ds ++ ds)).2 = ds
  | [], [], d, bs, ds, hs => by
    cases hs
    exact ⟨[], [], [], trivial, ⟨List.Perm.refl _, List.Sublist.refl _, fun F _ => rfl, (fun n hn => nomatch hn), fun n hn => nomatch hn⟩, rfl⟩
  | k :: rs, v :: vs, d, bs, ds, hs => by
    unfold decRes at hs
    split at hs
    · rename_i d1 d2 h1 h2
      cases hs
      obtain ⟨us, O2, S2, hus, t2, e2⟩ := decRes_ok T h (d := d2.1) (bs := d2.2) ds h2
      obtain ⟨u, O1, S1, p, hu, t1, e1⟩ := decSK_ok T h (d := d1.1) (bs := d1.2) (d2.1.ds ++ ds) h1
      have e3 : encRes (k :: rs) ((d1.1.app d2.1).ds ++ ds) = (p :: (encRes rs (d2.1.ds ++ ds)).1, (encRes rs (d2.1.ds ++ ds)).2) := by
        rw [← e1 rs, ← List.append_assoc]
        rfl
      rw [e3]
      refine ⟨u :: us, O1 ++ O2, S1 ++ S2, ⟨hu, hus⟩, ⟨?_, ?_, ?_, rows_app t1.rows t2.rows, ?_⟩, e2⟩
      · have := t1.perm.append t2.perm
        refine this.trans ?_
        show List.Perm (d1.1.owns ++ d1.2 ++ (d2.1.owns ++ d2.2)) (d1.1.owns ++ d2.1.owns ++ (d1.2 ++ d2.2))
        rw [List.append_assoc, List.append_assoc]
        refine List.Perm.append_left _ ?_
        rw [← List.append_assoc, ← List.append_assoc]
        exact List.Perm.append_right _ List.perm_append_comm
      · rw [List.filterMap_append, List.filterMap_append]
        exact t1.sub.append t2.sub
      · exact fun F hF => ⟨O1, O2, rfl, t1.told F fun b hb => hF b (hb.mono fun n hn => List.mem_append_left _ hn), t2.told F fun b hb => hF b (hb.mono fun n hn => List.mem_append_right _ hn)⟩
      · intro n hn
        rcases List.mem_append.1 hn with hn | hn
        · exact t1.boxes n hn
        · exact t2.boxes n hn
    · cases hs
  | [], _ :: _, _, _, _, hs => by cases hs
  | _ :: _, [], _, _, _, hs => by cases hs
end
end Go.Proofs.YtcnkbllbpimaiaaGreatDoorE

namespace Go.Proofs.YtcnkbllbpimaiaaGreatDoorE
open Go Go.RowKit
set_option linter.unusedVariables false
section
variable {P : Program} {X : Nat → Prop} {ρ ρ' : Rho} {st st' : St} {a : Act} {w w' : World} {R : Type} {r : R} {C : Ctx} {F B : Nat → Prop}
/-- A leaf, and the same as data writes it. -/
inductive Canon : Leaf → Leaf → Prop where
  | int (k : IntKind) (n : Int) : Canon (.int k n) (.int k n)
  | bool (b : Bool) : Canon (.bool b) (.bool b)
  | kb (b : Bool) : Canon (.kb b) (.bool b)
  | str (s : Str) : Canon (.str s) (.str s)
  | list (t : Ty) (l : List t.T) : Canon (.list t l) (.list t l)
  | nil (t : Ty) : Canon .nil (.list t [])
inductive Canons : List Leaf → List Leaf → Prop where
  | nil : Canons [] []
  | cons {x y : Leaf} {xs ys : List Leaf} (h : Canon x y) (k : Canons xs ys) : Canons (x :: xs) (y :: ys)
theorem Canons.append {xs ys zs us : List Leaf} (h : Canons xs ys) (k : Canons zs us) : Canons (xs ++ zs) (ys ++ us) := by
  induction h with
  | nil => exact k
  | cons h1 _ ih => exact .cons h1 ih
theorem unl_canon : ∀ {t : Ty} {xs ys : List Leaf} {x : t.T}, unl t xs = some (x, ys) → ∃ zs, xs = zs ++ ys ∧ Canons zs (leaves t x)
  | .int k, xs, ys, x, h => by
    replace h : unlInt k xs = some (x, ys) := h
    unfold unlInt at h
    split at h
    · split at h
      · rename_i hk
        subst hk
        cases h
        exact ⟨[_], rfl, .cons (.int _ _) .nil⟩
      · cases h
    · cases h
  | .bool, xs, ys, x, h => by
    replace h : unlBool xs = some (x, ys) := h
    unfold unlBool at h
    split at h
    · cases h; exact ⟨[_], rfl, .cons (.bool _) .nil⟩
    · cases h; exact ⟨[_], rfl, .cons (.kb _) .nil⟩
    · cases h
  | .str, xs, ys, x, h => by
    replace h : unlStr xs = some (x, ys) := h
    unfold unlStr at h
    split at h
    · cases h; exact ⟨[_], rfl, .cons (.str _) .nil⟩
    · cases h
  | .sl r, xs, ys, x, h => by
    replace h : unlSl r xs = some (x, ys) := h
    unfold unlSl at h
    split at h
    · split at h
      · rename_i r' l xs hs _
        cases h
        have e := hs.down
        subst e
        exact ⟨[_], rfl, .cons (.list _ _) .nil⟩
      · cases h
    · cases h; exact ⟨[_], rfl, .cons (.nil _) .nil⟩
    · cases h
  | .pair p q, xs, ys, x, h => by
    unfold unl at h
    split at h
    · rename_i x1 ys1 h1
      split at h
      · rename_i y1 zs1 h2
        cases h
        obtain ⟨z1, rfl, c1⟩ := unl_canon h1
        obtain ⟨z2, rfl, c2⟩ := unl_canon h2
        exact ⟨z1 ++ z2, (List.append_assoc _ _ _).symm, c1.append c2⟩
      · cases h
    · cases h
  | .unit, xs, ys, x, h => by
    cases h
    exact ⟨[], rfl, .nil⟩
theorem unlA_canon {t : Ty} {xs : List Leaf} {x : t.T} (h : unlA t xs = some x) : Canons xs (leaves t x) := by
  unfold unlA at h
  split at h
  · rename_i y hy
    cases h
    obtain ⟨zs, e, c⟩ := unl_canon hy
    rw [List.append_nil] at e
    rw [e]
    exact c
  · cases h
/-- The leaves of a parameter: as they are told, and what the slots stand for. -/
def PLs (w : World) (F B : Nat → Prop) : List PL → List Leaf → List Value → List Conc → Prop
  | [], [], [], cs => cs = []
  | .v :: ms, x :: xs, v :: vs, cs => DLeaf w F (fun _ => False) x v ∧ PLs w F B ms xs vs cs
  | .ro :: ms, x :: xs, v :: vs, cs => DLeaf w B (fun _ => False) x v ∧ PLs w F B ms xs vs cs
  | .own e :: ms, .list t l :: xs, v :: vs, c :: cs => c = .row v ∧ RowOk w F false e t v l ∧ PLs w F B ms xs vs cs
  | _, _, _, _ => False
theorem canon_leaf {x y : Leaf} {v : Value} {B' : Nat → Prop} (c : Canon x y) (h : DLeaf w F B x v) : DLeaf w F B' y v := by
  cases c with
  | nil t => exact ⟨none, 0, by rw [show v = _ from h]; rfl, Nat.le_refl _, .inl rfl⟩
  | _ => exact h
/-- Lent rows, and what the slots stand for. -/
def LRows : List GI → List Conc → Prop
  | [], [] => True
  | .row v :: L, .row u :: cs => u = v ∧ LRows L cs
  | .no :: L, .row u :: cs => ownB u = none ∧ LRows L cs
  | _, _ => False
theorem vls_pls (hFB : ∀ b, F b → B b) : ∀ {ms : List PL} {cls : List CL} {xs ys : List Leaf} {vs : List Value} {L : List GI}, decCLs ms cls = some xs → Canons xs ys → VLs w F B cls vs L →
    ∃ cs, PLs w F B ms ys vs cs ∧ cs.filterMap cb = GI.blocks L ∧ LRows L cs
  | [], [], xs, ys, vs, L, h, c, k => by
    cases h
    cases c
    cases vs with
    | nil => obtain rfl : L = [] := k; exact ⟨[], rfl, rfl, trivial⟩
    | cons _ _ => exact k.elim
  | m :: ms, cl :: cls, xs, ys, vs, L, h, c, k => by
    unfold decCLs at h
    split at h
    · rename_i x xs' hx hxs
      cases h
      cases c with
      | cons c1 c2 =>
        rename_i y ys
        match cl, vs, L, k with
        | .leaf z, v :: vs, L, k =>
          obtain ⟨cs, i1, i2, i3⟩ := vls_pls hFB hxs c2 k.2
          cases m with
          | v =>
            refine ⟨cs, ⟨?_, i1⟩, i2, i3⟩
            cases z with
            | bor t l => cases hx
            | _ => cases hx; exact canon_leaf c1 k.1
          | ro =>
            refine ⟨cs, ⟨?_, i1⟩, i2, i3⟩
            cases z with
            | bor t l => cases hx; exact canon_leaf c1 (show DLeaf w B B (.list t l) v from k.1)
            | _ => cases hx; exact canon_leaf c1 (k.1.mono hFB fun b hb => hb)
          | own e => cases hx
        | .row e' t l, v :: vs, .row u :: L, ⟨h1, h2, h3⟩ =>
          obtain ⟨cs, i1, i2, i3⟩ := vls_pls hFB hxs c2 h3
          cases m with
          | v => cases hx
          | ro => cases hx
          | own e =>
            cases he : Nat.beq e e' with
            | false =>
              replace hx : (bif Nat.beq e e' then some (Leaf.list t l) else none) = some x := hx
              rw [he] at hx; cases hx
            | true =>
              replace hx : (bif Nat.beq e e' then some (Leaf.list t l) else none) = some x := hx
              rw [he] at hx
              cases hx
              obtain rfl := Nat.eq_of_beq_eq_true he
              cases c1
              subst h1
              refine ⟨.row u :: cs, ⟨rfl, h2, i1⟩, ?_, rfl, i3⟩
              show List.filterMap cb (Conc.row u :: cs) = (ownB u).toList ++ GI.blocks L
              cases hu : (ownB u) with
              | none => rw [List.filterMap_cons_none (show cb (.row u) = none from hu), i2]; rfl
              | some b => rw [List.filterMap_cons_some (show cb (.row u) = some b from hu), i2]; rfl
        | .nil, v :: vs, .no :: L, ⟨h1, h3⟩ =>
          obtain ⟨cs, i1, i2, i3⟩ := vls_pls hFB hxs c2 h3
          cases m with
          | v => cases hx
          | ro => cases hx
          | own e =>
            cases hm : isMap e with
            | true =>
              replace hx : (bif isMap e then none else some Leaf.nil) = some x := hx
              rw [hm] at hx; cases hx
            | false =>
            replace hx : (bif isMap e then none else some Leaf.nil) = some x := hx
            rw [hm] at hx
            cases hx
            cases c1
            refine ⟨.row v :: cs, ⟨rfl, RowS.ok (.inl ⟨h1, rfl⟩) hm, i1⟩, ?_, (by rw [h1]; rfl), i3⟩
            rw [List.filterMap_cons_none (show cb (.row v) = none by rw [h1]; rfl), i2]
            rfl
    · cases h
  | [], _ :: _, _, _, _, _, h, _, _ => by cases h
  | _ :: _, [], _, _, _, _, h, _, _ => by cases h
theorem mls_pls (hFB : ∀ b, F b → B b) : ∀ {ms : List PL} {cls : List CL} {xs ys : List Leaf} {vs : List Value} {N : List Value}, decCLs ms cls = some xs → Canons xs ys → MLs w F B cls vs N →
    ∃ cs, PLs w F B ms ys vs cs ∧ cs.filterMap cb = mBlocks N
  | [], [], xs, ys, vs, N, h, c, k => by
    cases h
    cases c
    cases vs with
    | nil => obtain rfl : N = [] := k; exact ⟨[], rfl, rfl⟩
    | cons _ _ => exact k.elim
  | m :: ms, cl :: cls, xs, ys, vs, N, h, c, k => by
    unfold decCLs at h
    split at h
    · rename_i x xs' hx hxs
      cases h
      cases c with
      | cons c1 c2 =>
        rename_i y ys
        match cl, vs, N, k with
        | .leaf z, v :: vs, N, k =>
          obtain ⟨cs, i1, i2⟩ := mls_pls hFB hxs c2 k.2
          cases m with
          | v =>
            refine ⟨cs, ⟨?_, i1⟩, i2⟩
            cases z with
            | bor t l => cases hx
            | _ => cases hx; exact canon_leaf c1 k.1
          | ro =>
            refine ⟨cs, ⟨?_, i1⟩, i2⟩
            cases z with
            | bor t l => cases hx; exact canon_leaf c1 (show DLeaf w B B (.list t l) v from k.1)
            | _ => cases hx; exact canon_leaf c1 (k.1.mono hFB fun b hb => hb)
          | own e => cases hx
        | .row e' t l, v :: vs, u :: N, ⟨h1, h2, h3⟩ =>
          obtain ⟨cs, i1, i2⟩ := mls_pls hFB hxs c2 h3
          cases m with
          | v => cases hx
          | ro => cases hx
          | own e =>
            cases he : Nat.beq e e' with
            | false =>
              replace hx : (bif Nat.beq e e' then some (Leaf.list t l) else none) = some x := hx
              rw [he] at hx; cases hx
            | true =>
              replace hx : (bif Nat.beq e e' then some (Leaf.list t l) else none) = some x := hx
              rw [he] at hx
              cases hx
              obtain rfl := Nat.eq_of_beq_eq_true he
              cases c1
              subst h1
              refine ⟨.row u :: cs, ⟨rfl, h2, i1⟩, ?_⟩
              unfold mBlocks
              cases hu : (ownB u) with
              | none => rw [List.filterMap_cons_none (show cb (.row u) = none from hu), List.filterMap_cons_none hu, i2]; rfl
              | some b => rw [List.filterMap_cons_some (show cb (.row u) = some b from hu), List.filterMap_cons_some hu, i2]; rfl
        | .nil, v :: vs, N, ⟨h1, h3⟩ =>
          obtain ⟨cs, i1, i2⟩ := mls_pls hFB hxs c2 h3
          cases m with
          | v => cases hx
          | ro => cases hx
          | own e =>
            cases hm : isMap e with
            | true =>
              replace hx : (bif isMap e then none else some Leaf.nil) = some x := hx
              rw [hm] at hx; cases hx
            | false =>
            replace hx : (bif isMap e then none else some Leaf.nil) = some x := hx
            rw [hm] at hx
            cases hx
            cases c1
            refine ⟨.row v :: cs, ⟨rfl, RowS.ok (.inl ⟨h1, rfl⟩) hm, i1⟩, ?_⟩
            rw [List.filterMap_cons_none (show cb (.row v) = none by rw [h1]; rfl), i2]
    · cases h
  | [], _ :: _, _, _, _, _, h, _, _ => by cases h
  | _ :: _, [], _, _, _, _, h, _, _ => by cases h
/-- Each slot's content is what the slot stands for. -/
def EntsOk (X : Nat → Prop) (ρ : Rho) (w : World) : List Ent → List Conc → Prop
  | [], [] => True
  | e :: es, c :: cs => EntOk X ρ w e (some c) ∧ EntsOk X ρ w es cs
  | _, _ => False
theorem EntsOk.append : ∀ {es fs : List Ent} {cs ds : List Conc}, EntsOk X ρ w es cs → EntsOk X ρ w fs ds → EntsOk X ρ w (es ++ fs) (cs ++ ds)
  | [], _, [], _, _, k => k
  | _ :: _, _, _ :: _, _, h, k => ⟨h.1, EntsOk.append h.2 k⟩
  | [], _, _ :: _, _, h, _ => h.elim
  | _ :: _, _, [], _, h, _ => h.elim
theorem EntsOk.len : ∀ {es : List Ent} {cs : List Conc}, EntsOk X ρ w es cs → es.length = cs.length
  | [], [], _ => rfl
  | _ :: _, _ :: _, h => congrArg (· + 1) (EntsOk.len h.2)
  | [], _ :: _, h => h.elim
  | _ :: _, [], h => h.elim
theorem leaf_of_f (hF : ∀ b, F b → Fix X ρ w b) {x : Leaf} {v : Value} (h : DLeaf w F (fun _ => False) x v) : LeafOk X ρ w x v := leaf_of_d (h.mono hF fun b hb => hb)
theorem leaf_of_b (hB : ∀ b, B b → Brw ρ w b) {x : Leaf} {v : Value} (h : DLeaf w B (fun _ => False) x v) : LeafOk X ρ w (borL x) v := by
  cases x <;> first | exact h | exact h.elim | exact Rep.move (fun b hb => ⟨rfl, hB b hb⟩) h | exact Rep.move (fun b hb => hb.elim) h
theorem leavesIn_ok (hF : ∀ b, F b → Fix X ρ w b) (hB : ∀ b, B b → Brw ρ w b) : ∀ {ms : List PL} {xs : List Leaf} {vs : List Value} {cs : List Conc} {nb : Nat}, PLs w F B ms xs vs cs → RowsAt ρ nb cs →
    LeavesOk X ρ w (leavesIn ms xs nb).1 vs ∧ EntsOk X ρ w (leavesIn ms xs nb).2 cs
  | [], [], [], cs, nb, h, _ => by
    obtain rfl : cs = [] := h
    exact ⟨trivial, trivial⟩
  | .v :: ms, x :: xs, v :: vs, cs, nb, h, k => by
    obtain ⟨h1, h2⟩ := h
    obtain ⟨i1, i2⟩ := leavesIn_ok hF hB (nb := nb) h2 k
    have e : leavesIn (.v :: ms) (x :: xs) nb = (x :: (leavesIn ms xs nb).1, (leavesIn ms xs nb).2) := rfl
    rw [e]
    exact ⟨⟨leaf_of_f hF h1, i1⟩, i2⟩
  | .ro :: ms, x :: xs, v :: vs, cs, nb, h, k => by
    obtain ⟨h1, h2⟩ := h
    obtain ⟨i1, i2⟩ := leavesIn_ok hF hB (nb := nb) h2 k
    have e : leavesIn (.ro :: ms) (x :: xs) nb = (borL x :: (leavesIn ms xs nb).1, (leavesIn ms xs nb).2) := rfl
    rw [e]
    exact ⟨⟨leaf_of_b hB h1, i1⟩, i2⟩
  | .own e :: ms, .list t l :: xs, v :: vs, c :: cs, nb, h, k => by
    obtain ⟨rfl, h1, h2⟩ := h
    obtain ⟨i1, i2⟩ := leavesIn_ok hF hB (nb := nb + 1) h2 (fun j u hj => by
      have := k (j + 1) u hj
      rwa [show nb + (j + 1) = nb + 1 + j by omega] at this)
    have e' : leavesIn (.own e :: ms) (.list t l :: xs) nb = (.own nb :: (leavesIn ms xs (nb + 1)).1, .arr false e t l :: (leavesIn ms xs (nb + 1)).2) := rfl
    rw [e']
    refine ⟨⟨⟨row_form h1, by rw [show ρ nb = some (.row v) from k 0 _ rfl]⟩, i1⟩, ⟨v, rfl, h1.mono hF⟩, i2⟩
def lty : Leaf → Ty
  | .int k _ => .int k
  | .bool _ => .bool
  | .kb _ => .bool
  | .str _ => .str
  | .list r _ => .sl r
  | _ => .unit
theorem leafTys_map : ∀ (t : Ty) (x : t.T), leafTys t = (leaves t x).map lty
  | .int _, _ => rfl
  | .bool, _ => rfl
  | .str, _ => rfl
  | .sl _, _ => rfl
  | .pair a b, x => by
    show leafTys a ++ leafTys b = (leaves a x.1 ++ leaves b x.2).map lty
    rw [List.map_append, ← leafTys_map a x.1, ← leafTys_map b x.2]
  | .unit, _ => rfl
/-- How many slots a parameter's rows take. -/
theorem pls_rows : ∀ {ms : List PL} {xs : List Leaf} {vs : List Value} {cs : List Conc}, PLs w F B ms xs vs cs → cs.length = (rowKs (xs.map lty) ms).length ∧ ∀ c ∈ cs, ∃ v, c = .row v
  | [], [], [], cs, h => by
    obtain rfl : cs = [] := h
    exact ⟨rfl, fun c hc => nomatch hc⟩
  | .v :: ms, x :: xs, v :: vs, cs, h => by
    obtain ⟨i1, i2⟩ := pls_rows h.2
    refine ⟨?_, i2⟩
    rw [i1]
    cases x <;> rfl
  | .ro :: ms, x :: xs, v :: vs, cs, h => by
    obtain ⟨i1, i2⟩ := pls_rows h.2
    refine ⟨?_, i2⟩
    rw [i1]
    cases x <;> rfl
  | .own e :: ms, .list t l :: xs, v :: vs, c :: cs, h => by
    obtain ⟨h1, _, h2⟩ := h
    obtain ⟨i1, i2⟩ := pls_rows h2
    refine ⟨congrArg (· + 1) i1, fun c' hc => ?_⟩
    rcases List.mem_cons.1 hc with rfl | hc
    · exact ⟨v, h1⟩
    · exact i2 c' hc
end
end Go.Proofs.YtcnkbllbpimaiaaGreatDoorE

namespace Go.Proofs.YtcnkbllbpimaiaaGreatDoorE
open Go Go.RowKit
set_option linter.unusedVariables false
section
variable {P : Program} {X : Nat → Prop} {ρ ρ' : Rho} {st st' : St} {a : Act} {w w' : World} {R : Type} {r : R} {C : Ctx} {F B : Nat → Prop}
theorem blocks_app : ∀ (L1 L2 : List GI), GI.blocks (L1 ++ L2) = GI.blocks L1 ++ GI.blocks L2
  | [], _ => rfl
  | .blk g :: L, L2 => congrArg (g :: ·) (blocks_app L L2)
  | .row v :: L, L2 => by
    show (ownB v).toList ++ GI.blocks (L ++ L2) = ((ownB v).toList ++ GI.blocks L) ++ GI.blocks L2
    rw [blocks_app L L2, List.append_assoc]
  | .no :: L, L2 => blocks_app L L2
theorem mBlocks_app (M N : List Value) : mBlocks (M ++ N) = mBlocks M ++ mBlocks N := List.filterMap_append
theorem perm4 {α : Type} {a b c d e f : List α} (h : List.Perm a (c ++ d)) (k : List.Perm b (e ++ f)) : List.Perm (a ++ b) (c ++ e ++ (d ++ f)) := by
  refine (h.append k).trans ?_
  rw [List.append_assoc, List.append_assoc]
  refine List.Perm.append_left _ ?_
  rw [← List.append_assoc, ← List.append_assoc]
  exact List.Perm.append_right _ List.perm_append_comm
theorem DLeaves.split2 {F B : Nat → Prop} : ∀ {xs ys : List Leaf} {vs : List Value}, DLeaves w F B (xs ++ ys) vs → ∃ v1 v2, vs = v1 ++ v2 ∧ DLeaves w F B xs v1 ∧ DLeaves w F B ys v2
  | [], _, vs, h => ⟨[], vs, rfl, trivial, h⟩
  | _ :: _, _, v :: vs, h => by
    obtain ⟨v1, v2, rfl, h1, h2⟩ := DLeaves.split2 h.2
    exact ⟨v :: v1, v2, rfl, ⟨h.1, h1⟩, h2⟩
  | _ :: _, _, [], h => h.elim
/-- What the slots of parameters stand for, beside what is lent. -/
def CSlots : List (TypeId × Ty × List PL) → List GI → List Conc → Prop
  | [], L, cs => L = [] ∧ cs = []
  | k :: ks, L, cs => if k.1 = roT then CSlots ks L cs else ∃ g rest L' cs', L = .blk g :: L' ∧ cs = .blk g :: rest ++ cs' ∧ rest.length = rowsN (leafTys k.2.1) k.2.2 ∧ CSlots ks L' cs'
def PSlot : PK → List GI → List Conc → Prop
  | .val _ t ms, L, cs => LRows L cs ∧ cs.length = rowsN (leafTys t) ms
  | .rptr _, L, cs => L = [] ∧ cs = []
  | .ref _ t ms, L, cs => ∃ g rest, L = [.blk g] ∧ cs = .blk g :: rest ∧ rest.length = rowsN (leafTys t) ms
  | .fn _ ks, L, cs => CSlots ks L cs
  | .mv _ _, L, cs => L = [] ∧ ∃ v, cs = [.row v]
def PSlots : List PK → List GI → List Conc → Prop
  | [], L, cs => L = [] ∧ cs = []
  | p :: ps, L, cs => ∃ L1 L2 c1 c2, L = L1 ++ L2 ∧ cs = c1 ++ c2 ∧ PSlot p L1 c1 ∧ PSlots ps L2 c2
theorem pls_rowsN {t : Ty} {x : t.T} {ms : List PL} {vs : List Value} {cs : List Conc} (h : PLs w F B ms (leaves t x) vs cs) : cs.length = rowsN (leafTys t) ms := by
  unfold rowsN
  rw [leafTys_map t x]
  exact (pls_rows h).1
theorem box_cs (hFB : ∀ b, F b → B b) {tid : TypeId} {t : Ty} {ms : List PL} {xs : List CL} {v : Value} {L : List GI} {N : List Value} {d : DV} (h : BoxOk w F B tid xs v L N) (hd : dv t (decCLs ms xs) = some d) :
    ∃ (x : t.T) (g : Nat) (cs : List Conc), L = [.blk g] ∧ cs.length = rowsN (leafTys t) ms ∧ d = .mk t x ∧ v = .pointer (some ⟨g, 0, none⟩) ∧ ((Conc.blk g :: cs).filterMap cb).Perm (GI.blocks L ++ mBlocks N) ∧
      ∀ (X : Nat → Prop) (ρ : Rho) (nb : Nat), (∀ b, F b → Fix X ρ w b) → (∀ b, B b → Brw ρ w b) → RowsAt ρ nb (.blk g :: cs) → EntsOk X ρ w (boxIn tid ms (leaves t x) nb) (.blk g :: cs) := by
  obtain ⟨g, cells, fr, rfl, rfl, hh, hu, hm⟩ := h
  unfold dv at hd
  split at hd
  · rename_i ys hys
    split at hd
    · rename_i x hx
      cases hd
      obtain ⟨cs, c1, c2⟩ := mls_pls hFB hys (unlA_canon hx) hm
      refine ⟨x, g, cs, rfl, pls_rowsN c1, rfl, rfl, ?_, fun X ρ nb hF hB hr => ?_⟩
      · rw [List.filterMap_cons_some (show cb (.blk g) = some g from rfl), c2]
        exact List.Perm.refl _
      · obtain ⟨i1, i2⟩ := leavesIn_ok (X := X) hF hB (nb := nb + 1) c1 (fun j u hj => by
          have := hr (j + 1) u hj
          rwa [show nb + (j + 1) = nb + 1 + j by omega] at this)
        exact ⟨⟨g, cells, fr, rfl, hh, hu, i1⟩, i2⟩
    · cases hd
  · cases hd
theorem dleaves_rep {F : Nat → Prop} : ∀ {t : Ty} {x : t.T} {cs : List Value}, DLeaves w F (fun _ => False) (leaves t x) cs → Rep w F t x cs
  | .int k, x, [v], h => by rw [show v = _ from h.1]; rfl
  | .bool, x, [v], h => by rw [show v = _ from h.1]; rfl
  | .str, x, [v], h => by rw [show v = _ from h.1]; rfl
  | .sl r, x, [v], h => h.1
  | .unit, x, [], h => rfl
  | .pair p q, x, cs, h => by
    obtain ⟨c1, c2, rfl, h1, h2⟩ := DLeaves.split2 (xs := leaves p x.1) (ys := leaves q x.2) h
    exact ⟨c1, c2, rfl, dleaves_rep h1, dleaves_rep h2⟩
  | .int _, _, [], h => h.elim
  | .bool, _, [], h => h.elim
  | .str, _, [], h => h.elim
  | .sl _, _, [], h => h.elim
  | .int _, _, _ :: _ :: _, h => h.2.elim
  | .bool, _, _ :: _ :: _, h => h.2.elim
  | .str, _, _ :: _ :: _, h => h.2.elim
  | .sl _, _, _ :: _ :: _, h => h.2.elim
  | .unit, _, _ :: _, h => h.elim
theorem pls_dleaves (hFB : ∀ b, F b → B b) : ∀ {ms : List PL} {xs : List Leaf} {vs : List Value}, PLs w F B ms xs vs [] → DLeaves w B (fun _ => False) xs vs
  | [], [], [], _ => trivial
  | .v :: ms, x :: xs, v :: vs, h => ⟨h.1.mono hFB fun b hb => hb, pls_dleaves hFB (ms := ms) h.2⟩
  | .ro :: ms, x :: xs, v :: vs, h => ⟨h.1, pls_dleaves hFB (ms := ms) h.2⟩
  | .own _ :: _, x :: _, _ :: _, h => by cases x <;> exact h.elim
  | .own _ :: _, x :: _, [], h => by cases x <;> exact h.elim
theorem ro_cs (hFB : ∀ b, F b → B b) {t : Ty} {ms : List PL} {xs : List CL} {v : Value} {L : List GI} {N : List Value} {d : DV} (h : RpOk w F B xs v L N) (hd : dv t (decCLs ms xs) = some d) :
    ∃ x : t.T, L = [] ∧ N = [] ∧ d = .mk t x ∧ ∀ (X : Nat → Prop) (ρ : Rho), (∀ b, B b → Brw ρ w b) → LeafOk X ρ w (.rp t x) v := by
  obtain ⟨rfl, rfl, g, o, cells, rfl, hg, hc, hx⟩ := h
  unfold dv at hd
  split at hd
  · rename_i ys hys
    split at hd
    · rename_i x hx2
      cases hd
      obtain ⟨cs, c1, c2, c3⟩ := vls_pls hFB hys (unlA_canon hx2) hx
      match cs, c3 with
      | [], _ =>
        refine ⟨x, rfl, rfl, rfl, fun X ρ hB => ⟨g, o, cells, rfl, hB g hg, hc, Rep.move (fun b hb => ⟨rfl, hB b hb⟩) (dleaves_rep (pls_dleaves hFB c1))⟩⟩
    · cases hd
  · cases hd
theorem capsIn_ro {tid : TypeId} {t : Ty} {ms : List PL} {ks : List (TypeId × Ty × List PL)} {x : t.T} {ds : List DV} {nb : Nat} (h : tid = roT) : capsIn ((tid, t, ms) :: ks) (.mk t x :: ds) nb = (.rp t x :: (capsIn ks ds nb).1, (capsIn ks ds nb).2) := by
  subst h; rfl
theorem capsIn_box {tid : TypeId} {t : Ty} {ms : List PL} {ks : List (TypeId × Ty × List PL)} {x : t.T} {ds : List DV} {nb : Nat} (h : tid ≠ roT) :
    capsIn ((tid, t, ms) :: ks) (.mk t x :: ds) nb = (.ptr nb 0 :: (capsIn ks ds (nb + (boxIn tid ms (leaves t x) nb).length)).1, boxIn tid ms (leaves t x) nb ++ (capsIn ks ds (nb + (boxIn tid ms (leaves t x) nb).length)).2) := by
  have e : Nat.beq tid roT = false := by
    cases hb : Nat.beq tid roT with
    | false => rfl
    | true => exact absurd (Nat.eq_of_beq_eq_true hb) h
  have h1 : capsIn ((tid, t, ms) :: ks) (.mk t x :: ds) nb = bif Nat.beq tid roT then (.rp t x :: (capsIn ks ds nb).1, (capsIn ks ds nb).2) else
    (.ptr nb 0 :: (capsIn ks ds (nb + (boxIn tid ms (leaves t x) nb).length)).1, boxIn tid ms (leaves t x) nb ++ (capsIn ks ds (nb + (boxIn tid ms (leaves t x) nb).length)).2) := rfl
  rw [h1, e]
  rfl
theorem caps_cs (hFB : ∀ b, F b → B b) : ∀ {ks : List (TypeId × Ty × List PL)} {asx : List (TypeId × List CL)} {vs : List Value} {L : List GI} {N : List Value} {ds : List DV}, CapsOk w F B asx vs L N → decCaps ks asx = some ds →
    ∃ cs : List Conc, CSlots ks L cs ∧ (cs.filterMap cb).Perm (GI.blocks L ++ mBlocks N) ∧ ds.length = ks.length ∧ ∀ (X : Nat → Prop) (ρ : Rho) (nb : Nat) (es : List DV), (∀ b, F b → Fix X ρ w b) → (∀ b, B b → Brw ρ w b) → RowsAt ρ nb cs →
      LeavesOk X ρ w (capsIn ks (ds ++ es) nb).1 vs ∧ EntsOk X ρ w (capsIn ks (ds ++ es) nb).2 cs
  | [], [], [], L, N, ds, h, hd => by
    obtain ⟨rfl, rfl⟩ := h
    cases hd
    exact ⟨[], ⟨rfl, rfl⟩, List.Perm.refl _, rfl, fun X ρ nb es _ _ _ => ⟨trivial, trivial⟩⟩
  | (tid, t, ms) :: ks, (tid', xs) :: asx, v :: vs, L, N, ds, h, hd => by
    obtain ⟨L1, L2, N1, N2, rfl, rfl, h1, h2⟩ := h
    unfold decCaps at hd
    cases ht : Nat.beq tid tid' with
    | false => rw [ht] at hd; cases hd
    | true =>
      rw [ht] at hd
      obtain rfl := Nat.eq_of_beq_eq_true ht
      replace hd : (match dv t (decCLs ms xs), decCaps ks asx with
        | some x, some ds => some (x :: ds)
        | _, _ => none) = some ds := hd
      split at hd
      · rename_i d ds' hd1 hd2
        cases hd
        obtain ⟨cs2, z2, p2, l2, q2⟩ := caps_cs hFB h2 hd2
        unfold CapOk at h1
        split at h1
        · rename_i hro
          obtain ⟨x, rfl, rfl, rfl, q1⟩ := ro_cs hFB h1 hd1
          refine ⟨cs2, ?_, p2, congrArg (· + 1) l2, fun X ρ nb es hF hB hr => ?_⟩
          · show (if tid = roT then CSlots ks L2 cs2 else _)
            rw [if_pos hro]
            exact z2
          · rw [List.cons_append, capsIn_ro hro]
            obtain ⟨i1, i2⟩ := q2 X ρ nb es hF hB hr
            exact ⟨⟨q1 X ρ hB, i1⟩, i2⟩
        · rename_i hro
          obtain ⟨x, g, cs1, rfl, n1, rfl, rfl, p1, q1⟩ := box_cs hFB h1 hd1
          refine ⟨(.blk g :: cs1) ++ cs2, ?_, ?_, congrArg (· + 1) l2, fun X ρ nb es hF hB hr => ?_⟩
          · show (if tid = roT then CSlots ks ([.blk g] ++ L2) ((.blk g :: cs1) ++ cs2) else _)
            rw [if_neg hro]
            exact ⟨g, cs1, L2, cs2, rfl, rfl, n1, z2⟩
          · rw [List.filterMap_append, blocks_app, mBlocks_app]
            exact perm4 p1 p2
          · have b1 := q1 X ρ nb hF hB hr.left
            have hr2 := hr.right
            rw [← b1.len] at hr2
            obtain ⟨i1, i2⟩ := q2 X ρ _ es hF hB hr2
            rw [List.cons_append, capsIn_box hro]
            have h0 : ρ nb = some (.blk g) := hr 0 _ rfl
            exact ⟨⟨⟨⟨_, rfl⟩, by rw [h0]⟩, i1⟩, b1.append i2⟩
      · cases hd
  | [], _ :: _, _, _, _, _, _, hd => by cases hd
  | _ :: _, [], _, _, _, _, _, hd => by cases hd
  | [], [], _ :: _, _, _, _, h, _ => h.elim
  | _ :: _, _ :: _, [], _, _, _, h, _ => h.elim
theorem dleaves_canon {F B : Nat → Prop} : ∀ {xs ys : List Leaf} {vs us : List Value}, Canons xs ys → DLeaves w F B xs vs → DLeaves w F B ys vs
  | [], _, [], _, c, _ => by cases c; trivial
  | x :: xs, _, v :: vs, us, c, h => by
    cases c with
    | cons c1 c2 => exact ⟨canon_leaf c1 h.1, dleaves_canon (us := us) c2 h.2⟩
  | [], _, _ :: _, _, _, h => h.elim
  | _ :: _, _, [], _, _, h => h.elim
theorem dleaves_unB (hFB : ∀ b, F b → B b) : ∀ {xs : List Leaf} {vs : List Value}, DLeaves w F B xs vs → DLeaves w B (fun _ => False) (xs.map unB) vs
  | [], [], _ => trivial
  | x :: xs, v :: vs, h => by
    refine ⟨?_, dleaves_unB hFB h.2⟩
    have h1 := h.1
    cases x with
    | bor t l => exact h1
    | list t l => exact Rep.move (fun b hb => ⟨rfl, hFB b hb⟩) h1
    | _ => exact h1
  | [], _ :: _, h => h.elim
  | _ :: _, [], h => h.elim
theorem DLeaves.split {F B : Nat → Prop} : ∀ {xs ys : List Leaf} {vs : List Value}, DLeaves w F B (xs ++ ys) vs → ∃ v1 v2, vs = v1 ++ v2 ∧ DLeaves w F B xs v1
  | [], _, vs, _ => ⟨[], vs, rfl, trivial⟩
  | _ :: _, _, v :: vs, h => by
    obtain ⟨v1, v2, rfl, h1⟩ := DLeaves.split h.2
    exact ⟨v :: v1, v2, rfl, h.1, h1⟩
  | _ :: _, _, [], h => h.elim
theorem leaves_b (hB : ∀ b, B b → Brw ρ w b) : ∀ {xs : List Leaf} {vs : List Value}, DLeaves w B (fun _ => False) xs vs → LeavesOk X ρ w (xs.map borL) vs
  | [], [], _ => trivial
  | _ :: _, _ :: _, h => ⟨leaf_of_b hB h.1, leaves_b hB h.2⟩
  | [], _ :: _, h => h.elim
  | _ :: _, [], h => h.elim
theorem CellsAt.left {g o : Nat} {c1 c2 : List Value} (h : CellsAt w g o (c1 ++ c2)) : CellsAt w g o c1 := fun i v hv => h i v (by rw [List.getElem?_append_left (List.getElem?_eq_some_iff.1 hv).1]; exact hv)
theorem arg_cs (hFB : ∀ b, F b → B b) {p : PK} {c : CArg} {v : Value} {L : List GI} {N : List Value} {d : List DV} (h : CArgOk w F B c v L N) (hd : decArg p c = some d) :
    ∃ cs : List Conc, PSlot p L cs ∧ (cs.filterMap cb).Perm (GI.blocks L ++ mBlocks N) ∧ ∀ (ps : List PK) (ds : List DV) (X : Nat → Prop) (ρ : Rho) (nb : Nat), (∀ b, F b → Fix X ρ w b) → (∀ b, B b → Brw ρ w b) → RowsAt ρ nb cs →
      ∃ av es, entry (p :: ps) (d ++ ds) nb = (av :: (entry ps ds (nb + cs.length)).1, es ++ (entry ps ds (nb + cs.length)).2) ∧ AvOk X ρ w av v ∧ EntsOk X ρ w es cs := by
  unfold decArg at hd
  split at hd
  · rename_i ag t ms ag' xs
    cases hag : (ag == ag') with
    | false => rw [hag] at hd; cases hd
    | true =>
      rw [hag] at hd
      have hag : ag = ag' := by simpa using hag
      subst hag
      replace hd : (match dv t (decCLs ms xs) with
        | some x => some [x]
        | none => none) = some d := hd
      split at hd
      · rename_i d' hdv
        cases hd
        unfold dv at hdv
        split at hdv
        · rename_i ys hys
          split at hdv
          · rename_i x hx
            cases hdv
            obtain ⟨vs, hv, rfl, hvl⟩ : ∃ vs, (if ag then ∃ cs : Array Value, v = .agg cs ∧ vs = cs.toList else vs = [v]) ∧ N = [] ∧ VLs w F B xs vs L := by
              cases ag with
              | true =>
                obtain ⟨h1, cs, h2, h3⟩ := h
                exact ⟨_, by simp only [if_true]; exact ⟨cs, h2, rfl⟩, h1, h3⟩
              | false => exact ⟨_, rfl, h.1, h.2⟩
            obtain ⟨cs, c1, c2, c3⟩ := vls_pls hFB hys (unlA_canon hx) hvl
            refine ⟨cs, ⟨c3, pls_rowsN c1⟩, ?_, fun ps ds X ρ nb hF hB hr => ?_⟩
            · rw [c2]
              show List.Perm (GI.blocks L) (GI.blocks L ++ [])
              rw [List.append_nil]
            · obtain ⟨i1, i2⟩ := leavesIn_ok (X := X) hF hB (nb := nb) c1 hr
              refine ⟨mk1 ag (leavesIn ms (leaves t x) nb).1, (leavesIn ms (leaves t x) nb).2, ?_, mk1_ok ?_, i2⟩
              · show (mk1 ag (leavesIn ms (leaves t x) nb).1 :: (entry ps ds (nb + (leavesIn ms (leaves t x) nb).2.length)).1, (leavesIn ms (leaves t x) nb).2 ++ (entry ps ds (nb + (leavesIn ms (leaves t x) nb).2.length)).2) = _
                rw [i2.len]
              · unfold CompOk
                cases ag with
                | true =>
                  obtain ⟨ar, rfl, rfl⟩ := hv
                  exact ⟨ar, rfl, i1⟩
                | false =>
                  obtain rfl : vs = [v] := hv
                  exact i1
          · cases hdv
        · cases hdv
      · cases hd
  · rename_i t xs
    obtain ⟨rfl, rfl, g, o, cells, rfl, hg, hc, hx⟩ := h
    split at hd
    · rename_i d' hu
      cases hd
      unfold unlF at hu
      split at hu
      · rename_i x ys hx2
        cases hu
        obtain ⟨zs, e, c⟩ := unl_canon hx2
        have hx3 := dleaves_unB hFB hx
        rw [e] at hx3
        obtain ⟨v1, v2, rfl, hx4⟩ := hx3.split
        refine ⟨[], ⟨rfl, rfl⟩, List.Perm.refl _, fun ps ds X ρ nb hF hB hr => ⟨.eptr ((leaves t x).map borL), [], rfl, ⟨g, o, v1, rfl, hB g hg, hc.left, leaves_b hB (dleaves_canon (us := []) c hx4)⟩, trivial⟩⟩
      · cases hu
    · cases hd
  · rename_i tid t ms tid' xs
    cases ht : Nat.beq tid tid' with
    | false => rw [ht] at hd; cases hd
    | true =>
      rw [ht] at hd
      obtain rfl := Nat.eq_of_beq_eq_true ht
      replace hd : (match dv t (decCLs ms xs) with
        | some x => some [x]
        | none => none) = some d := hd
      split at hd
      · rename_i d' hdv
        cases hd
        obtain ⟨x, g, cs, rfl, n1, rfl, rfl, p1, q1⟩ := box_cs hFB h hdv
        refine ⟨.blk g :: cs, ⟨g, cs, rfl, rfl, n1⟩, p1, fun ps ds X ρ nb hF hB hr => ?_⟩
        have b1 := q1 X ρ nb hF hB hr
        refine ⟨.one (.ptr nb 0), boxIn tid ms (leaves t x) nb, ?_, ⟨⟨_, rfl⟩, by rw [show ρ nb = some (.blk g) from hr 0 _ rfl]⟩, b1⟩
        show (AV.one (.ptr nb 0) :: (entry ps ds (nb + (boxIn tid ms (leaves t x) nb).length)).1, boxIn tid ms (leaves t x) nb ++ (entry ps ds (nb + (boxIn tid ms (leaves t x) nb).length)).2) = _
        rw [b1.len]
      · cases hd
  · rename_i f ks f' asx
    cases ht : Nat.beq f f' with
    | false => rw [ht] at hd; cases hd
    | true =>
      rw [ht] at hd
      obtain rfl := Nat.eq_of_beq_eq_true ht
      replace hd : decCaps ks asx = some d := hd
      obtain ⟨ar, rfl, hc⟩ := h
      obtain ⟨cs, z1, p1, l1, q1⟩ := caps_cs hFB hc hd
      refine ⟨cs, z1, p1, fun ps ds X ρ nb hF hB hr => ?_⟩
      obtain ⟨i1, i2⟩ := q1 X ρ nb ds hF hB hr
      refine ⟨.fn f (capsIn ks (d ++ ds) nb).1, (capsIn ks (d ++ ds) nb).2, ?_, ⟨ar, rfl, i1⟩, i2⟩
      show (AV.fn f (capsIn ks (d ++ ds) nb).1 :: (entry ps ((d ++ ds).drop ks.length) (nb + (capsIn ks (d ++ ds) nb).2.length)).1, (capsIn ks (d ++ ds) nb).2 ++ (entry ps ((d ++ ds).drop ks.length) (nb + (capsIn ks (d ++ ds) nb).2.length)).2) = _
      rw [i2.len, ← l1, List.drop_left]
  · rename_i e rt e' rt' l
    cases ht : Nat.beq e e' with
    | false => rw [ht] at hd; cases hd
    | true =>
      rw [ht] at hd
      obtain rfl := Nat.eq_of_beq_eq_true ht
      replace hd : (match dv (.sl rt) (some [.list rt' l]) with
        | some x => some [x]
        | none => none) = some d := hd
      split at hd
      · rename_i d' hdv
        cases hd
        obtain ⟨rfl, rfl, hrow⟩ := h
        have hds : ∃ hh : rt' = rt, d' = .mk (.sl rt) (hh ▸ l : List rt.T) := by
          unfold dv at hdv
          split at hdv
          · rename_i zs hzs
            cases hzs
            split at hdv
            · rename_i x hx
              cases hdv
              unfold unlA at hx
              split at hx
              · rename_i y hy
                cases hx
                replace hy : (match Ty.same rt' rt with
                  | some h => some ((h.down ▸ l : List rt.T), ([] : List Leaf))
                  | none => none) = some (x, []) := hy
                split at hy
                · rename_i hs _
                  cases hy
                  exact ⟨hs.down, rfl⟩
                · cases hy
              · cases hx
            · cases hdv
          · cases hdv
        obtain ⟨rfl, rfl⟩ := hds
        refine ⟨[.row v], ⟨rfl, v, rfl⟩, ?_, fun ps ds X ρ nb hF hB hr => ?_⟩
        · show List.Perm ([Conc.row v].filterMap cb) (GI.blocks [] ++ mBlocks [v])
          exact List.Perm.refl _
        · have h0 : ρ nb = some (.row v) := hr 0 _ rfl
          have hrow' := hrow.mono (F' := Fix X ρ w) hF
          exact ⟨.one (.own nb), [.arr false e rt' l], rfl, ⟨hrow.form, by rw [h0]⟩, ⟨⟨v, rfl, hrow'⟩, trivial⟩⟩
      · cases hd
  · cases hd
theorem args_cs (hFB : ∀ b, F b → B b) : ∀ {ps : List PK} {asx : List CArg} {vs : List Value} {L : List GI} {N : List Value} {ds : List DV}, CArgsOk w F B asx vs L N → decArgs ps asx = some ds →
    ∃ cs : List Conc, PSlots ps L cs ∧ (cs.filterMap cb).Perm (GI.blocks L ++ mBlocks N) ∧ ∀ (X : Nat → Prop) (ρ : Rho) (nb : Nat), (∀ b, F b → Fix X ρ w b) → (∀ b, B b → Brw ρ w b) → RowsAt ρ nb cs →
      AvsOk X ρ w (entry ps ds nb).1 vs ∧ EntsOk X ρ w (entry ps ds nb).2 cs
  | [], [], [], L, N, ds, h, hd => by
    obtain ⟨rfl, rfl⟩ := h
    cases hd
    exact ⟨[], ⟨rfl, rfl⟩, List.Perm.refl _, fun X ρ nb _ _ _ => ⟨trivial, trivial⟩⟩
  | p :: ps, a :: asx, v :: vs, L, N, ds, h, hd => by
    obtain ⟨L1, L2, N1, N2, rfl, rfl, h1, h2⟩ := h
    unfold decArgs at hd
    split at hd
    · rename_i d ds' hd1 hd2
      cases hd
      obtain ⟨cs1, z1, p1, q1⟩ := arg_cs hFB h1 hd1
      obtain ⟨cs2, z2, p2, q2⟩ := args_cs hFB h2 hd2
      refine ⟨cs1 ++ cs2, ⟨L1, L2, cs1, cs2, rfl, rfl, z1, z2⟩, ?_, fun X ρ nb hF hB hr => ?_⟩
      · rw [List.filterMap_append, blocks_app, mBlocks_app]
        exact perm4 p1 p2
      · obtain ⟨av, es, e, i1, i2⟩ := q1 ps ds' X ρ nb hF hB hr.left
        obtain ⟨j1, j2⟩ := q2 X ρ _ hF hB hr.right
        rw [e]
        exact ⟨⟨i1, j1⟩, i2.append j2⟩
    · cases hd
  | [], _ :: _, _, _, _, _, _, hd => by cases hd
  | _ :: _, [], _, _, _, _, _, hd => by cases hd
  | [], [], _ :: _, _, _, _, h, _ => h.elim
  | _ :: _, _ :: _, [], _, _, _, h, _ => h.elim
end
end Go.Proofs.YtcnkbllbpimaiaaGreatDoorE

namespace Go.Proofs.YtcnkbllbpimaiaaGreatDoorE
open Go Go.RowKit
set_option linter.unusedVariables false
section
variable {P : Program} {X : Nat → Prop} {ρ ρ' : Rho} {st st' : St} {a : Act} {w w' : World} {R : Type} {r : R} {C : Ctx} {F B : Nat → Prop}
/-- What slots stood for, later. -/
def Later (ρ : Rho) (n : Nat) (cs : List Conc) : Prop := ∀ (j : Nat) (c : Conc), cs[j]? = some c → ρ (n + j) = some c ∨ ρ (n + j) = some .dead ∨ ∃ v, c = .row v ∧ ρ (n + j) = some (.frz v)
theorem Later.left {n : Nat} {O1 O2 : List Conc} (h : Later ρ n (O1 ++ O2)) : Later ρ n O1 := fun j u hj => h j u (by rw [List.getElem?_append_left (List.getElem?_eq_some_iff.1 hj).1]; exact hj)
theorem Later.right {n : Nat} {O1 O2 : List Conc} (h : Later ρ n (O1 ++ O2)) : Later ρ (n + O1.length) O2 := fun j u hj => by
  have := h (O1.length + j) u (by rw [List.getElem?_append_right (by omega)]; simpa using hj)
  rwa [← Nat.add_assoc] at this
theorem Later.tail {n : Nat} {c : Conc} {cs : List Conc} (h : Later ρ n (c :: cs)) : Later ρ (n + 1) cs := Later.right (O1 := [c]) h
theorem RRefs.append : ∀ {L1 L2 : List GI} {r1 r2 : List RF} {O1 O2 : List Conc}, RRefs w F L1 r1 O1 → RRefs w F L2 r2 O2 → RRefs w F (L1 ++ L2) (r1 ++ r2) (O1 ++ O2)
  | [], _, [], _, O1, O2, h, k => by
    obtain rfl : O1 = [] := h
    exact k
  | .blk g :: L, _, .box t xs :: rs, _, O1, O2, h, k => by
    obtain ⟨A, B, cs, fr, rfl, h1, h2, h3, h4⟩ := h
    exact ⟨A, B ++ O2, cs, fr, List.append_assoc _ _ _, h1, h2, h3, RRefs.append h4 k⟩
  | .row v :: L, _, .row e t l :: rs, _, _, _, h, k => ⟨h.1, RRefs.append h.2 k⟩
  | .no :: L, _, .row e t l :: rs, _, _, _, h, k => RRefs.append (L1 := L) (r1 := rs) h k
  | [], _, _ :: _, _, _, _, h, _ => h.elim
  | .blk _ :: _, _, [], _, _, _, h, _ => h.elim
  | .row _ :: _, _, [], _, _, _, h, _ => h.elim
  | .no :: _, _, [], _, _, _, h, _ => h.elim
  | .blk _ :: _, _, .row _ _ _ :: _, _, _, _, h, _ => h.elim
  | .row _ :: _, _, .box _ _ :: _, _, _, _, h, _ => h.elim
  | .no :: _, _, .box _ _ :: _, _, _, _, h, _ => h.elim
/-- What was lent, as the contract tells it; S: the lent slots of rows; T: those of variables. -/
structure ToldB (X : Nat → Prop) (ρ : Rho) (w : World) (d : DR) (L : List GI) (rs : List RF) (O : List Conc) (S T : List Nat) : Prop where
  sub : (O.filterMap cb).Sublist (d.owns.filterMap fun n => cbO (ρ n))
  told : ∀ F : Nat → Prop, (∀ b, FixOr X ρ w d.pures b → F b) → RRefs w F L rs O
  rows : ∀ n ∈ d.owns ++ d.pures, ∃ u, ρ n = some (.row u)
  lent : ∀ n ∈ S, ∃ u, ρ n = some (.row u)
  boxes : ∀ n ∈ T, ∃ g, ρ n = some (.blk g)
  own : ∀ b ∈ GI.blocks L, ∃ n ∈ S ++ T, owns (ρ n) b
theorem ToldB.nil : ToldB X ρ w DR.nil [] [] [] [] [] := ⟨List.Sublist.refl _, fun F _ => rfl, (fun n hn => nomatch hn), (fun n hn => nomatch hn), (fun n hn => nomatch hn), fun n hn => nomatch hn⟩
theorem ToldB.app {d1 d2 : DR} {L1 L2 : List GI} {r1 r2 : List RF} {O1 O2 : List Conc} {S1 S2 T1 T2 : List Nat} (h : ToldB X ρ w d1 L1 r1 O1 S1 T1) (k : ToldB X ρ w d2 L2 r2 O2 S2 T2) :
    ToldB X ρ w (d1.app d2) (L1 ++ L2) (r1 ++ r2) (O1 ++ O2) (S1 ++ S2) (T1 ++ T2) := by
  refine ⟨?_, ?_, rows_app h.rows k.rows, ?_, ?_, ?_⟩
  · rw [List.filterMap_append]
    show List.Sublist _ ((d1.owns ++ d2.owns).filterMap _)
    rw [List.filterMap_append]
    exact h.sub.append k.sub
  · exact fun F hF => (h.told F fun b hb => hF b (hb.mono fun n hn => List.mem_append_left _ hn)).append (k.told F fun b hb => hF b (hb.mono fun n hn => List.mem_append_right _ hn))
  · exact fun n hn => (List.mem_append.1 hn).elim (h.lent n) (k.lent n)
  · exact fun n hn => (List.mem_append.1 hn).elim (h.boxes n) (k.boxes n)
  · intro b hb
    rw [blocks_app] at hb
    rcases List.mem_append.1 hb with hb | hb
    · obtain ⟨n, h1, h2⟩ := h.own b hb
      refine ⟨n, ?_, h2⟩
      rcases List.mem_append.1 h1 with h1 | h1
      · exact List.mem_append_left _ (List.mem_append_left _ h1)
      · exact List.mem_append_right _ (List.mem_append_left _ h1)
    · obtain ⟨n, h1, h2⟩ := k.own b hb
      refine ⟨n, ?_, h2⟩
      rcases List.mem_append.1 h1 with h1 | h1
      · exact List.mem_append_left _ (List.mem_append_right _ h1)
      · exact List.mem_append_right _ (List.mem_append_right _ h1)
theorem range_cons (n k : Nat) : (List.range (k + 1)).map (n + ·) = n :: (List.range k).map (n + 1 + ·) := by
  rw [List.range_succ_eq_map, List.map_cons, List.map_map]
  refine congrArg (n :: ·) (List.map_congr_left fun i _ => ?_)
  show n + (i + 1) = n + 1 + i
  omega
theorem backRows_ok (h : Rel X ρ st a w) : ∀ {ks : List (TypeId × Ty)} {n : Nat} {ds : List DV} {L : List GI} {cs : List Conc} (es : List DV), backRows st ks n = some ds → LRows L cs → cs.length = ks.length → Later ρ n cs →
    ToldB X ρ w DR.nil L (encRows ks (ds ++ es)).1 [] ((List.range ks.length).map (n + ·)) [] ∧ (encRows ks (ds ++ es)).2 = es
  | [], n, ds, L, cs, es, hs, hl, hn, hc => by
    cases hs
    match L, cs, hl, hn with
    | [], [], _, _ => exact ⟨ToldB.nil, rfl⟩
    | .row _ :: _, [], h, _ => exact h.elim
    | .no :: _, [], h, _ => exact h.elim
  | (e, t) :: ks, n, ds, L, cs, es, hs, hl, hn, hc => by
    unfold backRows at hs
    split at hs
    · rename_i d ds' hd hds
      cases hs
      match cs, hn with
      | c :: cs, hn =>
      have hn' : cs.length = ks.length := Nat.succ.inj hn
      replace hd : (match st.ent n with
        | .arr false e' _ l => match castL (r := t) l with
          | some l => bif Nat.beq e e' then some (⟨[.mk (.sl t) l], [n], []⟩ : DR) else none
          | none => none
        | _ => none) = some d := hd
      split at hd
      · rename_i e' t' l he
        have h0 := h.ents n
        rw [he] at h0
        obtain ⟨v, hv, h0⟩ := h0
        split at hd
        · rename_i l2 hl2
          cases hee : Nat.beq e e' with
          | false => rw [hee] at hd; cases hd
          | true =>
            rw [hee] at hd
            cases hd
            obtain rfl := Nat.eq_of_beq_eq_true hee
            obtain ⟨ee, rfl⟩ := castL_some hl2
            subst ee
            have hc0 : c = .row v := by
              have := hc 0 c rfl
              rw [Nat.add_zero, hv] at this
              rcases this with q | q | ⟨u, _, q⟩
              · cases q; rfl
              · cases q
              · cases q
            subst hc0
            have e1 : encRows ((e, t') :: ks) ([DV.mk (.sl t') l] ++ ds' ++ es) = (.row e t' l :: (encRows ks (ds' ++ es)).1, (encRows ks (ds' ++ es)).2) := rfl
            rw [show (DR.ds ⟨[DV.mk (.sl t') l], [n], []⟩ : List DV) = [DV.mk (.sl t') l] from rfl, e1, show ((e, t') :: ks).length = ks.length + 1 from rfl, range_cons]
            match L, hl with
            | .row v' :: L, hl =>
              obtain ⟨rfl, hl⟩ := hl
              obtain ⟨i1, i2⟩ := backRows_ok h (n := n + 1) es hds hl hn' hc.tail
              refine ⟨⟨i1.sub, fun F hF => ⟨h0.mono fun b hb => hF b (.inl hb), i1.told F hF⟩, i1.rows, fun m hm => ?_, i1.boxes, fun b hb => ?_⟩, i2⟩
              · rcases List.mem_cons.1 hm with rfl | hm
                · exact ⟨v, hv⟩
                · exact i1.lent m hm
              · rcases List.mem_append.1 (show b ∈ (ownB v).toList ++ GI.blocks L from hb) with hb | hb
                · refine ⟨n, List.mem_append_left _ List.mem_cons_self, ?_⟩
                  rw [hv]
                  exact Option.mem_toList.1 hb
                · obtain ⟨m, m1, m2⟩ := i1.own b hb
                  exact ⟨m, List.mem_cons_of_mem _ m1, m2⟩
            | .no :: L, hl =>
              obtain ⟨_, hl⟩ := hl
              obtain ⟨i1, i2⟩ := backRows_ok h (n := n + 1) es hds hl hn' hc.tail
              refine ⟨⟨i1.sub, fun F hF => i1.told F hF, i1.rows, fun m hm => ?_, i1.boxes, fun b hb => ?_⟩, i2⟩
              · rcases List.mem_cons.1 hm with rfl | hm
                · exact ⟨v, hv⟩
                · exact i1.lent m hm
              · obtain ⟨m, m1, m2⟩ := i1.own b hb
                exact ⟨m, List.mem_cons_of_mem _ m1, m2⟩
        · cases hd
      · cases hd
    · cases hs
theorem backBox_ok (h : Rel X ρ st a w) {tid : TypeId} {ks : List RK} {n : Nat} {d : DR} {g : Nat} (es : List DV) (hs : backBox st tid ks n = some d) (hc : Later ρ n [.blk g]) :
    ∃ O, ToldB X ρ w d [.blk g] [.box tid (encRK ks (d.ds ++ es)).1] O [] [n] ∧ (encRK ks (d.ds ++ es)).2 = es := by
  unfold backBox at hs
  split at hs
  · rename_i t xs he
    cases ht : Nat.beq t tid with
    | false => rw [ht] at hs; cases hs
    | true =>
      rw [ht] at hs
      replace hs : decRK st ks xs = some d := hs
      obtain rfl := Nat.eq_of_beq_eq_true ht
      have h0 := h.ents n
      rw [he] at h0
      obtain ⟨gb, cs, fr, hρ, hh, hun, hys⟩ := h0
      have hg : gb = g := by
        have := hc 0 _ rfl
        rw [Nat.add_zero, hρ] at this
        rcases this with q | q | ⟨u, _, q⟩
        · cases q; rfl
        · cases q
        · cases q
      subst hg
      obtain ⟨O, t1, e1⟩ := decRK_ok h es hys hs
      refine ⟨O, ⟨t1.2.1, fun F hF => ⟨O, [], cs, fr, (List.append_nil _).symm, hh, hun, t1.1 F hF, rfl⟩, t1.2.2.2, (fun m hm => nomatch hm), fun m hm => ?_, fun b hb => ?_⟩, e1⟩
      · rw [List.mem_singleton.1 hm]; exact ⟨gb, hρ⟩
      · refine ⟨n, List.mem_singleton.2 rfl, ?_⟩
        rw [hρ]
        exact List.mem_singleton.1 hb
  · cases hs
theorem roT_beq {tid : TypeId} (h : tid ≠ roT) : Nat.beq tid roT = false := by
  cases hb : Nat.beq tid roT with
  | false => rfl
  | true => exact absurd (Nat.eq_of_beq_eq_true hb) h
theorem backCaps_ok (h : Rel X ρ st a w) : ∀ {ks : List (TypeId × Ty × List PL)} {n : Nat} {d : DR} {L : List GI} {cs : List Conc} (es : List DV), backCaps st ks n = some d → CSlots ks L cs → Later ρ n cs →
    ∃ O, ToldB X ρ w d L (encCaps ks (d.ds ++ es)).1 O [] (refsOf.capRefs ks n) ∧ (encCaps ks (d.ds ++ es)).2 = es
  | [], n, d, L, cs, es, hs, hl, hc => by
    cases hs
    obtain ⟨rfl, rfl⟩ := hl
    exact ⟨[], ToldB.nil, rfl⟩
  | (tid, t, ms) :: ks, n, d, L, cs, es, hs, hl, hc => by
    replace hl : (if tid = roT then CSlots ks L cs else ∃ g rest L' cs', L = .blk g :: L' ∧ cs = .blk g :: rest ++ cs' ∧ rest.length = rowsN (leafTys t) ms ∧ CSlots ks L' cs') := hl
    by_cases hro : tid = roT
    · subst hro
      rw [if_pos rfl] at hl
      exact backCaps_ok h (ks := ks) es hs hl hc
    rw [if_neg hro] at hl
    obtain ⟨g, rest, L', cs', rfl, rfl, hr, hl⟩ := hl
    unfold backCaps at hs
    rw [roT_beq hro] at hs
    simp only [cond_false] at hs
    split at hs
    · rename_i d1 d2 h1 h2
      cases hs
      have hc1 : Later ρ n [.blk g] := Later.left (O2 := rest ++ cs') hc
      have hc2 := Later.right (O1 := .blk g :: rest) (O2 := cs') hc
      rw [show (Conc.blk g :: rest).length = rest.length + 1 from rfl, hr, show n + (rowsN (leafTys t) ms + 1) = n + 1 + rowsN (leafTys t) ms by omega] at hc2
      obtain ⟨O2, t2, e2⟩ := backCaps_ok h es h2 hl hc2
      obtain ⟨O1, t1, e1⟩ := backBox_ok h (d2.ds ++ es) h1 hc1
      have e3 : encCaps ((tid, t, ms) :: ks) ((d1.app d2).ds ++ es) = (.box tid (encRK (backKs (leafTys t) ms) (d1.ds ++ (d2.ds ++ es))).1 :: (encCaps ks (d2.ds ++ es)).1, (encCaps ks (d2.ds ++ es)).2) := by
        have e0 : ∀ ds, encCaps ((tid, t, ms) :: ks) ds = bif Nat.beq tid roT then encCaps ks ds else (.box tid (encRK (backKs (leafTys t) ms) ds).1 :: (encCaps ks (encRK (backKs (leafTys t) ms) ds).2).1, (encCaps ks (encRK (backKs (leafTys t) ms) ds).2).2) := fun _ => rfl
        rw [e0, roT_beq hro]
        show (RF.box tid (encRK (backKs (leafTys t) ms) ((d1.ds ++ d2.ds) ++ es)).1 :: (encCaps ks (encRK (backKs (leafTys t) ms) ((d1.ds ++ d2.ds) ++ es)).2).1, (encCaps ks (encRK (backKs (leafTys t) ms) ((d1.ds ++ d2.ds) ++ es)).2).2) = _
        rw [List.append_assoc, e1]
      have e4 : refsOf.capRefs ((tid, t, ms) :: ks) n = n :: refsOf.capRefs ks (n + 1 + rowsN (leafTys t) ms) := by
        have e0 : refsOf.capRefs ((tid, t, ms) :: ks) n = bif Nat.beq tid roT then refsOf.capRefs ks n else n :: refsOf.capRefs ks (n + 1 + rowsN (leafTys t) ms) := rfl
        rw [e0, roT_beq hro]
        rfl
      rw [e3, e4]
      exact ⟨O1 ++ O2, t1.app t2, e2⟩
    · cases hs
theorem capsN_len : ∀ {ks : List (TypeId × Ty × List PL)} {L : List GI} {cs : List Conc}, CSlots ks L cs → cs.length = capsN ks
  | [], _, _, ⟨_, h⟩ => by rw [h]; rfl
  | (tid, t, ms) :: ks, L, cs, hl => by
    replace hl : (if tid = roT then CSlots ks L cs else ∃ g rest L' cs', L = .blk g :: L' ∧ cs = .blk g :: rest ++ cs' ∧ rest.length = rowsN (leafTys t) ms ∧ CSlots ks L' cs') := hl
    by_cases hro : tid = roT
    · subst hro
      rw [if_pos rfl] at hl
      exact capsN_len (ks := ks) hl
    rw [if_neg hro] at hl
    obtain ⟨g, rest, L', cs', _, h2, h3, h4⟩ := hl
    rw [h2, List.length_append, capsN_len h4]
    have e0 : capsN ((tid, t, ms) :: ks) = bif Nat.beq tid roT then capsN ks else 1 + rowsN (leafTys t) ms + capsN ks := rfl
    rw [e0, roT_beq hro]
    show rest.length + 1 + capsN ks = 1 + rowsN (leafTys t) ms + capsN ks
    rw [h3]
    omega
theorem backPs_ok (h : Rel X ρ st a w) : ∀ {ps : List PK} {n : Nat} {d : DR} {S : List Nat} {L : List GI} {cs : List Conc}, backPs st ps n = some (d, S) → PSlots ps L cs → Later ρ n cs →
    ∃ O, ToldB X ρ w d L (encBacks ps d.ds) O S (refsOf ps n)
  | [], n, d, S, L, cs, hs, hl, hc => by
    cases hs
    obtain ⟨rfl, rfl⟩ := hl
    exact ⟨[], ToldB.nil⟩
  | .val ag t ms :: ps, n, d, S, L, cs, hs, hl, hc => by
    obtain ⟨L1, L2, c1, c2, rfl, rfl, hl1, hl2⟩ := hl
    obtain ⟨hl1, hn1⟩ := hl1
    unfold backPs at hs
    split at hs
    · rename_i ds b h1 h2
      cases hs
      have hc2 := hc.right
      rw [hn1] at hc2
      obtain ⟨O2, t2⟩ := backPs_ok h (d := b.1) (S := b.2) h2 hl2 hc2
      obtain ⟨t1, e1⟩ := backRows_ok h b.1.ds h1 hl1 hn1 hc.left
      refine ⟨[] ++ O2, ?_⟩
      have := t1.app t2
      have e3 : encBacks (.val ag t ms :: ps) (ds ++ b.1.ds) = (encRows (rowKs (leafTys t) ms) (ds ++ b.1.ds)).1 ++ encBacks ps b.1.ds := by
        show (encRows (rowKs (leafTys t) ms) (ds ++ b.1.ds)).1 ++ encBacks ps (encRows (rowKs (leafTys t) ms) (ds ++ b.1.ds)).2 = _
        rw [e1]
      rw [← e3] at this
      exact ⟨this.sub, this.told, this.rows, this.lent, this.boxes, this.own⟩
    · cases hs
  | .rptr t :: ps, n, d, S, L, cs, hs, hl, hc => by
    obtain ⟨L1, L2, c1, c2, rfl, rfl, ⟨rfl, rfl⟩, hl2⟩ := hl
    exact backPs_ok h (ps := ps) hs hl2 hc
  | .ref tid t ms :: ps, n, d, S, L, cs, hs, hl, hc => by
    obtain ⟨L1, L2, c1, c2, rfl, rfl, ⟨g, rest, rfl, rfl, hn1⟩, hl2⟩ := hl
    unfold backPs at hs
    split at hs
    · rename_i d1 b h1 h2
      cases hs
      have hc1 : Later ρ n [.blk g] := Later.left (O2 := rest ++ c2) hc
      have hc2 := Later.right (O1 := .blk g :: rest) (O2 := c2) hc
      rw [show (Conc.blk g :: rest).length = rest.length + 1 from rfl, hn1, show n + (rowsN (leafTys t) ms + 1) = n + 1 + rowsN (leafTys t) ms by omega] at hc2
      obtain ⟨O2, t2⟩ := backPs_ok h (d := b.1) (S := b.2) h2 hl2 hc2
      obtain ⟨O1, t1, e1⟩ := backBox_ok h b.1.ds h1 hc1
      refine ⟨O1 ++ O2, ?_⟩
      have := t1.app t2
      have e3 : encBacks (.ref tid t ms :: ps) (d1.app b.1).ds = [.box tid (encRK (backKs (leafTys t) ms) (d1.ds ++ b.1.ds)).1] ++ encBacks ps b.1.ds := by
        show [RF.box tid (encRK (backKs (leafTys t) ms) (d1.ds ++ b.1.ds)).1] ++ encBacks ps (encRK (backKs (leafTys t) ms) (d1.ds ++ b.1.ds)).2 = _
        rw [e1]
      rw [← e3] at this
      exact this
    · cases hs
  | .fn f ks :: ps, n, d, S, L, cs, hs, hl, hc => by
    obtain ⟨L1, L2, c1, c2, rfl, rfl, hl1, hl2⟩ := hl
    replace hl1 : CSlots ks L1 c1 := hl1
    unfold backPs at hs
    split at hs
    · rename_i d1 b h1 h2
      cases hs
      have hc2 := hc.right
      rw [capsN_len hl1] at hc2
      obtain ⟨O2, t2⟩ := backPs_ok h (d := b.1) (S := b.2) h2 hl2 hc2
      obtain ⟨O1, t1, e1⟩ := backCaps_ok h b.1.ds h1 hl1 hc.left
      refine ⟨O1 ++ O2, ?_⟩
      have := t1.app t2
      have e3 : encBacks (.fn f ks :: ps) (d1.app b.1).ds = (encCaps ks (d1.ds ++ b.1.ds)).1 ++ encBacks ps b.1.ds := by
        show (encCaps ks (d1.ds ++ b.1.ds)).1 ++ encBacks ps (encCaps ks (d1.ds ++ b.1.ds)).2 = _
        rw [e1]
      rw [← e3] at this
      exact this
    · cases hs
  | .mv e r :: ps, n, d, S, L, cs, hs, hl, hc => by
    obtain ⟨L1, L2, c1, c2, rfl, rfl, ⟨rfl, v, rfl⟩, hl2⟩ := hl
    exact backPs_ok h (ps := ps) hs hl2 (Later.right (O1 := [.row v]) hc)
end
end Go.Proofs.YtcnkbllbpimaiaaGreatDoorE

namespace Go.Proofs.YtcnkbllbpimaiaaGreatDoorE
open Go Go.RowKit
set_option linter.unusedVariables false
section
variable {P : Program} {X : Nat → Prop} {ρ ρ' : Rho} {st st' : St} {a : Act} {w w' : World} {R : Type} {r : R} {C : Ctx} {F B : Nat → Prop}
theorem rowok_lt {z : Bool} {e : TypeId} {t : Ty} {v : Value} {l : List t.T} (h : RowOk w F z e t v l) {b : Nat} (hb : ownB v = some b) : b < w.heap.size := by
  rcases h.cases with ⟨_, ⟨rfl, _⟩ | ⟨g, cap, cs, fr, rfl, hg, _⟩⟩ | ⟨_, _, g, _, _, _, rfl, hg, _⟩
  · cases hb
  · cases hb; exact (Array.getElem?_eq_some_iff.1 hg).1
  · cases hb; exact (Array.getElem?_eq_some_iff.1 hg).1
theorem vls_lt : ∀ {xs : List CL} {vs : List Value} {L : List GI}, VLs w F B xs vs L → ∀ g ∈ GI.blocks L, g < w.heap.size
  | [], [], L, h, g, hg => by
    obtain rfl : L = [] := h
    cases hg
  | .leaf _ :: _, _ :: _, L, h, g, hg => vls_lt h.2 g hg
  | .row e t l :: xs, v :: vs, .row u :: L, ⟨h1, h2, h3⟩, g, hg => by
    rcases List.mem_append.1 (show g ∈ (ownB u).toList ++ GI.blocks L from hg) with hg | hg
    · subst h1
      exact rowok_lt h2 (Option.mem_toList.1 hg)
    · exact vls_lt h3 g hg
  | .nil :: _, _ :: _, .no :: L, h, g, hg => vls_lt h.2 g hg
  | [], _ :: _, _, h, _, _ => h.elim
  | .leaf _ :: _, [], _, h, _, _ => h.elim
theorem mls_lt : ∀ {xs : List CL} {vs : List Value} {M : List Value}, MLs w F B xs vs M → ∀ g ∈ mBlocks M, g < w.heap.size
  | [], [], M, h, g, hg => by
    obtain rfl : M = [] := h
    cases hg
  | .leaf _ :: _, _ :: _, M, h, g, hg => mls_lt h.2 g hg
  | .row e t l :: xs, v :: vs, u :: M, ⟨h1, h2, h3⟩, g, hg => by
    subst h1
    obtain ⟨q, hq, hg2⟩ := List.mem_filterMap.1 hg
    rcases List.mem_cons.1 hq with rfl | hq
    · exact rowok_lt h2 hg2
    · exact mls_lt h3 g (List.mem_filterMap.2 ⟨q, hq, hg2⟩)
  | .nil :: _, _ :: _, M, h, g, hg => mls_lt h.2 g hg
  | [], _ :: _, _, h, _, _ => h.elim
  | .leaf _ :: _, [], _, h, _, _ => h.elim
theorem boxok_lt {t : TypeId} {xs : List CL} {v : Value} {L : List GI} {M : List Value} (h : BoxOk w F B t xs v L M) : ∀ g ∈ GI.blocks L ++ mBlocks M, g < w.heap.size := by
  obtain ⟨g0, cs, fr, rfl, rfl, hh, hu, hm⟩ := h
  intro g hg
  rcases List.mem_append.1 hg with hg | hg
  · rw [List.mem_singleton.1 hg]; exact (Array.getElem?_eq_some_iff.1 hh).1
  · exact mls_lt hm g hg
theorem mem4 {A1 A2 B1 B2 : List Nat} {g : Nat} (h : g ∈ (A1 ++ A2) ++ (B1 ++ B2)) : g ∈ A1 ++ B1 ∨ g ∈ A2 ++ B2 := by
  simp only [List.mem_append] at h ⊢
  rcases h with (h | h) | (h | h)
  · exact .inl (.inl h)
  · exact .inr (.inl h)
  · exact .inl (.inr h)
  · exact .inr (.inr h)
theorem capok_lt {c : TypeId × List CL} {v : Value} {L : List GI} {M : List Value} (h : CapOk w F B c v L M) : ∀ g ∈ GI.blocks L ++ mBlocks M, g < w.heap.size := by
  unfold CapOk at h
  split at h
  · obtain ⟨rfl, rfl, _⟩ := h
    intro g hg
    cases hg
  · exact boxok_lt h
theorem caps_lt : ∀ {xs : List (TypeId × List CL)} {vs : List Value} {L : List GI} {M : List Value}, CapsOk w F B xs vs L M → ∀ g ∈ GI.blocks L ++ mBlocks M, g < w.heap.size
  | [], [], L, M, h, g, hg => by
    obtain ⟨rfl, rfl⟩ := h
    cases hg
  | _ :: _, _ :: _, _, _, ⟨L1, L2, M1, M2, rfl, rfl, h3, h4⟩, g, hg => by
    rw [blocks_app, mBlocks_app] at hg
    exact (mem4 hg).elim (capok_lt h3 g) (caps_lt h4 g)
  | [], _ :: _, _, _, h, _, _ => h.elim
  | _ :: _, [], _, _, h, _, _ => h.elim
theorem arg_lt {x : CArg} {v : Value} {L : List GI} {M : List Value} (h : CArgOk w F B x v L M) : ∀ g ∈ GI.blocks L ++ mBlocks M, g < w.heap.size := by
  match x, h with
  | .val false xs, ⟨h1, h2⟩ =>
    subst h1
    intro g hg
    rcases List.mem_append.1 hg with hg | hg
    · exact vls_lt h2 g hg
    · cases hg
  | .val true xs, ⟨h1, cs, h2, h3⟩ =>
    subst h1
    intro g hg
    rcases List.mem_append.1 hg with hg | hg
    · exact vls_lt h3 g hg
    · cases hg
  | .rptr xs, ⟨h1, h2, _⟩ =>
    subst h1
    subst h2
    intro g hg
    cases hg
  | .ref t xs, h => exact boxok_lt h
  | .fn f caps, ⟨cs, _, h⟩ => exact caps_lt h
  | .mv e r l, ⟨h1, h2, h3⟩ =>
    subst h1
    subst h2
    intro g hg
    rcases List.mem_append.1 hg with hg | hg
    · cases hg
    · obtain ⟨q, hq, hg2⟩ := List.mem_filterMap.1 hg
      rw [List.mem_singleton.1 hq] at hg2
      exact rowok_lt h3 hg2
theorem args_lt : ∀ {asx : List CArg} {vs : List Value} {L : List GI} {M : List Value}, CArgsOk w F B asx vs L M → (∀ g ∈ GI.blocks L ++ mBlocks M, g < w.heap.size) ∧ asx.length = vs.length
  | [], [], L, M, h => by
    obtain ⟨rfl, rfl⟩ := h
    exact ⟨(fun g hg => nomatch hg), rfl⟩
  | x :: asx, v :: vs, _, _, ⟨L1, L2, M1, M2, rfl, rfl, h3, h4⟩ => by
    obtain ⟨i1, i2⟩ := args_lt h4
    refine ⟨fun g hg => ?_, congrArg (· + 1) i2⟩
    rw [blocks_app, mBlocks_app] at hg
    exact (mem4 hg).elim (arg_lt h3 g) (i1 g)
  | [], _ :: _, _, _, h => h.elim
  | _ :: _, [], _, _, h => h.elim
theorem decArgs_len : ∀ {ps : List PK} {asx : List CArg} {ds : List DV}, decArgs ps asx = some ds → asx.length = ps.length
  | [], [], _, _ => rfl
  | p :: ps, c :: asx, ds, h => by
    unfold decArgs at h
    split at h
    · rename_i h1
      exact congrArg (· + 1) (decArgs_len h1)
    · cases h
  | [], _ :: _, _, h => by cases h
  | _ :: _, [], _, h => by cases h
theorem avs_get : ∀ {avs : List AV} {vs : List Value} (i : Nat), AvsOk X ρ w avs vs → AvOk X ρ w (getL .unk avs i) (vs.getD i undef)
  | [], [], i, _ => by rw [getL_nil]; trivial
  | _ :: _, _ :: _, 0, h => h.1
  | _ :: avs, _ :: vs, i + 1, h => avs_get i h.2
  | [], _ :: _, _, h => h.elim
  | _ :: _, [], _, h => h.elim
theorem ents_get : ∀ {es : List Ent} {cs : List Conc} (i : Nat), EntsOk X ρ w es cs → EntOk X ρ w (getL .free es i) (cs[i]?)
  | [], [], i, _ => by rw [getL_nil]; trivial
  | _ :: _, _ :: _, 0, h => h.1
  | _ :: es, _ :: cs, i + 1, h => by
    rw [List.getElem?_cons_succ]
    exact ents_get i h.2
  | [], _ :: _, _, h => h.elim
  | _ :: _, [], _, h => h.elim
theorem comps_ret {ps : List RC} {us : List Value} {O : List Conc} (h : RComps w F ps us O) : retOk w F ps (tupOf us) O := by
  match ps, us, h with
  | [], [], h => exact ⟨[].toArray, rfl, h⟩
  | [p], [u], h =>
    obtain ⟨O1, O2, rfl, h1, h2⟩ := h
    obtain rfl : O2 = [] := h2
    show RComp w F p u (O1 ++ [])
    rw [List.append_nil]
    exact h1
  | _ :: _ :: _, _ :: _ :: _, h => exact ⟨_, rfl, h⟩
  | [], _ :: _, h => exact h.elim
  | [_], [], h => exact h.elim
  | _ :: _ :: _, [], h => exact h.elim
  | [_], _ :: _ :: _, h =>
    obtain ⟨O1, O2, rfl, h1, h2⟩ := h
    exact h2.elim
  | _ :: _ :: _, [_], h =>
    obtain ⟨O1, O2, rfl, h1, h2⟩ := h
    exact h2.elim
theorem fm_nodup {f : Nat → Option Nat} : ∀ {ns : List Nat}, ns.Nodup → (∀ n m b, n ∈ ns → m ∈ ns → f n = some b → f m = some b → n = m) → (ns.filterMap f).Nodup
  | [], _, _ => List.nodup_nil
  | n :: ns, h, k => by
    obtain ⟨h1, h2⟩ := List.nodup_cons.1 h
    have ih := fm_nodup h2 fun p q b hp hq => k p q b (List.mem_cons_of_mem _ hp) (List.mem_cons_of_mem _ hq)
    cases hf : f n with
    | none => rw [List.filterMap_cons_none hf]; exact ih
    | some b =>
      rw [List.filterMap_cons_some hf]
      refine List.nodup_cons.2 ⟨fun hm => ?_, ih⟩
      obtain ⟨m, hm1, hm2⟩ := List.mem_filterMap.1 hm
      have := k n m b List.mem_cons_self (List.mem_cons_of_mem _ hm1) hf hm2
      subst this
      exact h1 hm1
theorem conc_inj : ∀ {cs : List Conc} (i j b : Nat), (cs.filterMap cb).Nodup → owns (cs[i]?) b → owns (cs[j]?) b → i = j
  | [], i, j, b, _, hi, _ => by
    rw [List.getElem?_nil] at hi
    exact hi.elim
  | c :: cs, i, j, b, hn, hi, hj => by
    have tail : (cs.filterMap cb).Nodup := by
      cases hc : cb c with
      | none => rwa [List.filterMap_cons_none hc] at hn
      | some q =>
        rw [List.filterMap_cons_some hc] at hn
        exact (List.nodup_cons.1 hn).2
    have mem : ∀ k : Nat, owns (cs[k]?) b → b ∈ cs.filterMap cb := fun k hk => by
      cases hk2 : cs[k]? with
      | none => rw [hk2] at hk; exact hk.elim
      | some q =>
        rw [hk2] at hk
        exact List.mem_filterMap.2 ⟨q, List.mem_of_getElem? hk2, cb_owns.2 hk⟩
    have head : owns (some c) b → ∀ k : Nat, owns (cs[k]?) b → False := fun h0 k hk => by
      rw [List.filterMap_cons_some (cb_owns.2 h0)] at hn
      exact (List.nodup_cons.1 hn).1 (mem k hk)
    match i, j with
    | 0, 0 => rfl
    | 0, j + 1 => exact (head hi j hj).elim
    | i + 1, 0 => exact (head hj i hi).elim
    | i + 1, j + 1 => exact congrArg (· + 1) (conc_inj i j b tail hi hj)
theorem conc_mem {cs : List Conc} {i b : Nat} (hi : owns (cs[i]?) b) : b ∈ cs.filterMap cb := by
  cases hk2 : cs[i]? with
  | none => rw [hk2] at hi; exact hi.elim
  | some q =>
    rw [hk2] at hi
    exact List.mem_filterMap.2 ⟨q, List.mem_of_getElem? hk2, cb_owns.2 hi⟩
theorem cbO_owns {c : Option Conc} {b : Nat} : cbO c = some b ↔ owns c b := by
  cases c with
  | none => exact ⟨(fun h => nomatch h), fun h => h.elim⟩
  | some c => exact cb_owns
theorem sub_mem {O : List Conc} {S : List Nat} (h : (O.filterMap cb).Sublist (S.filterMap fun n => cbO (ρ n))) {u : Conc} (hu : u ∈ O) {b : Nat} (hb : cb u = some b) : ∃ n ∈ S, owns (ρ n) b := by
  have := h.subset (List.mem_filterMap.2 ⟨u, hu, hb⟩)
  obtain ⟨n, h1, h2⟩ := List.mem_filterMap.1 this
  exact ⟨n, h1, cbO_owns.1 h2⟩
/-- The end of a function, as its contract tells it. -/
theorem end_ok {ps : List PK} {L : List GI} {N : List Value} {cs : List Conc} {F0 : Nat → Prop} {us : List Value} {rcs : List RC} {rfs : List RF} {da db : DR} {bs S2 S T : List Nat} {O1 O2 : List Conc}
    (hG : (GI.blocks L ++ mBlocks N).Nodup) (hperm : (cs.filterMap cb).Perm (GI.blocks L ++ mBlocks N))
    (h : Rel (fun b => b < w.heap.size ∧ ¬ F0 b ∧ b ∉ GI.blocks L ++ mBlocks N) ρ' st' a w') (e : Ext (fun i => cs[i]?) w ρ' w')
    (t2 : ToldC (fun b => b < w.heap.size ∧ ¬ F0 b ∧ b ∉ GI.blocks L ++ mBlocks N) ρ' w' da bs rcs us O2 S2) (t1 : ToldB (fun b => b < w.heap.size ∧ ¬ F0 b ∧ b ∉ GI.blocks L ++ mBlocks N) ρ' w' db L rfs O1 S T)
    (n1 : (da.owns ++ db.owns ++ S).Nodup) (n2 : ∀ n ∈ da.owns ++ db.owns ++ S, n ∉ da.pures ++ db.pures) (n3 : (bs ++ T).Nodup) :
    Answer ⟨rcs, rfs⟩ F0 L N w (tupOf us) w' := by
  have rowbox : ∀ n u g, ρ' n = some (.row u) → ρ' n = some (.blk g) → False := fun n u g h1 h2 => by rw [h1] at h2; cases h2
  -- the slots of what is handed on
  have inS : ∀ u ∈ O1 ++ O2, ∀ b, cb u = some b → ∃ n, (n ∈ da.owns ++ db.owns ∨ n ∈ bs) ∧ owns (ρ' n) b := fun u hu b hb => by
    rcases List.mem_append.1 hu with hu | hu
    · obtain ⟨n, k1, k2⟩ := sub_mem t1.sub hu hb
      exact ⟨n, .inl (List.mem_append_right _ k1), k2⟩
    · obtain ⟨n, k1, k2⟩ := sub_mem t2.sub hu hb
      rcases List.mem_append.1 (t2.perm.mem_iff.1 k1) with k1 | k1
      · exact ⟨n, .inl (List.mem_append_left _ k1), k2⟩
      · exact ⟨n, .inr k1, k2⟩
  have rowO : ∀ n ∈ da.owns ++ db.owns, ∃ u, ρ' n = some (.row u) := fun n hn => (List.mem_append.1 hn).elim (fun hn => t2.rows n (List.mem_append_left _ hn)) fun hn => t1.rows n (List.mem_append_left _ hn)
  have rowP : ∀ n ∈ da.pures ++ db.pures, ∃ u, ρ' n = some (.row u) := fun n hn => (List.mem_append.1 hn).elim (fun hn => t2.rows n (List.mem_append_right _ hn)) fun hn => t1.rows n (List.mem_append_right _ hn)
  -- a slot that is handed on does not stand for what was lent
  have notL : ∀ n b, (n ∈ da.owns ++ db.owns ∨ n ∈ bs ∨ n ∈ da.pures ++ db.pures) → owns (ρ' n) b → b ∉ GI.blocks L := by
    intro n b hn hb hL
    obtain ⟨m, hm, hm2⟩ := t1.own b hL
    obtain rfl := h.sep n m b hb hm2
    rcases List.mem_append.1 hm with hm | hm
    · rcases hn with hn | hn | hn
      · exact (List.nodup_append.1 n1).2.2 n hn n hm rfl
      · obtain ⟨u, hu⟩ := t1.lent n hm
        obtain ⟨g, hg⟩ := t2.boxes n hn
        exact rowbox n u g hu hg
      · exact n2 n (List.mem_append_right _ hm) hn
    · obtain ⟨g, hg⟩ := t1.boxes n hm
      rcases hn with hn | hn | hn
      · obtain ⟨u, hu⟩ := rowO n hn
        exact rowbox n u g hu hg
      · exact (List.nodup_append.1 n3).2.2 n hn n hm rfl
      · obtain ⟨u, hu⟩ := rowP n hn
        exact rowbox n u g hu hg
  have orig : ∀ n b, owns (ρ' n) b → b ∈ GI.blocks L ++ mBlocks N ∨ w.heap.size ≤ b := fun n b hb => by
    rcases e.own n b hb with ⟨j, hj⟩ | hj
    · exact .inl (hperm.mem_iff.1 (conc_mem hj))
    · exact .inr hj
  have orig2 : ∀ n b, (n ∈ da.owns ++ db.owns ∨ n ∈ bs ∨ n ∈ da.pures ++ db.pures) → owns (ρ' n) b → b ∈ mBlocks N ∨ w.heap.size ≤ b := fun n b hn hb => by
    rcases orig n b hb with k | k
    · rcases List.mem_append.1 k with k | k
      · exact (notL n b hn hb k).elim
      · exact .inl k
    · exact .inr k
  have hfix : ∀ b, Fix (fun b => b < w.heap.size ∧ ¬ F0 b ∧ b ∉ GI.blocks L ++ mBlocks N) ρ' w' b → Out F0 (mBlocks N) w w' (O1 ++ O2) b := by
    intro b hb
    refine ⟨hb.1, ?_, fun u hu q => ?_⟩
    · rcases Nat.lt_or_ge b w.heap.size with hlt | hge
      · by_cases hf : F0 b
        · exact .inl hf
        · by_cases hg : b ∈ GI.blocks L ++ mBlocks N
          · rcases List.mem_append.1 hg with hg | hg
            · obtain ⟨m, _, hm2⟩ := t1.own b hg
              exact (hb.2.2 m hm2).elim
            · exact .inr (.inl hg)
          · exact (hb.2.1 ⟨hlt, hf, hg⟩).elim
      · exact .inr (.inr hge)
    · obtain ⟨n, _, k⟩ := inS u hu b q
      exact hb.2.2 n k
  have hout : ∀ ns : List Nat, (∀ n ∈ ns, n ∈ da.pures ++ db.pures) → ∀ b, FixOr (fun b => b < w.heap.size ∧ ¬ F0 b ∧ b ∉ GI.blocks L ++ mBlocks N) ρ' w' ns b → Out F0 (mBlocks N) w w' (O1 ++ O2) b := by
    intro ns hns b hb
    rcases hb with hb | ⟨n, hn, hb⟩
    · exact hfix b hb
    · refine ⟨(h.lt n b hb).1, .inr (orig2 n b (.inr (.inr (hns n hn))) hb), fun u hu q => ?_⟩
      obtain ⟨m, hm, k⟩ := inS u hu b q
      obtain rfl := h.sep m n b k hb
      rcases hm with hm | hm
      · exact n2 m (List.mem_append_left _ hm) (hns m hn)
      · obtain ⟨u', hu'⟩ := rowP m (hns m hn)
        obtain ⟨g, hg⟩ := t2.boxes m hm
        exact rowbox m u' g hu' hg
  refine ⟨⟨e.os, e.tape, e.output, e.size, fun q hq hn => e.keep q hq fun i hi => hn (hperm.mem_iff.1 (conc_mem hi))⟩, O1, O2, ?_, ?_, ?_, ?_⟩
  · intro u hu b hb
    obtain ⟨n, hn, k⟩ := inS u hu b hb
    exact ⟨orig2 n b (hn.elim .inl fun q => .inr (.inl q)) k, (h.lt n b k).1⟩
  · rw [List.filterMap_append]
    refine (t1.sub.append t2.sub).nodup ?_
    rw [← List.filterMap_append]
    refine fm_nodup ?_ fun n m q hn hm h1 h2 => h.sep n m q (cbO_owns.1 h1) (cbO_owns.1 h2)
    have na := (List.nodup_append.1 n1).1
    obtain ⟨na1, na2, na3⟩ := List.nodup_append.1 na
    have nb := (List.nodup_append.1 n3).1
    refine List.nodup_append.2 ⟨na2, t2.perm.nodup_iff.2 (List.nodup_append.2 ⟨na1, nb, ?_⟩), ?_⟩
    · intro n hn m hm q
      subst q
      obtain ⟨u, hu⟩ := rowO n (List.mem_append_left _ hn)
      obtain ⟨g, hg⟩ := t2.boxes n hm
      exact rowbox n u g hu hg
    · intro n hn m hm q
      subst q
      rcases List.mem_append.1 (t2.perm.mem_iff.1 hm) with hm | hm
      · exact na3 n hm n hn rfl
      · obtain ⟨u, hu⟩ := rowO n (List.mem_append_right _ hn)
        obtain ⟨g, hg⟩ := t2.boxes n hm
        exact rowbox n u g hu hg
  · exact t1.told _ (hout _ fun n hn => List.mem_append_right _ hn)
  · exact comps_ret (t2.told _ (hout _ fun n hn => List.mem_append_left _ hn))
/-- A function, out of what its text does from its beginning: the contract. -/
theorem sig_wp {f : FuncId} {fn : Func} {c : Code} {s : Sig} {ti : Tab TI} {F : Prod' s.ins → Option (Prod' s.outs)} (T : TiOk P ti) (hf : P.funcs[f]? = some fn) (hname : (fn.name == "runtime.NumGoroutine") = false) (hb : fn.body = some c)
    (hn : fn.ntmps = s.ntmps) (hps : Nat.ble s.ps.length s.ntmps = true) (hev : ∀ x y, F x = some y → ∀ (X : Nat → Prop) (ρ : Rho) (a : Act) (w : World), Rel X ρ (s.start x) a w → CGood P c a w X ρ (s.start x) (s.done ti fn.results.toList) y) : ConOk P f (s.con F) := by
  refine ⟨fun args w => ?_, ?_⟩
  · simp [callFunc, hf, hb, by simpa using hname]
  intro asx rr hrr w vs F0 L N hF0 hG hgl hargs
  replace hrr : (s.run F asx).val = some rr := hrr
  unfold Sig.run at hrr
  split at hrr
  · rename_i ds hds
    split at hrr
    · rename_i x hx
      cases hFx : F x with
      | none => simp [CR.val, hFx] at hrr
      | some y =>
        have hrr : s.enc y = rr := by simpa [CR.val, hFx] using hrr
        subst hrr
        have hev := hev x y hFx
        obtain ⟨cs, hslots, hperm, hent⟩ := args_cs (fun b hb => hF0 b hb) hargs hds
        obtain ⟨hGlt, hlen1⟩ := args_lt hargs
        have hlen2 := decArgs_len hds
        have hnd : (cs.filterMap cb).Nodup := hperm.nodup_iff.2 hG
        have own0 : ∀ i b, owns (cs[i]?) b → b ∈ GI.blocks L ++ mBlocks N := fun i b hb => hperm.mem_iff.1 (conc_mem hb)
        have hvl : vs.length ≤ fn.ntmps := by
          have := Nat.le_of_ble_eq_true hps
          omega
        obtain ⟨en1, en2⟩ := hent (fun b => b < w.heap.size ∧ ¬ F0 b ∧ b ∉ GI.blocks L ++ mBlocks N) (fun i => cs[i]?) 0 (fun b hb => ⟨(hF0 b hb).1, fun hx => hx.2.1 hb, fun i hi => (hF0 b hb).2 (own0 i b hi)⟩)
          (fun b hb => ⟨hb.1, fun i hi => hb.2 (own0 i b hi)⟩) (fun j u hj => by
            show cs[0 + j]? = some u
            rw [Nat.zero_add, hj])
        have hofx : ofProd s.ins x = ds := of_toProd hx
        let a0 : Act := { tmps := vs.toArray ++ Array.replicate (fn.ntmps - vs.toArray.size) undef, defers := [] }
        have htm : ∀ i, tmOf a0 i = vs.getD i undef := fun i => by
          show (vs.toArray ++ Array.replicate (fn.ntmps - vs.toArray.size) undef).getD i undef = _
          rw [Array.getD_eq_getD_getElem?, List.getD_eq_getElem?_getD]
          by_cases hi : i < vs.length
          · rw [Array.getElem?_append_left (by simpa using hi)]
            simp
          · rw [Array.getElem?_append_right (by simpa using hi), List.getElem?_eq_none (by omega)]
            rw [Array.getElem?_replicate]
            split <;> rfl
        have hst : s.start x = { n := s.ntmps, tmps := (entry s.ps ds 0).1, gs := [], heap := (entry s.ps ds 0).2, nb := (entry s.ps ds 0).2.length, lim := 1000000, res := [] } := by
          unfold Sig.start
          rw [hofx]
        have hrel : Rel (fun b => b < w.heap.size ∧ ¬ F0 b ∧ b ∉ GI.blocks L ++ mBlocks N) (fun i => cs[i]?) (s.start x) a0 w := by
          rw [hst]
          refine ⟨rfl, ?_, ?_, ?_, ?_, ?_, (fun _ _ _ _ hm => nomatch hm), ⟨?_, fun p hp => nomatch hp⟩, fun b hb => hb.1, ⟨hgl.1, fun n hn i hi => hgl.2 n hn (own0 i n hi)⟩⟩
          · show (vs.toArray ++ Array.replicate (fn.ntmps - vs.toArray.size) undef).size = s.ntmps
            simp
            omega
          · intro i j b hi hj
            exact conc_inj i j b hnd hi hj
          · intro i b hi
            have h1 := own0 i b hi
            exact ⟨hGlt b h1, fun hx => hx.2.2 h1⟩
          · intro i
            exact ents_get i en2
          · intro i
            rw [htm]
            exact avs_get i en1
          · intro i hi
            rcases hi with ⟨hi, _⟩ | ⟨p, hp, _⟩
            · show cs[i]? = none
              rw [List.getElem?_eq_none]
              rw [← en2.len]
              exact hi
            · cases hp
        refine calls_of_wp hf hb (hev _ _ _ _ hrel _ ?_)
        intro e ρ' st' a' w' k1 k2 k3 k4 k5
        have fin : s.read ti fn.results.toList st' = some y → a'.defers = [] ∧ ∃ v, (results fn a'.tmps).run P w' = .ok v w' ∧ ∃ v', Ending.returned v = .returned v' ∧ Answer (s.enc y) F0 L N w v' w' := by
          intro hread
          unfold Sig.read at hread
          split at hread
          · rename_i d b hd hbb
            cases hc : (nodupB (d.1.owns ++ b.1.owns ++ b.2) && disjB (d.1.owns ++ b.1.owns ++ b.2) (d.1.pures ++ b.1.pures) && nodupB (d.2 ++ refsOf s.ps 0)) with
            | false => rw [hc] at hread; cases hread
            | true =>
              rw [hc] at hread
              have hread : toProd s.outs (d.1.ds ++ b.1.ds) = some y := hread
              obtain ⟨c12, c3⟩ := (Bool.and_eq_true _ _).mp hc
              obtain ⟨c1, c2⟩ := (Bool.and_eq_true _ _).mp c12
              obtain ⟨us, O2, S2, hus, told, henc⟩ := decRes_ok (C := { ti := ti, con := fun _ => [] }) T k2 (d := d.1) (bs := d.2) b.1.ds hd
              have hlater : Later ρ' 0 cs := fun j c hj => by
                rw [Nat.zero_add]
                exact k3.conc j c hj
              obtain ⟨O1, toldb⟩ := backPs_ok k2 (d := b.1) (S := b.2) hbb hslots hlater
              refine ⟨k2.defers, _, run_results hus, _, rfl, ?_⟩
              have hof : ofProd s.outs y = d.1.ds ++ b.1.ds := of_toProd hread
              have henc2 : s.enc y = ⟨(encRes s.rs (d.1.ds ++ b.1.ds)).1, encBacks s.ps b.1.ds⟩ := by
                show (⟨(encRes s.rs (ofProd s.outs y)).1, encBacks s.ps (encRes s.rs (ofProd s.outs y)).2⟩ : RR) = _
                rw [hof, henc]
              rw [henc2]
              exact end_ok (ps := s.ps) hG hperm k2 k3 told toldb (nodupB_ok c1) (fun n hn hm => disjB_ok c2 n hn hm) (nodupB_ok c3)
          · cases hread
        cases e with
        | nrm =>
          obtain ⟨h1, v, h2, v', h3, h4⟩ := fin k1
          exact ⟨h1, v, h2, v', h3, h4⟩
        | ret =>
          obtain ⟨h1, v, h2, v', h3, h4⟩ := fin k1
          exact ⟨h1, v, h2, v', h3, h4⟩
        | exit j => cases k1
    · cases hrr
  · cases hrr
/-- A function, out of its text: the contract. -/
theorem sig_ok {f : FuncId} {fn : Func} {c : Code} {s : Sig} {p : Plan} {F : Prod' s.ins → Option (Prod' s.outs)} (H : CtxOk P C) (hf : P.funcs[f]? = some fn) (hname : (fn.name == "runtime.NumGoroutine") = false) (hb : fn.body = some c)
    (hn : fn.ntmps = s.ntmps) (hps : Nat.ble s.ps.length s.ntmps = true) (hp : PlanOk P C p c) (hev : ∀ x y, F x = some y → s.ev C p fn.results.toList c x = some y) : ConOk P f (s.con F) :=
  sig_wp H.ti hf hname hb hn hps fun x y hx X ρ a w hrel => V_sound H c hp hrel (hev x y hx)
end
end Go.Proofs.YtcnkbllbpimaiaaGreatDoorE

namespace Go.Proofs.YtcnkbllbpimaiaaGreatDoorE
open Go Go.RowKit
set_option linter.unusedVariables false
section
variable {P : Program} {X X' : Nat → Prop} {ρ ρ' : Rho} {st st' : St} {a : Act} {w w' : World} {R : Type} {r : R} {C : Ctx} {m : List (Nat × Nat)} {sh : Shape}
/-- A variable's block, or a row. -/
def Live (c : Option Conc) : Prop := (∃ g, c = some (.blk g)) ∨ ∃ v, c = some (.row v)
theorem any_beq {n : Nat} {l : List Nat} (h : l.any (Nat.beq n) = true) : n ∈ l := by
  obtain ⟨x, h1, h2⟩ := List.any_eq_true.1 h
  rw [Nat.eq_of_beq_eq_true h2]
  exact h1
theorem agree_ok : ∀ {m : List (Nat × Nat)}, agree m = true → ∀ p ∈ m, ∀ q ∈ m, (p.1 = q.1 ↔ p.2 = q.2)
  | [], _, p, hp, _, _ => nomatch hp
  | (n, o) :: rest, h, p, hp, q, hq => by
    unfold agree at h
    obtain ⟨h1, h2⟩ := (Bool.and_eq_true _ _).mp h
    have hd : ∀ p ∈ rest, (p.1 = n ↔ p.2 = o) := fun p hp => by
      have := List.all_eq_true.1 h1 p hp
      have e : Nat.beq p.1 n = Nat.beq p.2 o := by simpa using this
      constructor
      · intro e1
        exact Nat.eq_of_beq_eq_true (by rw [← e, e1]; exact Nat.beq_refl n)
      · intro e1
        exact Nat.eq_of_beq_eq_true (by rw [e, e1]; exact Nat.beq_refl o)
    rcases List.mem_cons.1 hp with rfl | hp <;> rcases List.mem_cons.1 hq with rfl | hq
    · exact ⟨fun _ => rfl, fun _ => rfl⟩
    · exact ⟨fun e => ((hd q hq).1 e.symm).symm, fun e => ((hd q hq).2 e.symm).symm⟩
    · exact hd p hp
    · exact agree_ok h2 p hp q hq
theorem lookup_mem : ∀ {m : List (Nat × Nat)} {n o : Nat}, m.lookup n = some o → (n, o) ∈ m
  | [], _, _, h => by cases h
  | (k, v) :: m, n, o, h => by
    rw [List.lookup_cons] at h
    cases hk : (n == k) with
    | true =>
      rw [hk] at h
      cases h
      rw [show n = k by simpa using hk]
      exact List.mem_cons_self
    | false =>
      rw [hk] at h
      exact List.mem_cons_of_mem _ (lookup_mem h)
theorem mem_lookup : ∀ {m : List (Nat × Nat)} {n o : Nat}, (n, o) ∈ m → ∃ o', m.lookup n = some o'
  | (k, v) :: m, n, o, h => by
    rw [List.lookup_cons]
    cases hk : (n == k) with
    | true => exact ⟨v, rfl⟩
    | false =>
      rcases List.mem_cons.1 h with h | h
      · cases h; simp at hk
      · exact mem_lookup h
/-- What a state that is read by a shape stands for. -/
structure RdOk (X X' : Nat → Prop) (ρ ρ' : Rho) (w : World) (sh : Shape) (m : List (Nat × Nat)) : Prop where
  ptr : ∀ b, b ∈ boxIds sh.slots → ρ' b = ρ b
  own : ∀ n o, (n, o) ∈ m → n ∈ arrIds sh.slots → o < 1000000 → ρ' n = ρ o
  nil : ∀ n, (n, 3000000 + n) ∈ m → n ∈ arrIds sh.slots → ρ' n = some (.row (.slice none 0 0))
  fix : ∀ b, Fix X ρ w b → Fix X' ρ' w b
  brw : ∀ b, Brw ρ w b → Brw ρ' w b
  pure : ∀ o, (1000000 + o, o) ∈ m → ∀ b, owns (ρ o) b → Fix X' ρ' w b
  small : ∀ n ∈ arrIds sh.slots, n < 1000000
theorem one1_ok {t : Ty} {y : t.T} {v : Value} (h : Rep w (Fix X ρ w) t y [v]) : LeafOk X ρ w (one1 (leaves t y)) v := by
  have h1 := leaves_ok h
  have h2 := h1.len
  generalize leaves t y = ys at h1 h2
  match ys, h1, h2 with
  | [], _, h2 => cases h2
  | [z], h1, _ => exact h1.1
  | _ :: _ :: _, _, h2 => simp at h2
theorem rdBor_ok (H : RdOk X X' ρ ρ' w sh m) (h : Rel X ρ st a w) {t : Ty} {x : Leaf} {v : Value} {ds : List DV} {mm : List (Nat × Nat)} (hx : LeafOk X ρ w x v) (hr : rdBor st t x = some (ds, mm)) :
    ∃ l : List t.T, ds = [.mk (.sl t) l] ∧ mm = [] ∧ Rep w (Brw ρ' w) (.sl t) l [v] := by
  have some1 : ∀ {r' : Ty} {l : List r'.T}, someL t (castL l) = some (ds, mm) → Rep w (Brw ρ w) (.sl r') l [v] → ∃ l : List t.T, ds = [.mk (.sl t) l] ∧ mm = [] ∧ Rep w (Brw ρ' w) (.sl t) l [v] := by
    intro r' l hs hrep
    cases hc : castL (r := t) l with
    | none => rw [hc] at hs; cases hs
    | some l2 =>
      rw [hc] at hs
      cases hs
      obtain ⟨e, rfl⟩ := castL_some hc
      exact ⟨_, rfl, rfl, cast_list e (Rep.move (fun b hb => ⟨rfl, H.brw b hb⟩) hrep)⟩
  unfold rdBor at hr
  split at hr
  · exact some1 hr hx
  · exact some1 hr (Rep.move (fun b hb => ⟨rfl, hb.brw⟩) hx)
  · cases hr
    have hx : v = .slice none 0 0 := hx
    exact ⟨[], rfl, rfl, none, 0, by rw [hx]; rfl, Nat.le_refl _, .inl rfl⟩
  · rename_i n
    split at hr
    · rename_i r' l he
      have h0 := h.ents n
      rw [he] at h0
      obtain ⟨u, hu, h0⟩ := h0
      have hx2 := hx.2
      rw [hu] at hx2
      have hx2 : v = u := hx2
      subst hx2
      exact some1 hr (Rep.move (fun b hb => ⟨rfl, hb.brw⟩) h0)
    · cases hr
  · cases hr
theorem rdLeaf_ok (H : RdOk X X' ρ ρ' w sh m) (h : Rel X ρ st a w) {k : LK} {x : Leaf} {v : Value} {ds : List DV} {mm : List (Nat × Nat)} (hk : lkOk sh k = true) (hx : LeafOk X ρ w x v) (hr : rdLeaf st k x = some (ds, mm)) (hm : ∀ p ∈ mm, p ∈ m) (rest : List DV) :
    LeafOk X' ρ' w (mkLeaf k (ds ++ rest)).1 v ∧ (mkLeaf k (ds ++ rest)).2 = rest := by
  cases k with
  | no =>
    cases hr
    exact ⟨hx.one, rfl⟩
  | ptr b off =>
    replace hr : rdPtr b off x = some (ds, mm) := hr
    unfold rdPtr at hr
    split at hr
    · rename_i b' off'
      cases hc : (Nat.beq b b' && Nat.beq off off') with
      | false => rw [hc] at hr; cases hr
      | true =>
        rw [hc] at hr
        cases hr
        obtain ⟨c1, c2⟩ := (Bool.and_eq_true _ _).mp hc
        obtain rfl := Nat.eq_of_beq_eq_true c1
        obtain rfl := Nat.eq_of_beq_eq_true c2
        refine ⟨⟨hx.1, ?_⟩, rfl⟩
        rw [H.ptr b (any_beq hk)]
        exact hx.2
    · cases hr
  | own n =>
    have hn := any_beq (show (arrIds sh.slots).any (Nat.beq n) = true from hk)
    replace hr : rdOwn n x = some (ds, mm) := hr
    unfold rdOwn at hr
    split at hr
    · rename_i o
      cases hc : Nat.blt o 1000000 with
      | false => rw [hc] at hr; cases hr
      | true =>
        rw [hc] at hr
        cases hr
        have e := H.own n o (hm _ List.mem_cons_self) hn (Nat.le_of_ble_eq_true hc)
        refine ⟨⟨hx.1, ?_⟩, rfl⟩
        rw [e]
        exact hx.2
    · cases hr
      have e := H.nil n (hm _ List.mem_cons_self) hn
      have hx : v = .slice none 0 0 := hx
      refine ⟨⟨.inl ⟨_, _, _, hx⟩, ?_⟩, rfl⟩
      rw [e]
      exact hx
    · cases hr
  | pin n =>
    replace hr : rdPin n x = some (ds, mm) := hr
    unfold rdPin at hr
    split at hr
    · rename_i m'
      cases hc : Nat.beq n m' with
      | false => rw [hc] at hr; cases hr
      | true =>
        rw [hc] at hr
        cases hr
        obtain rfl := Nat.eq_of_beq_eq_true hc
        refine ⟨⟨hx.1, ?_⟩, rfl⟩
        rw [H.ptr n (any_beq hk)]
        exact hx.2
    · cases hr
  | rp t =>
    replace hr : rdRp t x = some (ds, mm) := hr
    unfold rdRp at hr
    split at hr
    · rename_i t' y
      split at hr
      · rename_i hs _
        cases hr
        obtain ⟨g, o, cs, h1, h2, h3, h4⟩ := hx
        have e := hs.down
        subst e
        exact ⟨⟨g, o, cs, h1, H.brw g h2, h3, Rep.move (fun b hb => ⟨rfl, H.brw b hb⟩) h4⟩, rfl⟩
      · cases hr
    · cases hr
  | bor t =>
    obtain ⟨l, rfl, rfl, hrep⟩ := rdBor_ok H h hx (show rdBor st t x = some (ds, mm) from hr)
    exact ⟨hrep, rfl⟩
  | v t =>
    replace hr : (match pureOf st t x with
      | some (y, ns) => some ([DV.mk t y], ns.map fun o => (1000000 + o, o))
      | none => none) = some (ds, mm) := hr
    split at hr
    · rename_i y ns hy
      cases hr
      refine ⟨one1_ok (Rep.move (fun b hb => ⟨rfl, ?_⟩) (pureOf_ok h hx hy)), rfl⟩
      rcases hb with hb | ⟨o, ho, hb⟩
      · exact H.fix b hb
      · exact H.pure o (hm _ (List.mem_map.2 ⟨o, ho, rfl⟩)) b hb
    · cases hr
theorem rdLeaves_ok (H : RdOk X X' ρ ρ' w sh m) (h : Rel X ρ st a w) : ∀ {ks : List LK} {xs : List Leaf} {vs : List Value} {ds : List DV} {mm : List (Nat × Nat)}, ks.all (lkOk sh) = true → LeavesOk X ρ w xs vs → rdLeaves st ks xs = some (ds, mm) → (∀ p ∈ mm, p ∈ m) → ∀ rest : List DV,
    LeavesOk X' ρ' w (mkLeaves ks (ds ++ rest)).1 vs ∧ (mkLeaves ks (ds ++ rest)).2 = rest
  | [], [], [], ds, mm, _, _, hr, _, rest => by
    cases hr
    exact ⟨trivial, rfl⟩
  | k :: ks, x :: xs, v :: vs, ds, mm, hk, hx, hr, hm, rest => by
    unfold rdLeaves at hr
    split at hr
    · rename_i a1 m1 a2 m2 h1 h2
      cases hr
      obtain ⟨k1, k2⟩ := (Bool.and_eq_true _ _).mp (show (lkOk sh k && ks.all (lkOk sh)) = true from hk)
      obtain ⟨i1, i2⟩ := rdLeaf_ok H h k1 hx.1 h1 (fun p hp => hm p (List.mem_append_left _ hp)) (a2 ++ rest)
      obtain ⟨j1, j2⟩ := rdLeaves_ok H h k2 hx.2 h2 (fun p hp => hm p (List.mem_append_right _ hp)) rest
      rw [List.append_assoc]
      refine ⟨⟨i1, ?_⟩, ?_⟩
      · rw [i2]; exact j1
      · show (mkLeaves ks (mkLeaf k (a1 ++ (a2 ++ rest))).2).2 = rest
        rw [i2]; exact j2
    · cases hr
  | [], _ :: _, _, _, _, _, _, hr, _, _ => by cases hr
  | _ :: _, [], _, _, _, _, _, hr, _, _ => by cases hr
  | [], [], _ :: _, _, _, _, h, _, _, _ => h.elim
  | _ :: _, _ :: _, [], _, _, _, h, _, _, _ => h.elim
theorem rdT_ok (H : RdOk X X' ρ ρ' w sh m) (h : Rel X ρ st a w) {k : TK} {i : Nat} {ds : List DV} {mm : List (Nat × Nat)} (hk : k.lks.all (lkOk sh) = true) (hr : rdT st k (st.tmp i) = some (ds, mm)) (hm : ∀ p ∈ mm, p ∈ m) (rest : List DV) :
    AvOk X' ρ' w (mkT k (ds ++ rest)).1 (tmOf a i) ∧ (mkT k (ds ++ rest)).2 = rest := by
  have ht := h.tmp i
  unfold rdT at hr
  split at hr
  · rename_i k x hx
    rw [hx] at ht
    have ht : LeafOk X ρ w x (tmOf a i) := by
      rcases ht with ht | ⟨_, _, _, e, _⟩
      · exact ht
      · cases e
    obtain ⟨j1, j2⟩ := rdLeaf_ok H h (by simpa [TK.lks] using hk) ht hr hm rest
    exact ⟨j1, j2⟩
  · rename_i ks xs hx
    rw [hx] at ht
    have ht : ∃ cs, tmOf a i = .agg cs ∧ LeavesOk X ρ w xs cs.toList := by
      rcases ht with ht | ⟨_, _, _, e, _⟩
      · exact ht
      · cases e
    obtain ⟨cs, e, ht⟩ := ht
    obtain ⟨j1, j2⟩ := rdLeaves_ok H h hk ht hr hm rest
    exact ⟨⟨cs, e, j1⟩, j2⟩
  · rename_i ks xs hx
    rw [hx] at ht
    have ht : AvOk X ρ w (.eptr xs) (tmOf a i) := by
      rcases ht with ht | ⟨_, _, _, e, _⟩
      · exact ht
      · cases e
    obtain ⟨gb, o, cs, e, hg, hc, ht⟩ := ht
    obtain ⟨j1, j2⟩ := rdLeaves_ok H h hk ht hr hm rest
    exact ⟨⟨gb, o, cs, e, H.brw gb hg, hc, j1⟩, j2⟩
  · rename_i f ks f' xs hx
    rw [hx] at ht
    have ht : ∃ cs, tmOf a i = .func (.func f') #[] cs ∧ LeavesOk X ρ w xs cs.toList := by
      rcases ht with ht | ⟨_, _, _, e, _⟩
      · exact ht
      · cases e
    obtain ⟨cs, e, ht2⟩ := ht
    cases hf : Nat.beq f f' with
    | false => rw [hf] at hr; cases hr
    | true =>
      rw [hf] at hr
      obtain rfl := Nat.eq_of_beq_eq_true hf
      obtain ⟨j1, j2⟩ := rdLeaves_ok H h hk ht2 hr hm rest
      exact ⟨⟨cs, e, j1⟩, j2⟩
  · cases hr
theorem rdTs_ok (H : RdOk X X' ρ ρ' w sh m) (h : Rel X ρ st a w) : ∀ {ks : List (Nat × TK)} {ds : List DV} {mm : List (Nat × Nat)}, (ks.all fun p => p.2.lks.all (lkOk sh)) = true → rdTs st ks = some (ds, mm) → (∀ p ∈ mm, p ∈ m) → ∀ (rest : List DV) (ts : List AV), (∀ j, AvOk X' ρ' w (getL .unk ts j) (tmOf a j)) →
    (∀ j, AvOk X' ρ' w (getL .unk (mkTs ks (ds ++ rest) ts).1 j) (tmOf a j)) ∧ (mkTs ks (ds ++ rest) ts).2 = rest
  | [], ds, mm, _, hr, _, rest, ts, hts => by
    cases hr
    exact ⟨hts, rfl⟩
  | (i, k) :: ks, ds, mm, hk, hr, hm, rest, ts, hts => by
    unfold rdTs at hr
    split at hr
    · rename_i a1 m1 a2 m2 h1 h2
      cases hr
      obtain ⟨k1, k2⟩ := (Bool.and_eq_true _ _).mp (show (k.lks.all (lkOk sh) && ks.all fun p => p.2.lks.all (lkOk sh)) = true from hk)
      obtain ⟨i1, i2⟩ := rdT_ok H h k1 h1 (fun p hp => hm p (List.mem_append_left _ hp)) (a2 ++ rest)
      rw [List.append_assoc]
      show (∀ j, AvOk X' ρ' w (getL .unk (mkTs ks (mkT k (a1 ++ (a2 ++ rest))).2 (setL .unk ts i (mkT k (a1 ++ (a2 ++ rest))).1)).1 j) (tmOf a j)) ∧ (mkTs ks (mkT k (a1 ++ (a2 ++ rest))).2 (setL .unk ts i (mkT k (a1 ++ (a2 ++ rest))).1)).2 = rest
      rw [i2]
      refine rdTs_ok H h k2 h2 (fun p hp => hm p (List.mem_append_right _ hp)) rest _ ?_
      intro j
      rw [getL_setL]
      by_cases hij : i = j
      · subst hij; rw [if_pos rfl]; exact i1
      · rw [if_neg hij]; exact hts j
    · cases hr
theorem rdBoxMaps_mem : ∀ {ss : List (Nat × BK)} {mm : List (Nat × Nat)}, rdBoxMaps st ss = some mm → ∀ n t ks, (n, .box t ks) ∈ ss → ∃ t' xs ds m1, st.ent n = .box t' xs ∧ rdLeaves st ks xs = some (ds, m1) ∧ ∀ p ∈ m1, p ∈ mm
  | [], _, _, n, t, ks, h => nomatch h
  | (n', .box t' ks') :: ss, mm, hr, n, t, ks, h => by
    unfold rdBoxMaps at hr
    split at hr
    · rename_i bt xs he
      split at hr
      · rename_i a1 m1 m2 h1 h2
        cases hr
        rcases List.mem_cons.1 h with h | h
        · cases h
          exact ⟨bt, xs, a1, m1, he, h1, fun p hp => List.mem_append_left _ hp⟩
        · obtain ⟨t2, ys, d2, m3, e1, e2, e3⟩ := rdBoxMaps_mem h2 n t ks h
          exact ⟨t2, ys, d2, m3, e1, e2, fun p hp => List.mem_append_right _ (e3 p hp)⟩
      · cases hr
    · cases hr
  | (n', .arr _ _ _) :: ss, mm, hr, n, t, ks, h => by
    rcases List.mem_cons.1 h with h | h
    · cases h
    · exact rdBoxMaps_mem (ss := ss) hr n t ks h
  | (n', .pin _ _) :: ss, mm, hr, n, t, ks, h => by
    rcases List.mem_cons.1 h with h | h
    · cases h
    · exact rdBoxMaps_mem (ss := ss) hr n t ks h
theorem castL_self {t : Ty} (l : List t.T) : castL (r := t) l = some l := by
  obtain ⟨h, e⟩ := same_refl t
  unfold castL
  rw [e]
theorem mkArr_self {z : Bool} {e : TypeId} {t : Ty} (l : List t.T) : mkArr z e t (.mk (.sl t) l) = .arr z e t l := by
  show (match castL (r := t) l with
    | some l => Ent.arr z e t l
    | none => .free) = _
  rw [castL_self]
theorem rdB_ok (H : RdOk X X' ρ ρ' w sh m) (h : Rel X ρ st a w) {n : Nat} {k : BK} {ds : List DV} (hk : k.lks.all (lkOk sh) = true) (hr : rdB st m n k = some ds) (hbox : ∀ t ks, k = .box t ks → n ∈ boxIds sh.slots ∧ ∃ t' xs ds m1, st.ent n = .box t' xs ∧ rdLeaves st ks xs = some (ds, m1) ∧ ∀ p ∈ m1, p ∈ m)
    (hpin : ∀ e t, k = .pin e t → n ∈ boxIds sh.slots) (harr : ∀ z e t, k = .arr z e t → n ∈ arrIds sh.slots ∧ (m.lookup n = none → ρ' n = some (.row (.slice none 0 0))) ∧ (∀ o, m.lookup n = some o → 3000000 ≤ o → o = 3000000 + n) ∧ ∀ o, m.lookup n = some o → o < 3000000 → o < 1000000) (rest : List DV) :
    EntOk X' ρ' w (mkB k (ds ++ rest)).1 (ρ' n) ∧ (mkB k (ds ++ rest)).2 = rest := by
  cases k with
  | box t ks =>
    obtain ⟨hn, t', xs, ds', m1, he, hrl, hmm⟩ := hbox t ks rfl
    unfold rdB at hr
    dsimp only at hr
    rw [he] at hr
    dsimp only at hr
    rw [hrl] at hr
    cases ht : Nat.beq t t' with
    | false => rw [ht] at hr; cases hr
    | true =>
      rw [ht] at hr
      cases hr
      obtain rfl := Nat.eq_of_beq_eq_true ht
      have h0 := h.ents n
      rw [he] at h0
      obtain ⟨gb, cs, fr, hρ, hh, hu, hxs⟩ := h0
      obtain ⟨j1, j2⟩ := rdLeaves_ok H h hk hxs hrl hmm rest
      refine ⟨⟨gb, cs, fr, by rw [H.ptr n hn]; exact hρ, hh, hu, j1⟩, j2⟩
  | pin e t =>
    have hn := hpin e t rfl
    replace hr : rdArr st false e t n = some ds := hr
    unfold rdArr at hr
    split at hr
    · rename_i z' e' rt l he
      split at hr
      · rename_i l2 hl2
        cases hz : (Nat.beq e e' && (false == z')) with
        | false => rw [hz] at hr; cases hr
        | true =>
          rw [hz] at hr
          have hr : some [DV.mk (.sl t) l2] = some ds := hr
          cases hr
          obtain ⟨c1, c2⟩ := (Bool.and_eq_true _ _).mp hz
          obtain rfl := Nat.eq_of_beq_eq_true c1
          obtain rfl : false = z' := by simpa using c2
          obtain ⟨et, rfl⟩ := castL_some hl2
          have h0 := h.ents n
          rw [he] at h0
          obtain ⟨u, hu, h0⟩ := h0
          refine ⟨?_, rfl⟩
          show EntOk X' ρ' w (mkArr false e t (.mk (.sl t) _)) (ρ' n)
          rw [mkArr_self, H.ptr n hn]
          refine ⟨u, hu, ?_⟩
          have hm := RowOk.mono (F' := Fix X' ρ' w) (fun b hb => H.fix b hb) h0
          subst et
          exact hm
      · cases hr
    · cases hr
  | arr z e t =>
    obtain ⟨hn, h1, h2, h3⟩ := harr z e t rfl
    have nilCase : (bif isMap e then none else some [DV.mk (.sl t) []]) = some ds → ρ' n = some (.row (.slice none 0 0)) → EntOk X' ρ' w (mkB (.arr z e t) (ds ++ rest)).1 (ρ' n) ∧ (mkB (.arr z e t) (ds ++ rest)).2 = rest := by
      intro hds hρ
      cases hm : isMap e with
      | true => rw [hm] at hds; cases hds
      | false =>
      rw [hm] at hds
      replace hds : some [DV.mk (.sl t) []] = some ds := hds
      cases hds
      refine ⟨?_, rfl⟩
      show EntOk X' ρ' w (mkArr z e t (.mk (.sl t) [])) (ρ' n)
      rw [mkArr_self (t := t) [], hρ]
      exact ⟨_, rfl, RowS.ok (.inl ⟨rfl, rfl⟩) hm⟩
    unfold rdB at hr
    dsimp only at hr
    split at hr
    · rename_i hl
      exact nilCase hr (h1 hl)
    · rename_i o hl
      cases ho : Nat.ble 3000000 o with
      | true =>
        rw [ho] at hr
        have e := h2 o hl (Nat.le_of_ble_eq_true ho)
        subst e
        exact nilCase hr (H.nil n (lookup_mem hl) hn)
      | false =>
        rw [ho] at hr
        have ho : o < 3000000 := by
          rcases Nat.lt_or_ge o 3000000 with h | h
          · exact h
          · rw [Nat.ble_eq_true_of_le h] at ho; cases ho
        have hr : rdArr st z e t o = some ds := hr
        unfold rdArr at hr
        split at hr
        · rename_i z' e' rt l he
          split at hr
          · rename_i l2 hl2
            cases hz : (Nat.beq e e' && (z == z')) with
            | false => rw [hz] at hr; cases hr
            | true =>
              rw [hz] at hr
              have hr : some [DV.mk (.sl t) l2] = some ds := hr
              cases hr
              obtain ⟨c1, c2⟩ := (Bool.and_eq_true _ _).mp hz
              obtain rfl := Nat.eq_of_beq_eq_true c1
              obtain rfl : z = z' := by simpa using c2
              obtain ⟨et, rfl⟩ := castL_some hl2
              have h0 := h.ents o
              rw [he] at h0
              obtain ⟨u, hu, h0⟩ := h0
              have hρ := H.own n o (lookup_mem hl) hn (h3 o hl ho)
              refine ⟨?_, rfl⟩
              show EntOk X' ρ' w (mkArr z e t (.mk (.sl t) _)) (ρ' n)
              rw [mkArr_self, hρ]
              refine ⟨u, hu, ?_⟩
              have hm := RowOk.mono (F' := Fix X' ρ' w) (fun b hb => H.fix b hb) h0
              subst et
              exact hm
          · cases hr
        · cases hr
theorem rdBs_ok (H : RdOk X X' ρ ρ' w sh m) (h : Rel X ρ st a w) : ∀ {ss : List (Nat × BK)} {ds : List DV}, (ss.all fun p => p.2.lks.all (lkOk sh)) = true → rdBs st m ss = some ds →
    (∀ n k, (n, k) ∈ ss → (∀ t ks, k = .box t ks → n ∈ boxIds sh.slots ∧ ∃ t' xs ds m1, st.ent n = .box t' xs ∧ rdLeaves st ks xs = some (ds, m1) ∧ ∀ p ∈ m1, p ∈ m) ∧ (∀ e t, k = .pin e t → n ∈ boxIds sh.slots) ∧
      (∀ z e t, k = .arr z e t → n ∈ arrIds sh.slots ∧ (m.lookup n = none → ρ' n = some (.row (.slice none 0 0))) ∧ (∀ o, m.lookup n = some o → 3000000 ≤ o → o = 3000000 + n) ∧ ∀ o, m.lookup n = some o → o < 3000000 → o < 1000000)) →
    ∀ (hs : List Ent), (∀ i, EntOk X' ρ' w (getL .free hs i) (ρ' i)) → ∀ i, EntOk X' ρ' w (getL .free (mkBs ss ds hs) i) (ρ' i)
  | [], ds, _, hr, _, hs, hh, i => by
    cases hr
    exact hh i
  | (n, k) :: ss, ds, hk, hr, hc, hs, hh, i => by
    unfold rdBs at hr
    split at hr
    · rename_i a1 a2 h1 h2
      cases hr
      obtain ⟨k1, k2⟩ := (Bool.and_eq_true _ _).mp (show (k.lks.all (lkOk sh) && ss.all fun p => p.2.lks.all (lkOk sh)) = true from hk)
      obtain ⟨c1, c0, c2⟩ := hc n k List.mem_cons_self
      obtain ⟨i1, i2⟩ := rdB_ok H h k1 h1 c1 c0 c2 a2
      show EntOk X' ρ' w (getL .free (mkBs ss (mkB k (a1 ++ a2)).2 (setL .free hs n (mkB k (a1 ++ a2)).1)) i) (ρ' i)
      rw [i2]
      refine rdBs_ok H h k2 h2 (fun n' k' hn => hc n' k' (List.mem_cons_of_mem _ hn)) _ ?_ i
      intro j
      rw [getL_setL]
      by_cases hnj : n = j
      · subst hnj; rw [if_pos rfl]; exact i1
      · rw [if_neg hnj]; exact hh j
    · cases hr
theorem rdBs_pin (h : Rel X ρ st a w) : ∀ {ss : List (Nat × BK)} {ds : List DV}, rdBs st m ss = some ds → ∀ n e t, (n, BK.pin e t) ∈ ss → ∃ v, ρ n = some (.row v)
  | [], ds, _, n, e, t, hm => nomatch hm
  | (n', k) :: ss, ds, hr, n, e, t, hm => by
    unfold rdBs at hr
    split at hr
    · rename_i a1 a2 h1 h2
      rcases List.mem_cons.1 hm with hm | hm
      · cases hm
        replace h1 : rdArr st false e t n' = some a1 := h1
        unfold rdArr at h1
        split at h1
        · rename_i z' e' rt l he
          have h0 := h.ents n'
          rw [he] at h0
          obtain ⟨u, hu, _⟩ := h0
          exact ⟨u, hu⟩
        · cases h1
      · exact rdBs_pin h h2 n e t hm
    · cases hr
theorem boxIds_mem : ∀ {ss : List (Nat × BK)} {i : Nat}, i ∈ boxIds ss → (∃ t ks, (i, BK.box t ks) ∈ ss) ∨ ∃ e t, (i, BK.pin e t) ∈ ss
  | (n, .box t ks) :: ss, i, h => by
    rcases List.mem_cons.1 h with rfl | h
    · exact .inl ⟨t, ks, List.mem_cons_self⟩
    · exact (boxIds_mem h).imp (fun ⟨t, ks, h⟩ => ⟨t, ks, List.mem_cons_of_mem _ h⟩) fun ⟨e, t, h⟩ => ⟨e, t, List.mem_cons_of_mem _ h⟩
  | (n, .pin e t) :: ss, i, h => by
    rcases List.mem_cons.1 h with rfl | h
    · exact .inr ⟨e, t, List.mem_cons_self⟩
    · exact (boxIds_mem h).imp (fun ⟨t, ks, h⟩ => ⟨t, ks, List.mem_cons_of_mem _ h⟩) fun ⟨e, t, h⟩ => ⟨e, t, List.mem_cons_of_mem _ h⟩
  | (n, .arr _ _ _) :: ss, i, h => (boxIds_mem (ss := ss) h).imp (fun ⟨t, ks, h⟩ => ⟨t, ks, List.mem_cons_of_mem _ h⟩) fun ⟨e, t, h⟩ => ⟨e, t, List.mem_cons_of_mem _ h⟩
theorem rd_live (h : Rel X ρ st a w) {ds : List DV} (hr : rdAll sh st = some (ds, m)) : ∀ i ∈ boxIds sh.slots, Live (ρ i) := by
  intro i hi
  unfold rdAll at hr
  split at hr
  · rename_i h1 h2
    split at hr
    · rename_i h3
      rcases boxIds_mem hi with ⟨t, ks, hm⟩ | ⟨e, t, hm⟩
      · obtain ⟨t', xs, _, _, he, _⟩ := rdBoxMaps_mem h2 i t ks hm
        have h0 := h.ents i
        rw [he] at h0
        obtain ⟨g, _, _, hg, _⟩ := h0
        exact .inl ⟨g, hg⟩
      · exact .inr (rdBs_pin h h3 i e t hm)
    · cases hr
  · cases hr
/-! ### which pairs there are -/
def PairOk (p : Nat × Nat) : Prop := p.1 < 1000000 → p.2 < 1000000 ∨ p.2 = 3000000 + p.1
theorem rdLeaf_pairs {k : LK} {x : Leaf} {ds : List DV} {mm : List (Nat × Nat)} (hr : rdLeaf st k x = some (ds, mm)) : ∀ p ∈ mm, PairOk p := by
  cases k with
  | no => cases hr; exact fun p hp => nomatch hp
  | ptr b off =>
    replace hr : rdPtr b off x = some (ds, mm) := hr
    unfold rdPtr at hr
    split at hr
    · cases hc : (Nat.beq b _ && Nat.beq off _) with
      | false => rw [hc] at hr; cases hr
      | true => rw [hc] at hr; cases hr; exact fun p hp => nomatch hp
    · cases hr
  | pin n =>
    replace hr : rdPin n x = some (ds, mm) := hr
    unfold rdPin at hr
    split at hr
    · cases hc : Nat.beq n _ with
      | false => rw [hc] at hr; cases hr
      | true => rw [hc] at hr; cases hr; exact fun p hp => nomatch hp
    · cases hr
  | own n =>
    replace hr : rdOwn n x = some (ds, mm) := hr
    unfold rdOwn at hr
    split at hr
    · rename_i o
      cases hc : Nat.blt o 1000000 with
      | false => rw [hc] at hr; cases hr
      | true =>
        rw [hc] at hr
        cases hr
        intro p hp _
        rw [List.mem_singleton.1 hp]
        exact .inl (Nat.le_of_ble_eq_true hc)
    · cases hr
      intro p hp _
      rw [List.mem_singleton.1 hp]
      exact .inr rfl
    · cases hr
  | rp t =>
    replace hr : rdRp t x = some (ds, mm) := hr
    have hm : mm = [] := by
      unfold rdRp at hr
      split at hr
      · split at hr
        · cases hr; rfl
        · cases hr
      · cases hr
    subst hm
    exact fun p hp => nomatch hp
  | bor t =>
    have hs : ∀ {o : Option (List t.T)}, someL t o = some (ds, mm) → mm = [] := by
      intro o ho
      cases o <;> cases ho
      rfl
    have hm : mm = [] := by
      replace hr : rdBor st t x = some (ds, mm) := hr
      unfold rdBor at hr
      split at hr
      · exact hs hr
      · exact hs hr
      · exact hs hr
      · split at hr
        · exact hs hr
        · cases hr
      · cases hr
    subst hm
    exact fun p hp => nomatch hp
  | v t =>
    replace hr : (match pureOf st t x with
      | some (y, ns) => some ([DV.mk t y], ns.map fun o => (1000000 + o, o))
      | none => none) = some (ds, mm) := hr
    split at hr
    · cases hr
      intro p hp hlt
      obtain ⟨o, _, rfl⟩ := List.mem_map.1 hp
      exact absurd hlt (by show ¬ (1000000 + o < 1000000); omega)
    · cases hr
theorem rdLeaves_pairs : ∀ {ks : List LK} {xs : List Leaf} {ds : List DV} {mm : List (Nat × Nat)}, rdLeaves st ks xs = some (ds, mm) → ∀ p ∈ mm, PairOk p
  | [], [], _, _, hr => by cases hr; exact fun p hp => nomatch hp
  | k :: ks, x :: xs, ds, mm, hr => by
    unfold rdLeaves at hr
    split at hr
    · rename_i h1 h2
      cases hr
      intro p hp
      rcases List.mem_append.1 hp with hp | hp
      · exact rdLeaf_pairs h1 p hp
      · exact rdLeaves_pairs h2 p hp
    · cases hr
  | [], _ :: _, _, _, hr => by cases hr
  | _ :: _, [], _, _, hr => by cases hr
theorem rdTs_pairs : ∀ {ks : List (Nat × TK)} {ds : List DV} {mm : List (Nat × Nat)}, rdTs st ks = some (ds, mm) → ∀ p ∈ mm, PairOk p
  | [], _, _, hr => by cases hr; exact fun p hp => nomatch hp
  | (i, k) :: ks, ds, mm, hr => by
    unfold rdTs at hr
    split at hr
    · rename_i h1 h2
      cases hr
      intro p hp
      rcases List.mem_append.1 hp with hp | hp
      · unfold rdT at h1
        split at h1
        · exact rdLeaf_pairs h1 p hp
        · exact rdLeaves_pairs h1 p hp
        · exact rdLeaves_pairs h1 p hp
        · rename_i f _ f' _ _
          cases hf : Nat.beq f f' with
          | false => rw [hf] at h1; cases h1
          | true => rw [hf] at h1; exact rdLeaves_pairs h1 p hp
        · cases h1
      · exact rdTs_pairs h2 p hp
    · cases hr
theorem rdBoxMaps_pairs : ∀ {ss : List (Nat × BK)} {mm : List (Nat × Nat)}, rdBoxMaps st ss = some mm → ∀ p ∈ mm, PairOk p
  | [], _, hr => by cases hr; exact fun p hp => nomatch hp
  | (n, .box t ks) :: ss, mm, hr => by
    unfold rdBoxMaps at hr
    split at hr
    · split at hr
      · rename_i h1 h2
        cases hr
        intro p hp
        rcases List.mem_append.1 hp with hp | hp
        · exact rdLeaves_pairs h1 p hp
        · exact rdBoxMaps_pairs h2 p hp
      · cases hr
    · cases hr
  | (n, .arr _ _ _) :: ss, mm, hr => rdBoxMaps_pairs (ss := ss) hr
  | (n, .pin _ _) :: ss, mm, hr => rdBoxMaps_pairs (ss := ss) hr
theorem mem_pinIds : ∀ {ss : List (Nat × BK)} {n : Nat} {e : TypeId} {t : Ty}, (n, BK.pin e t) ∈ ss → n ∈ boxIds ss
  | (n', .box t' ks') :: ss, n, e, t, h => by
    rcases List.mem_cons.1 h with h | h
    · cases h
    · exact List.mem_cons_of_mem _ (mem_pinIds h)
  | (n', .pin _ _) :: ss, n, e, t, h => by
    rcases List.mem_cons.1 h with h | h
    · cases h; exact List.mem_cons_self
    · exact List.mem_cons_of_mem _ (mem_pinIds h)
  | (n', .arr _ _ _) :: ss, n, e, t, h => by
    rcases List.mem_cons.1 h with h | h
    · cases h
    · exact mem_pinIds (ss := ss) h
theorem mem_boxIds : ∀ {ss : List (Nat × BK)} {n : Nat} {t : TypeId} {ks : List LK}, (n, BK.box t ks) ∈ ss → n ∈ boxIds ss
  | (n', .pin _ _) :: ss, n, t, ks, h => by
    rcases List.mem_cons.1 h with h | h
    · cases h
    · exact List.mem_cons_of_mem _ (mem_boxIds h)
  | (n', .box t' ks') :: ss, n, t, ks, h => by
    rcases List.mem_cons.1 h with h | h
    · cases h; exact List.mem_cons_self
    · exact List.mem_cons_of_mem _ (mem_boxIds h)
  | (n', .arr _ _ _) :: ss, n, t, ks, h => by
    rcases List.mem_cons.1 h with h | h
    · cases h
    · exact mem_boxIds (ss := ss) h
theorem mem_arrIds : ∀ {ss : List (Nat × BK)} {n : Nat} {z : Bool} {e : TypeId} {t : Ty}, (n, BK.arr z e t) ∈ ss → n ∈ arrIds ss
  | (n', .pin _ _) :: ss, n, z, e, t, h => by
    rcases List.mem_cons.1 h with h | h
    · cases h
    · exact mem_arrIds (ss := ss) h
  | (n', .arr _ _ _) :: ss, n, z, e, t, h => by
    rcases List.mem_cons.1 h with h | h
    · cases h; exact List.mem_cons_self
    · exact List.mem_cons_of_mem _ (mem_arrIds h)
  | (n', .box _ _) :: ss, n, z, e, t, h => by
    rcases List.mem_cons.1 h with h | h
    · cases h
    · exact mem_arrIds (ss := ss) h
theorem ids_slots : ∀ {ss : List (Nat × BK)} {n : Nat}, n ∈ boxIds ss ∨ n ∈ arrIds ss → n ∈ ss.map (·.1)
  | [], n, h => by rcases h with h | h <;> cases h
  | (n', .box _ _) :: ss, n, h => by
    rcases h with h | h
    · rcases List.mem_cons.1 h with rfl | h
      · exact List.mem_cons_self
      · exact List.mem_cons_of_mem _ (ids_slots (.inl h))
    · exact List.mem_cons_of_mem _ (ids_slots (ss := ss) (.inr h))
  | (n', .pin _ _) :: ss, n, h => by
    rcases h with h | h
    · rcases List.mem_cons.1 h with rfl | h
      · exact List.mem_cons_self
      · exact List.mem_cons_of_mem _ (ids_slots (.inl h))
    · exact List.mem_cons_of_mem _ (ids_slots (ss := ss) (.inr h))
  | (n', .arr _ _ _) :: ss, n, h => by
    rcases h with h | h
    · exact List.mem_cons_of_mem _ (ids_slots (ss := ss) (.inl h))
    · rcases List.mem_cons.1 h with rfl | h
      · exact List.mem_cons_self
      · exact List.mem_cons_of_mem _ (ids_slots (.inr h))
theorem slots_ids : ∀ {ss : List (Nat × BK)} {n : Nat}, n ∈ ss.map (·.1) → n ∈ boxIds ss ∨ n ∈ arrIds ss
  | [], n, h => by cases h
  | (n', .box _ _) :: ss, n, h => by
    rcases List.mem_cons.1 h with rfl | h
    · exact .inl List.mem_cons_self
    · exact (slots_ids h).imp (List.mem_cons_of_mem _) id
  | (n', .pin _ _) :: ss, n, h => by
    rcases List.mem_cons.1 h with rfl | h
    · exact .inl List.mem_cons_self
    · exact (slots_ids h).imp (List.mem_cons_of_mem _) id
  | (n', .arr _ _ _) :: ss, n, h => by
    rcases List.mem_cons.1 h with rfl | h
    · exact .inr List.mem_cons_self
    · exact (slots_ids h).imp id (List.mem_cons_of_mem _)
theorem ids_disj : ∀ {ss : List (Nat × BK)}, (ss.map (·.1)).Nodup → ∀ n, n ∈ boxIds ss → n ∈ arrIds ss → False
  | [], _, n, h, _ => by cases h
  | (n', .box _ _) :: ss, hn, n, h1, h2 => by
    obtain ⟨k1, k2⟩ := List.nodup_cons.1 hn
    rcases List.mem_cons.1 h1 with rfl | h1
    · exact k1 (ids_slots (ss := ss) (.inr h2))
    · exact ids_disj k2 n h1 h2
  | (n', .pin _ _) :: ss, hn, n, h1, h2 => by
    obtain ⟨k1, k2⟩ := List.nodup_cons.1 hn
    rcases List.mem_cons.1 h1 with rfl | h1
    · exact k1 (ids_slots (ss := ss) (.inr h2))
    · exact ids_disj k2 n h1 h2
  | (n', .arr _ _ _) :: ss, hn, n, h1, h2 => by
    obtain ⟨k1, k2⟩ := List.nodup_cons.1 hn
    rcases List.mem_cons.1 h2 with rfl | h2
    · exact k1 (ids_slots (ss := ss) (.inl h1))
    · exact ids_disj k2 n h1 h2
theorem rd_sound (h : Rel X ρ st a w) (hok : shOk sh = true) {ds : List DV} (hr : rdAll sh st = some (ds, m)) {x : Prod' sh.tys} (hx : toProd sh.tys ds = some x) (hX1 : ∀ b, X b → X' b) (hX2 : ∀ b, X' b → b < w.heap.size)
    (hX3 : ∀ b, X' b → X b ∨ ∃ j, j ∉ boxIds sh.slots ++ m.map (·.2) ∧ owns (ρ j) b) :
    ∃ ρ' : Rho, Rel X' ρ' (mk sh st.n x) a w ∧ (∀ i ∈ boxIds sh.slots, ρ' i = ρ i) ∧ (∀ i, i ∉ sh.slots.map (·.1) → ρ' i = none) ∧ ∀ i b, owns (ρ' i) b → ∃ j ∈ boxIds sh.slots ++ m.map (·.2), owns (ρ j) b := by
  unfold rdAll at hr
  split at hr
  · rename_i da ma mb h1 h2
    split at hr
    · rename_i db h3
      cases hc : (agree (ma ++ mb) && disjB (boxIds sh.slots) ((ma ++ mb).map (·.2))) with
      | false => rw [hc] at hr; cases hr
      | true =>
        rw [hc] at hr
        have hr : some (da ++ db, ma ++ mb) = some (ds, m) := hr
        cases hr
        obtain ⟨c1, c2⟩ := (Bool.and_eq_true _ _).mp hc
        have hag := agree_ok c1
        have hdj := disjB_ok c2
        unfold shOk at hok
        simp only [Bool.and_eq_true] at hok
        obtain ⟨⟨⟨⟨s1, s2⟩, s3⟩, s4⟩, s5⟩ := hok
        have hnd := nodupB_ok s1
        have hsm : ∀ n ∈ sh.slots.map (·.1), n < sh.nb ∧ n < 1000000 := fun n hn => by
          obtain ⟨p, hp, rfl⟩ := List.mem_map.1 hn
          obtain ⟨t1, t2⟩ := (Bool.and_eq_true _ _).mp (List.all_eq_true.1 s3 p hp)
          exact ⟨Nat.le_of_ble_eq_true t1, Nat.le_of_ble_eq_true t2⟩
        have hpairs : ∀ p ∈ ma ++ mb, PairOk p := fun p hp => by
          rcases List.mem_append.1 hp with hp | hp
          · exact rdTs_pairs h1 p hp
          · exact rdBoxMaps_pairs h2 p hp
        let M := ma ++ mb
        let ρ' : Rho := fun i => if i ∈ boxIds sh.slots then ρ i else if i ∈ arrIds sh.slots then (match M.lookup i with | some o => if 3000000 ≤ o then some (.row (.slice none 0 0)) else ρ o | none => some (.row (.slice none 0 0))) else none
        have r1 : ∀ i ∈ boxIds sh.slots, ρ' i = ρ i := fun i hi => by
          show (if i ∈ boxIds sh.slots then ρ i else _) = _
          rw [if_pos hi]
        have rA : ∀ i, i ∈ arrIds sh.slots → ρ' i = (match M.lookup i with | some o => if 3000000 ≤ o then some (.row (.slice none 0 0)) else ρ o | none => some (.row (.slice none 0 0))) := fun i hi => by
          show (if i ∈ boxIds sh.slots then ρ i else if i ∈ arrIds sh.slots then _ else none) = _
          rw [if_neg (fun hb => ids_disj hnd i hb hi), if_pos hi]
        have r0 : ∀ i, i ∉ sh.slots.map (·.1) → ρ' i = none := fun i hi => by
          show (if i ∈ boxIds sh.slots then ρ i else if i ∈ arrIds sh.slots then _ else none) = _
          rw [if_neg (fun hb => hi (ids_slots (.inl hb))), if_neg (fun hb => hi (ids_slots (.inr hb)))]
        -- who owns in the new naming
        have own' : ∀ i b, owns (ρ' i) b → (i ∈ boxIds sh.slots ∧ owns (ρ i) b) ∨ (i ∈ arrIds sh.slots ∧ ∃ o, (i, o) ∈ M ∧ o < 3000000 ∧ owns (ρ o) b) := fun i b hb => by
          by_cases hi : i ∈ boxIds sh.slots
          · rw [r1 i hi] at hb
            exact .inl ⟨hi, hb⟩
          · by_cases hi2 : i ∈ arrIds sh.slots
            · rw [rA i hi2] at hb
              cases hl : M.lookup i with
              | none => rw [hl] at hb; cases hb
              | some o =>
                rw [hl] at hb
                dsimp only at hb
                by_cases ho : 3000000 ≤ o
                · rw [if_pos ho] at hb; cases hb
                · rw [if_neg ho] at hb
                  exact .inr ⟨hi2, o, lookup_mem hl, by omega, hb⟩
            · rw [r0 i (fun hm => (slots_ids hm).elim hi hi2)] at hb
              exact hb.elim
        have used : ∀ i b, owns (ρ' i) b → ∃ j ∈ boxIds sh.slots ++ M.map (·.2), owns (ρ j) b := fun i b hb => by
          rcases own' i b hb with ⟨hi, hb⟩ | ⟨_, o, ho, _, hb⟩
          · exact ⟨i, List.mem_append_left _ hi, hb⟩
          · exact ⟨o, List.mem_append_right _ (List.mem_map.2 ⟨_, ho, rfl⟩), hb⟩
        have notX : ∀ j b, j ∈ boxIds sh.slots ++ M.map (·.2) → owns (ρ j) b → ¬ X' b := fun j b hj hb hx => by
          rcases hX3 b hx with hx | ⟨k, hk, hb'⟩
          · exact (h.lt j b hb).2 hx
          · have := h.sep k j b hb' hb
            subst this
            exact hk hj
        have hfix : ∀ b, Fix X ρ w b → Fix X' ρ' w b := fun b hb => by
          refine ⟨hb.1, fun hx => ?_, fun i hi => ?_⟩
          · rcases hX3 b hx with hx | ⟨k, _, hb'⟩
            · exact hb.2.1 hx
            · exact hb.2.2 k hb'
          · obtain ⟨j, _, hj⟩ := used i b hi
            exact hb.2.2 j hj
        have hbrw : ∀ b, Brw ρ w b → Brw ρ' w b := fun b hb => ⟨hb.1, fun i hi => by
          obtain ⟨j, _, hj⟩ := used i b hi
          exact hb.2 j hj⟩
        have H : RdOk X X' ρ ρ' w sh M := by
          refine ⟨r1, ?_, ?_, hfix, hbrw, ?_, ?_⟩
          · intro n o hno h1 h2
            obtain ⟨o', ho'⟩ := mem_lookup hno
            have e := (hag _ (lookup_mem ho') _ hno).1 rfl
            have e : o' = o := e
            rw [rA n h1, ho']
            dsimp only
            rw [if_neg (by omega), e]
          · intro n hno h1
            obtain ⟨o', ho'⟩ := mem_lookup hno
            have e := (hag _ (lookup_mem ho') _ hno).1 rfl
            have e : o' = 3000000 + n := e
            rw [rA n h1, ho']
            dsimp only
            rw [if_pos (by omega)]
          · intro o hno b hb
            refine ⟨(h.lt o b hb).1, notX o b (List.mem_append_right _ (List.mem_map.2 ⟨_, hno, rfl⟩)) hb, fun i hi => ?_⟩
            rcases own' i b hi with ⟨hi, hb'⟩ | ⟨hi, o', ho, _, hb'⟩
            · have := h.sep i o b hb' hb
              subst this
              exact hdj i hi (List.mem_map.2 ⟨_, hno, rfl⟩)
            · have := h.sep o' o b hb' hb
              subst this
              have e := (hag _ ho _ hno).2 rfl
              have := (hsm i (ids_slots (.inr hi))).2
              have e : i = 1000000 + o' := e
              omega
          · intro n hn
            exact (hsm n (ids_slots (.inr hn))).2
        have hof : ofProd sh.tys x = da ++ db := of_toProd hx
        obtain ⟨t1, t2⟩ := rdTs_ok H h s4 h1 (fun p hp => List.mem_append_left _ hp) db [] (fun j => by rw [getL_nil]; trivial)
        have hents := rdBs_ok H h s5 h3 (fun n k hn => ⟨fun t ks e => by
            subst e
            obtain ⟨t', xs, d1, m1, e1, e2, e3⟩ := rdBoxMaps_mem h2 n t ks hn
            exact ⟨mem_boxIds hn, t', xs, d1, m1, e1, e2, fun p hp => List.mem_append_right _ (e3 p hp)⟩, (fun e t ek => by subst ek; exact mem_pinIds hn), fun z e t ek => by
            subst ek
            have hn1 := mem_arrIds hn
            have hn2 := (hsm n (ids_slots (.inr hn1))).2
            refine ⟨hn1, fun hl => ?_, fun o hl ho => ?_, fun o hl ho => ?_⟩
            · rw [rA n hn1, hl]
            · rcases hpairs _ (lookup_mem hl) hn2 with h | h
              · exact absurd h (by show ¬ (o < 1000000); omega)
              · exact h
            · rcases hpairs _ (lookup_mem hl) hn2 with h | h
              · exact h
              · have h : o = 3000000 + n := h
                omega⟩) [] (fun i => by rw [getL_nil]; trivial)
        refine ⟨ρ', ⟨h.defers, h.size, ?_, ?_, ?_, ?_, (fun _ _ _ _ hm => nomatch hm), ?_, hX2, ⟨h.gl.1, fun n hn i hi => by
          obtain ⟨j, _, hj⟩ := used i n hi
          exact h.gl.2 n hn j hj⟩⟩, r1, r0, used⟩
        · intro i j b hi hj
          rcases own' i b hi with ⟨hi1, hi2⟩ | ⟨hi1, o1, ho1, _, hi2⟩ <;> rcases own' j b hj with ⟨hj1, hj2⟩ | ⟨hj1, o2, ho2, _, hj2⟩
          · exact h.sep i j b hi2 hj2
          · have := h.sep i o2 b hi2 hj2
            subst this
            exact (hdj i hi1 (List.mem_map.2 ⟨_, ho2, rfl⟩)).elim
          · have := h.sep o1 j b hi2 hj2
            subst this
            exact (hdj o1 hj1 (List.mem_map.2 ⟨_, ho1, rfl⟩)).elim
          · have := h.sep o1 o2 b hi2 hj2
            exact (hag _ ho1 _ ho2).2 this
        · intro i b hi
          obtain ⟨j, hj, hb⟩ := used i b hi
          exact ⟨(h.lt j b hb).1, notX j b hj hb⟩
        · intro i
          show EntOk X' ρ' w (getL .free (mkBs sh.slots (mkTs sh.tmps (ofProd sh.tys x) []).2 []) i) (ρ' i)
          rw [hof, t2]
          exact hents i
        · intro i
          show AvOk X' ρ' w (getL .unk (mkTs sh.tmps (ofProd sh.tys x) []).1 i) (tmOf a i)
          rw [hof]
          exact t1 i
        · refine ⟨fun i hi => r0 i fun hm => ?_, fun p hp => nomatch hp⟩
          have := (hsm i hm).1
          rcases hi with ⟨hi, _⟩ | ⟨p, hp, _⟩
          · have hi : sh.nb ≤ i := hi
            omega
          · cases hp
    · cases hr
  · cases hr
end
end Go.Proofs.YtcnkbllbpimaiaaGreatDoorE
