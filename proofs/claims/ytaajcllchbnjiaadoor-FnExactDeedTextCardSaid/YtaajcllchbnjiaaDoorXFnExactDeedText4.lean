/- What the law FnExactDeedText needs, part 5 of 8: the Lean functions of the Go functions that it reaches, with the proofs that the calls come to what they say, and plain facts about them. Conditions: those that each theorem states. Written by a session and by its programs (after the kit's printer). -/
import Derived.Test.YtaajcllchbnjiaaDoorXFnExactDeedText3
namespace Go.Proofs.YtaajcllchbnjiaaDoorE
open Go Go.RowKit
set_option linter.unusedVariables false
section
variable {P : Program} {X : Nat → Prop} {ρ ρ' : Rho} {st st' : St} {a : Act} {w w' : World} {R : Type} {r : R} {C : Ctx} {F B : Nat → Prop}
/-- What slots stood for, later. -/
def Later (ρ : Rho) (n : Nat) (cs : List Conc) : Prop := ∀ (j : Nat) (c : Conc), cs[j]? = some c → ρ (n + j) = some c ∨ ρ (n + j) = some .dead ∨ ∃ v, c = .row v ∧ ρ (n + j) = some (.frz v)
theorem Later.left {n : Nat} {O1 O2 : List Conc} (h : Later ρ n (O1 ++ O2)) : Later ρ n O1 := fun j u hj => h j u (by rw [List.getElem?_append_left (List.getElem?_eq_some_iff.1 hj).1]; exact hj)
theorem Later.right {n : Nat} {O1 O2 : List Conc} (h : Later ρ n (O1 ++ O2)) : Later ρ (n + O1.length) O2 := fun j u hj => by
  have := h (O1.length + j) u (by rw [List.getElem?_append_right (by omega)]; simpa using hj)
  rwa [← Nat.add_assoc] at this
theorem Later.tail {n : Nat} {c : Conc} {cs : List Conc} (h : Later ρ n (c :: cs)) : Later ρ (n + 1) cs := Later.right (O1 := [c]) h
theorem RRefs.append : ∀ {L1 L2 : List GI} {r1 r2 : List RF} {O1 O2 : List Conc}, RRefs w F L1 r1 O1 → RRefs w F L2 r2 O2 → RRefs w F (L1 ++ L2) (r1 ++ r2) (O1 ++ O2)
  | [], _, [], _, O1, O2, h, k => by
    obtain rfl : O1 = [] := h
    exact k
  | .blk g :: L, _, .box t xs :: rs, _, O1, O2, h, k => by
    obtain ⟨A, B, cs, fr, rfl, h1, h2, h3, h4⟩ := h
    exact ⟨A, B ++ O2, cs, fr, List.append_assoc _ _ _, h1, h2, h3, RRefs.append h4 k⟩
  | .row v :: L, _, .row e t l :: rs, _, _, _, h, k => ⟨h.1, RRefs.append h.2 k⟩
  | .no :: L, _, .row e t l :: rs, _, _, _, h, k => RRefs.append (L1 := L) (r1 := rs) h k
  | [], _, _ :: _, _, _, _, h, _ => h.elim
  | .blk _ :: _, _, [], _, _, _, h, _ => h.elim
  | .row _ :: _, _, [], _, _, _, h, _ => h.elim
  | .no :: _, _, [], _, _, _, h, _ => h.elim
  | .blk _ :: _, _, .row _ _ _ :: _, _, _, _, h, _ => h.elim
  | .row _ :: _, _, .box _ _ :: _, _, _, _, h, _ => h.elim
  | .no :: _, _, .box _ _ :: _, _, _, _, h, _ => h.elim
/-- What was lent, as the contract tells it; S: the lent slots of rows; T: those of variables. -/
structure ToldB (X : Nat → Prop) (ρ : Rho) (w : World) (d : DR) (L : List GI) (rs : List RF) (O : List Conc) (S T : List Nat) : Prop where
  sub : (O.filterMap cb).Sublist (d.owns.filterMap fun n => cbO (ρ n))
  told : ∀ F : Nat → Prop, (∀ b, FixOr X ρ w d.pures b → F b) → RRefs w F L rs O
  rows : ∀ n ∈ d.owns ++ d.pures, ∃ u, ρ n = some (.row u)
  lent : ∀ n ∈ S, ∃ u, ρ n = some (.row u)
  boxes : ∀ n ∈ T, ∃ g, ρ n = some (.blk g)
  own : ∀ b ∈ GI.blocks L, ∃ n ∈ S ++ T, owns (ρ n) b
theorem ToldB.nil : ToldB X ρ w DR.nil [] [] [] [] [] := ⟨List.Sublist.refl _, fun F _ => rfl, (fun n hn => nomatch hn), (fun n hn => nomatch hn), (fun n hn => nomatch hn), fun n hn => nomatch hn⟩
theorem ToldB.app {d1 d2 : DR} {L1 L2 : List GI} {r1 r2 : List RF} {O1 O2 : List Conc} {S1 S2 T1 T2 : List Nat} (h : ToldB X ρ w d1 L1 r1 O1 S1 T1) (k : ToldB X ρ w d2 L2 r2 O2 S2 T2) :
    ToldB X ρ w (d1.app d2) (L1 ++ L2) (r1 ++ r2) (O1 ++ O2) (S1 ++ S2) (T1 ++ T2) := by
  refine ⟨?_, ?_, rows_app h.rows k.rows, ?_, ?_, ?_⟩
  · rw [List.filterMap_append]
    show List.Sublist _ ((d1.owns ++ d2.owns).filterMap _)
    rw [List.filterMap_append]
    exact h.sub.append k.sub
  · exact fun F hF => (h.told F fun b hb => hF b (hb.mono fun n hn => List.mem_append_left _ hn)).append (k.told F fun b hb => hF b (hb.mono fun n hn => List.mem_append_right _ hn))
  · exact fun n hn => (List.mem_append.1 hn).elim (h.lent n) (k.lent n)
  · exact fun n hn => (List.mem_append.1 hn).elim (h.boxes n) (k.boxes n)
  · intro b hb
    rw [blocks_app] at hb
    rcases List.mem_append.1 hb with hb | hb
    · obtain ⟨n, h1, h2⟩ := h.own b hb
      refine ⟨n, ?_, h2⟩
      rcases List.mem_append.1 h1 with h1 | h1
      · exact List.mem_append_left _ (List.mem_append_left _ h1)
      · exact List.mem_append_right _ (List.mem_append_left _ h1)
    · obtain ⟨n, h1, h2⟩ := k.own b hb
      refine ⟨n, ?_, h2⟩
      rcases List.mem_append.1 h1 with h1 | h1
      · exact List.mem_append_left _ (List.mem_append_right _ h1)
      · exact List.mem_append_right _ (List.mem_append_right _ h1)
theorem range_cons (n k : Nat) : (List.range (k + 1)).map (n + ·) = n :: (List.range k).map (n + 1 + ·) := by
  rw [List.range_succ_eq_map, List.map_cons, List.map_map]
  refine congrArg (n :: ·) (List.map_congr_left fun i _ => ?_)
  show n + (i + 1) = n + 1 + i
  omega
theorem backRows_ok (h : Rel X ρ st a w) : ∀ {ks : List (TypeId × Ty)} {n : Nat} {ds : List DV} {L : List GI} {cs : List Conc} (es : List DV), backRows st ks n = some ds → LRows L cs → cs.length = ks.length → Later ρ n cs →
    ToldB X ρ w DR.nil L (encRows ks (ds ++ es)).1 [] ((List.range ks.length).map (n + ·)) [] ∧ (encRows ks (ds ++ es)).2 = es
  | [], n, ds, L, cs, es, hs, hl, hn, hc => by
    cases hs
    match L, cs, hl, hn with
    | [], [], _, _ => exact ⟨ToldB.nil, rfl⟩
    | .row _ :: _, [], h, _ => exact h.elim
    | .no :: _, [], h, _ => exact h.elim
  | (e, t) :: ks, n, ds, L, cs, es, hs, hl, hn, hc => by
    unfold backRows at hs
    split at hs
    · rename_i d ds' hd hds
      cases hs
      match cs, hn with
      | c :: cs, hn =>
      have hn' : cs.length = ks.length := Nat.succ.inj hn
      replace hd : (match st.ent n with
        | .arr false e' _ l => match castL (r := t) l with
          | some l => bif Nat.beq e e' then some (⟨[.mk (.sl t) l], [n], []⟩ : DR) else none
          | none => none
        | _ => none) = some d := hd
      split at hd
      · rename_i e' t' l he
        have h0 := h.ents n
        rw [he] at h0
        obtain ⟨v, hv, h0⟩ := h0
        split at hd
        · rename_i l2 hl2
          cases hee : Nat.beq e e' with
          | false => rw [hee] at hd; cases hd
          | true =>
            rw [hee] at hd
            cases hd
            obtain rfl := Nat.eq_of_beq_eq_true hee
            obtain ⟨ee, rfl⟩ := castL_some hl2
            subst ee
            have hc0 : c = .row v := by
              have := hc 0 c rfl
              rw [Nat.add_zero, hv] at this
              rcases this with q | q | ⟨u, _, q⟩
              · cases q; rfl
              · cases q
              · cases q
            subst hc0
            have e1 : encRows ((e, t') :: ks) ([DV.mk (.sl t') l] ++ ds' ++ es) = (.row e t' l :: (encRows ks (ds' ++ es)).1, (encRows ks (ds' ++ es)).2) := rfl
            rw [show (DR.ds ⟨[DV.mk (.sl t') l], [n], []⟩ : List DV) = [DV.mk (.sl t') l] from rfl, e1, show ((e, t') :: ks).length = ks.length + 1 from rfl, range_cons]
            match L, hl with
            | .row v' :: L, hl =>
              obtain ⟨rfl, hl⟩ := hl
              obtain ⟨i1, i2⟩ := backRows_ok h (n := n + 1) es hds hl hn' hc.tail
              refine ⟨⟨i1.sub, fun F hF => ⟨h0.mono fun b hb => hF b (.inl hb), i1.told F hF⟩, i1.rows, fun m hm => ?_, i1.boxes, fun b hb => ?_⟩, i2⟩
              · rcases List.mem_cons.1 hm with rfl | hm
                · exact ⟨v, hv⟩
                · exact i1.lent m hm
              · rcases List.mem_append.1 (show b ∈ (ownB v).toList ++ GI.blocks L from hb) with hb | hb
                · refine ⟨n, List.mem_append_left _ List.mem_cons_self, ?_⟩
                  rw [hv]
                  exact Option.mem_toList.1 hb
                · obtain ⟨m, m1, m2⟩ := i1.own b hb
                  exact ⟨m, List.mem_cons_of_mem _ m1, m2⟩
            | .no :: L, hl =>
              obtain ⟨_, hl⟩ := hl
              obtain ⟨i1, i2⟩ := backRows_ok h (n := n + 1) es hds hl hn' hc.tail
              refine ⟨⟨i1.sub, fun F hF => i1.told F hF, i1.rows, fun m hm => ?_, i1.boxes, fun b hb => ?_⟩, i2⟩
              · rcases List.mem_cons.1 hm with rfl | hm
                · exact ⟨v, hv⟩
                · exact i1.lent m hm
              · obtain ⟨m, m1, m2⟩ := i1.own b hb
                exact ⟨m, List.mem_cons_of_mem _ m1, m2⟩
        · cases hd
      · cases hd
    · cases hs
theorem backBox_ok (h : Rel X ρ st a w) {tid : TypeId} {ks : List RK} {n : Nat} {d : DR} {g : Nat} (es : List DV) (hs : backBox st tid ks n = some d) (hc : Later ρ n [.blk g]) :
    ∃ O, ToldB X ρ w d [.blk g] [.box tid (encRK ks (d.ds ++ es)).1] O [] [n] ∧ (encRK ks (d.ds ++ es)).2 = es := by
  unfold backBox at hs
  split at hs
  · rename_i t xs he
    cases ht : Nat.beq t tid with
    | false => rw [ht] at hs; cases hs
    | true =>
      rw [ht] at hs
      replace hs : decRK st ks xs = some d := hs
      obtain rfl := Nat.eq_of_beq_eq_true ht
      have h0 := h.ents n
      rw [he] at h0
      obtain ⟨gb, cs, fr, hρ, hh, hun, hys⟩ := h0
      have hg : gb = g := by
        have := hc 0 _ rfl
        rw [Nat.add_zero, hρ] at this
        rcases this with q | q | ⟨u, _, q⟩
        · cases q; rfl
        · cases q
        · cases q
      subst hg
      obtain ⟨O, t1, e1⟩ := decRK_ok h es hys hs
      refine ⟨O, ⟨t1.2.1, fun F hF => ⟨O, [], cs, fr, (List.append_nil _).symm, hh, hun, t1.1 F hF, rfl⟩, t1.2.2.2, (fun m hm => nomatch hm), fun m hm => ?_, fun b hb => ?_⟩, e1⟩
      · rw [List.mem_singleton.1 hm]; exact ⟨gb, hρ⟩
      · refine ⟨n, List.mem_singleton.2 rfl, ?_⟩
        rw [hρ]
        exact List.mem_singleton.1 hb
  · cases hs
theorem roT_beq {tid : TypeId} (h : tid ≠ roT) : Nat.beq tid roT = false := by
  cases hb : Nat.beq tid roT with
  | false => rfl
  | true => exact absurd (Nat.eq_of_beq_eq_true hb) h
theorem backCaps_ok (h : Rel X ρ st a w) : ∀ {ks : List (TypeId × Ty × List PL)} {n : Nat} {d : DR} {L : List GI} {cs : List Conc} (es : List DV), backCaps st ks n = some d → CSlots ks L cs → Later ρ n cs →
    ∃ O, ToldB X ρ w d L (encCaps ks (d.ds ++ es)).1 O [] (refsOf.capRefs ks n) ∧ (encCaps ks (d.ds ++ es)).2 = es
  | [], n, d, L, cs, es, hs, hl, hc => by
    cases hs
    obtain ⟨rfl, rfl⟩ := hl
    exact ⟨[], ToldB.nil, rfl⟩
  | (tid, t, ms) :: ks, n, d, L, cs, es, hs, hl, hc => by
    replace hl : (if tid = roT then CSlots ks L cs else ∃ g rest L' cs', L = .blk g :: L' ∧ cs = .blk g :: rest ++ cs' ∧ rest.length = rowsN (leafTys t) ms ∧ CSlots ks L' cs') := hl
    by_cases hro : tid = roT
    · subst hro
      rw [if_pos rfl] at hl
      exact backCaps_ok h (ks := ks) es hs hl hc
    rw [if_neg hro] at hl
    obtain ⟨g, rest, L', cs', rfl, rfl, hr, hl⟩ := hl
    unfold backCaps at hs
    rw [roT_beq hro] at hs
    simp only [cond_false] at hs
    split at hs
    · rename_i d1 d2 h1 h2
      cases hs
      have hc1 : Later ρ n [.blk g] := Later.left (O2 := rest ++ cs') hc
      have hc2 := Later.right (O1 := .blk g :: rest) (O2 := cs') hc
      rw [show (Conc.blk g :: rest).length = rest.length + 1 from rfl, hr, show n + (rowsN (leafTys t) ms + 1) = n + 1 + rowsN (leafTys t) ms by omega] at hc2
      obtain ⟨O2, t2, e2⟩ := backCaps_ok h es h2 hl hc2
      obtain ⟨O1, t1, e1⟩ := backBox_ok h (d2.ds ++ es) h1 hc1
      have e3 : encCaps ((tid, t, ms) :: ks) ((d1.app d2).ds ++ es) = (.box tid (encRK (backKs (leafTys t) ms) (d1.ds ++ (d2.ds ++ es))).1 :: (encCaps ks (d2.ds ++ es)).1, (encCaps ks (d2.ds ++ es)).2) := by
        have e0 : ∀ ds, encCaps ((tid, t, ms) :: ks) ds = bif Nat.beq tid roT then encCaps ks ds else (.box tid (encRK (backKs (leafTys t) ms) ds).1 :: (encCaps ks (encRK (backKs (leafTys t) ms) ds).2).1, (encCaps ks (encRK (backKs (leafTys t) ms) ds).2).2) := fun _ => rfl
        rw [e0, roT_beq hro]
        show (RF.box tid (encRK (backKs (leafTys t) ms) ((d1.ds ++ d2.ds) ++ es)).1 :: (encCaps ks (encRK (backKs (leafTys t) ms) ((d1.ds ++ d2.ds) ++ es)).2).1, (encCaps ks (encRK (backKs (leafTys t) ms) ((d1.ds ++ d2.ds) ++ es)).2).2) = _
        rw [List.append_assoc, e1]
      have e4 : refsOf.capRefs ((tid, t, ms) :: ks) n = n :: refsOf.capRefs ks (n + 1 + rowsN (leafTys t) ms) := by
        have e0 : refsOf.capRefs ((tid, t, ms) :: ks) n = bif Nat.beq tid roT then refsOf.capRefs ks n else n :: refsOf.capRefs ks (n + 1 + rowsN (leafTys t) ms) := rfl
        rw [e0, roT_beq hro]
        rfl
      rw [e3, e4]
      exact ⟨O1 ++ O2, t1.app t2, e2⟩
    · cases hs
theorem capsN_len : ∀ {ks : List (TypeId × Ty × List PL)} {L : List GI} {cs : List Conc}, CSlots ks L cs → cs.length = capsN ks
  | [], _, _, ⟨_, h⟩ => by rw [h]; rfl
  | (tid, t, ms) :: ks, L, cs, hl => by
    replace hl : (if tid = roT then CSlots ks L cs else ∃ g rest L' cs', L = .blk g :: L' ∧ cs = .blk g :: rest ++ cs' ∧ rest.length = rowsN (leafTys t) ms ∧ CSlots ks L' cs') := hl
    by_cases hro : tid = roT
    · subst hro
      rw [if_pos rfl] at hl
      exact capsN_len (ks := ks) hl
    rw [if_neg hro] at hl
    obtain ⟨g, rest, L', cs', _, h2, h3, h4⟩ := hl
    rw [h2, List.length_append, capsN_len h4]
    have e0 : capsN ((tid, t, ms) :: ks) = bif Nat.beq tid roT then capsN ks else 1 + rowsN (leafTys t) ms + capsN ks := rfl
    rw [e0, roT_beq hro]
    show rest.length + 1 + capsN ks = 1 + rowsN (leafTys t) ms + capsN ks
    rw [h3]
    omega
theorem backPs_ok (h : Rel X ρ st a w) : ∀ {ps : List PK} {n : Nat} {d : DR} {S : List Nat} {L : List GI} {cs : List Conc}, backPs st ps n = some (d, S) → PSlots ps L cs → Later ρ n cs →
    ∃ O, ToldB X ρ w d L (encBacks ps d.ds) O S (refsOf ps n)
  | [], n, d, S, L, cs, hs, hl, hc => by
    cases hs
    obtain ⟨rfl, rfl⟩ := hl
    exact ⟨[], ToldB.nil⟩
  | .val ag t ms :: ps, n, d, S, L, cs, hs, hl, hc => by
    obtain ⟨L1, L2, c1, c2, rfl, rfl, hl1, hl2⟩ := hl
    obtain ⟨hl1, hn1⟩ := hl1
    unfold backPs at hs
    split at hs
    · rename_i ds b h1 h2
      cases hs
      have hc2 := hc.right
      rw [hn1] at hc2
      obtain ⟨O2, t2⟩ := backPs_ok h (d := b.1) (S := b.2) h2 hl2 hc2
      obtain ⟨t1, e1⟩ := backRows_ok h b.1.ds h1 hl1 hn1 hc.left
      refine ⟨[] ++ O2, ?_⟩
      have := t1.app t2
      have e3 : encBacks (.val ag t ms :: ps) (ds ++ b.1.ds) = (encRows (rowKs (leafTys t) ms) (ds ++ b.1.ds)).1 ++ encBacks ps b.1.ds := by
        show (encRows (rowKs (leafTys t) ms) (ds ++ b.1.ds)).1 ++ encBacks ps (encRows (rowKs (leafTys t) ms) (ds ++ b.1.ds)).2 = _
        rw [e1]
      rw [← e3] at this
      exact ⟨this.sub, this.told, this.rows, this.lent, this.boxes, this.own⟩
    · cases hs
  | .rptr t :: ps, n, d, S, L, cs, hs, hl, hc => by
    obtain ⟨L1, L2, c1, c2, rfl, rfl, ⟨rfl, rfl⟩, hl2⟩ := hl
    exact backPs_ok h (ps := ps) hs hl2 hc
  | .ref tid t ms :: ps, n, d, S, L, cs, hs, hl, hc => by
    obtain ⟨L1, L2, c1, c2, rfl, rfl, ⟨g, rest, rfl, rfl, hn1⟩, hl2⟩ := hl
    unfold backPs at hs
    split at hs
    · rename_i d1 b h1 h2
      cases hs
      have hc1 : Later ρ n [.blk g] := Later.left (O2 := rest ++ c2) hc
      have hc2 := Later.right (O1 := .blk g :: rest) (O2 := c2) hc
      rw [show (Conc.blk g :: rest).length = rest.length + 1 from rfl, hn1, show n + (rowsN (leafTys t) ms + 1) = n + 1 + rowsN (leafTys t) ms by omega] at hc2
      obtain ⟨O2, t2⟩ := backPs_ok h (d := b.1) (S := b.2) h2 hl2 hc2
      obtain ⟨O1, t1, e1⟩ := backBox_ok h b.1.ds h1 hc1
      refine ⟨O1 ++ O2, ?_⟩
      have := t1.app t2
      have e3 : encBacks (.ref tid t ms :: ps) (d1.app b.1).ds = [.box tid (encRK (backKs (leafTys t) ms) (d1.ds ++ b.1.ds)).1] ++ encBacks ps b.1.ds := by
        show [RF.box tid (encRK (backKs (leafTys t) ms) (d1.ds ++ b.1.ds)).1] ++ encBacks ps (encRK (backKs (leafTys t) ms) (d1.ds ++ b.1.ds)).2 = _
        rw [e1]
      rw [← e3] at this
      exact this
    · cases hs
  | .fn f ks :: ps, n, d, S, L, cs, hs, hl, hc => by
    obtain ⟨L1, L2, c1, c2, rfl, rfl, hl1, hl2⟩ := hl
    replace hl1 : CSlots ks L1 c1 := hl1
    unfold backPs at hs
    split at hs
    · rename_i d1 b h1 h2
      cases hs
      have hc2 := hc.right
      rw [capsN_len hl1] at hc2
      obtain ⟨O2, t2⟩ := backPs_ok h (d := b.1) (S := b.2) h2 hl2 hc2
      obtain ⟨O1, t1, e1⟩ := backCaps_ok h b.1.ds h1 hl1 hc.left
      refine ⟨O1 ++ O2, ?_⟩
      have := t1.app t2
      have e3 : encBacks (.fn f ks :: ps) (d1.app b.1).ds = (encCaps ks (d1.ds ++ b.1.ds)).1 ++ encBacks ps b.1.ds := by
        show (encCaps ks (d1.ds ++ b.1.ds)).1 ++ encBacks ps (encCaps ks (d1.ds ++ b.1.ds)).2 = _
        rw [e1]
      rw [← e3] at this
      exact this
    · cases hs
  | .mv e r :: ps, n, d, S, L, cs, hs, hl, hc => by
    obtain ⟨L1, L2, c1, c2, rfl, rfl, ⟨rfl, v, rfl⟩, hl2⟩ := hl
    exact backPs_ok h (ps := ps) hs hl2 (Later.right (O1 := [.row v]) hc)
end
end Go.Proofs.YtaajcllchbnjiaaDoorE

namespace Go.Proofs.YtaajcllchbnjiaaDoorE
open Go Go.RowKit
set_option linter.unusedVariables false
section
variable {P : Program} {X : Nat → Prop} {ρ ρ' : Rho} {st st' : St} {a : Act} {w w' : World} {R : Type} {r : R} {C : Ctx} {F B : Nat → Prop}
theorem rowok_lt {z : Bool} {e : TypeId} {t : Ty} {v : Value} {l : List t.T} (h : RowOk w F z e t v l) {b : Nat} (hb : ownB v = some b) : b < w.heap.size := by
  rcases h.cases with ⟨_, ⟨rfl, _⟩ | ⟨g, cap, cs, fr, rfl, hg, _⟩⟩ | ⟨_, _, g, _, _, _, rfl, hg, _⟩
  · cases hb
  · cases hb; exact (Array.getElem?_eq_some_iff.1 hg).1
  · cases hb; exact (Array.getElem?_eq_some_iff.1 hg).1
theorem vls_lt : ∀ {xs : List CL} {vs : List Value} {L : List GI}, VLs w F B xs vs L → ∀ g ∈ GI.blocks L, g < w.heap.size
  | [], [], L, h, g, hg => by
    obtain rfl : L = [] := h
    cases hg
  | .leaf _ :: _, _ :: _, L, h, g, hg => vls_lt h.2 g hg
  | .row e t l :: xs, v :: vs, .row u :: L, ⟨h1, h2, h3⟩, g, hg => by
    rcases List.mem_append.1 (show g ∈ (ownB u).toList ++ GI.blocks L from hg) with hg | hg
    · subst h1
      exact rowok_lt h2 (Option.mem_toList.1 hg)
    · exact vls_lt h3 g hg
  | .nil :: _, _ :: _, .no :: L, h, g, hg => vls_lt h.2 g hg
  | [], _ :: _, _, h, _, _ => h.elim
  | .leaf _ :: _, [], _, h, _, _ => h.elim
theorem mls_lt : ∀ {xs : List CL} {vs : List Value} {M : List Value}, MLs w F B xs vs M → ∀ g ∈ mBlocks M, g < w.heap.size
  | [], [], M, h, g, hg => by
    obtain rfl : M = [] := h
    cases hg
  | .leaf _ :: _, _ :: _, M, h, g, hg => mls_lt h.2 g hg
  | .row e t l :: xs, v :: vs, u :: M, ⟨h1, h2, h3⟩, g, hg => by
    subst h1
    obtain ⟨q, hq, hg2⟩ := List.mem_filterMap.1 hg
    rcases List.mem_cons.1 hq with rfl | hq
    · exact rowok_lt h2 hg2
    · exact mls_lt h3 g (List.mem_filterMap.2 ⟨q, hq, hg2⟩)
  | .nil :: _, _ :: _, M, h, g, hg => mls_lt h.2 g hg
  | [], _ :: _, _, h, _, _ => h.elim
  | .leaf _ :: _, [], _, h, _, _ => h.elim
theorem boxok_lt {t : TypeId} {xs : List CL} {v : Value} {L : List GI} {M : List Value} (h : BoxOk w F B t xs v L M) : ∀ g ∈ GI.blocks L ++ mBlocks M, g < w.heap.size := by
  obtain ⟨g0, cs, fr, rfl, rfl, hh, hu, hm⟩ := h
  intro g hg
  rcases List.mem_append.1 hg with hg | hg
  · rw [List.mem_singleton.1 hg]; exact (Array.getElem?_eq_some_iff.1 hh).1
  · exact mls_lt hm g hg
theorem mem4 {A1 A2 B1 B2 : List Nat} {g : Nat} (h : g ∈ (A1 ++ A2) ++ (B1 ++ B2)) : g ∈ A1 ++ B1 ∨ g ∈ A2 ++ B2 := by
  simp only [List.mem_append] at h ⊢
  rcases h with (h | h) | (h | h)
  · exact .inl (.inl h)
  · exact .inr (.inl h)
  · exact .inl (.inr h)
  · exact .inr (.inr h)
theorem capok_lt {c : TypeId × List CL} {v : Value} {L : List GI} {M : List Value} (h : CapOk w F B c v L M) : ∀ g ∈ GI.blocks L ++ mBlocks M, g < w.heap.size := by
  unfold CapOk at h
  split at h
  · obtain ⟨rfl, rfl, _⟩ := h
    intro g hg
    cases hg
  · exact boxok_lt h
theorem caps_lt : ∀ {xs : List (TypeId × List CL)} {vs : List Value} {L : List GI} {M : List Value}, CapsOk w F B xs vs L M → ∀ g ∈ GI.blocks L ++ mBlocks M, g < w.heap.size
  | [], [], L, M, h, g, hg => by
    obtain ⟨rfl, rfl⟩ := h
    cases hg
  | _ :: _, _ :: _, _, _, ⟨L1, L2, M1, M2, rfl, rfl, h3, h4⟩, g, hg => by
    rw [blocks_app, mBlocks_app] at hg
    exact (mem4 hg).elim (capok_lt h3 g) (caps_lt h4 g)
  | [], _ :: _, _, _, h, _, _ => h.elim
  | _ :: _, [], _, _, h, _, _ => h.elim
theorem arg_lt {x : CArg} {v : Value} {L : List GI} {M : List Value} (h : CArgOk w F B x v L M) : ∀ g ∈ GI.blocks L ++ mBlocks M, g < w.heap.size := by
  match x, h with
  | .val false xs, ⟨h1, h2⟩ =>
    subst h1
    intro g hg
    rcases List.mem_append.1 hg with hg | hg
    · exact vls_lt h2 g hg
    · cases hg
  | .val true xs, ⟨h1, cs, h2, h3⟩ =>
    subst h1
    intro g hg
    rcases List.mem_append.1 hg with hg | hg
    · exact vls_lt h3 g hg
    · cases hg
  | .rptr xs, ⟨h1, h2, _⟩ =>
    subst h1
    subst h2
    intro g hg
    cases hg
  | .ref t xs, h => exact boxok_lt h
  | .fn f caps, ⟨cs, _, h⟩ => exact caps_lt h
  | .mv e r l, ⟨h1, h2, h3⟩ =>
    subst h1
    subst h2
    intro g hg
    rcases List.mem_append.1 hg with hg | hg
    · cases hg
    · obtain ⟨q, hq, hg2⟩ := List.mem_filterMap.1 hg
      rw [List.mem_singleton.1 hq] at hg2
      exact rowok_lt h3 hg2
theorem args_lt : ∀ {asx : List CArg} {vs : List Value} {L : List GI} {M : List Value}, CArgsOk w F B asx vs L M → (∀ g ∈ GI.blocks L ++ mBlocks M, g < w.heap.size) ∧ asx.length = vs.length
  | [], [], L, M, h => by
    obtain ⟨rfl, rfl⟩ := h
    exact ⟨(fun g hg => nomatch hg), rfl⟩
  | x :: asx, v :: vs, _, _, ⟨L1, L2, M1, M2, rfl, rfl, h3, h4⟩ => by
    obtain ⟨i1, i2⟩ := args_lt h4
    refine ⟨fun g hg => ?_, congrArg (· + 1) i2⟩
    rw [blocks_app, mBlocks_app] at hg
    exact (mem4 hg).elim (arg_lt h3 g) (i1 g)
  | [], _ :: _, _, _, h => h.elim
  | _ :: _, [], _, _, h => h.elim
theorem decArgs_len : ∀ {ps : List PK} {asx : List CArg} {ds : List DV}, decArgs ps asx = some ds → asx.length = ps.length
  | [], [], _, _ => rfl
  | p :: ps, c :: asx, ds, h => by
    unfold decArgs at h
    split at h
    · rename_i h1
      exact congrArg (· + 1) (decArgs_len h1)
    · cases h
  | [], _ :: _, _, h => by cases h
  | _ :: _, [], _, h => by cases h
theorem avs_get : ∀ {avs : List AV} {vs : List Value} (i : Nat), AvsOk X ρ w avs vs → AvOk X ρ w (getL .unk avs i) (vs.getD i undef)
  | [], [], i, _ => by rw [getL_nil]; trivial
  | _ :: _, _ :: _, 0, h => h.1
  | _ :: avs, _ :: vs, i + 1, h => avs_get i h.2
  | [], _ :: _, _, h => h.elim
  | _ :: _, [], _, h => h.elim
theorem ents_get : ∀ {es : List Ent} {cs : List Conc} (i : Nat), EntsOk X ρ w es cs → EntOk X ρ w (getL .free es i) (cs[i]?)
  | [], [], i, _ => by rw [getL_nil]; trivial
  | _ :: _, _ :: _, 0, h => h.1
  | _ :: es, _ :: cs, i + 1, h => by
    rw [List.getElem?_cons_succ]
    exact ents_get i h.2
  | [], _ :: _, _, h => h.elim
  | _ :: _, [], _, h => h.elim
theorem comps_ret {ps : List RC} {us : List Value} {O : List Conc} (h : RComps w F ps us O) : retOk w F ps (tupOf us) O := by
  match ps, us, h with
  | [], [], h => exact ⟨[].toArray, rfl, h⟩
  | [p], [u], h =>
    obtain ⟨O1, O2, rfl, h1, h2⟩ := h
    obtain rfl : O2 = [] := h2
    show RComp w F p u (O1 ++ [])
    rw [List.append_nil]
    exact h1
  | _ :: _ :: _, _ :: _ :: _, h => exact ⟨_, rfl, h⟩
  | [], _ :: _, h => exact h.elim
  | [_], [], h => exact h.elim
  | _ :: _ :: _, [], h => exact h.elim
  | [_], _ :: _ :: _, h =>
    obtain ⟨O1, O2, rfl, h1, h2⟩ := h
    exact h2.elim
  | _ :: _ :: _, [_], h =>
    obtain ⟨O1, O2, rfl, h1, h2⟩ := h
    exact h2.elim
theorem fm_nodup {f : Nat → Option Nat} : ∀ {ns : List Nat}, ns.Nodup → (∀ n m b, n ∈ ns → m ∈ ns → f n = some b → f m = some b → n = m) → (ns.filterMap f).Nodup
  | [], _, _ => List.nodup_nil
  | n :: ns, h, k => by
    obtain ⟨h1, h2⟩ := List.nodup_cons.1 h
    have ih := fm_nodup h2 fun p q b hp hq => k p q b (List.mem_cons_of_mem _ hp) (List.mem_cons_of_mem _ hq)
    cases hf : f n with
    | none => rw [List.filterMap_cons_none hf]; exact ih
    | some b =>
      rw [List.filterMap_cons_some hf]
      refine List.nodup_cons.2 ⟨fun hm => ?_, ih⟩
      obtain ⟨m, hm1, hm2⟩ := List.mem_filterMap.1 hm
      have := k n m b List.mem_cons_self (List.mem_cons_of_mem _ hm1) hf hm2
      subst this
      exact h1 hm1
theorem conc_inj : ∀ {cs : List Conc} (i j b : Nat), (cs.filterMap cb).Nodup → owns (cs[i]?) b → owns (cs[j]?) b → i = j
  | [], i, j, b, _, hi, _ => by
    rw [List.getElem?_nil] at hi
    exact hi.elim
  | c :: cs, i, j, b, hn, hi, hj => by
    have tail : (cs.filterMap cb).Nodup := by
      cases hc : cb c with
      | none => rwa [List.filterMap_cons_none hc] at hn
      | some q =>
        rw [List.filterMap_cons_some hc] at hn
        exact (List.nodup_cons.1 hn).2
    have mem : ∀ k : Nat, owns (cs[k]?) b → b ∈ cs.filterMap cb := fun k hk => by
      cases hk2 : cs[k]? with
      | none => rw [hk2] at hk; exact hk.elim
      | some q =>
        rw [hk2] at hk
        exact List.mem_filterMap.2 ⟨q, List.mem_of_getElem? hk2, cb_owns.2 hk⟩
    have head : owns (some c) b → ∀ k : Nat, owns (cs[k]?) b → False := fun h0 k hk => by
      rw [List.filterMap_cons_some (cb_owns.2 h0)] at hn
      exact (List.nodup_cons.1 hn).1 (mem k hk)
    match i, j with
    | 0, 0 => rfl
    | 0, j + 1 => exact (head hi j hj).elim
    | i + 1, 0 => exact (head hj i hi).elim
    | i + 1, j + 1 => exact congrArg (· + 1) (conc_inj i j b tail hi hj)
theorem conc_mem {cs : List Conc} {i b : Nat} (hi : owns (cs[i]?) b) : b ∈ cs.filterMap cb := by
  cases hk2 : cs[i]? with
  | none => rw [hk2] at hi; exact hi.elim
  | some q =>
    rw [hk2] at hi
    exact List.mem_filterMap.2 ⟨q, List.mem_of_getElem? hk2, cb_owns.2 hi⟩
theorem cbO_owns {c : Option Conc} {b : Nat} : cbO c = some b ↔ owns c b := by
  cases c with
  | none => exact ⟨(fun h => nomatch h), fun h => h.elim⟩
  | some c => exact cb_owns
theorem sub_mem {O : List Conc} {S : List Nat} (h : (O.filterMap cb).Sublist (S.filterMap fun n => cbO (ρ n))) {u : Conc} (hu : u ∈ O) {b : Nat} (hb : cb u = some b) : ∃ n ∈ S, owns (ρ n) b := by
  have := h.subset (List.mem_filterMap.2 ⟨u, hu, hb⟩)
  obtain ⟨n, h1, h2⟩ := List.mem_filterMap.1 this
  exact ⟨n, h1, cbO_owns.1 h2⟩
/-- The end of a function, as its contract tells it. -/
theorem end_ok {ps : List PK} {L : List GI} {N : List Value} {cs : List Conc} {F0 : Nat → Prop} {us : List Value} {rcs : List RC} {rfs : List RF} {da db : DR} {bs S2 S T : List Nat} {O1 O2 : List Conc}
    (hG : (GI.blocks L ++ mBlocks N).Nodup) (hperm : (cs.filterMap cb).Perm (GI.blocks L ++ mBlocks N))
    (h : Rel (fun b => b < w.heap.size ∧ ¬ F0 b ∧ b ∉ GI.blocks L ++ mBlocks N) ρ' st' a w') (e : Ext (fun i => cs[i]?) w ρ' w')
    (t2 : ToldC (fun b => b < w.heap.size ∧ ¬ F0 b ∧ b ∉ GI.blocks L ++ mBlocks N) ρ' w' da bs rcs us O2 S2) (t1 : ToldB (fun b => b < w.heap.size ∧ ¬ F0 b ∧ b ∉ GI.blocks L ++ mBlocks N) ρ' w' db L rfs O1 S T)
    (n1 : (da.owns ++ db.owns ++ S).Nodup) (n2 : ∀ n ∈ da.owns ++ db.owns ++ S, n ∉ da.pures ++ db.pures) (n3 : (bs ++ T).Nodup) :
    Answer ⟨rcs, rfs⟩ F0 L N w (tupOf us) w' := by
  have rowbox : ∀ n u g, ρ' n = some (.row u) → ρ' n = some (.blk g) → False := fun n u g h1 h2 => by rw [h1] at h2; cases h2
  -- the slots of what is handed on
  have inS : ∀ u ∈ O1 ++ O2, ∀ b, cb u = some b → ∃ n, (n ∈ da.owns ++ db.owns ∨ n ∈ bs) ∧ owns (ρ' n) b := fun u hu b hb => by
    rcases List.mem_append.1 hu with hu | hu
    · obtain ⟨n, k1, k2⟩ := sub_mem t1.sub hu hb
      exact ⟨n, .inl (List.mem_append_right _ k1), k2⟩
    · obtain ⟨n, k1, k2⟩ := sub_mem t2.sub hu hb
      rcases List.mem_append.1 (t2.perm.mem_iff.1 k1) with k1 | k1
      · exact ⟨n, .inl (List.mem_append_left _ k1), k2⟩
      · exact ⟨n, .inr k1, k2⟩
  have rowO : ∀ n ∈ da.owns ++ db.owns, ∃ u, ρ' n = some (.row u) := fun n hn => (List.mem_append.1 hn).elim (fun hn => t2.rows n (List.mem_append_left _ hn)) fun hn => t1.rows n (List.mem_append_left _ hn)
  have rowP : ∀ n ∈ da.pures ++ db.pures, ∃ u, ρ' n = some (.row u) := fun n hn => (List.mem_append.1 hn).elim (fun hn => t2.rows n (List.mem_append_right _ hn)) fun hn => t1.rows n (List.mem_append_right _ hn)
  -- a slot that is handed on does not stand for what was lent
  have notL : ∀ n b, (n ∈ da.owns ++ db.owns ∨ n ∈ bs ∨ n ∈ da.pures ++ db.pures) → owns (ρ' n) b → b ∉ GI.blocks L := by
    intro n b hn hb hL
    obtain ⟨m, hm, hm2⟩ := t1.own b hL
    obtain rfl := h.sep n m b hb hm2
    rcases List.mem_append.1 hm with hm | hm
    · rcases hn with hn | hn | hn
      · exact (List.nodup_append.1 n1).2.2 n hn n hm rfl
      · obtain ⟨u, hu⟩ := t1.lent n hm
        obtain ⟨g, hg⟩ := t2.boxes n hn
        exact rowbox n u g hu hg
      · exact n2 n (List.mem_append_right _ hm) hn
    · obtain ⟨g, hg⟩ := t1.boxes n hm
      rcases hn with hn | hn | hn
      · obtain ⟨u, hu⟩ := rowO n hn
        exact rowbox n u g hu hg
      · exact (List.nodup_append.1 n3).2.2 n hn n hm rfl
      · obtain ⟨u, hu⟩ := rowP n hn
        exact rowbox n u g hu hg
  have orig : ∀ n b, owns (ρ' n) b → b ∈ GI.blocks L ++ mBlocks N ∨ w.heap.size ≤ b := fun n b hb => by
    rcases e.own n b hb with ⟨j, hj⟩ | hj
    · exact .inl (hperm.mem_iff.1 (conc_mem hj))
    · exact .inr hj
  have orig2 : ∀ n b, (n ∈ da.owns ++ db.owns ∨ n ∈ bs ∨ n ∈ da.pures ++ db.pures) → owns (ρ' n) b → b ∈ mBlocks N ∨ w.heap.size ≤ b := fun n b hn hb => by
    rcases orig n b hb with k | k
    · rcases List.mem_append.1 k with k | k
      · exact (notL n b hn hb k).elim
      · exact .inl k
    · exact .inr k
  have hfix : ∀ b, Fix (fun b => b < w.heap.size ∧ ¬ F0 b ∧ b ∉ GI.blocks L ++ mBlocks N) ρ' w' b → Out F0 (mBlocks N) w w' (O1 ++ O2) b := by
    intro b hb
    refine ⟨hb.1, ?_, fun u hu q => ?_⟩
    · rcases Nat.lt_or_ge b w.heap.size with hlt | hge
      · by_cases hf : F0 b
        · exact .inl hf
        · by_cases hg : b ∈ GI.blocks L ++ mBlocks N
          · rcases List.mem_append.1 hg with hg | hg
            · obtain ⟨m, _, hm2⟩ := t1.own b hg
              exact (hb.2.2 m hm2).elim
            · exact .inr (.inl hg)
          · exact (hb.2.1 ⟨hlt, hf, hg⟩).elim
      · exact .inr (.inr hge)
    · obtain ⟨n, _, k⟩ := inS u hu b q
      exact hb.2.2 n k
  have hout : ∀ ns : List Nat, (∀ n ∈ ns, n ∈ da.pures ++ db.pures) → ∀ b, FixOr (fun b => b < w.heap.size ∧ ¬ F0 b ∧ b ∉ GI.blocks L ++ mBlocks N) ρ' w' ns b → Out F0 (mBlocks N) w w' (O1 ++ O2) b := by
    intro ns hns b hb
    rcases hb with hb | ⟨n, hn, hb⟩
    · exact hfix b hb
    · refine ⟨(h.lt n b hb).1, .inr (orig2 n b (.inr (.inr (hns n hn))) hb), fun u hu q => ?_⟩
      obtain ⟨m, hm, k⟩ := inS u hu b q
      obtain rfl := h.sep m n b k hb
      rcases hm with hm | hm
      · exact n2 m (List.mem_append_left _ hm) (hns m hn)
      · obtain ⟨u', hu'⟩ := rowP m (hns m hn)
        obtain ⟨g, hg⟩ := t2.boxes m hm
        exact rowbox m u' g hu' hg
  refine ⟨⟨e.os, e.tape, e.output, e.size, fun q hq hn => e.keep q hq fun i hi => hn (hperm.mem_iff.1 (conc_mem hi))⟩, O1, O2, ?_, ?_, ?_, ?_⟩
  · intro u hu b hb
    obtain ⟨n, hn, k⟩ := inS u hu b hb
    exact ⟨orig2 n b (hn.elim .inl fun q => .inr (.inl q)) k, (h.lt n b k).1⟩
  · rw [List.filterMap_append]
    refine (t1.sub.append t2.sub).nodup ?_
    rw [← List.filterMap_append]
    refine fm_nodup ?_ fun n m q hn hm h1 h2 => h.sep n m q (cbO_owns.1 h1) (cbO_owns.1 h2)
    have na := (List.nodup_append.1 n1).1
    obtain ⟨na1, na2, na3⟩ := List.nodup_append.1 na
    have nb := (List.nodup_append.1 n3).1
    refine List.nodup_append.2 ⟨na2, t2.perm.nodup_iff.2 (List.nodup_append.2 ⟨na1, nb, ?_⟩), ?_⟩
    · intro n hn m hm q
      subst q
      obtain ⟨u, hu⟩ := rowO n (List.mem_append_left _ hn)
      obtain ⟨g, hg⟩ := t2.boxes n hm
      exact rowbox n u g hu hg
    · intro n hn m hm q
      subst q
      rcases List.mem_append.1 (t2.perm.mem_iff.1 hm) with hm | hm
      · exact na3 n hm n hn rfl
      · obtain ⟨u, hu⟩ := rowO n (List.mem_append_right _ hn)
        obtain ⟨g, hg⟩ := t2.boxes n hm
        exact rowbox n u g hu hg
  · exact t1.told _ (hout _ fun n hn => List.mem_append_right _ hn)
  · exact comps_ret (t2.told _ (hout _ fun n hn => List.mem_append_left _ hn))
/-- A function, out of what its text does from its beginning: the contract. -/
theorem sig_wp {f : FuncId} {fn : Func} {c : Code} {s : Sig} {ti : Tab TI} {F : Prod' s.ins → Option (Prod' s.outs)} (T : TiOk P ti) (hf : P.funcs[f]? = some fn) (hname : (fn.name == "runtime.NumGoroutine") = false) (hb : fn.body = some c)
    (hn : fn.ntmps = s.ntmps) (hps : Nat.ble s.ps.length s.ntmps = true) (hev : ∀ x y, F x = some y → ∀ (X : Nat → Prop) (ρ : Rho) (a : Act) (w : World), Rel X ρ (s.start x) a w → CGood P c a w X ρ (s.start x) (s.done ti fn.results.toList) y) : ConOk P f (s.con F) := by
  refine ⟨fun args w => ?_, ?_⟩
  · simp [callFunc, hf, hb, by simpa using hname]
  intro asx rr hrr w vs F0 L N hF0 hG hgl hargs
  replace hrr : (s.run F asx).val = some rr := hrr
  unfold Sig.run at hrr
  split at hrr
  · rename_i ds hds
    split at hrr
    · rename_i x hx
      cases hFx : F x with
      | none => simp [CR.val, hFx] at hrr
      | some y =>
        have hrr : s.enc y = rr := by simpa [CR.val, hFx] using hrr
        subst hrr
        have hev := hev x y hFx
        obtain ⟨cs, hslots, hperm, hent⟩ := args_cs (fun b hb => hF0 b hb) hargs hds
        obtain ⟨hGlt, hlen1⟩ := args_lt hargs
        have hlen2 := decArgs_len hds
        have hnd : (cs.filterMap cb).Nodup := hperm.nodup_iff.2 hG
        have own0 : ∀ i b, owns (cs[i]?) b → b ∈ GI.blocks L ++ mBlocks N := fun i b hb => hperm.mem_iff.1 (conc_mem hb)
        have hvl : vs.length ≤ fn.ntmps := by
          have := Nat.le_of_ble_eq_true hps
          omega
        obtain ⟨en1, en2⟩ := hent (fun b => b < w.heap.size ∧ ¬ F0 b ∧ b ∉ GI.blocks L ++ mBlocks N) (fun i => cs[i]?) 0 (fun b hb => ⟨(hF0 b hb).1, fun hx => hx.2.1 hb, fun i hi => (hF0 b hb).2 (own0 i b hi)⟩)
          (fun b hb => ⟨hb.1, fun i hi => hb.2 (own0 i b hi)⟩) (fun j u hj => by
            show cs[0 + j]? = some u
            rw [Nat.zero_add, hj])
        have hofx : ofProd s.ins x = ds := of_toProd hx
        let a0 : Act := { tmps := vs.toArray ++ Array.replicate (fn.ntmps - vs.toArray.size) undef, defers := [] }
        have htm : ∀ i, tmOf a0 i = vs.getD i undef := fun i => by
          show (vs.toArray ++ Array.replicate (fn.ntmps - vs.toArray.size) undef).getD i undef = _
          rw [Array.getD_eq_getD_getElem?, List.getD_eq_getElem?_getD]
          by_cases hi : i < vs.length
          · rw [Array.getElem?_append_left (by simpa using hi)]
            simp
          · rw [Array.getElem?_append_right (by simpa using hi), List.getElem?_eq_none (by omega)]
            rw [Array.getElem?_replicate]
            split <;> rfl
        have hst : s.start x = { n := s.ntmps, tmps := (entry s.ps ds 0).1, gs := [], heap := (entry s.ps ds 0).2, nb := (entry s.ps ds 0).2.length, lim := 1000000, res := [] } := by
          unfold Sig.start
          rw [hofx]
        have hrel : Rel (fun b => b < w.heap.size ∧ ¬ F0 b ∧ b ∉ GI.blocks L ++ mBlocks N) (fun i => cs[i]?) (s.start x) a0 w := by
          rw [hst]
          refine ⟨rfl, ?_, ?_, ?_, ?_, ?_, (fun _ _ _ _ hm => nomatch hm), ⟨?_, fun p hp => nomatch hp⟩, fun b hb => hb.1, ⟨hgl.1, fun n hn i hi => hgl.2 n hn (own0 i n hi)⟩⟩
          · show (vs.toArray ++ Array.replicate (fn.ntmps - vs.toArray.size) undef).size = s.ntmps
            simp
            omega
          · intro i j b hi hj
            exact conc_inj i j b hnd hi hj
          · intro i b hi
            have h1 := own0 i b hi
            exact ⟨hGlt b h1, fun hx => hx.2.2 h1⟩
          · intro i
            exact ents_get i en2
          · intro i
            rw [htm]
            exact avs_get i en1
          · intro i hi
            rcases hi with ⟨hi, _⟩ | ⟨p, hp, _⟩
            · show cs[i]? = none
              rw [List.getElem?_eq_none]
              rw [← en2.len]
              exact hi
            · cases hp
        refine calls_of_wp hf hb (hev _ _ _ _ hrel _ ?_)
        intro e ρ' st' a' w' k1 k2 k3 k4 k5
        have fin : s.read ti fn.results.toList st' = some y → a'.defers = [] ∧ ∃ v, (results fn a'.tmps).run P w' = .ok v w' ∧ ∃ v', Ending.returned v = .returned v' ∧ Answer (s.enc y) F0 L N w v' w' := by
          intro hread
          unfold Sig.read at hread
          split at hread
          · rename_i d b hd hbb
            cases hc : (nodupB (d.1.owns ++ b.1.owns ++ b.2) && disjB (d.1.owns ++ b.1.owns ++ b.2) (d.1.pures ++ b.1.pures) && nodupB (d.2 ++ refsOf s.ps 0)) with
            | false => rw [hc] at hread; cases hread
            | true =>
              rw [hc] at hread
              have hread : toProd s.outs (d.1.ds ++ b.1.ds) = some y := hread
              obtain ⟨c12, c3⟩ := (Bool.and_eq_true _ _).mp hc
              obtain ⟨c1, c2⟩ := (Bool.and_eq_true _ _).mp c12
              obtain ⟨us, O2, S2, hus, told, henc⟩ := decRes_ok (C := { ti := ti, con := fun _ => [] }) T k2 (d := d.1) (bs := d.2) b.1.ds hd
              have hlater : Later ρ' 0 cs := fun j c hj => by
                rw [Nat.zero_add]
                exact k3.conc j c hj
              obtain ⟨O1, toldb⟩ := backPs_ok k2 (d := b.1) (S := b.2) hbb hslots hlater
              refine ⟨k2.defers, _, run_results hus, _, rfl, ?_⟩
              have hof : ofProd s.outs y = d.1.ds ++ b.1.ds := of_toProd hread
              have henc2 : s.enc y = ⟨(encRes s.rs (d.1.ds ++ b.1.ds)).1, encBacks s.ps b.1.ds⟩ := by
                show (⟨(encRes s.rs (ofProd s.outs y)).1, encBacks s.ps (encRes s.rs (ofProd s.outs y)).2⟩ : RR) = _
                rw [hof, henc]
              rw [henc2]
              exact end_ok (ps := s.ps) hG hperm k2 k3 told toldb (nodupB_ok c1) (fun n hn hm => disjB_ok c2 n hn hm) (nodupB_ok c3)
          · cases hread
        cases e with
        | nrm =>
          obtain ⟨h1, v, h2, v', h3, h4⟩ := fin k1
          exact ⟨h1, v, h2, v', h3, h4⟩
        | ret =>
          obtain ⟨h1, v, h2, v', h3, h4⟩ := fin k1
          exact ⟨h1, v, h2, v', h3, h4⟩
        | exit j => cases k1
    · cases hrr
  · cases hrr
/-- A function, out of its text: the contract. -/
theorem sig_ok {f : FuncId} {fn : Func} {c : Code} {s : Sig} {p : Plan} {F : Prod' s.ins → Option (Prod' s.outs)} (H : CtxOk P C) (hf : P.funcs[f]? = some fn) (hname : (fn.name == "runtime.NumGoroutine") = false) (hb : fn.body = some c)
    (hn : fn.ntmps = s.ntmps) (hps : Nat.ble s.ps.length s.ntmps = true) (hp : PlanOk P C p c) (hev : ∀ x y, F x = some y → s.ev C p fn.results.toList c x = some y) : ConOk P f (s.con F) :=
  sig_wp H.ti hf hname hb hn hps fun x y hx X ρ a w hrel => V_sound H c hp hrel (hev x y hx)
end
end Go.Proofs.YtaajcllchbnjiaaDoorE

namespace Go.Proofs.YtaajcllchbnjiaaDoorE
open Go Go.RowKit
set_option linter.unusedVariables false
section
variable {P : Program} {X X' : Nat → Prop} {ρ ρ' : Rho} {st st' : St} {a : Act} {w w' : World} {R : Type} {r : R} {C : Ctx} {m : List (Nat × Nat)} {sh : Shape}
/-- A variable's block, or a row. -/
def Live (c : Option Conc) : Prop := (∃ g, c = some (.blk g)) ∨ ∃ v, c = some (.row v)
theorem any_beq {n : Nat} {l : List Nat} (h : l.any (Nat.beq n) = true) : n ∈ l := by
  obtain ⟨x, h1, h2⟩ := List.any_eq_true.1 h
  rw [Nat.eq_of_beq_eq_true h2]
  exact h1
theorem agree_ok : ∀ {m : List (Nat × Nat)}, agree m = true → ∀ p ∈ m, ∀ q ∈ m, (p.1 = q.1 ↔ p.2 = q.2)
  | [], _, p, hp, _, _ => nomatch hp
  | (n, o) :: rest, h, p, hp, q, hq => by
    unfold agree at h
    obtain ⟨h1, h2⟩ := (Bool.and_eq_true _ _).mp h
    have hd : ∀ p ∈ rest, (p.1 = n ↔ p.2 = o) := fun p hp => by
      have := List.all_eq_true.1 h1 p hp
      have e : Nat.beq p.1 n = Nat.beq p.2 o := by simpa using this
      constructor
      · intro e1
        exact Nat.eq_of_beq_eq_true (by rw [← e, e1]; exact Nat.beq_refl n)
      · intro e1
        exact Nat.eq_of_beq_eq_true (by rw [e, e1]; exact Nat.beq_refl o)
    rcases List.mem_cons.1 hp with rfl | hp <;> rcases List.mem_cons.1 hq with rfl | hq
    · exact ⟨fun _ => rfl, fun _ => rfl⟩
    · exact ⟨fun e => ((hd q hq).1 e.symm).symm, fun e => ((hd q hq).2 e.symm).symm⟩
    · exact hd p hp
    · exact agree_ok h2 p hp q hq
theorem lookup_mem : ∀ {m : List (Nat × Nat)} {n o : Nat}, m.lookup n = some o → (n, o) ∈ m
  | [], _, _, h => by cases h
  | (k, v) :: m, n, o, h => by
    rw [List.lookup_cons] at h
    cases hk : (n == k) with
    | true =>
      rw [hk] at h
      cases h
      rw [show n = k by simpa using hk]
      exact List.mem_cons_self
    | false =>
      rw [hk] at h
      exact List.mem_cons_of_mem _ (lookup_mem h)
theorem mem_lookup : ∀ {m : List (Nat × Nat)} {n o : Nat}, (n, o) ∈ m → ∃ o', m.lookup n = some o'
  | (k, v) :: m, n, o, h => by
    rw [List.lookup_cons]
    cases hk : (n == k) with
    | true => exact ⟨v, rfl⟩
    | false =>
      rcases List.mem_cons.1 h with h | h
      · cases h; simp at hk
      · exact mem_lookup h
/-- What a state that is read by a shape stands for. -/
structure RdOk (X X' : Nat → Prop) (ρ ρ' : Rho) (w : World) (sh : Shape) (m : List (Nat × Nat)) : Prop where
  ptr : ∀ b, b ∈ boxIds sh.slots → ρ' b = ρ b
  own : ∀ n o, (n, o) ∈ m → n ∈ arrIds sh.slots → o < 1000000 → ρ' n = ρ o
  nil : ∀ n, (n, 3000000 + n) ∈ m → n ∈ arrIds sh.slots → ρ' n = some (.row (.slice none 0 0))
  fix : ∀ b, Fix X ρ w b → Fix X' ρ' w b
  brw : ∀ b, Brw ρ w b → Brw ρ' w b
  pure : ∀ o, (1000000 + o, o) ∈ m → ∀ b, owns (ρ o) b → Fix X' ρ' w b
  small : ∀ n ∈ arrIds sh.slots, n < 1000000
theorem one1_ok {t : Ty} {y : t.T} {v : Value} (h : Rep w (Fix X ρ w) t y [v]) : LeafOk X ρ w (one1 (leaves t y)) v := by
  have h1 := leaves_ok h
  have h2 := h1.len
  generalize leaves t y = ys at h1 h2
  match ys, h1, h2 with
  | [], _, h2 => cases h2
  | [z], h1, _ => exact h1.1
  | _ :: _ :: _, _, h2 => simp at h2
theorem rdBor_ok (H : RdOk X X' ρ ρ' w sh m) (h : Rel X ρ st a w) {t : Ty} {x : Leaf} {v : Value} {ds : List DV} {mm : List (Nat × Nat)} (hx : LeafOk X ρ w x v) (hr : rdBor st t x = some (ds, mm)) :
    ∃ l : List t.T, ds = [.mk (.sl t) l] ∧ mm = [] ∧ Rep w (Brw ρ' w) (.sl t) l [v] := by
  have some1 : ∀ {r' : Ty} {l : List r'.T}, someL t (castL l) = some (ds, mm) → Rep w (Brw ρ w) (.sl r') l [v] → ∃ l : List t.T, ds = [.mk (.sl t) l] ∧ mm = [] ∧ Rep w (Brw ρ' w) (.sl t) l [v] := by
    intro r' l hs hrep
    cases hc : castL (r := t) l with
    | none => rw [hc] at hs; cases hs
    | some l2 =>
      rw [hc] at hs
      cases hs
      obtain ⟨e, rfl⟩ := castL_some hc
      exact ⟨_, rfl, rfl, cast_list e (Rep.move (fun b hb => ⟨rfl, H.brw b hb⟩) hrep)⟩
  unfold rdBor at hr
  split at hr
  · exact some1 hr hx
  · exact some1 hr (Rep.move (fun b hb => ⟨rfl, hb.brw⟩) hx)
  · cases hr
    have hx : v = .slice none 0 0 := hx
    exact ⟨[], rfl, rfl, none, 0, by rw [hx]; rfl, Nat.le_refl _, .inl rfl⟩
  · rename_i n
    split at hr
    · rename_i r' l he
      have h0 := h.ents n
      rw [he] at h0
      obtain ⟨u, hu, h0⟩ := h0
      have hx2 := hx.2
      rw [hu] at hx2
      have hx2 : v = u := hx2
      subst hx2
      exact some1 hr (Rep.move (fun b hb => ⟨rfl, hb.brw⟩) h0)
    · cases hr
  · cases hr
theorem rdLeaf_ok (H : RdOk X X' ρ ρ' w sh m) (h : Rel X ρ st a w) {k : LK} {x : Leaf} {v : Value} {ds : List DV} {mm : List (Nat × Nat)} (hk : lkOk sh k = true) (hx : LeafOk X ρ w x v) (hr : rdLeaf st k x = some (ds, mm)) (hm : ∀ p ∈ mm, p ∈ m) (rest : List DV) :
    LeafOk X' ρ' w (mkLeaf k (ds ++ rest)).1 v ∧ (mkLeaf k (ds ++ rest)).2 = rest := by
  cases k with
  | no =>
    cases hr
    exact ⟨hx.one, rfl⟩
  | ptr b off =>
    replace hr : rdPtr b off x = some (ds, mm) := hr
    unfold rdPtr at hr
    split at hr
    · rename_i b' off'
      cases hc : (Nat.beq b b' && Nat.beq off off') with
      | false => rw [hc] at hr; cases hr
      | true =>
        rw [hc] at hr
        cases hr
        obtain ⟨c1, c2⟩ := (Bool.and_eq_true _ _).mp hc
        obtain rfl := Nat.eq_of_beq_eq_true c1
        obtain rfl := Nat.eq_of_beq_eq_true c2
        refine ⟨⟨hx.1, ?_⟩, rfl⟩
        rw [H.ptr b (any_beq hk)]
        exact hx.2
    · cases hr
  | own n =>
    have hn := any_beq (show (arrIds sh.slots).any (Nat.beq n) = true from hk)
    replace hr : rdOwn n x = some (ds, mm) := hr
    unfold rdOwn at hr
    split at hr
    · rename_i o
      cases hc : Nat.blt o 1000000 with
      | false => rw [hc] at hr; cases hr
      | true =>
        rw [hc] at hr
        cases hr
        have e := H.own n o (hm _ List.mem_cons_self) hn (Nat.le_of_ble_eq_true hc)
        refine ⟨⟨hx.1, ?_⟩, rfl⟩
        rw [e]
        exact hx.2
    · cases hr
      have e := H.nil n (hm _ List.mem_cons_self) hn
      have hx : v = .slice none 0 0 := hx
      refine ⟨⟨.inl ⟨_, _, _, hx⟩, ?_⟩, rfl⟩
      rw [e]
      exact hx
    · cases hr
  | pin n =>
    replace hr : rdPin n x = some (ds, mm) := hr
    unfold rdPin at hr
    split at hr
    · rename_i m'
      cases hc : Nat.beq n m' with
      | false => rw [hc] at hr; cases hr
      | true =>
        rw [hc] at hr
        cases hr
        obtain rfl := Nat.eq_of_beq_eq_true hc
        refine ⟨⟨hx.1, ?_⟩, rfl⟩
        rw [H.ptr n (any_beq hk)]
        exact hx.2
    · cases hr
  | rp t =>
    replace hr : rdRp t x = some (ds, mm) := hr
    unfold rdRp at hr
    split at hr
    · rename_i t' y
      split at hr
      · rename_i hs _
        cases hr
        obtain ⟨g, o, cs, h1, h2, h3, h4⟩ := hx
        have e := hs.down
        subst e
        exact ⟨⟨g, o, cs, h1, H.brw g h2, h3, Rep.move (fun b hb => ⟨rfl, H.brw b hb⟩) h4⟩, rfl⟩
      · cases hr
    · cases hr
  | bor t =>
    obtain ⟨l, rfl, rfl, hrep⟩ := rdBor_ok H h hx (show rdBor st t x = some (ds, mm) from hr)
    exact ⟨hrep, rfl⟩
  | v t =>
    replace hr : (match pureOf st t x with
      | some (y, ns) => some ([DV.mk t y], ns.map fun o => (1000000 + o, o))
      | none => none) = some (ds, mm) := hr
    split at hr
    · rename_i y ns hy
      cases hr
      refine ⟨one1_ok (Rep.move (fun b hb => ⟨rfl, ?_⟩) (pureOf_ok h hx hy)), rfl⟩
      rcases hb with hb | ⟨o, ho, hb⟩
      · exact H.fix b hb
      · exact H.pure o (hm _ (List.mem_map.2 ⟨o, ho, rfl⟩)) b hb
    · cases hr
theorem rdLeaves_ok (H : RdOk X X' ρ ρ' w sh m) (h : Rel X ρ st a w) : ∀ {ks : List LK} {xs : List Leaf} {vs : List Value} {ds : List DV} {mm : List (Nat × Nat)}, ks.all (lkOk sh) = true → LeavesOk X ρ w xs vs → rdLeaves st ks xs = some (ds, mm) → (∀ p ∈ mm, p ∈ m) → ∀ rest : List DV,
    LeavesOk X' ρ' w (mkLeaves ks (ds ++ rest)).1 vs ∧ (mkLeaves ks (ds ++ rest)).2 = rest
  | [], [], [], ds, mm, _, _, hr, _, rest => by
    cases hr
    exact ⟨trivial, rfl⟩
  | k :: ks, x :: xs, v :: vs, ds, mm, hk, hx, hr, hm, rest => by
    unfold rdLeaves at hr
    split at hr
    · rename_i a1 m1 a2 m2 h1 h2
      cases hr
      obtain ⟨k1, k2⟩ := (Bool.and_eq_true _ _).mp (show (lkOk sh k && ks.all (lkOk sh)) = true from hk)
      obtain ⟨i1, i2⟩ := rdLeaf_ok H h k1 hx.1 h1 (fun p hp => hm p (List.mem_append_left _ hp)) (a2 ++ rest)
      obtain ⟨j1, j2⟩ := rdLeaves_ok H h k2 hx.2 h2 (fun p hp => hm p (List.mem_append_right _ hp)) rest
      rw [List.append_assoc]
      refine ⟨⟨i1, ?_⟩, ?_⟩
      · rw [i2]; exact j1
      · show (mkLeaves ks (mkLeaf k (a1 ++ (a2 ++ rest))).2).2 = rest
        rw [i2]; exact j2
    · cases hr
  | [], _ :: _, _, _, _, _, _, hr, _, _ => by cases hr
  | _ :: _, [], _, _, _, _, _, hr, _, _ => by cases hr
  | [], [], _ :: _, _, _, _, h, _, _, _ => h.elim
  | _ :: _, _ :: _, [], _, _, _, h, _, _, _ => h.elim
theorem rdT_ok (H : RdOk X X' ρ ρ' w sh m) (h : Rel X ρ st a w) {k : TK} {i : Nat} {ds : List DV} {mm : List (Nat × Nat)} (hk : k.lks.all (lkOk sh) = true) (hr : rdT st k (st.tmp i) = some (ds, mm)) (hm : ∀ p ∈ mm, p ∈ m) (rest : List DV) :
    AvOk X' ρ' w (mkT k (ds ++ rest)).1 (tmOf a i) ∧ (mkT k (ds ++ rest)).2 = rest := by
  have ht := h.tmp i
  unfold rdT at hr
  split at hr
  · rename_i k x hx
    rw [hx] at ht
    have ht : LeafOk X ρ w x (tmOf a i) := by
      rcases ht with ht | ⟨_, _, _, e, _⟩
      · exact ht
      · cases e
    obtain ⟨j1, j2⟩ := rdLeaf_ok H h (by simpa [TK.lks] using hk) ht hr hm rest
    exact ⟨j1, j2⟩
  · rename_i ks xs hx
    rw [hx] at ht
    have ht : ∃ cs, tmOf a i = .agg cs ∧ LeavesOk X ρ w xs cs.toList := by
      rcases ht with ht | ⟨_, _, _, e, _⟩
      · exact ht
      · cases e
    obtain ⟨cs, e, ht⟩ := ht
    obtain ⟨j1, j2⟩ := rdLeaves_ok H h hk ht hr hm rest
    exact ⟨⟨cs, e, j1⟩, j2⟩
  · rename_i ks xs hx
    rw [hx] at ht
    have ht : AvOk X ρ w (.eptr xs) (tmOf a i) := by
      rcases ht with ht | ⟨_, _, _, e, _⟩
      · exact ht
      · cases e
    obtain ⟨gb, o, cs, e, hg, hc, ht⟩ := ht
    obtain ⟨j1, j2⟩ := rdLeaves_ok H h hk ht hr hm rest
    exact ⟨⟨gb, o, cs, e, H.brw gb hg, hc, j1⟩, j2⟩
  · rename_i f ks f' xs hx
    rw [hx] at ht
    have ht : ∃ cs, tmOf a i = .func (.func f') #[] cs ∧ LeavesOk X ρ w xs cs.toList := by
      rcases ht with ht | ⟨_, _, _, e, _⟩
      · exact ht
      · cases e
    obtain ⟨cs, e, ht2⟩ := ht
    cases hf : Nat.beq f f' with
    | false => rw [hf] at hr; cases hr
    | true =>
      rw [hf] at hr
      obtain rfl := Nat.eq_of_beq_eq_true hf
      obtain ⟨j1, j2⟩ := rdLeaves_ok H h hk ht2 hr hm rest
      exact ⟨⟨cs, e, j1⟩, j2⟩
  · cases hr
theorem rdTs_ok (H : RdOk X X' ρ ρ' w sh m) (h : Rel X ρ st a w) : ∀ {ks : List (Nat × TK)} {ds : List DV} {mm : List (Nat × Nat)}, (ks.all fun p => p.2.lks.all (lkOk sh)) = true → rdTs st ks = some (ds, mm) → (∀ p ∈ mm, p ∈ m) → ∀ (rest : List DV) (ts : List AV), (∀ j, AvOk X' ρ' w (getL .unk ts j) (tmOf a j)) →
    (∀ j, AvOk X' ρ' w (getL .unk (mkTs ks (ds ++ rest) ts).1 j) (tmOf a j)) ∧ (mkTs ks (ds ++ rest) ts).2 = rest
  | [], ds, mm, _, hr, _, rest, ts, hts => by
    cases hr
    exact ⟨hts, rfl⟩
  | (i, k) :: ks, ds, mm, hk, hr, hm, rest, ts, hts => by
    unfold rdTs at hr
    split at hr
    · rename_i a1 m1 a2 m2 h1 h2
      cases hr
      obtain ⟨k1, k2⟩ := (Bool.and_eq_true _ _).mp (show (k.lks.all (lkOk sh) && ks.all fun p => p.2.lks.all (lkOk sh)) = true from hk)
      obtain ⟨i1, i2⟩ := rdT_ok H h k1 h1 (fun p hp => hm p (List.mem_append_left _ hp)) (a2 ++ rest)
      rw [List.append_assoc]
      show (∀ j, AvOk X' ρ' w (getL .unk (mkTs ks (mkT k (a1 ++ (a2 ++ rest))).2 (setL .unk ts i (mkT k (a1 ++ (a2 ++ rest))).1)).1 j) (tmOf a j)) ∧ (mkTs ks (mkT k (a1 ++ (a2 ++ rest))).2 (setL .unk ts i (mkT k (a1 ++ (a2 ++ rest))).1)).2 = rest
      rw [i2]
      refine rdTs_ok H h k2 h2 (fun p hp => hm p (List.mem_append_right _ hp)) rest _ ?_
      intro j
      rw [getL_setL]
      by_cases hij : i = j
      · subst hij; rw [if_pos rfl]; exact i1
      · rw [if_neg hij]; exact hts j
    · cases hr
theorem rdBoxMaps_mem : ∀ {ss : List (Nat × BK)} {mm : List (Nat × Nat)}, rdBoxMaps st ss = some mm → ∀ n t ks, (n, .box t ks) ∈ ss → ∃ t' xs ds m1, st.ent n = .box t' xs ∧ rdLeaves st ks xs = some (ds, m1) ∧ ∀ p ∈ m1, p ∈ mm
  | [], _, _, n, t, ks, h => nomatch h
  | (n', .box t' ks') :: ss, mm, hr, n, t, ks, h => by
    unfold rdBoxMaps at hr
    split at hr
    · rename_i bt xs he
      split at hr
      · rename_i a1 m1 m2 h1 h2
        cases hr
        rcases List.mem_cons.1 h with h | h
        · cases h
          exact ⟨bt, xs, a1, m1, he, h1, fun p hp => List.mem_append_left _ hp⟩
        · obtain ⟨t2, ys, d2, m3, e1, e2, e3⟩ := rdBoxMaps_mem h2 n t ks h
          exact ⟨t2, ys, d2, m3, e1, e2, fun p hp => List.mem_append_right _ (e3 p hp)⟩
      · cases hr
    · cases hr
  | (n', .arr _ _ _) :: ss, mm, hr, n, t, ks, h => by
    rcases List.mem_cons.1 h with h | h
    · cases h
    · exact rdBoxMaps_mem (ss := ss) hr n t ks h
  | (n', .pin _ _) :: ss, mm, hr, n, t, ks, h => by
    rcases List.mem_cons.1 h with h | h
    · cases h
    · exact rdBoxMaps_mem (ss := ss) hr n t ks h
theorem castL_self {t : Ty} (l : List t.T) : castL (r := t) l = some l := by
  obtain ⟨h, e⟩ := same_refl t
  unfold castL
  rw [e]
theorem mkArr_self {z : Bool} {e : TypeId} {t : Ty} (l : List t.T) : mkArr z e t (.mk (.sl t) l) = .arr z e t l := by
  show (match castL (r := t) l with
    | some l => Ent.arr z e t l
    | none => .free) = _
  rw [castL_self]
theorem rdB_ok (H : RdOk X X' ρ ρ' w sh m) (h : Rel X ρ st a w) {n : Nat} {k : BK} {ds : List DV} (hk : k.lks.all (lkOk sh) = true) (hr : rdB st m n k = some ds) (hbox : ∀ t ks, k = .box t ks → n ∈ boxIds sh.slots ∧ ∃ t' xs ds m1, st.ent n = .box t' xs ∧ rdLeaves st ks xs = some (ds, m1) ∧ ∀ p ∈ m1, p ∈ m)
    (hpin : ∀ e t, k = .pin e t → n ∈ boxIds sh.slots) (harr : ∀ z e t, k = .arr z e t → n ∈ arrIds sh.slots ∧ (m.lookup n = none → ρ' n = some (.row (.slice none 0 0))) ∧ (∀ o, m.lookup n = some o → 3000000 ≤ o → o = 3000000 + n) ∧ ∀ o, m.lookup n = some o → o < 3000000 → o < 1000000) (rest : List DV) :
    EntOk X' ρ' w (mkB k (ds ++ rest)).1 (ρ' n) ∧ (mkB k (ds ++ rest)).2 = rest := by
  cases k with
  | box t ks =>
    obtain ⟨hn, t', xs, ds', m1, he, hrl, hmm⟩ := hbox t ks rfl
    unfold rdB at hr
    dsimp only at hr
    rw [he] at hr
    dsimp only at hr
    rw [hrl] at hr
    cases ht : Nat.beq t t' with
    | false => rw [ht] at hr; cases hr
    | true =>
      rw [ht] at hr
      cases hr
      obtain rfl := Nat.eq_of_beq_eq_true ht
      have h0 := h.ents n
      rw [he] at h0
      obtain ⟨gb, cs, fr, hρ, hh, hu, hxs⟩ := h0
      obtain ⟨j1, j2⟩ := rdLeaves_ok H h hk hxs hrl hmm rest
      refine ⟨⟨gb, cs, fr, by rw [H.ptr n hn]; exact hρ, hh, hu, j1⟩, j2⟩
  | pin e t =>
    have hn := hpin e t rfl
    replace hr : rdArr st false e t n = some ds := hr
    unfold rdArr at hr
    split at hr
    · rename_i z' e' rt l he
      split at hr
      · rename_i l2 hl2
        cases hz : (Nat.beq e e' && (false == z')) with
        | false => rw [hz] at hr; cases hr
        | true =>
          rw [hz] at hr
          have hr : some [DV.mk (.sl t) l2] = some ds := hr
          cases hr
          obtain ⟨c1, c2⟩ := (Bool.and_eq_true _ _).mp hz
          obtain rfl := Nat.eq_of_beq_eq_true c1
          obtain rfl : false = z' := by simpa using c2
          obtain ⟨et, rfl⟩ := castL_some hl2
          have h0 := h.ents n
          rw [he] at h0
          obtain ⟨u, hu, h0⟩ := h0
          refine ⟨?_, rfl⟩
          show EntOk X' ρ' w (mkArr false e t (.mk (.sl t) _)) (ρ' n)
          rw [mkArr_self, H.ptr n hn]
          refine ⟨u, hu, ?_⟩
          have hm := RowOk.mono (F' := Fix X' ρ' w) (fun b hb => H.fix b hb) h0
          subst et
          exact hm
      · cases hr
    · cases hr
  | arr z e t =>
    obtain ⟨hn, h1, h2, h3⟩ := harr z e t rfl
    have nilCase : (bif isMap e then none else some [DV.mk (.sl t) []]) = some ds → ρ' n = some (.row (.slice none 0 0)) → EntOk X' ρ' w (mkB (.arr z e t) (ds ++ rest)).1 (ρ' n) ∧ (mkB (.arr z e t) (ds ++ rest)).2 = rest := by
      intro hds hρ
      cases hm : isMap e with
      | true => rw [hm] at hds; cases hds
      | false =>
      rw [hm] at hds
      replace hds : some [DV.mk (.sl t) []] = some ds := hds
      cases hds
      refine ⟨?_, rfl⟩
      show EntOk X' ρ' w (mkArr z e t (.mk (.sl t) [])) (ρ' n)
      rw [mkArr_self (t := t) [], hρ]
      exact ⟨_, rfl, RowS.ok (.inl ⟨rfl, rfl⟩) hm⟩
    unfold rdB at hr
    dsimp only at hr
    split at hr
    · rename_i hl
      exact nilCase hr (h1 hl)
    · rename_i o hl
      cases ho : Nat.ble 3000000 o with
      | true =>
        rw [ho] at hr
        have e := h2 o hl (Nat.le_of_ble_eq_true ho)
        subst e
        exact nilCase hr (H.nil n (lookup_mem hl) hn)
      | false =>
        rw [ho] at hr
        have ho : o < 3000000 := by
          rcases Nat.lt_or_ge o 3000000 with h | h
          · exact h
          · rw [Nat.ble_eq_true_of_le h] at ho; cases ho
        have hr : rdArr st z e t o = some ds := hr
        unfold rdArr at hr
        split at hr
        · rename_i z' e' rt l he
          split at hr
          · rename_i l2 hl2
            cases hz : (Nat.beq e e' && (z == z')) with
            | false => rw [hz] at hr; cases hr
            | true =>
              rw [hz] at hr
              have hr : some [DV.mk (.sl t) l2] = some ds := hr
              cases hr
              obtain ⟨c1, c2⟩ := (Bool.and_eq_true _ _).mp hz
              obtain rfl := Nat.eq_of_beq_eq_true c1
              obtain rfl : z = z' := by simpa using c2
              obtain ⟨et, rfl⟩ := castL_some hl2
              have h0 := h.ents o
              rw [he] at h0
              obtain ⟨u, hu, h0⟩ := h0
              have hρ := H.own n o (lookup_mem hl) hn (h3 o hl ho)
              refine ⟨?_, rfl⟩
              show EntOk X' ρ' w (mkArr z e t (.mk (.sl t) _)) (ρ' n)
              rw [mkArr_self, hρ]
              refine ⟨u, hu, ?_⟩
              have hm := RowOk.mono (F' := Fix X' ρ' w) (fun b hb => H.fix b hb) h0
              subst et
              exact hm
          · cases hr
        · cases hr
theorem rdBs_ok (H : RdOk X X' ρ ρ' w sh m) (h : Rel X ρ st a w) : ∀ {ss : List (Nat × BK)} {ds : List DV}, (ss.all fun p => p.2.lks.all (lkOk sh)) = true → rdBs st m ss = some ds →
    (∀ n k, (n, k) ∈ ss → (∀ t ks, k = .box t ks → n ∈ boxIds sh.slots ∧ ∃ t' xs ds m1, st.ent n = .box t' xs ∧ rdLeaves st ks xs = some (ds, m1) ∧ ∀ p ∈ m1, p ∈ m) ∧ (∀ e t, k = .pin e t → n ∈ boxIds sh.slots) ∧
      (∀ z e t, k = .arr z e t → n ∈ arrIds sh.slots ∧ (m.lookup n = none → ρ' n = some (.row (.slice none 0 0))) ∧ (∀ o, m.lookup n = some o → 3000000 ≤ o → o = 3000000 + n) ∧ ∀ o, m.lookup n = some o → o < 3000000 → o < 1000000)) →
    ∀ (hs : List Ent), (∀ i, EntOk X' ρ' w (getL .free hs i) (ρ' i)) → ∀ i, EntOk X' ρ' w (getL .free (mkBs ss ds hs) i) (ρ' i)
  | [], ds, _, hr, _, hs, hh, i => by
    cases hr
    exact hh i
  | (n, k) :: ss, ds, hk, hr, hc, hs, hh, i => by
    unfold rdBs at hr
    split at hr
    · rename_i a1 a2 h1 h2
      cases hr
      obtain ⟨k1, k2⟩ := (Bool.and_eq_true _ _).mp (show (k.lks.all (lkOk sh) && ss.all fun p => p.2.lks.all (lkOk sh)) = true from hk)
      obtain ⟨c1, c0, c2⟩ := hc n k List.mem_cons_self
      obtain ⟨i1, i2⟩ := rdB_ok H h k1 h1 c1 c0 c2 a2
      show EntOk X' ρ' w (getL .free (mkBs ss (mkB k (a1 ++ a2)).2 (setL .free hs n (mkB k (a1 ++ a2)).1)) i) (ρ' i)
      rw [i2]
      refine rdBs_ok H h k2 h2 (fun n' k' hn => hc n' k' (List.mem_cons_of_mem _ hn)) _ ?_ i
      intro j
      rw [getL_setL]
      by_cases hnj : n = j
      · subst hnj; rw [if_pos rfl]; exact i1
      · rw [if_neg hnj]; exact hh j
    · cases hr
theorem rdBs_pin (h : Rel X ρ st a w) : ∀ {ss : List (Nat × BK)} {ds : List DV}, rdBs st m ss = some ds → ∀ n e t, (n, BK.pin e t) ∈ ss → ∃ v, ρ n = some (.row v)
  | [], ds, _, n, e, t, hm => nomatch hm
  | (n', k) :: ss, ds, hr, n, e, t, hm => by
    unfold rdBs at hr
    split at hr
    · rename_i a1 a2 h1 h2
      rcases List.mem_cons.1 hm with hm | hm
      · cases hm
        replace h1 : rdArr st false e t n' = some a1 := h1
        unfold rdArr at h1
        split at h1
        · rename_i z' e' rt l he
          have h0 := h.ents n'
          rw [he] at h0
          obtain ⟨u, hu, _⟩ := h0
          exact ⟨u, hu⟩
        · cases h1
      · exact rdBs_pin h h2 n e t hm
    · cases hr
theorem boxIds_mem : ∀ {ss : List (Nat × BK)} {i : Nat}, i ∈ boxIds ss → (∃ t ks, (i, BK.box t ks) ∈ ss) ∨ ∃ e t, (i, BK.pin e t) ∈ ss
  | (n, .box t ks) :: ss, i, h => by
    rcases List.mem_cons.1 h with rfl | h
    · exact .inl ⟨t, ks, List.mem_cons_self⟩
    · exact (boxIds_mem h).imp (fun ⟨t, ks, h⟩ => ⟨t, ks, List.mem_cons_of_mem _ h⟩) fun ⟨e, t, h⟩ => ⟨e, t, List.mem_cons_of_mem _ h⟩
  | (n, .pin e t) :: ss, i, h => by
    rcases List.mem_cons.1 h with rfl | h
    · exact .inr ⟨e, t, List.mem_cons_self⟩
    · exact (boxIds_mem h).imp (fun ⟨t, ks, h⟩ => ⟨t, ks, List.mem_cons_of_mem _ h⟩) fun ⟨e, t, h⟩ => ⟨e, t, List.mem_cons_of_mem _ h⟩
  | (n, .arr _ _ _) :: ss, i, h => (boxIds_mem (ss := ss) h).imp (fun ⟨t, ks, h⟩ => ⟨t, ks, List.mem_cons_of_mem _ h⟩) fun ⟨e, t, h⟩ => ⟨e, t, List.mem_cons_of_mem _ h⟩
theorem rd_live (h : Rel X ρ st a w) {ds : List DV} (hr : rdAll sh st = some (ds, m)) : ∀ i ∈ boxIds sh.slots, Live (ρ i) := by
  intro i hi
  unfold rdAll at hr
  split at hr
  · rename_i h1 h2
    split at hr
    · rename_i h3
      rcases boxIds_mem hi with ⟨t, ks, hm⟩ | ⟨e, t, hm⟩
      · obtain ⟨t', xs, _, _, he, _⟩ := rdBoxMaps_mem h2 i t ks hm
        have h0 := h.ents i
        rw [he] at h0
        obtain ⟨g, _, _, hg, _⟩ := h0
        exact .inl ⟨g, hg⟩
      · exact .inr (rdBs_pin h h3 i e t hm)
    · cases hr
  · cases hr
/-! ### which pairs there are -/
def PairOk (p : Nat × Nat) : Prop := p.1 < 1000000 → p.2 < 1000000 ∨ p.2 = 3000000 + p.1
theorem rdLeaf_pairs {k : LK} {x : Leaf} {ds : List DV} {mm : List (Nat × Nat)} (hr : rdLeaf st k x = some (ds, mm)) : ∀ p ∈ mm, PairOk p := by
  cases k with
  | no => cases hr; exact fun p hp => nomatch hp
  | ptr b off =>
    replace hr : rdPtr b off x = some (ds, mm) := hr
    unfold rdPtr at hr
    split at hr
    · cases hc : (Nat.beq b _ && Nat.beq off _) with
      | false => rw [hc] at hr; cases hr
      | true => rw [hc] at hr; cases hr; exact fun p hp => nomatch hp
    · cases hr
  | pin n =>
    replace hr : rdPin n x = some (ds, mm) := hr
    unfold rdPin at hr
    split at hr
    · cases hc : Nat.beq n _ with
      | false => rw [hc] at hr; cases hr
      | true => rw [hc] at hr; cases hr; exact fun p hp => nomatch hp
    · cases hr
  | own n =>
    replace hr : rdOwn n x = some (ds, mm) := hr
    unfold rdOwn at hr
    split at hr
    · rename_i o
      cases hc : Nat.blt o 1000000 with
      | false => rw [hc] at hr; cases hr
      | true =>
        rw [hc] at hr
        cases hr
        intro p hp _
        rw [List.mem_singleton.1 hp]
        exact .inl (Nat.le_of_ble_eq_true hc)
    · cases hr
      intro p hp _
      rw [List.mem_singleton.1 hp]
      exact .inr rfl
    · cases hr
  | rp t =>
    replace hr : rdRp t x = some (ds, mm) := hr
    have hm : mm = [] := by
      unfold rdRp at hr
      split at hr
      · split at hr
        · cases hr; rfl
        · cases hr
      · cases hr
    subst hm
    exact fun p hp => nomatch hp
  | bor t =>
    have hs : ∀ {o : Option (List t.T)}, someL t o = some (ds, mm) → mm = [] := by
      intro o ho
      cases o <;> cases ho
      rfl
    have hm : mm = [] := by
      replace hr : rdBor st t x = some (ds, mm) := hr
      unfold rdBor at hr
      split at hr
      · exact hs hr
      · exact hs hr
      · exact hs hr
      · split at hr
        · exact hs hr
        · cases hr
      · cases hr
    subst hm
    exact fun p hp => nomatch hp
  | v t =>
    replace hr : (match pureOf st t x with
      | some (y, ns) => some ([DV.mk t y], ns.map fun o => (1000000 + o, o))
      | none => none) = some (ds, mm) := hr
    split at hr
    · cases hr
      intro p hp hlt
      obtain ⟨o, _, rfl⟩ := List.mem_map.1 hp
      exact absurd hlt (by show ¬ (1000000 + o < 1000000); omega)
    · cases hr
theorem rdLeaves_pairs : ∀ {ks : List LK} {xs : List Leaf} {ds : List DV} {mm : List (Nat × Nat)}, rdLeaves st ks xs = some (ds, mm) → ∀ p ∈ mm, PairOk p
  | [], [], _, _, hr => by cases hr; exact fun p hp => nomatch hp
  | k :: ks, x :: xs, ds, mm, hr => by
    unfold rdLeaves at hr
    split at hr
    · rename_i h1 h2
      cases hr
      intro p hp
      rcases List.mem_append.1 hp with hp | hp
      · exact rdLeaf_pairs h1 p hp
      · exact rdLeaves_pairs h2 p hp
    · cases hr
  | [], _ :: _, _, _, hr => by cases hr
  | _ :: _, [], _, _, hr => by cases hr
theorem rdTs_pairs : ∀ {ks : List (Nat × TK)} {ds : List DV} {mm : List (Nat × Nat)}, rdTs st ks = some (ds, mm) → ∀ p ∈ mm, PairOk p
  | [], _, _, hr => by cases hr; exact fun p hp => nomatch hp
  | (i, k) :: ks, ds, mm, hr => by
    unfold rdTs at hr
    split at hr
    · rename_i h1 h2
      cases hr
      intro p hp
      rcases List.mem_append.1 hp with hp | hp
      · unfold rdT at h1
        split at h1
        · exact rdLeaf_pairs h1 p hp
        · exact rdLeaves_pairs h1 p hp
        · exact rdLeaves_pairs h1 p hp
        · rename_i f _ f' _ _
          cases hf : Nat.beq f f' with
          | false => rw [hf] at h1; cases h1
          | true => rw [hf] at h1; exact rdLeaves_pairs h1 p hp
        · cases h1
      · exact rdTs_pairs h2 p hp
    · cases hr
theorem rdBoxMaps_pairs : ∀ {ss : List (Nat × BK)} {mm : List (Nat × Nat)}, rdBoxMaps st ss = some mm → ∀ p ∈ mm, PairOk p
  | [], _, hr => by cases hr; exact fun p hp => nomatch hp
  | (n, .box t ks) :: ss, mm, hr => by
    unfold rdBoxMaps at hr
    split at hr
    · split at hr
      · rename_i h1 h2
        cases hr
        intro p hp
        rcases List.mem_append.1 hp with hp | hp
        · exact rdLeaves_pairs h1 p hp
        · exact rdBoxMaps_pairs h2 p hp
      · cases hr
    · cases hr
  | (n, .arr _ _ _) :: ss, mm, hr => rdBoxMaps_pairs (ss := ss) hr
  | (n, .pin _ _) :: ss, mm, hr => rdBoxMaps_pairs (ss := ss) hr
theorem mem_pinIds : ∀ {ss : List (Nat × BK)} {n : Nat} {e : TypeId} {t : Ty}, (n, BK.pin e t) ∈ ss → n ∈ boxIds ss
  | (n', .box t' ks') :: ss, n, e, t, h => by
    rcases List.mem_cons.1 h with h | h
    · cases h
    · exact List.mem_cons_of_mem _ (mem_pinIds h)
  | (n', .pin _ _) :: ss, n, e, t, h => by
    rcases List.mem_cons.1 h with h | h
    · cases h; exact List.mem_cons_self
    · exact List.mem_cons_of_mem _ (mem_pinIds h)
  | (n', .arr _ _ _) :: ss, n, e, t, h => by
    rcases List.mem_cons.1 h with h | h
    · cases h
    · exact mem_pinIds (ss := ss) h
theorem mem_boxIds : ∀ {ss : List (Nat × BK)} {n : Nat} {t : TypeId} {ks : List LK}, (n, BK.box t ks) ∈ ss → n ∈ boxIds ss
  | (n', .pin _ _) :: ss, n, t, ks, h => by
    rcases List.mem_cons.1 h with h | h
    · cases h
    · exact List.mem_cons_of_mem _ (mem_boxIds h)
  | (n', .box t' ks') :: ss, n, t, ks, h => by
    rcases List.mem_cons.1 h with h | h
    · cases h; exact List.mem_cons_self
    · exact List.mem_cons_of_mem _ (mem_boxIds h)
  | (n', .arr _ _ _) :: ss, n, t, ks, h => by
    rcases List.mem_cons.1 h with h | h
    · cases h
    · exact mem_boxIds (ss := ss) h
theorem mem_arrIds : ∀ {ss : List (Nat × BK)} {n : Nat} {z : Bool} {e : TypeId} {t : Ty}, (n, BK.arr z e t) ∈ ss → n ∈ arrIds ss
  | (n', .pin _ _) :: ss, n, z, e, t, h => by
    rcases List.mem_cons.1 h with h | h
    · cases h
    · exact mem_arrIds (ss := ss) h
  | (n', .arr _ _ _) :: ss, n, z, e, t, h => by
    rcases List.mem_cons.1 h with h | h
    · cases h; exact List.mem_cons_self
    · exact List.mem_cons_of_mem _ (mem_arrIds h)
  | (n', .box _ _) :: ss, n, z, e, t, h => by
    rcases List.mem_cons.1 h with h | h
    · cases h
    · exact mem_arrIds (ss := ss) h
theorem ids_slots : ∀ {ss : List (Nat × BK)} {n : Nat}, n ∈ boxIds ss ∨ n ∈ arrIds ss → n ∈ ss.map (·.1)
  | [], n, h => by rcases h with h | h <;> cases h
  | (n', .box _ _) :: ss, n, h => by
    rcases h with h | h
    · rcases List.mem_cons.1 h with rfl | h
      · exact List.mem_cons_self
      · exact List.mem_cons_of_mem _ (ids_slots (.inl h))
    · exact List.mem_cons_of_mem _ (ids_slots (ss := ss) (.inr h))
  | (n', .pin _ _) :: ss, n, h => by
    rcases h with h | h
    · rcases List.mem_cons.1 h with rfl | h
      · exact List.mem_cons_self
      · exact List.mem_cons_of_mem _ (ids_slots (.inl h))
    · exact List.mem_cons_of_mem _ (ids_slots (ss := ss) (.inr h))
  | (n', .arr _ _ _) :: ss, n, h => by
    rcases h with h | h
    · exact List.mem_cons_of_mem _ (ids_slots (ss := ss) (.inl h))
    · rcases List.mem_cons.1 h with rfl | h
      · exact List.mem_cons_self
      · exact List.mem_cons_of_mem _ (ids_slots (.inr h))
theorem slots_ids : ∀ {ss : List (Nat × BK)} {n : Nat}, n ∈ ss.map (·.1) → n ∈ boxIds ss ∨ n ∈ arrIds ss
  | [], n, h => by cases h
  | (n', .box _ _) :: ss, n, h => by
    rcases List.mem_cons.1 h with rfl | h
    · exact .inl List.mem_cons_self
    · exact (slots_ids h).imp (List.mem_cons_of_mem _) id
  | (n', .pin _ _) :: ss, n, h => by
    rcases List.mem_cons.1 h with rfl | h
    · exact .inl List.mem_cons_self
    · exact (slots_ids h).imp (List.mem_cons_of_mem _) id
  | (n', .arr _ _ _) :: ss, n, h => by
    rcases List.mem_cons.1 h with rfl | h
    · exact .inr List.mem_cons_self
    · exact (slots_ids h).imp id (List.mem_cons_of_mem _)
theorem ids_disj : ∀ {ss : List (Nat × BK)}, (ss.map (·.1)).Nodup → ∀ n, n ∈ boxIds ss → n ∈ arrIds ss → False
  | [], _, n, h, _ => by cases h
  | (n', .box _ _) :: ss, hn, n, h1, h2 => by
    obtain ⟨k1, k2⟩ := List.nodup_cons.1 hn
    rcases List.mem_cons.1 h1 with rfl | h1
    · exact k1 (ids_slots (ss := ss) (.inr h2))
    · exact ids_disj k2 n h1 h2
  | (n', .pin _ _) :: ss, hn, n, h1, h2 => by
    obtain ⟨k1, k2⟩ := List.nodup_cons.1 hn
    rcases List.mem_cons.1 h1 with rfl | h1
    · exact k1 (ids_slots (ss := ss) (.inr h2))
    · exact ids_disj k2 n h1 h2
  | (n', .arr _ _ _) :: ss, hn, n, h1, h2 => by
    obtain ⟨k1, k2⟩ := List.nodup_cons.1 hn
    rcases List.mem_cons.1 h2 with rfl | h2
    · exact k1 (ids_slots (ss := ss) (.inl h1))
    · exact ids_disj k2 n h1 h2
theorem rd_sound (h : Rel X ρ st a w) (hok : shOk sh = true) {ds : List DV} (hr : rdAll sh st = some (ds, m)) {x : Prod' sh.tys} (hx : toProd sh.tys ds = some x) (hX1 : ∀ b, X b → X' b) (hX2 : ∀ b, X' b → b < w.heap.size)
    (hX3 : ∀ b, X' b → X b ∨ ∃ j, j ∉ boxIds sh.slots ++ m.map (·.2) ∧ owns (ρ j) b) :
    ∃ ρ' : Rho, Rel X' ρ' (mk sh st.n x) a w ∧ (∀ i ∈ boxIds sh.slots, ρ' i = ρ i) ∧ (∀ i, i ∉ sh.slots.map (·.1) → ρ' i = none) ∧ ∀ i b, owns (ρ' i) b → ∃ j ∈ boxIds sh.slots ++ m.map (·.2), owns (ρ j) b := by
  unfold rdAll at hr
  split at hr
  · rename_i da ma mb h1 h2
    split at hr
    · rename_i db h3
      cases hc : (agree (ma ++ mb) && disjB (boxIds sh.slots) ((ma ++ mb).map (·.2))) with
      | false => rw [hc] at hr; cases hr
      | true =>
        rw [hc] at hr
        have hr : some (da ++ db, ma ++ mb) = some (ds, m) := hr
        cases hr
        obtain ⟨c1, c2⟩ := (Bool.and_eq_true _ _).mp hc
        have hag := agree_ok c1
        have hdj := disjB_ok c2
        unfold shOk at hok
        simp only [Bool.and_eq_true] at hok
        obtain ⟨⟨⟨⟨s1, s2⟩, s3⟩, s4⟩, s5⟩ := hok
        have hnd := nodupB_ok s1
        have hsm : ∀ n ∈ sh.slots.map (·.1), n < sh.nb ∧ n < 1000000 := fun n hn => by
          obtain ⟨p, hp, rfl⟩ := List.mem_map.1 hn
          obtain ⟨t1, t2⟩ := (Bool.and_eq_true _ _).mp (List.all_eq_true.1 s3 p hp)
          exact ⟨Nat.le_of_ble_eq_true t1, Nat.le_of_ble_eq_true t2⟩
        have hpairs : ∀ p ∈ ma ++ mb, PairOk p := fun p hp => by
          rcases List.mem_append.1 hp with hp | hp
          · exact rdTs_pairs h1 p hp
          · exact rdBoxMaps_pairs h2 p hp
        let M := ma ++ mb
        let ρ' : Rho := fun i => if i ∈ boxIds sh.slots then ρ i else if i ∈ arrIds sh.slots then (match M.lookup i with | some o => if 3000000 ≤ o then some (.row (.slice none 0 0)) else ρ o | none => some (.row (.slice none 0 0))) else none
        have r1 : ∀ i ∈ boxIds sh.slots, ρ' i = ρ i := fun i hi => by
          show (if i ∈ boxIds sh.slots then ρ i else _) = _
          rw [if_pos hi]
        have rA : ∀ i, i ∈ arrIds sh.slots → ρ' i = (match M.lookup i with | some o => if 3000000 ≤ o then some (.row (.slice none 0 0)) else ρ o | none => some (.row (.slice none 0 0))) := fun i hi => by
          show (if i ∈ boxIds sh.slots then ρ i else if i ∈ arrIds sh.slots then _ else none) = _
          rw [if_neg (fun hb => ids_disj hnd i hb hi), if_pos hi]
        have r0 : ∀ i, i ∉ sh.slots.map (·.1) → ρ' i = none := fun i hi => by
          show (if i ∈ boxIds sh.slots then ρ i else if i ∈ arrIds sh.slots then _ else none) = _
          rw [if_neg (fun hb => hi (ids_slots (.inl hb))), if_neg (fun hb => hi (ids_slots (.inr hb)))]
        -- who owns in the new naming
        have own' : ∀ i b, owns (ρ' i) b → (i ∈ boxIds sh.slots ∧ owns (ρ i) b) ∨ (i ∈ arrIds sh.slots ∧ ∃ o, (i, o) ∈ M ∧ o < 3000000 ∧ owns (ρ o) b) := fun i b hb => by
          by_cases hi : i ∈ boxIds sh.slots
          · rw [r1 i hi] at hb
            exact .inl ⟨hi, hb⟩
          · by_cases hi2 : i ∈ arrIds sh.slots
            · rw [rA i hi2] at hb
              cases hl : M.lookup i with
              | none => rw [hl] at hb; cases hb
              | some o =>
                rw [hl] at hb
                dsimp only at hb
                by_cases ho : 3000000 ≤ o
                · rw [if_pos ho] at hb; cases hb
                · rw [if_neg ho] at hb
                  exact .inr ⟨hi2, o, lookup_mem hl, by omega, hb⟩
            · rw [r0 i (fun hm => (slots_ids hm).elim hi hi2)] at hb
              exact hb.elim
        have used : ∀ i b, owns (ρ' i) b → ∃ j ∈ boxIds sh.slots ++ M.map (·.2), owns (ρ j) b := fun i b hb => by
          rcases own' i b hb with ⟨hi, hb⟩ | ⟨_, o, ho, _, hb⟩
          · exact ⟨i, List.mem_append_left _ hi, hb⟩
          · exact ⟨o, List.mem_append_right _ (List.mem_map.2 ⟨_, ho, rfl⟩), hb⟩
        have notX : ∀ j b, j ∈ boxIds sh.slots ++ M.map (·.2) → owns (ρ j) b → ¬ X' b := fun j b hj hb hx => by
          rcases hX3 b hx with hx | ⟨k, hk, hb'⟩
          · exact (h.lt j b hb).2 hx
          · have := h.sep k j b hb' hb
            subst this
            exact hk hj
        have hfix : ∀ b, Fix X ρ w b → Fix X' ρ' w b := fun b hb => by
          refine ⟨hb.1, fun hx => ?_, fun i hi => ?_⟩
          · rcases hX3 b hx with hx | ⟨k, _, hb'⟩
            · exact hb.2.1 hx
            · exact hb.2.2 k hb'
          · obtain ⟨j, _, hj⟩ := used i b hi
            exact hb.2.2 j hj
        have hbrw : ∀ b, Brw ρ w b → Brw ρ' w b := fun b hb => ⟨hb.1, fun i hi => by
          obtain ⟨j, _, hj⟩ := used i b hi
          exact hb.2 j hj⟩
        have H : RdOk X X' ρ ρ' w sh M := by
          refine ⟨r1, ?_, ?_, hfix, hbrw, ?_, ?_⟩
          · intro n o hno h1 h2
            obtain ⟨o', ho'⟩ := mem_lookup hno
            have e := (hag _ (lookup_mem ho') _ hno).1 rfl
            have e : o' = o := e
            rw [rA n h1, ho']
            dsimp only
            rw [if_neg (by omega), e]
          · intro n hno h1
            obtain ⟨o', ho'⟩ := mem_lookup hno
            have e := (hag _ (lookup_mem ho') _ hno).1 rfl
            have e : o' = 3000000 + n := e
            rw [rA n h1, ho']
            dsimp only
            rw [if_pos (by omega)]
          · intro o hno b hb
            refine ⟨(h.lt o b hb).1, notX o b (List.mem_append_right _ (List.mem_map.2 ⟨_, hno, rfl⟩)) hb, fun i hi => ?_⟩
            rcases own' i b hi with ⟨hi, hb'⟩ | ⟨hi, o', ho, _, hb'⟩
            · have := h.sep i o b hb' hb
              subst this
              exact hdj i hi (List.mem_map.2 ⟨_, hno, rfl⟩)
            · have := h.sep o' o b hb' hb
              subst this
              have e := (hag _ ho _ hno).2 rfl
              have := (hsm i (ids_slots (.inr hi))).2
              have e : i = 1000000 + o' := e
              omega
          · intro n hn
            exact (hsm n (ids_slots (.inr hn))).2
        have hof : ofProd sh.tys x = da ++ db := of_toProd hx
        obtain ⟨t1, t2⟩ := rdTs_ok H h s4 h1 (fun p hp => List.mem_append_left _ hp) db [] (fun j => by rw [getL_nil]; trivial)
        have hents := rdBs_ok H h s5 h3 (fun n k hn => ⟨fun t ks e => by
            subst e
            obtain ⟨t', xs, d1, m1, e1, e2, e3⟩ := rdBoxMaps_mem h2 n t ks hn
            exact ⟨mem_boxIds hn, t', xs, d1, m1, e1, e2, fun p hp => List.mem_append_right _ (e3 p hp)⟩, (fun e t ek => by subst ek; exact mem_pinIds hn), fun z e t ek => by
            subst ek
            have hn1 := mem_arrIds hn
            have hn2 := (hsm n (ids_slots (.inr hn1))).2
            refine ⟨hn1, fun hl => ?_, fun o hl ho => ?_, fun o hl ho => ?_⟩
            · rw [rA n hn1, hl]
            · rcases hpairs _ (lookup_mem hl) hn2 with h | h
              · exact absurd h (by show ¬ (o < 1000000); omega)
              · exact h
            · rcases hpairs _ (lookup_mem hl) hn2 with h | h
              · exact h
              · have h : o = 3000000 + n := h
                omega⟩) [] (fun i => by rw [getL_nil]; trivial)
        refine ⟨ρ', ⟨h.defers, h.size, ?_, ?_, ?_, ?_, (fun _ _ _ _ hm => nomatch hm), ?_, hX2, ⟨h.gl.1, fun n hn i hi => by
          obtain ⟨j, _, hj⟩ := used i n hi
          exact h.gl.2 n hn j hj⟩⟩, r1, r0, used⟩
        · intro i j b hi hj
          rcases own' i b hi with ⟨hi1, hi2⟩ | ⟨hi1, o1, ho1, _, hi2⟩ <;> rcases own' j b hj with ⟨hj1, hj2⟩ | ⟨hj1, o2, ho2, _, hj2⟩
          · exact h.sep i j b hi2 hj2
          · have := h.sep i o2 b hi2 hj2
            subst this
            exact (hdj i hi1 (List.mem_map.2 ⟨_, ho2, rfl⟩)).elim
          · have := h.sep o1 j b hi2 hj2
            subst this
            exact (hdj o1 hj1 (List.mem_map.2 ⟨_, ho1, rfl⟩)).elim
          · have := h.sep o1 o2 b hi2 hj2
            exact (hag _ ho1 _ ho2).2 this
        · intro i b hi
          obtain ⟨j, hj, hb⟩ := used i b hi
          exact ⟨(h.lt j b hb).1, notX j b hj hb⟩
        · intro i
          show EntOk X' ρ' w (getL .free (mkBs sh.slots (mkTs sh.tmps (ofProd sh.tys x) []).2 []) i) (ρ' i)
          rw [hof, t2]
          exact hents i
        · intro i
          show AvOk X' ρ' w (getL .unk (mkTs sh.tmps (ofProd sh.tys x) []).1 i) (tmOf a i)
          rw [hof]
          exact t1 i
        · refine ⟨fun i hi => r0 i fun hm => ?_, fun p hp => nomatch hp⟩
          have := (hsm i hm).1
          rcases hi with ⟨hi, _⟩ | ⟨p, hp, _⟩
          · have hi : sh.nb ≤ i := hi
            omega
          · cases hp
    · cases hr
  · cases hr
end
end Go.Proofs.YtaajcllchbnjiaaDoorE

namespace Go.Proofs.YtaajcllchbnjiaaDoorE
open Go Go.RowKit
set_option linter.unusedVariables false
/-- From one state of memory to a later one, names aside. -/
structure Ext0 (ρ : Rho) (w : World) (ρ' : Rho) (w' : World) : Prop where
  os : w'.os = w.os
  tape : w'.tape = w.tape
  output : w'.output = w.output
  size : w.heap.size ≤ w'.heap.size
  keep : ∀ b, b < w.heap.size → (∀ i, ¬ owns (ρ i) b) → w'.heap[b]? = w.heap[b]?
  own : ∀ i b, owns (ρ' i) b → (∃ j, owns (ρ j) b) ∨ w.heap.size ≤ b
theorem Ext.ext0 {ρ ρ' : Rho} {w w' : World} (h : Ext ρ w ρ' w') : Ext0 ρ w ρ' w' := ⟨h.os, h.tape, h.output, h.size, h.keep, h.own⟩
theorem Ext0.refl (ρ : Rho) (w : World) : Ext0 ρ w ρ w := (Ext.refl ρ w).ext0
theorem Ext0.trans {ρ ρ1 ρ2 : Rho} {w w1 w2 : World} (h : Ext0 ρ w ρ1 w1) (k : Ext0 ρ1 w1 ρ2 w2) : Ext0 ρ w ρ2 w2 := by
  refine ⟨k.os.trans h.os, k.tape.trans h.tape, k.output.trans h.output, Nat.le_trans h.size k.size, ?_, ?_⟩
  · intro b hb hn
    refine (k.keep b (Nat.lt_of_lt_of_le hb h.size) (fun i hi => ?_)).trans (h.keep b hb hn)
    rcases h.own i b hi with ⟨j, hj⟩ | hj
    · exact hn j hj
    · omega
  · intro i b hi
    rcases k.own i b hi with ⟨j, hj⟩ | hj
    · exact h.own j b hj
    · exact .inr (Nat.le_trans h.size hj)
/-- The same world, fewer rows. -/
theorem Ext0.less {ρ ρ1 ρ2 : Rho} {w w1 : World} (h : Ext0 ρ w ρ1 w1) (k : ∀ i b, owns (ρ2 i) b → ∃ j, owns (ρ1 j) b) : Ext0 ρ w ρ2 w1 :=
  ⟨h.os, h.tape, h.output, h.size, h.keep, fun i b hi => by
    obtain ⟨j, hj⟩ := k i b hi
    exact h.own j b hj⟩
def OutP : (os : List (Ex × Shape)) → Outs os → (Ex → (sh : Shape) → Prod' sh.tys → Prop) → Prop
  | [], y, _ => nomatch y
  | [o], y, Q => Q o.1 o.2 y
  | o :: o' :: os, y, Q => match y with
    | .inl y => Q o.1 o.2 y
    | .inr y => OutP (o' :: os) y Q
/-- What is shown of a summary, in its own shapes. -/
def SumIn (P : Program) (c : Code) (s : Summ) : Prop :=
  ∀ (X : Nat → Prop) (ρ : Rho) (x : Prod' s.ish.tys) (y : Outs s.outs) (a : Act) (w : World), s.f x = some y → Rel X ρ (mk s.ish s.n x) a w → (∀ i ∈ boxIds s.ish.slots, Live (ρ i)) → (∀ i, i ∉ s.ish.slots.map (·.1) → ρ i = none) →
    ∀ Q : Exit → Act → World → Prop, OutP s.outs y (fun e sh y' => ∀ ρ' a' w', Rel X ρ' (mk sh s.n y') a' w' → Ext0 ρ w ρ' w' → (∀ i ∈ boxIds sh.slots, i ∈ boxIds s.ish.slots → ρ' i = ρ i) → (∀ i, i ∉ sh.slots.map (·.1) → ρ' i = none) → SameBut (dsts c) a a' → Q (exOf e) a' w') → c.wp P Q a w
section
variable {P : Program} {X X' : Nat → Prop} {ρ ρ' : Rho} {st st' : St} {a : Act} {w w' : World} {R : Type} {r : R} {C : Ctx} {m : List (Nat × Nat)} {sh : Shape}
theorem beq_ex {e e' : Ex} (h : e.beq e' = true) : e = e' := by
  cases e <;> cases e' <;> first
    | rfl
    | cases h
    | (rw [Nat.eq_of_beq_eq_true h])
theorem rd_some {x : Prod' sh.tys} (h : rd sh st = some x) : ∃ ds m, rdAll sh st = some (ds, m) ∧ toProd sh.tys ds = some x := by
  unfold rd at h
  split at h
  · rename_i ds m hr
    exact ⟨ds, m, hr, h⟩
  · cases h
/-- A state read by a shape, in the same world. -/
theorem rd_same (h : Rel X ρ st a w) (hok : shOk sh = true) {x : Prod' sh.tys} (hx : rd sh st = some x) :
    ∃ ρ' : Rho, Rel X ρ' (mk sh st.n x) a w ∧ (∀ i ∈ boxIds sh.slots, ρ' i = ρ i) ∧ (∀ i ∈ boxIds sh.slots, Live (ρ i)) ∧ (∀ i, i ∉ sh.slots.map (·.1) → ρ' i = none) ∧ ∀ i b, owns (ρ' i) b → ∃ j, owns (ρ j) b := by
  obtain ⟨ds, m, hr, hp⟩ := rd_some hx
  obtain ⟨ρ', k1, k2, k3, k4⟩ := rd_sound h hok hr hp (fun _ hb => hb) h.xlt (fun b hb => .inl hb)
  refine ⟨ρ', k1, k2, ?_, k3, fun i b hb => ?_⟩
  · exact rd_live h hr
  · obtain ⟨j, _, hj⟩ := k4 i b hb
    exact ⟨j, hj⟩
theorem rdOut_P : ∀ {os : List (Ex × Shape)} {e : Ex} {y : Outs os} {Q : Ex → (sh : Shape) → Prod' sh.tys → Prop}, rdOut e st os = some y → OutP os y Q → ∃ o ∈ os, o.1 = e ∧ ∃ y', rd o.2 st = some y' ∧ Q o.1 o.2 y'
  | [], e, y, Q, h, _ => by cases h
  | [o], e, y, Q, h, hq => by
    have h : (bif o.1.beq e then rd o.2 st else none) = some y := h
    cases he : o.1.beq e with
    | false => rw [he] at h; cases h
    | true =>
      rw [he] at h
      exact ⟨o, List.mem_cons_self, beq_ex he, y, h, hq⟩
  | o :: o' :: os, e, y, Q, h, hq => by
    replace h : (bif o.1.beq e then (match rd o.2 st with
      | some y => some (.inl y)
      | none => none) else match rdOut e st (o' :: os) with
      | some y => some (.inr y)
      | none => none) = some y := h
    cases he : o.1.beq e with
    | true =>
      rw [he] at h
      replace h : (match rd o.2 st with
        | some y => some (.inl y)
        | none => none : Option (Prod' o.2.tys ⊕ Outs (o' :: os))) = some y := h
      split at h
      · rename_i y' hy'
        cases h
        exact ⟨o, List.mem_cons_self, beq_ex he, y', hy', hq⟩
      · cases h
    | false =>
      rw [he] at h
      replace h : (match rdOut e st (o' :: os) with
        | some y => some (.inr y)
        | none => none : Option (Prod' o.2.tys ⊕ Outs (o' :: os))) = some y := h
      split at h
      · rename_i y' hy'
        cases h
        obtain ⟨p, hp, h1, h2⟩ := rdOut_P hy' hq
        exact ⟨p, List.mem_cons_of_mem _ hp, h1, h2⟩
      · cases h
/-- The end of a piece of code, read by an end's shape. -/
theorem out_ok {s : Summ} (hok : s.ok = true) {c : Code} {ρ0 : Rho} {a0 : Act} {w0 : World} (hbox : ∀ i ∈ boxIds s.ish.slots, Live (ρ0 i)) {y : Outs s.outs} {Q : Exit → Act → World → Prop}
    (hq : OutP s.outs y (fun e sh y' => ∀ ρ' a' w', Rel X ρ' (mk sh s.n y') a' w' → Ext0 ρ0 w0 ρ' w' → (∀ i ∈ boxIds sh.slots, i ∈ boxIds s.ish.slots → ρ' i = ρ0 i) → (∀ i, i ∉ sh.slots.map (·.1) → ρ' i = none) → SameBut (dsts c) a0 a' → Q (exOf e) a' w'))
    {e : Ex} (h : Rel X ρ st a w) (hn : st.n = s.n) (hr : rdOut e st s.outs = some y) (hx : Ext0 ρ0 w0 ρ w) (hkeep : ∀ i ∈ boxIds s.ish.slots, Live (ρ i) → ρ i = ρ0 i) (hs : SameBut (dsts c) a0 a) : Q (exOf e) a w := by
  obtain ⟨o, ho, he, y', hy', hQ⟩ := rdOut_P hr hq
  have hsh : shOk o.2 = true := by
    unfold Summ.ok at hok
    have := List.all_eq_true.1 ((Bool.and_eq_true _ _).mp hok).2 o ho
    exact ((Bool.and_eq_true _ _).mp this).2
  obtain ⟨ρ', k1, k2, k3, k4, k5⟩ := rd_same h hsh hy'
  rw [hn] at k1
  rw [← he]
  refine hQ ρ' a w k1 (hx.less k5) ?_ k4 hs
  intro i hi hi2
  rw [k2 i hi]
  exact hkeep i hi2 (k3 i hi)
theorem keep_box {ρ0 ρ1 : Rho} {w0 w1 : World} {i : Nat} (hbox : Live (ρ0 i)) (x : Ext ρ0 w0 ρ1 w1) (h : Live (ρ1 i)) : ρ1 i = ρ0 i := by
  rcases hbox with ⟨g, hg⟩ | ⟨u, hg⟩
  · rcases x.conc i _ hg with k | k | ⟨v, k, _⟩
    · rw [k, hg]
    · rcases h with ⟨g', hg'⟩ | ⟨v', hg'⟩ <;> (rw [k] at hg'; cases hg')
    · cases k
  · rcases x.conc i _ hg with k | k | ⟨v, _, k⟩
    · rw [k, hg]
    · rcases h with ⟨g', hg'⟩ | ⟨v', hg'⟩ <;> (rw [k] at hg'; cases hg')
    · rcases h with ⟨g', hg'⟩ | ⟨v', hg'⟩ <;> (rw [k] at hg'; cases hg')
/-- A summary of code that is no loop. -/
theorem sum_code (H : CtxOk P C) {c : Code} {p : Plan} {s : Summ} (hok : s.ok = true) (hp : PlanOk P C p c) (hev : ∀ x y, s.f x = some y → V C p c (mk s.ish s.n x) (fun e st' => rdOut e st' s.outs) = some y) : SumIn P c s := by
  intro X ρ x y a w hf h hbox hnone Q hq
  refine V_sound H c hp h (hev x y hf) Q ?_
  intro e ρ1 st1 a1 w1 k1 k2 k3 k4 k5
  exact out_ok hok hbox hq k2 k4 k1 k3.ext0 (fun i hi hb => keep_box (hbox i hi) k3 hb) k5
theorem least {p : Nat → Prop} : ∀ (n : Nat), p n → ∃ k, p k ∧ ∀ j, j < k → ¬ p j := by
  intro n
  induction n using Nat.strongRecOn with
  | _ n ih =>
    intro hn
    by_cases h : ∃ j, j < n ∧ p j
    · obtain ⟨j, hj, hp⟩ := h
      exact ih j hj hp
    · exact ⟨n, hn, fun j hj hp => h ⟨j, hj, hp⟩⟩
open Classical in
/-- A summary of a loop: its function tells each round out of the round's text. -/
theorem sum_loop (H : CtxOk P C) {c : Code} {p : Plan} {s : Summ} {F : Nat → Prod' s.ish.tys → Option (Outs s.outs)} (hok : s.ok = true) (hp : PlanOk P C p c) (h0 : ∀ x, F 0 x = none)
    (hev : ∀ k x y, F (k + 1) x = some y → V C p c (mk s.ish s.n x) (fun e st' => match e with
      | .nrm => (rd s.ish st').bind (F k)
      | e => rdOut e st' s.outs) = some y) (k : Nat) (hsf : s.f = F k) : SumIn P (.loop c) s := by
  intro X ρ0 x0 y a0 w0 hf0 hrel0 hbox hnone Q hq
  rw [hsf] at hf0
  have hsh : shOk s.ish = true := by
    unfold Summ.ok at hok
    exact ((Bool.and_eq_true _ _).mp hok).1
  let J : Nat → Act → World → Prop := fun k a w => ∃ x ρ, F k x = some y ∧ Rel X ρ (mk s.ish s.n x) a w ∧ Ext0 ρ0 w0 ρ w ∧ (∀ i ∈ boxIds s.ish.slots, ρ i = ρ0 i) ∧ SameBut (dsts c) a0 a
  let μ : Act → World → Nat := fun a w => if h : ∃ k, J k a w then Classical.choose (least (p := fun k => J k a w) (Classical.choose h) (Classical.choose_spec h)) else 0
  have hμ : ∀ a w, (∃ k, J k a w) → J (μ a w) a w ∧ ∀ j, J j a w → μ a w ≤ j := by
    intro a w h
    have e : μ a w = Classical.choose (least (p := fun k => J k a w) (Classical.choose h) (Classical.choose_spec h)) := by
      show (if h : ∃ k, J k a w then _ else 0) = _
      rw [dif_pos h]
    have sp := Classical.choose_spec (least (p := fun k => J k a w) (Classical.choose h) (Classical.choose_spec h))
    rw [e]
    exact ⟨sp.1, fun j hj => Nat.le_of_not_lt fun hlt => sp.2 j hlt hj⟩
  refine wp_loop (fun a w => ∃ k, J k a w) μ ⟨k, x0, ρ0, hf0, hrel0, Ext0.refl _ _, fun _ _ => rfl, SameBut.refl _ _⟩ ?_
  intro a w hI
  obtain ⟨hJ, hmin⟩ := hμ a w hI
  generalize hk : μ a w = k1 at hJ
  obtain ⟨x, ρ, hfx, hrel, hx, hb, hs⟩ := hJ
  cases k1 with
  | zero => rw [h0] at hfx; cases hfx
  | succ k1 =>
    refine V_sound H c hp hrel (hev k1 x y hfx) _ ?_
    intro e ρ1 st1 a1 w1 m1 m2 m3 m4 m5
    have hbk : ∀ i ∈ boxIds s.ish.slots, Live (ρ1 i) → ρ1 i = ρ0 i := fun i hi hg => by
      rw [← hb i hi]
      exact keep_box (by rw [hb i hi]; exact hbox i hi) m3 hg
    have other : ∀ e, (rdOut e st1 s.outs = some y) → Q (exOf e) a1 w1 := fun e hr => out_ok (c := .loop c) hok hbox hq m2 m4 hr (hx.trans m3.ext0) hbk (hs.trans m5)
    cases e with
    | nrm =>
      cases hrd : rd s.ish st1 with
      | none => rw [hrd] at m1; cases m1
      | some x' =>
        rw [hrd] at m1
        have m1 : F k1 x' = some y := m1
        obtain ⟨ρ', q1, q2, q3, q4, q5⟩ := rd_same m2 hsh hrd
        rw [m4] at q1
        have hJ' : J k1 a1 w1 := ⟨x', ρ', m1, q1, (hx.trans m3.ext0).less q5, fun i hi => by rw [q2 i hi]; exact hbk i hi (q3 i hi), hs.trans m5⟩
        refine ⟨⟨k1, hJ'⟩, ?_⟩
        have := (hμ a1 w1 ⟨k1, hJ'⟩).2 k1 hJ'
        omega
    | exit j => exact other (.exit j) m1
    | ret => exact other .ret m1
end
end Go.Proofs.YtaajcllchbnjiaaDoorE

namespace Go.Proofs.YtaajcllchbnjiaaDoorE
open Go Go.RowKit
set_option linter.unusedVariables false
section
variable {P : Program} {X X' : Nat → Prop} {ρ ρ' : Rho} {st st' : St} {a : Act} {w w' : World} {R : Type} {r : R} {C : Ctx} {m : List (Nat × Nat)} {sh : Shape}
theorem V_sum (C : Ctx) (s : Summ) (c : Code) (st : St) (K : Ex → St → Option R) : V C (.sum s) c st K = (bif plainB st && Nat.beq st.n s.n && (Nat.ble st.nb s.ish.nb && (pureSlots s.ish (frzAll st (pureSlots s.ish st))).isEmpty) then match rd s.ish (frzAll st (pureSlots s.ish st)) with
      | some x => (s.f x).bind fun y => outK (dsts c) (usedSlots s.ish (frzAll st (pureSlots s.ish st))) (frzAll st (pureSlots s.ish st)) K s.outs y
      | none => none
    else none) := by
  cases c <;> rfl
theorem frzAll_ok : ∀ (os : List Nat) {ρ : Rho} {st : St}, Rel X ρ st a w → ∃ ρ1, Rel X ρ1 (frzAll st os) a w ∧ Ext ρ w ρ1 w ∧ (frzAll st os).n = st.n ∧ (frzAll st os).nb = st.nb ∧ (frzAll st os).lim = st.lim ∧ (frzAll st os).res = st.res
  | [], ρ, st, h => ⟨ρ, h, Ext.refl _ _, rfl, rfl, rfl, rfl⟩
  | o :: os, ρ, st, h => by
    have one : ∃ ρ1, Rel X ρ1 (frzOne st o) a w ∧ Ext ρ w ρ1 w ∧ (frzOne st o).n = st.n ∧ (frzOne st o).nb = st.nb ∧ (frzOne st o).lim = st.lim ∧ (frzOne st o).res = st.res := by
      unfold frzOne
      split
      · rename_i z e t l he
        cases hm : isMap e with
        | true => exact ⟨ρ, h, Ext.refl _ _, rfl, rfl, rfl, rfl⟩
        | false =>
        obtain ⟨u, hu, h1, h2, _⟩ := h.freeze he hm
        exact ⟨_, h1, h2, rfl, rfl, rfl, rfl⟩
      · exact ⟨ρ, h, Ext.refl _ _, rfl, rfl, rfl, rfl⟩
    obtain ⟨ρ1, h1, e1, n1, b1, l1, r1⟩ := one
    obtain ⟨ρ2, h2, e2, n2, b2, l2, r2⟩ := frzAll_ok os h1
    exact ⟨ρ2, h2, e1.trans e2, n2.trans n1, b2.trans b1, l2.trans l1, r2.trans r1⟩
/-! ### overlays -/
theorem mkTs_over : ∀ (ks : List (Nat × TK)) (ds : List DV) (ts : List AV), (mkTs ks ds ts).2 = (mkTs ks ds []).2 ∧ ∀ j, getL .unk (mkTs ks ds ts).1 j = if j ∈ ks.map (·.1) then getL .unk (mkTs ks ds []).1 j else getL .unk ts j
  | [], ds, ts => ⟨rfl, fun j => by simp [mkTs]⟩
  | (i, k) :: ks, ds, ts => by
    obtain ⟨a1, a2⟩ := mkTs_over ks (mkT k ds).2 (setL .unk ts i (mkT k ds).1)
    obtain ⟨b1, b2⟩ := mkTs_over ks (mkT k ds).2 (setL .unk [] i (mkT k ds).1)
    refine ⟨a1.trans b1.symm, fun j => ?_⟩
    show getL .unk (mkTs ks (mkT k ds).2 (setL .unk ts i (mkT k ds).1)).1 j = if j ∈ i :: ks.map (·.1) then getL .unk (mkTs ks (mkT k ds).2 (setL .unk [] i (mkT k ds).1)).1 j else getL .unk ts j
    rw [a2 j, b2 j, getL_setL, getL_setL]
    by_cases h1 : j ∈ ks.map (·.1)
    · rw [if_pos h1, if_pos (List.mem_cons_of_mem _ h1), if_pos h1]
    · rw [if_neg h1]
      by_cases h2 : i = j
      · subst h2
        rw [if_pos rfl, if_pos List.mem_cons_self, if_neg h1, if_pos rfl]
      · rw [if_neg h2, if_neg (fun hm => by
          rcases List.mem_cons.1 hm with e | hm
          · exact h2 e.symm
          · exact h1 hm)]
theorem mkBs_over : ∀ (ss : List (Nat × BK)) (ds : List DV) (hs : List Ent), ∀ j, getL .free (mkBs ss ds hs) j = if j ∈ ss.map (·.1) then getL .free (mkBs ss ds []) j else getL .free hs j
  | [], ds, hs, j => by simp [mkBs]
  | (i, k) :: ss, ds, hs, j => by
    show getL .free (mkBs ss (mkB k ds).2 (setL .free hs i (mkB k ds).1)) j = if j ∈ i :: ss.map (·.1) then getL .free (mkBs ss (mkB k ds).2 (setL .free [] i (mkB k ds).1)) j else getL .free hs j
    rw [mkBs_over ss _ _ j, mkBs_over ss _ (setL .free [] i _) j, getL_setL, getL_setL]
    by_cases h1 : j ∈ ss.map (·.1)
    · rw [if_pos h1, if_pos (List.mem_cons_of_mem _ h1), if_pos h1]
    · rw [if_neg h1]
      by_cases h2 : i = j
      · subst h2
        rw [if_pos rfl, if_pos List.mem_cons_self, if_neg h1, if_pos rfl]
      · rw [if_neg h2, if_neg (fun hm => by
          rcases List.mem_cons.1 hm with e | hm
          · exact h2 e.symm
          · exact h1 hm)]
theorem dropT_get : ∀ (ds : List Nat) (ts : List AV) (j : Nat), getL .unk (dropT ds ts) j = if j ∈ ds then .unk else getL .unk ts j
  | [], ts, j => by simp [dropT]
  | d :: ds, ts, j => by
    show getL .unk (dropT ds (setL .unk ts d .unk)) j = _
    rw [dropT_get ds, getL_setL]
    by_cases h1 : j ∈ ds
    · rw [if_pos h1, if_pos (List.mem_cons_of_mem _ h1)]
    · rw [if_neg h1]
      by_cases h2 : d = j
      · subst h2; rw [if_pos rfl, if_pos List.mem_cons_self]
      · rw [if_neg h2, if_neg (fun hm => by
          rcases List.mem_cons.1 hm with e | hm
          · exact h2 e.symm
          · exact h1 hm)]
theorem dropB_get : ∀ (ds : List Nat) (hs : List Ent) (j : Nat), getL .free (dropB ds hs) j = if j ∈ ds then .free else getL .free hs j
  | [], hs, j => by simp [dropB]
  | d :: ds, hs, j => by
    show getL .free (dropB ds (setL .free hs d .free)) j = _
    rw [dropB_get ds, getL_setL]
    by_cases h1 : j ∈ ds
    · rw [if_pos h1, if_pos (List.mem_cons_of_mem _ h1)]
    · rw [if_neg h1]
      by_cases h2 : d = j
      · subst h2; rw [if_pos rfl, if_pos List.mem_cons_self]
      · rw [if_neg h2, if_neg (fun hm => by
          rcases List.mem_cons.1 hm with e | hm
          · exact h2 e.symm
          · exact h1 hm)]
/-! ### the same facts under another naming -/
/-- Nothing borrowed. -/
def Leaf.nb : Leaf → Prop
  | .bor _ _ => False
  | .rp _ _ => False
  | _ => True
def AV.nb : AV → Prop
  | .one x => x.nb
  | .agg xs => ∀ x ∈ xs, x.nb
  | .tup xs => ∀ p ∈ xs, ∀ x ∈ p.2, x.nb
  | .eptr _ => False
  | .fn _ xs => ∀ x ∈ xs, x.nb
  | _ => True
def Ent.nb : Ent → Prop
  | .box _ xs => ∀ x ∈ xs, x.nb
  | _ => True
theorem nb_leaves : ∀ (t : Ty) (x : t.T), ∀ y ∈ leaves t x, y.nb
  | .int _, _, y, h => by rw [List.mem_singleton.1 h]; trivial
  | .bool, _, y, h => by rw [List.mem_singleton.1 h]; trivial
  | .str, _, y, h => by rw [List.mem_singleton.1 h]; trivial
  | .sl _, _, y, h => by rw [List.mem_singleton.1 h]; trivial
  | .pair a b, x, y, h => (List.mem_append.1 h).elim (nb_leaves a x.1 y) (nb_leaves b x.2 y)
  | .unit, _, y, h => nomatch h
theorem nb_one1 {xs : List Leaf} (h : ∀ y ∈ xs, y.nb) : (one1 xs).nb := by
  unfold one1
  split
  · exact h _ List.mem_cons_self
  · trivial
theorem nb_mkLeaf {k : LK} (h : k.nb = true) (ds : List DV) : (mkLeaf k ds).1.nb := by
  cases k with
  | v t => cases ds with
    | nil => trivial
    | cons d ds => exact nb_one1 (nb_leaves d.1 d.2)
  | bor t => cases h
  | rp t => cases h
  | _ => trivial
theorem nb_mkLeaves : ∀ {ks : List LK} (h : ks.all LK.nb = true) (ds : List DV), ∀ x ∈ (mkLeaves ks ds).1, x.nb
  | [], _, _, x, hx => nomatch hx
  | k :: ks, h, ds, x, hx => by
    obtain ⟨h1, h2⟩ := (Bool.and_eq_true _ _).mp (show (k.nb && ks.all LK.nb) = true from h)
    rcases List.mem_cons.1 hx with rfl | hx
    · exact nb_mkLeaf h1 ds
    · exact nb_mkLeaves h2 _ x hx
theorem nb_mkT {k : TK} (h : k.nb = true) (ds : List DV) : (mkT k ds).1.nb := by
  cases k with
  | one k => exact nb_mkLeaf h ds
  | agg ks => exact nb_mkLeaves h ds
  | eptr ks => cases h
  | fn f ks => exact nb_mkLeaves h ds
theorem nb_mkTs : ∀ {ks : List (Nat × TK)} (h : (ks.all fun p => p.2.nb) = true) (ds : List DV) (ts : List AV), (∀ j, (getL .unk ts j).nb) → ∀ j, (getL .unk (mkTs ks ds ts).1 j).nb
  | [], _, ds, ts, ht, j => ht j
  | (i, k) :: ks, h, ds, ts, ht, j => by
    obtain ⟨h1, h2⟩ := (Bool.and_eq_true _ _).mp (show (k.nb && ks.all fun p => p.2.nb) = true from h)
    refine nb_mkTs h2 _ _ (fun j => ?_) j
    rw [getL_setL]
    split
    · exact nb_mkT h1 ds
    · exact ht j
theorem nb_mkB {k : BK} (h : k.nb = true) (ds : List DV) : (mkB k ds).1.nb := by
  cases k with
  | box t ks => exact nb_mkLeaves h ds
  | arr z e t => cases ds with
    | nil => trivial
    | cons d ds =>
      show (mkArr z e t d).nb
      unfold mkArr
      split
      · split <;> trivial
      · trivial
  | pin e t => cases ds with
    | nil => trivial
    | cons d ds =>
      show (mkArr false e t d).nb
      unfold mkArr
      split
      · split <;> trivial
      · trivial
theorem nb_mkBs : ∀ {ks : List (Nat × BK)} (h : (ks.all fun p => p.2.nb) = true) (ds : List DV) (hs : List Ent), (∀ j, (getL .free hs j).nb) → ∀ j, (getL .free (mkBs ks ds hs) j).nb
  | [], _, ds, hs, ht, j => ht j
  | (i, k) :: ks, h, ds, hs, ht, j => by
    obtain ⟨h1, h2⟩ := (Bool.and_eq_true _ _).mp (show (k.nb && ks.all fun p => p.2.nb) = true from h)
    refine nb_mkBs h2 _ _ (fun j => ?_) j
    rw [getL_setL]
    split
    · exact nb_mkB h1 ds
    · exact ht j
theorem LeafOk.conv (hρ : ∀ n c, ρ n = some c → ρ' n = some c) (hF : ∀ b, Fix X ρ w b → Fix X' ρ' w b) {x : Leaf} {v : Value} (hb : x.nb) (h : LeafOk X ρ w x v) : LeafOk X' ρ' w x v := by
  cases x with
  | list r l => exact Rep.move (fun b hb => ⟨rfl, hF b hb⟩) h
  | bor r l => exact hb.elim
  | rp t y => exact hb.elim
  | own n =>
    refine ⟨h.1, ?_⟩
    have h2 := h.2
    cases hn : ρ n with
    | none => rw [hn] at h2; exact h2.elim
    | some c => rw [hn] at h2; rw [hρ n c hn]; exact h2
  | ptr b off =>
    refine ⟨h.1, ?_⟩
    have h2 := h.2
    cases hn : ρ b with
    | none => rw [hn] at h2; exact h2.elim
    | some c => rw [hn] at h2; rw [hρ b c hn]; exact h2
  | _ => exact h
theorem LeavesOk.conv (hρ : ∀ n c, ρ n = some c → ρ' n = some c) (hF : ∀ b, Fix X ρ w b → Fix X' ρ' w b) : ∀ {xs : List Leaf} {vs : List Value}, (∀ x ∈ xs, x.nb) → LeavesOk X ρ w xs vs → LeavesOk X' ρ' w xs vs
  | [], [], _, _ => trivial
  | x :: _, _ :: _, hb, h => ⟨h.1.conv hρ hF (hb x List.mem_cons_self), LeavesOk.conv hρ hF (fun y hy => hb y (List.mem_cons_of_mem _ hy)) h.2⟩
  | [], _ :: _, _, h => h.elim
  | _ :: _, [], _, h => h.elim
theorem CompsOk.conv (hρ : ∀ n c, ρ n = some c → ρ' n = some c) (hF : ∀ b, Fix X ρ w b → Fix X' ρ' w b) : ∀ {xs : List (Bool × List Leaf)} {vs : List Value}, (∀ p ∈ xs, ∀ x ∈ p.2, x.nb) → CompsOk X ρ w xs vs → CompsOk X' ρ' w xs vs
  | [], [], _, _ => trivial
  | x :: _, _ :: _, hb, h => by
    refine ⟨?_, CompsOk.conv hρ hF (fun y hy => hb y (List.mem_cons_of_mem _ hy)) h.2⟩
    have hb1 := hb x List.mem_cons_self
    have h1 := h.1
    unfold CompOk at h1 ⊢
    split
    · rename_i hx
      rw [if_pos hx] at h1
      obtain ⟨cs, rfl, h1⟩ := h1
      exact ⟨cs, rfl, h1.conv hρ hF hb1⟩
    · rename_i hx
      rw [if_neg hx] at h1
      exact h1.conv hρ hF hb1
  | [], _ :: _, _, h => h.elim
  | _ :: _, [], _, h => h.elim
theorem AvOk.conv (hρ : ∀ n c, ρ n = some c → ρ' n = some c) (hF : ∀ b, Fix X ρ w b → Fix X' ρ' w b) {x : AV} {v : Value} (hb : x.nb) (h : AvOk X ρ w x v) : AvOk X' ρ' w x v := by
  cases x with
  | unk => trivial
  | undef => exact h
  | one x => exact LeafOk.conv hρ hF hb h
  | agg xs => obtain ⟨cs, rfl, h⟩ := h; exact ⟨cs, rfl, h.conv hρ hF hb⟩
  | tup xs => obtain ⟨cs, rfl, h⟩ := h; exact ⟨cs, rfl, h.conv hρ hF hb⟩
  | eptr xs => exact hb.elim
  | aptr n i z off =>
    have h : AptrOk (ρ n) i z off v := h
    show AptrOk (ρ' n) i z off v
    cases hn : ρ n with
    | none => rw [hn] at h; exact h.elim
    | some c => rw [hn] at h; rw [hρ n c hn]; exact h
  | tl n i z =>
    have h : TlOk (ρ n) i z v := h
    show TlOk (ρ' n) i z v
    cases hn : ρ n with
    | none => rw [hn] at h; exact h.elim
    | some c => rw [hn] at h; rw [hρ n c hn]; exact h
  | fn f xs => obtain ⟨cs, rfl, h⟩ := h; exact ⟨cs, rfl, h.conv hρ hF hb⟩
  | gd t b x => exact h.elim
theorem EntOk.conv (hρ : ∀ n c, ρ n = some c → ρ' n = some c) (hF : ∀ b, Fix X ρ w b → Fix X' ρ' w b) {e : Ent} {c : Option Conc} (hb : e.nb) (h : EntOk X ρ w e c) : EntOk X' ρ' w e c := by
  cases e with
  | free => trivial
  | box t xs => obtain ⟨g, cs, fr, h0, h1, h2, h3⟩ := h; exact ⟨g, cs, fr, h0, h1, h2, h3.conv hρ hF hb⟩
  | arr z e t l => obtain ⟨v, h0, h1⟩ := h; exact ⟨v, h0, h1.mono hF⟩
  | frz t l => obtain ⟨v, h0, h1⟩ := h; exact ⟨v, h0, Rep.move (fun b hb => ⟨rfl, hF b hb⟩) h1⟩
theorem outK_P {ds us : List Nat} {K : Ex → St → Option R} : ∀ {os : List (Ex × Shape)} {y : Outs os} {Q : Ex → (sh : Shape) → Prod' sh.tys → Prop}, outK ds us st K os y = some r → (∀ o ∈ os, ∀ y', K o.1 (behind ds us o.2 st y') = some r → Q o.1 o.2 y') → OutP os y Q
  | [], y, Q, h, _ => nomatch y
  | [o], y, Q, h, k => k o List.mem_cons_self y h
  | o :: o' :: os, .inl y, Q, h, k => k o List.mem_cons_self y h
  | o :: o' :: os, .inr y, Q, h, k => outK_P (os := o' :: os) h fun p hp => k p (List.mem_cons_of_mem _ hp)
theorem sum_ok {c : Code} {s : Summ} (hok : s.ok = true) (h : SumIn P c s) : SumOk P C c s := by
  intro R X ρ st a w K r hrel hr
  rw [V_sum] at hr
  cases hc : (plainB st && Nat.beq st.n s.n && (Nat.ble st.nb s.ish.nb && (pureSlots s.ish (frzAll st (pureSlots s.ish st))).isEmpty)) with
  | false => rw [hc] at hr; cases hr
  | true =>
    rw [hc] at hr
    obtain ⟨c01, c2⟩ := (Bool.and_eq_true _ _).mp hc
    obtain ⟨c0, c1⟩ := (Bool.and_eq_true _ _).mp c01
    obtain ⟨c0a, c0b⟩ := (Bool.and_eq_true _ _).mp c0
    have c0a := Nat.eq_of_beq_eq_true c0a
    have c0b : st.res = [] := by
      cases hres : st.res with
      | nil => rfl
      | cons _ _ => rw [hres] at c0b; cases c0b
    obtain ⟨c2, _⟩ := (Bool.and_eq_true _ _).mp c2
    have c1 := Nat.eq_of_beq_eq_true c1
    have c2 := Nat.le_of_ble_eq_true c2
    obtain ⟨ρ1, h1, e1, n1, b1, l1, q1⟩ := frzAll_ok (pureSlots s.ish st) hrel
    generalize hst1 : frzAll st (pureSlots s.ish st) = st1 at hr h1 n1 b1 l1 q1
    replace hr : (match rd s.ish st1 with
      | some x => (s.f x).bind fun y => outK (dsts c) (usedSlots s.ish st1) st1 K s.outs y
      | none => none) = some r := hr
    split at hr
    · rename_i x hx
      obtain ⟨ds, m, hrd, hp⟩ := rd_some hx
      have hus : usedSlots s.ish st1 = boxIds s.ish.slots ++ m.map (·.2) := by
        unfold usedSlots
        rw [hrd]
      rw [hus] at hr
      generalize hu : boxIds s.ish.slots ++ m.map (·.2) = us at hr
      cases hf : s.f x with
      | none => rw [hf] at hr; cases hr
      | some y =>
        rw [hf] at hr
        replace hr : outK (dsts c) us st1 K s.outs y = some r := hr
        have hish : shOk s.ish = true := by
          unfold Summ.ok at hok
          exact ((Bool.and_eq_true _ _).mp hok).1
        let X' : Nat → Prop := fun b => X b ∨ ∃ j, j ∉ us ∧ owns (ρ1 j) b
        obtain ⟨ρi, k1, k2, k3, k4⟩ := rd_sound (X' := X') h1 hish hrd hp (fun b hb => .inl hb) (fun b hb => by
          rcases hb with hb | ⟨j, _, hb⟩
          · exact h1.xlt b hb
          · exact (h1.lt j b hb).1) (fun b hb => by
          rcases hb with hb | ⟨j, hj, hb⟩
          · exact .inl hb
          · exact .inr ⟨j, by rw [hu]; exact hj, hb⟩)
        rw [hu] at k4
        have hb1 := rd_live h1 hrd
        rw [n1, c1] at k1
        intro Q hq
        refine h X' ρi x y a w hf k1 (fun i hi => by rw [k2 i hi]; exact hb1 i hi) k3 Q (outK_P hr ?_)
        intro o ho y' hK ρ' a' w' m1 m2 m3 m4 m5
        have hoo : outOk s.ish o.2 = true ∧ shOk o.2 = true := by
          unfold Summ.ok at hok
          exact (Bool.and_eq_true _ _).mp (List.all_eq_true.1 ((Bool.and_eq_true _ _).mp hok).2 o ho)
        obtain ⟨hoo1, hoo2⟩ := hoo
        have hsm : ∀ i ∈ o.2.slots.map (·.1), i < 1000000 := fun i hi => by
          unfold shOk at hoo2
          simp only [Bool.and_eq_true] at hoo2
          obtain ⟨p, hp, rfl⟩ := List.mem_map.1 hi
          have := List.all_eq_true.1 hoo2.1.1.2 p hp
          obtain ⟨t1, t2⟩ := (Bool.and_eq_true _ _).mp this
          exact Nat.le_of_ble_eq_true t2
        unfold outOk at hoo1
        simp only [Bool.and_eq_true] at hoo1
        obtain ⟨⟨⟨⟨⟨nb1, nb2⟩, o1⟩, o2⟩, o3⟩, o4⟩ := hoo1
        have o3 := Nat.le_of_ble_eq_true o3
        let ids := o.2.slots.map (·.1)
        have hids : ∀ i ∈ ids, (i ∈ boxIds s.ish.slots ∧ i ∈ boxIds o.2.slots) ∨ s.ish.nb ≤ i := fun i hi => by
          obtain ⟨p, hp, rfl⟩ := List.mem_map.1 hi
          have := List.all_eq_true.1 o1 p hp
          obtain ⟨pi, pk⟩ := p
          rcases (Bool.or_eq_true _ _).mp this with h | h
          · cases pk with
            | box t ks => exact .inl ⟨any_beq h, mem_boxIds hp⟩
            | pin e t => exact .inl ⟨any_beq h, mem_pinIds hp⟩
            | arr z e t => cases h
          · exact .inr (Nat.le_of_ble_eq_true h)
        have hidlt : ∀ i ∈ ids, i < o.2.nb := fun i hi => by
          obtain ⟨p, hp, rfl⟩ := List.mem_map.1 hi
          exact Nat.le_of_ble_eq_true (List.all_eq_true.1 o2 p hp)
        let ρ2 : Rho := fun i => if i ∈ ids then ρ' i else if i ∈ us then (ρ1 i).map (fun _ => .dead) else ρ1 i
        have q1 : ∀ i ∈ ids, ρ2 i = ρ' i := fun i hi => by
          show (if i ∈ ids then ρ' i else _) = _
          rw [if_pos hi]
        have q2 : ∀ i, i ∉ ids → i ∈ us → ρ2 i = (ρ1 i).map (fun _ => .dead) := fun i hi hi2 => by
          show (if i ∈ ids then ρ' i else if i ∈ us then _ else _) = _
          rw [if_neg hi, if_pos hi2]
        have q3 : ∀ i, i ∉ ids → i ∉ us → ρ2 i = ρ1 i := fun i hi hi2 => by
          show (if i ∈ ids then ρ' i else if i ∈ us then _ else _) = _
          rw [if_neg hi, if_neg hi2]
        have fresh1 : ∀ i, st1.nb ≤ i → i < 1000000 → ρ1 i = none := fun i hge hlt => h1.fresh.1 i (.inl ⟨hge, by rw [l1, c0a]; exact hlt⟩)
        have old : ∀ i c, i < 1000000 → ρ1 i = some c → i < s.ish.nb := fun i c hm hc => by
          rcases Nat.lt_or_ge i st1.nb with hlt | hge
          · omega
          · rw [fresh1 i hge hm] at hc; cases hc
        have own2 : ∀ i b, owns (ρ2 i) b → (i ∈ ids ∧ owns (ρ' i) b) ∨ (i ∉ us ∧ i ∉ ids ∧ owns (ρ1 i) b) := fun i b hb => by
          by_cases hi : i ∈ ids
          · rw [q1 i hi] at hb; exact .inl ⟨hi, hb⟩
          · by_cases hi2 : i ∈ us
            · rw [q2 i hi hi2] at hb
              cases hρ : ρ1 i with
              | none => rw [hρ] at hb; exact hb.elim
              | some c => rw [hρ] at hb; exact hb.elim
            · rw [q3 i hi hi2] at hb; exact .inr ⟨hi2, hi, hb⟩
        have x2 : Ext ρ1 w ρ2 w' := by
          refine ⟨m2.os, m2.tape, m2.output, m2.size, ?_, ?_, ?_⟩
          · intro b hb hn
            refine m2.keep b hb fun i hi => ?_
            obtain ⟨j, _, hj⟩ := k4 i b hi
            exact hn j hj
          · intro i b hi
            rcases own2 i b hi with ⟨_, hb⟩ | ⟨_, _, hb⟩
            · rcases m2.own i b hb with ⟨j, hj⟩ | hj
              · obtain ⟨j', _, hj'⟩ := k4 j b hj
                exact .inl ⟨j', hj'⟩
              · exact .inr hj
            · exact .inl ⟨i, hb⟩
          · intro i c hc
            by_cases hi : i ∈ ids
            · have hlt := old i c (hsm i hi) hc
              rcases hids i hi with ⟨hb, hb2⟩ | hge
              · rw [q1 i hi, m3 i hb2 hb, k2 i hb]
                exact .inl hc
              · omega
            · by_cases hi2 : i ∈ us
              · rw [q2 i hi hi2, hc]
                exact .inr (.inl rfl)
              · rw [q3 i hi hi2]
                exact .inl hc
        have hρ2 : ∀ n c, ρ' n = some c → ρ2 n = some c := fun n c hc => by
          by_cases hi : n ∈ ids
          · rw [q1 n hi]; exact hc
          · rw [m4 n hi] at hc; cases hc
        have hF : ∀ b, Fix X' ρ' w' b → Fix X ρ2 w' b := fun b hb => by
          refine ⟨hb.1, fun hx => hb.2.1 (.inl hx), fun i hi => ?_⟩
          rcases own2 i b hi with ⟨_, hi'⟩ | ⟨hn, _, hi'⟩
          · exact hb.2.2 i hi'
          · exact hb.2.1 (.inr ⟨i, hn, hi'⟩)
        have hkeep : ∀ j b, j ∉ us → owns (ρ1 j) b → w'.heap[b]? = w.heap[b]? := fun j b hj hb => by
          refine m2.keep b (h1.lt j b hb).1 fun i hi => ?_
          obtain ⟨j', hj', hb'⟩ := k4 i b hi
          have := h1.sep j j' b hb hb'
          subst this
          exact hj hj'
        have hrel2 : Rel X ρ2 (behind (dsts c) us o.2 st1 y') a' w' := by
          have hn2 : (mk o.2 s.n y').n = s.n := rfl
          refine ⟨m1.defers, ?_, ?_, ?_, ?_, ?_, (fun _ _ _ _ hm => nomatch hm), ?_, fun b hb => m1.xlt b (.inl hb), ⟨m1.gl.1, fun n hn i hi => by
            rcases own2 i n hi with ⟨_, hb⟩ | ⟨_, _, hb⟩
            · exact m1.gl.2 n hn i hb
            · exact h1.gl.2 n hn i hb⟩⟩
          · show a'.tmps.size = st1.n
            rw [m1.size, hn2, n1, c1]
          · intro i j b hi hj
            rcases own2 i b hi with ⟨hi1, hi2⟩ | ⟨hi1, hi3, hi2⟩ <;> rcases own2 j b hj with ⟨hj1, hj2⟩ | ⟨hj1, hj3, hj2⟩
            · exact m1.sep i j b hi2 hj2
            · exact absurd (.inr ⟨j, hj1, hj2⟩) (m1.lt i b hi2).2
            · exact absurd (.inr ⟨i, hi1, hi2⟩) (m1.lt j b hj2).2
            · exact h1.sep i j b hi2 hj2
          · intro i b hi
            rcases own2 i b hi with ⟨_, hb⟩ | ⟨_, _, hb⟩
            · exact ⟨(m1.lt i b hb).1, fun hx => (m1.lt i b hb).2 (.inl hx)⟩
            · exact ⟨Nat.lt_of_lt_of_le (h1.lt i b hb).1 x2.size, (h1.lt i b hb).2⟩
          · intro i
            have he : (behind (dsts c) us o.2 st1 y').ent i = if i ∈ ids then (mk o.2 s.n y').ent i else if i ∈ us then .free else st1.ent i := by
              show getL .free (mkBs o.2.slots (mkTs o.2.tmps (ofProd o.2.tys y') (dropT (dsts c) st1.tmps)).2 (dropB us st1.heap)) i = _
              rw [mkBs_over, dropB_get, (mkTs_over o.2.tmps _ _).1]
              rfl
            rw [he]
            by_cases hi : i ∈ ids
            · rw [if_pos hi, q1 i hi]
              exact (m1.ents i).conv hρ2 hF (nb_mkBs nb2 _ _ (fun j => by rw [getL_nil]; trivial) i)
            · rw [if_neg hi]
              by_cases hi2 : i ∈ us
              · rw [if_pos hi2]; trivial
              · rw [if_neg hi2]
                exact EntOk.ext (h1.ents i) x2 (q3 i hi hi2) (fun b hb => hkeep i b hi2 hb)
          · intro j
            show AvOk X ρ2 w' (getL .unk (mkTs o.2.tmps (ofProd o.2.tys y') (dropT (dsts c) st1.tmps)).1 j) (tmOf a' j)
            rw [(mkTs_over o.2.tmps _ _).2 j, dropT_get]
            by_cases hj : j ∈ o.2.tmps.map (·.1)
            · rw [if_pos hj]
              exact AvOk.conv hρ2 hF (nb_mkTs nb1 _ _ (fun j => by rw [getL_nil]; trivial) j) (m1.tmps j)
            · rw [if_neg hj]
              by_cases hj2 : j ∈ dsts c
              · rw [if_pos hj2]; trivial
              · rw [if_neg hj2, m5 j hj2]
                exact (h1.tmps j).ext x2
          · refine ⟨fun i hi => ?_, fun p hp => nomatch hp⟩
            rcases hi with ⟨hi, hi9⟩ | ⟨p, hp, _⟩
            rotate_left
            · cases hp
            have hi : o.2.nb ≤ i := hi
            have hi9 : i < 1000000 := hi9
            have hni : i ∉ ids := fun hm => by have := hidlt i hm; omega
            have hρ : ρ1 i = none := fresh1 i (by omega) hi9
            by_cases hi2 : i ∈ us
            · rw [q2 i hni hi2, hρ]; rfl
            · rw [q3 i hni hi2, hρ]
        exact hq o.1 ρ2 _ a' w' hK hrel2 (e1.trans x2) n1 m5
    · cases hr
end
end Go.Proofs.YtaajcllchbnjiaaDoorE

namespace Go.Proofs.YtaajcllchbnjiaaDoorE
open Go
set_option linter.unusedVariables false
def cL : Code → Code
  | .seq a _ => a
  | .cond _ a _ => a
  | c => c
def cR : Code → Code
  | .seq _ b => b
  | .cond _ _ b => b
  | c => c
def cO : Code → Code
  | .block _ a => a
  | .loop a => a
  | c => c
def cB (f : Func) : Code := f.body.getD .skip
/-- The contracts of a list of functions; more than one for a function stand one after the other. -/
def conL : List (Nat × Con) → FuncId → List Con
  | [], _ => []
  | p :: ps, f => bif Nat.beq p.1 f then p.2 :: conL ps f else conL ps f
def AllC (P : Program) : List (Nat × Con) → Prop
  | [] => True
  | p :: ps => ConOk P p.1 p.2 ∧ AllC P ps
theorem conL_ok {P : Program} : ∀ {L : List (Nat × Con)}, AllC P L → ConsOk P (conL L)
  | [], _, f, c, hc => nomatch hc
  | p :: ps, h, f, c, hc => by
    unfold conL at hc
    cases hf : Nat.beq p.1 f with
    | false => rw [hf] at hc; exact conL_ok h.2 f c hc
    | true =>
      rw [hf] at hc
      obtain rfl := Nat.eq_of_beq_eq_true hf
      rcases List.mem_cons.1 hc with rfl | hc
      · exact h.1
      · exact conL_ok h.2 p.1 c hc
theorem ctx_ok {P : Program} {ti : Tab TI} {L : List (Nat × Con)} {rob tl : Bool} (T : TiOk P ti ∧ P.follows .mixedOrders = true) (h : AllC P L) : CtxOk P { ti := ti, con := conL L, rob := rob, tl := tl } := ⟨T.1, conL_ok h, T.2⟩
/-- The summaries of a plan, each with its code. -/
def sumsOf (p : Plan) (c : Code) : List (Summ × Code) := match p with
  | .sum s => [(s, c)]
  | p => match c with
    | .seq a b => sumsOf p.l a ++ sumsOf p.r b
    | .cond _ a b => sumsOf p.l a ++ sumsOf p.r b
    | .block _ a => sumsOf p.o a
    | _ => []
def AllS (P : Program) (C : Ctx) : List (Summ × Code) → Prop
  | [] => True
  | p :: ps => SumOk P C p.2 p.1 ∧ AllS P C ps
theorem AllS.mem {P : Program} {C : Ctx} : ∀ {L : List (Summ × Code)}, AllS P C L → ∀ p ∈ L, SumOk P C p.2 p.1
  | [], _, p, hp => nomatch hp
  | q :: L, h, p, hp => by
    rcases List.mem_cons.1 hp with rfl | hp
    · exact h.1
    · exact AllS.mem h.2 p hp
theorem plan_mem {P : Program} {C : Ctx} : ∀ {c : Code} {p : Plan}, (∀ q ∈ sumsOf p c, SumOk P C q.2 q.1) → PlanOk P C p c := by
  intro c
  induction c with
  | seq a b iha ihb =>
    intro p h
    by_cases hs : ∃ s, p = .sum s
    · obtain ⟨s, rfl⟩ := hs; exact h (s, _) List.mem_cons_self
    · have e : sumsOf p (.seq a b) = sumsOf p.l a ++ sumsOf p.r b := by cases p <;> first | rfl | exact absurd ⟨_, rfl⟩ hs
      rw [e] at h
      have k : PlanOk P C p.l a ∧ PlanOk P C p.r b := ⟨iha fun q hq => h q (List.mem_append_left _ hq), ihb fun q hq => h q (List.mem_append_right _ hq)⟩
      cases p <;> first | exact k | exact absurd ⟨_, rfl⟩ hs
  | cond x a b iha ihb =>
    intro p h
    by_cases hs : ∃ s, p = .sum s
    · obtain ⟨s, rfl⟩ := hs; exact h (s, _) List.mem_cons_self
    · have e : sumsOf p (.cond x a b) = sumsOf p.l a ++ sumsOf p.r b := by cases p <;> first | rfl | exact absurd ⟨_, rfl⟩ hs
      rw [e] at h
      have k : PlanOk P C p.l a ∧ PlanOk P C p.r b := ⟨iha fun q hq => h q (List.mem_append_left _ hq), ihb fun q hq => h q (List.mem_append_right _ hq)⟩
      cases p <;> first | exact k | exact absurd ⟨_, rfl⟩ hs
  | block id a ih =>
    intro p h
    by_cases hs : ∃ s, p = .sum s
    · obtain ⟨s, rfl⟩ := hs; exact h (s, _) List.mem_cons_self
    · have e : sumsOf p (.block id a) = sumsOf p.o a := by cases p <;> first | rfl | exact absurd ⟨_, rfl⟩ hs
      rw [e] at h
      have k : PlanOk P C p.o a := ih fun q hq => h q hq
      cases p <;> first | exact k | exact absurd ⟨_, rfl⟩ hs
  | _ =>
    intro p h
    by_cases hs : ∃ s, p = .sum s
    · obtain ⟨s, rfl⟩ := hs; exact h (s, _) List.mem_cons_self
    · cases p <;> first | trivial | exact absurd ⟨_, rfl⟩ hs
theorem plan_of {P : Program} {C : Ctx} {p : Plan} {c : Code} {L : List (Summ × Code)} (h : sumsOf p c = L) (k : AllS P C L) : PlanOk P C p c := plan_mem (by rw [h]; exact k.mem)
/-- All leaves alike. -/
def ros (t : Ty) : List PL := (leafTys t).map fun _ => .ro
def kept (t : Ty) : List PL := (leafTys t).map fun _ => .v
end Go.Proofs.YtaajcllchbnjiaaDoorE
