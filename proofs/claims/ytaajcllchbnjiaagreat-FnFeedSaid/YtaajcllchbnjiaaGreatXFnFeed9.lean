/- What the law FnFeed needs, part 10 of 11: the Lean functions of the Go functions that it reaches, with the proofs that the calls come to what they say, and plain facts about them. Conditions: those that each theorem states. Written by a session and by its programs (after the kit's printer). -/
import Derived.Test.YtaajcllchbnjiaaGreatXFnFeed8
namespace Go.Proofs.YtaajcllchbnjiaaGreatE
open Go
set_option linter.unusedVariables false
abbrev FeedT := StepT × Int × Str
abbrev CmdT := Int × Int × Int × Str × StepT
namespace Feed
def zeroS : StepT := (0, (0, (0, [])))
/-- No head stands yet. -/
def fresh (h : StepT) : Bool := (h.1 == 0) && ((h.2.1 == 0) && ((h.2.2.1 == 0) && (h.2.2.2 == [])))
def hB (h : StepT) : Bool := headB h.1 h.2.1 h.2.2.1 h.2.2.2
def Inv (h : StepT) (g : Int) : Prop := (fresh h = true ∧ g = 0) ∨ (fresh h = false ∧ hB h = true ∧ 0 ≤ g ∧ g ≤ h.2.1)
theorem hB_fresh {h : StepT} (q : hB h = true) : fresh h = false := by
  have := headB_is q
  unfold fresh
  rw [beqd, decide_eq_false (by omega : ¬ (h.1 = 0))]
  rfl
/-- What one element makes of the state. -/
def takeM (h : StepT) (g : Int) (c : List CmdT) (s : Str) : Option (StepT × Int × List CmdT) :=
  if fresh h = true then
    if (headR s).2.2.2.2 = 0 then some (((headR s).1, ((headR s).2.1, ((headR s).2.2.1, (headR s).2.2.2.1))), g, c ++ [(1, ((headR s).2.1, ((headR s).2.2.1, ((headR s).2.2.2.1, zeroS))))]) else none
  else if (unsealI s).2 = 0 then match stepOf (bodyOf s) with
    | some q => if stepB q.1 q.2.1 q.2.2.1 q.2.2.2 h.1 = true then if g + 1 = h.2.1 then some (h, g + 1, (c ++ [(2, (0, (0, ([], q))))]) ++ [(3, (0, (0, ([], zeroS))))]) else some (h, g + 1, c ++ [(2, (0, (0, ([], q))))]) else none
    | none => none
  else none
def TakeOk (r : Option (StepT × Int × List CmdT)) (rest : Str) (code : Int) (v : Bool × Int × Int × Int × Str × Int × Str × List CmdT × Int) : Prop := match r with
  | some q => v = (true, q.1.1, q.1.2.1, q.1.2.2.1, q.1.2.2.2, q.2.1, rest, q.2.2, code)
  | none => v.1 = false
theorem take_inv {h : StepT} {g : Int} {c : List CmdT} {s : Str} {q : StepT × Int × List CmdT} (hi : Inv h g) (hn : fresh h = false → g < h.2.1) (e : takeM h g c s = some q) : Inv q.1 q.2.1 ∧ q.2.2.length ≤ c.length + 2 := by
  unfold takeM at e
  split at e
  · rename_i hf
    split at e
    · rename_i hr
      cases e
      refine ⟨.inr ?_, by simp⟩
      have hg : g = 0 := by
        rcases hi with hi | hi
        · exact hi.2
        · rw [hi.1] at hf; cases hf
      have hb : hB ((headR s).1, ((headR s).2.1, ((headR s).2.2.1, (headR s).2.2.2.1))) = true := by
        unfold headR at hr ⊢
        split at hr
        · rename_i hu
          rw [if_pos hu]
          unfold headOf at hr ⊢
          cases hq : quadZ (bodyOf s) with
          | none => rw [hq] at hr; simp at hr
          | some w =>
            obtain ⟨x, y, z, t, d⟩ := w
            rw [hq] at hr
            simp only at hr ⊢
            by_cases hd : d = (bodyOf s).length ∧ headB x y z t = true
            · rw [if_pos hd]; exact hd.2
            · rw [if_neg hd] at hr; simp at hr
        · rename_i hu
          exact absurd hr hu
      have hh : 1 ≤ (headR s).2.1 := (headB_is hb).2.1.1
      exact ⟨hB_fresh hb, hb, by show (0 : Int) ≤ g; omega, by show g ≤ (headR s).2.1; omega⟩
    · cases e
  · rename_i hf
    have hf : fresh h = false := Bool.eq_false_iff.2 hf
    have hi : hB h = true ∧ 0 ≤ g ∧ g ≤ h.2.1 := by
      rcases hi with hi | hi
      · rw [hi.1] at hf; cases hf
      · exact hi.2
    have hn := hn hf
    split at e
    · split at e
      · split at e
        · split at e
          · cases e
            exact ⟨.inr ⟨hf, hi.1, by show (0 : Int) ≤ g + 1; omega, by show g + 1 ≤ h.2.1; omega⟩, by simp⟩
          · cases e
            exact ⟨.inr ⟨hf, hi.1, by show (0 : Int) ≤ g + 1; omega, by show g + 1 ≤ h.2.1; omega⟩, by simp⟩
        · cases e
      · cases e
    · cases e
theorem iTake (h : StepT) (g : Int) (c : List CmdT) (s rest : Str) (code : Int) (hs : s.length ≤ 8000) (hc : c.length ≤ 100000) (hi : Inv h g) (hn : fresh h = false → g < h.2.1) :
    Ever fun k => ∃ v, impl_FeedOut_take k ((h, (g, rest)), (c, code)) s (!(fresh h)) = some v ∧ TakeOk (takeM h g c s) rest code v := by
  cases hf : fresh h with
  | true =>
    refine (iHeadRead s hs).mono fun k e => ?_
    unfold impl_FeedOut_take takeM
    simp only [Bool.not_true, Bool.not_false, cond_true]
    rw [e, hf]
    simp only [Option.bind_some]
    rw [app_ok (by simp; omega)]
    simp only [Option.bind_some]
    refine ⟨_, rfl, ?_⟩
    by_cases hr : (headR s).2.2.2.2 = 0
    · rw [if_pos True.intro, if_pos hr, hr]; rfl
    · rw [if_pos True.intro, if_neg hr]
      show ((headR s).2.2.2.2 == 0) = false
      rw [beqd, decide_eq_false hr]
  | false =>
    have hi : hB h = true ∧ 0 ≤ g ∧ g ≤ h.2.1 := by
      rcases hi with hi | hi
      · rw [hi.1] at hf; cases hf
      · exact hi.2
    have hn := hn hf
    have hh := headB_is hi.1
    refine ((iUnseal s (by omega)).and (iStepRead (unsealI s).1 (by have := unseal_len s; omega))).mono fun k ⟨e1, e2⟩ => ?_
    unfold impl_FeedOut_take takeM
    simp only [Bool.not_true, Bool.not_false, cond_false]
    rw [e1]
    simp only [Option.bind_some]
    rw [e2, hf, if_neg (by simp)]
    simp only [Option.bind_some]
    by_cases hu : (unsealI s).2 = 0
    · rw [if_pos hu, hu, (unseal_ok hu).1]
      simp only [show ((0 : Int) != 0) = false from rfl, cond_false]
      cases hq : stepOf (bodyOf s) with
      | none => exact ⟨_, rfl, rfl⟩
      | some q =>
        obtain ⟨x, y, z, t⟩ := q
        simp only [Bool.not_true, cond_false]
        rw [iStep x y z t h.1 (by omega) (by omega)]
        simp only [Option.bind_some]
        by_cases hb : stepB x y z t h.1 = true
        · rw [if_pos hb, hb, app_ok (by simp; omega), w64 (n := g + 1) (by omega) (by omega), beqd]
          simp only [Bool.not_true, cond_false, Option.bind_some]
          by_cases he : g + 1 = h.2.1
          · rw [if_pos he, decide_eq_true he, app_ok (by simp; omega)]
            exact ⟨_, rfl, rfl⟩
          · rw [if_neg he, decide_eq_false he]
            exact ⟨_, rfl, rfl⟩
        · rw [if_neg hb, Bool.eq_false_iff.2 hb]
          exact ⟨_, rfl, rfl⟩
    · rw [if_neg hu, show ((unsealI s).2 != 0) = true by simpa using hu]
      exact ⟨_, rfl, rfl⟩
theorem sTake (h : StepT) (g : Int) (c : List CmdT) (s rest : Str) (code : Int) (hs : s.length ≤ 8000) (hc : c.length ≤ 100000) (hi : Inv h g) :
    Ever fun k => ∃ v, spec_l18Take k ((h, (g, rest)), (c, code)) s = some v ∧ TakeOk (if fresh h = false ∧ g = h.2.1 then none else takeM h g c s) rest code v := by
  cases hf : fresh h with
  | true =>
    refine (sHeadRead s hs).mono fun k e => ?_
    unfold spec_l18Take takeM
    rw [show ((h.1 == 0) && ((h.2.1 == 0) && ((h.2.2.1 == 0) && (h.2.2.2 == [])))) = true from hf, if_neg (fun q => by cases q.1)]
    simp only [cond_true]
    rw [e, hf]
    simp only [Option.bind_some]
    rw [app_ok (by simp; omega)]
    simp only [Option.bind_some]
    refine ⟨_, rfl, ?_⟩
    by_cases hr : (headR s).2.2.2.2 = 0
    · rw [if_pos True.intro, if_pos hr, hr]; rfl
    · rw [if_pos True.intro, if_neg hr]
      show ((headR s).2.2.2.2 == 0) = false
      rw [beqd, decide_eq_false hr]
  | false =>
    have hi : hB h = true ∧ 0 ≤ g ∧ g ≤ h.2.1 := by
      rcases hi with hi | hi
      · rw [hi.1] at hf; cases hf
      · exact hi.2
    have hh := headB_is hi.1
    refine ((sUnseal s hs).and (sStepRead (unsealI s).1 (by have := unseal_len s; omega))).mono fun k ⟨e1, e2⟩ => ?_
    unfold spec_l18Take takeM
    rw [show ((h.1 == 0) && ((h.2.1 == 0) && ((h.2.2.1 == 0) && (h.2.2.2 == [])))) = false from hf]
    simp only [cond_false]
    rw [e1]
    simp only [Option.bind_some]
    rw [e2, hf, if_neg (by simp : ¬ (false = true))]
    simp only [Option.bind_some, true_and]
    by_cases hu : (unsealI s).2 = 0
    · rw [if_pos hu, hu, (unseal_ok hu).1]
      simp only [show ((0 : Int) != 0) = false from rfl, cond_false]
      cases hq : stepOf (bodyOf s) with
      | none =>
        refine ⟨_, rfl, ?_⟩
        split <;> exact rfl
      | some q =>
        obtain ⟨x, y, z, t⟩ := q
        simp only [show ((0 : Int) != 0) = false from rfl, cond_false]
        rw [sStep x y z t h.1 (by omega) (by omega)]
        simp only [Option.bind_some]
        by_cases hb : stepB x y z t h.1 = true
        · rw [if_pos hb, hb]
          simp only [Bool.not_true, cond_false]
          by_cases hl : g = h.2.1
          · rw [if_pos hl, decide_eq_true (by omega : h.2.1 ≤ g)]
            exact ⟨_, rfl, rfl⟩
          · rw [if_neg hl, decide_eq_false (by omega : ¬ (h.2.1 ≤ g)), app_ok (by simp; omega), w64 (n := g + 1) (by omega) (by omega), beqd]
            simp only [cond_false, Option.bind_some]
            by_cases he : g + 1 = h.2.1
            · rw [if_pos he, decide_eq_true he, app_ok (by simp; omega)]
              exact ⟨_, rfl, rfl⟩
            · rw [if_neg he, decide_eq_false he]
              exact ⟨_, rfl, rfl⟩
        · rw [if_neg hb, Bool.eq_false_iff.2 hb]
          refine ⟨_, rfl, ?_⟩
          split <;> exact rfl
    · rw [if_neg hu, show ((unsealI s).2 != 0) = true by simpa using hu]
      refine ⟨_, rfl, ?_⟩
      split <;> exact rfl
/-! the loops -/
def feedM : Nat → Str → Nat → StepT → Int → List CmdT → Option (Nat × StepT × Int × List CmdT)
  | 0, _, _, _, _, _ => none
  | d + 1, s, a, h, g, c => if a < s.length then
      if fresh h = false ∧ g = h.2.1 then none
      else if (getTextZ s a).2.2 = 4 then some (a, h, g, c)
      else if (getTextZ s a).2.2 = 0 then match takeM h g c (getTextZ s a).1 with
        | some q => feedM d s (getTextZ s a).2.1.toNat q.1 q.2.1 q.2.2
        | none => none
      else none
    else some (a, h, g, c)
abbrev Out := (Int × Int × Int × Int × Str × Int × Str × Int × Int × Int × Int × Str × Int × Str × Int × List CmdT × List CmdT) ⊕ (Int × Int × Int × Str × Int × Str × Int × Int × Int × Int × Str × Int × Str × Int × List CmdT × List CmdT)
def outL (r : Str) (a : Nat) (h : StepT) (g : Int) (c : List CmdT) : Out := .inl ((a : Int), 0, 0, 0, [], 0, [], 0, h.1, h.2.1, h.2.2.1, h.2.2.2, g, r, 0, [], c)
def OutR (X : Out) : Prop := ∃ (a b c : Int) (d : Str) (e : Int) (f : Str) (g : Int) (l : List CmdT), X = .inr (0, 0, 0, [], 0, [], 3, a, b, c, d, e, f, g, [], l)
def PostI (s : Str) (r : Option (Nat × StepT × Int × List CmdT)) (X : Out) : Prop := match r with
  | some q => X = outL [] q.1 q.2.1 q.2.2.1 q.2.2.2 ∧ q.1 ≤ s.length ∧ q.2.2.2.length ≤ 100000
  | none => OutR X
def PostS (r : Str) (s : Str) (m : Option (Nat × StepT × Int × List CmdT)) (X : Out) : Prop := match m with
  | some q => X = outL r q.1 q.2.1 q.2.2.1 q.2.2.2 ∧ q.1 ≤ s.length ∧ (q.1 = s.length ∨ (Inv q.2.1 q.2.2.1 ∧ ¬ (fresh q.2.1 = false ∧ q.2.2.1 = q.2.1.2.1)))
  | none => OutR X ∨ ∃ a h g c, X = outL r a h g c ∧ a < s.length ∧ Inv h g ∧ fresh h = false ∧ g = h.2.1
theorem text_next {s : Str} {a : Nat} (h : (getTextZ s a).2.2 = 0) : ∃ t b, getTextZ s a = (t, ((b : Nat) : Int), 0) ∧ a < b ∧ b ≤ s.length ∧ t.length ≤ 8000 := by
  rcases text_cases s a with ⟨t, b, e, q⟩ | ⟨c, hc, e⟩
  · refine ⟨t, b, e, ?_, q.le, q.size⟩
    have := q.at'
    have := putOf_pos (t.length : Int)
    unfold putTextOf at *
    simp only [List.length_append] at *
    omega
  · rw [e] at h; exact absurd h hc
theorem iLoop (s : Str) (hs : s.length ≤ 8000) : ∀ (d a : Nat) (h : StepT) (g : Int) (c : List CmdT), Inv h g → a ≤ s.length → s.length - a < d → c.length ≤ 2 * a →
    Ever fun k => ∀ j, d ≤ j → ∃ X, impl_feedPut.l0 k j s (a : Int) 0 0 0 [] 0 [] 0 h.1 h.2.1 h.2.2.1 h.2.2.2 g [] 0 [] c = some X ∧ PostI s (feedM d s a h g c) X
  | 0, a, h, g, c, hi, ha, hd, hc => absurd hd (Nat.not_lt_zero _)
  | d + 1, a, h, g, c, hi, ha, hd, hc => by
    by_cases hl : a < s.length
    · by_cases hfin : fresh h = false ∧ g = h.2.1
      · refine Ever.of fun k j hj => ?_
        obtain ⟨j, rfl⟩ : ∃ m, j = m + 1 := ⟨j - 1, by omega⟩
        unfold impl_feedPut.l0 feedM
        rw [decide_eq_true (by omega : (a : Int) < (s.length : Int)), if_pos hl, if_pos hfin]
        have hf : ((h.1 == 0) && ((h.2.1 == 0) && ((h.2.2.1 == 0) && (h.2.2.2 == [])))) = false := hfin.1
        simp only [cond_true]
        rw [hf, beqd, decide_eq_true hfin.2]
        exact ⟨_, rfl, _, _, _, _, _, _, _, _, rfl⟩
      · have hgt := iGetText s a (by omega) (by omega)
        have hkn : ((!(fresh h)) && (g == h.2.1)) = false := by
          rw [Bool.eq_false_iff, Ne, Bool.and_eq_true, beqd, decide_eq_true_eq, Bool.not_eq_true']
          exact hfin
        have hnf : fresh h = false → g < h.2.1 := fun q => by
          rcases hi with hi | hi
          · rw [hi.1] at q; cases q
          · have : g ≠ h.2.1 := fun e => hfin ⟨q, e⟩
            omega
        by_cases h4 : (getTextZ s a).2.2 = 4
        · refine hgt.mono fun k e j hj => ?_
          obtain ⟨j, rfl⟩ : ∃ m, j = m + 1 := ⟨j - 1, by omega⟩
          unfold impl_feedPut.l0 feedM
          rw [decide_eq_true (by omega : (a : Int) < (s.length : Int)), if_pos hl, if_neg hfin, if_pos h4]
          simp only [cond_true]
          rw [show (!((h.1 == 0) && ((h.2.1 == 0) && ((h.2.2.1 == 0) && (h.2.2.2 == []))))) = !(fresh h) from rfl, hkn, cond_false, e]
          simp only [Option.bind_some]
          rw [h4]
          exact ⟨_, rfl, rfl, ha, by show c.length ≤ 100000; omega⟩
        · by_cases h0 : (getTextZ s a).2.2 = 0
          · obtain ⟨t, b, e1, hab, hb, ht⟩ := text_next h0
            have htk := iTake h g c t [] 0 ht (by omega) hi hnf
            cases hm : takeM h g c t with
            | none =>
              refine (hgt.and htk).mono fun k ⟨e, v, e2, ok⟩ j hj => ?_
              obtain ⟨j, rfl⟩ : ∃ m, j = m + 1 := ⟨j - 1, by omega⟩
              rw [hm] at ok
              have ok : v.1 = false := ok
              unfold impl_feedPut.l0 feedM
              rw [decide_eq_true (by omega : (a : Int) < (s.length : Int)), if_pos hl, if_neg hfin, if_neg h4, if_pos h0]
              simp only [cond_true]
              rw [show (!((h.1 == 0) && ((h.2.1 == 0) && ((h.2.2.1 == 0) && (h.2.2.2 == []))))) = !(fresh h) from rfl, hkn, cond_false, e]
              simp only [Option.bind_some]
              rw [e1]
              simp only [show ((0 : Int) == 4) = false from rfl, show ((0 : Int) != 0) = false from rfl, cond_false]
              rw [e2, hm]
              simp only [Option.bind_some]
              rw [ok]
              exact ⟨_, rfl, _, _, _, _, _, _, _, _, rfl⟩
            | some q =>
              obtain ⟨hi', hc'⟩ := take_inv hi hnf hm
              have ih := iLoop s hs d b q.1 q.2.1 q.2.2 hi' hb (by omega) (by omega)
              refine ((hgt.and htk).and ih).mono fun k ⟨⟨e, v, e2, ok⟩, ih⟩ j hj => ?_
              obtain ⟨j, rfl⟩ : ∃ m, j = m + 1 := ⟨j - 1, by omega⟩
              rw [hm] at ok
              have ok : v = (true, q.1.1, q.1.2.1, q.1.2.2.1, q.1.2.2.2, q.2.1, [], q.2.2, 0) := ok
              obtain ⟨X, ex, px⟩ := ih j (by omega)
              refine ⟨X, ?_, ?_⟩
              · unfold impl_feedPut.l0
                rw [decide_eq_true (by omega : (a : Int) < (s.length : Int))]
                simp only [cond_true]
                rw [show (!((h.1 == 0) && ((h.2.1 == 0) && ((h.2.2.1 == 0) && (h.2.2.2 == []))))) = !(fresh h) from rfl, hkn, cond_false, e]
                simp only [Option.bind_some]
                rw [e1]
                simp only [show ((0 : Int) == 4) = false from rfl, show ((0 : Int) != 0) = false from rfl, cond_false]
                rw [e2]
                simp only [Option.bind_some]
                rw [ok]
                exact ex
              · unfold feedM
                rw [if_pos hl, if_neg hfin, if_neg h4, if_pos h0, e1]
                simp only [Int.toNat_natCast]
                rw [hm]
                exact px
          · refine hgt.mono fun k e j hj => ?_
            obtain ⟨j, rfl⟩ : ∃ m, j = m + 1 := ⟨j - 1, by omega⟩
            unfold impl_feedPut.l0 feedM
            rw [decide_eq_true (by omega : (a : Int) < (s.length : Int)), if_pos hl, if_neg hfin, if_neg h4, if_neg h0]
            simp only [cond_true]
            rw [show (!((h.1 == 0) && ((h.2.1 == 0) && ((h.2.2.1 == 0) && (h.2.2.2 == []))))) = !(fresh h) from rfl, hkn, cond_false, e]
            simp only [Option.bind_some]
            rw [beqd, decide_eq_false h4, show ((getTextZ s a).2.2 != 0) = true by simpa using h0]
            exact ⟨_, rfl, _, _, _, _, _, _, _, _, rfl⟩
    · refine Ever.of fun k j hj => ?_
      obtain ⟨j, rfl⟩ : ∃ m, j = m + 1 := ⟨j - 1, by omega⟩
      unfold impl_feedPut.l0 feedM
      rw [decide_eq_false (by omega : ¬ ((a : Int) < (s.length : Int))), if_neg hl]
      exact ⟨_, rfl, rfl, ha, by show c.length ≤ 100000; omega⟩
theorem sLoop (s r : Str) (hs : s.length ≤ 8000) : ∀ (d a : Nat) (h : StepT) (g : Int) (c : List CmdT), Inv h g → a ≤ s.length → s.length - a < d → c.length ≤ 2 * a →
    Ever fun k => ∀ j, d ≤ j → ∃ X, spec_FeedPut.l0 k j s (a : Int) 0 0 0 [] 0 [] 0 h.1 h.2.1 h.2.2.1 h.2.2.2 g r 0 [] c = some X ∧ PostS r s (feedM d s a h g c) X
  | 0, a, h, g, c, hi, ha, hd, hc => absurd hd (Nat.not_lt_zero _)
  | d + 1, a, h, g, c, hi, ha, hd, hc => by
    have hgt := sGetText s a (by omega) hs
    by_cases h4 : (getTextZ s a).2.2 = 4
    · refine hgt.mono fun k e j hj => ?_
      obtain ⟨j, rfl⟩ : ∃ m, j = m + 1 := ⟨j - 1, by omega⟩
      refine ⟨outL r a h g c, ?_, ?_⟩
      · unfold spec_FeedPut.l0
        rw [e]
        simp only [Option.bind_some]
        rw [h4]
        rfl
      · unfold feedM
        by_cases hl : a < s.length
        · rw [if_pos hl]
          by_cases hfin : fresh h = false ∧ g = h.2.1
          · rw [if_pos hfin]
            exact .inr ⟨a, h, g, c, rfl, hl, hi, hfin.1, hfin.2⟩
          · rw [if_neg hfin, if_pos h4]
            exact ⟨rfl, ha, .inr ⟨hi, hfin⟩⟩
        · rw [if_neg hl]
          exact ⟨rfl, ha, .inl (by show a = s.length; omega)⟩
    · by_cases h0 : (getTextZ s a).2.2 = 0
      · obtain ⟨t, b, e1, hab, hb, ht⟩ := text_next h0
        have hl : a < s.length := by omega
        have htk := sTake h g c t r 0 ht (by omega) hi
        by_cases hfin : fresh h = false ∧ g = h.2.1
        · refine (hgt.and htk).mono fun k ⟨e, v, e2, ok⟩ j hj => ?_
          obtain ⟨j, rfl⟩ : ∃ m, j = m + 1 := ⟨j - 1, by omega⟩
          rw [if_pos hfin] at ok
          have ok : v.1 = false := ok
          unfold spec_FeedPut.l0 feedM
          rw [if_pos hl, if_pos hfin, e]
          simp only [Option.bind_some]
          rw [e1]
          simp only [show ((0 : Int) == 4) = false from rfl, show ((0 : Int) != 0) = false from rfl, cond_false]
          rw [e2]
          simp only [Option.bind_some]
          rw [ok]
          exact ⟨_, rfl, .inl ⟨_, _, _, _, _, _, _, _, rfl⟩⟩
        · have hnf : fresh h = false → g < h.2.1 := fun q => by
            rcases hi with hi | hi
            · rw [hi.1] at q; cases q
            · have : g ≠ h.2.1 := fun e => hfin ⟨q, e⟩
              omega
          cases hm : takeM h g c t with
          | none =>
            refine (hgt.and htk).mono fun k ⟨e, v, e2, ok⟩ j hj => ?_
            obtain ⟨j, rfl⟩ : ∃ m, j = m + 1 := ⟨j - 1, by omega⟩
            rw [if_neg hfin, hm] at ok
            have ok : v.1 = false := ok
            unfold spec_FeedPut.l0 feedM
            rw [if_pos hl, if_neg hfin, if_neg h4, if_pos h0, e]
            simp only [Option.bind_some]
            rw [e1]
            simp only [show ((0 : Int) == 4) = false from rfl, show ((0 : Int) != 0) = false from rfl, cond_false]
            rw [e2, hm]
            simp only [Option.bind_some]
            rw [ok]
            exact ⟨_, rfl, .inl ⟨_, _, _, _, _, _, _, _, rfl⟩⟩
          | some q =>
            obtain ⟨hi', hc'⟩ := take_inv hi hnf hm
            have ih := sLoop s r hs d b q.1 q.2.1 q.2.2 hi' hb (by omega) (by omega)
            refine ((hgt.and htk).and ih).mono fun k ⟨⟨e, v, e2, ok⟩, ih⟩ j hj => ?_
            obtain ⟨j, rfl⟩ : ∃ m, j = m + 1 := ⟨j - 1, by omega⟩
            rw [if_neg hfin, hm] at ok
            have ok : v = (true, q.1.1, q.1.2.1, q.1.2.2.1, q.1.2.2.2, q.2.1, r, q.2.2, 0) := ok
            obtain ⟨X, ex, px⟩ := ih j (by omega)
            refine ⟨X, ?_, ?_⟩
            · unfold spec_FeedPut.l0
              rw [e]
              simp only [Option.bind_some]
              rw [e1]
              simp only [show ((0 : Int) == 4) = false from rfl, show ((0 : Int) != 0) = false from rfl, cond_false]
              rw [e2]
              simp only [Option.bind_some]
              rw [ok]
              exact ex
            · unfold feedM
              rw [if_pos hl, if_neg hfin, if_neg h4, if_pos h0, e1]
              simp only [Int.toNat_natCast]
              rw [hm]
              exact px
      · refine hgt.mono fun k e j hj => ?_
        obtain ⟨j, rfl⟩ : ∃ m, j = m + 1 := ⟨j - 1, by omega⟩
        unfold spec_FeedPut.l0
        rw [e]
        simp only [Option.bind_some]
        rw [beqd, decide_eq_false h4, show ((getTextZ s a).2.2 != 0) = true by simpa using h0]
        refine ⟨_, rfl, ?_⟩
        have hl : a < s.length := by
          rcases Nat.lt_or_ge a s.length with hl | hl
          · exact hl
          · exfalso
            unfold getTextZ getNumZ at h4
            rw [List.drop_of_length_le hl] at h4
            exact h4 rfl
        unfold feedM
        rw [if_pos hl]
        by_cases hfin : fresh h = false ∧ g = h.2.1
        · rw [if_pos hfin]
          exact .inl ⟨_, _, _, _, _, _, _, _, rfl⟩
        · rw [if_neg hfin, if_neg h4, if_neg h0]
          exact .inl ⟨_, _, _, _, _, _, _, _, rfl⟩
/-! both, whole -/
abbrev Res := Int × Int × Int × Str × Int × Str × List CmdT × Int
def ill (c : Int) : Res := (0, 0, 0, [], 0, [], [], c)
def finM (s : Str) (r : Option (Nat × StepT × Int × List CmdT)) : Res := match r with
  | some q => if 500 < (s.drop q.1).length then ill 3 else (q.2.1.1, q.2.1.2.1, q.2.1.2.2.1, q.2.1.2.2.2, q.2.2.1, s.drop q.1, q.2.2.2, 0)
  | none => ill 3
def feedB (f : FeedT) : Bool := if 500 < f.2.2.length then false else if fresh f.1 = true then decide (f.2.1 = 0) else hB f.1 && (decide (0 ≤ f.2.1) && decide (f.2.1 ≤ f.1.2.1))
theorem feedB_inv {f : FeedT} (h : feedB f = true) : f.2.2.length ≤ 500 ∧ Inv f.1 f.2.1 := by
  unfold feedB at h
  split at h
  · cases h
  · rename_i hl
    refine ⟨by omega, ?_⟩
    split at h
    · rename_i hf
      exact .inl ⟨hf, of_decide_eq_true h⟩
    · rename_i hf
      simp only [Bool.and_eq_true, decide_eq_true_eq] at h
      exact .inr ⟨Bool.eq_false_iff.2 hf, h.1, h.2.1, h.2.2⟩
theorem sFeed (f : FeedT) : spec_FeedRight f = some (feedB f) := by
  unfold spec_FeedRight feedB
  by_cases hl : 500 < f.2.2.length
  · rw [decide_eq_true (by omega : 500 < (f.2.2.length : Int)), if_pos hl]; rfl
  · rw [decide_eq_false (by omega : ¬ (500 < (f.2.2.length : Int))), if_neg hl, show ((f.1.1 == 0) && ((f.1.2.1 == 0) && ((f.1.2.2.1 == 0) && (f.1.2.2.2 == [])))) = fresh f.1 from rfl]
    cases hf : fresh f.1 with
    | true => rw [if_pos rfl, beqd]; rfl
    | false =>
      rw [if_neg (by simp), show spec_HeadRight f.1 = some (hB f.1) from sHead _ _ _ _]
      unfold spec_l03Is
      cases hB f.1 <;> rfl
theorem iFeed (f : FeedT) : impl_isFeed f = some (feedB f) := by
  unfold impl_isFeed feedB
  by_cases hl : 500 < f.2.2.length
  · rw [decide_eq_true (by omega : 500 < (f.2.2.length : Int)), if_pos hl]; rfl
  · rw [decide_eq_false (by omega : ¬ (500 < (f.2.2.length : Int))), if_neg hl, show ((f.1.1 == 0) && ((f.1.2.1 == 0) && ((f.1.2.2.1 == 0) && (f.1.2.2.2 == [])))) = fresh f.1 from rfl, beqd, show impl_isHead f.1 = some (hB f.1) from iHead _ _ _ _]
    unfold impl_within
    cases hf : fresh f.1 with
    | true =>
      rw [if_pos rfl]
      have hb : hB f.1 = false := by
        cases hb : hB f.1 with
        | false => rfl
        | true => rw [hB_fresh hb] at hf; cases hf
      rw [hb]
      by_cases h0 : f.2.1 = 0
      · rw [decide_eq_true h0]; rfl
      · rw [decide_eq_false h0]; rfl
    | false =>
      rw [if_neg (by simp), Bool.false_and]
      cases hB f.1 <;> rfl
def putM (f : FeedT) (p : Str) : Res :=
  if 8000 < p.length then ill 2 else if feedB f = false then ill 1 else if 8000 < f.2.2.length + p.length then ill 2 else finM (f.2.2 ++ p) (feedM ((f.2.2 ++ p).length + 1) (f.2.2 ++ p) 0 f.1 f.2.1 [])
theorem iPut (f : FeedT) (p : Str) : Ever fun k => impl_FeedPut k f p = some (putM f p) := by
  unfold putM
  by_cases h1 : 8000 < p.length
  · refine Ever.of fun k => ?_
    unfold impl_FeedPut
    rw [decide_eq_true (by omega : 8000 < (p.length : Int)), if_pos h1]; rfl
  · by_cases h2 : feedB f = true
    · obtain ⟨hl, hi⟩ := feedB_inv h2
      rw [if_neg h1, if_neg (by rw [h2]; simp)]
      by_cases h3 : 8000 < f.2.2.length + p.length
      · refine Ever.of fun k => ?_
        unfold impl_FeedPut
        rw [decide_eq_false (by omega : ¬ (8000 < (p.length : Int))), iFeed, h2, if_pos h3, w64 (by omega) (by omega), decide_eq_true (by omega : 8000 < (f.2.2.length : Int) + (p.length : Int))]; rfl
      · have hlen : (f.2.2 ++ p).length ≤ 8000 := by rw [List.length_append]; omega
        obtain ⟨K, lp⟩ := iLoop (f.2.2 ++ p) hlen ((f.2.2 ++ p).length + 1) 0 f.1 f.2.1 [] hi (Nat.zero_le _) (by omega) (Nat.zero_le _)
        refine Ever.ge (K + (f.2.2 ++ p).length + 1) fun k hk => ?_
        obtain ⟨X, ex, px⟩ := lp k (by omega) k (by omega)
        have ex : impl_feedPut.l0 k k (f.2.2 ++ p) 0 0 0 0 [] 0 [] 0 f.1.1 f.1.2.1 f.1.2.2.1 f.1.2.2.2 f.2.1 [] 0 [] [] = some X := ex
        rw [if_neg h3]
        unfold impl_FeedPut
        rw [decide_eq_false (by omega : ¬ (8000 < (p.length : Int))), iFeed, h2, w64 (by omega) (by omega), decide_eq_false (by omega : ¬ (8000 < (f.2.2.length : Int) + (p.length : Int)))]
        simp only [cond_false, Option.bind_some, Bool.not_true]
        rw [cat_some (by omega)]
        simp only [Option.bind_some]
        unfold impl_feedPut
        rw [ex]
        generalize feedM ((f.2.2 ++ p).length + 1) (f.2.2 ++ p) 0 f.1 f.2.1 [] = m at px
        cases m with
        | none =>
          obtain ⟨_, _, _, _, _, _, _, _, rfl⟩ := px
          rfl
        | some q =>
          obtain ⟨rfl, hq, _⟩ := px
          have hc := cut_ok (l := f.2.2 ++ p) (i := q.1) (j := (f.2.2 ++ p).length) hq (Nat.le_refl _)
          rw [List.take_length] at hc
          simp only [Option.bind_some, outL]
          rw [hc]
          simp only [Option.bind_some, finM]
          by_cases h5 : 500 < ((f.2.2 ++ p).drop q.1).length
          · rw [decide_eq_true (by omega : 500 < (((f.2.2 ++ p).drop q.1).length : Int)), if_pos h5]; rfl
          · rw [decide_eq_false (by omega : ¬ (500 < (((f.2.2 ++ p).drop q.1).length : Int))), if_neg h5]; rfl
    · have h2 : feedB f = false := Bool.eq_false_iff.2 h2
      refine Ever.of fun k => ?_
      unfold impl_FeedPut
      rw [decide_eq_false (by omega : ¬ (8000 < (p.length : Int))), iFeed, h2, if_neg h1, if_pos rfl]; rfl
theorem sPut (f : FeedT) (p : Str) : Ever fun k => spec_FeedPut k f p = some (putM f p) := by
  unfold putM
  by_cases h1 : 8000 < p.length
  · refine Ever.of fun k => ?_
    unfold spec_FeedPut
    rw [decide_eq_true (by omega : 8000 < (p.length : Int)), if_pos h1]; rfl
  · by_cases h2 : feedB f = true
    · obtain ⟨hl, hi⟩ := feedB_inv h2
      rw [if_neg h1, if_neg (by rw [h2]; simp)]
      by_cases h3 : 8000 < f.2.2.length + p.length
      · refine Ever.of fun k => ?_
        unfold spec_FeedPut
        rw [decide_eq_false (by omega : ¬ (8000 < (p.length : Int))), sFeed, h2, if_pos h3]
        simp only [cond_false, Option.bind_some, Bool.not_true]
        rw [cat_some (by omega)]
        simp only [Option.bind_some]
        rw [List.length_append, decide_eq_true (by omega : 8000 < ((f.2.2.length + p.length : Nat) : Int))]; rfl
      · have hlen : (f.2.2 ++ p).length ≤ 8000 := by rw [List.length_append]; omega
        obtain ⟨K, lp⟩ := sLoop (f.2.2 ++ p) f.2.2 hlen ((f.2.2 ++ p).length + 1) 0 f.1 f.2.1 [] hi (Nat.zero_le _) (by omega) (Nat.zero_le _)
        refine Ever.ge (K + (f.2.2 ++ p).length + 1) fun k hk => ?_
        obtain ⟨X, ex, px⟩ := lp k (by omega) k (by omega)
        have ex : spec_FeedPut.l0 k k (f.2.2 ++ p) 0 0 0 0 [] 0 [] 0 f.1.1 f.1.2.1 f.1.2.2.1 f.1.2.2.2 f.2.1 f.2.2 0 [] [] = some X := ex
        rw [if_neg h3]
        unfold spec_FeedPut
        rw [decide_eq_false (by omega : ¬ (8000 < (p.length : Int))), sFeed, h2]
        simp only [cond_false, Option.bind_some, Bool.not_true]
        rw [cat_some (by omega)]
        simp only [Option.bind_some]
        rw [decide_eq_false (by omega : ¬ (8000 < ((f.2.2 ++ p).length : Int))), cond_false, ex]
        generalize f.2.2 ++ p = s at px hlen ⊢
        generalize feedM (s.length + 1) s 0 f.1 f.2.1 [] = m at px
        have hcut : ∀ a : Nat, a ≤ s.length → cut? s (a : Int) (s.length : Int) = some (s.drop a) := fun a ha => by
          have hc := cut_ok (l := s) (i := a) (j := s.length) ha (Nat.le_refl _)
          rwa [List.take_length] at hc
        cases m with
        | none =>
          rcases px with ⟨_, _, _, _, _, _, _, _, rfl⟩ | ⟨a, h, g, c, rfl, ha, hi', hf, hg⟩
          · rfl
          · simp only [Option.bind_some, outL, finM]
            rw [hcut a (by omega)]
            simp only [Option.bind_some]
            have hh : 1 ≤ h.2.1 := by
              rcases hi' with q | q
              · rw [q.1] at hf; cases hf
              · exact (headB_is q.2.1).2.1.1
            have hne : (s.drop a == ([] : Str)) = false := by
              rw [beq_str, decide_eq_false]
              intro q
              have := congrArg List.length q
              rw [List.length_drop] at this
              simp only [List.length_nil] at this
              omega
            rw [decide_eq_true (by omega : 0 < h.2.1), beqd, decide_eq_true hg, hne]
            simp only [Bool.not_false, Bool.and_true, Bool.or_true, cond_true]
            rfl
        | some q =>
          obtain ⟨rfl, hle, hq⟩ := px
          simp only [Option.bind_some, outL, finM]
          rw [hcut q.1 hle]
          simp only [Option.bind_some]
          have hz : (((decide (0 < q.2.1.2.1)) && (q.2.2.1 == q.2.1.2.1)) && (!(s.drop q.1 == []))) = false := by
            rcases hq with hq | ⟨hi', hq⟩
            · rw [hq, List.drop_length]; simp
            · rcases hi' with hi' | hi'
              · have e0 : q.2.1.2.1 = 0 := by
                  have h0 := hi'.1
                  unfold fresh at h0
                  simp only [Bool.and_eq_true, beq_iff_eq] at h0
                  exact h0.2.1
                rw [decide_eq_false (by omega : ¬ (0 < q.2.1.2.1))]; rfl
              · have : q.2.2.1 ≠ q.2.1.2.1 := fun e => hq ⟨hi'.1, e⟩
                rw [beqd, decide_eq_false this, Bool.and_false]; rfl
          rw [hz, Bool.or_false]
          by_cases h5 : 500 < (s.drop q.1).length
          · rw [decide_eq_true (by omega : 500 < ((s.drop q.1).length : Int)), if_pos h5]; rfl
          · rw [decide_eq_false (by omega : ¬ (500 < ((s.drop q.1).length : Int))), if_neg h5]; rfl
    · have h2 : feedB f = false := Bool.eq_false_iff.2 h2
      refine Ever.of fun k => ?_
      unfold spec_FeedPut
      rw [decide_eq_false (by omega : ¬ (8000 < (p.length : Int))), sFeed, h2, if_neg h1, if_pos rfl]; rfl
theorem feedM_len (s : Str) (hs : s.length ≤ 8000) : ∀ (d a : Nat) (h : StepT) (g : Int) (c : List CmdT), Inv h g → a ≤ s.length → s.length - a < d → c.length ≤ 2 * a → ∀ q, feedM d s a h g c = some q → q.2.2.2.length ≤ 100000 := by
  intro d a h g c hi ha hd hc q hq
  obtain ⟨k, hk⟩ := (iLoop s hs d a h g c hi ha hd hc).ex
  obtain ⟨X, _, px⟩ := hk d (Nat.le_refl d)
  rw [hq] at px
  exact px.2.2
theorem putM_len (f : FeedT) (p : Str) : (putM f p).2.2.2.2.2.2.1.length ≤ 100000 := by
  unfold putM
  split
  · exact Nat.zero_le _
  · split
    · exact Nat.zero_le _
    · split
      · exact Nat.zero_le _
      · rename_i h1 h2 h3
        obtain ⟨hl, hi⟩ := feedB_inv (Bool.not_eq_false _ ▸ h2 : feedB f = true)
        have key := feedM_len (f.2.2 ++ p) (by rw [List.length_append]; omega) ((f.2.2 ++ p).length + 1) 0 f.1 f.2.1 [] hi (Nat.zero_le _) (by omega) (Nat.zero_le _)
        cases hm : feedM ((f.2.2 ++ p).length + 1) (f.2.2 ++ p) 0 f.1 f.2.1 [] with
        | none => exact Nat.zero_le _
        | some q =>
          simp only [finM]
          split
          · exact Nat.zero_le _
          · exact key q hm
end Feed
end Go.Proofs.YtaajcllchbnjiaaGreatE

namespace Go.Proofs.YtaajcllchbnjiaaGreatE
open Go
set_option linter.unusedVariables false
theorem loop_inv {S R : Type} (L : Nat → S → Option R) (m : S → Nat) (I : S → Prop) (Q : R → Prop) (step : ∀ s, I s → (∃ r, (∀ j, L (j + 1) s = some r) ∧ Q r) ∨ ∃ s', I s' ∧ m s' < m s ∧ ∀ j, L (j + 1) s = L j s') : ∀ (n : Nat) (s : S) (j : Nat), I s → m s ≤ n → n < j → ∃ r, L j s = some r ∧ Q r := by
  intro n
  induction n with
  | zero =>
    intro s j hi hm hj
    obtain ⟨j, rfl⟩ : ∃ q, j = q + 1 := ⟨j - 1, by omega⟩
    rcases step s hi with ⟨r, hr, hq⟩ | ⟨s', _, hm', _⟩
    · exact ⟨r, hr j, hq⟩
    · omega
  | succ n ih =>
    intro s j hi hm hj
    obtain ⟨j, rfl⟩ : ∃ q, j = q + 1 := ⟨j - 1, by omega⟩
    rcases step s hi with ⟨r, hr, hq⟩ | ⟨s', hi', hm', hs⟩
    · exact ⟨r, hr j, hq⟩
    · rw [hs j]
      exact ih s' j hi' (by omega) (by omega)
/-- The same, whatever the fuel. -/
theorem loop_uni {S R : Type} (L : Nat → S → Option R) (m : S → Nat) (I : S → Prop) (Q : R → Prop) (step : ∀ s, I s → (∃ r, (∀ j, L (j + 1) s = some r) ∧ Q r) ∨ ∃ s', I s' ∧ m s' < m s ∧ ∀ j, L (j + 1) s = L j s') : ∀ (n : Nat) (s : S), I s → m s ≤ n → ∃ r, Q r ∧ ∀ j, n < j → L j s = some r := by
  intro n
  induction n with
  | zero =>
    intro s hi hm
    rcases step s hi with ⟨r, hr, hq⟩ | ⟨s', _, hm', _⟩
    · refine ⟨r, hq, fun j hj => ?_⟩
      obtain ⟨j, rfl⟩ : ∃ q, j = q + 1 := ⟨j - 1, by omega⟩
      exact hr j
    · omega
  | succ n ih =>
    intro s hi hm
    rcases step s hi with ⟨r, hr, hq⟩ | ⟨s', hi', hm', hs⟩
    · refine ⟨r, hq, fun j hj => ?_⟩
      obtain ⟨j, rfl⟩ : ∃ q, j = q + 1 := ⟨j - 1, by omega⟩
      exact hr j
    · obtain ⟨r, hq, hr⟩ := ih s' hi' (by omega)
      refine ⟨r, hq, fun j hj => ?_⟩
      obtain ⟨j, rfl⟩ : ∃ q, j = q + 1 := ⟨j - 1, by omega⟩
      rw [hs j]
      exact hr j (by omega)
theorem at_in {α : Type} {l : List α} {i : Int} (h : 0 ≤ i) (h2 : i < (l.length : Int)) : ∃ x, at? l i = some x ∧ x ∈ l := by
  obtain ⟨n, rfl⟩ : ∃ n : Nat, i = (n : Int) := ⟨i.toNat, by omega⟩
  exact ⟨l[n]'(by omega), at_nat (by omega), List.getElem_mem _⟩
theorem wid {n : Int} (h0 : 0 ≤ n) (h1 : n < 9223372036854775808) : IntKind.wrap .i64 n = n := w64 (by omega) h1
theorem wuid {n : Int} (h0 : 0 ≤ n) (h1 : n < 18446744073709551616) : IntKind.wrap .u64 n = n := by rw [u64w]; omega
theorem cut_in {α : Type} {l : List α} {i j : Int} (h0 : 0 ≤ i) (h1 : i ≤ j) (h2 : j ≤ (l.length : Int)) : ∃ t, cut? l i j = some t ∧ (t.length : Int) = j - i := by
  obtain ⟨a, rfl⟩ : ∃ n : Nat, i = (n : Int) := ⟨i.toNat, by omega⟩
  obtain ⟨b, rfl⟩ : ∃ n : Nat, j = (n : Int) := ⟨j.toNat, by omega⟩
  refine ⟨_, cut_ok (by omega) (by omega), ?_⟩
  rw [List.length_drop, List.length_take]
  omega
end Go.Proofs.YtaajcllchbnjiaaGreatE

namespace Go.Proofs.YtaajcllchbnjiaaGreatE
open Go
set_option linter.unusedVariables false
def stepT (n : Int) (x : StepT) : Bool := stepB x.1 x.2.1 x.2.2.1 x.2.2.2 n
theorem iStepT (x : StepT) (n : Int) (h1 : 1 ≤ n) (h2 : n ≤ 8) : impl_isStep x n = some (stepT n x) := iStep x.1 x.2.1 x.2.2.1 x.2.2.2 n h1 h2
theorem sStepT (x : StepT) (n : Int) (h1 : 1 ≤ n) (h2 : n ≤ 8) : spec_StepRight x n = some (stepT n x) := sStep x.1 x.2.1 x.2.2.1 x.2.2.2 n h1 h2
def isW (x : StepT) : Bool := x.1 != 5
/-- The steps that write, and which blocks they write. -/
def writesM (l : List StepT) : List StepT := l.filter isW
def tosM (l : List StepT) : List Int := (writesM l).map fun x => x.2.1
/-- Do the labels rise? -/
def rises : Int → List StepT → Bool
  | _, [] => true
  | a, x :: l => if x.1 = 5 then decide (a < x.2.2.1) && rises x.2.2.1 l else rises a l
def codeM (l : List StepT) (n : Int) : Int :=
  if 20 < l.length ∨ ¬ (1 ≤ n ∧ n ≤ 8) ∨ l.all (stepT n) = false then 1 else if ¬ (tosM l).Nodup then 12 else if rises (-1) l then 0 else 8
theorem tosM_take {l : List StepT} {i : Nat} (h : i < l.length) : tosM (l.take (i + 1)) = if isW l[i] then tosM (l.take i) ++ [(l[i]).2.1] else tosM (l.take i) := by
  unfold tosM writesM
  rw [take_succ' h, List.filter_append, List.map_append]
  split
  · rename_i hw; simp [hw]
  · rename_i hw; simp [hw]
theorem isW_of {x : StepT} (h : x.1 ≠ 5) : isW x = true := by unfold isW; simpa using h
theorem isW_not {x : StepT} (h : x.1 = 5) : isW x = false := by unfold isW; simp [h]
theorem tosM_sub {l : List StepT} (i : Nat) : (tosM (l.take i)).Sublist (tosM l) := by
  unfold tosM writesM
  exact (((List.take_sublist i l).filter _).map _)
theorem mem_tos {l : List StepT} {b : Int} : b ∈ tosM l ↔ ∃ x ∈ l, isW x = true ∧ x.2.1 = b := by
  unfold tosM writesM
  rw [List.mem_map]
  constructor
  · rintro ⟨x, hx, e⟩
    rw [List.mem_filter] at hx
    exact ⟨x, hx.1, hx.2, e⟩
  · rintro ⟨x, h1, h2, e⟩
    exact ⟨x, List.mem_filter.2 ⟨h1, h2⟩, e⟩
theorem mem_tos_take {l : List StepT} {b : Int} {i : Nat} : b ∈ tosM (l.take i) ↔ ∃ j, ∃ h : j < l.length, j < i ∧ isW l[j] = true ∧ (l[j]).2.1 = b := by
  rw [mem_tos]
  constructor
  · rintro ⟨x, hx, h1, h2⟩
    obtain ⟨j, hj, rfl⟩ := List.getElem_of_mem hx
    rw [List.getElem_take] at h1 h2
    rw [List.length_take] at hj
    exact ⟨j, by omega, by omega, h1, h2⟩
  · rintro ⟨j, h, hji, h1, h2⟩
    refine ⟨l[j], ?_, h1, h2⟩
    rw [List.mem_take_iff_getElem]
    exact ⟨j, by omega, rfl⟩
/-! ### which step touches a block -/
def touchP (b : Int) (x : StepT) : Bool := isW x && (x.2.1 == b)
def touchM (l : List StepT) (b : Int) : Int := match firstI (touchP b) l 0 with
  | some i => (i : Int)
  | none => -1
theorem iTouches (l : List StepT) (b : Int) (hl : l.length ≤ 1048576) : ∀ k, l.length < k → impl_touches k l b = some (touchM l b) := by
  intro k hk
  have run := loop_find (fun j i => slices_IndexFunc_impl_Step_touches_1.l0 j l (l.length : Int) i b) l (touchP b) (.inl b) (fun i => .inr ((i : Int), b)) (fun i hi => by
    have e : impl_touches_1 l[i] b = some (touchP b l[i]) := rfl
    constructor
    · intro hp j
      show slices_IndexFunc_impl_Step_touches_1.l0 (j + 1) l (l.length : Int) (i : Int) b = slices_IndexFunc_impl_Step_touches_1.l0 j l (l.length : Int) ((i + 1 : Nat) : Int) b
      rw [slices_IndexFunc_impl_Step_touches_1.l0]
      rw [dlt hi, at_nat hi, wsuc (by omega)]
      simp only [cond_true, Option.bind_some, e, hp, cond_false]
    · intro hp j
      show slices_IndexFunc_impl_Step_touches_1.l0 (j + 1) l (l.length : Int) (i : Int) b = _
      unfold slices_IndexFunc_impl_Step_touches_1.l0
      rw [dlt hi, at_nat hi]
      simp only [cond_true, Option.bind_some, e, hp]) (fun j => by
    show slices_IndexFunc_impl_Step_touches_1.l0 (j + 1) l (l.length : Int) (l.length : Int) b = _
    unfold slices_IndexFunc_impl_Step_touches_1.l0
    rw [dnlt (Nat.le_refl _)]
    rfl) hk
  have run : slices_IndexFunc_impl_Step_touches_1.l0 k l (l.length : Int) 0 b = _ := run
  unfold impl_touches slices_IndexFunc_impl_Step_touches_1 touchM
  rw [run]
  cases firstI (touchP b) l 0 <;> rfl
theorem touch_lt {l : List StepT} {i : Nat} (h : i < l.length) (hw : isW l[i] = true) : touchM l (l[i]).2.1 < (i : Int) ↔ (l[i]).2.1 ∈ tosM (l.take i) := by
  unfold touchM
  rw [mem_tos_take]
  cases hf : firstI (touchP (l[i]).2.1) l 0 with
  | none =>
    have := firstI_none.1 hf l[i] (List.getElem_mem h)
    unfold touchP at this
    rw [hw] at this
    simp at this
  | some m =>
    obtain ⟨_, h2, h3, h4⟩ := firstI_some hf
    have h4 : ∀ j, (hj : j < m) → touchP (l[i]).2.1 (l[j]'(by omega)) = false := h4
    unfold touchP at h3
    simp only [Bool.and_eq_true, beq_iff_eq] at h3
    constructor
    · intro hm
      have hm : (m : Int) < (i : Int) := hm
      exact ⟨m, h2, by omega, h3.1, h3.2⟩
    · rintro ⟨j, hj, hji, h5, h6⟩
      show (m : Int) < (i : Int)
      rcases Nat.lt_or_ge m i with h | h
      · omega
      · have := h4 j (by omega)
        unfold touchP at this
        rw [h5, h6] at this
        simp at this
theorem iAllRight (l : List StepT) (n : Int) (h1 : 1 ≤ n) (h2 : n ≤ 8) (hl : l.length ≤ 1048576) : ∀ k, l.length < k → slices_ContainsFunc_impl_Step_stepsCode_1 k l n = some (!(l.all (stepT n)), n) := by
  intro k hk
  have run := loop_find (fun j i => slices_IndexFunc_impl_Step_stepsCode_1.l0 j l (l.length : Int) i n) l (fun x => !(stepT n x)) (.inl n) (fun i => .inr ((i : Int), n)) (fun i hi => by
    have e : impl_stepsCode_1 l[i] n = some (!(stepT n l[i])) := by
      unfold impl_stepsCode_1
      rw [iStepT _ _ h1 h2]
      rfl
    constructor
    · intro hp j
      show slices_IndexFunc_impl_Step_stepsCode_1.l0 (j + 1) l (l.length : Int) (i : Int) n = slices_IndexFunc_impl_Step_stepsCode_1.l0 j l (l.length : Int) ((i + 1 : Nat) : Int) n
      rw [slices_IndexFunc_impl_Step_stepsCode_1.l0]
      rw [dlt hi, at_nat hi, wsuc (by omega)]
      simp only [cond_true, Option.bind_some, e, hp, cond_false]
    · intro hp j
      show slices_IndexFunc_impl_Step_stepsCode_1.l0 (j + 1) l (l.length : Int) (i : Int) n = _
      unfold slices_IndexFunc_impl_Step_stepsCode_1.l0
      rw [dlt hi, at_nat hi]
      simp only [cond_true, Option.bind_some, e, hp]) (fun j => by
    show slices_IndexFunc_impl_Step_stepsCode_1.l0 (j + 1) l (l.length : Int) (l.length : Int) n = _
    unfold slices_IndexFunc_impl_Step_stepsCode_1.l0
    rw [dnlt (Nat.le_refl _)]
    rfl) hk
  have run : slices_IndexFunc_impl_Step_stepsCode_1.l0 k l (l.length : Int) 0 n = _ := run
  have hany := firstI_any (p := fun x => !(stepT n x)) (l := l) (n := 0)
  rw [← List.not_all_eq_any_not] at hany
  unfold slices_ContainsFunc_impl_Step_stepsCode_1 slices_IndexFunc_impl_Step_stepsCode_1
  rw [run, ← hany]
  cases firstI (fun x => !(stepT n x)) l 0 with
  | none => rfl
  | some m =>
    simp only [Option.bind_some, Option.isSome_some]
    rw [decide_eq_true (by omega : (0 : Int) ≤ (m : Int))]
theorem loop_any {R : Type} {L : Nat → Option R} {n : Nat} {P : R → Prop} (h : ∃ r, P r ∧ ∀ j, n < j → L j = some r) : ∃ r, P r ∧ ∀ j, n < j → L j = some r := h
theorem iCodeLoop (l : List StepT) (hl : l.length ≤ 20) (k : Nat) (hk : 20 < k) : ∀ (d i : Nat) (a : Int) (b : Bool), i + d = l.length → (tosM (l.take i)).Nodup → ∀ j, d < j →
    impl_stepsCode.l0 k j l a b l (l.length : Int) (i : Int) = some (if (tosM l).Nodup then .inl (b && rises a (l.drop i)) else .inr 12) := by
  intro d
  induction d with
  | zero =>
    intro i a b hi hn j hj
    obtain ⟨j, rfl⟩ : ∃ q, j = q + 1 := ⟨j - 1, by omega⟩
    obtain rfl : i = l.length := by omega
    rw [List.take_length] at hn
    unfold impl_stepsCode.l0
    rw [dnlt (Nat.le_refl _), if_pos hn, List.drop_length]
    simp [rises]
  | succ d ih =>
    intro i a b hi hn j hj
    obtain ⟨j, rfl⟩ : ∃ q, j = q + 1 := ⟨j - 1, by omega⟩
    have hlt : i < l.length := by omega
    rw [impl_stepsCode.l0, dlt hlt, at_nat hlt, wsuc (by omega)]
    simp only [cond_true, Option.bind_some]
    rw [List.drop_eq_getElem_cons hlt]
    by_cases h5 : (l[i]).1 = 5
    · have hw := isW_not h5
      have hn2 : (tosM (l.take (i + 1))).Nodup := by rw [tosM_take hlt, hw]; exact hn
      have e : ((l[i]).1 != 5) = false := by simp [h5]
      rw [e]
      simp only [cond_false]
      rw [ih (i + 1) _ _ (by omega) hn2 j (by omega)]
      simp only [rises, if_pos h5, Bool.and_assoc]
    · have hw := isW_of h5
      have e : ((l[i]).1 != 5) = true := by simpa using h5
      rw [e]
      simp only [cond_true]
      rw [iTouches l (l[i]).2.1 (by omega) k (by omega)]
      simp only [Option.bind_some]
      by_cases ht : touchM l (l[i]).2.1 < (i : Int)
      · rw [decide_eq_true ht]
        have hin := (touch_lt hlt hw).1 ht
        have hnd : ¬ (tosM l).Nodup := by
          intro hnd
          have h3 := (tosM_sub (l := l) (i + 1)).nodup hnd
          rw [tosM_take hlt, hw] at h3
          simp only [if_true] at h3
          exact (List.nodup_append.1 h3).2.2 _ hin _ (List.mem_singleton.2 rfl) rfl
        rw [if_neg hnd]
        rfl
      · rw [decide_eq_false ht]
        have hn2 : (tosM (l.take (i + 1))).Nodup := by
          rw [tosM_take hlt, hw]
          refine List.nodup_append.2 ⟨hn, List.nodup_cons.2 ⟨(fun h => nomatch h), List.nodup_nil⟩, fun x hx y hy e => ?_⟩
          rw [List.mem_singleton.1 hy] at e
          subst e
          exact ht ((touch_lt hlt hw).2 hx)
        simp only [cond_false]
        rw [ih (i + 1) _ _ (by omega) hn2 j (by omega)]
        simp only [rises, if_neg h5]
theorem iStepsCode (l : List StepT) (n : Int) (hl : l.length ≤ 1048576) : Ever fun k => impl_stepsCode k l n = some (codeM l n) := by
  refine Ever.ge (l.length + 30) fun k hk => ?_
  unfold impl_stepsCode impl_isBlocks impl_within codeM
  simp only [Option.bind_some]
  by_cases hb : 1 ≤ n ∧ n ≤ 8
  · rw [decide_eq_true hb.1, decide_eq_true hb.2]
    by_cases h20 : 20 < l.length
    · rw [decide_eq_true (by omega : (20 : Int) < (l.length : Int)), if_pos (.inl h20)]
      rfl
    · rw [decide_eq_false (by omega : ¬ ((20 : Int) < (l.length : Int))), iAllRight l n hb.1 hb.2 hl k (by omega)]
      simp only [Bool.and_self, Bool.not_true, Bool.or_false, cond_false, Option.bind_some]
      cases ha : l.all (stepT n) with
      | false => rw [if_pos (.inr (.inr rfl))]; rfl
      | true =>
        rw [if_neg (by rintro (h | h | h); exact h20 h; exact h hb; cases h)]
        simp only [Bool.not_true, cond_false]
        have run := iCodeLoop l (by omega) k (by omega) l.length 0 (-1) true (Nat.zero_add _) List.nodup_nil k (by omega)
        rw [List.drop_zero, Bool.true_and] at run
        have run : impl_stepsCode.l0 k k l (-1) true l (l.length : Int) 0 = _ := run
        rw [run]
        by_cases hd : (tosM l).Nodup
        · rw [if_pos hd, if_neg (not_not_intro hd)]
          cases rises (-1) l <;> rfl
        · rw [if_neg hd, if_pos hd]
          rfl
  · have e : (!(decide (1 ≤ n) && decide (n ≤ 8)) || decide ((20 : Int) < (l.length : Int))) = true := by
      rw [show (decide (1 ≤ n) && decide (n ≤ 8)) = false by rw [Bool.eq_false_iff, Ne, Bool.and_eq_true, decide_eq_true_eq, decide_eq_true_eq]; exact hb]
      rfl
    rw [e, if_pos (.inr (.inl hb))]
    rfl
/-! ### the reference -/
theorem sCode1 (l : List StepT) (i : Nat) (hi : i < l.length) (hl : l.length ≤ 1048576) : ∀ (d c j : Nat), (hc : c + d = i) → d < j → (∀ q, (hq : q < c) → isW l[i] = true → isW (l[q]'(by omega)) = true → (l[q]'(by omega)).2.1 ≠ (l[i]).2.1) →
    spec_StepsCode.l1 j l (i : Int) (c : Int) = some (if isW l[i] = true ∧ (l[i]).2.1 ∈ tosM (l.take i) then .inr 12 else .inl ()) := by
  intro d
  induction d with
  | zero =>
    intro c j hc hj hq
    obtain ⟨j, rfl⟩ : ∃ q, j = q + 1 := ⟨j - 1, by omega⟩
    obtain rfl : c = i := by omega
    unfold spec_StepsCode.l1
    rw [dnlt (Nat.le_refl _), if_neg]
    · rfl
    · rintro ⟨h1, h2⟩
      obtain ⟨q, hq1, hq2, hq3, hq4⟩ := mem_tos_take.1 h2
      exact hq q hq2 h1 hq3 hq4
  | succ d ih =>
    intro c j hc hj hq
    obtain ⟨j, rfl⟩ : ∃ q, j = q + 1 := ⟨j - 1, by omega⟩
    have hcl : c < l.length := by omega
    rw [spec_StepsCode.l1, dlt (by omega : c < i), at_nat hi, at_nat hcl, wsuc (by omega)]
    simp only [cond_true, Option.bind_some]
    have go : (isW l[i] = true → isW l[c] = true → (l[c]).2.1 ≠ (l[i]).2.1) → spec_StepsCode.l1 j l (i : Int) ((c + 1 : Nat) : Int) = some (if isW l[i] = true ∧ (l[i]).2.1 ∈ tosM (l.take i) then .inr 12 else .inl ()) := fun h => by
      refine ih (c + 1) j (by omega) (by omega) fun q hqc h1 h2 => ?_
      rcases Nat.lt_or_ge q c with h3 | h3
      · exact hq q h3 h1 h2
      · obtain rfl : q = c := by omega
        exact h h1 h2
    by_cases h5 : (l[i]).1 = 5
    · rw [show ((l[i]).1 != 5) = false by simp [h5]]
      simp only [cond_false]
      exact go fun h1 => by rw [isW_not h5] at h1; cases h1
    · rw [show ((l[i]).1 != 5) = true by simpa using h5]
      simp only [cond_true]
      by_cases h6 : (l[c]).1 = 5
      · rw [show ((l[c]).1 != 5) = false by simp [h6]]
        simp only [cond_false]
        exact go fun _ h1 => by rw [isW_not h6] at h1; cases h1
      · rw [show ((l[c]).1 != 5) = true by simpa using h6]
        simp only [cond_true]
        by_cases h7 : (l[i]).2.1 = (l[c]).2.1
        · rw [show ((l[i]).2.1 == (l[c]).2.1) = true by simpa using h7, if_pos ⟨isW_of h5, mem_tos_take.2 ⟨c, hcl, by omega, isW_of h6, h7.symm⟩⟩]
          rfl
        · rw [show ((l[i]).2.1 == (l[c]).2.1) = false by simpa using h7]
          simp only [cond_false]
          exact go fun _ _ e => h7 e.symm
theorem sCode2 (l : List StepT) (hl : l.length ≤ 20) (k : Nat) (hk : 20 < k) : ∀ (d i : Nat), i + d = l.length → (tosM (l.take i)).Nodup → ∀ j, d < j →
    spec_StepsCode.l2 k j l (i : Int) = some (if (tosM l).Nodup then .inl () else .inr 12) := by
  intro d
  induction d with
  | zero =>
    intro i hi hn j hj
    obtain ⟨j, rfl⟩ : ∃ q, j = q + 1 := ⟨j - 1, by omega⟩
    obtain rfl : i = l.length := by omega
    rw [List.take_length] at hn
    unfold spec_StepsCode.l2
    rw [dnlt (Nat.le_refl _), if_pos hn]
    rfl
  | succ d ih =>
    intro i hi hn j hj
    obtain ⟨j, rfl⟩ : ∃ q, j = q + 1 := ⟨j - 1, by omega⟩
    have hlt : i < l.length := by omega
    rw [spec_StepsCode.l2, dlt hlt, wsuc (by omega)]
    have run := sCode1 l i hlt (by omega) i 0 k (Nat.zero_add _) (by omega) (fun q hq => by omega)
    have run : spec_StepsCode.l1 k l (i : Int) 0 = _ := run
    simp only [cond_true]
    rw [run]
    by_cases h : isW l[i] = true ∧ (l[i]).2.1 ∈ tosM (l.take i)
    · rw [if_pos h]
      have hnd : ¬ (tosM l).Nodup := by
        intro hnd
        have h3 := (tosM_sub (l := l) (i + 1)).nodup hnd
        rw [tosM_take hlt, h.1] at h3
        simp only [if_true] at h3
        exact (List.nodup_append.1 h3).2.2 _ h.2 _ (List.mem_singleton.2 rfl) rfl
      rw [if_neg hnd]
      rfl
    · rw [if_neg h]
      simp only [Option.bind_some]
      refine ih (i + 1) (by omega) ?_ j (by omega)
      rw [tosM_take hlt]
      split
      · rename_i hw
        refine List.nodup_append.2 ⟨hn, List.nodup_cons.2 ⟨(fun h => nomatch h), List.nodup_nil⟩, fun x hx y hy e => ?_⟩
        rw [List.mem_singleton.1 hy] at e
        subst e
        exact h ⟨hw, hx⟩
      · exact hn
theorem sCode3 (l : List StepT) (hl : l.length ≤ 20) : ∀ (d i : Nat) (a : Int), i + d = l.length → ∀ j, d < j →
    spec_StepsCode.l3 j l a (i : Int) = some (if rises a (l.drop i) then .inl () else .inr 8) := by
  intro d
  induction d with
  | zero =>
    intro i a hi j hj
    obtain ⟨j, rfl⟩ : ∃ q, j = q + 1 := ⟨j - 1, by omega⟩
    obtain rfl : i = l.length := by omega
    unfold spec_StepsCode.l3
    rw [dnlt (Nat.le_refl _), List.drop_length]
    rfl
  | succ d ih =>
    intro i a hi j hj
    obtain ⟨j, rfl⟩ : ∃ q, j = q + 1 := ⟨j - 1, by omega⟩
    have hlt : i < l.length := by omega
    rw [spec_StepsCode.l3, dlt hlt, at_nat hlt, wsuc (by omega)]
    simp only [cond_true, Option.bind_some]
    rw [List.drop_eq_getElem_cons hlt]
    by_cases h5 : (l[i]).1 = 5
    · rw [show ((l[i]).1 != 5) = false by simp [h5]]
      simp only [cond_false, rises, if_pos h5]
      by_cases h6 : a < (l[i]).2.2.1
      · rw [decide_eq_false (by omega : ¬ ((l[i]).2.2.1 ≤ a)), decide_eq_true h6, Bool.true_and]
        exact ih (i + 1) _ (by omega) j (by omega)
      · rw [decide_eq_true (by omega : (l[i]).2.2.1 ≤ a), decide_eq_false h6]
        rfl
    · rw [show ((l[i]).1 != 5) = true by simpa using h5]
      simp only [cond_true, rises, if_neg h5]
      exact ih (i + 1) _ (by omega) j (by omega)
theorem sCode0 (l : List StepT) (n : Int) (h1 : 1 ≤ n) (h2 : n ≤ 8) (hl : l.length ≤ 20) : ∀ k, 20 < k → spec_StepsCode.l0 k l n 0 = some (if l.all (stepT n) then .inl () else .inr 1) := by
  intro k hk
  have run := loop_find (fun j i => spec_StepsCode.l0 j l n i) l (fun x => !(stepT n x)) (.inl ()) (fun i => .inr 1) (fun i hi => by
    constructor
    · intro hp j
      show spec_StepsCode.l0 (j + 1) l n (i : Int) = spec_StepsCode.l0 j l n ((i + 1 : Nat) : Int)
      rw [spec_StepsCode.l0, dlt hi, at_nat hi, wsuc (by omega)]
      simp only [cond_true, Option.bind_some]
      rw [sStepT _ _ h1 h2]
      simp only [Option.bind_some, hp, cond_false]
    · intro hp j
      show spec_StepsCode.l0 (j + 1) l n (i : Int) = _
      unfold spec_StepsCode.l0
      rw [dlt hi, at_nat hi]
      simp only [cond_true, Option.bind_some]
      rw [sStepT _ _ h1 h2]
      simp only [Option.bind_some, hp, cond_true]) (fun j => by
    show spec_StepsCode.l0 (j + 1) l n (l.length : Int) = _
    unfold spec_StepsCode.l0
    rw [dnlt (Nat.le_refl _)]
    rfl) (by omega : l.length < k)
  have run : spec_StepsCode.l0 k l n 0 = _ := run
  have hany := firstI_any (p := fun x => !(stepT n x)) (l := l) (n := 0)
  rw [← List.not_all_eq_any_not] at hany
  rw [run]
  cases hf : firstI (fun x => !(stepT n x)) l 0 with
  | none =>
    rw [hf] at hany
    have : l.all (stepT n) = true := by simpa using hany.symm
    rw [this]
    rfl
  | some m =>
    rw [hf] at hany
    have : l.all (stepT n) = false := by simpa using hany.symm
    rw [this]
    rfl
theorem sStepsCode (l : List StepT) (n : Int) (hl : l.length ≤ 1048576) : Ever fun k => spec_StepsCode k l n = some (codeM l n) := by
  refine Ever.ge 30 fun k hk => ?_
  unfold spec_StepsCode spec_l03Is codeM
  simp only [Option.bind_some]
  by_cases h20 : 20 < l.length
  · rw [decide_eq_true (by omega : (20 : Int) < (l.length : Int)), if_pos (.inl h20)]
    rfl
  rw [decide_eq_false (by omega : ¬ ((20 : Int) < (l.length : Int)))]
  simp only [cond_false]
  by_cases hb : 1 ≤ n ∧ n ≤ 8
  · rw [decide_eq_true hb.1, decide_eq_true hb.2, sCode0 l n hb.1 hb.2 (by omega) k (by omega)]
    simp only [Bool.and_self, Bool.not_true, cond_false]
    cases ha : l.all (stepT n) with
    | false => simp only [Bool.false_eq_true, if_false]; rw [if_pos (.inr (.inr True.intro))]; rfl
    | true =>
      simp only [if_true, Option.bind_some]
      rw [if_neg (by rintro (h | h | h); exact h20 h; exact h hb; cases h)]
      have r2 := sCode2 l (by omega) k (by omega) l.length 0 (Nat.zero_add _) List.nodup_nil k (by omega)
      have r2 : spec_StepsCode.l2 k k l 0 = _ := r2
      have r3 := sCode3 l (by omega) l.length 0 (-1) (Nat.zero_add _) k (by omega)
      rw [List.drop_zero] at r3
      have r3 : spec_StepsCode.l3 k l (-1) 0 = _ := r3
      rw [r2]
      by_cases hd : (tosM l).Nodup
      · rw [if_pos hd, if_neg (not_not_intro hd)]
        simp only [Option.bind_some]
        rw [r3]
        cases rises (-1) l <;> rfl
      · rw [if_neg hd, if_pos hd]
        rfl
  · have e : (decide (1 ≤ n) && decide (n ≤ 8)) = false := by rw [Bool.eq_false_iff, Ne, Bool.and_eq_true, decide_eq_true_eq, decide_eq_true_eq]; exact hb
    rw [e, if_pos (.inr (.inl hb))]
    rfl
theorem codeM_ok {l : List StepT} {n : Int} (h : codeM l n = 0) : l.length ≤ 20 ∧ 1 ≤ n ∧ n ≤ 8 ∧ (∀ x ∈ l, stepT n x = true) ∧ (tosM l).Nodup ∧ rises (-1) l = true := by
  unfold codeM at h
  split at h
  · cases h
  · rename_i h1
    split at h
    · cases h
    · rename_i h2
      split at h
      · rename_i h3
        have h1a : ¬ 20 < l.length := fun q => h1 (.inl q)
        have h1b : 1 ≤ n ∧ n ≤ 8 := Decidable.not_not.1 fun q => h1 (.inr (.inl q))
        have h1c : l.all (stepT n) = true := by
          cases ha : l.all (stepT n) with
          | true => rfl
          | false => exact absurd (.inr (.inr ha)) h1
        exact ⟨by omega, h1b.1, h1b.2, fun x hx => List.all_eq_true.1 h1c x hx, Decidable.not_not.1 h2, h3⟩
      · cases h
end Go.Proofs.YtaajcllchbnjiaaGreatE

namespace Go.Proofs.YtaajcllchbnjiaaGreatE
open Go
set_option linter.unusedVariables false
abbrev MoveT := Int × Int × Int × Int
/-! ### writes -/
theorem sWrites (l : List StepT) (hl : l.length ≤ 20) : ∀ k, 20 < k → spec_Writes k l = some (writesM l) := by
  intro k hk
  have run := loop_fold (fun j (s : List StepT) i => spec_Writes.l0 j l i s) l (fun s x => .inl (if isW x then s ++ [x] else s)) (fun s => s) (fun i s => s = writesM (l.take i)) (fun i hi s hs => by
    refine .inl ⟨_, rfl, ?_, fun j => ?_⟩
    · unfold writesM at hs ⊢
      rw [take_succ' hi, List.filter_append, hs]
      by_cases hw : isW l[i] = true
      · rw [if_pos hw]; simp [hw]
      · rw [if_neg hw]; simp [hw]
    · show spec_Writes.l0 (j + 1) l (i : Int) s = spec_Writes.l0 j l ((i + 1 : Nat) : Int) (if isW l[i] then s ++ [l[i]] else s)
      have hsl : s.length ≤ 20 := by
        rw [hs]
        refine Nat.le_trans (List.length_filter_le _ _) ?_
        rw [List.length_take]; omega
      rw [spec_Writes.l0, dlt hi, decide_eq_true (by omega : (l.length : Int) ≤ 20), at_nat hi, wsuc (by omega)]
      simp only [Bool.and_self, cond_true, Option.bind_some]
      by_cases h5 : (l[i]).1 = 5
      · rw [show ((l[i]).1 != 5) = false by simp [h5], isW_not h5]
        rfl
      · rw [show ((l[i]).1 != 5) = true by simpa using h5, isW_of h5, app_ok (by simp; omega)]
        rfl) (fun s hs j => by
    show spec_Writes.l0 (j + 1) l (l.length : Int) s = some s
    unfold spec_Writes.l0
    rw [dnlt (Nat.le_refl _)]
    rfl) (s := []) rfl (by omega : l.length < k)
  have fold : ∀ (m s : List StepT), runL (fun s x => .inl (if isW x then s ++ [x] else s)) (fun s => s) m s = s ++ writesM m := by
    intro m
    induction m with
    | nil => intro s; simp [runL, writesM]
    | cons x m ih =>
      intro s
      rw [runL_inl rfl, ih]
      unfold writesM
      by_cases hw : isW x = true
      · rw [if_pos hw, List.filter_cons_of_pos hw]; simp
      · rw [if_neg hw, List.filter_cons_of_neg hw]
  rw [fold, List.nil_append] at run
  have run : spec_Writes.l0 k l 0 [] = some (writesM l) := run
  unfold spec_Writes
  rw [run]
  rfl
theorem iDelLoop (l : List StepT) (hl : l.length ≤ 1048576) : ∀ (d j0 : Nat) (c : List StepT), j0 + d = l.length → c.length = l.length → c.drop j0 = l.drop j0 → (writesM (l.take j0)).length ≤ j0 → c.take (writesM (l.take j0)).length = writesM (l.take j0) → (writesM (l.take j0)).length < j0 →
    ∀ j, d < j → ∃ c', slices_DeleteFunc_impl_Step_writes_1.l0 j ((writesM (l.take j0)).length : Int) (j0 : Int) c = some ((((writesM l).length : Nat) : Int), c') ∧ c'.length = l.length ∧ c'.take (writesM l).length = writesM l := by
  intro d
  induction d with
  | zero =>
    intro j0 c hj hc hd hle ht hlt j hjj
    obtain ⟨j, rfl⟩ : ∃ q, j = q + 1 := ⟨j - 1, by omega⟩
    obtain rfl : j0 = l.length := by omega
    rw [List.take_length] at ht ⊢
    refine ⟨c, ?_, hc, ht⟩
    unfold slices_DeleteFunc_impl_Step_writes_1.l0
    rw [dnlt (by omega : c.length ≤ l.length)]
    rfl
  | succ d ih =>
    intro j0 c hj hc hd hle ht hlt j hjj
    obtain ⟨j, rfl⟩ : ∃ q, j = q + 1 := ⟨j - 1, by omega⟩
    have h1 : j0 < l.length := by omega
    have h2 : j0 < c.length := by omega
    have hcj : c[j0] = l[j0] := by
      have := congrArg (fun z => z[0]?) hd
      simp only [List.getElem?_drop, Nat.add_zero] at this
      rw [List.getElem?_eq_getElem h2, List.getElem?_eq_getElem h1] at this
      exact Option.some.inj this
    have hdrop : c.drop (j0 + 1) = l.drop (j0 + 1) := by
      have := congrArg (fun z => z.drop 1) hd
      simpa [List.drop_drop, Nat.add_comm] using this
    rw [slices_DeleteFunc_impl_Step_writes_1.l0, dlt h2, at_nat h2, wsuc (by omega)]
    simp only [cond_true, Option.bind_some, impl_writes_1, hcj]
    have htake : writesM (l.take (j0 + 1)) = if isW l[j0] then writesM (l.take j0) ++ [l[j0]] else writesM (l.take j0) := by
      unfold writesM
      rw [take_succ' h1, List.filter_append]
      by_cases hw : isW l[j0] = true
      · rw [if_pos hw]; simp [hw]
      · rw [if_neg hw]; simp [hw]
    generalize hW : writesM (l.take j0) = W at ht hle hlt htake ⊢
    by_cases h5 : (l[j0]).1 = 5
    · rw [show ((l[j0]).1 == 5) = true by simpa using h5]
      simp only [Bool.not_true, cond_false]
      rw [isW_not h5] at htake
      have htake : writesM (l.take (j0 + 1)) = W := htake
      have := ih (j0 + 1) c (by omega) hc hdrop (by rw [htake]; omega) (by rw [htake]; exact ht) (by rw [htake]; omega) j (by omega)
      rw [htake] at this
      exact this
    · rw [show ((l[j0]).1 == 5) = false by simpa using h5]
      have hwl : W.length < c.length := by omega
      rw [at_nat hwl, wsuc (by omega), Int.toNat_natCast]
      simp only [Bool.not_false, cond_true, Option.bind_some]
      rw [isW_of h5] at htake
      have htake : writesM (l.take (j0 + 1)) = W ++ [l[j0]] := htake
      have hlen : (writesM (l.take (j0 + 1))).length = W.length + 1 := by rw [htake]; simp
      have := ih (j0 + 1) (c.set W.length l[j0]) (by omega) (by simpa using hc) (by
        rw [List.drop_set_of_lt (by omega)]
        exact hdrop) (by omega) (by
        rw [hlen, htake, List.take_add_one, List.take_set_of_le (Nat.le_refl _), ht, List.getElem?_set_self (by omega)]
        rfl) (by omega) j (by omega)
      rw [hlen] at this
      exact this
theorem iWrites (l : List StepT) (hl : l.length ≤ 1048576) : ∀ k, l.length < k → impl_writes k l = some (writesM l) := by
  intro k hk
  have clone : slices_Clone_impl_Step l = some l := by
    unfold slices_Clone_impl_Step
    rw [app_ok (by simp; omega)]
    rfl
  have run := loop_find (fun j i => slices_IndexFunc_impl_Step_writes_1.l0 j l (l.length : Int) i) l (fun x => !(isW x)) (.inl ()) (fun i => .inr (i : Int)) (fun i hi => by
    have e : impl_writes_1 l[i] = some (!(isW l[i])) := by unfold impl_writes_1 isW; simp [bne]
    constructor
    · intro hp j
      show slices_IndexFunc_impl_Step_writes_1.l0 (j + 1) l (l.length : Int) (i : Int) = slices_IndexFunc_impl_Step_writes_1.l0 j l (l.length : Int) ((i + 1 : Nat) : Int)
      rw [slices_IndexFunc_impl_Step_writes_1.l0, dlt hi, at_nat hi, wsuc (by omega)]
      simp only [cond_true, Option.bind_some, e, hp, cond_false]
    · intro hp j
      show slices_IndexFunc_impl_Step_writes_1.l0 (j + 1) l (l.length : Int) (i : Int) = _
      unfold slices_IndexFunc_impl_Step_writes_1.l0
      rw [dlt hi, at_nat hi]
      simp only [cond_true, Option.bind_some, e, hp]) (fun j => by
    show slices_IndexFunc_impl_Step_writes_1.l0 (j + 1) l (l.length : Int) (l.length : Int) = _
    unfold slices_IndexFunc_impl_Step_writes_1.l0
    rw [dnlt (Nat.le_refl _)]
    rfl) hk
  have run : slices_IndexFunc_impl_Step_writes_1.l0 k l (l.length : Int) 0 = _ := run
  unfold impl_writes
  rw [clone]
  simp only [Option.bind_some]
  unfold slices_DeleteFunc_impl_Step_writes_1 slices_IndexFunc_impl_Step_writes_1
  rw [run]
  cases hf : firstI (fun x => !(isW x)) l 0 with
  | none =>
    have hall := firstI_none.1 hf
    have : writesM l = l := by
      unfold writesM
      exact List.filter_eq_self.2 fun x hx => by simpa using hall x hx
    rw [this]
    rfl
  | some m =>
    obtain ⟨_, h2, h3, h4⟩ := firstI_some hf
    have h2 : m < l.length := h2
    have h3 : (!(isW l[m])) = true := h3
    have h4 : ∀ j, (hj : j < m) → (!(isW (l[j]'(by omega)))) = false := h4
    have hW : writesM (l.take m) = l.take m := by
      unfold writesM
      refine List.filter_eq_self.2 fun x hx => ?_
      obtain ⟨j, hj, rfl⟩ := List.getElem_of_mem hx
      rw [List.length_take] at hj
      rw [List.getElem_take]
      simpa using h4 j (by omega)
    have hW2 : writesM (l.take (m + 1)) = l.take m := by
      have : writesM (l.take (m + 1)) = writesM (l.take m) := by
        unfold writesM
        rw [take_succ' h2, List.filter_append]
        have : isW l[m] = false := by simpa using h3
        simp [this]
      rw [this, hW]
    have hlen : (writesM (l.take (m + 1))).length = m := by rw [hW2, List.length_take]; omega
    obtain ⟨c', e1, e2, e3⟩ := iDelLoop l hl (l.length - (m + 1)) (m + 1) l (by omega) rfl rfl (by omega) (by rw [hlen, hW2]) (by omega) k (by omega)
    rw [hlen] at e1
    have hne : (((m : Nat) : Int) == -1) = false := by rw [beqd]; exact decide_eq_false (by omega)
    simp only [Option.bind_some, hne, cond_false]
    rw [wsuc (by omega), e1]
    simp only [Option.bind_some]
    have hwl : (writesM l).length ≤ l.length := List.length_filter_le _ _
    have ht : tail? (((writesM l).length : Nat) : Int) c'.length = some () := by
      unfold tail?
      rw [if_pos ⟨by omega, by omega⟩]
    rw [ht]
    simp only [Option.bind_some, Int.toNat_natCast]
    have hcut : cut? (List.take (writesM l).length c' ++ List.replicate (c'.length - (writesM l).length) ((0, (0, (0, []))) : StepT)) 0 (((writesM l).length : Nat) : Int) = some (writesM l) := by
      have hc : (List.take (writesM l).length c').length = (writesM l).length := by rw [e3]
      have := cut_ok (l := List.take (writesM l).length c' ++ List.replicate (c'.length - (writesM l).length) ((0, (0, (0, []))) : StepT)) (i := 0) (j := (writesM l).length) (Nat.zero_le _) (by rw [List.length_append, hc]; omega)
      rw [List.drop_zero, List.take_append_of_le_length (by rw [hc]; omega)] at this
      rw [e3] at this ⊢
      rw [List.take_length] at this
      exact this
    rw [hcut]
    rfl
/-! ### the plan, as a model -/
def readsB (x : StepT) (b : Int) : Bool := ((x.1 == 3) || (x.1 == 4)) && (x.2.2.1 == b)
def wAt (w : List StepT) (i : Nat) : StepT := w.getD i (0, (0, (0, [])))
theorem wAt_eq {w : List StepT} {i : Nat} (h : i < w.length) : wAt w i = w[i] := by
  unfold wAt
  rw [List.getD_eq_getElem?_getD, List.getElem?_eq_getElem h]
  rfl
/-- A write that is left may be done: no other one that is left is made from its block, or that is stashed. -/
def freeM (w : List StepT) (left : List Nat) (st : List Int) (i : Nat) : Bool := hasK (wAt w i).2.1 st || !(left.any fun k => (k != i) && readsB (wAt w k) (wAt w i).2.1)
def planS (w : List StepT) : Nat → List Nat → List Int → List MoveT
  | 0, _, _ => []
  | _ + 1, [], _ => []
  | n + 1, i0 :: rest, st => match (i0 :: rest).find? (freeM w (i0 :: rest) st) with
    | some i => (2, ((i : Int), ((wAt w i).2.1, 0))) :: planS w n ((i0 :: rest).erase i) st
    | none => (1, ((i0 : Int), ((wAt w i0).2.1, (st.length : Int)))) :: planS w n (i0 :: rest) (addK (wAt w i0).2.1 st)
def planM (l : List StepT) : List MoveT := planS (writesM l) 40 (List.range (writesM l).length) []
theorem nodup_bound : ∀ (n : Nat) (l : List Nat), l.Nodup → (∀ x ∈ l, x < n) → l.length ≤ n
  | 0, l, _, h => by
    cases l with
    | nil => exact Nat.le_refl _
    | cons x l => exact absurd (h x List.mem_cons_self) (Nat.not_lt_zero _)
  | n + 1, l, hn, h => by
    by_cases hm : n ∈ l
    · have h1 := nodup_bound n (l.erase n) (hn.erase n) (fun x hx => by
        have h2 := h x (List.mem_of_mem_erase hx)
        have h3 := (hn.mem_erase_iff.1 hx).1
        omega)
      rw [List.length_erase_of_mem hm] at h1
      omega
    · have := nodup_bound n l hn (fun x hx => by
        have h2 := h x hx
        rcases Nat.lt_or_ge x n with h3 | h3
        · exact h3
        · have : x = n := by omega
          exact absurd (this ▸ hx) hm)
      omega
theorem nodup_bound8 {l : List Int} (hn : l.Nodup) (h : ∀ x ∈ l, 0 ≤ x ∧ x ≤ 7) : l.length ≤ 8 := by
  have := nodup_bound 8 (l.map Int.toNat) (by
    refine List.pairwise_map.2 (hn.imp_of_mem fun {a b} ha hb hab e => hab ?_)
    have := h a ha
    have := h b hb
    omega) (fun x hx => by
    obtain ⟨y, hy, rfl⟩ := List.mem_map.1 hx
    have := h y hy
    omega)
  simpa using this
/-- What holds of a plan that is under way. -/
structure PlanI (w : List StepT) (left : List Nat) (st : List Int) : Prop where
  nd : left.Nodup
  lt : ∀ i ∈ left, i < w.length
  sd : st.Nodup
  sb : ∀ b ∈ st, 0 ≤ b ∧ b ≤ 7
theorem hasK_iff {k : Int} {l : List Int} : hasK k l = true ↔ k ∈ l := by
  unfold hasK
  rw [List.any_eq_true]
  constructor
  · rintro ⟨x, hx, e⟩
    have : k = x := by simpa using e
    subst this; exact hx
  · exact fun h => ⟨k, h, by simp⟩
theorem addK_new {k : Int} {l : List Int} (h : hasK k l = false) : addK k l = l ++ [k] := by unfold addK; rw [h]; rfl
theorem freeM_no {w : List StepT} {left : List Nat} {st : List Int} {i : Nat} (h : freeM w left st i = false) : hasK (wAt w i).2.1 st = false := by
  unfold freeM at h
  exact ((Bool.or_eq_false_iff).1 h).1
/-- Each round makes less of what is left. -/
theorem PlanI.stash {w : List StepT} {i0 : Nat} {rest : List Nat} {st : List Int} (h : PlanI w (i0 :: rest) st) (hw : ∀ x ∈ w, 0 ≤ x.2.1 ∧ x.2.1 ≤ 7) (hf : (i0 :: rest).find? (freeM w (i0 :: rest) st) = none) :
    PlanI w (i0 :: rest) (addK (wAt w i0).2.1 st) ∧ (addK (wAt w i0).2.1 st).length = st.length + 1 ∧ addK (wAt w i0).2.1 st = st ++ [(wAt w i0).2.1] := by
  have h0 := List.find?_eq_none.1 hf i0 List.mem_cons_self
  have h1 := freeM_no (Bool.eq_false_iff.2 h0)
  have hi := h.lt i0 List.mem_cons_self
  rw [addK_new h1]
  refine ⟨⟨h.nd, h.lt, ?_, ?_⟩, by simp, rfl⟩
  · refine List.nodup_append.2 ⟨h.sd, List.nodup_cons.2 ⟨(fun h => nomatch h), List.nodup_nil⟩, fun x hx y hy e => ?_⟩
    rw [List.mem_singleton.1 hy] at e
    subst e
    rw [hasK_iff.2 hx] at h1
    cases h1
  · intro b hb
    rcases List.mem_append.1 hb with hb | hb
    · exact h.sb b hb
    · rw [List.mem_singleton.1 hb, wAt_eq hi]
      exact hw _ (List.getElem_mem hi)
theorem PlanI.done {w : List StepT} {left : List Nat} {st : List Int} (h : PlanI w left st) (i : Nat) : PlanI w (left.erase i) st :=
  ⟨h.nd.erase i, fun j hj => h.lt j (List.mem_of_mem_erase hj), h.sd, h.sb⟩
/-! ### the program's plan -/
def ints (l : List Nat) : List Int := List.map (fun (n : Nat) => (n : Int)) l
theorem ints_get {l : List Nat} {i : Nat} (h : i < l.length) : (ints l)[i]'(by simpa [ints] using h) = ((l[i] : Nat) : Int) := by simp [ints]
theorem ints_len (l : List Nat) : (ints l).length = l.length := by simp [ints]
theorem iContains (w : List StepT) (left : List Nat) (i : Nat) (b : Int) (hw : w.length ≤ 1000) (hl : left.length ≤ 1000) (hlt : ∀ q ∈ left, q < w.length) : ∀ k, left.length < k →
    slices_ContainsFunc_int_planOf_1_1 k (ints left) (i : Int) w b = some (left.any fun k => (k != i) && readsB (wAt w k) b, (i : Int), b) := by
  intro k hk
  have run := loop_find (fun j q => slices_IndexFunc_int_planOf_1_1.l0 j (ints left) w ((ints left).length : Int) q (i : Int) b) left (fun k => (k != i) && readsB (wAt w k) b) (.inl ((i : Int), b)) (fun q => .inr ((q : Int), ((i : Int), b))) (fun q hq => by
    have hql : left[q] < w.length := hlt _ (List.getElem_mem hq)
    have hq' : q < (ints left).length := by rw [ints_len]; exact hq
    have e : impl_planOf_1_1 ((left[q] : Nat) : Int) (i : Int) w b = some ((left[q] != i) && readsB (wAt w left[q]) b) := by
      unfold impl_planOf_1_1
      by_cases hne : left[q] = i
      · rw [show (((left[q] : Nat) : Int) != (i : Int)) = false by simp [hne], show (left[q] != i) = false by simp [hne]]
        rfl
      · rw [show (((left[q] : Nat) : Int) != (i : Int)) = true by simp; omega, show (left[q] != i) = true by simpa using hne, at_nat hql, wAt_eq hql]
        rfl
    constructor
    · intro hp j
      show slices_IndexFunc_int_planOf_1_1.l0 (j + 1) (ints left) w ((ints left).length : Int) (q : Int) (i : Int) b = slices_IndexFunc_int_planOf_1_1.l0 j (ints left) w ((ints left).length : Int) ((q + 1 : Nat) : Int) (i : Int) b
      rw [slices_IndexFunc_int_planOf_1_1.l0, dlt hq', at_nat hq', wsuc (by omega), ints_get hq]
      simp only [cond_true, Option.bind_some, e, hp, cond_false]
    · intro hp j
      show slices_IndexFunc_int_planOf_1_1.l0 (j + 1) (ints left) w ((ints left).length : Int) (q : Int) (i : Int) b = _
      rw [slices_IndexFunc_int_planOf_1_1.l0, dlt hq', at_nat hq', ints_get hq]
      simp only [cond_true, Option.bind_some, e, hp]) (fun j => by
    show slices_IndexFunc_int_planOf_1_1.l0 (j + 1) (ints left) w ((ints left).length : Int) (left.length : Int) (i : Int) b = _
    unfold slices_IndexFunc_int_planOf_1_1.l0
    rw [dnlt (by rw [ints_len]; exact Nat.le_refl _)]
    rfl) hk
  have run : slices_IndexFunc_int_planOf_1_1.l0 k (ints left) w ((ints left).length : Int) 0 (i : Int) b = _ := run
  have hany := firstI_any (p := fun k => (k != i) && readsB (wAt w k) b) (l := left) (n := 0)
  unfold slices_ContainsFunc_int_planOf_1_1 slices_IndexFunc_int_planOf_1_1
  rw [run, ← hany]
  cases firstI (fun k => (k != i) && readsB (wAt w k) b) left 0 with
  | none => rfl
  | some m =>
    simp only [Option.bind_some, Option.isSome_some]
    rw [decide_eq_true (by omega : (0 : Int) ≤ (m : Int))]
theorem iFree (w : List StepT) (left : List Nat) (st : List Int) (i : Nat) (hw : w.length ≤ 1000) (hl : left.length ≤ 1000) (hlt : ∀ q ∈ left, q < w.length) (hi : i < w.length) : ∀ k, left.length < k →
    impl_planOf_1 k (i : Int) w st (ints left) = some (freeM w left st i, st) := by
  intro k hk
  unfold impl_planOf_1 freeM
  rw [at_nat hi, wAt_eq hi]
  simp only [Option.bind_some]
  cases hasK (w[i]).2.1 st with
  | true => rfl
  | false =>
    rw [iContains w left i _ hw hl hlt k hk]
    rfl
theorem iNext (w : List StepT) (left : List Nat) (st : List Int) (hw : w.length ≤ 1000) (hl : left.length ≤ 1000) (hlt : ∀ q ∈ left, q < w.length) : ∀ k, left.length < k →
    slices_IndexFunc_int_planOf_1 k (ints left) w st (ints left) = some (match firstI (freeM w left st) left 0 with | some p => (p : Int) | none => -1, w, st) := by
  intro k hk
  have run := loop_find (fun j q => slices_IndexFunc_int_planOf_1.l0 k j (ints left) (ints left) ((ints left).length : Int) q w st) left (freeM w left st) (.inl (w, st)) (fun q => .inr ((q : Int), (w, st))) (fun q hq => by
    have hql : left[q] < w.length := hlt _ (List.getElem_mem hq)
    have hq' : q < (ints left).length := by rw [ints_len]; exact hq
    have e := iFree w left st left[q] hw hl hlt hql k hk
    constructor
    · intro hp j
      show slices_IndexFunc_int_planOf_1.l0 k (j + 1) (ints left) (ints left) ((ints left).length : Int) (q : Int) w st = slices_IndexFunc_int_planOf_1.l0 k j (ints left) (ints left) ((ints left).length : Int) ((q + 1 : Nat) : Int) w st
      rw [slices_IndexFunc_int_planOf_1.l0, dlt hq', at_nat hq', wsuc (by omega), ints_get hq]
      simp only [cond_true, Option.bind_some, e, hp, cond_false]
    · intro hp j
      show slices_IndexFunc_int_planOf_1.l0 k (j + 1) (ints left) (ints left) ((ints left).length : Int) (q : Int) w st = _
      rw [slices_IndexFunc_int_planOf_1.l0, dlt hq', at_nat hq', ints_get hq]
      simp only [cond_true, Option.bind_some, e, hp]) (fun j => by
    show slices_IndexFunc_int_planOf_1.l0 k (j + 1) (ints left) (ints left) ((ints left).length : Int) (left.length : Int) w st = _
    unfold slices_IndexFunc_int_planOf_1.l0
    rw [dnlt (by rw [ints_len]; exact Nat.le_refl _)]
    rfl) hk
  have run : slices_IndexFunc_int_planOf_1.l0 k k (ints left) (ints left) ((ints left).length : Int) 0 w st = _ := run
  unfold slices_IndexFunc_int_planOf_1
  rw [run]
  cases firstI (freeM w left st) left 0 <;> rfl
theorem firstI_find {α : Type} {p : α → Bool} : ∀ {l : List α} {n : Nat}, (firstI p l n = none ∧ l.find? p = none) ∨ ∃ i, ∃ h : i < l.length, firstI p l n = some (n + i) ∧ l.find? p = some l[i] ∧ ∀ j, (hj : j < i) → p (l[j]'(by omega)) = false
  | [], n => .inl ⟨rfl, rfl⟩
  | x :: l, n => by
    cases hp : p x with
    | true => exact .inr ⟨0, by simp, by simp [firstI, hp], by simp [List.find?, hp], fun j hj => absurd hj (Nat.not_lt_zero _)⟩
    | false =>
      have e1 : firstI p (x :: l) n = firstI p l (n + 1) := by simp [firstI, hp]
      have e2 : (x :: l).find? p = l.find? p := by simp [List.find?, hp]
      rw [e1, e2]
      rcases firstI_find (p := p) (l := l) (n := n + 1) with ⟨h1, h2⟩ | ⟨i, hi, h1, h2, h3⟩
      · exact .inl ⟨h1, h2⟩
      · refine .inr ⟨i + 1, by simpa using hi, by rw [h1]; congr 1; omega, by rw [h2]; rfl, fun j hj => ?_⟩
        cases j with
        | zero => exact hp
        | succ j => exact h3 j (by omega)
theorem erase_at : ∀ {l : List Nat} {i : Nat} (h : i < l.length), l.Nodup → l.erase l[i] = l.take i ++ l.drop (i + 1)
  | x :: l, 0, h, hn => by simp
  | x :: l, i + 1, h, hn => by
    have hi : i < l.length := by simpa using h
    have hne : x ≠ l[i] := fun e => (List.nodup_cons.1 hn).1 (e ▸ List.getElem_mem hi)
    rw [List.getElem_cons_succ, List.erase_cons_tail (by simpa using hne), erase_at hi (List.nodup_cons.1 hn).2]
    rfl
theorem iPlanLoop (w : List StepT) (hw : w.length ≤ 20) (hwb : ∀ x ∈ w, 0 ≤ x.2.1 ∧ x.2.1 ≤ 7) (k : Nat) (hk : 20 < k) : ∀ (d : Nat) (left : List Nat) (st : List Int) (out : List MoveT), PlanI w left st → left.length + (8 - st.length) ≤ d → out.length + d ≤ 100 → ∀ n j, d < n → d < j →
    ∃ f, impl_planOf.l1 k j w out (ints left) st = some (w, out ++ planS w n left st, f) := by
  intro d
  induction d with
  | zero =>
    intro left st out hI hd ho n j hn hj
    obtain ⟨j, rfl⟩ : ∃ q, j = q + 1 := ⟨j - 1, by omega⟩
    obtain ⟨n, rfl⟩ : ∃ q, n = q + 1 := ⟨n - 1, by omega⟩
    obtain rfl : left = [] := List.eq_nil_of_length_eq_zero (by omega)
    refine ⟨(ints [], st), ?_⟩
    unfold impl_planOf.l1
    rw [decide_eq_false (by simp [ints] : ¬ ((0 : Int) < ((ints ([] : List Nat)).length : Int)))]
    simp only [cond_false, planS, List.append_nil]
  | succ d ih =>
    intro left st out hI hd ho n j hn hj
    obtain ⟨j, rfl⟩ : ∃ q, j = q + 1 := ⟨j - 1, by omega⟩
    obtain ⟨n, rfl⟩ : ∃ q, n = q + 1 := ⟨n - 1, by omega⟩
    have hll : left.length ≤ 20 := Nat.le_trans (nodup_bound w.length left hI.nd hI.lt) hw
    have hsl := nodup_bound8 hI.sd hI.sb
    cases left with
    | nil =>
      refine ⟨(ints [], st), ?_⟩
      unfold impl_planOf.l1
      rw [decide_eq_false (by simp [ints] : ¬ ((0 : Int) < ((ints ([] : List Nat)).length : Int)))]
      simp only [cond_false, planS, List.append_nil]
    | cons i0 rest =>
      have hi0 := hI.lt i0 List.mem_cons_self
      rw [impl_planOf.l1, decide_eq_true (by rw [ints_len, List.length_cons]; omega : (0 : Int) < ((ints (i0 :: rest)).length : Int)), iNext w (i0 :: rest) st (by omega) (by omega) hI.lt k (by omega)]
      simp only [cond_true, Option.bind_some]
      rcases firstI_find (p := freeM w (i0 :: rest) st) (l := i0 :: rest) (n := 0) with ⟨h1, h2⟩ | ⟨p, hp, h1, h2, h3⟩
      · obtain ⟨g1, g2, g3⟩ := hI.stash hwb h2
        have hst := nodup_bound8 g1.sd g1.sb
        rw [g2] at hst
        rw [h1]
        have e0 : at? (ints (i0 :: rest)) 0 = some (i0 : Int) := rfl
        rw [decide_eq_true (by decide : (-1 : Int) < 0), e0]
        simp only [cond_true, Option.bind_some]
        rw [at_nat hi0]
        simp only [Option.bind_some]
        rw [app_ok (by simp; omega)]
        simp only [Option.bind_some]
        have hp2 : planS w (n + 1) (i0 :: rest) st = (1, ((i0 : Int), ((wAt w i0).2.1, (st.length : Int)))) :: planS w n (i0 :: rest) (addK (wAt w i0).2.1 st) := by
          simp only [planS, h2]
        rw [hp2, wAt_eq hi0]
        rw [wAt_eq hi0] at g1 g2
        obtain ⟨f, hf⟩ := ih (i0 :: rest) (addK (w[i0]).2.1 st) (out ++ [(1, ((i0 : Int), ((w[i0]).2.1, (st.length : Int))))]) g1 (by omega) (by simp; omega) n j (by omega) (by omega)
        exact ⟨f, by rw [hf, List.append_assoc]; rfl⟩
      · rw [h1, Nat.zero_add]
        have hpi : p < (ints (i0 :: rest)).length := by rw [ints_len]; exact hp
        have hpl := hI.lt _ (List.getElem_mem hp)
        rw [decide_eq_false (by omega : ¬ ((p : Int) < 0)), at_nat hpi, ints_get hp, wsuc (by omega)]
        simp only [cond_false, Option.bind_some]
        rw [at_nat hpl]
        simp only [Option.bind_some]
        rw [app_ok (by simp; omega)]
        have hdel : slices_Delete_int (ints (i0 :: rest)) (p : Int) ((p + 1 : Nat) : Int) = some (ints ((i0 :: rest).erase (i0 :: rest)[p])) := by
          unfold slices_Delete_int
          rw [if_pos ⟨by omega, by omega, by omega⟩, Int.toNat_natCast, Int.toNat_natCast, erase_at hp hI.nd]
          simp [ints, List.map_take, List.map_drop]
        rw [hdel]
        simp only [Option.bind_some]
        have hp2 : planS w (n + 1) (i0 :: rest) st = (2, (((i0 :: rest)[p] : Nat) : Int), (wAt w (i0 :: rest)[p]).2.1, 0) :: planS w n ((i0 :: rest).erase (i0 :: rest)[p]) st := by
          simp only [planS, h2]
        have hle : ((i0 :: rest).erase (i0 :: rest)[p]).length = (i0 :: rest).length - 1 := List.length_erase_of_mem (List.getElem_mem hp)
        rw [hp2, wAt_eq hpl]
        obtain ⟨f, hf⟩ := ih ((i0 :: rest).erase (i0 :: rest)[p]) st (out ++ [(2, ((((i0 :: rest)[p] : Nat) : Int), ((w[(i0 :: rest)[p]]).2.1, 0)))]) (hI.done _) (by
          rw [hle]
          have : (i0 :: rest).length = rest.length + 1 := rfl
          omega) (by simp; omega) n j (by omega) (by omega)
        exact ⟨f, by rw [hf, List.append_assoc]; rfl⟩
theorem iFill (n : Nat) (hn : n ≤ 20) : ∀ k, n < k → impl_planOf.l0 k (n : Int) 0 (List.replicate n 0) = some (ints (List.range n)) := by
  intro k hk
  have run := copy_loop (fun j i c => impl_planOf.l0 j (n : Int) i c) (ints (List.range n)) (0 : Int) (fun i hi c hc j => by
    have hin : i < n := by simpa [ints] using hi
    have hl : (ints (List.range n)).length = n := by simp [ints]
    show impl_planOf.l0 (j + 1) (n : Int) (i : Int) c = impl_planOf.l0 j (n : Int) ((i + 1 : Nat) : Int) (c.set i (ints (List.range n))[i])
    rw [impl_planOf.l0, dlt hin, at_nat (by omega : i < c.length), wsuc (by omega), Int.toNat_natCast]
    simp [ints]) (fun c j => by
    show impl_planOf.l0 (j + 1) (n : Int) ((ints (List.range n)).length : Int) c = some c
    have hl : (ints (List.range n)).length = n := by simp [ints]
    unfold impl_planOf.l0
    rw [hl, dnlt (Nat.le_refl _)]
    rfl) (k := k) (by simp [ints]; omega)
  have hl : (ints (List.range n)).length = n := by simp [ints]
  rw [hl] at run
  exact run
theorem start_ok (w : List StepT) : PlanI w (List.range w.length) [] := ⟨List.nodup_range, fun i hi => List.mem_range.1 hi, List.nodup_nil, fun b hb => nomatch hb⟩
theorem iPlanOf (l : List StepT) (hl : l.length ≤ 20) (hb : ∀ x ∈ writesM l, 0 ≤ x.2.1 ∧ x.2.1 ≤ 7) : Ever fun k => impl_planOf k l = some (planM l) := by
  refine Ever.ge 60 fun k hk => ?_
  have hwl : (writesM l).length ≤ l.length := List.length_filter_le _ _
  unfold impl_planOf
  rw [iWrites l (by omega) k (by omega)]
  simp only [Option.bind_some]
  rw [make_some (by omega)]
  simp only [Option.bind_some, List.length_replicate]
  rw [iFill _ (by omega) k (by omega)]
  simp only [Option.bind_some]
  obtain ⟨f, hf⟩ := iPlanLoop (writesM l) (by omega) hb k (by omega) 30 (List.range (writesM l).length) [] [] (start_ok _) (by simp; omega) (by simp) 40 k (by omega) (by omega)
  rw [hf]
  rfl
end Go.Proofs.YtaajcllchbnjiaaGreatE

namespace Go.Proofs.YtaajcllchbnjiaaGreatE
open Go
set_option linter.unusedVariables false
theorem loop_findN {R : Type} (L : Nat → Int → Option R) (n : Nat) (p : Nat → Bool) (a : R) (b : Nat → R)
    (hs : ∀ (i : Nat), i < n → (p i = false → ∀ j, L (j + 1) (i : Int) = L j ((i + 1 : Nat) : Int)) ∧ (p i = true → ∀ j, L (j + 1) (i : Int) = some (b i)))
    (he : ∀ j, L (j + 1) (n : Int) = some a) {k : Nat} (hk : n < k) : L k 0 = some (match (List.range n).find? p with | some i => b i | none => a) := by
  have hl : (List.range n).length = n := List.length_range
  have run := loop_find L (List.range n) p a b (fun i hi => by rw [List.getElem_range]; exact hs i (by omega)) (by rw [hl]; exact he) (k := k) (by rw [hl]; exact hk)
  rw [run]
  rcases firstI_find (p := p) (l := List.range n) (n := 0) with ⟨h1, h2⟩ | ⟨q, hq, h1, h2, h3⟩
  · rw [h1, h2]
  · rw [h1, h2, Nat.zero_add, List.getElem_range]
def optI : Option Nat → Int
  | some i => (i : Int)
  | none => -1
theorem optI_some (i : Nat) : decide (optI (some i) < 0) = false := decide_eq_false (by show ¬ ((i : Int) < 0); omega)
theorem optI_none : decide (optI none < 0) = true := rfl
/-- What the reference keeps of a plan that is under way: a bit for each write, a bit for each block. -/
structure PlanR (w : List StepT) (left : List Nat) (st : List Int) (lB sB : List Bool) : Prop where
  pi : PlanI w left st
  so : left.Pairwise (· < ·)
  ll : lB.length = w.length
  lm : ∀ i, (h : i < lB.length) → lB[i] = decide (i ∈ left)
  sl : sB.length = 8
  sm : ∀ b : Nat, (h : b < sB.length) → sB[b] = hasK (b : Int) st
section
variable {w : List StepT} {left : List Nat} {st : List Int} {lB sB : List Bool}
theorem PlanR.done (h : PlanR w left st lB sB) (i : Nat) : PlanR w (left.erase i) st (lB.set i false) sB := by
  refine ⟨h.pi.done i, h.so.sublist List.erase_sublist, by rw [List.length_set]; exact h.ll, fun q hq => ?_, h.sl, h.sm⟩
  rw [List.length_set] at hq
  rw [List.getElem_set]
  by_cases hi : i = q
  · subst hi
    rw [if_pos rfl, decide_eq_false]
    intro hm
    exact (h.pi.nd.mem_erase_iff.1 hm).1 rfl
  · rw [if_neg hi, h.lm q hq, Bool.eq_iff_iff, decide_eq_true_eq, decide_eq_true_eq, h.pi.nd.mem_erase_iff]
    exact ⟨fun g => ⟨fun e => hi e.symm, g⟩, fun g => g.2⟩
theorem PlanR.stash (h : PlanR w left st lB sB) {b : Nat} {st' : List Int} (hp : PlanI w left st') (e : st' = st ++ [(b : Int)]) : PlanR w left st' lB (sB.set b true) := by
  refine ⟨hp, h.so, h.ll, h.lm, by rw [List.length_set]; exact h.sl, fun q hq => ?_⟩
  rw [List.length_set] at hq
  rw [List.getElem_set, e]
  have ha : hasK (q : Int) (st ++ [(b : Int)]) = (hasK (q : Int) st || ((b : Int) == (q : Int) || (q : Int) == (b : Int))) := by
    rw [Bool.eq_iff_iff, hasK_iff, Bool.or_eq_true, hasK_iff, List.mem_append, List.mem_singleton, Bool.or_eq_true, beq_iff_eq, beq_iff_eq]
    constructor
    · rintro (g | g)
      · exact .inl g
      · exact .inr (.inr g)
    · rintro (g | g | g)
      · exact .inl g
      · exact .inr g.symm
      · exact .inr g
  rw [ha]
  by_cases hb : b = q
  · subst hb
    rw [if_pos rfl]
    simp
  · rw [if_neg hb, h.sm q hq]
    have e1 : ((b : Int) == (q : Int)) = false := by rw [beqd]; exact decide_eq_false (by omega)
    have e2 : ((q : Int) == (b : Int)) = false := by rw [beqd]; exact decide_eq_false (by omega)
    rw [e1, e2]
    simp
theorem sBlocked (h : PlanR w left st lB sB) (hw : w.length ≤ 20) (hwb : ∀ x ∈ w, 0 ≤ x.2.1 ∧ x.2.1 ≤ 7) (i : Nat) (hi : i < w.length) : ∀ k, 20 < k → spec_l11Blocked k w lB sB (i : Int) = some (!(freeM w left st i)) := by
  intro k hk
  obtain ⟨h0, h7⟩ := hwb _ (List.getElem_mem hi)
  obtain ⟨b, hb⟩ := Int.eq_ofNat_of_zero_le h0
  have hbs : b < sB.length := by have := h.sl; omega
  have run := loop_findN (fun j q => spec_l11Blocked.l0 j w lB (i : Int) q) w.length (fun q => (q != i) && (decide (q ∈ left) && readsB (wAt w q) (wAt w i).2.1)) (.inl ()) (fun _ => .inr true) (fun q hq => by
    have hql : q < lB.length := by have := h.ll; omega
    have e0 : spec_l11Reads w[q] (w[i]).2.1 = some (readsB (wAt w q) (wAt w i).2.1) := by rw [wAt_eq hq, wAt_eq hi]; rfl
    have key : ∀ j, spec_l11Blocked.l0 (j + 1) w lB (i : Int) (q : Int) = if ((q != i) && (decide (q ∈ left) && readsB (wAt w q) (wAt w i).2.1)) = true then some (.inr true) else spec_l11Blocked.l0 j w lB (i : Int) ((q + 1 : Nat) : Int) := by
      intro j
      rw [spec_l11Blocked.l0, dlt hq, at_nat hql, at_nat hq, at_nat hi, wsuc (by omega), h.lm q hql]
      simp only [cond_true, Option.bind_some, e0]
      by_cases hne : q = i
      · rw [show ((q : Int) != (i : Int)) = false by simp [hne], show (q != i) = false by simp [hne]]
        rfl
      · rw [show ((q : Int) != (i : Int)) = true by simp; omega, show (q != i) = true by simpa using hne]
        cases decide (q ∈ left) with
        | false => rfl
        | true => cases readsB (wAt w q) (wAt w i).2.1 <;> rfl
    constructor
    · intro hp j
      show spec_l11Blocked.l0 (j + 1) w lB (i : Int) (q : Int) = spec_l11Blocked.l0 j w lB (i : Int) ((q + 1 : Nat) : Int)
      rw [key, if_neg (by rw [hp]; exact Bool.false_ne_true)]
    · intro hp j
      show spec_l11Blocked.l0 (j + 1) w lB (i : Int) (q : Int) = _
      rw [key, if_pos hp]) (fun j => by
    show spec_l11Blocked.l0 (j + 1) w lB (i : Int) (w.length : Int) = _
    unfold spec_l11Blocked.l0
    rw [dnlt (Nat.le_refl _)]
    rfl) (by omega : w.length < k)
  have run : spec_l11Blocked.l0 k w lB (i : Int) 0 = _ := run
  unfold spec_l11Blocked freeM
  rw [at_nat hi, wAt_eq hi]
  simp only [Option.bind_some]
  have hat : at? sB (w[i]).2.1 = some (hasK (w[i]).2.1 st) := by
    rw [hb, at_nat hbs, h.sm b hbs]
  rw [hat]
  simp only [Option.bind_some]
  cases hasK (w[i]).2.1 st with
  | true => rfl
  | false =>
    simp only [cond_false, Bool.false_or, Bool.not_not]
    rw [run]
    rw [wAt_eq hi]
    cases hf : (List.range w.length).find? (fun q => (q != i) && (decide (q ∈ left) && readsB (wAt w q) (w[i]).2.1)) with
    | none =>
      have := List.find?_eq_none.1 hf
      have : (left.any fun k => (k != i) && readsB (wAt w k) (w[i]).2.1) = false := by
        rw [List.any_eq_false]
        intro x hx hc
        refine this x (List.mem_range.2 (h.pi.lt x hx)) ?_
        rw [decide_eq_true hx, Bool.true_and]
        exact hc
      rw [this]
      rfl
    | some q =>
      have h1 := List.find?_some hf
      have : (left.any fun k => (k != i) && readsB (wAt w k) (w[i]).2.1) = true := by
        rw [List.any_eq_true]
        simp only [Bool.and_eq_true, decide_eq_true_eq] at h1
        exact ⟨q, h1.2.1, by rw [Bool.and_eq_true]; exact ⟨h1.1, h1.2.2⟩⟩
      rw [this]
      rfl
theorem sNextLoop (h : PlanR w left st lB sB) (hw : w.length ≤ 20) (hwb : ∀ x ∈ w, 0 ≤ x.2.1 ∧ x.2.1 ≤ 7) (k : Nat) (hk : 20 < k) : ∀ (d i : Nat) (dn todo : List Nat), i + d = w.length → left = dn ++ todo → (∀ x ∈ dn, x < i) → (∀ x ∈ todo, i ≤ x) → ∀ j, d < j →
    spec_l11Next.l0 k j w lB sB (optI (dn.find? (freeM w left st))) (optI dn.head?) (i : Int) = some (optI (left.find? (freeM w left st)), optI left.head?) := by
  intro d
  induction d with
  | zero =>
    intro i dn todo hi hl h1 h2 j hj
    obtain ⟨j, rfl⟩ : ∃ q, j = q + 1 := ⟨j - 1, by omega⟩
    obtain rfl : i = w.length := by omega
    have ht : todo = [] := by
      cases todo with
      | nil => rfl
      | cons y t =>
        have := h2 y List.mem_cons_self
        have := h.pi.lt y (by rw [hl]; exact List.mem_append_right _ List.mem_cons_self)
        omega
    subst ht
    rw [List.append_nil] at hl
    rw [← hl]
    unfold spec_l11Next.l0
    rw [dnlt (Nat.le_refl _)]
    rfl
  | succ d ih =>
    intro i dn todo hi hl h1 h2 j hj
    obtain ⟨j, rfl⟩ : ∃ q, j = q + 1 := ⟨j - 1, by omega⟩
    have hiw : i < w.length := by omega
    have hil : i < lB.length := by have := h.ll; omega
    rw [spec_l11Next.l0, dlt hiw, at_nat hil, wsuc (by omega), h.lm i hil, sBlocked h hw hwb i hiw k hk]
    simp only [cond_true, Option.bind_some]
    by_cases hm : i ∈ left
    · rw [decide_eq_true hm]
      have hit : i ∈ todo := by
        rw [hl] at hm
        rcases List.mem_append.1 hm with g | g
        · exact absurd (h1 i g) (Nat.lt_irrefl _)
        · exact g
      have hso := h.so
      rw [hl] at hso
      have hst := (List.pairwise_append.1 hso).2.1
      cases todo with
      | nil => exact nomatch hit
      | cons y t =>
        have hyt := List.pairwise_cons.1 hst
        have hyi : y = i := by
          rcases List.mem_cons.1 hit with g | g
          · exact g.symm
          · have := hyt.1 i g
            have := h2 y List.mem_cons_self
            omega
        subst hyi
        have ih' := ih (y + 1) (dn ++ [y]) t (by omega) (by rw [hl, List.append_assoc]; rfl) (fun x hx => by
          rcases List.mem_append.1 hx with g | g
          · have := h1 x g; omega
          · rw [List.mem_singleton.1 g]; omega) (fun x hx => hyt.1 x hx) j (by omega)
        have eA : (dn ++ [y]).find? (freeM w left st) = (dn.find? (freeM w left st)).or (if freeM w left st y then some y else none) := by
          rw [List.find?_append]
          congr 1
          unfold List.find?
          cases freeM w left st y <;> rfl
        have eB : (dn ++ [y]).head? = (dn.head?).or (some y) := by cases dn <;> rfl
        rw [eA, eB] at ih'
        simp only [Bool.not_true, cond_false]
        cases hB : dn.head? with
        | none =>
          have hdn : dn = [] := by cases dn with | nil => rfl | cons a b => cases hB
          subst hdn
          rw [hB] at ih'
          have e1 : (([] : List Nat).find? (freeM w left st)) = none := rfl
          rw [e1] at ih' ⊢
          rw [optI_none]
          simp only [cond_true]
          cases hf : freeM w left st y with
          | true => rw [hf] at ih'; exact ih'
          | false => rw [hf] at ih'; exact ih'
        | some a =>
          rw [hB] at ih'
          rw [optI_some]
          simp only [cond_false]
          cases hA : dn.find? (freeM w left st) with
          | none =>
            rw [hA] at ih'
            rw [optI_none]
            simp only [cond_true]
            cases hf : freeM w left st y with
            | true => rw [hf] at ih'; exact ih'
            | false => rw [hf] at ih'; exact ih'
          | some c =>
            rw [hA] at ih'
            rw [optI_some]
            exact ih'
    · rw [decide_eq_false hm]
      exact ih (i + 1) dn todo (by omega) hl (fun x hx => by have := h1 x hx; omega) (fun x hx => by
        have := h2 x hx
        rcases Nat.lt_or_ge i x with g | g
        · exact g
        · have : x = i := by omega
          subst this
          exact absurd (by rw [hl]; exact List.mem_append_right _ hx) hm) j (by omega)
theorem sNext (h : PlanR w left st lB sB) (hw : w.length ≤ 20) (hwb : ∀ x ∈ w, 0 ≤ x.2.1 ∧ x.2.1 ≤ 7) (k : Nat) (hk : 21 < k) : spec_l11Next k w lB sB = some (optI (left.find? (freeM w left st)), optI left.head?) := by
  have run := sNextLoop h hw hwb k (by omega) w.length 0 [] left (Nat.zero_add _) rfl (fun x hx => nomatch hx) (fun x _ => Nat.zero_le x) k (by omega)
  have run : spec_l11Next.l0 k k w lB sB (-1) (-1) 0 = _ := run
  unfold spec_l11Next
  rw [run]
  rfl
end
theorem sPlanLoop (w : List StepT) (hw : w.length ≤ 20) (hwb : ∀ x ∈ w, 0 ≤ x.2.1 ∧ x.2.1 ≤ 7) (k : Nat) (hk : 21 < k) : ∀ (d : Nat) (left : List Nat) (st : List Int) (lB sB : List Bool) (out : List MoveT), PlanR w left st lB sB → left.length + (8 - st.length) ≤ d → out.length + d ≤ 100 → ∀ n j, d < n → d < j →
    spec_l11Plan.l1 k j (st.length : Int) w lB sB out = some (out ++ planS w n left st) := by
  intro d
  induction d with
  | zero =>
    intro left st lB sB out hI hd ho n j hn hj
    obtain ⟨j, rfl⟩ : ∃ q, j = q + 1 := ⟨j - 1, by omega⟩
    obtain ⟨n, rfl⟩ : ∃ q, n = q + 1 := ⟨n - 1, by omega⟩
    obtain rfl : left = [] := List.eq_nil_of_length_eq_zero (by omega)
    unfold spec_l11Plan.l1
    rw [sNext hI hw hwb k hk]
    simp only [planS, List.append_nil]
    rfl
  | succ d ih =>
    intro left st lB sB out hI hd ho n j hn hj
    obtain ⟨j, rfl⟩ : ∃ q, j = q + 1 := ⟨j - 1, by omega⟩
    obtain ⟨n, rfl⟩ : ∃ q, n = q + 1 := ⟨n - 1, by omega⟩
    have hsl := nodup_bound8 hI.pi.sd hI.pi.sb
    cases left with
    | nil =>
      unfold spec_l11Plan.l1
      rw [sNext hI hw hwb k hk]
      simp only [planS, List.append_nil]
      rfl
    | cons i0 rest =>
      have hi0 := hI.pi.lt i0 List.mem_cons_self
      rw [spec_l11Plan.l1, sNext hI hw hwb k hk]
      simp only [Option.bind_some]
      rw [show (i0 :: rest).head? = some i0 from rfl, optI_some]
      simp only [cond_false]
      rcases firstI_find (p := freeM w (i0 :: rest) st) (l := i0 :: rest) (n := 0) with ⟨h1, h2⟩ | ⟨p, hp, h1, h2, h3⟩
      · obtain ⟨g1, g2, g3⟩ := hI.pi.stash hwb h2
        have hst := nodup_bound8 g1.sd g1.sb
        rw [g2] at hst
        rw [h2]
        have hp2 : planS w (n + 1) (i0 :: rest) st = (1, ((i0 : Int), ((wAt w i0).2.1, (st.length : Int)))) :: planS w n (i0 :: rest) (addK (wAt w i0).2.1 st) := by
          simp only [planS, h2]
        rw [hp2, wAt_eq hi0]
        rw [wAt_eq hi0] at g1 g2 g3
        obtain ⟨q0, q7⟩ := hwb _ (List.getElem_mem hi0)
        obtain ⟨b, hb⟩ := Int.eq_ofNat_of_zero_le q0
        have hb : (w[i0]).2.1 = (b : Int) := hb
        have hbs : b < sB.length := by have := hI.sl; omega
        rw [show decide (0 ≤ optI none) = false from rfl, show optI (some i0) = (i0 : Int) from rfl, at_nat hi0, wsuc (by omega)]
        simp only [cond_false, Option.bind_some]
        rw [app_ok (by simp; omega), hb, at_nat hbs]
        simp only [Option.bind_some, Int.toNat_natCast]
        rw [hb] at g1 g2 g3
        have := ih (i0 :: rest) (addK (b : Int) st) lB (sB.set b true) (out ++ [(1, ((i0 : Int), ((b : Int), (st.length : Int))))]) (hI.stash g1 g3) (by omega) (by simp; omega) n j (by omega) (by omega)
        rw [g2] at this
        rw [this, List.append_assoc]
        rfl
      · rw [h2]
        have hpl := hI.pi.lt _ (List.getElem_mem hp)
        have hll : (i0 :: rest)[p] < lB.length := by have := hI.ll; omega
        have hp2 : planS w (n + 1) (i0 :: rest) st = (2, (((i0 :: rest)[p] : Nat) : Int), (wAt w (i0 :: rest)[p]).2.1, 0) :: planS w n ((i0 :: rest).erase (i0 :: rest)[p]) st := by
          simp only [planS, h2]
        have hle : ((i0 :: rest).erase (i0 :: rest)[p]).length = (i0 :: rest).length - 1 := List.length_erase_of_mem (List.getElem_mem hp)
        rw [hp2, wAt_eq hpl]
        rw [show decide (0 ≤ optI (some (i0 :: rest)[p])) = true from decide_eq_true (Int.natCast_nonneg _), show optI (some (i0 :: rest)[p]) = (((i0 :: rest)[p] : Nat) : Int) from rfl, at_nat hpl, at_nat hll]
        simp only [cond_true, Option.bind_some, Int.toNat_natCast]
        rw [app_ok (by simp; omega)]
        simp only [Option.bind_some]
        rw [ih ((i0 :: rest).erase (i0 :: rest)[p]) st (lB.set (i0 :: rest)[p] false) sB (out ++ [(2, ((((i0 :: rest)[p] : Nat) : Int), ((w[(i0 :: rest)[p]]).2.1, 0)))]) (hI.done _) (by
          rw [hle]
          have : (i0 :: rest).length = rest.length + 1 := rfl
          omega) (by simp; omega) n j (by omega) (by omega), List.append_assoc]
        rfl
theorem sFill (w : List StepT) (hw : w.length ≤ 20) : ∀ k, w.length < k → spec_l11Plan.l0 k 0 w (List.replicate w.length false) = some (w, List.replicate w.length true) := by
  intro k hk
  have run := copy_loop (fun j i c => (spec_l11Plan.l0 j i w c).map fun p => p.2) (List.replicate w.length true) false (fun i hi c hc j => by
    have hiw : i < w.length := by simpa using hi
    have hic : i < c.length := by rw [hc]; exact hi
    show (spec_l11Plan.l0 (j + 1) (i : Int) w c).map _ = (spec_l11Plan.l0 j ((i + 1 : Nat) : Int) w (c.set i (List.replicate w.length true)[i])).map _
    rw [spec_l11Plan.l0, dlt hiw, at_nat hic, wsuc (by omega), Int.toNat_natCast, List.getElem_replicate]
    rfl) (fun c j => by
    show (spec_l11Plan.l0 (j + 1) ((List.replicate w.length true).length : Int) w c).map _ = some c
    unfold spec_l11Plan.l0
    rw [dnlt (by simp)]
    rfl) (k := k) (by simpa using hk)
  have fst : ∀ (d i : Nat) (c : List Bool) (r : List StepT × List Bool), i + d = w.length → ∀ j, spec_l11Plan.l0 j (i : Int) w c = some r → r.1 = w := by
    intro d
    induction d with
    | zero =>
      intro i c r hi j h
      cases j with
      | zero => cases h
      | succ j =>
        unfold spec_l11Plan.l0 at h
        rw [dnlt (by omega : w.length ≤ i)] at h
        cases h
        rfl
    | succ d ih =>
      intro i c r hi j h
      cases j with
      | zero => cases h
      | succ j =>
        rw [spec_l11Plan.l0, dlt (by omega : i < w.length), wsuc (by omega)] at h
        simp only [cond_true] at h
        cases ha : at? c (i : Int) with
        | none => rw [ha] at h; cases h
        | some v =>
          rw [ha] at h
          exact ih (i + 1) _ r (by omega) j h
  rw [List.length_replicate] at run
  have run : (spec_l11Plan.l0 k 0 w (List.replicate w.length false)).map (fun p => p.2) = some (List.replicate w.length true) := run
  cases hr : spec_l11Plan.l0 k 0 w (List.replicate w.length false) with
  | none => rw [hr] at run; cases run
  | some r =>
    rw [hr] at run
    have h1 := fst w.length 0 _ r (Nat.zero_add _) k hr
    have h2 : r.2 = List.replicate w.length true := Option.some.inj run
    obtain ⟨r1, r2⟩ := r
    have h1 : r1 = w := h1
    have h2 : r2 = List.replicate w.length true := h2
    rw [h1, h2]
theorem startR (w : List StepT) : PlanR w (List.range w.length) [] (List.replicate w.length true) (List.replicate 8 false) := by
  refine ⟨start_ok w, List.pairwise_lt_range, List.length_replicate, fun i hi => ?_, List.length_replicate, fun b hb => ?_⟩
  · rw [List.length_replicate] at hi
    rw [List.getElem_replicate, decide_eq_true (List.mem_range.2 hi)]
  · rw [List.getElem_replicate]
    rfl
theorem planM_len (l : List StepT) (hl : l.length ≤ 20) (hb : ∀ x ∈ writesM l, 0 ≤ x.2.1 ∧ x.2.1 ≤ 7) : (planM l).length ≤ 28 := by
  have hwl : (writesM l).length ≤ l.length := List.length_filter_le _ _
  have key : ∀ (n : Nat) (left : List Nat) (st : List Int), PlanI (writesM l) left st → (planS (writesM l) n left st).length ≤ left.length + (8 - st.length) := by
    intro n
    induction n with
    | zero => intro left st h; exact Nat.zero_le _
    | succ n ih =>
      intro left st h
      cases left with
      | nil => exact Nat.zero_le _
      | cons i0 rest =>
        rcases firstI_find (p := freeM (writesM l) (i0 :: rest) st) (l := i0 :: rest) (n := 0) with ⟨h1, h2⟩ | ⟨p, hp, h1, h2, h3⟩
        · obtain ⟨g1, g2, g3⟩ := h.stash hb h2
          have hst := nodup_bound8 g1.sd g1.sb
          have := ih _ _ g1
          simp only [planS, h2, List.length_cons] at this ⊢
          omega
        · have := ih _ _ (h.done (i0 :: rest)[p])
          have hle : ((i0 :: rest).erase (i0 :: rest)[p]).length = (i0 :: rest).length - 1 := List.length_erase_of_mem (List.getElem_mem hp)
          rw [hle] at this
          simp only [planS, h2, List.length_cons] at this ⊢
          omega
  have := key 40 _ _ (start_ok (writesM l))
  rw [List.length_range, List.length_nil] at this
  unfold planM
  omega
theorem sPlan (l : List StepT) (hl : l.length ≤ 20) (hb : ∀ x ∈ writesM l, 0 ≤ x.2.1 ∧ x.2.1 ≤ 7) : ∀ k, 60 ≤ k → spec_l11Plan k l = some (planM l) := by
  intro k hk
  have hwl : (writesM l).length ≤ l.length := List.length_filter_le _ _
  unfold spec_l11Plan
  rw [sWrites l hl k (by omega)]
  simp only [Option.bind_some]
  rw [make_some (by omega)]
  simp only [Option.bind_some]
  rw [sFill _ (by omega) k (by omega)]
  simp only [Option.bind_some]
  rw [show make? 1 8 8 false = some (List.replicate 8 false) from make_some (n := 8) (by omega)]
  simp only [Option.bind_some]
  have run := sPlanLoop (writesM l) (by omega) hb k (by omega) 30 _ [] _ _ [] (startR _) (by simp; omega) (by simp) 40 k (by omega) (by omega)
  have run : spec_l11Plan.l1 k k 0 (writesM l) (List.replicate (writesM l).length true) (List.replicate 8 false) [] = _ := run
  rw [run]
  rfl
/-! ### the slots -/
def slotsM (l : List MoveT) : Int := (((l.filter fun m => m.1 == 1).length : Nat) : Int)
theorem slots_take {l : List MoveT} {i : Nat} (h : i < l.length) : slotsM (l.take (i + 1)) = if (l[i]).1 = 1 then slotsM (l.take i) + 1 else slotsM (l.take i) := by
  unfold slotsM
  rw [take_succ' h, List.filter_append]
  split
  · rename_i hw; simp [hw]
  · rename_i hw; simp [hw]
theorem slots_le (l : List MoveT) : 0 ≤ slotsM l ∧ slotsM l ≤ (l.length : Int) := by
  unfold slotsM
  have := List.length_filter_le (fun m : MoveT => m.1 == 1) l
  omega
theorem sSlots (l : List MoveT) (hl : l.length ≤ 40) : ∀ k, 41 ≤ k → spec_SlotsOf k l = some (slotsM l) := by
  intro k hk
  have key : ∀ (d i : Nat), i + d = l.length → ∀ j, d < j → spec_SlotsOf.l0 j l (slotsM (l.take i)) (i : Int) = some (slotsM l) := by
    intro d
    induction d with
    | zero =>
      intro i hi j hj
      obtain ⟨j, rfl⟩ : ∃ q, j = q + 1 := ⟨j - 1, by omega⟩
      obtain rfl : i = l.length := by omega
      unfold spec_SlotsOf.l0
      rw [dnlt (Nat.le_refl _), List.take_length]
      rfl
    | succ d ih =>
      intro i hi j hj
      obtain ⟨j, rfl⟩ : ∃ q, j = q + 1 := ⟨j - 1, by omega⟩
      have h : i < l.length := by omega
      have hb := slots_le (l.take i)
      have hbl : (l.take i).length ≤ 40 := by rw [List.length_take]; omega
      have := ih (i + 1) (by omega) j (by omega)
      rw [slots_take h] at this
      rw [spec_SlotsOf.l0, dlt h, decide_eq_true (by omega : (l.length : Int) ≤ 40), at_nat h, wsuc (by omega), w64 (n := slotsM (l.take i) + 1) (by omega) (by omega)]
      simp only [Bool.and_self, cond_true, Option.bind_some]
      by_cases h1 : (l[i]).1 = 1
      · rw [if_pos h1] at this
        rw [show ((l[i]).1 == 1) = true by simpa using h1]
        exact this
      · rw [if_neg h1] at this
        rw [show ((l[i]).1 == 1) = false by simpa using h1]
        exact this
  have run := key l.length 0 (Nat.zero_add _) k (by omega)
  have run : spec_SlotsOf.l0 k l 0 0 = _ := run
  unfold spec_SlotsOf
  rw [run]
  rfl
theorem iSlots (l : List MoveT) (hl : l.length ≤ 40) : ∀ k, 41 ≤ k → impl_slotsOf k l = some (slotsM l) := by
  intro k hk
  have key : ∀ (d i : Nat), i + d = l.length → ∀ j, d < j → impl_slotsOf.l0 j (slotsM (l.take i)) l (l.length : Int) (i : Int) = some (slotsM l) := by
    intro d
    induction d with
    | zero =>
      intro i hi j hj
      obtain ⟨j, rfl⟩ : ∃ q, j = q + 1 := ⟨j - 1, by omega⟩
      obtain rfl : i = l.length := by omega
      unfold impl_slotsOf.l0
      rw [dnlt (Nat.le_refl _), List.take_length]
      rfl
    | succ d ih =>
      intro i hi j hj
      obtain ⟨j, rfl⟩ : ∃ q, j = q + 1 := ⟨j - 1, by omega⟩
      have h : i < l.length := by omega
      have hb := slots_le (l.take i)
      have hbl : (l.take i).length ≤ 40 := by rw [List.length_take]; omega
      have := ih (i + 1) (by omega) j (by omega)
      rw [slots_take h] at this
      rw [impl_slotsOf.l0, dlt h, at_nat h, wsuc (by omega), w64 (n := slotsM (l.take i) + 1) (by omega) (by omega)]
      simp only [cond_true, Option.bind_some]
      by_cases h1 : (l[i]).1 = 1
      · rw [if_pos h1] at this
        rw [show ((l[i]).1 == 1) = true by simpa using h1]
        exact this
      · rw [if_neg h1] at this
        rw [show ((l[i]).1 == 1) = false by simpa using h1]
        exact this
  have run := key l.length 0 (Nat.zero_add _) k (by omega)
  have run : impl_slotsOf.l0 k 0 l (l.length : Int) 0 = _ := run
  unfold impl_slotsOf
  rw [run]
  rfl
/-! ### packages -/
theorem codeM_to {l : List StepT} {n : Int} (h : codeM l n = 0) : ∀ x ∈ writesM l, 0 ≤ x.2.1 ∧ x.2.1 ≤ 7 := by
  obtain ⟨_, h1, h2, h3, _, _⟩ := codeM_ok h
  intro x hx
  unfold writesM at hx
  rw [List.mem_filter] at hx
  have hs := h3 x hx.1
  have hw := hx.2
  unfold isW at hw
  have h5 : x.1 ≠ 5 := by simpa using hw
  unfold stepT stepB at hs
  rw [if_neg h5] at hs
  split at hs
  · simp only [Bool.and_eq_true, decide_eq_true_eq] at hs; omega
  · split at hs
    · simp only [Bool.and_eq_true, decide_eq_true_eq] at hs; omega
    · split at hs
      · simp only [Bool.and_eq_true, decide_eq_true_eq] at hs; omega
      · split at hs
        · simp only [Bool.and_eq_true, decide_eq_true_eq] at hs; omega
        · cases hs
theorem sPlanOf (l : List StepT) (n : Int) (h : codeM l n = 0) : Ever fun k => spec_PlanOf k l n = some (planM l, 0) := by
  have hl := (codeM_ok h).1
  refine ((sStepsCode l n (by omega)).and (Ever.ge 60 fun k hk => hk)).mono fun k hk => ?_
  unfold spec_PlanOf
  rw [decide_eq_false (by omega : ¬ ((400 : Int) < (l.length : Int))), hk.1, h, sPlan l hl (codeM_to h) k hk.2]
  rfl
def packB (p : PkgT) : Bool := decide (codeM p.2.2 p.1 = 0) && decide (p.2.1.length = 32)
theorem sPackage (p : PkgT) (hl : p.2.2.length ≤ 1048576) : Ever fun k => spec_PackageRight k p = some (packB p) := by
  refine (sStepsCode p.2.2 p.1 hl).mono fun k hk => ?_
  unfold spec_PackageRight packB
  rw [hk]
  simp only [Option.bind_some]
  rw [beqd, beqd]
  congr 2
  rw [Bool.eq_iff_iff, decide_eq_true_eq, decide_eq_true_eq]
  omega
theorem iPackage (p : PkgT) (hl : p.2.2.length ≤ 1048576) : Ever fun k => impl_isPackage k p = some (packB p) := by
  refine (iStepsCode p.2.2 p.1 hl).mono fun k hk => ?_
  unfold impl_isPackage packB
  rw [hk]
  simp only [Option.bind_some]
  rw [beqd, beqd]
  congr 2
  rw [Bool.eq_iff_iff, decide_eq_true_eq, decide_eq_true_eq]
  omega
theorem packB_ok {p : PkgT} (h : packB p = true) : codeM p.2.2 p.1 = 0 ∧ p.2.1.length = 32 := by
  unfold packB at h
  rw [Bool.and_eq_true, decide_eq_true_eq, decide_eq_true_eq] at h
  exact h
def headP (p : PkgT) : Int × Int × Int × Str := (p.1, ((p.2.2.length : Int), (slotsM (planM p.2.2), p.2.1)))
theorem sHeadOf (p : PkgT) (h : packB p = true) : Ever fun k => spec_l18Head k p = some (headP p) := by
  have hc := (packB_ok h).1
  refine ((sPlanOf p.2.2 p.1 hc).and (Ever.ge 60 fun k hk => hk)).mono fun k hk => ?_
  unfold spec_l18Head
  rw [hk.1]
  simp only [Option.bind_some]
  rw [sSlots _ (Nat.le_trans (planM_len _ (codeM_ok hc).1 (codeM_to hc)) (by omega)) k (by omega)]
  rfl
/-- Is it a package of at least one step that takes at most four slots? -/
def agentB (p : PkgT) : Bool := packB p && (decide (0 < p.2.2.length) && decide (slotsM (planM p.2.2) ≤ 4))
theorem headP_right (p : PkgT) (h : packB p = true) : spec_HeadRight (headP p) = some (decide (0 < p.2.2.length) && decide (slotsM (planM p.2.2) ≤ 4)) := by
  obtain ⟨hc, h32⟩ := packB_ok h
  obtain ⟨h20, h1, h8, _⟩ := codeM_ok hc
  have hs := slots_le (planM p.2.2)
  unfold headP
  rw [sHead]
  unfold headB
  rw [decide_eq_true h1, decide_eq_true h8, decide_eq_true (by omega : (p.2.2.length : Int) ≤ 20), decide_eq_true hs.1, decide_eq_true (by omega : ((p.2.1.length : Int) = 32))]
  simp only [Bool.and_self, Bool.true_and, Bool.and_true]
  congr 2
  rw [Bool.eq_iff_iff, decide_eq_true_eq, decide_eq_true_eq]
  omega
end Go.Proofs.YtaajcllchbnjiaaGreatE

namespace Go.Proofs.YtaajcllchbnjiaaGreatE
open Go
set_option linter.unusedVariables false
theorem or128 : ∀ a : Nat, a < 256 → intBits .or .u8 ((a : Nat) : Int) 128 = ((a % 128 + 128 : Nat) : Int) := by decide +kernel
theorem iput : ∀ (f u : Nat) (acc : List Int) (j : Nat), u < 128 ^ f → u < 18446744073709551616 → acc.length + f ≤ 100 → 0 < f → f < j + 1 → ∃ p : Int × List Int, impl_putNum.l1 j (u : Int) acc = some p ∧ p.2.length ≤ 100 ∧ p.2 ++ [IntKind.wrap .u8 p.1] = acc ++ groups f u
  | 0, _, _, _, _, _, _, h, _ => absurd h (by omega)
  | f + 1, u, acc, 0, hu, hb, hl, _, hj => by omega
  | f + 1, u, acc, j + 1, hu, hb, hl, _, hj => by
    unfold impl_putNum.l1
    by_cases h : 128 ≤ u
    · have hf : 0 < f := by
        rcases Nat.eq_zero_or_pos f with rfl | h'
        · simp at hu; omega
        · exact h'
      obtain ⟨p, e, e1, e2⟩ := iput f (u / 128) (acc ++ [((u % 128 + 128 : Nat) : Int)]) j (by rw [Nat.pow_succ] at hu; exact Nat.div_lt_of_lt_mul (by rw [Nat.mul_comm]; exact hu)) (by omega) (by simp; omega) hf (by omega)
      refine ⟨p, ?_, e1, ?_⟩
      · have e3 : intBits .or .u8 (IntKind.wrap .u8 (u : Int)) 128 = ((u % 128 + 128 : Nat) : Int) := by
          rw [u8w, show (u : Int) % 256 = ((u % 256 : Nat) : Int) by omega, or128 _ (by omega)]
          congr 1
          omega
        have e4 : shr .u64 (u : Int) 7 = ((u / 128 : Nat) : Int) := shr_nat .u64 u 7 (by decide)
        rw [decide_eq_true (by omega : (127 : Int) < (u : Int)), e3, e4]
        simp only [cond_true]
        rw [app_ok (by simp; omega), nneg_some (by omega)]
        exact e
      · rw [e2, List.append_assoc]
        simp [groups, h]
    · refine ⟨((u : Int), acc), ?_, by show acc.length ≤ 100; omega, ?_⟩
      · rw [decide_eq_false (by omega : ¬ ((127 : Int) < (u : Int)))]
        rfl
      · show acc ++ [IntKind.wrap .u8 (u : Int)] = _
        rw [u8w, show ((u : Int) % 256) = (u : Int) by omega]
        simp [groups, h]
theorem not64 (a : Nat) (h : a < 18446744073709551616) : intBits .xor .u64 (IntKind.max .u64) (a : Int) = ((18446744073709551615 - a : Nat) : Int) := by
  show IntKind.wrap .u64 (((BitVec.ofInt 64 ((18446744073709551615 : Nat) : Int)) ^^^ (BitVec.ofInt 64 (a : Int))).toNat : Int) = _
  have e : (BitVec.ofNat 64 18446744073709551615) = BitVec.allOnes 64 := by decide
  rw [BitVec.ofInt_natCast, BitVec.ofInt_natCast, e, BitVec.allOnes_xor, BitVec.toNat_not, BitVec.toNat_ofNat, u64w, Nat.mod_eq_of_lt (show a < 2 ^ 64 by omega)]
  omega
theorem iPutNum (n : Int) (h : Num n) : Ever fun k => impl_putNum k n = some (putOf n) := by
  refine Ever.ge 10 fun k hk => ?_
  have hz := zig_lt h
  obtain ⟨p, e, e1, e2⟩ := iput 10 (zig n) [] k (by omega) hz (by simp) (by omega) (by omega)
  have hs : impl_putNum.j0 n (shl .u64 (IntKind.wrap .u64 n) 1) = some ((zig n : Nat) : Int) := by
    unfold Num at h
    have e0 : shl .u64 (IntKind.wrap .u64 n) 1 = (2 * n) % 18446744073709551616 := by
      have : shl .u64 (IntKind.wrap .u64 n) 1 = IntKind.wrap .u64 (IntKind.wrap .u64 n * 2) := rfl
      rw [this, u64w, u64w]
      omega
    unfold impl_putNum.j0
    rw [e0]
    by_cases hn : n < 0
    · rw [decide_eq_true hn, show (2 * n) % 18446744073709551616 = ((18446744073709551616 + 2 * n).toNat : Int) by omega, cond_true, not64 _ (by omega)]
      congr 1
      unfold zig
      rw [if_pos hn]
      omega
    · rw [decide_eq_false hn, cond_false]
      congr 1
      unfold zig
      rw [if_neg hn]
      omega
  unfold impl_putNum
  rw [nneg_some (by omega), hs]
  simp only [Option.bind_some]
  rw [e]
  simp only [Option.bind_some]
  rw [app_ok (by simp; omega), e2]
  rfl
/-- Several numbers' encodings. -/
def putsOf : List Int → Str
  | [] => []
  | n :: l => putOf n ++ putsOf l
theorem putsOf_len : ∀ l : List Int, (putsOf l).length ≤ 10 * l.length
  | [] => Nat.zero_le _
  | n :: l => by
    have := putOf_len n
    have := putsOf_len l
    simp only [putsOf, List.length_append, List.length_cons]
    omega
theorem iPutNums (l : List Int) (hw : ∀ n ∈ l, Num n) (hl : l.length ≤ 1000000) : Ever fun k => impl_putNums k l = some (putsOf l) := by
  have hp : Ever fun k => ∀ i, i < l.length → ∀ n, l[i]? = some n → impl_putNum k n = some (putOf n) := Ever.all fun i hi => (iPutNum l[i] (hw _ (List.getElem_mem hi))).mono fun k h n hn => by
    rw [List.getElem?_eq_getElem hi] at hn
    cases hn
    exact h
  have key : ∀ (d i : Nat) (acc : Str), l.length - i = d → i ≤ l.length → acc.length ≤ 10 * i → Ever fun k => ∀ j, d < j → impl_putNums.l0 k j acc l (l.length : Int) (i : Int) = some (acc ++ putsOf (l.drop i)) := by
    intro d
    induction d with
    | zero =>
      intro i acc hd hi ha
      refine Ever.of fun k j hj => ?_
      obtain ⟨j, rfl⟩ : ∃ m, j = m + 1 := ⟨j - 1, by omega⟩
      unfold impl_putNums.l0
      rw [decide_eq_false (by omega : ¬ ((i : Int) < (l.length : Int))), List.drop_eq_nil_of_le (by omega)]
      simp only [cond_false, putsOf, List.append_nil]
    | succ d ih =>
      intro i acc hd hi ha
      have hlt : i < l.length := by omega
      have := putOf_len l[i]
      refine (hp.and (ih (i + 1) (acc ++ putOf l[i]) (by omega) (by omega) (by rw [List.length_append]; omega))).mono fun k ⟨h1, h2⟩ j hj => ?_
      obtain ⟨j, rfl⟩ : ∃ m, j = m + 1 := ⟨j - 1, by omega⟩
      unfold impl_putNums.l0
      rw [decide_eq_true (by omega : (i : Int) < (l.length : Int)), at_nat hlt]
      simp only [cond_true, Option.bind_some]
      rw [h1 i hlt _ (List.getElem?_eq_getElem hlt)]
      simp only [Option.bind_some]
      rw [cat_some (by omega)]
      simp only [Option.bind_some]
      rw [wsuc (by omega), h2 j (by omega), List.drop_eq_getElem_cons hlt, putsOf, List.append_assoc]
  obtain ⟨K, h⟩ := key l.length 0 [] (by omega) (by omega) (by simp)
  refine Ever.ge (K + l.length + 1) fun k hk => ?_
  have h := h k (by omega) k (by omega)
  have h : impl_putNums.l0 k k [] l (l.length : Int) 0 = some (putsOf l) := h
  unfold impl_putNums
  rw [h]
  rfl
end Go.Proofs.YtaajcllchbnjiaaGreatE

namespace Go.Proofs.YtaajcllchbnjiaaGreatE
open Go
set_option linter.unusedVariables false
theorem iPutText (s : Str) (h : s.length ≤ 1000000) : Ever fun k => impl_putText k s = some (putTextOf s) := by
  refine (iPutNum (s.length : Int) (by constructor <;> omega)).mono fun k e => ?_
  have := putOf_len (s.length : Int)
  unfold impl_putText putTextOf
  rw [e]
  simp only [Option.bind_some]
  rw [cat_some (by omega)]
  rfl
theorem cat_loop {α : Type} (L : Nat → Nat → Str → Int → Option Str) (l : List α) (f : α → Str) (B M : Nat) (hB : ∀ x ∈ l, (f x).length ≤ B)
    (hs : ∀ i, (h : i < l.length) → Ever fun k => ∀ acc j, acc.length ≤ M → L k (j + 1) acc (i : Int) = L k j (acc ++ f l[i]) ((i + 1 : Nat) : Int))
    (he : ∀ k acc j, L k (j + 1) acc (l.length : Int) = some acc) (acc : Str) (ha : acc.length + B * l.length ≤ M) : Ever fun k => L k k acc 0 = some (acc ++ (l.map f).flatten) := by
  have hall : Ever fun k => ∀ i, i < l.length → ∀ (h : i < l.length) acc j, acc.length ≤ M → L k (j + 1) acc (i : Int) = L k j (acc ++ f l[i]) ((i + 1 : Nat) : Int) := Ever.all fun i hi => (hs i hi).mono fun k hk h => hk
  obtain ⟨K, hK⟩ := hall
  refine Ever.ge (K + l.length + 1) fun k hk => ?_
  have hK := hK k (by omega)
  have key : ∀ (d i : Nat) (acc : Str), i + d = l.length → acc.length + B * d ≤ M → ∀ j, d < j → L k j acc (i : Int) = some (acc ++ ((l.drop i).map f).flatten) := by
    intro d
    induction d with
    | zero =>
      intro i acc hi hacc j hj
      obtain ⟨j, rfl⟩ : ∃ q, j = q + 1 := ⟨j - 1, by omega⟩
      obtain rfl : i = l.length := by omega
      rw [he, List.drop_length]
      simp
    | succ d ih =>
      intro i acc hi hacc j hj
      obtain ⟨j, rfl⟩ : ∃ q, j = q + 1 := ⟨j - 1, by omega⟩
      have h : i < l.length := by omega
      have hf := hB _ (List.getElem_mem h)
      rw [Nat.mul_succ] at hacc
      rw [hK i h h acc j (by omega), ih (i + 1) _ (by omega) (by rw [List.length_append]; omega) j (by omega), List.drop_eq_getElem_cons h, List.map_cons, List.flatten_cons, List.append_assoc]
  have := key l.length 0 acc (Nat.zero_add _) ha k (by omega)
  rwa [List.drop_zero] at this
/-- A step's bytes, and its element in a stream. -/
def stepX (x : StepT) : Str := putOf x.1 ++ putOf x.2.1 ++ putOf x.2.2.1 ++ putTextOf x.2.2.2
def elX (x : StepT) : Str := putTextOf (sealOf (stepX x))
def NumS (x : StepT) : Prop := Num x.1 ∧ Num x.2.1 ∧ Num x.2.2.1
theorem stepX_len (x : StepT) (h : x.2.2.2.length ≤ 8) : (stepX x).length ≤ 48 := by
  have l1 := putOf_len x.1
  have l2 := putOf_len x.2.1
  have l3 := putOf_len x.2.2.1
  have l4 := putTextOf_len x.2.2.2
  unfold stepX
  simp only [List.length_append]
  omega
theorem elX_len (x : StepT) (h : x.2.2.2.length ≤ 8) : (elX x).length ≤ 62 := by
  have l1 := stepX_len x h
  have l2 := putTextOf_len (sealOf (stepX x))
  rw [sealOf_len] at l2
  unfold elX
  omega
theorem s06 (x : StepT) (hn : NumS x) (h : x.2.2.2.length ≤ 8) : Ever fun k => spec_l06Bytes k x = some (stepX x) := by
  have l1 := putOf_len x.1
  have l2 := putOf_len x.2.1
  have l3 := putOf_len x.2.2.1
  have l4 := putTextOf_len x.2.2.2
  refine (puts4 x.1 x.2.1 x.2.2.1 x.2.2.2 hn.1 hn.2.1 hn.2.2 (by omega)).mono fun k ⟨h1, h2, h3, h4⟩ => ?_
  unfold spec_l06Bytes stepX
  rw [h1, h2]
  simp only [Option.bind_some]
  rw [cat_some (by omega), h3]
  simp only [Option.bind_some]
  rw [cat_some (by simp; omega), h4]
  simp only [Option.bind_some]
  rw [cat_some (by simp; omega)]
  rfl
theorem puts3 (x y z : Int) : putsOf [x, y, z] = putOf x ++ putOf y ++ putOf z := by simp [putsOf]
theorem iStepX (x : StepT) (hn : NumS x) (h : x.2.2.2.length ≤ 8) : Ever fun k => impl_stepBytes k x = some (stepX x) := by
  have l1 := putOf_len x.1
  have l2 := putOf_len x.2.1
  have l3 := putOf_len x.2.2.1
  have l4 := putTextOf_len x.2.2.2
  refine ((iPutNums [x.1, x.2.1, x.2.2.1] (by
    intro n hm
    simp only [List.mem_cons, List.not_mem_nil, or_false] at hm
    rcases hm with rfl | rfl | rfl
    · exact hn.1
    · exact hn.2.1
    · exact hn.2.2) (by simp)).and (iPutText x.2.2.2 (by omega))).mono fun k ⟨h1, h2⟩ => ?_
  unfold impl_stepBytes stepX
  rw [h1, h2, puts3]
  simp only [Option.bind_some]
  rw [cat_some (by simp; omega)]
  rfl
theorem iHeadX (x y z : Int) (t : Str) (hx : Num x) (hy : Num y) (hz : Num z) (ht : t.length ≤ 8000) : Ever fun k => impl_headBytes k (x, (y, (z, t))) = some (sealOf (putOf x ++ putOf y ++ putOf z ++ putTextOf t)) := by
  have l1 := putOf_len x
  have l2 := putOf_len y
  have l3 := putOf_len z
  have l4 := putTextOf_len t
  refine (((iPutNums [x, y, z] (by
    intro n hm
    simp only [List.mem_cons, List.not_mem_nil, or_false] at hm
    rcases hm with rfl | rfl | rfl
    · exact hx
    · exact hy
    · exact hz) (by simp)).and (iPutText t (by omega))).and (iSeal (putOf x ++ putOf y ++ putOf z ++ putTextOf t) (by simp; omega))).mono fun k ⟨⟨h1, h2⟩, h3⟩ => ?_
  unfold impl_headBytes
  rw [h1, h2, puts3]
  simp only [Option.bind_some]
  rw [cat_some (by simp; omega)]
  simp only [Option.bind_some]
  rw [h3]
  rfl
def headX (p : PkgT) : Str := putTextOf (sealOf (putOf p.1 ++ putOf (p.2.2.length : Int) ++ putOf (slotsM (planM p.2.2)) ++ putTextOf p.2.1))
def streamM (p : PkgT) : Str := if agentB p = true then headX p ++ (p.2.2.map elX).flatten else []
theorem sStreamLoop (p : PkgT) (hl : p.2.2.length ≤ 20) (hx : ∀ x ∈ p.2.2, NumS x ∧ x.2.2.2.length ≤ 8) (acc : Str) (ha : acc.length ≤ 1000) : Ever fun k => spec_StreamOf.l0 k k p.1 p.2.1 p.2.2 acc 0 = some (acc ++ (p.2.2.map elX).flatten) := by
  refine cat_loop (fun k j acc i => spec_StreamOf.l0 k j p.1 p.2.1 p.2.2 acc i) p.2.2 elX 62 10000 (fun x h => elX_len x (hx x h).2) (fun i h => ?_) (fun k acc j => ?_) acc (by omega)
  · obtain ⟨q1, q2⟩ := hx _ (List.getElem_mem h)
    have l1 := stepX_len _ q2
    have l2 := elX_len _ q2
    refine (((s06 _ q1 q2).and (sSeal (stepX p.2.2[i]) (by omega))).and (sPutText (sealOf (stepX p.2.2[i])) (by rw [sealOf_len]; omega))).mono fun k ⟨⟨h1, h2⟩, h3⟩ acc j ha => ?_
    show spec_StreamOf.l0 k (j + 1) p.1 p.2.1 p.2.2 acc (i : Int) = spec_StreamOf.l0 k j p.1 p.2.1 p.2.2 (acc ++ elX p.2.2[i]) ((i + 1 : Nat) : Int)
    rw [spec_StreamOf.l0, dlt h, at_nat h, wsuc (by omega)]
    simp only [cond_true, Option.bind_some]
    rw [h1]
    simp only [Option.bind_some]
    rw [h2]
    simp only [Option.bind_some]
    rw [h3]
    simp only [Option.bind_some]
    unfold elX at l2
    rw [cat_some (by omega)]
    rfl
  · show spec_StreamOf.l0 k (j + 1) p.1 p.2.1 p.2.2 acc (p.2.2.length : Int) = some acc
    unfold spec_StreamOf.l0
    rw [dnlt (Nat.le_refl _)]
    rfl
theorem iStreamLoop (p : PkgT) (hl : p.2.2.length ≤ 20) (hx : ∀ x ∈ p.2.2, NumS x ∧ x.2.2.2.length ≤ 8) (acc : Str) (ha : acc.length ≤ 1000) : Ever fun k => impl_StreamOf.l0 k k acc p.2.2 (p.2.2.length : Int) 0 = some (acc ++ (p.2.2.map elX).flatten) := by
  refine cat_loop (fun k j acc i => impl_StreamOf.l0 k j acc p.2.2 (p.2.2.length : Int) i) p.2.2 elX 62 10000 (fun x h => elX_len x (hx x h).2) (fun i h => ?_) (fun k acc j => ?_) acc (by omega)
  · obtain ⟨q1, q2⟩ := hx _ (List.getElem_mem h)
    have l1 := stepX_len _ q2
    have l2 := elX_len _ q2
    refine (((iStepX _ q1 q2).and (iSeal (stepX p.2.2[i]) (by omega))).and (iPutText (sealOf (stepX p.2.2[i])) (by rw [sealOf_len]; omega))).mono fun k ⟨⟨h1, h2⟩, h3⟩ acc j ha => ?_
    show impl_StreamOf.l0 k (j + 1) acc p.2.2 (p.2.2.length : Int) (i : Int) = impl_StreamOf.l0 k j (acc ++ elX p.2.2[i]) p.2.2 (p.2.2.length : Int) ((i + 1 : Nat) : Int)
    rw [impl_StreamOf.l0, dlt h, at_nat h, wsuc (by omega)]
    simp only [cond_true, Option.bind_some]
    rw [h1]
    simp only [Option.bind_some]
    rw [h2]
    simp only [Option.bind_some]
    rw [h3]
    simp only [Option.bind_some]
    unfold elX at l2
    rw [cat_some (by omega)]
    rfl
  · show impl_StreamOf.l0 k (j + 1) acc p.2.2 (p.2.2.length : Int) (p.2.2.length : Int) = some acc
    unfold impl_StreamOf.l0
    rw [dnlt (Nat.le_refl _)]
    rfl
theorem pack_steps {p : PkgT} (h : packB p = true) (hn : ∀ x ∈ p.2.2, NumS x) : ∀ x ∈ p.2.2, NumS x ∧ x.2.2.2.length ≤ 8 := by
  intro x hx
  have h3 := (codeM_ok (packB_ok h).1).2.2.2.1 x hx
  exact ⟨hn x hx, stepB_data h3⟩
theorem headX_len {p : PkgT} (h : packB p = true) : (headX p).length ≤ 100 := by
  have l1 := putOf_len p.1
  have l2 := putOf_len (p.2.2.length : Int)
  have l3 := putOf_len (slotsM (planM p.2.2))
  have l4 := putTextOf_len p.2.1
  have h32 := (packB_ok h).2
  unfold headX
  refine Nat.le_trans (putTextOf_len _) ?_
  rw [sealOf_len]
  simp only [List.length_append]
  omega
theorem sStreamOf (p : PkgT) (hl : p.2.2.length ≤ 1048576) (hn : ∀ x ∈ p.2.2, NumS x) : Ever fun k => spec_StreamOf k p = some (streamM p) := by
  unfold streamM agentB
  cases hp : packB p with
  | false =>
    refine (sPackage p hl).mono fun k h => ?_
    unfold spec_StreamOf
    rw [h, hp]
    rfl
  | true =>
    cases ha : (decide (0 < p.2.2.length) && decide (slotsM (planM p.2.2) ≤ 4)) with
    | false =>
      refine ((sPackage p hl).and (sHeadOf p hp)).mono fun k ⟨h, h2⟩ => ?_
      unfold spec_StreamOf
      rw [h, hp, h2]
      simp only [Option.bind_some, Bool.not_true, cond_false]
      rw [headP_right p hp, ha]
      rfl
    | true =>
      obtain ⟨hc, h32⟩ := packB_ok hp
      obtain ⟨h20, h1, h8, _⟩ := codeM_ok hc
      have hs := slots_le (planM p.2.2)
      have hpl := planM_len _ h20 (codeM_to hc)
      have hb := sHeadBytes p.1 (p.2.2.length : Int) (slotsM (planM p.2.2)) p.2.1 (by constructor <;> omega) (by constructor <;> omega) (by constructor <;> omega) (by omega)
      have hr := headP_right p hp
      rw [ha] at hr
      have hr2 := hr
      unfold headP at hr2
      rw [sHead] at hr2
      rw [if_pos (Option.some.inj hr2)] at hb
      have hlen : (sealOf (putOf p.1 ++ putOf (p.2.2.length : Int) ++ putOf (slotsM (planM p.2.2)) ++ putTextOf p.2.1)).length ≤ 8000 := by
        have := headX_len hp
        unfold headX putTextOf at this
        rw [List.length_append] at this
        unfold putTextOf
        omega
      refine ((((((sPackage p hl).and (sHeadOf p hp)).and hb).and (sPutText _ hlen))).and (sStreamLoop p h20 (pack_steps hp hn) (headX p) (Nat.le_trans (headX_len hp) (by omega)))).mono fun k ⟨⟨⟨⟨h, h2⟩, h3⟩, h4⟩, h5⟩ => ?_
      unfold spec_StreamOf
      rw [h, hp, h2]
      simp only [Option.bind_some, Bool.not_true, cond_false]
      rw [hr]
      simp only [Option.bind_some, Bool.not_true, cond_false]
      unfold headP
      rw [h3]
      simp only [Option.bind_some]
      rw [h4]
      simp only [Option.bind_some]
      unfold headX at h5 ⊢
      rw [h5]
      rfl
theorem iStreamOf (p : PkgT) (hl : p.2.2.length ≤ 1048576) (hn : ∀ x ∈ p.2.2, NumS x) : Ever fun k => impl_StreamOf k p = some (streamM p) := by
  unfold streamM agentB
  cases hp : packB p with
  | false =>
    refine (iPackage p hl).mono fun k h => ?_
    unfold impl_StreamOf
    rw [h, hp]
    rfl
  | true =>
    obtain ⟨hc, h32⟩ := packB_ok hp
    obtain ⟨h20, h1, h8, _⟩ := codeM_ok hc
    have hs := slots_le (planM p.2.2)
    have hpl := planM_len _ h20 (codeM_to hc)
    have hlen : (sealOf (putOf p.1 ++ putOf (p.2.2.length : Int) ++ putOf (slotsM (planM p.2.2)) ++ putTextOf p.2.1)).length ≤ 8000 := by
      have := headX_len hp
      unfold headX putTextOf at this
      rw [List.length_append] at this
      unfold putTextOf
      omega
    refine ((((((iPackage p hl).and (iPlanOf p.2.2 h20 (codeM_to hc))).and (iHeadX p.1 (p.2.2.length : Int) (slotsM (planM p.2.2)) p.2.1 (by constructor <;> omega) (by constructor <;> omega) (by constructor <;> omega) (by omega))).and (iPutText _ (Nat.le_trans hlen (by omega)))).and (iStreamLoop p h20 (pack_steps hp hn) (headX p) (Nat.le_trans (headX_len hp) (by omega)))).and (Ever.ge 60 fun k hk => hk)).mono fun k ⟨⟨⟨⟨⟨h, h2⟩, h3⟩, h4⟩, h5⟩, h6⟩ => ?_
    unfold impl_StreamOf impl_size_impl_Step
    rw [h, hp]
    simp only [Option.bind_some, Bool.not_true, Bool.false_or]
    by_cases h0 : 0 < p.2.2.length
    · rw [show ((p.2.2.length : Int) == 0) = false by rw [beqd]; exact decide_eq_false (by omega), decide_eq_true h0, h2]
      simp only [cond_false, Option.bind_some]
      rw [iSlots _ (Nat.le_trans hpl (by omega)) k (by omega)]
      simp only [Option.bind_some]
      by_cases h4s : slotsM (planM p.2.2) ≤ 4
      · rw [decide_eq_false (by omega : ¬ (4 < slotsM (planM p.2.2))), decide_eq_true h4s, h3]
        simp only [cond_false, Option.bind_some]
        rw [h4]
        simp only [Option.bind_some]
        unfold headX at h5 ⊢
        rw [h5]
        rfl
      · rw [decide_eq_true (by omega : 4 < slotsM (planM p.2.2)), decide_eq_false h4s]
        rfl
    · rw [show ((p.2.2.length : Int) == 0) = true by rw [beqd]; exact decide_eq_true (by omega), decide_eq_false h0]
      rfl
end Go.Proofs.YtaajcllchbnjiaaGreatE
