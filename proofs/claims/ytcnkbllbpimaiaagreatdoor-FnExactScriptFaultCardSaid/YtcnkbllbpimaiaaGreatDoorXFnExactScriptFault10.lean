/- What the law FnExactScriptFault needs, part 11 of 11: the Lean functions of the Go functions that it reaches, with the proofs that the calls come to what they say, and plain facts about them; the last theorem is the law. Conditions: those that each theorem states. Written by a session and by its programs (after the kit's printer). -/
import Derived.Test.YtcnkbllbpimaiaaGreatDoorRows
import Derived.Test.YtcnkbllbpimaiaaGreatDoorCards
import Derived.Test.YtcnkbllbpimaiaaGreatDoorTie
import Derived.Carry
import Derived.Handed
import Derived.LaidMore
import Derived.OpenVars
import Derived.Lay
import Derived.OpenShut
import Derived.ProofKit
import Derived.SevenTiedAt
import Derived.MakeChecks
import Derived.Test.YtcnkbllbpimaiaaGreatDoorXFnExactScriptFault5
import Derived.Test.YtcnkbllbpimaiaaGreatDoorXFnExactScriptFault8
import Derived.Test.YtcnkbllbpimaiaaGreatDoorXFnExactScriptFault9
namespace Go.Proofs.YtcnkbllbpimaiaaGreatDoorE
open Go
set_option linter.unusedVariables false
/-- What a line is read as. -/
noncomputable def rdD (u : Str) : Option DeedT := if h : u.length ≤ 8000 then (if (bothRead u h).choose_spec.choose = 0 then some (bothRead u h).choose else none) else none
theorem rdD_run {u : Str} (h : u.length ≤ 8000) {k : Nat} (hk : 2000000 ≤ k) : (∃ d, rdD u = some d ∧ impl_deedRead k u = some (tupB d true) ∧ spec_DeedRead k u = some (tupD d 0) ∧ deedB d = true ∧ deedM d = u) ∨
    (rdD u = none ∧ (∃ d, impl_deedRead k u = some (tupB d false)) ∧ ∃ d c, spec_DeedRead k u = some (tupD d c) ∧ c ≠ 0) := by
  unfold rdD
  rw [dif_pos h]
  have s := (bothRead u h).choose_spec.choose_spec
  generalize (bothRead u h).choose_spec.choose = c at s ⊢
  generalize (bothRead u h).choose = d at s ⊢
  obtain ⟨s1, _, _, s2⟩ := s
  obtain ⟨r1, r3⟩ := s1 k hk
  by_cases q : c = 0
  · rw [if_pos q]
    subst q
    rcases s2 with ⟨_, h1, h2, _⟩ | ⟨h1, _⟩
    · exact .inl ⟨d, rfl, r1, r3, h1, h2⟩
    · cases h1
  · rw [if_neg q]
    rw [decide_eq_false q] at r1
    exact .inr ⟨rfl, ⟨d, r1⟩, d, c, r3, q⟩
/-- The deeds of lines, behind some deeds; or the line that is wrong. -/
noncomputable def scr : List Str → List DeedT → Int ⊕ List DeedT
  | [], l => .inr l
  | [u], l => if u = [] then .inr l else .inl ((l.length : Int) + 1)
  | u :: v :: r, l => match rdD u with
    | some d => if l.length < 60 then scr (v :: r) (l ++ [d]) else .inl ((l.length : Int) + 1)
    | none => .inl ((l.length : Int) + 1)
theorem has_or {c : UInt8} (s : Str) : c ∉ s ∨ ∃ w r, s = w ++ c :: r ∧ c ∉ w := by
  induction s with
  | nil => left; simp
  | cons x s ih =>
    by_cases h : x = c
    · right
      exact ⟨[], s, by rw [h]; rfl, by simp⟩
    · rcases ih with q | ⟨w, r, e, q⟩
      · left
        intro m
        rcases List.mem_cons.1 m with m | m
        · exact h m.symm
        · exact q m
      · right
        refine ⟨x :: w, r, by rw [e]; rfl, fun m => ?_⟩
        rcases List.mem_cons.1 m with m | m
        · exact h m.symm
        · exact q m
def outI : Int ⊕ List DeedT → List DeedT ⊕ (Int × Bool × List Str × List DeedT)
  | .inr l => .inl l
  | .inl n => .inr (n, false, [], [])
theorem iScr {k : Nat} (hk : 2000000 ≤ k) : ∀ (n : Nat) (t : Str) (l : List DeedT) (j : Nat), t.length ≤ n → t.length ≤ 8000 → l.length ≤ 60 → n < j → impl_scriptRead.l0 k j t l = some (outI (scr (splitM 10 t) l)) := by
  intro n
  induction n with
  | zero =>
    intro t l j ht _ hl hj
    obtain ⟨j, rfl⟩ : ∃ q, j = q + 1 := ⟨j - 1, by omega⟩
    have : t = [] := List.eq_nil_of_length_eq_zero (by omega)
    subst this
    rw [impl_scriptRead.l0]
    show some (.inl l) = some (outI (scr [[]] l))
    rw [scr, if_pos rfl]
    rfl
  | succ n ih =>
    intro t l j ht ht8 hl hj
    obtain ⟨j, rfl⟩ : ∃ q, j = q + 1 := ⟨j - 1, by omega⟩
    by_cases e : t = []
    · subst e
      rw [impl_scriptRead.l0]
      show some (.inl l) = some (outI (scr [[]] l))
      rw [scr, if_pos rfl]
      rfl
    rw [impl_scriptRead.l0, beqL, decide_eq_false e]
    have hcut : strings_Cut t ([10] : Str) = some (Lib.cut t [10]) := by
      unfold strings_Cut
      rw [if_pos (by omega)]
    rw [hcut]
    simp only [Bool.not_false, cond_true, Option.bind_some]
    have hsz : impl_size_impl_Deed l = some (l.length : Int) := rfl
    rcases has_or (c := 10) t with q | ⟨w, r, e2, q⟩
    · rw [cut_miss q, splitM_free q]
      dsimp only
      have hfin : some (outI (scr [t] l)) = some (.inr ((l.length : Int) + 1, false, [], [])) := by
        rw [scr, if_neg e]
        rfl
      rw [hfin]
      rcases rdD_run (u := t) (by omega) hk with ⟨d, _, h2, _⟩ | ⟨_, ⟨d, h2⟩, _⟩ <;> rw [h2] <;> simp only [Option.bind_some, Bool.not_false, Bool.true_or, cond_true] <;> rw [hsz] <;> simp only [Option.bind_some] <;> rw [wsuc (by omega)] <;> rfl
    · subst e2
      have hlen : (w ++ 10 :: r).length = w.length + r.length + 1 := by simp; omega
      rw [cut_hit q, splitM_app r q]
      dsimp only
      obtain ⟨v, r', e3⟩ : ∃ v r', splitM 10 r = v :: r' := by
        cases e4 : splitM 10 r with
        | nil => exact absurd e4 (splitM_ne 10 r)
        | cons v r' => exact ⟨v, r', rfl⟩
      rw [e3, scr]
      have hbad : some (outI (.inl ((l.length : Int) + 1))) = some (.inr ((l.length : Int) + 1, false, [], [])) := rfl
      rcases rdD_run (u := w) (by omega) hk with ⟨d, h1, h2, _⟩ | ⟨h1, ⟨d, h2⟩, _⟩
      · rw [h1, h2]
        dsimp only
        by_cases c : l.length < 60
        · rw [if_pos c, ← e3, ← ih r (l ++ [d]) j (by omega) (by omega) (by simp; omega) (by omega)]
          simp only [Option.bind_some, tupB]
          rw [show ((l.length : Int) == 60) = false by rw [beqd]; exact decide_eq_false (by omega), app_ok (by simp; omega)]
          rfl
        · rw [if_neg c, hbad]
          simp only [Option.bind_some, tupB]
          rw [show ((l.length : Int) == 60) = true by rw [beqd]; exact decide_eq_true (by omega), hsz]
          simp only [Option.bind_some]
          rw [wsuc (by omega)]
          rfl
      · rw [h1, h2]
        dsimp only
        rw [hbad]
        simp only [Option.bind_some, tupB]
        rw [hsz]
        simp only [Option.bind_some]
        rw [wsuc (by omega)]
        rfl
def outS : Int ⊕ List DeedT → (Str × Int × Int × List DeedT) ⊕ (Str × Int × Int × List Str × List DeedT)
  | .inr l => .inl ([], 0, 0, l)
  | .inl n => .inr ([], n, 3, [], [])
theorem sScr {k : Nat} (hk : 2000000 ≤ k) (ls : List Str) (hls : ∀ u ∈ ls, u.length ≤ 8000) (hn : ls.length ≤ 10000) : ∀ (d : Nat) (l : List DeedT) (j : Nat), l.length + 1 + d = ls.length → l.length ≤ 60 → d < j →
    spec_l17Read.l0 k j ((l.length : Int) + 1) [] 0 0 ls l = some (outS (scr (ls.drop (l.length + 1)) l)) := by
  intro d
  induction d with
  | zero =>
    intro l j hd hl hj
    obtain ⟨j, rfl⟩ : ∃ q, j = q + 1 := ⟨j - 1, by omega⟩
    rw [spec_l17Read.l0, decide_eq_false (by omega : ¬ (l.length : Int) + 1 < (ls.length : Int)), List.drop_eq_nil_of_le (by omega)]
    rfl
  | succ d ih =>
    intro l j hd hl hj
    obtain ⟨j, rfl⟩ : ∃ q, j = q + 1 := ⟨j - 1, by omega⟩
    have hi : l.length + 1 < ls.length := by omega
    have hat : at? ls ((l.length : Int) + 1) = some ls[l.length + 1] := at_nat (l := ls) (i := l.length + 1) hi
    have hmem := hls _ (List.getElem_mem hi)
    rw [spec_l17Read.l0, decide_eq_true (by omega : (l.length : Int) + 1 < (ls.length : Int)), hat, List.drop_eq_getElem_cons hi, w64 (n := (ls.length : Int) - 1) (by omega) (by omega), w64 (n := (l.length : Int) + 1 + 1) (by omega) (by omega)]
    generalize ls[l.length + 1] = u at hmem ⊢
    simp only [cond_true, Option.bind_some]
    by_cases last : d = 0
    · rw [show ((l.length : Int) + 1 == (ls.length : Int) - 1) = true by rw [beqd]; exact decide_eq_true (by omega), List.drop_eq_nil_of_le (by omega), scr, beqL]
      simp only [cond_true]
      by_cases e : u = []
      · rw [decide_eq_true e, if_pos e]
        rfl
      · rw [decide_eq_false e, if_neg e]
        simp only [cond_false]
        rcases rdD_run hmem hk with ⟨d, _, _, h3, _⟩ | ⟨_, _, d, c, h3, _⟩ <;> rw [h3] <;> simp only [Option.bind_some, Bool.true_or, cond_true] <;> rfl
    · obtain ⟨v, r, e3⟩ : ∃ v r, ls.drop (l.length + 1 + 1) = v :: r := by
        cases e4 : ls.drop (l.length + 1 + 1) with
        | nil =>
          have := congrArg List.length e4
          rw [List.length_drop] at this
          simp at this
          omega
        | cons v r => exact ⟨v, r, rfl⟩
      rw [show ((l.length : Int) + 1 == (ls.length : Int) - 1) = false by rw [beqd]; exact decide_eq_false (by omega), e3, scr]
      simp only [cond_false, Bool.false_or]
      rcases rdD_run hmem hk with ⟨d', h1, _, h3, _⟩ | ⟨h1, _, d', c, h3, h4⟩
      · rw [h1, h3]
        simp only [Option.bind_some, tupD]
        rw [show ((0 : Int) != 0) = false from rfl]
        by_cases c : l.length < 60
        · rw [if_pos c, decide_eq_false (by omega : ¬ (60 : Int) ≤ (l.length : Int)), ← e3, app_ok (by simp; omega)]
          simp only [Bool.or_self, cond_false, Option.bind_some]
          have hl1 : (l ++ [d']).length = l.length + 1 := by simp
          have := ih (l ++ [d']) j (by rw [hl1]; omega) (by rw [hl1]; omega) (by omega)
          rw [hl1] at this
          rw [show (l.length : Int) + 1 + 1 = ((l.length + 1 : Nat) : Int) + 1 by omega]
          exact this
        · rw [if_neg c, decide_eq_true (by omega : (60 : Int) ≤ (l.length : Int))]
          rfl
      · rw [h1, h3]
        simp only [Option.bind_some, tupD]
        rw [bneT h4]
        rfl
open ImRead in
theorem isL_ok {t : Str} (h : okI t = true) : (32 : UInt8) ∉ t ∧ t ≠ [] := by
  unfold okI at h
  obtain ⟨h1, _, h3⟩ := of_decide_eq_true h
  refine ⟨fun m => ?_, fun e => by rw [e] at h1; simp at h1⟩
  have := List.all_eq_true.1 h3 32 m
  exact absurd this (by decide)
def machW : Str := [109, 97, 99, 104, 105, 110, 101]
theorem prefix_iff (t : Str) : Lib.hasPrefix t (machW ++ [32]) = true ↔ ∃ s, t = machW ++ ([32] ++ s) := by
  unfold Lib.hasPrefix
  rw [List.isPrefixOf_iff_prefix]
  constructor
  · rintro ⟨s, e⟩
    exact ⟨s, by rw [← e, List.append_assoc]⟩
  · rintro ⟨s, e⟩
    exact ⟨s, by rw [e, List.append_assoc]⟩
open ImRead in
/-- The first line of a script: its letters, if it is one. -/
def headL (u : Str) : Option Str := if Lib.hasPrefix u (machW ++ [32]) = true ∧ okI (u.drop 8) = true then some (u.drop 8) else none
open ImRead in
theorem head_words (u : Str) : (∃ s, headL u = some s ∧ splitM 32 u = [machW, s] ∧ okI s = true) ∨ (headL u = none ∧ ∀ s, splitM 32 u = [machW, s] → okI s = false) := by
  unfold headL
  by_cases h : Lib.hasPrefix u (machW ++ [32]) = true ∧ okI (u.drop 8) = true
  · obtain ⟨h1, h2⟩ := h
    obtain ⟨s, e⟩ := (prefix_iff u).1 h1
    have hd : u.drop 8 = s := by rw [e]; rfl
    rw [hd] at h2 ⊢
    left
    refine ⟨s, by rw [if_pos ⟨h1, h2⟩], ?_, h2⟩
    rw [e, split2 (by decide), splitM_free (isL_ok h2).1]
  · right
    refine ⟨by rw [if_neg h], fun s hs => ?_⟩
    cases q : okI s with
    | false => rfl
    | true =>
      exfalso
      apply h
      have hu : u = machW ++ ([32] ++ s) := by
        rcases has_or (c := 32) u with n | ⟨w, r, e, n⟩
        · rw [splitM_free n] at hs
          cases hs
        · rw [e, splitM_app r n] at hs
          injection hs with h1 h2
          rcases has_or (c := 32) r with n2 | ⟨w2, r2, e2, n2⟩
          · rw [splitM_free n2] at h2
            injection h2 with h3
            rw [e, h1, h3]
            rfl
          · rw [e2, splitM_app r2 n2] at h2
            injection h2 with h3 h4
            exact absurd h4 (splitM_ne 32 r2)
      have hd : u.drop 8 = s := by rw [hu]; rfl
      exact ⟨(prefix_iff u).2 ⟨s, hu⟩, by rw [hd]; exact q⟩
/-- What a script is read as: its image's letters and its deeds, or the line that is wrong. -/
noncomputable def scrM (t : Str) : Int ⊕ (Str × List DeedT) := match splitM 10 t with
  | u :: v :: r => match headL u with
    | some s => match scr (v :: r) [] with
      | .inl n => .inl n
      | .inr l => .inr (s, l)
    | none => .inl 0
  | _ => .inl 0
theorem drop8 (u : Str) (h : Lib.hasPrefix u (machW ++ [32]) = true) : Lib.trimPrefix u (machW ++ [32]) = u.drop 8 := by
  unfold Lib.trimPrefix
  rw [if_pos h]
  rfl
open ImRead in
/-- Both sides read the same script. -/
theorem bothScr (t : Str) (ht : t.length ≤ 8000) : Ever fun k => (match scrM t with
    | .inl n => (∃ a b, impl_scriptRead k t = some (a, b, n, false)) ∧ ∃ a b, spec_l17Read k t = some (a, b, [], n, 3)
    | .inr (s, l) => impl_scriptRead k t = some (s.map blk, l, 0, true) ∧ spec_l17Read k t = some (s.map blk, l, [], 0, 0)) := by
  have hmem : ∀ u ∈ splitM 10 t, u.length ≤ 8000 := fun x hx => by have := (splitM_mem hx).2; omega
  have hlen := splitM_len 10 t
  obtain ⟨u, r, eu⟩ : ∃ u r, splitM 10 t = u :: r := by
    cases e4 : splitM 10 t with
    | nil => exact absurd e4 (splitM_ne 10 t)
    | cons v r' => exact ⟨v, r', rfl⟩
  have hu : u.length ≤ 8000 := hmem u (by rw [eu]; exact List.mem_cons_self)
  have hL := splitM_len 32 u
  -- what the program's first steps find
  have icut : strings_Cut t ([10] : Str) = some (u, (Lib.cut t [10]).2) ∧ (r = [] ↔ (Lib.cut t [10]).2.2 = false) ∧ (r ≠ [] → splitM 10 (Lib.cut t [10]).2.1 = r ∧ (Lib.cut t [10]).2.1.length ≤ t.length) := by
    have hc : strings_Cut t ([10] : Str) = some (Lib.cut t [10]) := by
      unfold strings_Cut
      rw [if_pos (by omega)]
    rcases has_or (c := 10) t with q | ⟨w, s, e2, q⟩
    · rw [splitM_free q] at eu
      injection eu with e1 e2
      subst e1 e2
      rw [hc, cut_miss q]
      exact ⟨rfl, ⟨fun _ => rfl, fun _ => rfl⟩, fun h => absurd rfl h⟩
    · rw [e2, splitM_app s q] at eu
      injection eu with e3 e4
      have hr : r ≠ [] := fun z => splitM_ne 10 s (e4.trans z)
      rw [hc, e2, cut_hit q, e3]
      exact ⟨rfl, ⟨fun z => absurd z hr, fun z => by cases z⟩, fun _ => ⟨e4, by simp; omega⟩⟩
  obtain ⟨i1, i2, i3⟩ := icut
  generalize (Lib.cut t [10]).2 = rest at i1 i2 i3
  have ipre : strings_CutPrefix u ([109, 97, 99, 104, 105, 110, 101, 32] : Str) = some (Lib.trimPrefix u (machW ++ [32]), Lib.hasPrefix u (machW ++ [32])) := rfl
  refine (((imgE (Lib.trimPrefix u (machW ++ [32]))).and (Ever.all (n := (splitM 32 u).length) (p := fun i k => ∀ x, (splitM 32 u)[i]? = some x → spec_ImageRead k x = some (found x)) fun i hi => (specE (splitM 32 u)[i]).mono fun k hk x hx => by
    rw [List.getElem?_eq_getElem hi] at hx
    cases hx
    exact hk)).and (Ever.ge 2000000 fun k hk => hk)).mono fun k ⟨⟨⟨limg, g1, g2⟩, g3⟩, hk⟩ => ?_
  have hsp : spec_l01Split k t 10 = some (u :: r) := by rw [← eu]; exact sSplit (c := 10) (by omega) (by omega)
  have hsu : spec_l01Split k u 32 = some (splitM 32 u) := sSplit (c := 32) (by omega) (by omega)
  have at0u : at? (u :: r) 0 = some u := at_nat (l := u :: r) (i := 0) (by simp)
  unfold scrM
  rw [eu]
  cases r with
  | nil =>
    have hend : rest.2 = false := i2.1 rfl
    refine ⟨⟨[], [], ?_⟩, [], [], ?_⟩
    · unfold impl_scriptRead
      rw [i1]
      simp only [Option.bind_some]
      rw [ipre]
      simp only [Option.bind_some]
      rw [g1, hend]
      rfl
    · unfold spec_l17Read
      rw [decide_eq_false (by omega : ¬ (8000 : Int) < (t.length : Int)), hsp]
      simp only [cond_false, Option.bind_some]
      rw [at0u]
      simp only [Option.bind_some]
      rw [hsu]
      simp only [Option.bind_some]
      rw [decide_eq_true (by simp : (([u] : List Str).length : Int) < 2)]
      rfl
  | cons v r =>
    have hend : rest.2 = true := by
      cases q : rest.2 with
      | true => rfl
      | false => exact absurd (i2.2 q) (by simp)
    obtain ⟨i4, i5⟩ := i3 (by simp)
    dsimp only
    rcases head_words u with ⟨s, h1, h2, h3⟩ | ⟨h1, h2⟩
    · rw [h1]
      dsimp only
      have hp : Lib.hasPrefix u (machW ++ [32]) = true ∧ u.drop 8 = s := by
        unfold headL at h1
        split at h1
        · rename_i q
          exact ⟨q.1, Option.some.inj h1⟩
        · cases h1
      rw [drop8 u hp.1, hp.2] at g1 ipre
      rw [drop8 u hp.1, hp.2] at g2
      have hs8 : s.length ≤ 8000 := by rw [← hp.2, List.length_drop]; omega
      have hsc := iScr hk rest.1.length rest.1 [] k (Nat.le_refl _) (by omega) (by simp) (by omega)
      rw [i4] at hsc
      have hss := sScr hk (u :: v :: r) (by rw [← eu]; exact hmem) (by rw [← eu]; omega) (v :: r).length [] k (by simp; omega) (by simp) (by rw [eu] at hlen; simp at hlen ⊢; omega)
      have hss : spec_l17Read.l0 k k 1 [] 0 0 (u :: v :: r) [] = some (outS (scr (v :: r) [])) := hss
      have himg : spec_ImageRead k s = some (s.map blk, 0) := by
        have := g3 1 (by rw [h2]; simp) s (by rw [h2]; rfl)
        rw [this, found_ok hs8, if_pos h3]
      have A : ∀ x, scr (v :: r) [] = x → impl_scriptRead k t = (match x with | .inl n => some ([], [], n, false) | .inr l => some (s.map blk, l, 0, true)) ∧ spec_l17Read k t = (match x with | .inl n => some ([], [], [], n, 3) | .inr l => some (s.map blk, l, [], 0, 0)) := by
        intro x hx
        rw [hx] at hsc hss
        constructor
        · unfold impl_scriptRead
          rw [i1]
          simp only [Option.bind_some]
          rw [ipre]
          simp only [Option.bind_some]
          rw [g1, hend, hp.1, h3]
          simp only [Option.bind_some, Bool.not_true, Bool.or_self, cond_false]
          rw [hsc, g2 h3]
          cases x <;> rfl
        · unfold spec_l17Read
          rw [decide_eq_false (by omega : ¬ (8000 : Int) < (t.length : Int)), hsp]
          simp only [cond_false, Option.bind_some]
          rw [at0u]
          simp only [Option.bind_some]
          rw [hsu, h2]
          simp only [Option.bind_some]
          rw [decide_eq_false (by simp; omega : ¬ ((u :: v :: r).length : Int) < 2), show ((([machW, s] : List Str).length : Int) != 2) = false from rfl]
          simp only [Bool.or_self, cond_false]
          rw [show at? [machW, s] 0 = some machW from at_nat (l := [machW, s]) (i := 0) (by simp), show at? [machW, s] 1 = some s from at_nat (l := [machW, s]) (i := 1) (by simp)]
          simp only [Option.bind_some]
          rw [show (machW == ([109, 97, 99, 104, 105, 110, 101] : Str)) = true from rfl, himg]
          simp only [Bool.not_true, cond_false, Option.bind_some]
          rw [show ((0 : Int) != 0) = false from rfl, hss]
          cases x <;> rfl
      cases hx : scr (v :: r) [] with
      | inl n =>
        obtain ⟨a1, a2⟩ := A _ hx
        exact ⟨⟨[], [], a1⟩, [], [], a2⟩
      | inr l => exact A _ hx
    · rw [h1]
      dsimp only
      refine ⟨⟨[], [], ?_⟩, [], [], ?_⟩
      · unfold impl_scriptRead
        rw [i1]
        simp only [Option.bind_some]
        rw [ipre]
        simp only [Option.bind_some]
        rw [g1, hend]
        have : (!Lib.hasPrefix u (machW ++ [32]) || !okI (Lib.trimPrefix u (machW ++ [32]))) = true := by
          cases q : Lib.hasPrefix u (machW ++ [32]) with
          | false => rfl
          | true =>
            rw [drop8 u q]
            unfold headL at h1
            rw [q] at h1
            cases z : okI (u.drop 8) with
            | false => rfl
            | true => rw [if_pos ⟨rfl, z⟩] at h1; cases h1
        simp only [Option.bind_some, Bool.not_true, Bool.false_or]
        rw [this]
        rfl
      · unfold spec_l17Read
        rw [decide_eq_false (by omega : ¬ (8000 : Int) < (t.length : Int)), hsp]
        simp only [cond_false, Option.bind_some]
        rw [at0u]
        simp only [Option.bind_some]
        rw [hsu]
        simp only [Option.bind_some]
        rw [decide_eq_false (by simp; omega : ¬ ((u :: v :: r).length : Int) < 2)]
        by_cases q : (splitM 32 u).length = 2
        · obtain ⟨a, b, e⟩ : ∃ a b, splitM 32 u = [a, b] := by
            match splitM 32 u, q with
            | [a, b], _ => exact ⟨a, b, rfl⟩
          have hb8 : b.length ≤ 8000 := by
            have := (splitM_mem (c := 32) (s := u) (w := b) (by rw [e]; simp)).2
            omega
          have gb := g3 1 (by rw [e]; simp) b (by rw [e]; rfl)
          rw [e, show ((([a, b] : List Str).length : Int) != 2) = false from rfl]
          simp only [Bool.or_self, cond_false]
          rw [show at? [a, b] 0 = some a from at_nat (l := [a, b]) (i := 0) (by simp), show at? [a, b] 1 = some b from at_nat (l := [a, b]) (i := 1) (by simp)]
          simp only [Option.bind_some]
          rw [beqL]
          by_cases z : a = ([109, 97, 99, 104, 105, 110, 101] : Str)
          · rw [decide_eq_true z, gb, found_ok hb8, if_neg (by rw [h2 b (by rw [e, z]; rfl)]; exact Bool.false_ne_true)]
            rfl
          · rw [decide_eq_false z]
            rfl
        · rw [bneT (by omega : ¬ ((splitM 32 u).length : Int) = 2)]
          rfl
end Go.Proofs.YtcnkbllbpimaiaaGreatDoorE

namespace Go.Proofs.YtcnkbllbpimaiaaGreatDoorE
open Go
def laws_FnExactScriptFault.Pure : Prop := ∀ (y0 : Str), Bnd .str y0 → ∃ k : Nat, laws_FnExactScriptFault k y0 = some true
end Go.Proofs.YtcnkbllbpimaiaaGreatDoorE

namespace Go.Proofs.YtcnkbllbpimaiaaGreatDoorE
open Go
set_option linter.unusedVariables false
theorem bothFault (t : Str) : Ever fun k => ∃ n c, impl_ScriptFault k t = some ([], n, c) ∧ spec_ScriptFault k t = some ([], n, c) := by
  by_cases h : t.length ≤ 8000
  · refine (bothScr t h).mono fun k hk => ?_
    unfold impl_ScriptFault spec_ScriptFault
    rw [decide_eq_false (by omega : ¬ (8000 : Int) < (t.length : Int))]
    split at hk
    · rename_i n _
      obtain ⟨⟨a, b, e1⟩, a', b', e2⟩ := hk
      rw [e1, e2]
      exact ⟨n, 3, rfl, rfl⟩
    · obtain ⟨e1, e2⟩ := hk
      rw [e1, e2]
      exact ⟨0, 0, rfl, rfl⟩
  · refine Ever.of fun k => ⟨0, 2, ?_, ?_⟩
    · unfold impl_ScriptFault
      rw [decide_eq_true (by omega : (8000 : Int) < (t.length : Int))]
      rfl
    · unfold spec_ScriptFault spec_l17Read
      rw [decide_eq_true (by omega : (8000 : Int) < (t.length : Int))]
      rfl
theorem laws_FnExactScriptFault.proved : laws_FnExactScriptFault.Pure := by
  intro t hd
  by_cases hl : 1048576 < t.length
  · refine ⟨0, ?_⟩
    unfold laws_FnExactScriptFault
    rw [decide_eq_true (by omega : (1048576 : Int) < (t.length : Int))]
    rfl
  · obtain ⟨k, n, c, e1, e2⟩ := (bothFault t).ex
    refine ⟨k, ?_⟩
    unfold laws_FnExactScriptFault laws_eqScriptOut
    rw [decide_eq_false (by omega : ¬ (1048576 : Int) < (t.length : Int)), e1, e2]
    simp only [cond_false, Option.bind_some, bne_self_eq_false, beq_self_eq_true, Bool.not_true]
end Go.Proofs.YtcnkbllbpimaiaaGreatDoorE

namespace Go.Proofs.YtcnkbllbpimaiaaGreatDoor.fnExactScriptFault
open Go Go.ChangeShapes Go.WideShapes Go.ChangeAt Go.RowKit Go.Proofs.YtcnkbllbpimaiaaGreatDoorE
set_option linter.unusedVariables false
theorem own : ownKnob Tryz.prog.godebug = none := by kernel_rfl
theorem laidOut : laidOutB Tryz.prog = true := by kernel_rfl
theorem go (k : Nat) (y0 : Str) : (laws_FnExactScriptFault.con k).f [argC false .str y0] = .opt (Prod' laws_FnExactScriptFault.sig.outs) (laws_FnExactScriptFault k y0) laws_FnExactScriptFault.sig.enc := by kernel_rfl
abbrev laidL : List (String × DataW Unit) := [("math/bits.deBruijn32tab", Rows.laid_math_bits_deBruijn32tab), ("math/bits.deBruijn64tab", Rows.laid_math_bits_deBruijn64tab), ("internal/strconv.uint64pow10", Rows.laid_internal_strconv_uint64pow10), ("unicode/utf8.acceptRanges", Rows.laid_unicode_utf8_acceptRanges), ("strconv.ErrRange", Rows.laid_strconv_ErrRange), ("strconv.ErrSyntax", Rows.laid_strconv_ErrSyntax), ("loop.example/g00668/impl.deedWords", Rows.laid_loop_example_g00668_impl_deedWords), ("loop.example/g00668/impl.stepWords", Rows.laid_loop_example_g00668_impl_stepWords), ("unicode/utf8.first", Rows.laid_unicode_utf8_first)]
theorem globals {W : World} (h : laidMetH Tryz.prog laidL W) (hs : W.ShapedOpen Tryz.prog) : GlW W := by
  rw [MakeChecks.laidMetH_plain _ _ _ (by kernel_rfl)] at h
  intro n r l e
  unfold GL at e
  split at e
  · cases e; exact laid_strs h (name := "loop.example/g00668/impl.stepWords") (ss := tab0) (List.mem_of_getElem? (i := 7) (by kernel_rfl)) (n := 6) (t := 207) (e := 9) (by kernel_rfl) (by kernel_rfl) (by kernel_rfl) (by kernel_rfl) (by kernel_rfl) (by kernel_rfl)
  · cases e; exact laid_strs h (name := "loop.example/g00668/impl.deedWords") (ss := tab1) (List.mem_of_getElem? (i := 6) (by kernel_rfl)) (n := 12) (t := 209) (e := 9) (by kernel_rfl) (by kernel_rfl) (by kernel_rfl) (by kernel_rfl) (by kernel_rfl) (by kernel_rfl)
  · cases e; exact shaped_int hs (zero := #[.int .i64 0]) (g := 3) (t := 3) (by decide +kernel) (by kernel_rfl) (by kernel_rfl) (by kernel_rfl) (by kernel_rfl) (by kernel_rfl)
  · cases e; exact laid_iface h (name := "strconv.ErrSyntax") (i := 5) (by kernel_rfl) (g := 5) (t := 202) (by kernel_rfl) (by kernel_rfl) (by kernel_rfl)
  · cases e; exact laid_iface h (name := "strconv.ErrRange") (i := 4) (by kernel_rfl) (g := 6) (t := 202) (by kernel_rfl) (by kernel_rfl) (by kernel_rfl)
  · cases e; exact laid_ints h (name := "internal/strconv.uint64pow10") (k := .u64) (zs := tab7) (List.mem_of_getElem? (i := 2) (by kernel_rfl)) (n := 20) (t := 342) (e := 261) (by kernel_rfl) (by kernel_rfl) (by kernel_rfl) (by kernel_rfl) (by kernel_rfl) (by kernel_rfl)
  · cases e; exact laid_ints h (name := "math/bits.deBruijn32tab") (k := .u8) (zs := tab10) (List.mem_of_getElem? (i := 0) (by kernel_rfl)) (n := 32) (t := 367) (e := 5) (by kernel_rfl) (by kernel_rfl) (by kernel_rfl) (by kernel_rfl) (by kernel_rfl) (by kernel_rfl)
  · cases e; exact laid_ints h (name := "math/bits.deBruijn64tab") (k := .u8) (zs := tab11) (List.mem_of_getElem? (i := 1) (by kernel_rfl)) (n := 64) (t := 368) (e := 5) (by kernel_rfl) (by kernel_rfl) (by kernel_rfl) (by kernel_rfl) (by kernel_rfl) (by kernel_rfl)
  · cases e
set_option maxRecDepth 100000 in
theorem lifted (os : Os) (started : os.Started) (H : Type) (enc : TypeId × Value → H) :
    ReturnsInHanded {} Tryz.checked os 5 .any (fun w args => (Rows.fnExactScriptFaultSpec.pre enc Tryz.prog Tryz.f5 [] false w args ∧ laidMetH Tryz.prog laidL w) ∧ sizedMet enc Tryz.prog Tryz.f5 (OpenSpec.ofChange Rows.fnExactScriptFaultSpec) false w args) (Rows.fnExactScriptFaultSpec.post enc Tryz.prog Tryz.f5 false true false false) := by
  refine handed_and_shaped (C := Tryz.checked) (X := fun w _ => laidMetH Tryz.prog laidL w) (fun _ _ _ hh h => h.of_heap hh) own started (by kernel_rfl) Tryz.func5
    (ChangeSpec.witness_shaped (enc := enc) (C := Tryz.checked) (os := os) (X := fun w _ => laidMetH Tryz.prog laidL w) false (World.laidAll Tryz.prog os laidL) #[.string ByteArray.empty] 8 (World.laidAll_os _ _ _) (World.shaped_of_ZipB (by kernel_rfl) (by kernel_rfl)) (by kernel_rfl) (by kernel_rfl) (by kernel_rfl) (by rw [MakeChecks.laidMetH_plain _ _ _ (by kernel_rfl)]; exact laidMet_laidAll _ (by kernel_rfl) (by kernel_rfl))) ?_
  intro W base args ds gs before hval0 hW hcnd hsz0 hL hS
  have hsz : (DataW.weightsEach Tryz.prog (Tryz.f5.params.toList ++ Rows.fnExactScriptFaultSpec.plain.varTypes Tryz.prog) (ds ++ gs)).all (· ≤ reachBytes) = true := hsz0
  have hval : ∀ (j : Nat) t v, Tryz.f5.params[j]? = some t → args[j]? = some v → Value.okWide Tryz.prog W .any base t v := hval0
  have hW' := hW
  obtain ⟨p, q, hA0, hV, rfl, hfz, hnd⟩ := hW
  have hA : DataW.TrodAll enc Tryz.prog W 0 (fun _ => true) true Tryz.f5.params.toList args.toList ds p := hA0
  rw [Tryz.params5] at hA hval hsz
  obtain ⟨v0, vs0, d0, ds0, p0, q0, hargs, rfl, rfl, h0, r0⟩ := trodAll_cons hA
  obtain ⟨rfl, rfl, rfl⟩ := trodAll_nil r0
  obtain rfl : args = #[v0] := by cases args; simp_all
  obtain ⟨_, _, _, _, gd0, _, _, _, _, _, gd1, _, rfl, _⟩ := trodVars_two hV
  have lt0 := trod_lt_all h0
  have z0 := weights_arg hsz (j := 0) (t := 9) rfl rfl
  obtain ⟨y0, b0, c0⟩ := arg_rep (ty := .str) (n := 20) (ag := false) (by kernel_rfl) (by kernel_rfl) (hval 0 9 v0 rfl rfl) h0 z0
  obtain ⟨k, hp⟩ := laws_FnExactScriptFault.proved y0 b0
  have hrr : ((laws_FnExactScriptFault.con k).f [argC false .str y0]).val = some ⟨[.val false [.leaf (.bool true)]], []⟩ := by
    refine (congrArg CR.val (go k y0)).trans ?_
    rw [hp]
    kernel_rfl
  refine (law_true (laws_FnExactScriptFault.ok k) hrr (globals hL hS) (vs := [v0]) (cargs_cons (c0 _) cargs_nil)).mono fun e W' ⟨he, bel0⟩ => ?_
  have bel : Below W.heap.size W W' := bel0
  subst he
  exact ⟨_, rfl, _, _, _, [], _, _, hW', trodAll_mk1 (shutB Tryz.underlying4 _), (trodAll_cons_mk (Below.trod laidOut (by kernel_rfl) (of_decide_eq_true (by kernel_rfl)) h0 bel lt0) trodAll_mk0), Below.trodVars laidOut bel (by kernel_rfl) hV, bel.frame _, fun h => by cases h⟩
theorem k10 : (Rows.fnExactScriptFaultRow.inPlace == Tryz.prog.inPlace 5) = true := by kernel_rfl
theorem k11 : (Rows.fnExactScriptFaultRow.unfollowed == Tryz.prog.unfollowed 5) = true := by kernel_rfl
theorem k12 : (Rows.fnExactScriptFaultRow.recurses == Tryz.prog.recurses 5) = true := by kernel_rfl
theorem k13 : (Rows.fnExactScriptFaultRow.named == Tryz.prog.varsNamed 5) = true := by kernel_rfl
theorem closed : joinedFacts Tryz.prog 5 Tryz.f5 Rows.fnExactScriptFaultSpec Rows.fnExactScriptFaultRow = true := by
  unfold joinedFacts
  rw [k10, k11, k12, k13]
  kernel_rfl
theorem over : Rows.fnExactScriptFaultRow.holds Tryz.pinned (OpenSpec.ofChange Rows.fnExactScriptFaultSpec) :=
  OpenClaim.holds_of_wide 5 Tryz.f5 rfl rfl rfl rfl rfl rfl rfl ⟨rfl, rfl, rfl, rfl, rfl⟩ rfl rfl rfl rfl rfl (by kernel_rfl) Tryz.func5 closed
    (of_decide_eq_true (by kernel_rfl)) (by unfold Func.isWrapper; first | (rw [if_pos (by decide +kernel)]; kernel_rfl) | (rw [if_neg (by decide +kernel)]; exact ⟨rfl, rfl⟩))
    (fun os started H enc _ => lifted os started H enc)
theorem proved : Rows.FnExactScriptFaultSaid := over
theorem t1 : Rows.fnExactScriptFaultRow.wfByText (OpenSpec.ofChange Rows.fnExactScriptFaultSpec) = true := by kernel_rfl
theorem t2 : Tryz.prog.mainIs = some ((true, "f06bbcbbca21a9209f0cfd1b5059dfa8a418a6bfd3a1786c2e8eddeca1bee247").1, (true, "f06bbcbbca21a9209f0cfd1b5059dfa8a418a6bfd3a1786c2e8eddeca1bee247").2.toList) := by kernel_rfl
theorem t3 : true = Tryz.prog.looks [] := by kernel_rfl
theorem t4 : false = Rows.fnExactScriptFaultRow.goesBy Tryz.prog := by kernel_rfl
theorem tied : Rows.FnExactScriptFaultCardSaid :=
  Claim7.holds_tied_plain_at .later [] [.data, .data, .data, .data, .sentinel, .sentinel, .widerDeep, .widerDeep, .pinned] true (true, "f06bbcbbca21a9209f0cfd1b5059dfa8a418a6bfd3a1786c2e8eddeca1bee247") true
    proved (fun _ h => by cases h) t1 (fun _ h => by cases h) fnExactScriptFault_row_tie rfl ⟨rfl, rfl⟩ t2 rfl
    (fun f fn hf hfn => by
      obtain rfl : f = 5 := Option.some.inj ((show Tryz.prog.funcNamed "loop.example/g00668/laws.FnExactScriptFault" = some 5 by kernel_rfl).symm.trans hf) |>.symm
      obtain rfl : fn = Tryz.f5 := (Option.some.inj (Tryz.func5.symm.trans hfn)).symm
      exact ⟨t3, fun j t ht => by
        rw [Tryz.params5] at ht
        have hm : t ∈ [9] := by simpa using Array.mem_of_getElem? ht
        have hall : ([9].all fun u => !Tryz.prog.wantsStandIn u) = true := by kernel_rfl
        exact (show Tryz.prog.wantsStandIn t = false by simpa using List.all_eq_true.1 hall t hm)⟩)
    t4
end Go.Proofs.YtcnkbllbpimaiaaGreatDoor.fnExactScriptFault
namespace Go.Proofs.YtcnkbllbpimaiaaGreatDoor
/-- The tied card, under a short name, for the claim. -/
theorem fnExactScriptFault_card : Rows.FnExactScriptFaultCardSaid := fnExactScriptFault.tied
#print axioms fnExactScriptFault_card
end Go.Proofs.YtcnkbllbpimaiaaGreatDoor
