/- What the law FnExactScriptFault needs, part 10 of 11: the Lean functions of the Go functions that it reaches, with the proofs that the calls come to what they say, and plain facts about them. Conditions: those that each theorem states. Written by a session and by its programs (after the kit's printer). -/
import Derived.Lib.Split
import Derived.Lib.ParseIntBTie
import Derived.Lib.ItoaNum
import Derived.Test.YtcnkbllbpimaiaaGreatDoorXFnExactScriptFault8
namespace Go.Proofs.YtcnkbllbpimaiaaGreatDoorE
open Go
set_option linter.unusedVariables false
/-! ### letters -/
def letM (t : Str) : Str := match t with
  | [] => []
  | c :: r => if (c :: r).length = 8 ∧ 97 ≤ c.toNat ∧ c.toNat ≤ 122 ∧ (c :: r).count c = 8 then [c] else []
theorem letM_len (t : Str) : (letM t).length ≤ 1 := by
  unfold letM
  split
  · simp
  · split <;> simp
theorem bneF {a b : Int} (h : a = b) : (a != b) = false := by rw [bne, beqd, decide_eq_true h]; rfl
theorem bneT {a b : Int} (h : ¬ a = b) : (a != b) = true := by rw [bne, beqd, decide_eq_false h]; rfl
theorem cons_of {t : Str} (h : t.length = 8) : ∃ c r, t = c :: r := by
  cases t with
  | nil => simp at h
  | cons c r => exact ⟨c, r, rfl⟩
theorem cut01 (c : UInt8) (r : Str) : cut? (c :: r) 0 1 = some [c] := by
  have := cut_ok (l := c :: r) (i := 0) (j := 1) (by omega) (by simp)
  simpa using this
theorem at0 (c : UInt8) (r : Str) : at? (c :: r) 0 = some c := at_nat (l := c :: r) (i := 0) (by simp)
theorem iLetter (t : Str) : impl_letterOf t = some (letM t) := by
  unfold impl_letterOf
  by_cases h8 : t.length = 8
  · obtain ⟨c, r, rfl⟩ := cons_of h8
    have hl : letM (c :: r) = if (c :: r).length = 8 ∧ 97 ≤ c.toNat ∧ c.toNat ≤ 122 ∧ (c :: r).count c = 8 then [c] else [] := rfl
    rw [bneF (by rw [h8]; rfl), at0, cut01, hl]
    simp only [cond_false, Option.bind_some]
    by_cases a1 : (c.toNat : Int) < 97
    · rw [decide_eq_true a1, if_neg (by omega)]; rfl
    · by_cases a2 : (122 : Int) < (c.toNat : Int)
      · rw [decide_eq_false a1, decide_eq_true a2, if_neg (by omega)]; rfl
      · rw [decide_eq_false a1, decide_eq_false a2]
        have hc : strings_Count (c :: r) [c] = some (((c :: r).count c : Nat) : Int) := rfl
        rw [hc]
        simp only [cond_false, Option.bind_some]
        by_cases a3 : (c :: r).count c = 8
        · rw [bneF (by omega), if_pos ⟨h8, by omega, by omega, a3⟩]; rfl
        · rw [bneT (by omega), if_neg (fun h => a3 h.2.2.2)]; rfl
  · rw [bneT (by omega)]
    simp only [cond_true]
    cases t with
    | nil => rfl
    | cons c r =>
      have hl : letM (c :: r) = if (c :: r).length = 8 ∧ 97 ≤ c.toNat ∧ c.toNat ≤ 122 ∧ (c :: r).count c = 8 then [c] else [] := rfl
      rw [hl, if_neg (fun h => h8 h.1)]
def letN (t : Str) : Int := match letM t with
  | [] => 0
  | c :: _ => (c.toNat : Int)
theorem sLetter (t : Str) {k : Nat} (hk : 10 ≤ k) : spec_l17Letter k t = some (letN t) := by
  unfold spec_l17Letter letN
  by_cases h8 : t.length = 8
  · obtain ⟨c, r, rfl⟩ := cons_of h8
    have hl : letM (c :: r) = if (c :: r).length = 8 ∧ 97 ≤ c.toNat ∧ c.toNat ≤ 122 ∧ (c :: r).count c = 8 then [c] else [] := rfl
    have key : ∀ (d i : Nat), i + d = 8 → ∀ j, d < j → spec_l17Letter.l0 j (c :: r) (i : Int) = some (if ((c :: r).drop i).all (fun x => x == c) = true then .inl () else .inr 0) := by
      intro d
      induction d with
      | zero =>
        intro i hi j hj
        obtain ⟨j, rfl⟩ : ∃ q, j = q + 1 := ⟨j - 1, by omega⟩
        obtain rfl : i = 8 := by omega
        rw [spec_l17Letter.l0, List.drop_eq_nil_of_le (by omega)]
        rfl
      | succ d ih =>
        intro i hi j hj
        obtain ⟨j, rfl⟩ : ∃ q, j = q + 1 := ⟨j - 1, by omega⟩
        have hil : i < (c :: r).length := by omega
        rw [spec_l17Letter.l0, decide_eq_true (by omega : (i : Int) < 8), at_nat hil, at0, wsuc (by omega), List.drop_eq_getElem_cons hil, List.all_cons]
        simp only [cond_true, Option.bind_some]
        by_cases e : (c :: r)[i] = c
        · rw [bneF (by rw [e]), show ((c :: r)[i] == c) = true by simpa using e]
          simp only [cond_false, Bool.true_and]
          exact ih (i + 1) (by omega) j (by omega)
        · rw [bneT (fun q => e (UInt8.toNat_inj.1 (by omega))), show ((c :: r)[i] == c) = false by simpa using e]
          rfl
    have run := key 7 1 (by omega) k (by omega)
    rw [bneF (by rw [h8]; rfl), at0, hl]
    simp only [cond_false, Option.bind_some]
    by_cases a1 : (c.toNat : Int) < 97
    · rw [decide_eq_true a1, if_neg (by omega)]; rfl
    · by_cases a2 : (122 : Int) < (c.toNat : Int)
      · rw [decide_eq_false a1, decide_eq_true a2, if_neg (by omega)]; rfl
      · rw [decide_eq_false a1, decide_eq_false a2]
        simp only [cond_false]
        have run : spec_l17Letter.l0 k (c :: r) 1 = _ := run
        rw [run]
        have hiff : (((c :: r).drop 1).all (fun x => x == c) = true) ↔ (c :: r).count c = 8 := by
          rw [← h8, List.count_eq_length, List.all_eq_true]
          constructor
          · intro h b hb
            rcases List.mem_cons.1 hb with rfl | hb
            · rfl
            · exact (by simpa using h b hb : b = c).symm
          · intro h x hx
            have := h x (List.mem_cons_of_mem _ hx)
            simp [this]
        by_cases a3 : (c :: r).count c = 8
        · rw [if_pos (hiff.2 a3), if_pos ⟨h8, by omega, by omega, a3⟩]; rfl
        · rw [if_neg (fun h => a3 (hiff.1 h)), if_neg (fun h => a3 h.2.2.2)]; rfl
  · rw [bneT (by omega)]
    simp only [cond_true]
    cases t with
    | nil => rfl
    | cons c r =>
      have hl : letM (c :: r) = if (c :: r).length = 8 ∧ 97 ≤ c.toNat ∧ c.toNat ≤ 122 ∧ (c :: r).count c = 8 then [c] else [] := rfl
      rw [hl, if_neg (fun h => h8 h.1)]
theorem letM_some {t : Str} (h : letM t ≠ []) : cut? t 0 1 = some (letM t) ∧ ¬ letN t = 0 := by
  cases t with
  | nil => exact absurd rfl h
  | cons c r =>
    have hl : letM (c :: r) = if (c :: r).length = 8 ∧ 97 ≤ c.toNat ∧ c.toNat ≤ 122 ∧ (c :: r).count c = 8 then [c] else [] := rfl
    unfold letN
    rw [hl] at h ⊢
    by_cases q : (c :: r).length = 8 ∧ 97 ≤ c.toNat ∧ c.toNat ≤ 122 ∧ (c :: r).count c = 8
    · rw [if_pos q]
      exact ⟨cut01 c r, by show ¬ (c.toNat : Int) = 0; omega⟩
    · rw [if_neg q] at h
      exact absurd rfl h
theorem letM_none {t : Str} (h : letM t = []) : letN t = 0 := by
  unfold letN
  rw [h]
/-! ### words -/
theorem at_getD {l : List Str} {i : Int} (h0 : 0 ≤ i) (h1 : i < (l.length : Int)) : at? l i = some (l.getD i.toNat []) := by
  obtain ⟨n, rfl⟩ : ∃ n : Nat, i = (n : Int) := ⟨i.toNat, by omega⟩
  rw [at_nat (by omega), Int.toNat_natCast, List.getD_eq_getElem?_getD, List.getElem?_eq_getElem (by omega)]
  rfl
theorem getD_len (l : List Str) (h : ∀ x ∈ l, x.length ≤ 6) (n : Nat) : (l.getD n []).length ≤ 6 := by
  rw [List.getD_eq_getElem?_getD]
  cases e : l[n]? with
  | none => simp
  | some x => exact h x (List.mem_of_getElem? e)
def word0 (o : Int) : Str := tab1.getD o.toNat []
def word1 (o : Int) : Str := tab0.getD o.toNat []
theorem word0_len (o : Int) : (word0 o).length ≤ 6 := getD_len tab1 (by decide) _
theorem word1_len (o : Int) : (word1 o).length ≤ 6 := getD_len tab0 (by decide) _
theorem at_word0 {o : Int} (h0 : 0 ≤ o) (h1 : o ≤ 11) : at? tab1 o = some (word0 o) := at_getD h0 (by have : tab1.length = 12 := rfl; omega)
theorem at_word1 {o : Int} (h0 : 0 ≤ o) (h1 : o ≤ 5) : at? tab0 o = some (word1 o) := at_getD h0 (by have : tab0.length = 6 := rfl; omega)
theorem sWords1 {a b : Int} (ha : a = 2) (h0 : 0 ≤ b) (h1 : b ≤ 5) : spec_l17Words a b = some (word1 b) := by
  have e := at_word1 h0 h1
  unfold tab0 at e
  unfold spec_l17Words
  rw [beqd, decide_eq_true ha]
  simp only [cond_true]
  rw [e]
  rfl
theorem sWords0 {a b : Int} (ha : ¬ a = 2) (h0 : 0 ≤ a) (h1 : a ≤ 11) : spec_l17Words a b = some (word0 a) := by
  have e := at_word0 h0 h1
  unfold tab1 at e
  unfold spec_l17Words
  rw [beqd, decide_eq_false ha]
  simp only [cond_false]
  rw [e]
  rfl
/-! ### steps -/
structure StepFit (s : StepT) : Prop where
  k0 : 1 ≤ s.1
  k1 : s.1 ≤ 5
  a0 : 0 ≤ s.2.1
  a1 : s.2.1 ≤ 1000000
  b0 : 0 ≤ s.2.2.1
  b1 : s.2.2.1 ≤ 1000000
  t : if s.1 = 2 ∨ s.1 = 4 then s.2.2.2.length = 8 else s.2.2.2 = []
theorem stepFit {s : StepT} (h : stepB s.1 s.2.1 s.2.2.1 s.2.2.2 8 = true) : StepFit s := by
  obtain ⟨k, a, b, t⟩ := s
  unfold stepB at h
  dsimp only at h
  split at h
  · rename_i q
    subst q
    simp only [Bool.and_eq_true, decide_eq_true_eq, beq_iff_eq] at h
    exact ⟨by dsimp only; decide, by dsimp only; decide, by show 0 ≤ a; omega, by show a ≤ _; omega, by show 0 ≤ b; omega, by show b ≤ _; omega, by rw [if_neg (by dsimp only; decide)]; exact h.2⟩
  split at h
  · rename_i q
    subst q
    simp only [Bool.and_eq_true, decide_eq_true_eq] at h
    exact ⟨by dsimp only; decide, by dsimp only; decide, by show 0 ≤ a; omega, by show a ≤ _; omega, by show 0 ≤ b; omega, by show b ≤ _; omega, by rw [if_pos (by dsimp only; decide)]; show t.length = 8; omega⟩
  split at h
  · rename_i q
    subst q
    simp only [Bool.and_eq_true, decide_eq_true_eq, beq_iff_eq] at h
    exact ⟨by dsimp only; decide, by dsimp only; decide, by show 0 ≤ a; omega, by show a ≤ _; omega, by show 0 ≤ b; omega, by show b ≤ _; omega, by rw [if_neg (by dsimp only; decide)]; exact h.2⟩
  split at h
  · rename_i q
    subst q
    simp only [Bool.and_eq_true, decide_eq_true_eq] at h
    exact ⟨by dsimp only; decide, by dsimp only; decide, by show 0 ≤ a; omega, by show a ≤ _; omega, by show 0 ≤ b; omega, by show b ≤ _; omega, by rw [if_pos (by dsimp only; decide)]; show t.length = 8; omega⟩
  split at h
  · rename_i q
    subst q
    simp only [Bool.and_eq_true, decide_eq_true_eq, beq_iff_eq] at h
    exact ⟨by dsimp only; decide, by dsimp only; decide, by show 0 ≤ a; omega, by show a ≤ _; omega, by show 0 ≤ b; omega, by show b ≤ _; omega, by rw [if_neg (by dsimp only; decide)]; exact h.2⟩
  · cases h
def stepW1 (s : StepT) : Str := if s.1 = 5 then word1 s.1 else word1 s.1 ++ ([32] ++ decM s.2.1)
def stepW (s : StepT) : Str := if 3 ≤ s.1 then stepW1 s ++ ([32] ++ decM s.2.2.1) else stepW1 s
def stepM (s : StepT) : Str := if s.1 = 2 ∨ s.1 = 4 then (if letM s.2.2.2 = [] then [] else stepW s ++ ([32] ++ letM s.2.2.2)) else stepW s
theorem stepW1_len {s : StepT} (h : StepFit s) : (stepW1 s).length ≤ 27 := by
  have h1 := word1_len s.1
  have h2 := decM_len (n := s.2.1) (by have := h.a1; omega)
  unfold stepW1
  split
  · omega
  · simp; omega
theorem stepW_len {s : StepT} (h : StepFit s) : (stepW s).length ≤ 48 := by
  have h1 := stepW1_len h
  have h2 := decM_len (n := s.2.2.1) (by have := h.b1; omega)
  unfold stepW
  split
  · simp; omega
  · omega
theorem stepM_len {s : StepT} (h : StepFit s) : (stepM s).length ≤ 50 := by
  have h1 := stepW_len h
  have h2 := letM_len s.2.2.2
  unfold stepM
  split
  · split
    · simp
    · simp; omega
  · omega
theorem iStepText {s : StepT} (h : StepFit s) : impl_stepText s = some (stepM s) := by
  have h1 := word1_len s.1
  have hd1 := decM_len (n := s.2.1) (by have := h.a1; omega)
  have hd2 := decM_len (n := s.2.2.1) (by have := h.b1; omega)
  have hw1 := stepW1_len h
  have hw := stepW_len h
  have hk0 := h.k0
  have hk1 := h.k1
  have e0 : impl_stepText.j0 (word1 s.1) s.1 s.2.1 s.2.2.1 s.2.2.2 = some (stepW1 s, s.1, s.2.1, s.2.2.1, s.2.2.2) := by
    unfold impl_stepText.j0 stepW1
    by_cases q : s.1 = 5
    · rw [bneF q, if_pos q]; rfl
    · rw [bneT q, if_neg q, iDec _ (by have := h.a1; omega)]
      simp only [cond_true, Option.bind_some]
      rw [cat_some (by simp; omega)]
      simp only [Option.bind_some]
      rw [cat_some (by simp; omega)]
      rfl
  have e1 : impl_stepText.j1 (stepW1 s) s.1 s.2.1 s.2.2.1 s.2.2.2 = some (stepW s, s.1, s.2.1, s.2.2.1, s.2.2.2) := by
    unfold impl_stepText.j1 stepW
    simp only [beqd]
    have hq : ((decide (s.1 = 3) || decide (s.1 = 4)) || decide (s.1 = 5)) = decide (3 ≤ s.1) := by
      rw [Bool.eq_iff_iff]
      simp only [Bool.or_eq_true, decide_eq_true_eq]
      omega
    rw [hq]
    by_cases q : 3 ≤ s.1
    · rw [decide_eq_true q, if_pos q, iDec _ (by have := h.b1; omega)]
      simp only [cond_true, Option.bind_some]
      rw [cat_some (by simp; omega)]
      simp only [Option.bind_some]
      rw [cat_some (by simp; omega)]
      rfl
    · rw [decide_eq_false q, if_neg q]; rfl
  unfold impl_stepText stepM
  rw [at_word1 (by omega) (by omega)]
  simp only [Option.bind_some]
  rw [e0]
  simp only [Option.bind_some]
  rw [e1]
  simp only [Option.bind_some]
  have ht := h.t
  have hll := letM_len s.2.2.2
  by_cases q : s.1 = 2 ∨ s.1 = 4
  · rw [if_pos q] at ht ⊢
    have hne : (s.2.2.2 == []) = false := by
      cases e : s.2.2.2 with
      | nil => rw [e] at ht; cases ht
      | cons _ _ => rfl
    rw [hne, iLetter]
    simp only [Bool.not_false, cond_true, Option.bind_some]
    by_cases e : letM s.2.2.2 = []
    · rw [e]; rfl
    · rw [if_neg e, show (letM s.2.2.2 == []) = false by simpa using e]
      simp only [cond_false]
      rw [cat_some (by simp; omega)]
      simp only [Option.bind_some]
      rw [cat_some (by simp; omega)]
      rfl
  · rw [if_neg q] at ht ⊢
    rw [ht]
    rfl
/-! ### commands -/
def cmdM (c : CmdT) : Str :=
  if c.1 = 2 then stepM c.2.2.2.2
  else if c.1 = 1 then [98, 101, 103, 105, 110, 32] ++ (decM c.2.1 ++ ([32] ++ (decM c.2.2.1 ++ ([32] ++ hexM c.2.2.2.1))))
  else if c.1 = 7 ∨ c.1 = 9 then word0 c.1 ++ ([32] ++ decM c.2.1)
  else word0 c.1
structure CmdFit (c : CmdT) : Prop where
  o0 : 1 ≤ c.1
  o1 : c.1 ≤ 11
  a0 : 0 ≤ c.2.1
  a1 : c.2.1 ≤ 1000000
  b0 : 0 ≤ c.2.2.1
  b1 : c.2.2.1 ≤ 4
  t : c.2.2.2.1.length ≤ 32
  s : c.1 = 2 → StepFit c.2.2.2.2
theorem cmdFit {c : CmdT} (h : cmdB c = true) : CmdFit c := by
  obtain ⟨o, a, b, t, s⟩ := c
  unfold cmdB at h
  dsimp only at h
  have ht : t = [] → t.length ≤ 32 := fun e => by rw [e]; simp
  split at h
  · rename_i q
    subst q
    simp only [Bool.and_eq_true, decide_eq_true_eq] at h
    exact ⟨by dsimp only; decide, by dsimp only; decide, by show 0 ≤ a; omega, by show a ≤ _; omega, by show 0 ≤ b; omega, by show b ≤ _; omega, by show t.length ≤ 32; omega, fun e => absurd e (by dsimp only; decide)⟩
  split at h
  · rename_i q
    subst q
    simp only [Bool.and_eq_true, decide_eq_true_eq, beq_iff_eq] at h
    exact ⟨by dsimp only; decide, by dsimp only; decide, by show 0 ≤ a; omega, by show a ≤ _; omega, by show 0 ≤ b; omega, by show b ≤ _; omega, ht h.1.2, fun _ => stepFit h.2⟩
  split at h
  · rename_i q
    subst q
    simp only [Bool.and_eq_true, decide_eq_true_eq, beq_iff_eq] at h
    exact ⟨by dsimp only; decide, by dsimp only; decide, by show 0 ≤ a; omega, by show a ≤ _; omega, by show 0 ≤ b; omega, by show b ≤ _; omega, ht h.1.2, fun e => absurd e (by dsimp only; decide)⟩
  split at h
  · rename_i q
    subst q
    simp only [Bool.and_eq_true, decide_eq_true_eq, beq_iff_eq] at h
    exact ⟨by dsimp only; decide, by dsimp only; decide, by show 0 ≤ a; omega, by show a ≤ _; omega, by show 0 ≤ b; omega, by show b ≤ _; omega, ht h.1.2, fun e => absurd e (by dsimp only; decide)⟩
  · rename_i q2 _ _
    simp only [Bool.and_eq_true, decide_eq_true_eq, beq_iff_eq] at h
    exact ⟨by show 1 ≤ o; omega, by show o ≤ _; omega, by show 0 ≤ a; omega, by show a ≤ _; omega, by show 0 ≤ b; omega, by show b ≤ _; omega, ht h.1.2, fun e => absurd e q2⟩
theorem cmdM_len {c : CmdT} (h : CmdFit c) : (cmdM c).length ≤ 200 := by
  have h0 := word0_len c.1
  have h1 := decM_len (n := c.2.1) (by have := h.a1; omega)
  have h2 := decM_len (n := c.2.2.1) (by have := h.b1; omega)
  have h3 := hexM_len c.2.2.2.1
  have h4 := h.t
  unfold cmdM
  split
  · rename_i q
    have := stepM_len (h.s q)
    omega
  split
  · simp; omega
  split
  · simp; omega
  · omega
theorem iCmdText {c : CmdT} (h : CmdFit c) {k : Nat} (hk : 100 ≤ k) : impl_cmdText k c = some (cmdM c) := by
  have h0 := word0_len c.1
  have h1 := decM_len (n := c.2.1) (by have := h.a1; omega)
  have h2 := decM_len (n := c.2.2.1) (by have := h.b1; omega)
  have h3 := hexM_len c.2.2.2.1
  have h4 := h.t
  have o0 := h.o0
  have o1 := h.o1
  unfold impl_cmdText cmdM
  simp only [beqd]
  by_cases c2 : c.1 = 2
  · rw [decide_eq_true c2, if_pos c2, iStepText (h.s c2)]
    rfl
  rw [decide_eq_false c2, if_neg c2]
  simp only [cond_false]
  have d1 := iDec c.2.1 (by have := h.a1; omega)
  by_cases c1 : c.1 = 1
  · rw [decide_eq_true c1, if_pos c1, d1, iDec c.2.2.1 (by have := h.b1; omega), iHex c.2.2.2.1 (by omega) k (by omega)]
    simp only [cond_true, Option.bind_some]
    rw [cat_some (by simp; omega)]
    simp only [Option.bind_some]
    rw [cat_some (by simp; omega)]
    simp only [Option.bind_some]
    rw [cat_some (by simp; omega)]
    simp only [Option.bind_some]
    rw [cat_some (by simp; omega)]
    simp only [Option.bind_some]
    rw [cat_some (by simp; omega)]
    simp only [Option.bind_some, List.append_assoc]
  rw [decide_eq_false c1, if_neg c1, at_word0 (by omega) o1]
  simp only [cond_false, Option.bind_some]
  by_cases c7 : c.1 = 7
  · rw [decide_eq_true c7, if_pos (.inl c7), d1, cat_some (by simp; omega)]
    simp only [cond_true, Option.bind_some]
    rw [cat_some (by simp; omega)]
    simp only [Option.bind_some, List.append_assoc]
  rw [decide_eq_false c7]
  simp only [cond_false]
  by_cases c9 : c.1 = 9
  · rw [decide_eq_true c9, if_pos (.inr c9), d1, cat_some (by simp; omega)]
    simp only [cond_true, Option.bind_some]
    rw [cat_some (by simp; omega)]
    simp only [Option.bind_some, List.append_assoc]
  rw [decide_eq_false c9, if_neg (fun q => q.elim c7 c9)]
  rfl
theorem sCmdText {c : CmdT} (h : CmdFit c) {k : Nat} (hk : 100 ≤ k) : spec_l17Cmd k c = some (cmdM c) := by
  have h0 := word0_len c.1
  have h1 := decM_len (n := c.2.1) (by have := h.a1; omega)
  have h2 := decM_len (n := c.2.2.1) (by have := h.b1; omega)
  have h3 := hexM_len c.2.2.2.1
  have h4 := h.t
  have o0 := h.o0
  have o1 := h.o1
  have d1 : spec_l01Dec k c.2.1 = some (decM c.2.1) := sDec1 _ h.a0 (by have := h.a1; omega) (by omega)
  have d2 : spec_l01Dec k c.2.2.1 = some (decM c.2.2.1) := sDec1 _ h.b0 (by have := h.b1; omega) (by omega)
  unfold spec_l17Cmd cmdM spec_l17Cmd.j0
  simp only [beqd]
  by_cases c2 : c.1 = 2
  · have hs := h.s c2
    generalize hsg : c.2.2.2.2 = s at hs ⊢
    have w0 := word1_len s.1
    have s1 := decM_len (n := s.2.1) (by have := hs.a1; omega)
    have s2 := decM_len (n := s.2.2.1) (by have := hs.b1; omega)
    have hw1 := stepW1_len hs
    have hw := stepW_len hs
    have hk0 := hs.k0
    have hk1 := hs.k1
    have e1 : spec_l17Cmd.j1 k (word1 s.1) s.1 s.2.1 s.2.2.1 s.2.2.2 = some (stepW1 s, s.1, s.2.1, s.2.2.1, s.2.2.2) := by
      unfold spec_l17Cmd.j1 stepW1
      by_cases q : s.1 = 5
      · rw [bneF q, if_pos q]; rfl
      · rw [bneT q, if_neg q, sDec1 _ hs.a0 (by have := hs.a1; omega) (by omega), cat_some (by simp; omega)]
        simp only [cond_true, Option.bind_some]
        rw [cat_some (by simp; omega)]
        simp only [Option.bind_some, List.append_assoc]
    have e2 : spec_l17Cmd.j2 k (stepW1 s) s.1 s.2.1 s.2.2.1 s.2.2.2 = some (stepW s, s.1, s.2.1, s.2.2.1, s.2.2.2) := by
      unfold spec_l17Cmd.j2 stepW
      by_cases q : 3 ≤ s.1
      · rw [decide_eq_true q, if_pos q, sDec1 _ hs.b0 (by have := hs.b1; omega) (by omega), cat_some (by simp; omega)]
        simp only [cond_true, Option.bind_some]
        rw [cat_some (by simp; omega)]
        simp only [Option.bind_some, List.append_assoc]
      · rw [decide_eq_false q, if_neg q]; rfl
    rw [if_pos c2, sWords1 c2 (by omega) hk1]
    simp only [Option.bind_some]
    rw [decide_eq_false (by omega : ¬ c.1 = 1), decide_eq_false (by omega : ¬ c.1 = 7), decide_eq_false (by omega : ¬ c.1 = 9), decide_eq_true c2]
    simp only [cond_false, cond_true, Option.bind_some]
    rw [e1]
    simp only [Option.bind_some]
    rw [e2]
    simp only [Option.bind_some]
    have hll := letM_len s.2.2.2
    unfold stepM
    by_cases q : s.1 = 2 ∨ s.1 = 4
    · rw [if_pos q, show (decide (s.1 = 2) || decide (s.1 = 4)) = true by simpa using q, sLetter _ (by omega)]
      simp only [cond_true, Option.bind_some]
      by_cases e : letM s.2.2.2 = []
      · rw [if_pos e, letM_none e]; rfl
      · obtain ⟨q1, q2⟩ := letM_some e
        rw [if_neg e, decide_eq_false q2, q1, cat_some (by simp; omega)]
        simp only [cond_false, Option.bind_some]
        rw [cat_some (by simp; omega)]
        simp only [Option.bind_some, List.append_assoc]
    · rw [if_neg q, show (decide (s.1 = 2) || decide (s.1 = 4)) = false by simpa using q]
      rfl
  rw [if_neg c2, sWords0 c2 (by omega) o1]
  simp only [Option.bind_some]
  by_cases c1 : c.1 = 1
  · have hb : word0 c.1 = [98, 101, 103, 105, 110] := by rw [c1]; rfl
    rw [decide_eq_true c1, if_pos c1, d1, d2, sHex c.2.2.2.1 (by omega) k (by omega), hb]
    simp only [cond_true, Option.bind_some]
    rw [cat_some (by simp)]
    simp only [Option.bind_some]
    rw [cat_some (by simp; omega)]
    simp only [Option.bind_some]
    rw [cat_some (by simp; omega)]
    simp only [Option.bind_some]
    rw [cat_some (by simp; omega)]
    simp only [Option.bind_some]
    rw [cat_some (by simp; omega)]
    simp only [Option.bind_some]
    rw [cat_some (by simp; omega)]
    simp only [Option.bind_some, List.append_assoc]
    rfl
  rw [decide_eq_false c1, if_neg c1]
  simp only [cond_false]
  by_cases c7 : c.1 = 7
  · rw [decide_eq_true c7, if_pos (.inl c7), d1]
    simp only [cond_true, Option.bind_some]
    rw [cat_some (by simp; omega)]
    simp only [Option.bind_some]
    rw [cat_some (by simp; omega)]
    simp only [Option.bind_some, List.append_assoc]
  rw [decide_eq_false c7]
  simp only [cond_false]
  by_cases c9 : c.1 = 9
  · rw [decide_eq_true c9, if_pos (.inr c9), d1]
    simp only [cond_true, Option.bind_some]
    rw [cat_some (by simp; omega)]
    simp only [Option.bind_some]
    rw [cat_some (by simp; omega)]
    simp only [Option.bind_some, List.append_assoc]
  rw [decide_eq_false c9, if_neg (fun q => q.elim c7 c9), decide_eq_false c2]
  rfl
/-! ### deeds -/
def deedM (d : DeedT) : Str := if deedB d = true then (if cmdM d.1 = [] ∨ d.2.1 < 0 then cmdM d.1 else [99, 117, 116, 32] ++ (decM d.2.1 ++ ([32] ++ (numsM d.2.2.1 ++ ([32] ++ (numsM d.2.2.2 ++ ([32] ++ cmdM d.1))))))) else []
theorem numsFit {l : List Int} {m : Nat} {h : Int} (q : numsB l m h = true) (hh : h ≤ 200) : l.length ≤ m ∧ ∀ n ∈ l, 0 ≤ n ∧ n < 9223372036854775808 := by
  unfold numsB at q
  rw [Bool.and_eq_true, decide_eq_true_eq, Bool.not_eq_true', List.any_eq_false] at q
  refine ⟨q.1, fun n hn => ?_⟩
  have := q.2 n hn
  simp only [Bool.not_eq_true', Bool.and_eq_false_iff, decide_eq_false_iff_not] at this
  omega
theorem iDeedB {d : DeedT} (hb : deedB d = true) {k : Nat} (hk : 2000000 ≤ k) : impl_deedText k d = some (deedM d) := by
  unfold deedM
  rw [if_pos hb]
  unfold deedB at hb
  simp only [Bool.and_eq_true, decide_eq_true_eq] at hb
  obtain ⟨⟨⟨⟨hc, hr1, hr2⟩, hn1⟩, hn2⟩, _⟩ := hb
  have hf := cmdFit hc
  obtain ⟨l1, m1⟩ := numsFit hn1 (by omega)
  obtain ⟨l2, m2⟩ := numsFit hn2 (by omega)
  have q1 := numsM_len d.2.2.1 fun n hn => (m1 n hn).2
  have q2 := numsM_len d.2.2.2 fun n hn => (m2 n hn).2
  have q3 := cmdM_len hf
  have q4 := decM_len (n := d.2.1) (by omega)
  unfold impl_deedText
  rw [iCmdText hf (by omega)]
  simp only [Option.bind_some]
  by_cases e : cmdM d.1 = []
  · rw [if_pos (.inl e), e]
    rfl
  by_cases z : d.2.1 < 0
  · rw [if_pos (.inr z), show (cmdM d.1 == []) = false by simpa using e, decide_eq_false (by omega : ¬ 0 ≤ d.2.1)]
    rfl
  rw [if_neg (fun q => q.elim e z), show (cmdM d.1 == []) = false by simpa using e, decide_eq_true (by omega : 0 ≤ d.2.1), iDec _ (by omega), iCommas _ (fun n hn => (m1 n hn).2) (by omega) (by omega), iCommas _ (fun n hn => (m2 n hn).2) (by omega) (by omega)]
  simp only [Bool.not_false, Bool.true_and, Bool.false_or, cond_true, cond_false, Option.bind_some]
  rw [cat_some (by simp; omega)]
  simp only [Option.bind_some]
  rw [cat_some (by simp; omega)]
  simp only [Option.bind_some]
  rw [cat_some (by simp; omega)]
  simp only [Option.bind_some]
  rw [cat_some (by simp; omega)]
  simp only [Option.bind_some]
  rw [cat_some (by simp; omega)]
  simp only [Option.bind_some]
  rw [cat_some (by simp; omega)]
  simp only [Option.bind_some]
  rw [cat_some (by simp; omega)]
  simp only [Option.bind_some, List.append_assoc]
theorem sDeedText (d : DeedT) (h1 : d.2.2.1.length ≤ 1048576) (h2 : d.2.2.2.length ≤ 1048576) {k : Nat} (hk : 2000000 ≤ k) : spec_DeedText k d = some (deedM d) := by
  unfold spec_DeedText deedM
  rw [sDeed d (by omega) (by omega)]
  simp only [Option.bind_some]
  cases hb : deedB d with
  | false => rfl
  | true =>
  rw [if_pos rfl]
  simp only [Bool.not_true, cond_false]
  unfold deedB at hb
  simp only [Bool.and_eq_true, decide_eq_true_eq] at hb
  obtain ⟨⟨⟨⟨hc, hr1, hr2⟩, hn1⟩, hn2⟩, _⟩ := hb
  have hf := cmdFit hc
  obtain ⟨l1, m1⟩ := numsFit hn1 (by omega)
  obtain ⟨l2, m2⟩ := numsFit hn2 (by omega)
  have q1 := numsM_len d.2.2.1 fun n hn => (m1 n hn).2
  have q2 := numsM_len d.2.2.2 fun n hn => (m2 n hn).2
  have q3 := cmdM_len hf
  have q4 := decM_len (n := d.2.1) (by omega)
  rw [sCmdText hf (by omega)]
  simp only [Option.bind_some]
  by_cases e : cmdM d.1 = []
  · rw [if_pos (.inl e), e]
    rfl
  by_cases z : d.2.1 < 0
  · rw [if_pos (.inr z), show (cmdM d.1 == []) = false by simpa using e, decide_eq_true z]
    rfl
  rw [if_neg (fun q => q.elim e z), show (cmdM d.1 == []) = false by simpa using e, decide_eq_false z, sDec1 _ (by omega) (by omega) (by omega), sCommas _ m1 (by omega) (by omega), sCommas _ m2 (by omega) (by omega)]
  simp only [Bool.not_false, Bool.true_and, Bool.false_or, cond_true, cond_false, Option.bind_some]
  rw [cat_some (by simp; omega)]
  simp only [Option.bind_some]
  rw [cat_some (by simp; omega)]
  simp only [Option.bind_some]
  rw [cat_some (by simp; omega)]
  simp only [Option.bind_some]
  rw [cat_some (by simp; omega)]
  simp only [Option.bind_some]
  rw [cat_some (by simp; omega)]
  simp only [Option.bind_some]
  rw [cat_some (by simp; omega)]
  simp only [Option.bind_some]
  rw [cat_some (by simp; omega)]
  simp only [Option.bind_some, List.append_assoc]
end Go.Proofs.YtcnkbllbpimaiaaGreatDoorE

section
namespace Go.Proofs.YtcnkbllbpimaiaaGreatDoorE
open Go
set_option linter.unusedVariables false
def splitM (c : UInt8) : Str → List Str
  | [] => [[]]
  | x :: s => if x = c then [] :: splitM c s else match splitM c s with
    | [] => [[x]]
    | w :: ws => (x :: w) :: ws
theorem splitM_ne (c : UInt8) : ∀ s : Str, splitM c s ≠ []
  | [] => by simp [splitM]
  | x :: s => by
    unfold splitM
    split
    · simp
    · split <;> simp
theorem splitM_cons {c x : UInt8} (h : x ≠ c) (s : Str) : ∃ w ws, splitM c s = w :: ws ∧ splitM c (x :: s) = (x :: w) :: ws := by
  cases e : splitM c s with
  | nil => exact absurd e (splitM_ne c s)
  | cons w ws => exact ⟨w, ws, rfl, by rw [splitM, if_neg h, e]⟩
theorem splitM_app {c : UInt8} : ∀ {w : Str} (s : Str), c ∉ w → splitM c (w ++ c :: s) = w :: splitM c s
  | [], s, _ => by rw [List.nil_append, splitM, if_pos rfl]
  | x :: w, s, h => by
    have hx : x ≠ c := fun e => h (e ▸ List.mem_cons_self)
    have hw : c ∉ w := fun e => h (List.mem_cons_of_mem _ e)
    rw [List.cons_append, splitM, if_neg hx, splitM_app s hw]
theorem splitM_free {c : UInt8} : ∀ {w : Str}, c ∉ w → splitM c w = [w]
  | [], _ => rfl
  | x :: w, h => by
    have hx : x ≠ c := fun e => h (e ▸ List.mem_cons_self)
    have hw : c ∉ w := fun e => h (List.mem_cons_of_mem _ e)
    rw [splitM, if_neg hx, splitM_free hw]
theorem splitM_len (c : UInt8) : ∀ s : Str, (splitM c s).length ≤ s.length + 1
  | [] => Nat.le_refl _
  | x :: s => by
    have := splitM_len c s
    by_cases h : x = c
    · rw [splitM, if_pos h]; simp; omega
    · obtain ⟨w, ws, e1, e2⟩ := splitM_cons h s
      rw [e2]; rw [e1] at this; simp at this ⊢; omega
theorem splitM_mem {c : UInt8} : ∀ {s w : Str}, w ∈ splitM c s → c ∉ w ∧ w.length ≤ s.length
  | [], w, h => by
    have : w = [] := by simpa [splitM] using h
    subst this; simp
  | x :: s, w, h => by
    by_cases hx : x = c
    · rw [splitM, if_pos hx] at h
      rcases List.mem_cons.1 h with rfl | h
      · simp
      · have := splitM_mem h
        exact ⟨this.1, by simp; omega⟩
    · obtain ⟨v, ws, e1, e2⟩ := splitM_cons hx s
      rw [e2] at h
      rcases List.mem_cons.1 h with rfl | h
      · have := splitM_mem (c := c) (s := s) (w := v) (by rw [e1]; exact List.mem_cons_self)
        refine ⟨fun q => ?_, by simp; omega⟩
        rcases List.mem_cons.1 q with q | q
        · exact hx q.symm
        · exact this.1 q
      · have := splitM_mem (c := c) (s := s) (w := w) (by rw [e1]; exact List.mem_cons_of_mem _ h)
        exact ⟨this.1, by simp; omega⟩
theorem occ1 {s : Str} {c : UInt8} {i : Nat} : Lib.occAt s [c] i = true ↔ s[i]? = some c := by
  constructor
  · exact Lib.occAt_head rfl
  · intro h
    unfold Lib.occAt
    obtain ⟨hi, e⟩ := List.getElem?_eq_some_iff.1 h
    rw [List.drop_eq_getElem_cons hi, e]
    simp [List.isPrefixOf]
theorem splitK_splitM (c : UInt8) : ∀ (n : Nat) (s : Str), s.length ≤ n → Lib.splitK [c] 0 (Lib.count s [c]) s = splitM c s := by
  intro n
  induction n with
  | zero =>
    intro s hs
    have : s = [] := List.eq_nil_of_length_eq_zero (by omega)
    subst this
    have h : Lib.index ([] : Str) [c] = -1 := rfl
    rw [Lib.count_miss h]
    rfl
  | succ n ih =>
    intro s hs
    rcases Lib.index_spec s [c] with ⟨h1, h2⟩ | ⟨i, h1, h2, h3, h4⟩
    · rw [Lib.count_miss h1]
      have hc : c ∉ s := fun hm => by
        obtain ⟨j, hj, e⟩ := List.getElem_of_mem hm
        have := h2 j (by omega)
        rw [Bool.eq_false_iff] at this
        exact this (occ1.2 (by rw [List.getElem?_eq_getElem hj, e]))
      rw [splitM_free hc]
      rfl
    · obtain ⟨hi, e⟩ := List.getElem?_eq_some_iff.1 (occ1.1 h3)
      have hne : ([c] : Str) ≠ [] := by simp
      rw [Lib.count_hit hne h1, Nat.add_comm, Lib.splitK]
      rw [if_neg (by rw [h1]; simp), h1]
      have hd : s = s.take i ++ c :: s.drop (i + 1) := by
        conv => lhs; rw [← List.take_append_drop i s, List.drop_eq_getElem_cons hi, e]
      have hc : c ∉ s.take i := fun hm => by
        obtain ⟨j, hj, e⟩ := List.getElem_of_mem hm
        rw [List.length_take] at hj
        have := h4 j (by omega)
        rw [Bool.eq_false_iff] at this
        refine this (occ1.2 ?_)
        rw [List.getElem_take] at e
        rw [List.getElem?_eq_getElem (by omega), e]
      conv => rhs; rw [hd]
      rw [splitM_app _ hc, ← ih (s.drop (i + 1)) (by rw [List.length_drop]; omega)]
      rfl
theorem cut_miss {c : UInt8} {s : Str} (h : c ∉ s) : Lib.cut s [c] = (s, [], false) := by
  unfold Lib.cut
  rcases Lib.index_spec s [c] with ⟨h1, h2⟩ | ⟨i, h1, h2, h3, h4⟩
  · rw [h1]; rfl
  · obtain ⟨hi, e⟩ := List.getElem?_eq_some_iff.1 (occ1.1 h3)
    exact absurd (e ▸ List.getElem_mem hi) h
theorem cut_hit {c : UInt8} {w s : Str} (h : c ∉ w) : Lib.cut (w ++ c :: s) [c] = (w, s, true) := by
  unfold Lib.cut
  rcases Lib.index_spec (w ++ c :: s) [c] with ⟨h1, h2⟩ | ⟨i, h1, h2, h3, h4⟩
  · have := h2 w.length (by simp)
    rw [Bool.eq_false_iff] at this
    exact absurd (occ1.2 (by simp)) this
  · have hi : i = w.length := by
      rcases Nat.lt_trichotomy i w.length with q | q | q
      · have h3 := occ1.1 h3
        rw [List.getElem?_append_left q] at h3
        obtain ⟨hi, e⟩ := List.getElem?_eq_some_iff.1 h3
        exact absurd (e ▸ List.getElem_mem hi) h
      · exact q
      · have := h4 w.length q
        rw [Bool.eq_false_iff] at this
        exact absurd (occ1.2 (by simp)) this
    subst hi
    rw [h1, if_pos (by omega)]
    simp
def stepD (a : Nat) (x : UInt8) : Nat := a * 10 + (x.toNat - 48)
def valD (a : Nat) (s : Str) : Nat := s.foldl stepD a
theorem valD_cons (a : Nat) (x : UInt8) (s : Str) : valD a (x :: s) = valD (stepD a x) s := by unfold valD; rw [List.foldl_cons]
theorem valD_app : ∀ (a : Nat) (s t : Str), valD a (s ++ t) = valD (valD a s) t
  | _, [], _ => rfl
  | a, x :: s, t => by rw [List.cons_append, valD_cons, valD_cons, valD_app]
def digs (s : Str) : Prop := ∀ x ∈ s, 48 ≤ x.toNat ∧ x.toNat ≤ 57
theorem dig_nat {d : Nat} (h : d < 10) : (UInt8.ofNat (48 + d)).toNat = 48 + d := by
  rw [UInt8.toNat_ofNat']; omega
theorem dec_val : ∀ u : Nat, digs (Lib.decDigits u) ∧ valD 0 (Lib.decDigits u) = u := by
  intro u
  induction u using Nat.strongRecOn with
  | _ u ih =>
  by_cases h : u < 10
  · rw [Lib.decDigits, dif_pos h]
    refine ⟨fun x hx => ?_, ?_⟩
    · rw [List.mem_singleton.1 hx, dig_nat h]; omega
    · show 0 * 10 + ((UInt8.ofNat (48 + u)).toNat - 48) = u
      rw [dig_nat h]; omega
  · rw [Lib.decDigits, dif_neg h]
    obtain ⟨h1, h2⟩ := ih (u / 10) (by omega)
    have hd := dig_nat (d := u % 10) (by omega)
    refine ⟨fun x hx => ?_, ?_⟩
    · rcases List.mem_append.1 hx with q | q
      · exact h1 x q
      · rw [List.mem_singleton.1 q, hd]; omega
    · rw [valD_app, h2]
      show u / 10 * 10 + ((UInt8.ofNat (48 + u % 10)).toNat - 48) = u
      rw [hd]; omega
theorem valD_le : ∀ (a : Nat) (s : Str), a ≤ valD a s
  | _, [] => Nat.le_refl _
  | a, x :: s => by
    have := valD_le (stepD a x) s
    rw [valD_cons]
    unfold stepD at this ⊢
    omega
theorem parseUintM_val (M : Nat) (hM : M ≤ 18446744073709551615) : ∀ (s : Str) (a : Nat), digs s → valD a s ≤ M → Lib.parseUintM M a s = .ok (valD a s)
  | [], _, _, _ => rfl
  | x :: s, a, hd, h => by
    have hx := hd x List.mem_cons_self
    rw [valD_cons] at h ⊢
    have hle := valD_le (stepD a x) s
    unfold stepD at h hle ⊢
    rw [Lib.parseUintM, if_pos hx, if_neg (by omega), if_neg (by omega)]
    exact parseUintM_val M hM s _ (fun y hy => hd y (List.mem_cons_of_mem _ hy)) h
theorem dec_ne (u : Nat) : Lib.decDigits u ≠ [] := by
  rw [Lib.decDigits]
  split <;> simp
theorem parseInt_dec {u : Nat} (h : u < 9223372036854775808) : Lib.parseIntB 64 (Lib.decDigits u) = .ok (u : Int) := by
  obtain ⟨h1, h2⟩ := dec_val u
  have h3 := dec_ne u
  cases e : Lib.decDigits u with
  | nil => exact absurd e h3
  | cons c r =>
    rw [e] at h1 h2
    have hc := h1 c List.mem_cons_self
    rw [Lib.parseIntB_plain 64 c r (by omega) (by omega), Lib.parseUintB, if_neg (by simp), parseUintM_val (2 ^ 64 - 1) (by decide) _ 0 h1 (by rw [h2]; omega), h2]
    show (if 2 ^ (64 - 1) ≤ u then Lib.NumEnd.range else Lib.NumEnd.ok (u : Int)) = _
    rw [if_neg (by omega)]
end Go.Proofs.YtcnkbllbpimaiaaGreatDoorE
end

namespace Go.Proofs.YtcnkbllbpimaiaaGreatDoorE
open Go
set_option linter.unusedVariables false
/-! ### words -/
theorem iSplit {c : UInt8} {s : Str} (h : s.length < 4294967281) : strings_Split s [c] = some (splitM c s) := by
  unfold strings_Split
  rw [if_pos ⟨h, by simp⟩]
  have e := Lib.splitB_data (ba [c]) 0 (Lib.countB (ba s) (ba [c])) (ba s)
  rw [e]
  exact congrArg some (splitK_splitM c s.length s (Nat.le_refl _))
theorem sSplitL (c : UInt8) (t : Str) (ht : t.length ≤ 1000000) : ∀ (d i frm : Nat) (out : List Str) (j : Nat), i + d = t.length → frm ≤ i → (∀ m, frm ≤ m → m < i → t[m]? ≠ some c) → out.length ≤ i → d < j →
    ∃ (frm' : Nat) (out' : List Str), spec_l01Split.l0 j t (c.toNat : Int) (frm : Int) (i : Int) out = some ((frm' : Int), out') ∧ frm' ≤ t.length ∧ out'.length ≤ t.length ∧ out' ++ [t.drop frm'] = out ++ splitM c (t.drop frm) := by
  intro d
  induction d with
  | zero =>
    intro i frm out j hi hf hc ho hj
    obtain ⟨j, rfl⟩ : ∃ q, j = q + 1 := ⟨j - 1, by omega⟩
    obtain rfl : i = t.length := by omega
    refine ⟨frm, out, ?_, hf, ho, ?_⟩
    · rw [spec_l01Split.l0, dnlt (Nat.le_refl _)]
      rfl
    · rw [splitM_free]
      intro hm
      obtain ⟨m, hm, e⟩ := List.getElem_of_mem hm
      rw [List.length_drop] at hm
      rw [List.getElem_drop] at e
      exact hc (frm + m) (by omega) (by omega) (by rw [List.getElem?_eq_getElem (by omega), e])
  | succ d ih =>
    intro i frm out j hi hf hc ho hj
    obtain ⟨j, rfl⟩ : ∃ q, j = q + 1 := ⟨j - 1, by omega⟩
    have hlt : i < t.length := by omega
    rw [spec_l01Split.l0, dlt hlt, at_nat hlt]
    simp only [cond_true, Option.bind_some]
    rw [wsuc (by omega)]
    by_cases e : t[i] = c
    · rw [show (((t[i].toNat : Int) == (c.toNat : Int))) = true by rw [e]; exact beq_self_eq_true _, cut_ok hf (by omega)]
      simp only [cond_true, Option.bind_some]
      rw [app_ok (by simp; omega)]
      simp only [Option.bind_some]
      obtain ⟨f', o', h1, h2, h3, h4⟩ := ih (i + 1) (i + 1) (out ++ [(t.take i).drop frm]) j (by omega) (Nat.le_refl _) (fun m h h' => by omega) (by simp; omega) (by omega)
      refine ⟨f', o', h1, h2, h3, ?_⟩
      rw [h4]
      have hd : t.drop frm = (t.take i).drop frm ++ c :: t.drop (i + 1) := by
        conv => lhs; rw [← List.take_append_drop i t, List.drop_eq_getElem_cons hlt, e]
        rw [List.drop_append_of_le_length (by rw [List.length_take]; omega)]
      rw [hd, splitM_app _ (fun hm => ?_), List.append_assoc]
      · rfl
      · obtain ⟨m, hm, e2⟩ := List.getElem_of_mem hm
        rw [List.length_drop, List.length_take] at hm
        rw [List.getElem_drop, List.getElem_take] at e2
        exact hc (frm + m) (by omega) (by omega) (by rw [List.getElem?_eq_getElem (by omega), e2])
    · have hne : ((t[i].toNat : Int) == (c.toNat : Int)) = false := by
        rw [beqd]
        refine decide_eq_false fun q => e ?_
        have : t[i].toNat = c.toNat := by omega
        exact UInt8.toNat_inj.1 this
      rw [hne]
      simp only [cond_false]
      refine ih (i + 1) frm out j (by omega) (by omega) (fun m h h' => ?_) (by omega) (by omega)
      by_cases hm : m < i
      · exact hc m h hm
      · obtain rfl : m = i := by omega
        rw [List.getElem?_eq_getElem hlt]
        intro q
        exact e (Option.some.inj q)
theorem sSplit {c : UInt8} {t : Str} (ht : t.length ≤ 1000000) {k : Nat} (hk : t.length < k) : spec_l01Split k t (c.toNat : Int) = some (splitM c t) := by
  obtain ⟨f', o', h1, h2, h3, h4⟩ := sSplitL c t ht t.length 0 0 [] k (Nat.zero_add _) (Nat.le_refl _) (fun m h h' => by omega) (by simp) hk
  have h1 : spec_l01Split.l0 k t (c.toNat : Int) 0 0 [] = some ((f' : Int), o') := h1
  unfold spec_l01Split
  rw [h1]
  simp only [Option.bind_some]
  rw [cut_ok h2 (Nat.le_refl _)]
  simp only [Option.bind_some]
  rw [app_ok (by simp; omega)]
  simp only [Option.bind_some]
  rw [List.take_length, h4]
  rfl
/-! ### numbers -/
theorem iNumW {w : Str} (h : w.length ≤ 1000000) : ∃ v, impl_wordNumber w = some v ∧ ∀ n : Int, 0 ≤ n → n < 9223372036854775808 → w = decM n → v = n := by
  refine ⟨wordNum w, by unfold impl_wordNumber; rw [if_pos (by omega)], fun n h0 h1 e => ?_⟩
  unfold wordNum
  subst e
  unfold decM
  obtain ⟨u, rfl⟩ : ∃ u : Nat, n = (u : Int) := ⟨n.toNat, by omega⟩
  rw [Int.toNat_natCast, parseInt_dec (by omega)]
  dsimp only
  rw [if_neg]
  intro q
  rcases q with q | q
  · omega
  · refine q ?_
    unfold Lib.itoa
    rw [if_neg (by omega), Int.toNat_natCast]
theorem decM_digs (n : Int) : digs (decM n) := (dec_val n.toNat).1
theorem decM_val {n : Int} (h : 0 ≤ n) : (valD 0 (decM n) : Int) = n := by
  have := (dec_val n.toNat).2
  unfold decM
  rw [this]
  omega
theorem dec_head : ∀ u : Nat, 0 < u → (Lib.decDigits u).head? ≠ some 48 := by
  intro u
  induction u using Nat.strongRecOn with
  | _ u ih =>
  intro h
  by_cases h10 : u < 10
  · rw [dec_small h10]
    intro q
    have q : UInt8.ofNat (48 + u) = 48 := Option.some.inj q
    have := congrArg UInt8.toNat q
    rw [dig_nat h10] at this
    have h48 : (48 : UInt8).toNat = 48 := rfl
    omega
  · rw [dec_big h10]
    have := ih (u / 10) (by omega) (by omega)
    have hne := dec_ne (u / 10)
    cases e : Lib.decDigits (u / 10) with
    | nil => exact absurd e hne
    | cons c r => rw [e] at this; exact this
theorem valD_lt : ∀ (s : Str) (a : Nat), digs s → valD a s < (a + 1) * 10 ^ s.length
  | [], a, _ => by show a < _; simp
  | x :: s, a, h => by
    have hx := h x List.mem_cons_self
    have := valD_lt s (stepD a x) (fun y hy => h y (List.mem_cons_of_mem _ hy))
    rw [valD_cons, List.length_cons, Nat.pow_succ, Nat.mul_comm (10 ^ s.length) 10, ← Nat.mul_assoc]
    refine Nat.lt_of_lt_of_le this (Nat.mul_le_mul_right _ ?_)
    unfold stepD
    omega
/-- What a digit adds. -/
theorem sNumL (w : Str) (hw : w.length ≤ 9) : ∀ (d i : Nat) (a : Nat) (j : Nat), i + d = w.length → a < 10 ^ i → d < j →
    ∃ r, spec_l17Num.l0 j w (a : Int) (i : Int) = some r ∧ (digs (w.drop i) → r = .inl (valD a (w.drop i) : Nat)) := by
  intro d
  induction d with
  | zero =>
    intro i a j hi ha hj
    obtain ⟨j, rfl⟩ : ∃ q, j = q + 1 := ⟨j - 1, by omega⟩
    obtain rfl : i = w.length := by omega
    refine ⟨.inl (a : Int), ?_, fun _ => ?_⟩
    · rw [spec_l17Num.l0, dnlt (Nat.le_refl _)]; rfl
    · rw [List.drop_length]; rfl
  | succ d ih =>
    intro i a j hi ha hj
    obtain ⟨j, rfl⟩ : ∃ q, j = q + 1 := ⟨j - 1, by omega⟩
    have hlt : i < w.length := by omega
    have hd : w.drop i = w[i] :: w.drop (i + 1) := List.drop_eq_getElem_cons hlt
    have h9 : (10 : Nat) ^ i ≤ 10 ^ 8 := Nat.pow_le_pow_right (by omega) (by omega)
    have h256 := w[i].toNat_lt
    rw [spec_l17Num.l0, dlt hlt, at_nat hlt]
    simp only [cond_true, Option.bind_some]
    by_cases c1 : w[i].toNat < 48
    · rw [decide_eq_true (by omega : (w[i].toNat : Int) < 48)]
      refine ⟨_, rfl, fun q => ?_⟩
      have := q w[i] (by rw [hd]; exact List.mem_cons_self)
      omega
    · rw [decide_eq_false (by omega : ¬ (w[i].toNat : Int) < 48)]
      simp only [cond_false]
      by_cases c2 : 57 < w[i].toNat
      · rw [decide_eq_true (by omega : (57 : Int) < (w[i].toNat : Int))]
        refine ⟨_, rfl, fun q => ?_⟩
        have := q w[i] (by rw [hd]; exact List.mem_cons_self)
        omega
      · rw [decide_eq_false (by omega : ¬ (57 : Int) < (w[i].toNat : Int))]
        simp only [cond_false]
        have e1 : IntKind.wrap .u8 ((w[i].toNat : Int) - 48) = ((w[i].toNat - 48 : Nat) : Int) := by
          simp [IntKind.wrap, IntKind.bits, IntKind.signed]
          omega
        have ha8 : a < 100000000 := by omega
        rw [e1, wsuc (by omega), w64 (n := ((w[i].toNat - 48 : Nat) : Int)) (by omega) (by omega), w64 (n := 10 * (a : Int)) (by omega) (by omega), w64 (by omega) (by omega)]
        have e2 : 10 * (a : Int) + ((w[i].toNat - 48 : Nat) : Int) = ((stepD a w[i] : Nat) : Int) := by unfold stepD; omega
        rw [e2]
        obtain ⟨r, h1, h2⟩ := ih (i + 1) (stepD a w[i]) j (by omega) (by unfold stepD; rw [Nat.pow_succ]; omega) (by omega)
        refine ⟨r, h1, fun q => ?_⟩
        rw [h2 (fun x hx => q x (by rw [hd]; exact List.mem_cons_of_mem _ hx)), hd, valD_cons]
theorem sNumW (w : Str) : ∃ v, (∀ k, 20 ≤ k → spec_l17Num k w = some v) ∧ ∀ n : Int, 0 ≤ n → n ≤ 1000000 → w = decM n → v = n := by
  by_cases c1 : w.length < 1 ∨ 9 < w.length
  · refine ⟨-1, fun k _ => ?_, fun n h0 h1 e => ?_⟩
    · unfold spec_l17Num
      rw [show (decide ((w.length : Int) < 1) || decide (9 < (w.length : Int))) = true by simp; omega]
      rfl
    · exfalso
      have hl := dec_len 8 n.toNat (by omega)
      have hne := decM_ne n
      subst e
      unfold decM at c1 hne
      have := List.length_pos_iff.2 hne
      omega
  · have hw : w.length ≤ 9 := by omega
    obtain ⟨r, h1, h2⟩ := sNumL w hw w.length 0 0 (w.length + 1) (Nat.zero_add _) (by simp) (by omega)
    have hrun : ∀ k, 20 ≤ k → ∃ r, spec_l17Num.l0 k w 0 0 = some r ∧ (digs w → r = .inl (valD 0 w : Nat)) := fun k hk => by
      have := sNumL w hw w.length 0 0 k (Nat.zero_add _) (by simp) (by omega)
      simpa using this
    have hdet : ∀ k, 20 ≤ k → spec_l17Num.l0 k w 0 0 = spec_l17Num.l0 20 w 0 0 := by
      intro k hk
      have mono : ∀ (d i : Nat) (a : Int) (j j' : Nat), i + d = w.length → d < j → d < j' → spec_l17Num.l0 j w a (i : Int) = spec_l17Num.l0 j' w a (i : Int) := by
        intro d
        induction d with
        | zero =>
          intro i a j j' hi hj hj'
          obtain ⟨j, rfl⟩ : ∃ q, j = q + 1 := ⟨j - 1, by omega⟩
          obtain ⟨j', rfl⟩ : ∃ q, j' = q + 1 := ⟨j' - 1, by omega⟩
          obtain rfl : i = w.length := by omega
          rw [spec_l17Num.l0, spec_l17Num.l0, dnlt (Nat.le_refl _)]
          rfl
        | succ d ih =>
          intro i a j j' hi hj hj'
          obtain ⟨j, rfl⟩ : ∃ q, j = q + 1 := ⟨j - 1, by omega⟩
          obtain ⟨j', rfl⟩ : ∃ q, j' = q + 1 := ⟨j' - 1, by omega⟩
          have hlt : i < w.length := by omega
          rw [spec_l17Num.l0, spec_l17Num.l0, at_nat hlt, wsuc (by omega)]
          simp only [Option.bind_some]
          rw [ih (i + 1) _ j j' (by omega) (by omega) (by omega)]
      exact mono w.length 0 0 k 20 (Nat.zero_add _) (by omega) (by omega)
    have hcond : (decide ((w.length : Int) < 1) || decide (9 < (w.length : Int))) = false := by
      rw [Bool.or_eq_false_iff]; exact ⟨decide_eq_false (by omega), decide_eq_false (by omega)⟩
    have hk : ∃ v, (∀ k, 20 ≤ k → spec_l17Num k w = some v) ∧ (digs w → (w.length = 1 ∨ w.head? ≠ some 48) → v = (valD 0 w : Nat)) := by
      obtain ⟨r, hr, hr2⟩ := hrun 20 (Nat.le_refl _)
      have fin : (bif decide (1 < (w.length : Int)) then false else true) = true ∨ (bif decide (1 < (w.length : Int)) then false else true) = false := by cases (bif decide (1 < (w.length : Int)) then false else true) <;> simp
      have h0 : 0 < w.length := by omega
      have ha : at? w 0 = some w[0] := at_nat (l := w) (i := 0) h0
      have val : ∃ v, (∀ k, 20 ≤ k → (Option.bind (spec_l17Num.l0 k w 0 0) fun
          | .inl y => some y
          | .inr y => some y) = some v) ∧ (digs w → v = (valD 0 w : Nat)) := by
        cases r with
        | inl y => exact ⟨y, fun k hk => by rw [hdet k hk, hr]; rfl, fun q => by have := hr2 q; cases this; rfl⟩
        | inr y => exact ⟨y, fun k hk => by rw [hdet k hk, hr]; rfl, fun q => by have := hr2 q; cases this⟩
      obtain ⟨v, v1, v2⟩ := val
      by_cases c2 : 1 < w.length
      · by_cases c3 : w[0] = 48
        · refine ⟨-1, fun k hk => ?_, fun q1 q2 => ?_⟩
          · unfold spec_l17Num
            rw [hcond, decide_eq_true (by omega : (1 : Int) < (w.length : Int)), ha]
            simp only [cond_false, cond_true, Option.bind_some]
            rw [c3]
            rfl
          · exfalso
            rcases q2 with q2 | q2
            · omega
            · refine q2 ?_
              cases w with
              | nil => simp at h0
              | cons x r => rw [show x = 48 from c3]; rfl
        · refine ⟨v, fun k hk => ?_, fun q1 _ => v2 q1⟩
          unfold spec_l17Num
          rw [hcond, decide_eq_true (by omega : (1 : Int) < (w.length : Int)), ha]
          simp only [cond_false, cond_true, Option.bind_some]
          have hne : ((w[0].toNat : Int) == 48) = false := by
            rw [beqd]
            refine decide_eq_false fun q => c3 ?_
            have : w[0].toNat = (48 : UInt8).toNat := by show w[0].toNat = 48; omega
            exact UInt8.toNat_inj.1 this
          rw [hne]
          exact v1 k hk
      · refine ⟨v, fun k hk => ?_, fun q1 _ => v2 q1⟩
        unfold spec_l17Num
        rw [hcond, decide_eq_false (by omega : ¬ (1 : Int) < (w.length : Int))]
        exact v1 k hk
    obtain ⟨v, hv, hv2⟩ := hk
    refine ⟨v, hv, fun n h0 h1 e => ?_⟩
    subst e
    rw [hv2 (decM_digs n) ?_, decM_val h0]
    by_cases hz : n = 0
    · left; subst hz; unfold decM; rw [show (0 : Int).toNat = 0 from rfl, dec_small (by omega)]; rfl
    · right
      exact dec_head n.toNat (by omega)
end Go.Proofs.YtcnkbllbpimaiaaGreatDoorE

namespace Go.Proofs.YtcnkbllbpimaiaaGreatDoorE
open Go
set_option linter.unusedVariables false
/-! ### lists of numbers -/
theorem decM_no {c : UInt8} (h : c.toNat < 48) (n : Int) : c ∉ decM n := fun hm => by
  have := decM_digs n c hm
  omega
theorem join_split : ∀ (l : List Int), l ≠ [] → splitM 44 (Lib.join (l.map decM) [44]) = l.map decM
  | [], h => absurd rfl h
  | [n], _ => by
    rw [List.map_cons, Lib.join_cons]
    show splitM 44 (decM n ++ []) = _
    rw [List.append_nil, splitM_free (decM_no (by decide) n)]
    rfl
  | n :: m :: l, _ => by
    rw [List.map_cons, Lib.join_cons]
    have e : Lib.joinTail [44] ((m :: l).map decM) = 44 :: Lib.join ((m :: l).map decM) [44] := by
      rw [List.map_cons, Lib.join_cons]
      unfold Lib.joinTail
      simp
    rw [e, splitM_app _ (decM_no (by decide) n), join_split (m :: l) (by simp)]
theorem numsM_text {w : Str} {l : List Int} (h : w = numsM l) : (w = [45] → l = []) ∧ (w ≠ [45] → l ≠ [] ∧ splitM 44 w = l.map decM) := by
  subst h
  unfold numsM
  by_cases c : l = []
  · rw [if_pos c]
    exact ⟨fun _ => c, fun q => absurd rfl q⟩
  · rw [if_neg c]
    refine ⟨fun q => ?_, fun _ => ⟨c, join_split l c⟩⟩
    exfalso
    cases l with
    | nil => exact c rfl
    | cons n r =>
      rw [List.map_cons, Lib.join_cons] at q
      have hne := decM_ne n
      cases e : decM n with
      | nil => exact hne e
      | cons x s =>
        rw [e] at q
        have hx : x = 45 := by
          have := congrArg List.head? q
          simpa using this
        have := decM_digs n x (by rw [e]; exact List.mem_cons_self)
        rw [hx] at this
        have h45 : (45 : UInt8).toNat = 45 := rfl
        omega
/-- A loop that reads the words one by one. -/
theorem read_loop (L : Nat → Int → List Int → Option (List Int)) (ws : List Str) (f : Str → Int) (n : Nat) (hn : n ≤ ws.length)
    (hs : ∀ i, (h : i < n) → ∀ (acc : List Int) (j : Nat), acc.length = i → L (j + 1) (i : Int) acc = L j ((i + 1 : Nat) : Int) (acc ++ [f (ws[i]'(by omega))]))
    (he : ∀ (acc : List Int) (j : Nat), L (j + 1) (n : Int) acc = some acc) : ∀ k, n < k → L k 0 [] = some ((ws.take n).map f) := by
  have key : ∀ (d i : Nat), i + d = n → ∀ j, d < j → L j (i : Int) ((ws.take i).map f) = some ((ws.take n).map f) := by
    intro d
    induction d with
    | zero =>
      intro i hi j hj
      obtain ⟨j, rfl⟩ : ∃ q, j = q + 1 := ⟨j - 1, by omega⟩
      obtain rfl : i = n := by omega
      exact he _ j
    | succ d ih =>
      intro i hi j hj
      obtain ⟨j, rfl⟩ : ∃ q, j = q + 1 := ⟨j - 1, by omega⟩
      rw [hs i (by omega) _ j (by simp; omega)]
      have := ih (i + 1) (by omega) j (by omega)
      rwa [take_map_succ f (by omega)] at this
  intro k hk
  exact key n 0 (Nat.zero_add _) k hk
theorem map_back {f : Str → Int} {l : List Int} (h : ∀ n ∈ l, f (decM n) = n) : (l.map decM).map f = l := by
  rw [List.map_map]
  conv => rhs; rw [← List.map_id l]
  exact List.map_congr_left fun n hn => h n hn
def Nums (l : List Int) (m : Nat) : Prop := l.length ≤ m ∧ ∀ n ∈ l, 0 ≤ n ∧ n ≤ 1000000
theorem iNumsW {w : Str} (hw : w.length ≤ 8000) : ∃ v, (∀ k, 8002 ≤ k → impl_wordNumbers k w = some v) ∧ v.length ≤ 8001 ∧ ∀ l, Nums l 40 → w = numsM l → v = l := by
  by_cases c : w = [45]
  · refine ⟨[], fun k _ => ?_, by simp, fun l hl e => ((numsM_text e).1 c).symm⟩
    unfold impl_wordNumbers
    rw [show (w == ([45] : Str)) = true by simpa using c]
    rfl
  · have hl := splitM_len 44 w
    have hm : ∀ x ∈ splitM 44 w, ∃ v, impl_wordNumber x = some v ∧ ∀ n : Int, 0 ≤ n → n < 9223372036854775808 → x = decM n → v = n := fun x hx => iNumW (by have := (splitM_mem hx).2; omega)
    let f : Str → Int := wordNum
    have hf : ∀ x ∈ splitM 44 w, impl_wordNumber x = some (f x) := fun x hx => by
      unfold impl_wordNumber
      rw [if_pos (by have := (splitM_mem hx).2; omega)]
    refine ⟨(splitM 44 w).map f, fun k hk => ?_, by simp; omega, fun l hl e => ?_⟩
    · unfold impl_wordNumbers
      rw [show (w == ([45] : Str)) = false by simpa using c, iSplit (by omega)]
      simp only [cond_false, Option.bind_some]
      have run := read_loop (fun j i acc => impl_wordNumbers.l0 j ((splitM 44 w).length : Int) i acc (splitM 44 w)) (splitM 44 w) f (splitM 44 w).length (Nat.le_refl _) (fun i hi acc j ha => by
        show impl_wordNumbers.l0 (j + 1) _ (i : Int) acc _ = impl_wordNumbers.l0 j _ ((i + 1 : Nat) : Int) (acc ++ [f _]) _
        rw [impl_wordNumbers.l0, dlt hi, at_nat hi, wsuc (by omega)]
        simp only [cond_true, Option.bind_some]
        rw [hf _ (List.getElem_mem hi)]
        simp only [Option.bind_some]
        rw [app_ok (by simp; omega)]
        rfl) (fun acc j => by
        show impl_wordNumbers.l0 (j + 1) _ ((splitM 44 w).length : Int) acc _ = _
        rw [impl_wordNumbers.l0, dnlt (Nat.le_refl _)]
        rfl) k (by omega)
      have run : impl_wordNumbers.l0 k ((splitM 44 w).length : Int) 0 [] (splitM 44 w) = _ := run
      rw [run, List.take_length]
      rfl
    · obtain ⟨hne, hsp⟩ := (numsM_text e).2 c
      rw [hsp]
      refine map_back fun n hn => ?_
      obtain ⟨v, hv, hv2⟩ := hm (decM n) (by rw [hsp]; exact List.mem_map_of_mem hn)
      have := hf (decM n) (by rw [hsp]; exact List.mem_map_of_mem hn)
      rw [hv] at this
      have h0 := hl.2 n hn
      rw [← Option.some.inj this]
      exact hv2 n h0.1 (by omega) rfl
theorem sNumsW {w : Str} (hw : w.length ≤ 8000) : ∃ v, (∀ k, 8002 ≤ k → spec_l17List k w = some v) ∧ v.length ≤ 8001 ∧ ∀ l, Nums l 40 → w = numsM l → v = l := by
  by_cases c : w = [45]
  · refine ⟨[], fun k _ => ?_, by simp, fun l hl e => ((numsM_text e).1 c).symm⟩
    unfold spec_l17List
    rw [show (w == ([45] : Str)) = true by simpa using c]
    rfl
  · have hl := splitM_len 44 w
    let f : Str → Int := fun x => (sNumW x).choose
    have hf : ∀ x, (∀ k, 20 ≤ k → spec_l17Num k x = some (f x)) ∧ ∀ n : Int, 0 ≤ n → n ≤ 1000000 → x = decM n → f x = n := fun x => (sNumW x).choose_spec
    refine ⟨((splitM 44 w).take (min (splitM 44 w).length 41)).map f, fun k hk => ?_, by simp; omega, fun l hl e => ?_⟩
    · unfold spec_l17List
      have hsp : spec_l01Split k w 44 = some (splitM 44 w) := sSplit (c := 44) (by omega) (by omega)
      rw [show (w == ([45] : Str)) = false by simpa using c, hsp]
      simp only [cond_false, Option.bind_some]
      have run := read_loop (fun j i acc => spec_l17List.l0 k j i acc (splitM 44 w)) (splitM 44 w) f (min (splitM 44 w).length 41) (Nat.min_le_left _ _) (fun i hi acc j ha => by
        have hi2 : i < (splitM 44 w).length := by omega
        show spec_l17List.l0 k (j + 1) (i : Int) acc _ = spec_l17List.l0 k j ((i + 1 : Nat) : Int) (acc ++ [f _]) _
        rw [spec_l17List.l0, dlt hi2, decide_eq_true (by omega : (i : Int) ≤ 40), at_nat hi2, wsuc (by omega)]
        simp only [Bool.and_self, cond_true, Option.bind_some]
        rw [(hf _).1 k (by omega)]
        simp only [Option.bind_some]
        rw [app_ok (by simp; omega)]
        rfl) (fun acc j => by
        show spec_l17List.l0 k (j + 1) ((min (splitM 44 w).length 41 : Nat) : Int) acc _ = _
        rw [spec_l17List.l0]
        have : (decide (((min (splitM 44 w).length 41 : Nat) : Int) < ((splitM 44 w).length : Int)) && decide (((min (splitM 44 w).length 41 : Nat) : Int) ≤ 40)) = false := by
          rw [Bool.and_eq_false_iff]
          by_cases q : (splitM 44 w).length ≤ 41
          · left; exact decide_eq_false (by omega)
          · right; exact decide_eq_false (by omega)
        rw [this]
        rfl) k (by omega)
      have run : spec_l17List.l0 k k 0 [] (splitM 44 w) = _ := run
      rw [run]
      rfl
    · obtain ⟨hne, hsp⟩ := (numsM_text e).2 c
      rw [hsp, List.length_map, Nat.min_eq_left (by have := hl.1; omega), List.take_of_length_le (by simp)]
      exact map_back fun n hn => (hf (decM n)).2 n (hl.2 n hn).1 (hl.2 n hn).2 rfl
/-! ### hexadecimal digits -/
/-- A loop that reads two letters at a time. -/
theorem hex_back (b : UInt8) : hexNum 0 (listByte (hexP b)) = some b.toNat := by
  have h : ∀ n : Nat, n < 256 → hexNum 0 (listByte [((hexD.getD (n / 16) 0).toNat : Int), ((hexD.getD (n % 16) 0).toNat : Int)]) = some n := by decide +kernel
  exact h b.toNat b.toNat_lt
theorem hexDig_le {c : UInt8} {d : Nat} (h : hexDig c = some d) : d ≤ 15 := by
  unfold hexDig at h
  split at h
  · cases h; omega
  · split at h
    · cases h; omega
    · cases h
theorem hexNum_le {a b : UInt8} {n : Nat} (h : hexNum 0 [a, b] = some n) : n ≤ 255 := by
  unfold hexNum at h
  split at h
  · rename_i d hd
    have := hexDig_le hd
    unfold hexNum at h
    split at h
    · rename_i e he
      have := hexDig_le he
      unfold hexNum at h
      cases h
      omega
    · cases h
  · cases h
/-- What the digits of a text are worth, two by two. -/
def unhexM : Str → List Int
  | a :: b :: s => (((hexNum 0 [a, b]).getD 0 : Nat) : Int) :: unhexM s
  | _ => []
theorem unhexM_len : ∀ s : Str, 2 * (unhexM s).length ≤ s.length
  | [] => by simp [unhexM]
  | [_] => by simp [unhexM]
  | a :: b :: s => by have := unhexM_len s; simp [unhexM]; omega
theorem unhex_hex : ∀ t : Str, listByte (unhexM (hexM t)) = t
  | [] => rfl
  | b :: t => by
    have e : hexM (b :: t) = listByte (hexP b) ++ hexM t := by
      unfold hexM hexL
      rw [List.flatMap_cons, listByte_app]
    have h := hex_back b
    unfold hexP at e h
    rw [e]
    show listByte (unhexM (_ :: _ :: hexM t)) = _
    rw [unhexM]
    have h : hexNum 0 [UInt8.ofNat ((hexD.getD (b.toNat / 16) 0).toNat : Int).toNat, UInt8.ofNat ((hexD.getD (b.toNat % 16) 0).toNat : Int).toNat] = some b.toNat := h
    rw [h]
    show UInt8.ofNat _ :: listByte (unhexM (hexM t)) = _
    rw [unhex_hex t]
    simp
theorem iUnhexL : ∀ (n : Nat) (t : Str) (acc : List Int) (j : Nat), t.length ≤ n → acc.length + t.length ≤ 1000000 → n < j → impl_unhex.l0 j t acc = some (acc ++ unhexM t) := by
  intro n
  induction n with
  | zero =>
    intro t acc j ht ha hj
    obtain ⟨j, rfl⟩ : ∃ q, j = q + 1 := ⟨j - 1, by omega⟩
    have : t = [] := List.eq_nil_of_length_eq_zero (by omega)
    subst this
    rw [impl_unhex.l0]
    simp [unhexM]
  | succ n ih =>
    intro t acc j ht ha hj
    obtain ⟨j, rfl⟩ : ∃ q, j = q + 1 := ⟨j - 1, by omega⟩
    match t, ht, ha with
    | [], _, _ => rw [impl_unhex.l0]; simp [unhexM]
    | [_], _, _ => rw [impl_unhex.l0]; simp [unhexM]
    | a :: b :: s, ht, ha =>
      rw [impl_unhex.l0]
      have hl : (a :: b :: s).length = s.length + 2 := rfl
      rw [decide_eq_true (by rw [hl]; omega : (2 : Int) ≤ ((a :: b :: s).length : Int))]
      have c1 : cut? (a :: b :: s) 0 2 = some [a, b] := cut_ok (l := a :: b :: s) (i := 0) (j := 2) (by omega) (by rw [hl]; omega)
      have c2 : cut? (a :: b :: s) 2 ((a :: b :: s).length : Int) = some s := by
        have := cut_ok (l := a :: b :: s) (i := 2) (j := (a :: b :: s).length) (by rw [hl]; omega) (Nat.le_refl _)
        rw [List.take_length] at this
        exact this
      rw [c1, c2]
      simp only [cond_true, Option.bind_some]
      unfold strconv_ParseUint
      rw [if_pos ⟨rfl, rfl, rfl⟩]
      simp only [Option.bind_some]
      have hw : IntKind.wrap .u8 (((hexNum 0 [a, b]).getD 0 : Nat) : Int) = (((hexNum 0 [a, b]).getD 0 : Nat) : Int) := by
        have : (hexNum 0 [a, b]).getD 0 ≤ 255 := by
          cases e : hexNum 0 [a, b] with
          | none => simp
          | some n => exact hexNum_le e
        simp [IntKind.wrap, IntKind.bits, IntKind.signed]
        omega
      rw [hw, app_ok (by rw [hl] at ha; simp; omega)]
      simp only [Option.bind_some]
      rw [ih s _ j (by rw [hl] at ht; omega) (by rw [hl] at ha; simp; omega) (by omega), List.append_assoc]
      rfl
theorem iUnhex {t : Str} (ht : t.length ≤ 8000) {k : Nat} (hk : 8002 ≤ k) : impl_unhex k t = some (listByte (unhexM t)) := by
  unfold impl_unhex
  rw [iUnhexL t.length t [] k (Nat.le_refl _) (by simp; omega) (by omega)]
  rfl
/-- What a letter does to a number of hexadecimal digits, as the reference reads it. -/
def digS (n : Int) (c : UInt8) : Int := if 48 ≤ c.toNat ∧ c.toNat ≤ 57 then 16 * n + (c.toNat - 48 : Nat) else if 97 ≤ c.toNat ∧ c.toNat ≤ 102 then 16 * n + (c.toNat - 97 : Nat) + 10 else n
theorem digS_bd {n : Int} (h0 : 0 ≤ n) {m : Int} (h1 : n ≤ m) (c : UInt8) : 0 ≤ digS n c ∧ digS n c ≤ 16 * m + 15 := by
  unfold digS
  split
  · omega
  · split <;> omega
theorem sDigS (t : Str) (a i : Nat) (ha : a ≤ 8000) (hi : i < t.length) (hlt : i < a + 2) (n : Int) (h0 : 0 ≤ n) (h1 : n ≤ 1000) (j : Nat) : spec_l17Unhex.l0 (j + 1) t (a : Int) n (i : Int) = spec_l17Unhex.l0 j t (a : Int) (digS n t[i]) ((i + 1 : Nat) : Int) := by
  have h256 := t[i].toNat_lt
  rw [spec_l17Unhex.l0, at_nat hi, w64 (n := (a : Int) + 2) (by omega) (by omega), decide_eq_true (by omega : (i : Int) < (a : Int) + 2), wsuc (by omega), w64 (n := 16 * n) (by omega) (by omega)]
  simp only [cond_true, Option.bind_some]
  unfold digS
  by_cases c1 : 48 ≤ t[i].toNat
  · rw [decide_eq_true (by omega : (48 : Int) ≤ (t[i].toNat : Int))]
    simp only [cond_true]
    by_cases c2 : t[i].toNat ≤ 57
    · rw [decide_eq_true (by omega : (t[i].toNat : Int) ≤ 57), if_pos ⟨c1, c2⟩]
      have e1 : IntKind.wrap .u8 ((t[i].toNat : Int) - 48) = ((t[i].toNat - 48 : Nat) : Int) := by
        simp [IntKind.wrap, IntKind.bits, IntKind.signed]
        omega
      simp only [cond_true]
      rw [e1, w64 (n := ((t[i].toNat - 48 : Nat) : Int)) (by omega) (by omega), w64 (by omega) (by omega)]
    · rw [decide_eq_false (by omega : ¬ (t[i].toNat : Int) ≤ 57), if_neg (fun q => c2 q.2)]
      simp only [cond_false]
      by_cases c3 : 97 ≤ t[i].toNat
      · rw [decide_eq_true (by omega : (97 : Int) ≤ (t[i].toNat : Int))]
        simp only [cond_true]
        by_cases c4 : t[i].toNat ≤ 102
        · rw [decide_eq_true (by omega : (t[i].toNat : Int) ≤ 102), if_pos ⟨c3, c4⟩]
          have e1 : IntKind.wrap .u8 ((t[i].toNat : Int) - 97) = ((t[i].toNat - 97 : Nat) : Int) := by
            simp [IntKind.wrap, IntKind.bits, IntKind.signed]
            omega
          simp only [cond_true]
          rw [e1, w64 (n := ((t[i].toNat - 97 : Nat) : Int)) (by omega) (by omega), w64 (n := 16 * n + _) (by omega) (by omega), w64 (by omega) (by omega)]
        · rw [decide_eq_false (by omega : ¬ (t[i].toNat : Int) ≤ 102), if_neg (fun q => c4 q.2)]
          rfl
      · rw [decide_eq_false (by omega : ¬ (97 : Int) ≤ (t[i].toNat : Int)), if_neg (fun q => c3 q.1)]
        rfl
  · rw [decide_eq_false (by omega : ¬ (48 : Int) ≤ (t[i].toNat : Int)), if_neg (fun q => c1 q.1), decide_eq_false (by omega : ¬ (97 : Int) ≤ (t[i].toNat : Int)), if_neg (fun q => by omega)]
    rfl
/-- What the digits of a text are worth, two by two, as the reference reads them. -/
def unhexS : Str → List Int
  | a :: b :: s => digS (digS 0 a) b :: unhexS s
  | _ => []
theorem unhexS_len : ∀ s : Str, 2 * (unhexS s).length ≤ s.length
  | [] => by simp [unhexS]
  | [_] => by simp [unhexS]
  | a :: b :: s => by have := unhexS_len s; simp [unhexS]; omega
theorem hex_backS (b : UInt8) : digS (digS 0 (UInt8.ofNat ((hexD.getD (b.toNat / 16) 0).toNat : Int).toNat)) (UInt8.ofNat ((hexD.getD (b.toNat % 16) 0).toNat : Int).toNat) = (b.toNat : Int) := by
  have h : ∀ n : Nat, n < 256 → digS (digS 0 (UInt8.ofNat ((hexD.getD (n / 16) 0).toNat : Int).toNat)) (UInt8.ofNat ((hexD.getD (n % 16) 0).toNat : Int).toNat) = (n : Int) := by decide +kernel
  exact h b.toNat b.toNat_lt
theorem unhexS_hex : ∀ t : Str, listByte (unhexS (hexM t)) = t
  | [] => rfl
  | b :: t => by
    have e : hexM (b :: t) = UInt8.ofNat ((hexD.getD (b.toNat / 16) 0).toNat : Int).toNat :: UInt8.ofNat ((hexD.getD (b.toNat % 16) 0).toNat : Int).toNat :: hexM t := by
      unfold hexM hexL
      rw [List.flatMap_cons, listByte_app]
      rfl
    rw [e, unhexS, hex_backS]
    show UInt8.ofNat _ :: listByte (unhexS (hexM t)) = _
    rw [unhexS_hex t]
    simp
theorem sUnhexL (t : Str) (ht : t.length ≤ 8000) {k : Nat} (hk : 8002 ≤ k) : ∀ (n i : Nat) (acc : List Int) (j : Nat), t.length - i ≤ n → i ≤ t.length → acc.length ≤ i → n < j → spec_l17Unhex.l1 k j t (i : Int) acc = some (acc ++ unhexS (t.drop i)) := by
  intro n
  induction n with
  | zero =>
    intro i acc j hn hi ha hj
    obtain ⟨j, rfl⟩ : ∃ q, j = q + 1 := ⟨j - 1, by omega⟩
    rw [spec_l17Unhex.l1, wsuc (by omega), dnlt (by omega), List.drop_eq_nil_of_le (by omega)]
    simp [unhexS]
  | succ n ih =>
    intro i acc j hn hi ha hj
    obtain ⟨j, rfl⟩ : ∃ q, j = q + 1 := ⟨j - 1, by omega⟩
    by_cases c : i + 1 < t.length
    · have d1 : t.drop i = t[i] :: t[i + 1] :: t.drop (i + 2) := by
        rw [List.drop_eq_getElem_cons (by omega : i < t.length), List.drop_eq_getElem_cons c]
      obtain ⟨k, rfl⟩ : ∃ q, k = q + 3 := ⟨k - 3, by omega⟩
      have hb1 := digS_bd (n := 0) (m := 0) (by omega) (by omega) t[i]
      have hb2 := digS_bd (m := 15) hb1.1 (by omega) t[i + 1]
      have hin : spec_l17Unhex.l0 (k + 3) t (i : Int) 0 (i : Int) = some (digS (digS 0 t[i]) t[i + 1]) := by
        rw [sDigS t i i (by omega) (by omega) (by omega) 0 (by omega) (by omega) (k + 2), sDigS t i (i + 1) (by omega) c (by omega) _ hb1.1 (by omega) (k + 1), spec_l17Unhex.l0, w64 (n := (i : Int) + 2) (by omega) (by omega), decide_eq_false (by omega)]
        rfl
      rw [spec_l17Unhex.l1, wsuc (by omega), dlt c, hin]
      simp only [cond_true, Option.bind_some]
      have hw : IntKind.wrap .u8 (digS (digS 0 t[i]) t[i + 1]) = digS (digS 0 t[i]) t[i + 1] := by
        simp [IntKind.wrap, IntKind.bits, IntKind.signed]
        omega
      rw [hw, app_ok (by simp; omega), show IntKind.wrap .i64 ((i : Int) + 2) = ((i + 2 : Nat) : Int) by rw [w64 (by omega) (by omega)]; omega]
      simp only [Option.bind_some]
      rw [ih (i + 2) _ j (by omega) (by omega) (by simp; omega) (by omega), d1, unhexS, List.append_assoc]
      rfl
    · rw [spec_l17Unhex.l1, wsuc (by omega), dnlt (by omega)]
      have : unhexS (t.drop i) = [] := by
        have hl : (t.drop i).length ≤ 1 := by rw [List.length_drop]; omega
        match t.drop i, hl with
        | [], _ => rfl
        | [_], _ => rfl
      rw [this]
      simp
theorem sUnhex {t : Str} (ht : t.length ≤ 8000) {k : Nat} (hk : 8002 ≤ k) : spec_l17Unhex k t = some (listByte (unhexS t)) := by
  unfold spec_l17Unhex
  have := sUnhexL t ht hk t.length 0 [] k (by omega) (Nat.zero_le _) (by simp) (by omega)
  have this : spec_l17Unhex.l1 k k t 0 [] = _ := this
  rw [this]
  rfl
end Go.Proofs.YtcnkbllbpimaiaaGreatDoorE

namespace Go.Proofs.YtcnkbllbpimaiaaGreatDoorE
open Go
set_option linter.unusedVariables false
/-! ### the words of a command -/
theorem letM_form {t : Str} (h : letM t ≠ []) : ∃ c, letM t = [c] ∧ 97 ≤ c.toNat ∧ c.toNat ≤ 122 ∧ t = List.replicate 8 c := by
  unfold letM at h ⊢
  match t, h with
  | [], h => exact absurd rfl h
  | c :: r, h =>
    dsimp only at h ⊢
    split at h
    · rename_i q
      rw [if_pos q]
      refine ⟨c, rfl, q.2.1, q.2.2.1, ?_⟩
      have : (c :: r).count c = (c :: r).length := by rw [q.2.2.2, q.1]
      rw [List.eq_replicate_iff]
      exact ⟨q.1, fun b hb => (List.count_eq_length.1 this b hb).symm⟩
    · exact absurd rfl h
theorem word1_no (o : Int) : (32 : UInt8) ∉ word1 o := by
  unfold word1
  rw [List.getD_eq_getElem?_getD]
  cases e : tab0[o.toNat]? with
  | none => simp
  | some x => exact (show ∀ x ∈ tab0, (32 : UInt8) ∉ x by decide) x (List.mem_of_getElem? e)
theorem word0_no (o : Int) : (32 : UInt8) ∉ word0 o := by
  unfold word0
  rw [List.getD_eq_getElem?_getD]
  cases e : tab1[o.toNat]? with
  | none => simp
  | some x => exact (show ∀ x ∈ tab1, (32 : UInt8) ∉ x by decide) x (List.mem_of_getElem? e)
theorem letM_no (t : Str) : (32 : UInt8) ∉ letM t := by
  by_cases h : letM t = []
  · rw [h]; simp
  · obtain ⟨c, e, h1, _⟩ := letM_form h
    rw [e]
    intro q
    have := List.mem_singleton.1 q
    rw [← this] at h1
    exact absurd h1 (by decide)
theorem dec_no (n : Int) : (32 : UInt8) ∉ decM n := decM_no (by decide) n
theorem hexM_no (t : Str) : (32 : UInt8) ∉ hexM t := by
  unfold hexM hexL listByte
  intro h
  obtain ⟨n, hn, e⟩ := List.mem_map.1 h
  obtain ⟨b, _, hb⟩ := List.mem_flatMap.1 hn
  have key : ∀ m : Nat, m < 256 → ∀ n ∈ [((hexD.getD (m / 16) 0).toNat : Int), ((hexD.getD (m % 16) 0).toNat : Int)], ¬ UInt8.ofNat n.toNat = 32 := by decide +kernel
  exact key b.toNat b.toNat_lt n hb e
theorem split2 {a : Str} (ha : (32 : UInt8) ∉ a) (s : Str) : splitM 32 (a ++ ([32] ++ s)) = a :: splitM 32 s := splitM_app s ha
def stepL (s : StepT) : List Str :=
  if s.1 = 1 then [word1 1, decM s.2.1]
  else if s.1 = 2 then [word1 2, decM s.2.1, letM s.2.2.2]
  else if s.1 = 3 then [word1 3, decM s.2.1, decM s.2.2.1]
  else if s.1 = 4 then [word1 4, decM s.2.1, decM s.2.2.1, letM s.2.2.2]
  else [word1 5, decM s.2.2.1]
theorem split_step {s : StepT} (h : StepFit s) (hne : stepM s ≠ []) : splitM 32 (stepM s) = stepL s := by
  obtain ⟨k, a, b, t⟩ := s
  have hk0 : 1 ≤ k := h.k0
  have hk1 : k ≤ 5 := h.k1
  have hl : (k = 2 ∨ k = 4) → letM t ≠ [] := fun q e => hne (by unfold stepM; rw [if_pos q, if_pos e])
  have cases5 : k = 1 ∨ k = 2 ∨ k = 3 ∨ k = 4 ∨ k = 5 := by omega
  rcases cases5 with rfl | rfl | rfl | rfl | rfl
  · show splitM 32 (word1 1 ++ ([32] ++ decM a)) = [word1 1, decM a]
    rw [split2 (word1_no 1), splitM_free (dec_no a)]
  · have e : stepM ((2 : Int), a, b, t) = (word1 2 ++ ([32] ++ decM a)) ++ ([32] ++ letM t) := by
      unfold stepM
      rw [if_pos (.inl rfl), if_neg (hl (.inl rfl))]
      rfl
    rw [e, List.append_assoc, List.append_assoc, split2 (word1_no 2), split2 (dec_no a), splitM_free (letM_no t)]
    rfl
  · show splitM 32 ((word1 3 ++ ([32] ++ decM a)) ++ ([32] ++ decM b)) = [word1 3, decM a, decM b]
    rw [List.append_assoc, List.append_assoc, split2 (word1_no 3), split2 (dec_no a), splitM_free (dec_no b)]
  · have e : stepM ((4 : Int), a, b, t) = ((word1 4 ++ ([32] ++ decM a)) ++ ([32] ++ decM b)) ++ ([32] ++ letM t) := by
      unfold stepM
      rw [if_pos (.inr rfl), if_neg (hl (.inr rfl))]
      rfl
    rw [e, List.append_assoc, List.append_assoc, List.append_assoc, List.append_assoc, split2 (word1_no 4), split2 (dec_no a), split2 (dec_no b), splitM_free (letM_no t)]
    rfl
  · show splitM 32 (word1 5 ++ ([32] ++ decM b)) = [word1 5, decM b]
    rw [split2 (word1_no 5), splitM_free (dec_no b)]
def cmdL (c : CmdT) : List Str :=
  if c.1 = 2 then stepL c.2.2.2.2
  else if c.1 = 1 then [word0 1, decM c.2.1, decM c.2.2.1, hexM c.2.2.2.1]
  else if c.1 = 7 ∨ c.1 = 9 then [word0 c.1, decM c.2.1]
  else [word0 c.1]
theorem split_cmd {c : CmdT} (h : CmdFit c) (hne : cmdM c ≠ []) : splitM 32 (cmdM c) = cmdL c := by
  unfold cmdM at hne ⊢
  unfold cmdL
  split
  · rename_i q
    rw [if_pos q] at hne
    exact split_step (h.s q) hne
  split
  · show splitM 32 (word0 1 ++ ([32] ++ (decM c.2.1 ++ ([32] ++ (decM c.2.2.1 ++ ([32] ++ hexM c.2.2.2.1)))))) = _
    rw [split2 (word0_no 1), split2 (dec_no _), split2 (dec_no _), splitM_free (hexM_no _)]
  split
  · rw [split2 (word0_no _), splitM_free (dec_no _)]
  · rw [splitM_free (word0_no _)]
/-! ### which word it is -/
def idxM (tab : List Str) (w : Str) : Int := match firstI (fun x => w == x) tab 0 with
  | some i => (i : Int)
  | none => -1
theorem idx_run (tab : List Str) (w : Str) (ht : tab.length ≤ 100) {k : Nat} (hk : 200 ≤ k) : slices_Index_string k tab w = some (idxM tab w) := by
  unfold slices_Index_string idxM
  have run := loop_find (fun j i => slices_Index_string.l0 j tab w (tab.length : Int) i) tab (fun x => w == x) (.inl ()) (fun i => .inr (i : Int)) (fun i hi => by
    refine ⟨fun hp j => ?_, fun hp j => ?_⟩
    · show slices_Index_string.l0 (j + 1) tab w (tab.length : Int) (i : Int) = slices_Index_string.l0 j tab w (tab.length : Int) ((i + 1 : Nat) : Int)
      rw [slices_Index_string.l0, dlt hi, at_nat hi, wsuc (by omega)]
      simp only [cond_true, Option.bind_some]
      rw [hp]
      rfl
    · show slices_Index_string.l0 (j + 1) tab w (tab.length : Int) (i : Int) = some (.inr (i : Int))
      rw [slices_Index_string.l0, dlt hi, at_nat hi]
      simp only [cond_true, Option.bind_some]
      rw [hp]
      rfl) (fun j => by
    show slices_Index_string.l0 (j + 1) tab w (tab.length : Int) (tab.length : Int) = some (.inl ())
    rw [slices_Index_string.l0, dnlt (Nat.le_refl _)]
    rfl) (by omega : tab.length < k)
  have run : slices_Index_string.l0 k tab w (tab.length : Int) 0 = _ := run
  rw [run]
  cases firstI (fun x => w == x) tab 0 <;> rfl
def kindS (w : Str) : Int × Int :=
  if w = word1 1 then (2, 1) else if w = word1 2 then (2, 2) else if w = word1 3 then (2, 3) else if w = word1 4 then (2, 4) else if w = word1 5 then (2, 5)
  else if w = word0 1 then (1, 0) else if w = word0 3 then (3, 0) else if w = word0 4 then (4, 0) else if w = word0 5 then (5, 0) else if w = word0 6 then (6, 0) else if w = word0 7 then (7, 0)
  else if w = word0 8 then (8, 0) else if w = word0 9 then (9, 0) else if w = word0 10 then (10, 0) else if w = word0 11 then (11, 0) else (0, 0)
theorem kinds0 (w : Str) (a : Nat) (h1 : 1 ≤ a) (h5 : a ≤ 5) (j : Nat) : spec_l17Kinds.l0 (j + 1) w (a : Int) = if w = word1 (a : Int) then some (.inr (2, (a : Int))) else spec_l17Kinds.l0 j w ((a + 1 : Nat) : Int) := by
  rw [spec_l17Kinds.l0, decide_eq_true (by omega : (a : Int) ≤ 5), sWords1 rfl (by omega) (by omega), wsuc (by omega)]
  simp only [cond_true, Option.bind_some]
  by_cases e : w = word1 (a : Int)
  · rw [if_pos e, show (w == word1 (a : Int)) = true by simpa using e]; rfl
  · rw [if_neg e, show (w == word1 (a : Int)) = false by simpa using e]; rfl
theorem kinds1 (w : Str) (a : Nat) (h1 : 1 ≤ a) (h5 : a ≤ 11) (j : Nat) : spec_l17Kinds.l1 (j + 1) w (a : Int) = if a ≠ 2 ∧ w = word0 (a : Int) then some (.inr ((a : Int), 0)) else spec_l17Kinds.l1 j w ((a + 1 : Nat) : Int) := by
  rw [spec_l17Kinds.l1, decide_eq_true (by omega : (a : Int) ≤ 11), wsuc (by omega)]
  simp only [cond_true]
  by_cases e2 : a = 2
  · subst e2
    rw [if_neg (fun q => q.1 rfl)]
    rfl
  · rw [bneT (by omega : ¬ (a : Int) = 2), sWords0 (by omega) (by omega) (by omega)]
    simp only [cond_true, Option.bind_some]
    by_cases e : w = word0 (a : Int)
    · rw [if_pos ⟨e2, e⟩, show (w == word0 (a : Int)) = true by simpa using e]; rfl
    · rw [if_neg (fun q => e q.2), show (w == word0 (a : Int)) = false by simpa using e]; rfl
theorem sKinds (w : Str) {k : Nat} (hk : 20 ≤ k) : spec_l17Kinds k w = some (kindS w) := by
  obtain ⟨k, rfl⟩ : ∃ q, k = q + 12 := ⟨k - 12, by omega⟩
  have a0 : spec_l17Kinds.l0 (k + 12) w 1 = if w = word1 1 then some (.inr (2, 1)) else spec_l17Kinds.l0 (k + 11) w 2 := kinds0 w 1 (by omega) (by omega) (k + 11)
  have a1 : spec_l17Kinds.l0 (k + 11) w 2 = if w = word1 2 then some (.inr (2, 2)) else spec_l17Kinds.l0 (k + 10) w 3 := kinds0 w 2 (by omega) (by omega) (k + 10)
  have a2 : spec_l17Kinds.l0 (k + 10) w 3 = if w = word1 3 then some (.inr (2, 3)) else spec_l17Kinds.l0 (k + 9) w 4 := kinds0 w 3 (by omega) (by omega) (k + 9)
  have a3 : spec_l17Kinds.l0 (k + 9) w 4 = if w = word1 4 then some (.inr (2, 4)) else spec_l17Kinds.l0 (k + 8) w 5 := kinds0 w 4 (by omega) (by omega) (k + 8)
  have a4 : spec_l17Kinds.l0 (k + 8) w 5 = if w = word1 5 then some (.inr (2, 5)) else spec_l17Kinds.l0 (k + 7) w 6 := kinds0 w 5 (by omega) (by omega) (k + 7)
  have a5 : spec_l17Kinds.l0 (k + 7) w 6 = some (.inl ()) := by rw [spec_l17Kinds.l0]; rfl
  have b0 : spec_l17Kinds.l1 (k + 12) w 1 = if (1 : Nat) ≠ 2 ∧ w = word0 1 then some (.inr (1, 0)) else spec_l17Kinds.l1 (k + 11) w 2 := kinds1 w 1 (by omega) (by omega) (k + 11)
  have b1 : spec_l17Kinds.l1 (k + 11) w 2 = if (2 : Nat) ≠ 2 ∧ w = word0 2 then some (.inr (2, 0)) else spec_l17Kinds.l1 (k + 10) w 3 := kinds1 w 2 (by omega) (by omega) (k + 10)
  have b2 : spec_l17Kinds.l1 (k + 10) w 3 = if (3 : Nat) ≠ 2 ∧ w = word0 3 then some (.inr (3, 0)) else spec_l17Kinds.l1 (k + 9) w 4 := kinds1 w 3 (by omega) (by omega) (k + 9)
  have b3 : spec_l17Kinds.l1 (k + 9) w 4 = if (4 : Nat) ≠ 2 ∧ w = word0 4 then some (.inr (4, 0)) else spec_l17Kinds.l1 (k + 8) w 5 := kinds1 w 4 (by omega) (by omega) (k + 8)
  have b4 : spec_l17Kinds.l1 (k + 8) w 5 = if (5 : Nat) ≠ 2 ∧ w = word0 5 then some (.inr (5, 0)) else spec_l17Kinds.l1 (k + 7) w 6 := kinds1 w 5 (by omega) (by omega) (k + 7)
  have b5 : spec_l17Kinds.l1 (k + 7) w 6 = if (6 : Nat) ≠ 2 ∧ w = word0 6 then some (.inr (6, 0)) else spec_l17Kinds.l1 (k + 6) w 7 := kinds1 w 6 (by omega) (by omega) (k + 6)
  have b6 : spec_l17Kinds.l1 (k + 6) w 7 = if (7 : Nat) ≠ 2 ∧ w = word0 7 then some (.inr (7, 0)) else spec_l17Kinds.l1 (k + 5) w 8 := kinds1 w 7 (by omega) (by omega) (k + 5)
  have b7 : spec_l17Kinds.l1 (k + 5) w 8 = if (8 : Nat) ≠ 2 ∧ w = word0 8 then some (.inr (8, 0)) else spec_l17Kinds.l1 (k + 4) w 9 := kinds1 w 8 (by omega) (by omega) (k + 4)
  have b8 : spec_l17Kinds.l1 (k + 4) w 9 = if (9 : Nat) ≠ 2 ∧ w = word0 9 then some (.inr (9, 0)) else spec_l17Kinds.l1 (k + 3) w 10 := kinds1 w 9 (by omega) (by omega) (k + 3)
  have b9 : spec_l17Kinds.l1 (k + 3) w 10 = if (10 : Nat) ≠ 2 ∧ w = word0 10 then some (.inr (10, 0)) else spec_l17Kinds.l1 (k + 2) w 11 := kinds1 w 10 (by omega) (by omega) (k + 2)
  have b10 : spec_l17Kinds.l1 (k + 2) w 11 = if (11 : Nat) ≠ 2 ∧ w = word0 11 then some (.inr (11, 0)) else spec_l17Kinds.l1 (k + 1) w 12 := kinds1 w 11 (by omega) (by omega) (k + 1)
  have bb : spec_l17Kinds.l1 (k + 1) w 12 = some (.inl ()) := by rw [spec_l17Kinds.l1]; rfl
  unfold spec_l17Kinds kindS
  rw [a0, a1, a2, a3, a4, a5]
  by_cases c1 : w = word1 1
  · simp only [if_pos c1]; rfl
  simp only [if_neg c1]
  by_cases c2 : w = word1 2
  · simp only [if_pos c2]; rfl
  simp only [if_neg c2]
  by_cases c3 : w = word1 3
  · simp only [if_pos c3]; rfl
  simp only [if_neg c3]
  by_cases c4 : w = word1 4
  · simp only [if_pos c4]; rfl
  simp only [if_neg c4]
  by_cases c5 : w = word1 5
  · simp only [if_pos c5]; rfl
  simp only [if_neg c5]
  simp only [Option.bind_some]
  rw [b0, b1, b2, b3, b4, b5, b6, b7, b8, b9, b10, bb]
  rw [if_neg (fun q => q.1 rfl : ¬ ((2 : Nat) ≠ 2 ∧ w = word0 2))]
  by_cases d1 : w = word0 1
  · rw [if_pos (⟨by omega, d1⟩ : (1 : Nat) ≠ 2 ∧ w = word0 1), if_pos d1]; rfl
  rw [if_neg (fun q => d1 q.2 : ¬ ((1 : Nat) ≠ 2 ∧ w = word0 1)), if_neg d1]
  by_cases d3 : w = word0 3
  · rw [if_pos (⟨by omega, d3⟩ : (3 : Nat) ≠ 2 ∧ w = word0 3), if_pos d3]; rfl
  rw [if_neg (fun q => d3 q.2 : ¬ ((3 : Nat) ≠ 2 ∧ w = word0 3)), if_neg d3]
  by_cases d4 : w = word0 4
  · rw [if_pos (⟨by omega, d4⟩ : (4 : Nat) ≠ 2 ∧ w = word0 4), if_pos d4]; rfl
  rw [if_neg (fun q => d4 q.2 : ¬ ((4 : Nat) ≠ 2 ∧ w = word0 4)), if_neg d4]
  by_cases d5 : w = word0 5
  · rw [if_pos (⟨by omega, d5⟩ : (5 : Nat) ≠ 2 ∧ w = word0 5), if_pos d5]; rfl
  rw [if_neg (fun q => d5 q.2 : ¬ ((5 : Nat) ≠ 2 ∧ w = word0 5)), if_neg d5]
  by_cases d6 : w = word0 6
  · rw [if_pos (⟨by omega, d6⟩ : (6 : Nat) ≠ 2 ∧ w = word0 6), if_pos d6]; rfl
  rw [if_neg (fun q => d6 q.2 : ¬ ((6 : Nat) ≠ 2 ∧ w = word0 6)), if_neg d6]
  by_cases d7 : w = word0 7
  · rw [if_pos (⟨by omega, d7⟩ : (7 : Nat) ≠ 2 ∧ w = word0 7), if_pos d7]; rfl
  rw [if_neg (fun q => d7 q.2 : ¬ ((7 : Nat) ≠ 2 ∧ w = word0 7)), if_neg d7]
  by_cases d8 : w = word0 8
  · rw [if_pos (⟨by omega, d8⟩ : (8 : Nat) ≠ 2 ∧ w = word0 8), if_pos d8]; rfl
  rw [if_neg (fun q => d8 q.2 : ¬ ((8 : Nat) ≠ 2 ∧ w = word0 8)), if_neg d8]
  by_cases d9 : w = word0 9
  · rw [if_pos (⟨by omega, d9⟩ : (9 : Nat) ≠ 2 ∧ w = word0 9), if_pos d9]; rfl
  rw [if_neg (fun q => d9 q.2 : ¬ ((9 : Nat) ≠ 2 ∧ w = word0 9)), if_neg d9]
  by_cases d10 : w = word0 10
  · rw [if_pos (⟨by omega, d10⟩ : (10 : Nat) ≠ 2 ∧ w = word0 10), if_pos d10]; rfl
  rw [if_neg (fun q => d10 q.2 : ¬ ((10 : Nat) ≠ 2 ∧ w = word0 10)), if_neg d10]
  by_cases d11 : w = word0 11
  · rw [if_pos (⟨by omega, d11⟩ : (11 : Nat) ≠ 2 ∧ w = word0 11), if_pos d11]; rfl
  rw [if_neg (fun q => d11 q.2 : ¬ ((11 : Nat) ≠ 2 ∧ w = word0 11)), if_neg d11]
  rfl
end Go.Proofs.YtcnkbllbpimaiaaGreatDoorE

namespace Go.Proofs.YtcnkbllbpimaiaaGreatDoorE
open Go
set_option linter.unusedVariables false
/-! ### the command of words, in the program -/
def blkI (y : Str) (d : Str) : Str := if y.length = 1 then Lib.repeatL y 8 else d
def stepI (i : Int) (q0 q1 q2 : Str) : StepT :=
  if i = 1 then (i, wordNum q0, 0, blkI [] [])
  else if i = 3 then (i, wordNum q0, wordNum q1, blkI [] [])
  else if i = 4 then (i, wordNum q0, wordNum q1, blkI q2 [])
  else if i = 5 then (i, 0, wordNum q0, blkI [] [])
  else (i, wordNum q0, 0, blkI q1 [])
def cmdI (w q0 q1 q2 : Str) : CmdT :=
  if 0 < idxM tab0 w then (2, 0, 0, [], stepI (idxM tab0 w) q0 q1 q2)
  else if imax 0 (idxM tab1 w) = 1 then (1, wordNum q0, wordNum q1, listByte (unhexM q2), 0, 0, 0, [])
  else if imax 0 (idxM tab1 w) = 7 ∨ imax 0 (idxM tab1 w) = 9 then (imax 0 (idxM tab1 w), wordNum q0, 0, [], 0, 0, 0, [])
  else (imax 0 (idxM tab1 w), 0, 0, [], 0, 0, 0, [])
theorem num_run {w : Str} (h : w.length ≤ 8000) : impl_wordNumber w = some (wordNum w) := by
  unfold impl_wordNumber
  rw [if_pos (by omega)]
theorem rest_at (r : List Str) (hr : ∀ x ∈ r, x.length ≤ 8000) (i : Nat) (hi : i < 3) : at? (r ++ [[], [], []]) (i : Int) = some (r.getD i []) ∧ (r.getD i []).length ≤ 8000 := by
  have hl : i < (r ++ [[], [], []]).length := by simp; omega
  rw [at_nat hl]
  by_cases h : i < r.length
  · rw [List.getElem_append_left h, List.getD_eq_getElem?_getD, List.getElem?_eq_getElem h]
    exact ⟨rfl, hr _ (List.getElem_mem h)⟩
  · rw [List.getD_eq_getElem?_getD, List.getElem?_eq_none (by omega)]
    refine ⟨?_, Nat.zero_le _⟩
    congr 1
    have : (r ++ [[], [], []])[i] ∈ ([[], [], []] : List Str) := by
      rw [List.getElem_append_right (by omega)]
      exact List.getElem_mem _
    rcases List.mem_cons.1 this with e | e
    · exact e
    · rcases List.mem_cons.1 e with e | e
      · exact e
      · exact List.mem_singleton.1 e
theorem iCmdRead (w : Str) (r : List Str) (hr : ∀ x ∈ r, x.length ≤ 8000) (hl : r.length ≤ 8001) {k : Nat} (hk : 8002 ≤ k) : impl_cmdRead k (w :: r) = some (cmdI w (r.getD 0 []) (r.getD 1 []) (r.getD 2 [])) := by
  obtain ⟨a0, b0⟩ := rest_at r hr 0 (by omega)
  obtain ⟨a1, b1⟩ := rest_at r hr 1 (by omega)
  obtain ⟨a2, b2⟩ := rest_at r hr 2 (by omega)
  have a0 : at? (r ++ [[], [], []]) 0 = some (r.getD 0 []) := a0
  have a1 : at? (r ++ [[], [], []]) 1 = some (r.getD 1 []) := a1
  have a2 : at? (r ++ [[], [], []]) 2 = some (r.getD 2 []) := a2
  have c3 : cut3? (w :: r) 1 ((w :: r).length : Int) ((w :: r).length : Int) = some r := by
    unfold cut3?
    rw [if_pos ⟨by omega, by rw [List.length_cons]; omega, rfl, Int.le_refl _⟩, Int.toNat_natCast, List.take_length]
    rfl
  have w0 : at? (w :: r) 0 = some w := at_nat (l := w :: r) (i := 0) (by simp)
  have i0 := idx_run tab0 w (by decide) (by omega : 200 ≤ k)
  have i1 := idx_run tab1 w (by decide) (by omega : 200 ≤ k)
  unfold impl_cmdRead cmdI
  rw [c3]
  simp only [Option.bind_some]
  rw [app_ok (by simp; omega)]
  simp only [Option.bind_some]
  rw [w0]
  simp only [Option.bind_some]
  rw [i0, i1]
  simp only [Option.bind_some]
  rw [a0, a1, a2]
  simp only [Option.bind_some]
  rw [num_run b0, num_run b1, iUnhex b2 hk]
  generalize r.getD 0 [] = q0 at *
  generalize r.getD 1 [] = q1 at *
  generalize r.getD 2 [] = q2 at *
  simp only [Option.bind_some]
  by_cases c : 0 < idxM tab0 w
  · rw [decide_eq_true c, if_pos c]
    simp only [cond_true]
    generalize idxM tab0 w = i
    have rep : ∀ y : Str, y.length ≤ 8000 → strings_Repeat y 8 = some (Lib.repeatL y 8) := fun y hy => by
      unfold strings_Repeat
      rw [if_pos ⟨by omega, by omega, by omega⟩]
      rfl
    unfold impl_cmdRead.j0 stepI
    rw [a0, a1, a2]
    simp only [Option.bind_some]
    rw [num_run b0, num_run b1]
    simp only [Option.bind_some, beqd]
    have fin : ∀ (y : Str) (p q s : Int) (d : Str), y.length ≤ 8000 → (bif decide ((y.length : Int) = 1) then Option.bind (strings_Repeat y 8) fun v => some ((2, 0, 0, [], p, q, s, v) : CmdT) else some (2, 0, 0, [], p, q, s, d)) = some (2, 0, 0, [], p, q, s, blkI y d) := fun y p q s d hy => by
      unfold blkI
      by_cases e : y.length = 1
      · rw [decide_eq_true (by omega : (y.length : Int) = 1), if_pos e, rep y hy]; rfl
      · rw [decide_eq_false (by omega : ¬ (y.length : Int) = 1), if_neg e]; rfl
    by_cases e1 : i = 1
    · rw [decide_eq_true e1, if_pos e1]; exact fin [] i _ _ _ (by simp)
    rw [decide_eq_false e1, if_neg e1]
    by_cases e3 : i = 3
    · rw [decide_eq_true e3, if_pos e3]; exact fin [] i _ _ _ (by simp)
    rw [decide_eq_false e3, if_neg e3]
    by_cases e4 : i = 4
    · rw [decide_eq_true e4, if_pos e4]; exact fin q2 i _ _ _ b2
    rw [decide_eq_false e4, if_neg e4]
    by_cases e5 : i = 5
    · rw [decide_eq_true e5, if_pos e5]; exact fin [] i _ _ _ (by simp)
    rw [decide_eq_false e5, if_neg e5]
    exact fin q1 i _ _ _ b1
  · rw [decide_eq_false c, if_neg c]
    simp only [cond_false, beqd]
    generalize imax 0 (idxM tab1 w) = j
    by_cases e1 : j = 1
    · rw [decide_eq_true e1, if_pos e1, e1]; rfl
    rw [decide_eq_false e1, if_neg e1]
    by_cases e7 : j = 7
    · rw [decide_eq_true e7, if_pos (.inl e7)]; rfl
    rw [decide_eq_false e7]
    by_cases e9 : j = 9
    · rw [decide_eq_true e9, if_pos (.inr e9)]; rfl
    rw [decide_eq_false e9, if_neg (fun q => q.elim e7 e9)]
    rfl
/-! ### the command of words, in the reference -/
noncomputable def numS (w : Str) : Int := (sNumW w).choose
theorem numS_run (w : Str) {k : Nat} (hk : 20 ≤ k) : spec_l17Num k w = some (numS w) := (sNumW w).choose_spec.1 k hk
theorem numS_dec {n : Int} (h0 : 0 ≤ n) (h1 : n ≤ 1000000) : numS (decM n) = n := (sNumW (decM n)).choose_spec.2 n h0 h1 rfl
theorem wordNum_dec {n : Int} (h0 : 0 ≤ n) (h1 : n ≤ 1000000) : wordNum (decM n) = n := by
  have hl := decM_len (n := n) (by omega)
  obtain ⟨v, hv, hv2⟩ := iNumW (w := decM n) (by omega)
  rw [num_run (by omega)] at hv
  rw [Option.some.inj hv]
  exact hv2 n h0 (by omega) rfl
theorem sAt (ws : List Str) (i : Nat) : spec_l17At ws (i : Int) = some (ws.getD i []) := by
  unfold spec_l17At
  by_cases h : i < ws.length
  · rw [dlt h, at_nat h, List.getD_eq_getElem?_getD, List.getElem?_eq_getElem h]
    rfl
  · rw [dnlt (by omega), List.getD_eq_getElem?_getD, List.getElem?_eq_none (by omega)]
    rfl
theorem sBlock (c : UInt8) {k : Nat} (hk : 20 ≤ k) : spec_l17Block k (c.toNat : Int) = some (List.replicate 8 c) := by
  have run := loop_of (fun j i => spec_l17Block.l0 j (c.toNat : Int) (i : Int) (List.replicate i (c.toNat : Int))) 8 (List.replicate 8 (c.toNat : Int)) (fun i hi j => by
    show spec_l17Block.l0 (j + 1) _ (i : Int) _ = spec_l17Block.l0 j _ ((i + 1 : Nat) : Int) _
    rw [spec_l17Block.l0, decide_eq_true (by omega : (i : Int) < 8), app_ok (by simp; omega), wsuc (by omega)]
    simp only [cond_true, Option.bind_some]
    rw [List.replicate_succ']) (fun j => by
    show spec_l17Block.l0 (j + 1) _ 8 _ = _
    rw [spec_l17Block.l0]
    rfl)
  have run2 := loop_at (fun j i => spec_l17Block.l0 j (c.toNat : Int) (i : Int) (List.replicate i (c.toNat : Int))) 8 (List.replicate 8 (c.toNat : Int)) (fun i hi j => by
    show spec_l17Block.l0 (j + 1) _ (i : Int) _ = spec_l17Block.l0 j _ ((i + 1 : Nat) : Int) _
    rw [spec_l17Block.l0, decide_eq_true (by omega : (i : Int) < 8), app_ok (by simp; omega), wsuc (by omega)]
    simp only [cond_true, Option.bind_some]
    rw [List.replicate_succ']) (fun j => by
    show spec_l17Block.l0 (j + 1) _ 8 _ = _
    rw [spec_l17Block.l0]
    rfl) k (by omega)
  have run3 : spec_l17Block.l0 k (c.toNat : Int) 0 [] = some (List.replicate 8 (c.toNat : Int)) := run2
  unfold spec_l17Block
  rw [run3]
  simp [listByte]
def blkS (y : Str) : Str := match y with
  | [c] => List.replicate 8 c
  | _ => []
noncomputable def stepS (i : Int) (q0 q1 q2 : Str) : StepT :=
  if i = 5 then (i, 0, numS q0, [])
  else if 3 ≤ i then (i, numS q0, numS q1, if i = 4 then blkS q2 else [])
  else (i, numS q0, 0, if i = 2 then blkS q1 else [])
theorem len1 {y : Str} (h : y.length = 1) : ∃ c, y = [c] := by
  match y, h with
  | [c], _ => exact ⟨c, rfl⟩
theorem sPut (i : Int) (w : Str) (r : List Str) {k : Nat} (hk : 20 ≤ k) : spec_l17Put k i (w :: r) = some (stepS i (r.getD 0 []) (r.getD 1 []) (r.getD 2 [])) := by
  have a1 : spec_l17At (w :: r) 1 = some (r.getD 0 []) := sAt (w :: r) 1
  have a2 : spec_l17At (w :: r) 2 = some (r.getD 1 []) := sAt (w :: r) 2
  have a3 : spec_l17At (w :: r) 3 = some (r.getD 2 []) := sAt (w :: r) 3
  generalize r.getD 0 [] = q0 at *
  generalize r.getD 1 [] = q1 at *
  generalize r.getD 2 [] = q2 at *
  have fin : ∀ (y : Str) (p q s : Int) (b : Bool), (bif (decide ((y.length : Int) = 1)) && b then Option.bind (at? y 0) fun v => Option.bind (spec_l17Block k (v.toNat : Int)) fun x => some ((p, q, s, x) : StepT) else some (p, q, s, [])) = some (p, q, s, if b = true then blkS y else []) := fun y p q s b => by
    cases b with
    | false => rw [Bool.and_false]; rfl
    | true =>
      rw [Bool.and_true]
      by_cases e : y.length = 1
      · obtain ⟨c, rfl⟩ := len1 e
        rw [decide_eq_true (by omega : (([c] : Str).length : Int) = 1), show at? ([c] : Str) 0 = some c from at_nat (l := [c]) (i := 0) (by simp)]
        simp only [cond_true, Option.bind_some]
        rw [sBlock c hk]
        rfl
      · rw [decide_eq_false (by omega : ¬ (y.length : Int) = 1)]
        have : blkS y = [] := by
          unfold blkS
          match y, e with
          | [], _ => rfl
          | [_], e => exact absurd rfl e
          | _ :: _ :: _, _ => rfl
        rw [this]
        rfl
  unfold spec_l17Put spec_l17Put.j0 spec_l17Put.j1 stepS
  by_cases e5 : i = 5
  · subst e5
    rw [if_pos rfl]
    have : ((5 : Int) != 5) = false := rfl
    rw [this]
    simp only [cond_false, Option.bind_some]
    rw [decide_eq_true (by omega : (3 : Int) ≤ 5), a1]
    simp only [cond_true, Option.bind_some]
    rw [numS_run q0 hk]
    simp only [Option.bind_some, beqd]
    rw [show IntKind.wrap .i64 (1 + 1) = 2 from rfl, a2]
    exact fin q1 5 0 (numS q0) false
  · rw [if_neg e5, bneT e5, a1]
    simp only [cond_true, Option.bind_some]
    rw [numS_run q0 hk]
    simp only [Option.bind_some]
    rw [show IntKind.wrap .i64 (1 + 1) = 2 from rfl]
    by_cases e3 : 3 ≤ i
    · rw [decide_eq_true e3, if_pos e3, a2]
      simp only [cond_true, Option.bind_some]
      rw [numS_run q1 hk]
      simp only [Option.bind_some, beqd]
      rw [show IntKind.wrap .i64 (2 + 1) = 3 from rfl, a3]
      simp only [Option.bind_some]
      rw [decide_eq_false (by omega : ¬ i = 2)]
      have := fin q2 i (numS q0) (numS q1) (false || decide (i = 4))
      rw [this]
      by_cases e4 : i = 4
      · rw [decide_eq_true e4, if_pos e4]; rfl
      · rw [decide_eq_false e4, if_neg e4]; rfl
    · rw [decide_eq_false e3, if_neg e3]
      simp only [cond_false, Option.bind_some, beqd]
      rw [a2]
      simp only [Option.bind_some]
      rw [decide_eq_false (by omega : ¬ i = 4)]
      have := fin q1 i (numS q0) 0 (decide (i = 2) || false)
      rw [this]
      by_cases e2 : i = 2
      · rw [decide_eq_true e2, if_pos e2]; rfl
      · rw [decide_eq_false e2, if_neg e2]; rfl
noncomputable def cmdS (w q0 q1 q2 : Str) : CmdT :=
  if (kindS w).1 = 1 then ((kindS w).1, numS q0, numS q1, listByte (unhexS q2), 0, 0, 0, [])
  else if (kindS w).1 = 7 ∨ (kindS w).1 = 9 then ((kindS w).1, numS q0, 0, [], 0, 0, 0, [])
  else if (kindS w).1 = 2 then ((kindS w).1, 0, 0, [], stepS (kindS w).2 q0 q1 q2)
  else ((kindS w).1, 0, 0, [], 0, 0, 0, [])
theorem sCmdRead (w : Str) (r : List Str) (hr : ∀ x ∈ r, x.length ≤ 8000) (cut : Int) (f a : List Int) {k : Nat} (hk : 8002 ≤ k) :
    spec_DeedRead.j2 k (w :: r) (kindS w).1 (kindS w).2 (kindS w).1 0 0 [] 0 0 0 [] cut f a =
      some ((cmdS w (r.getD 0 []) (r.getD 1 []) (r.getD 2 [])).1, (cmdS w (r.getD 0 []) (r.getD 1 []) (r.getD 2 [])).2.1, (cmdS w (r.getD 0 []) (r.getD 1 []) (r.getD 2 [])).2.2.1, (cmdS w (r.getD 0 []) (r.getD 1 []) (r.getD 2 [])).2.2.2.1,
        (cmdS w (r.getD 0 []) (r.getD 1 []) (r.getD 2 [])).2.2.2.2.1, (cmdS w (r.getD 0 []) (r.getD 1 []) (r.getD 2 [])).2.2.2.2.2.1, (cmdS w (r.getD 0 []) (r.getD 1 []) (r.getD 2 [])).2.2.2.2.2.2.1, (cmdS w (r.getD 0 []) (r.getD 1 []) (r.getD 2 [])).2.2.2.2.2.2.2, cut, f, a) := by
  have a1 : spec_l17At (w :: r) 1 = some (r.getD 0 []) := sAt (w :: r) 1
  have a2 : spec_l17At (w :: r) 2 = some (r.getD 1 []) := sAt (w :: r) 2
  have a3 : spec_l17At (w :: r) 3 = some (r.getD 2 []) := sAt (w :: r) 3
  have b2 := (rest_at r hr 2 (by omega)).2
  have hput := sPut (kindS w).2 w r (by omega : 20 ≤ k)
  generalize r.getD 0 [] = q0 at *
  generalize r.getD 1 [] = q1 at *
  generalize r.getD 2 [] = q2 at *
  unfold spec_DeedRead.j2 spec_DeedRead.j1 cmdS
  rw [a1, a2, a3]
  simp only [Option.bind_some]
  rw [numS_run q0 (by omega), numS_run q1 (by omega), sUnhex b2 hk, hput]
  simp only [Option.bind_some, beqd]
  generalize kindS w = kd
  by_cases e1 : kd.1 = 1
  · rw [decide_eq_true e1, if_pos e1]; rfl
  rw [decide_eq_false e1, if_neg e1]
  by_cases e7 : kd.1 = 7
  · rw [decide_eq_true e7, if_pos (.inl e7)]; rfl
  rw [decide_eq_false e7]
  by_cases e9 : kd.1 = 9
  · rw [decide_eq_true e9, if_pos (.inr e9)]; rfl
  rw [decide_eq_false e9, if_neg (fun q => q.elim e7 e9)]
  by_cases e2 : kd.1 = 2
  · rw [decide_eq_true e2, if_pos e2]; rfl
  rw [decide_eq_false e2, if_neg e2]
  rfl
end Go.Proofs.YtcnkbllbpimaiaaGreatDoorE

namespace Go.Proofs.YtcnkbllbpimaiaaGreatDoorE
open Go
set_option linter.unusedVariables false
/-! ### a command comes back from its words -/
theorem idx_step : idxM tab0 (word1 1) = 1 ∧ idxM tab0 (word1 2) = 2 ∧ idxM tab0 (word1 3) = 3 ∧ idxM tab0 (word1 4) = 4 ∧ idxM tab0 (word1 5) = 5 := by decide
theorem idx_cmd : ∀ o ∈ ([1, 3, 4, 5, 6, 7, 8, 9, 10, 11] : List Int), idxM tab0 (word0 o) = -1 ∧ idxM tab1 (word0 o) = o ∧ kindS (word0 o) = (o, 0) := by decide
theorem kind_step : kindS (word1 1) = (2, 1) ∧ kindS (word1 2) = (2, 2) ∧ kindS (word1 3) = (2, 3) ∧ kindS (word1 4) = (2, 4) ∧ kindS (word1 5) = (2, 5) := by decide
theorem zeroStep_eq {s : StepT} (h : zeroStep s = true) : s = (0, 0, 0, []) := by
  obtain ⟨k, a, b, t⟩ := s
  unfold zeroStep at h
  simp only [Bool.and_eq_true, decide_eq_true_eq, beq_iff_eq] at h
  obtain ⟨h1, h2, h3, h4⟩ := h
  subst h1 h2 h3 h4
  rfl
theorem step_back {s : StepT} (h : stepB s.1 s.2.1 s.2.2.1 s.2.2.2 8 = true) (hne : stepM s ≠ []) : ∃ w r, stepL s = w :: r ∧ (w, r.getD 0 [], r.getD 1 [], r.getD 2 []) = (word1 s.1, (stepL s).getD 1 [], (stepL s).getD 2 [], (stepL s).getD 3 []) ∧
    stepI s.1 (r.getD 0 []) (r.getD 1 []) (r.getD 2 []) = s ∧ stepS s.1 (r.getD 0 []) (r.getD 1 []) (r.getD 2 []) = s ∧ r.length ≤ 3 := by
  obtain ⟨k, a, b, t⟩ := s
  have hl : (k = 2 ∨ k = 4) → letM t ≠ [] := fun q e => hne (by unfold stepM; rw [if_pos q, if_pos e])
  have hblk : letM t ≠ [] → blkI (letM t) [] = t ∧ blkS (letM t) = t := fun q => by
    obtain ⟨c, e, _, _, ht⟩ := letM_form q
    rw [e, ht]
    exact ⟨rfl, rfl⟩
  unfold stepB at h
  dsimp only at h
  split at h
  · rename_i q
    subst q
    simp only [Bool.and_eq_true, decide_eq_true_eq, beq_iff_eq] at h
    obtain ⟨⟨⟨h1, h2⟩, h3⟩, h4⟩ := h
    subst h3 h4
    refine ⟨word1 1, [decM a], rfl, rfl, ?_, ?_, by simp⟩
    · show stepI 1 (decM a) [] [] = _
      unfold stepI
      rw [if_pos rfl, wordNum_dec h1 (by omega)]
      rfl
    · show stepS 1 (decM a) [] [] = _
      unfold stepS
      rw [if_neg (by decide), if_neg (by decide), numS_dec h1 (by omega)]
      rfl
  split at h
  · rename_i q
    subst q
    simp only [Bool.and_eq_true, decide_eq_true_eq] at h
    obtain ⟨⟨⟨h1, h2⟩, h3⟩, h4⟩ := h
    subst h3
    obtain ⟨e1, e2⟩ := hblk (hl (.inl rfl))
    refine ⟨word1 2, [decM a, letM t], rfl, rfl, ?_, ?_, by simp⟩
    · show stepI 2 (decM a) (letM t) [] = _
      unfold stepI
      rw [if_neg (by decide), if_neg (by decide), if_neg (by decide), if_neg (by decide), wordNum_dec h1 (by omega), e1]
    · show stepS 2 (decM a) (letM t) [] = _
      unfold stepS
      rw [if_neg (by decide), if_neg (by decide), if_pos rfl, numS_dec h1 (by omega), e2]
  split at h
  · rename_i q
    subst q
    simp only [Bool.and_eq_true, decide_eq_true_eq, beq_iff_eq] at h
    obtain ⟨⟨⟨h1, h2⟩, h3, h3'⟩, h4⟩ := h
    subst h4
    refine ⟨word1 3, [decM a, decM b], rfl, rfl, ?_, ?_, by simp⟩
    · show stepI 3 (decM a) (decM b) [] = _
      unfold stepI
      rw [if_neg (by decide), if_pos rfl, wordNum_dec h1 (by omega), wordNum_dec h3 (by omega)]
      rfl
    · show stepS 3 (decM a) (decM b) [] = _
      unfold stepS
      rw [if_neg (by decide), if_pos (by decide), if_neg (by decide), numS_dec h1 (by omega), numS_dec h3 (by omega)]
  split at h
  · rename_i q
    subst q
    simp only [Bool.and_eq_true, decide_eq_true_eq] at h
    obtain ⟨⟨⟨h1, h2⟩, h3, h3'⟩, h4⟩ := h
    obtain ⟨e1, e2⟩ := hblk (hl (.inr rfl))
    refine ⟨word1 4, [decM a, decM b, letM t], rfl, rfl, ?_, ?_, by simp⟩
    · show stepI 4 (decM a) (decM b) (letM t) = _
      unfold stepI
      rw [if_neg (by decide), if_neg (by decide), if_pos rfl, wordNum_dec h1 (by omega), wordNum_dec h3 (by omega), e1]
    · show stepS 4 (decM a) (decM b) (letM t) = _
      unfold stepS
      rw [if_neg (by decide), if_pos (by decide), if_pos rfl, numS_dec h1 (by omega), numS_dec h3 (by omega), e2]
  split at h
  · rename_i q
    subst q
    simp only [Bool.and_eq_true, decide_eq_true_eq, beq_iff_eq] at h
    obtain ⟨⟨h1, h3, h3'⟩, h4⟩ := h
    subst h1 h4
    refine ⟨word1 5, [decM b], rfl, rfl, ?_, ?_, by simp⟩
    · show stepI 5 (decM b) [] [] = _
      unfold stepI
      rw [if_neg (by decide), if_neg (by decide), if_neg (by decide), if_pos rfl, wordNum_dec h3 (by omega)]
      rfl
    · show stepS 5 (decM b) [] [] = _
      unfold stepS
      rw [if_pos rfl, numS_dec h3 (by omega)]
  · cases h
theorem cmd_back {c : CmdT} (h : cmdB c = true) (hne : cmdM c ≠ []) : ∃ w r, cmdL c = w :: r ∧ r.length ≤ 3 ∧ cmdI w (r.getD 0 []) (r.getD 1 []) (r.getD 2 []) = c ∧ cmdS w (r.getD 0 []) (r.getD 1 []) (r.getD 2 []) = c := by
  obtain ⟨o, a, b, t, s⟩ := c
  have simp0 : ∀ o ∈ ([1, 3, 4, 5, 6, 7, 8, 9, 10, 11] : List Int), ∀ q0 q1 q2, (o ≠ 1 → o ≠ 7 → o ≠ 9 → cmdI (word0 o) q0 q1 q2 = (o, 0, 0, [], 0, 0, 0, []) ∧ cmdS (word0 o) q0 q1 q2 = (o, 0, 0, [], 0, 0, 0, [])) ∧
      (o = 1 → cmdI (word0 o) q0 q1 q2 = (1, wordNum q0, wordNum q1, listByte (unhexM q2), 0, 0, 0, []) ∧ cmdS (word0 o) q0 q1 q2 = (1, numS q0, numS q1, listByte (unhexS q2), 0, 0, 0, [])) ∧
      (o = 7 ∨ o = 9 → cmdI (word0 o) q0 q1 q2 = (o, wordNum q0, 0, [], 0, 0, 0, []) ∧ cmdS (word0 o) q0 q1 q2 = (o, numS q0, 0, [], 0, 0, 0, [])) := by
    intro o ho q0 q1 q2
    obtain ⟨e1, e2, e3⟩ := idx_cmd o ho
    have hpos : 1 ≤ o ∧ o ≠ 2 := (show ∀ o ∈ ([1, 3, 4, 5, 6, 7, 8, 9, 10, 11] : List Int), 1 ≤ o ∧ o ≠ 2 by decide) o ho
    have hm : imax 0 o = o := by unfold imax; rw [if_pos (by omega)]
    unfold cmdI cmdS
    rw [e1, e2, e3, hm, if_neg (by decide : ¬ (0 : Int) < -1)]
    dsimp only
    refine ⟨fun n1 n7 n9 => ?_, fun n1 => ?_, fun n => ?_⟩
    · rw [if_neg n1, if_neg n1, if_neg (fun q => q.elim n7 n9), if_neg (fun q => q.elim n7 n9), if_neg hpos.2]
      exact ⟨rfl, rfl⟩
    · rw [if_pos n1, if_pos n1, n1]
      exact ⟨rfl, rfl⟩
    · have n1 : ¬ o = 1 := by rcases n with n | n <;> omega
      rw [if_neg n1, if_neg n1, if_pos n, if_pos n]
      exact ⟨rfl, rfl⟩
  unfold cmdB at h
  dsimp only at h
  split at h
  · rename_i q
    subst q
    simp only [Bool.and_eq_true, decide_eq_true_eq] at h
    obtain ⟨⟨⟨⟨h1, h2⟩, h3, h4⟩, h5⟩, h6⟩ := h
    obtain rfl := zeroStep_eq h6
    refine ⟨word0 1, [decM a, decM b, hexM t], rfl, by simp, ?_⟩
    obtain ⟨e1, e2⟩ := (simp0 1 (by decide) (decM a) (decM b) (hexM t)).2.1 rfl
    show cmdI (word0 1) (decM a) (decM b) (hexM t) = _ ∧ cmdS (word0 1) (decM a) (decM b) (hexM t) = _
    rw [e1, e2, wordNum_dec (by omega) (by omega), wordNum_dec h3 (by omega), numS_dec (by omega) (by omega), numS_dec h3 (by omega), unhex_hex, unhexS_hex]
    exact ⟨rfl, rfl⟩
  split at h
  · rename_i q
    subst q
    simp only [Bool.and_eq_true, decide_eq_true_eq, beq_iff_eq] at h
    obtain ⟨⟨⟨h1, h2⟩, h3⟩, h4⟩ := h
    subst h1 h2 h3
    obtain ⟨w, r, e1, e2, e3, e4, e5⟩ := step_back h4 hne
    refine ⟨w, r, e1, e5, ?_⟩
    have hw : w = word1 s.1 := congrArg Prod.fst e2
    have hk := (stepFit h4).k0
    have hk5 := (stepFit h4).k1
    have hi : idxM tab0 w = s.1 ∧ kindS w = (2, s.1) := by
      rw [hw]
      obtain ⟨i1, i2, i3, i4, i5⟩ := idx_step
      obtain ⟨j1, j2, j3, j4, j5⟩ := kind_step
      have : s.1 = 1 ∨ s.1 = 2 ∨ s.1 = 3 ∨ s.1 = 4 ∨ s.1 = 5 := by omega
      rcases this with q | q | q | q | q <;> rw [q] <;> constructor <;> assumption
    unfold cmdI cmdS
    rw [hi.1, hi.2, if_pos (by omega), e3]
    dsimp only
    rw [if_neg (by decide), if_neg (by decide), if_pos rfl, e4]
    exact ⟨rfl, rfl⟩
  split at h
  · rename_i q
    subst q
    simp only [Bool.and_eq_true, decide_eq_true_eq, beq_iff_eq] at h
    obtain ⟨⟨⟨⟨h1, h2⟩, h3⟩, h4⟩, h5⟩ := h
    obtain rfl := zeroStep_eq h5
    subst h3 h4
    refine ⟨word0 9, [decM a], rfl, by simp, ?_⟩
    obtain ⟨e1, e2⟩ := (simp0 9 (by decide) (decM a) [] []).2.2 (.inr rfl)
    show cmdI (word0 9) (decM a) [] [] = _ ∧ cmdS (word0 9) (decM a) [] [] = _
    rw [e1, e2, wordNum_dec (by omega) (by omega), numS_dec (by omega) (by omega)]
    exact ⟨rfl, rfl⟩
  split at h
  · rename_i q
    subst q
    simp only [Bool.and_eq_true, decide_eq_true_eq, beq_iff_eq] at h
    obtain ⟨⟨⟨⟨h1, h2⟩, h3⟩, h4⟩, h5⟩ := h
    obtain rfl := zeroStep_eq h5
    subst h3 h4
    refine ⟨word0 7, [decM a], rfl, by simp, ?_⟩
    obtain ⟨e1, e2⟩ := (simp0 7 (by decide) (decM a) [] []).2.2 (.inl rfl)
    show cmdI (word0 7) (decM a) [] [] = _ ∧ cmdS (word0 7) (decM a) [] [] = _
    rw [e1, e2, wordNum_dec (by omega) (by omega), numS_dec (by omega) (by omega)]
    exact ⟨rfl, rfl⟩
  · rename_i q1 q2 q9 q7
    simp only [Bool.and_eq_true, decide_eq_true_eq, beq_iff_eq] at h
    obtain ⟨⟨⟨⟨⟨h1, h2⟩, h3⟩, h4⟩, h5⟩, h6⟩ := h
    obtain rfl := zeroStep_eq h6
    subst h3 h4 h5
    have ho : o ∈ ([1, 3, 4, 5, 6, 7, 8, 9, 10, 11] : List Int) := by
      simp
      omega
    refine ⟨word0 o, [], ?_, by simp, ?_⟩
    · unfold cmdL
      rw [if_neg q2, if_neg q1, if_neg (fun q => q.elim q7 q9)]
    · exact (simp0 o ho [] [] []).1 q1 q7 q9
/-! ### a deed comes back from its text -/
theorem numsM_no (l : List Int) : (32 : UInt8) ∉ numsM l := by
  unfold numsM
  split
  · decide
  · have key : ∀ l : List Int, (32 : UInt8) ∉ Lib.join (l.map decM) [44] := by
      intro l
      induction l with
      | nil => exact (by decide : (32 : UInt8) ∉ ([] : Str))
      | cons n r ih =>
        rw [List.map_cons, Lib.join_cons]
        intro h
        rcases List.mem_append.1 h with h | h
        · exact dec_no n h
        · cases r with
          | nil => cases h
          | cons m r =>
            have e : Lib.joinTail [44] ((m :: r).map decM) = 44 :: Lib.join ((m :: r).map decM) [44] := by
              rw [List.map_cons, Lib.join_cons]
              unfold Lib.joinTail
              simp
            rw [e] at h
            rcases List.mem_cons.1 h with h | h
            · exact absurd h (by decide)
            · exact ih h
    exact key l
def cutW : Str := [99, 117, 116]
theorem split_deed {d : DeedT} (h : deedB d = true) (hne : deedM d ≠ []) : cmdM d.1 ≠ [] ∧ splitM 32 (deedM d) = if d.2.1 < 0 then cmdL d.1 else cutW :: decM d.2.1 :: numsM d.2.2.1 :: numsM d.2.2.2 :: cmdL d.1 := by
  have hc : cmdM d.1 ≠ [] := fun e => hne (by unfold deedM; rw [if_pos h, if_pos (.inl e), e])
  refine ⟨hc, ?_⟩
  have hf : CmdFit d.1 := cmdFit (by
    unfold deedB at h
    simp only [Bool.and_eq_true] at h
    exact h.1.1.1.1)
  unfold deedM
  rw [if_pos h]
  by_cases z : d.2.1 < 0
  · rw [if_pos (.inr z), if_pos z, split_cmd hf hc]
  · rw [if_neg (fun q => q.elim hc z), if_neg z]
    show splitM 32 (cutW ++ ([32] ++ (decM d.2.1 ++ ([32] ++ (numsM d.2.2.1 ++ ([32] ++ (numsM d.2.2.2 ++ ([32] ++ cmdM d.1)))))))) = _
    rw [split2 (by decide), split2 (dec_no _), split2 (numsM_no _), split2 (numsM_no _), split_cmd hf hc]
noncomputable def numsI (w : Str) : List Int := if h : w.length ≤ 8000 then (iNumsW h).choose else []
noncomputable def numsS (w : Str) : List Int := if h : w.length ≤ 8000 then (sNumsW h).choose else []
theorem numsI_run {w : Str} (h : w.length ≤ 8000) {k : Nat} (hk : 8002 ≤ k) : impl_wordNumbers k w = some (numsI w) ∧ (numsI w).length ≤ 8001 ∧ ∀ l, Nums l 40 → w = numsM l → numsI w = l := by
  unfold numsI
  rw [dif_pos h]
  have := (iNumsW h).choose_spec
  exact ⟨this.1 k hk, this.2⟩
theorem numsS_run {w : Str} (h : w.length ≤ 8000) {k : Nat} (hk : 8002 ≤ k) : spec_l17List k w = some (numsS w) ∧ (numsS w).length ≤ 8001 ∧ ∀ l, Nums l 40 → w = numsM l → numsS w = l := by
  unfold numsS
  rw [dif_pos h]
  have := (sNumsW h).choose_spec
  exact ⟨this.1 k hk, this.2⟩
theorem numsNums {l : List Int} {m : Nat} {h : Int} (q : numsB l m h = true) (hm : m ≤ 40) (hh : h ≤ 1000000) : Nums l 40 := by
  unfold numsB at q
  rw [Bool.and_eq_true, decide_eq_true_eq, Bool.not_eq_true', List.any_eq_false] at q
  refine ⟨by omega, fun n hn => ?_⟩
  have := q.2 n hn
  simp only [Bool.not_eq_true', Bool.and_eq_false_iff, decide_eq_false_iff_not] at this
  omega
noncomputable def deedI : List Str → DeedT
  | a :: b :: c :: d :: w :: r => if a = cutW then (cmdI w (r.getD 0 []) (r.getD 1 []) (r.getD 2 []), wordNum b, numsI c, numsI d) else (cmdI a b c d, -1, [], [])
  | w :: r => (cmdI w (r.getD 0 []) (r.getD 1 []) (r.getD 2 []), -1, [], [])
  | [] => (cmdI [] [] [] [], -1, [], [])
noncomputable def deedS : List Str → DeedT
  | a :: b :: c :: d :: w :: r => if a = cutW then (cmdS w (r.getD 0 []) (r.getD 1 []) (r.getD 2 []), numS b, numsS c, numsS d) else (cmdS a b c d, -1, [], [])
  | w :: r => (cmdS w (r.getD 0 []) (r.getD 1 []) (r.getD 2 []), -1, [], [])
  | [] => (cmdS [] [] [] [], -1, [], [])
theorem deed_back {d : DeedT} (h : deedB d = true) (hne : deedM d ≠ []) (ht : (deedM d).length ≤ 8000) : deedI (splitM 32 (deedM d)) = d ∧ deedS (splitM 32 (deedM d)) = d := by
  obtain ⟨hc, hs⟩ := split_deed h hne
  have hmem : ∀ x ∈ splitM 32 (deedM d), x.length ≤ 8000 := fun x hx => by have := (splitM_mem hx).2; omega
  rw [hs] at hmem ⊢
  have hb := h
  unfold deedB at hb
  simp only [Bool.and_eq_true, decide_eq_true_eq, Bool.or_eq_true] at hb
  obtain ⟨⟨⟨⟨hcb, hr1, hr2⟩, hn1⟩, hn2⟩, hz⟩ := hb
  obtain ⟨w, r, e1, e2, e3, e4⟩ := cmd_back hcb hc
  obtain ⟨c, k, f, a⟩ := d
  dsimp only at *
  by_cases z : k < 0
  · rw [if_pos z, e1]
    have hk : k = -1 := by omega
    have hfa : f.length = 0 ∧ a.length = 0 := hz.resolve_left (by omega)
    have hf : f = [] := List.eq_nil_of_length_eq_zero hfa.1
    have ha : a = [] := List.eq_nil_of_length_eq_zero hfa.2
    subst hk hf ha
    have fin : ∀ (I : List Str → DeedT) (C : Str → Str → Str → Str → CmdT), (∀ w r, r.length ≤ 3 → I (w :: r) = (C w (r.getD 0 []) (r.getD 1 []) (r.getD 2 []), -1, [], [])) → C w (r.getD 0 []) (r.getD 1 []) (r.getD 2 []) = c → I (w :: r) = (c, -1, [], []) := fun I C h1 h2 => by rw [h1 w r e2, h2]
    have sh : ∀ (w : Str) (r : List Str), r.length ≤ 3 → deedI (w :: r) = (cmdI w (r.getD 0 []) (r.getD 1 []) (r.getD 2 []), -1, [], []) ∧ deedS (w :: r) = (cmdS w (r.getD 0 []) (r.getD 1 []) (r.getD 2 []), -1, [], []) := fun w r hr => by
      match r, hr with
      | [], _ => exact ⟨rfl, rfl⟩
      | [_], _ => exact ⟨rfl, rfl⟩
      | [_, _], _ => exact ⟨rfl, rfl⟩
      | [_, _, _], _ => exact ⟨rfl, rfl⟩
    rw [(sh w r e2).1, (sh w r e2).2, e3, e4]
    exact ⟨rfl, rfl⟩
  · rw [if_neg z] at hmem ⊢
    rw [e1] at hmem ⊢
    have m1 := numsNums hn1 (by omega) (by omega)
    have m2 := numsNums hn2 (by omega) (by omega)
    have l1 : (numsM f).length ≤ 8000 := hmem _ (by simp)
    have l2 : (numsM a).length ≤ 8000 := hmem _ (by simp)
    have i1 := (numsI_run l1 (Nat.le_refl _)).2.2 f m1 rfl
    have i2 := (numsI_run l2 (Nat.le_refl _)).2.2 a m2 rfl
    have s1 := (numsS_run l1 (Nat.le_refl _)).2.2 f m1 rfl
    have s2 := (numsS_run l2 (Nat.le_refl _)).2.2 a m2 rfl
    unfold deedI deedS
    dsimp only
    rw [if_pos rfl, if_pos rfl, e3, e4, i1, i2, s1, s2, wordNum_dec (by omega) (by omega), numS_dec (by omega) (by omega)]
    exact ⟨rfl, rfl⟩
/-! ### the readers -/
theorem beqL {a b : Str} : (a == b) = decide (a = b) := by
  by_cases h : a = b
  · rw [decide_eq_true h]; simpa using h
  · rw [decide_eq_false h]; simpa using h
theorem split_cons (t : Str) : ∃ w r, splitM 32 t = w :: r := by
  cases e : splitM 32 t with
  | nil => exact absurd e (splitM_ne 32 t)
  | cons w r => exact ⟨w, r, rfl⟩
abbrev Tup := Int × Int × Int × Str × Int × Int × Int × Str × Int × List Int × List Int × Int
def tupD (d : DeedT) (c : Int) : Tup := (d.1.1, d.1.2.1, d.1.2.2.1, d.1.2.2.2.1, d.1.2.2.2.2.1, d.1.2.2.2.2.2.1, d.1.2.2.2.2.2.2.1, d.1.2.2.2.2.2.2.2, d.2.1, d.2.2.1, d.2.2.2, c)
def nilD (c : Int) : Tup := (0, 0, 0, [], 0, 0, 0, [], 0, [], [], c)
theorem deedI_lens (ws : List Str) (h : ∀ x ∈ ws, x.length ≤ 8000) : (deedI ws).2.2.1.length ≤ 8001 ∧ (deedI ws).2.2.2.length ≤ 8001 := by
  unfold deedI
  split
  · split
    · exact ⟨(numsI_run (h _ (by simp)) (Nat.le_refl _)).2.1, (numsI_run (h _ (by simp)) (Nat.le_refl _)).2.1⟩
    · exact ⟨by simp, by simp⟩
  · exact ⟨by simp, by simp⟩
  · exact ⟨by simp, by simp⟩
theorem deedS_lens (ws : List Str) (h : ∀ x ∈ ws, x.length ≤ 8000) : (deedS ws).2.2.1.length ≤ 8001 ∧ (deedS ws).2.2.2.length ≤ 8001 := by
  unfold deedS
  split
  · split
    · exact ⟨(numsS_run (h _ (by simp)) (Nat.le_refl _)).2.1, (numsS_run (h _ (by simp)) (Nat.le_refl _)).2.1⟩
    · exact ⟨by simp, by simp⟩
  · exact ⟨by simp, by simp⟩
  · exact ⟨by simp, by simp⟩
abbrev TupB := Int × Int × Int × Str × Int × Int × Int × Str × Int × List Int × List Int × Bool
def tupB (d : DeedT) (c : Bool) : TupB := (d.1.1, d.1.2.1, d.1.2.2.1, d.1.2.2.2.1, d.1.2.2.2.2.1, d.1.2.2.2.2.2.1, d.1.2.2.2.2.2.2.1, d.1.2.2.2.2.2.2.2, d.2.1, d.2.2.1, d.2.2.2, c)
def zeroD : DeedT := ((0, 0, 0, [], 0, 0, 0, []), 0, [], [])
theorem iRead0 (t : Str) (ht : t.length ≤ 8000) {k : Nat} (hk : 2000000 ≤ k) :
    impl_deedRead k t = some (if deedB (deedI (splitM 32 t)) = true ∧ deedM (deedI (splitM 32 t)) = t then tupB (deedI (splitM 32 t)) true else tupB zeroD false) := by
  have hmem : ∀ x ∈ splitM 32 t, x.length ≤ 8000 := fun x hx => by have := (splitM_mem hx).2; omega
  have hlen := splitM_len 32 t
  have hL := deedI_lens _ hmem
  unfold impl_deedRead
  rw [iSplit (by omega)]
  simp only [Option.bind_some]
  obtain ⟨w, r, e⟩ := split_cons t
  rw [e] at hmem hlen hL ⊢
  have j0 : ∃ w' r', impl_deedRead.j0 k 0 0 0 [] 0 0 0 [] (-1) (w :: r) [] [] = some (w' :: r', 0, 0, 0, [], 0, 0, 0, [], (deedI (w :: r)).2) ∧ (deedI (w :: r)).1 = cmdI w' (r'.getD 0 []) (r'.getD 1 []) (r'.getD 2 []) ∧ (∀ x ∈ r', x.length ≤ 8000) ∧ r'.length ≤ 8001 := by
    unfold impl_deedRead.j0
    rw [show at? (w :: r) 0 = some w from at_nat (l := w :: r) (i := 0) (by simp)]
    simp only [Option.bind_some]
    by_cases c : w = cutW ∧ 4 ≤ r.length
    · obtain ⟨c1, c2⟩ := c
      match r, c2, hmem, hlen with
      | b :: c :: d :: x :: r', _, hmem, hlen =>
        have hb := hmem b (by simp)
        have hc := hmem c (by simp)
        have hd := hmem d (by simp)
        have hl5 : ((cutW :: b :: c :: d :: x :: r').length : Int) = (r'.length : Int) + 5 := by simp; omega
        refine ⟨x, r', ?_, ?_, fun y hy => hmem y (by simp [hy]), by simp at hlen; omega⟩
        · rw [c1, hl5, decide_eq_true (by omega : (4 : Int) < (r'.length : Int) + 5), show ((cutW == ([99, 117, 116] : Str)) && true) = true from rfl]
          simp only [cond_true]
          rw [show at? (cutW :: b :: c :: d :: x :: r') 1 = some b from at_nat (l := cutW :: b :: c :: d :: x :: r') (i := 1) (by simp), show at? (cutW :: b :: c :: d :: x :: r') 2 = some c from at_nat (l := cutW :: b :: c :: d :: x :: r') (i := 2) (by simp),
            show at? (cutW :: b :: c :: d :: x :: r') 3 = some d from at_nat (l := cutW :: b :: c :: d :: x :: r') (i := 3) (by simp)]
          simp only [Option.bind_some]
          rw [num_run hb, (numsI_run hc (by omega)).1, (numsI_run hd (by omega)).1]
          simp only [Option.bind_some]
          have c4 : cut? (cutW :: b :: c :: d :: x :: r') 4 ((r'.length : Int) + 5) = some (x :: r') := by
            have := cut_ok (l := cutW :: b :: c :: d :: x :: r') (i := 4) (j := r'.length + 5) (by omega) (by simp)
            rw [List.take_of_length_le (by simp)] at this
            rw [show ((r'.length + 5 : Nat) : Int) = (r'.length : Int) + 5 by omega] at this
            exact this
          rw [c4]
          unfold deedI
          dsimp only
          rw [if_pos rfl]
          rfl
        · unfold deedI
          dsimp only
          rw [if_pos c1]
    · have hcond : ((w == ([99, 117, 116] : Str)) && decide ((4 : Int) < ((w :: r).length : Int))) = false := by
        rw [beqL, Bool.and_eq_false_iff]
        by_cases q : w = cutW
        · right
          refine decide_eq_false fun q2 => c ⟨q, ?_⟩
          rw [List.length_cons] at q2
          omega
        · left
          exact decide_eq_false q
      rw [hcond]
      refine ⟨w, r, ?_, ?_, fun y hy => hmem y (List.mem_cons_of_mem _ hy), by simp at hlen; omega⟩
      · have : (deedI (w :: r)).2 = (-1, [], []) := by
          match r, c with
          | [], _ => rfl
          | [_], _ => rfl
          | [_, _], _ => rfl
          | [_, _, _], _ => rfl
          | b :: c :: d :: x :: r', c' =>
            unfold deedI
            dsimp only
            rw [if_neg (fun q => c' ⟨q, by simp⟩)]
        rw [this]
        rfl
      · match r, c with
        | [], _ => rfl
        | [_], _ => rfl
        | [_, _], _ => rfl
        | [_, _, _], _ => rfl
        | b :: c :: d :: x :: r', c' =>
          unfold deedI
          dsimp only
          rw [if_neg (fun q => c' ⟨q, by simp⟩)]
          rfl
  obtain ⟨w', r', h1, h2, h3, h4⟩ := j0
  rw [h1]
  simp only [Option.bind_some]
  rw [iCmdRead w' r' h3 h4 (by omega), ← h2]
  simp only [Option.bind_some]
  generalize deedI (w :: r) = d at hL ⊢
  have hid : impl_isDeed k (d.1, d.2) = some (deedB d) := iDeed d (by omega) (by omega) (by omega) (by omega)
  rw [hid]
  simp only [Option.bind_some]
  cases hb : deedB d with
  | false =>
    rw [if_neg (fun q => by cases q.1)]
    rfl
  | true =>
    have htx : impl_deedText k (d.1, d.2) = some (deedM d) := iDeedB hb hk
    rw [htx]
    simp only [Bool.not_true, cond_false, Option.bind_some]
    rw [beqL]
    by_cases q : deedM d = t
    · rw [decide_eq_true q, if_pos ⟨trivial, q⟩]
      rfl
    · rw [decide_eq_false q, if_neg (fun z => q z.2)]
      rfl
theorem sRead (t : Str) (ht : t.length ≤ 8000) {k : Nat} (hk : 2000000 ≤ k) :
    spec_DeedRead k t = some (if t ≠ [] ∧ deedM (deedS (splitM 32 t)) = t then tupD (deedS (splitM 32 t)) 0 else nilD 3) := by
  have hmem : ∀ x ∈ splitM 32 t, x.length ≤ 8000 := fun x hx => by have := (splitM_mem hx).2; omega
  have hlen := splitM_len 32 t
  have hL := deedS_lens _ hmem
  unfold spec_DeedRead
  have hsp : spec_l01Split k t 32 = some (splitM 32 t) := sSplit (c := 32) (by omega) (by omega)
  rw [decide_eq_false (by omega : ¬ (8000 : Int) < (t.length : Int)), hsp]
  simp only [cond_false, Option.bind_some]
  obtain ⟨w, r, e⟩ := split_cons t
  rw [e] at hmem hlen hL ⊢
  have j0 : ∃ w' r', spec_DeedRead.j0 k 0 0 0 [] 0 0 0 [] (-1) (w :: r) [] [] = some (w' :: r', 0, 0, 0, [], 0, 0, 0, [], (deedS (w :: r)).2) ∧ (deedS (w :: r)).1 = cmdS w' (r'.getD 0 []) (r'.getD 1 []) (r'.getD 2 []) ∧ (∀ x ∈ r', x.length ≤ 8000) ∧ r'.length ≤ 8001 := by
    unfold spec_DeedRead.j0
    rw [show at? (w :: r) 0 = some w from at_nat (l := w :: r) (i := 0) (by simp)]
    simp only [Option.bind_some]
    by_cases c : w = cutW ∧ 4 ≤ r.length
    · obtain ⟨c1, c2⟩ := c
      match r, c2, hmem, hlen with
      | b :: c :: d :: x :: r', _, hmem, hlen =>
        have hb := hmem b (by simp)
        have hc := hmem c (by simp)
        have hd := hmem d (by simp)
        have hl5 : ((cutW :: b :: c :: d :: x :: r').length : Int) = (r'.length : Int) + 5 := by simp; omega
        refine ⟨x, r', ?_, ?_, fun y hy => hmem y (by simp [hy]), by simp at hlen; omega⟩
        · rw [c1, hl5, decide_eq_true (by omega : (4 : Int) < (r'.length : Int) + 5), show ((cutW == ([99, 117, 116] : Str)) && true) = true from rfl]
          simp only [cond_true]
          rw [show at? (cutW :: b :: c :: d :: x :: r') 1 = some b from at_nat (l := cutW :: b :: c :: d :: x :: r') (i := 1) (by simp), show at? (cutW :: b :: c :: d :: x :: r') 2 = some c from at_nat (l := cutW :: b :: c :: d :: x :: r') (i := 2) (by simp),
            show at? (cutW :: b :: c :: d :: x :: r') 3 = some d from at_nat (l := cutW :: b :: c :: d :: x :: r') (i := 3) (by simp)]
          simp only [Option.bind_some]
          rw [numS_run b (by omega), (numsS_run hc (by omega)).1, (numsS_run hd (by omega)).1]
          simp only [Option.bind_some]
          have c4 : cut? (cutW :: b :: c :: d :: x :: r') 4 ((r'.length : Int) + 5) = some (x :: r') := by
            have := cut_ok (l := cutW :: b :: c :: d :: x :: r') (i := 4) (j := r'.length + 5) (by omega) (by simp)
            rw [List.take_of_length_le (by simp)] at this
            rw [show ((r'.length + 5 : Nat) : Int) = (r'.length : Int) + 5 by omega] at this
            exact this
          rw [c4]
          unfold deedS
          dsimp only
          rw [if_pos rfl]
          rfl
        · unfold deedS
          dsimp only
          rw [if_pos c1]
    · have hcond : ((w == ([99, 117, 116] : Str)) && decide ((4 : Int) < ((w :: r).length : Int))) = false := by
        rw [beqL, Bool.and_eq_false_iff]
        by_cases q : w = cutW
        · right
          refine decide_eq_false fun q2 => c ⟨q, ?_⟩
          rw [List.length_cons] at q2
          omega
        · left
          exact decide_eq_false q
      rw [hcond]
      refine ⟨w, r, ?_, ?_, fun y hy => hmem y (List.mem_cons_of_mem _ hy), by simp at hlen; omega⟩
      · have : (deedS (w :: r)).2 = (-1, [], []) := by
          match r, c with
          | [], _ => rfl
          | [_], _ => rfl
          | [_, _], _ => rfl
          | [_, _, _], _ => rfl
          | b :: c :: d :: x :: r', c' =>
            unfold deedS
            dsimp only
            rw [if_neg (fun q => c' ⟨q, by simp⟩)]
        rw [this]
        rfl
      · match r, c with
        | [], _ => rfl
        | [_], _ => rfl
        | [_, _], _ => rfl
        | [_, _, _], _ => rfl
        | b :: c :: d :: x :: r', c' =>
          unfold deedS
          dsimp only
          rw [if_neg (fun q => c' ⟨q, by simp⟩)]
          rfl
  obtain ⟨w', r', h1, h2, h3, h4⟩ := j0
  rw [h1]
  simp only [Option.bind_some]
  rw [show at? (w' :: r') 0 = some w' from at_nat (l := w' :: r') (i := 0) (by simp)]
  simp only [Option.bind_some]
  rw [sKinds w' (by omega)]
  simp only [Option.bind_some]
  rw [sCmdRead w' r' h3 _ _ _ (by omega), ← h2]
  simp only [Option.bind_some]
  generalize deedS (w :: r) = d at hL ⊢
  rw [beqL]
  by_cases q : t = []
  · rw [decide_eq_true q, if_neg (fun z => z.1 q)]
    rfl
  · rw [decide_eq_false q]
    have htx := sDeedText d (by omega) (by omega) hk
    have htx : spec_DeedText k ((d.1.1, (d.1.2.1, (d.1.2.2.1, (d.1.2.2.2.1, (d.1.2.2.2.2.1, (d.1.2.2.2.2.2.1, (d.1.2.2.2.2.2.2.1, d.1.2.2.2.2.2.2.2))))))), d.2) = some (deedM d) := htx
    rw [htx]
    simp only [cond_false, Option.bind_some]
    rw [beqL]
    by_cases z : deedM d = t
    · rw [decide_eq_true z, if_pos ⟨q, z⟩]
      rfl
    · rw [decide_eq_false z, if_neg (fun y => z y.2)]
      rfl
/-- Both sides read the same, at every text. -/
theorem bothRead (t : Str) (ht : t.length ≤ 8000) : ∃ d : DeedT, ∃ c : Int, (∀ k, 2000000 ≤ k → impl_deedRead k t = some (tupB d (decide (c = 0))) ∧ spec_DeedRead k t = some (tupD d c)) ∧ d.2.2.1.length ≤ 8001 ∧ d.2.2.2.length ≤ 8001 ∧
    ((c = 0 ∧ deedB d = true ∧ deedM d = t ∧ t ≠ []) ∨ (c = 3 ∧ d = zeroD ∧ ∀ e : DeedT, deedB e = true → deedM e = t → t = [])) := by
  have hmem : ∀ x ∈ splitM 32 t, x.length ≤ 8000 := fun x hx => by have := (splitM_mem hx).2; omega
  have hnil : deedB (deedI (splitM 32 [])) = false := by
    have : (deedI (splitM 32 [])).1.1 = 0 := by
      show (cmdI [] [] [] []).1 = 0
      unfold cmdI
      rw [if_neg (by decide), if_neg (by decide), if_neg (by decide)]
      decide
    unfold deedB cmdB
    rw [this]
    rfl
  by_cases h : ∃ e : DeedT, deedB e = true ∧ deedM e = t ∧ t ≠ []
  · obtain ⟨e, h1, h2, h3⟩ := h
    obtain ⟨b1, b2⟩ := deed_back h1 (by rw [h2]; exact h3) (by rw [h2]; exact ht)
    rw [h2] at b1 b2
    refine ⟨e, 0, fun k hk => ?_, by rw [← b1]; exact (deedI_lens _ hmem).1, by rw [← b1]; exact (deedI_lens _ hmem).2, .inl ⟨rfl, h1, h2, h3⟩⟩
    rw [iRead0 t ht hk, sRead t ht hk, b1, b2, if_pos ⟨h1, h2⟩, if_pos ⟨h3, h2⟩]
    exact ⟨rfl, rfl⟩
  · have no : ∀ e : DeedT, deedB e = true → deedM e = t → t = [] := fun e h1 h2 => Classical.byContradiction fun h3 => h ⟨e, h1, h2, h3⟩
    refine ⟨((0, 0, 0, [], 0, 0, 0, []), 0, [], []), 3, fun k hk => ?_, by simp, by simp, .inr ⟨rfl, rfl, no⟩⟩
    have hI : ¬ (deedB (deedI (splitM 32 t)) = true ∧ deedM (deedI (splitM 32 t)) = t) := by
      intro q
      have ht0 := no _ q.1 q.2
      subst ht0
      rw [hnil] at q
      cases q.1
    rw [iRead0 t ht hk, sRead t ht hk, if_neg hI, if_neg]
    · exact ⟨rfl, rfl⟩
    · intro q
      cases hb : deedB (deedS (splitM 32 t)) with
      | true => exact q.1 (no _ hb q.2)
      | false =>
        have := q.2
        unfold deedM at this
        rw [hb] at this
        exact q.1 this.symm
end Go.Proofs.YtcnkbllbpimaiaaGreatDoorE

namespace Go.Proofs.YtcnkbllbpimaiaaGreatDoorE
open Go
set_option linter.unusedVariables false
def mtL : Nat → Int → Str → Str
  | 0, _, o => o
  | d + 1, n, o => if 0 < n then mtL d (n.tdiv 10) (listByte [IntKind.wrap .u8 (IntKind.wrap .i64 (48 + n.tmod 10))] ++ o) else o
/-- The text of a mark. -/
def mt (n : Int) : Str := if n ≤ 0 then [109, 48] else [109] ++ mtL 20 n []
theorem mtL_len : ∀ (d : Nat) (n : Int) (o : Str), (mtL d n o).length ≤ o.length + d
  | 0, _, _ => Nat.le_refl _
  | d + 1, n, o => by
    unfold mtL
    split
    · have := mtL_len d (n.tdiv 10) (listByte [IntKind.wrap .u8 (IntKind.wrap .i64 (48 + n.tmod 10))] ++ o)
      simp [listByte] at this ⊢
      omega
    · omega
theorem beq_self_str (s : Str) : (s == s) = true := by simp
/-- The marks of a list of strings. -/
def marks (n : Nat) (k : Int) : List Str := (List.range n).map fun (i : Nat) => mt (k + (i : Int))
theorem getElem_range_map {β : Type} (f : Nat → β) (n i : Nat) (h : i < n) : ((List.range n).map f)[i]'(by simpa using h) = f i := by simp
/-- What a list looks like when its first places have been written. -/
theorem mark_step {β : Type} (l : List β) (f : Nat → β) (i : Nat) (h : i < l.length) : ((List.range i).map f ++ l.drop i).set i (f i) = (List.range (i + 1)).map f ++ l.drop (i + 1) := by
  rw [List.set_append_right _ _ (by simp), List.length_map, List.length_range, Nat.sub_self, List.drop_eq_getElem_cons h, List.set_cons_zero, List.range_succ, List.map_append, List.append_assoc]
  rfl
theorem mark_len {β : Type} (l : List β) (f : Nat → β) (i : Nat) (h : i ≤ l.length) : ((List.range i).map f ++ l.drop i).length = l.length := by simp; omega
theorem at_set {α : Type} {l : List α} {i : Nat} {x : α} (h : i < l.length) : at? (l.set i x) (i : Int) = some x := by
  rw [at_nat (by rw [List.length_set]; exact h), List.getElem_set_self]
end Go.Proofs.YtcnkbllbpimaiaaGreatDoorE

namespace Go.Proofs.YtcnkbllbpimaiaaGreatDoorE
open Go
set_option linter.unusedVariables false
end Go.Proofs.YtcnkbllbpimaiaaGreatDoorE

namespace Go.Proofs.YtcnkbllbpimaiaaGreatDoorE
open Go
set_option linter.unusedVariables false
namespace ImRead
def blk (c : UInt8) : Str := List.replicate 8 c
def isL (c : UInt8) : Bool := decide (97 ≤ c.toNat) && decide (c.toNat ≤ 122)
/-- What both find. -/
def found (t : Str) : List Str × Int := if 8000 < t.length then ([], 2) else if 1 ≤ t.length ∧ t.length ≤ 8 ∧ t.all isL = true then (t.map blk, 0) else ([], 3)
theorem blk_get (c : UInt8) (i : Nat) (h : i < 8) : (blk c)[i]'(by simpa [blk] using h) = c := List.getElem_replicate _
theorem blk_at (c : UInt8) (i : Nat) (h : i < 8) : at? (blk c) (i : Int) = some c := by
  rw [at_nat (by simpa [blk] using h), blk_get c i h]
theorem blk_at0 (c : UInt8) : at? (blk c) 0 = some c := blk_at c 0 (by omega)
theorem blk_len (c : UInt8) : (blk c).length = 8 := by simp [blk]
theorem listByte_nat (c : UInt8) : listByte [((c.toNat : Nat) : Int)] = [c] := by
  simp [listByte]
theorem listByte_rep (c : UInt8) (n : Nat) : listByte (List.replicate n ((c.toNat : Nat) : Int)) = List.replicate n c := by
  simp [listByte]
theorem listByte_map (t : Str) : listByte (t.map fun c => ((c.toNat : Nat) : Int)) = t := by
  unfold listByte
  rw [List.map_map]
  conv => rhs; rw [← List.map_id t]
  refine List.map_congr_left fun c _ => ?_
  simp
theorem block_eq (c : UInt8) : Ever fun k => spec_l17Block k ((c.toNat : Nat) : Int) = some (blk c) := by
  have key : Ever fun k => spec_l17Block.l0 k ((c.toNat : Nat) : Int) 0 [] = some (List.replicate 8 ((c.toNat : Nat) : Int)) := by
    refine loop_of (fun j i => spec_l17Block.l0 j ((c.toNat : Nat) : Int) (i : Int) (List.replicate i ((c.toNat : Nat) : Int))) 8 _ (fun i hi j => ?_) fun j => ?_
    · conv => lhs; unfold spec_l17Block.l0
      rw [decide_eq_true (by omega : (i : Int) < 8)]
      simp only [cond_true]
      rw [app_ok (by simp; omega)]
      simp only [Option.bind_some]
      rw [wsuc (by omega), ← List.replicate_succ']
    · conv => lhs; unfold spec_l17Block.l0
      rfl
  refine key.mono fun k hk => ?_
  unfold spec_l17Block
  rw [hk]
  simp only [Option.bind_some, listByte_rep]
  rfl
theorem specRead_l (t : Str) (h : t.length ≤ 8000) : Ever fun k => spec_ImageRead.l0 k k t 0 [] = some (t.map blk) := by
  have hb := Ever.all (n := t.length) (p := fun i k => ∀ c, t[i]? = some c → spec_l17Block k ((c.toNat : Nat) : Int) = some (blk c)) fun i hi => (block_eq t[i]).mono fun k hk c hc => by
    rw [List.getElem?_eq_getElem hi] at hc
    cases hc
    exact hk
  refine ever_loop (fun k j i => spec_ImageRead.l0 k j t (i : Int) ((t.take i).map blk)) t.length _ (hb.mono fun k hk i hi j => ?_) (Ever.of fun k j => ?_)
  · conv => lhs; unfold spec_ImageRead.l0
    rw [decide_eq_true (by omega : (i : Int) < (t.length : Int))]
    simp only [cond_true]
    rw [at_nat hi]
    simp only [Option.bind_some]
    rw [hk i hi t[i] (List.getElem?_eq_getElem hi)]
    simp only [Option.bind_some]
    rw [app_ok (by simp; omega)]
    simp only [Option.bind_some]
    rw [wsuc (by omega), take_map_succ blk hi]
  · conv => lhs; unfold spec_ImageRead.l0
    rw [decide_eq_false (by omega : ¬ ((t.length : Int) < (t.length : Int)))]
    simp only [cond_false, List.take_length]
theorem right_eq (t : Str) (h : t.length ≤ 8000) : Ever fun k => spec_ImageRight k (t.map blk) = some (decide (1 ≤ t.length) && decide (t.length ≤ 8)) := by
  have key : Ever fun k => spec_ImageRight.l0 k (t.map blk) 0 = some (.inl ()) := by
    refine loop_of (fun j i => spec_ImageRight.l0 j (t.map blk) (i : Int)) t.length _ (fun i hi j => ?_) fun j => ?_
    · conv => lhs; unfold spec_ImageRight.l0
      rw [List.length_map, decide_eq_true (by omega : (i : Int) < (t.length : Int))]
      simp only [cond_true]
      rw [at_nat (by simpa using hi)]
      simp only [Option.bind_some, List.getElem_map, blk_len]
      rw [wsuc (by omega)]
      rfl
    · conv => lhs; unfold spec_ImageRight.l0
      rw [List.length_map, decide_eq_false (by omega : ¬ ((t.length : Int) < (t.length : Int)))]
      rfl
  refine key.mono fun k hk => ?_
  unfold spec_ImageRight
  rw [hk, List.length_map]
  by_cases h1 : 1 ≤ t.length
  · by_cases h2 : t.length ≤ 8
    · rw [decide_eq_false (by omega : ¬ ((t.length : Int) < 1)), decide_eq_false (by omega : ¬ (8 < (t.length : Int))), decide_eq_true h1, decide_eq_true h2]
      rfl
    · rw [decide_eq_true (by omega : 8 < (t.length : Int)), decide_eq_false h2]
      simp
  · rw [decide_eq_true (by omega : (t.length : Int) < 1), decide_eq_false h1]
    simp
theorem letter_eq (c : UInt8) : Ever fun k => spec_l17Letter k (blk c) = some (if isL c = true then ((c.toNat : Nat) : Int) else 0) := by
  have key : Ever fun k => spec_l17Letter.l0 k (blk c) 1 = some (.inl ()) := by
    refine loop_of (fun j i => spec_l17Letter.l0 j (blk c) ((i + 1 : Nat) : Int)) 7 _ (fun i hi j => ?_) fun j => ?_
    · conv => lhs; unfold spec_l17Letter.l0
      rw [decide_eq_true (by omega : ((i + 1 : Nat) : Int) < 8)]
      simp only [cond_true]
      rw [blk_at c (i + 1) (by omega)]
      simp only [Option.bind_some]
      rw [blk_at0 c]
      simp only [Option.bind_some]
      rw [wsuc (by omega)]
      simp
    · conv => lhs; unfold spec_l17Letter.l0
      rfl
  refine key.mono fun k hk => ?_
  unfold spec_l17Letter
  rw [hk, blk_len, blk_at0 c]
  simp only [Option.bind_some]
  unfold isL
  by_cases h1 : 97 ≤ c.toNat
  · by_cases h2 : c.toNat ≤ 122
    · rw [decide_eq_true h1, decide_eq_true h2, decide_eq_false (by omega : ¬ ((c.toNat : Int) < 97)), decide_eq_false (by omega : ¬ (122 < (c.toNat : Int)))]
      rfl
    · rw [decide_eq_true h1, decide_eq_false h2, decide_eq_false (by omega : ¬ ((c.toNat : Int) < 97)), decide_eq_true (by omega : 122 < (c.toNat : Int))]
      rfl
  · rw [decide_eq_false h1, decide_eq_true (by omega : (c.toNat : Int) < 97)]
    rfl
theorem isL_ne {c : UInt8} (h : isL c = true) : ((c.toNat : Nat) : Int) ≠ 0 := by
  unfold isL at h
  have := of_decide_eq_true ((Bool.and_eq_true _ _).mp h).1
  omega
theorem letters (t : Str) : Ever fun k => ∀ i, (h : i < t.length) → spec_l17Letter k (blk t[i]) = some (if isL t[i] = true then ((t[i].toNat : Nat) : Int) else 0) := by
  refine (Ever.all (n := t.length) (p := fun i k => ∀ c, t[i]? = some c → spec_l17Letter k (blk c) = some (if isL c = true then ((c.toNat : Nat) : Int) else 0)) fun i hi => (letter_eq t[i]).mono fun k hk c hc => ?_).mono fun k hk i hi => hk i hi _ (List.getElem?_eq_getElem hi)
  rw [List.getElem?_eq_getElem hi] at hc
  cases hc
  exact hk
theorem specText (t : Str) (h : t.length ≤ 8000) : Ever fun k => spec_ImageText k (t.map blk) = some (if 1 ≤ t.length ∧ t.length ≤ 8 ∧ t.all isL = true then t else []) := by
  by_cases hr : 1 ≤ t.length ∧ t.length ≤ 8
  · -- a right image
    have hright : Ever fun k => spec_ImageRight k (t.map blk) = some true := (right_eq t h).mono fun k hk => by rw [hk, decide_eq_true hr.1, decide_eq_true hr.2]; rfl
    have hboth := hright.and (letters t)
    have step : ∀ k, (spec_ImageRight k (t.map blk) = some true ∧ ∀ i, (h : i < t.length) → spec_l17Letter k (blk t[i]) = some (if isL t[i] = true then ((t[i].toNat : Nat) : Int) else 0)) → ∀ i, (hi : i < t.length) → isL t[i] = true → ∀ j,
        spec_ImageText.l0 k (j + 1) (t.map blk) (i : Int) ((t.take i).map fun c => ((c.toNat : Nat) : Int)) = spec_ImageText.l0 k j (t.map blk) ((i + 1 : Nat) : Int) ((t.take (i + 1)).map fun c => ((c.toNat : Nat) : Int)) := by
      intro k ⟨hk1, hk2⟩ i hi hL j
      conv => lhs; unfold spec_ImageText.l0
      rw [List.length_map, decide_eq_true (by omega : (i : Int) < (t.length : Int))]
      simp only [cond_true]
      rw [hk1]
      simp only [Option.bind_some, cond_true]
      rw [at_nat (by simpa using hi)]
      simp only [Option.bind_some, List.getElem_map]
      rw [hk2 i hi, if_pos hL]
      simp only [Option.bind_some]
      rw [beq_false_of_ne (isL_ne hL)]
      simp only [cond_false]
      rw [app_ok (by simp; omega)]
      simp only [Option.bind_some]
      rw [wsuc (by omega), take_map_succ _ hi]
    rcases list_first t isL with ha | ⟨ha, m, hm, hm2, hm3⟩
    · have key : Ever fun k => spec_ImageText.l0 k k (t.map blk) 0 [] = some (.inl (t.map fun c => ((c.toNat : Nat) : Int))) := by
        refine ever_loop (fun k j i => spec_ImageText.l0 k j (t.map blk) (i : Int) ((t.take i).map fun c => ((c.toNat : Nat) : Int))) t.length _ ?_ (Ever.of fun k j => ?_)
        · exact hboth.mono fun k hk i hi j => step k hk i hi (List.all_eq_true.1 ha _ (List.getElem_mem hi)) j
        conv => lhs; unfold spec_ImageText.l0
        rw [List.length_map, decide_eq_false (by omega : ¬ ((t.length : Int) < (t.length : Int))), List.take_length]
        rfl
      refine key.mono fun k hk => ?_
      unfold spec_ImageText
      rw [hk, if_pos ⟨hr.1, hr.2, ha⟩]
      simp only [Option.bind_some, listByte_map]
    · have key : Ever fun k => spec_ImageText.l0 k k (t.map blk) 0 [] = some (.inr []) := by
        refine ever_loop (fun k j i => spec_ImageText.l0 k j (t.map blk) (i : Int) ((t.take i).map fun c => ((c.toNat : Nat) : Int))) m _ ?_ (hboth.mono fun k hk j => ?_)
        · exact hboth.mono fun k hk i hi j => step k hk i (by omega) (hm3 i hi) j
        conv => lhs; unfold spec_ImageText.l0
        rw [List.length_map, decide_eq_true (by omega : (m : Int) < (t.length : Int))]
        simp only [cond_true]
        rw [hk.1]
        simp only [Option.bind_some, cond_true]
        rw [at_nat (by simpa using hm)]
        simp only [Option.bind_some, List.getElem_map]
        rw [hk.2 m hm, if_neg (by rw [hm2]; simp)]
        rfl
      refine key.mono fun k hk => ?_
      unfold spec_ImageText
      rw [hk, if_neg (fun q => by rw [ha] at q; exact absurd q.2.2 (by simp))]
      rfl
  · have hright : Ever fun k => spec_ImageRight k (t.map blk) = some false := (right_eq t h).mono fun k hk => by
      rw [hk]
      by_cases h1 : 1 ≤ t.length
      · rw [decide_eq_true h1, decide_eq_false (fun h2 => hr ⟨h1, h2⟩)]; rfl
      · rw [decide_eq_false h1]; rfl
    have key : Ever fun k => spec_ImageText.l0 k k (t.map blk) 0 [] = some (.inl []) := by
      refine ever_loop (fun k j i => spec_ImageText.l0 k j (t.map blk) (i : Int) []) 0 _ (Ever.of fun k i hi => absurd hi (Nat.not_lt_zero i)) (hright.mono fun k hk j => ?_)
      conv => lhs; unfold spec_ImageText.l0
      rw [hk]
      simp only [Option.bind_some, cond_false]
      cases decide (((0 : Nat) : Int) < ((t.map blk).length : Int)) <;> rfl
    refine key.mono fun k hk => ?_
    unfold spec_ImageText
    rw [hk, if_neg (fun q => hr ⟨q.1, q.2.1⟩)]
    rfl
theorem specE (t : Str) : Ever fun k => spec_ImageRead k t = some (found t) := by
  by_cases h : 8000 < t.length
  · refine Ever.of fun k => ?_
    unfold spec_ImageRead found
    rw [decide_eq_true (by omega : 8000 < (t.length : Int)), if_pos h]
    rfl
  · refine ((specRead_l t (by omega)).and (specText t (by omega))).mono fun k hk => ?_
    unfold spec_ImageRead found
    rw [decide_eq_false (by omega : ¬ (8000 < (t.length : Int))), if_neg h, hk.1]
    simp only [cond_false, Option.bind_some]
    cases t with
    | nil => rfl
    | cons c t =>
      have e : ((c :: t) == ([] : Str)) = false := rfl
      rw [e, hk.2]
      simp only [cond_false, Option.bind_some]
      split
      · rename_i hr
        rw [beq_self_str]
        rfl
      · rename_i hr
        have e2 : (([] : Str) == (c :: t)) = false := rfl
        rw [e2]
        rfl
/-! the program's -/
theorem repeat_eq (c : UInt8) : strings_Repeat [c] 8 = some (blk c) := by
  unfold strings_Repeat
  rw [if_pos ⟨by omega, by simp, by omega⟩]
  have : Lib.repeatL [c] 8 = List.replicate (8 * 1) c := Lib.repeatL_replicate c 1 8
  rw [show (8 : Int).toNat = 8 from rfl, this]
  rfl
theorem implRead_l (t : Str) (h : t.length ≤ 8) : Ever fun k => impl_imageRead.l0 k t (t.length : Int) 0 [] = some (t.map blk) := by
  refine loop_of (fun j i => impl_imageRead.l0 j t (t.length : Int) (i : Int) ((t.take i).map blk)) t.length _ (fun i hi j => ?_) fun j => ?_
  · conv => lhs; unfold impl_imageRead.l0
    rw [decide_eq_true (by omega : (i : Int) < (t.length : Int))]
    simp only [cond_true]
    rw [wsuc (by omega), cut_ok (by omega) (by omega)]
    simp only [Option.bind_some]
    have e : (t.take (i + 1)).drop i = [t[i]] := by
      have hlen : (t.take i).length = i := by simp; omega
      rw [take_succ' hi, List.drop_append_of_le_length (by rw [hlen]; exact Nat.le_refl i), List.drop_of_length_le (by rw [hlen]; exact Nat.le_refl i)]
      rfl
    rw [e, repeat_eq]
    simp only [Option.bind_some]
    rw [app_ok (by simp; omega)]
    simp only [Option.bind_some]
    rw [take_map_succ blk hi]
  · conv => lhs; unfold impl_imageRead.l0
    rw [decide_eq_false (by omega : ¬ ((t.length : Int) < (t.length : Int)))]
    simp only [cond_false, List.take_length]
theorem isImage_eq (t : Str) (h : t.length ≤ 8) : Ever fun k => impl_isImage k (t.map blk) = some (decide (1 ≤ t.length)) := by
  have key : Ever fun k => slices_IndexFunc_string_isImage_1.l0 k (t.map blk) (t.length : Int) 0 = some (.inl ()) := by
    refine loop_of (fun j i => slices_IndexFunc_string_isImage_1.l0 j (t.map blk) (t.length : Int) (i : Int)) t.length _ (fun i hi j => ?_) fun j => ?_
    · conv => lhs; unfold slices_IndexFunc_string_isImage_1.l0
      rw [decide_eq_true (by omega : (i : Int) < (t.length : Int))]
      simp only [cond_true]
      rw [at_nat (by simpa using hi)]
      simp only [Option.bind_some, List.getElem_map]
      unfold impl_isImage_1
      rw [blk_len]
      simp only [Option.bind_some]
      rw [wsuc (by omega)]
      rfl
    · conv => lhs; unfold slices_IndexFunc_string_isImage_1.l0
      rw [decide_eq_false (by omega : ¬ ((t.length : Int) < (t.length : Int)))]
      rfl
  refine key.mono fun k hk => ?_
  unfold impl_isImage impl_size_string impl_isBlocks impl_within slices_ContainsFunc_string_isImage_1 slices_IndexFunc_string_isImage_1
  simp only [List.length_map, Option.bind_some]
  by_cases h1 : 1 ≤ t.length
  · rw [decide_eq_true (by omega : (1 : Int) ≤ (t.length : Int)), decide_eq_true (by omega : (t.length : Int) ≤ 8), hk, decide_eq_true h1]
    rfl
  · rw [decide_eq_false (by omega : ¬ ((1 : Int) ≤ (t.length : Int))), decide_eq_false h1]
    rfl
theorem letterOf_eq (c : UInt8) : impl_letterOf (blk c) = some (if isL c = true then [c] else []) := by
  unfold impl_letterOf
  have hcut : cut? (blk c) 0 1 = some [c] := by
    have := cut_ok (l := blk c) (i := 0) (j := 1) (by omega) (by rw [blk_len]; omega)
    exact this
  have hcount : strings_Count (blk c) [c] = some 8 := by
    show some (((blk c).count c : Nat) : Int) = some 8
    simp [blk]
  have h0 : at? (blk c) 0 = some c := blk_at c 0 (by omega)
  rw [blk_len, h0]
  simp only [Option.bind_some, hcut, hcount]
  unfold isL
  by_cases h1 : 97 ≤ c.toNat
  · by_cases h2 : c.toNat ≤ 122
    · rw [decide_eq_true h1, decide_eq_true h2, decide_eq_false (by omega : ¬ ((c.toNat : Int) < 97)), decide_eq_false (by omega : ¬ (122 < (c.toNat : Int)))]
      rfl
    · rw [decide_eq_true h1, decide_eq_false h2, decide_eq_false (by omega : ¬ ((c.toNat : Int) < 97)), decide_eq_true (by omega : 122 < (c.toNat : Int))]
      rfl
  · rw [decide_eq_false h1, decide_eq_true (by omega : (c.toNat : Int) < 97)]
    rfl
theorem implText (t : Str) (h : t.length ≤ 8) : Ever fun k => impl_imageText k (t.map blk) = some (if t.all isL = true then t else []) := by
  have step : ∀ i, (hi : i < t.length) → isL t[i] = true → ∀ j, impl_imageText.l0 (j + 1) (t.take i) (t.map blk) (t.length : Int) (i : Int) = impl_imageText.l0 j (t.take (i + 1)) (t.map blk) (t.length : Int) ((i + 1 : Nat) : Int) := by
    intro i hi hL j
    conv => lhs; unfold impl_imageText.l0
    rw [decide_eq_true (by omega : (i : Int) < (t.length : Int))]
    simp only [cond_true]
    rw [at_nat (by simpa using hi)]
    simp only [Option.bind_some, List.getElem_map]
    rw [letterOf_eq, if_pos hL]
    simp only [Option.bind_some]
    have e : (([t[i]] : Str) == []) = false := rfl
    rw [e]
    simp only [cond_false]
    rw [cat_some (by simp; omega)]
    simp only [Option.bind_some]
    rw [wsuc (by omega), take_succ' hi]
  rcases list_first t isL with ha | ⟨ha, m, hm, hm2, hm3⟩
  · have key : Ever fun k => impl_imageText.l0 k [] (t.map blk) (t.length : Int) 0 = some (.inl t) := by
      refine loop_of (fun j i => impl_imageText.l0 j (t.take i) (t.map blk) (t.length : Int) (i : Int)) t.length _ (fun i hi j => step i hi (List.all_eq_true.1 ha _ (List.getElem_mem hi)) j) fun j => ?_
      conv => lhs; unfold impl_imageText.l0
      rw [decide_eq_false (by omega : ¬ ((t.length : Int) < (t.length : Int))), List.take_length]
      rfl
    refine key.mono fun k hk => ?_
    unfold impl_imageText
    rw [List.length_map, hk, if_pos ha]
    rfl
  · have key : Ever fun k => impl_imageText.l0 k [] (t.map blk) (t.length : Int) 0 = some (.inr []) := by
      refine loop_of (fun j i => impl_imageText.l0 j (t.take i) (t.map blk) (t.length : Int) (i : Int)) m _ (fun i hi j => step i (by omega) (hm3 i hi) j) fun j => ?_
      conv => lhs; unfold impl_imageText.l0
      rw [decide_eq_true (by omega : (m : Int) < (t.length : Int))]
      simp only [cond_true]
      rw [at_nat (by simpa using hm)]
      simp only [Option.bind_some, List.getElem_map]
      rw [letterOf_eq, if_neg (by rw [hm2]; simp)]
      rfl
    refine key.mono fun k hk => ?_
    unfold impl_imageText
    rw [List.length_map, hk, if_neg (by rw [ha]; simp)]
    rfl
/-- Whether a text is an image's letters. -/
def okI (t : Str) : Bool := decide (1 ≤ t.length ∧ t.length ≤ 8 ∧ t.all isL = true)
theorem found_ok {t : Str} (ht : t.length ≤ 8000) : found t = if okI t = true then (t.map blk, 0) else ([], 3) := by
  unfold found okI
  rw [if_neg (by omega)]
  simp only [decide_eq_true_eq]
theorem imgE (t : Str) : Ever fun k => ∃ l, impl_imageRead k t = some (l, okI t) ∧ (okI t = true → l = t.map blk) := by
  by_cases h8 : 8 < t.length
  · refine Ever.of fun k => ⟨[], ?_, fun q => ?_⟩
    · unfold impl_imageRead okI
      rw [decide_eq_true (by omega : 8 < (t.length : Int)), decide_eq_false (fun q => by omega)]
      rfl
    · unfold okI at q
      have := of_decide_eq_true q
      omega
  · refine (((implRead_l t (by omega)).and (isImage_eq t (by omega))).and (implText t (by omega))).mono fun k hk => ⟨t.map blk, ?_, fun _ => rfl⟩
    unfold impl_imageRead okI
    rw [decide_eq_false (by omega : ¬ (8 < (t.length : Int))), hk.1.1]
    simp only [cond_false, Option.bind_some]
    rw [hk.1.2]
    simp only [Option.bind_some]
    by_cases h1 : 1 ≤ t.length
    · rw [decide_eq_true h1, hk.2]
      simp only [cond_true, Option.bind_some]
      by_cases ha : t.all isL = true
      · rw [if_pos ha, decide_eq_true ⟨h1, by omega, ha⟩, beq_self_str]
      · rw [if_neg ha, decide_eq_false (fun q => ha q.2.2)]
        have e : (([] : Str) == t) = false := by
          cases t with
          | nil => exact absurd h1 (by simp)
          | cons _ _ => rfl
        rw [e]
    · rw [decide_eq_false h1, decide_eq_false (fun q => h1 q.1)]
      rfl
theorem found_len (t : Str) : (found t).1.length ≤ 8 := by
  unfold found
  split
  · simp
  · split
    · rename_i h; simpa using h.2.1
    · simp
end ImRead
end Go.Proofs.YtcnkbllbpimaiaaGreatDoorE
