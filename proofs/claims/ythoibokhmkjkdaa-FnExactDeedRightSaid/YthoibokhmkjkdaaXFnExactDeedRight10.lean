/- What the law FnExactDeedRight needs, part 11 of 11: the Lean functions of the Go functions that it reaches, with the proofs that the calls come to what they say, and plain facts about them; the last theorem is the law. Conditions: those that each theorem states. Written by a session and by its programs (after the kit's printer). -/
import Derived.Laws.BitsLemmas
import Derived.Test.YthoibokhmkjkdaaRows
import Derived.WalkKit
import Derived.ProofKit
import Derived.OpenShut
import Derived.ShutString
import Derived.ChangeOld
import Derived.Below
import Derived.SizedLaws
import Derived.Test.YthoibokhmkjkdaaXFnExactDeedRight0
import Derived.Test.YthoibokhmkjkdaaXFnExactDeedRight1
import Derived.Test.YthoibokhmkjkdaaXFnExactDeedRight2
import Derived.Test.YthoibokhmkjkdaaXFnExactDeedRight3
import Derived.Test.YthoibokhmkjkdaaXFnExactDeedRight4
import Derived.Test.YthoibokhmkjkdaaXFnExactDeedRight5
import Derived.Test.YthoibokhmkjkdaaXFnExactDeedRight6
import Derived.Test.YthoibokhmkjkdaaXFnExactDeedRight7
import Derived.Test.YthoibokhmkjkdaaXFnExactDeedRight8
import Derived.Test.YthoibokhmkjkdaaXFnExactDeedRight9
namespace Go.Proofs.Ythoibokhmkjkdaa.P
open Go.RowKit Go.Proofs.YthoibokhmkjkdaaW.PrintWords Go.Proofs.YthoibokhmkjkdaaW.PrintLast Go.Proofs.YthoibokhmkjkdaaW.PrintMore
attribute [local go_sem] max2_int min2_int max_two min_two max_three min_three max_four min_four   -- for this text's walks alone
set_option linter.unusedVariables false
set_option linter.unusedSimpArgs false
def ok2 (x : Int) : Prop := (Lit.int .i64 x).wf = true
def laws_FnExactDeedRight.Pure : Prop := ∀ (a0_0 : Int) (a0_1 : Int) (a0_2 : Int) (a0_3 : ByteArray) (a0_4 : Int) (a0_5 : Int) (a0_6 : Int) (a0_7 : ByteArray) (a0_8 : Int) (l0_9 : List Int) (l0_10 : List Int), (Lit.int .i64 a0_0).wf = true → (Lit.int .i64 a0_1).wf = true → (Lit.int .i64 a0_2).wf = true → a0_3.size ≤ 140737488351232 → (Lit.int .i64 a0_4).wf = true → (Lit.int .i64 a0_5).wf = true → (Lit.int .i64 a0_6).wf = true → a0_7.size ≤ 140737488351232 → (Lit.int .i64 a0_8).wf = true → l0_9.length ≤ maxLen → l0_9.length * 8 ≤ 140737488351232 → (∀ a ∈ l0_9, ok2 a) → l0_10.length ≤ maxLen → l0_10.length * 8 ≤ 140737488351232 → (∀ a ∈ l0_10, ok2 a) → ∃ k, laws_FnExactDeedRight.f k a0_0 a0_1 a0_2 a0_3 a0_4 a0_5 a0_6 a0_7 a0_8 l0_9 l0_10 = some true
end Go.Proofs.Ythoibokhmkjkdaa.P

namespace Go.Proofs.Ythoibokhmkjkdaa.Pure
open Go Go.RowKit Go.Proofs.YthoibokhmkjkdaaW.PrintWords Go.Proofs.YthoibokhmkjkdaaW.PrintLast Go.Proofs.YthoibokhmkjkdaaW.PrintMore
theorem w64 {n : Int} (h0 : -9223372036854775808 ≤ n) (h1 : n < 9223372036854775808) : wrap64 n = n := by unfold wrap64; omega
theorem wf64 {n : Int} (h : (Lit.int .i64 n).wf = true) : -9223372036854775808 ≤ n ∧ n ≤ 9223372036854775807 := by
  simp [Lit.wf, IntKind.min, IntKind.max, IntKind.signed, IntKind.bits] at h
  omega
theorem u64w (n : Int) : IntKind.u64.wrap n = n % 18446744073709551616 := by simp [IntKind.wrap, IntKind.bits, IntKind.signed]
/-- One round more, where the tests are known. -/
theorem Ev.now' {α : Type} {g : Nat → Option α} {r : α} (h : ∀ k, g (k + 1) = some r) : Ev g r := ⟨1, fun k hk => by
  obtain ⟨m, rfl⟩ : ∃ m, k = m + 1 := ⟨k - 1, by omega⟩
  exact h m⟩
theorem Ev.all {α : Type} {g : Nat → Option α} {r : α} (h : ∀ k, g k = some r) : Ev g r := ⟨0, fun k _ => h k⟩
theorem Ev.ifp {α : Type} {c : Prop} [Decidable c] {g f : Nat → Option α} {r : α} (h : c) (hg : Ev g r) : Ev (fun k => if c then g k else f k) r := Ev.congr (fun _ => if_pos h) hg
theorem Ev.ifn {α : Type} {c : Prop} [Decidable c] {g f : Nat → Option α} {r : α} (h : ¬ c) (hf : Ev f r) : Ev (fun k => if c then g k else f k) r := Ev.congr (fun _ => if_neg h) hf
theorem Ev.ite {α : Type} {c : Prop} [Decidable c] {g f : Nat → Option α} {r q : α} (hg : c → Ev g r) (hf : ¬ c → Ev f q) : Ev (fun k => if c then g k else f k) (if c then r else q) := by
  by_cases h : c
  · rw [if_pos h]; exact Ev.ifp h (hg h)
  · rw [if_neg h]; exact Ev.ifn h (hf h)
/-- The bytes of a string. -/
def B (s : ByteArray) : List Nat := s.data.toList.map (·.toNat)
theorem dl (s : ByteArray) : s.data.toList.length = s.size := by rw [Array.length_toList]; rfl
theorem B_len (s : ByteArray) : (B s).length = s.size := by unfold B; rw [List.length_map]; exact dl s
theorem B_lt (s : ByteArray) : ∀ x ∈ B s, x < 256 := by
  intro x hx
  simp only [B, List.mem_map] at hx
  obtain ⟨u, _, rfl⟩ := hx
  exact u.toNat_lt
theorem bt_B (s : ByteArray) (i : Nat) : bt s (i : Int) = (((B s).getD i 0 : Nat) : Int) := by
  unfold bt B
  simp only [Int.toNat_natCast]
  split
  · rename_i h
    have h' : i < s.data.toList.length := by rw [dl]; omega
    simp only [List.getD_eq_getElem?_getD, List.getElem?_map, List.getElem?_eq_getElem h', Option.map_some, Option.getD_some]
    rfl
  · rename_i h
    have h' : s.data.toList.length ≤ i := by rw [dl]; omega
    simp only [List.getD_eq_getElem?_getD, List.getElem?_map, List.getElem?_eq_none h', Option.map_none, Option.getD_none]
    rfl
theorem B_append (s t : ByteArray) : B (s ++ t) = B s ++ B t := by simp [B]
theorem B_ext {s t : ByteArray} (h : B s = B t) : s = t := by
  have h2 : s.data.toList = t.data.toList := by
    unfold B at h
    exact List.map_inj_right (fun a b hab => UInt8.toNat_inj.1 hab) |>.1 h
  cases s; cases t
  simp only [ByteArray.mk.injEq]
  exact Array.toList_inj.1 h2
/-- A string of numbers' bytes. -/
theorem B_nums (l : List Int) (h : ∀ x ∈ l, 0 ≤ x ∧ x < 256) : B (strOfNums l) = l.map Int.toNat := by
  unfold B strOfNums
  simp only [List.map_map]
  refine List.map_congr_left fun x hx => ?_
  have := h x hx
  simp only [Function.comp]
  simp
  omega
theorem bx32 (a b : Nat) (ha : a < 4294967296) (hb : b < 4294967296) : Go.bits .xor .u32 (a : Int) (b : Int) = ((a ^^^ b : Nat) : Int) := by
  have hx : a ^^^ b < 2 ^ 32 := Nat.xor_lt_two_pow (by omega) (by omega)
  show IntKind.u32.wrap (((BitVec.ofInt 32 (a : Int)) ^^^ (BitVec.ofInt 32 (b : Int))).toNat : Int) = _
  rw [BitVec.ofInt_natCast, BitVec.ofInt_natCast, BitVec.toNat_xor, BitVec.toNat_ofNat, BitVec.toNat_ofNat, IntKind.wrap_u32,
    Nat.mod_eq_of_lt (show a < 2 ^ 32 by omega), Nat.mod_eq_of_lt (show b < 2 ^ 32 by omega)]
  omega
theorem band1 (a : Nat) (ha : a < 4294967296) : Go.bits .and .u32 (a : Int) 1 = ((a % 2 : Nat) : Int) := by
  have h : a &&& 1 = a % 2 := Nat.and_one_is_mod a
  have e : (1 : Int) = ((1 : Nat) : Int) := rfl
  rw [e]
  show IntKind.u32.wrap (((BitVec.ofInt 32 (a : Int)) &&& (BitVec.ofInt 32 ((1 : Nat) : Int))).toNat : Int) = _
  rw [BitVec.ofInt_natCast, BitVec.ofInt_natCast, BitVec.toNat_and, BitVec.toNat_ofNat, BitVec.toNat_ofNat, IntKind.wrap_u32,
    Nat.mod_eq_of_lt (show a < 2 ^ 32 by omega), Nat.mod_eq_of_lt (show 1 < 2 ^ 32 by omega), h]
  omega
end Go.Proofs.Ythoibokhmkjkdaa.Pure

namespace Go.Proofs.Ythoibokhmkjkdaa.Pure
open Go Go.RowKit Go.Proofs.YthoibokhmkjkdaaW.PrintWords Go.Proofs.YthoibokhmkjkdaaW.PrintLast Go.Proofs.YthoibokhmkjkdaaW.PrintMore
/-- What a loop makes: d rounds from round i on, each going on or leaving. -/
def run {σ α : Type} (step : σ → Nat → σ ⊕ α) (fin : σ → α) : Nat → Nat → σ → α
  | 0, _, s => fin s
  | d + 1, i, s => match step s i with
    | .inl s' => run step fin d (i + 1) s'
    | .inr a => a
theorem ev_for {σ α : Type} (L : Nat → σ → Int → Option α) (n : Nat) (step : σ → Nat → σ ⊕ α) (fin : σ → α) (Inv : σ → Nat → Prop)
    (hs : ∀ s i, i < n → Inv s i → (∀ s', step s i = .inl s' → Inv s' (i + 1) ∧ ∀ r, Ev (fun k => L k s' ((i + 1 : Nat) : Int)) r → Ev (fun k => L k s (i : Int)) r) ∧ (∀ a, step s i = .inr a → Ev (fun k => L k s (i : Int)) a))
    (he : ∀ s, Inv s n → Ev (fun k => L k s (n : Int)) (fin s)) : ∀ d i s, i + d = n → Inv s i → Ev (fun k => L k s (i : Int)) (run step fin d i s)
  | 0, i, s, hd, hi => by
    obtain rfl : i = n := by omega
    exact he s hi
  | d + 1, i, s, hd, hi => by
    obtain ⟨h1, h2⟩ := hs s i (by omega) hi
    unfold run
    cases h : step s i with
    | inl s' =>
      obtain ⟨h3, h4⟩ := h1 s' h
      exact h4 _ (ev_for L n step fin Inv hs he d (i + 1) s' (by omega) h3)
    | inr a => exact h2 a h
/-- A list that is filled, place by place. -/
theorem ev_fill {β : Type} (L : Nat → List β → Int → Option (List β)) (n : Nat) (z : β) (v : Nat → β)
    (hs : ∀ x i, i < n → x.length = n → ∀ r, Ev (fun k => L k (x.set i (v i)) ((i + 1 : Nat) : Int)) r → Ev (fun k => L k x (i : Int)) r)
    (he : ∀ x, x.length = n → Ev (fun k => L k x (n : Int)) x) : Ev (fun k => L k (List.replicate n z) 0) ((List.range n).map v) := by
  have key : ∀ d i, i + d = n → Ev (fun k => L k ((List.range i).map v ++ List.replicate d z) (i : Int)) ((List.range n).map v) := by
    intro d
    induction d with
    | zero =>
      intro i hi
      obtain rfl : i = n := by omega
      have := he ((List.range i).map v) (by simp)
      simpa using this
    | succ d ih =>
      intro i hi
      refine hs _ i (by omega) (by simp; omega) _ ?_
      have e : ((List.range i).map v ++ List.replicate (d + 1) z).set i (v i) = (List.range (i + 1)).map v ++ List.replicate d z := by
        rw [List.set_append_right _ _ (by simp), List.length_map, List.length_range, Nat.sub_self, List.replicate_succ, List.set_cons_zero, List.range_succ, List.map_append, List.append_assoc]
        rfl
      rw [e]
      exact ih (i + 1) (by omega)
  have := key n 0 (by omega)
  simpa using this
theorem map_range_get {α β : Type} (l : List α) (c : α → β) (z : α) : (List.range l.length).map (fun i => c (l.getD i z)) = l.map c := by
  apply List.ext_getElem
  · simp
  · intro i h1 h2
    simp at h1
    simp [List.getD_eq_getElem?_getD, List.getElem?_eq_getElem h1]
/-- A test of all places. -/
theorem ev_all {α : Type} (L : Nat → Int → Option α) (n : Nat) (p : Nat → Bool) (no yes : α)
    (hs : ∀ i, i < n → (p i = true → ∀ r, Ev (fun k => L k ((i + 1 : Nat) : Int)) r → Ev (fun k => L k (i : Int)) r) ∧ (p i = false → Ev (fun k => L k (i : Int)) no))
    (he : Ev (fun k => L k (n : Int)) yes) : Ev (fun k => L k 0) (if (List.range n).all p = true then yes else no) := by
  have key : ∀ d i, i + d = n → Ev (fun k => L k (i : Int)) (if (List.range' i d).all p = true then yes else no) := by
    intro d
    induction d with
    | zero =>
      intro i hi
      obtain rfl : i = n := by omega
      simpa using he
    | succ d ih =>
      intro i hi
      rw [List.range'_succ, List.all_cons]
      cases hp : p i with
      | false =>
        have h := (hs i (by omega)).2 hp
        simpa using h
      | true =>
        have h := (hs i (by omega)).1 hp _ (ih (i + 1) (by omega))
        rw [Bool.true_and]
        exact h
  have := key n 0 (by omega)
  rw [List.range_eq_range']
  exact this
theorem rd_get (l : List Int) (i : Nat) : rd l (i : Int) = l.getD i 0 := by simp [rd]
theorem wsucc (i : Nat) (h : i < 9223372036854775807) : wrap64 ((i : Int) + 1) = ((i + 1 : Nat) : Int) := by rw [w64] <;> omega
theorem wpred (i : Nat) (h : 0 < i) (h2 : i < 9223372036854775807) : wrap64 ((i : Int) - 1) = ((i - 1 : Nat) : Int) := by rw [w64] <;> omega
end Go.Proofs.Ythoibokhmkjkdaa.Pure

namespace Go.Proofs.Ythoibokhmkjkdaa.Pure
open Go.RowKit Go.Proofs.YthoibokhmkjkdaaW.PrintWords Go.Proofs.YthoibokhmkjkdaaW.PrintLast Go.Proofs.Ythoibokhmkjkdaa.P
theorem within_eq (a b c : Int) : impl_within.f a b c = some (decide (b ≤ a) && decide (a ≤ c)) := by
  unfold impl_within.f; split <;> simp_all
  omega
theorem is_eq (a b c : Int) : spec_l03Is.f a b c = some (decide (b ≤ a) && decide (a ≤ c)) := by
  unfold spec_l03Is.f; split <;> simp_all
  omega
theorem time_eq (a : Int) : impl_isTime.f a = some (decide (0 ≤ a) && decide (a ≤ 1000000)) := by
  unfold impl_isTime.f; rw [within_eq]; rfl
theorem ite_some {α : Type} (c : Prop) [Decidable c] (a b : α) : (if c then some a else some b) = some (if c then a else b) := by split <;> rfl
theorem ite_and (x y : Bool) : (if x = true then y else false) = (x && y) := by cases x <;> rfl
end Go.Proofs.Ythoibokhmkjkdaa.Pure

namespace Go.Proofs.Ythoibokhmkjkdaa.Pure
open Go Go.RowKit Go.Proofs.YthoibokhmkjkdaaW.PrintWords Go.Proofs.YthoibokhmkjkdaaW.PrintLast Go.Proofs.YthoibokhmkjkdaaW.PrintMore Go.Proofs.Ythoibokhmkjkdaa.P
def emptyB (d : ByteArray) : Bool := d.toList == ([] : List UInt8)
/-- A step is right, for so many blocks. -/
def stepB (k t f : Int) (d : ByteArray) (n : Int) : Bool :=
  if k = 1 then decide (0 ≤ t) && decide (t ≤ n - 1) && (f == 0) && emptyB d
  else if k = 2 then decide (0 ≤ t) && decide (t ≤ n - 1) && (f == 0) && ((d.size : Int) == 8)
  else if k = 3 then decide (0 ≤ t) && decide (t ≤ n - 1) && (decide (0 ≤ f) && decide (f ≤ n - 1)) && emptyB d
  else if k = 4 then decide (0 ≤ t) && decide (t ≤ n - 1) && (decide (0 ≤ f) && decide (f ≤ n - 1)) && ((d.size : Int) == 8)
  else if k = 5 then (t == 0) && (decide (0 ≤ f) && decide (f ≤ 1000000)) && emptyB d
  else false
theorem beq0 (a b : Int) : (a == b) = decide (a = b) := by rw [Bool.eq_iff_iff]; simp
theorem sStep (k t f : Int) (d : ByteArray) (n : Int) (h1 : 1 ≤ n) (h2 : n ≤ 8) : spec_StepRight.f k t f d n = some (stepB k t f d n) := by
  unfold spec_StepRight.f stepB
  simp only [is_eq, Option.bind_some]
  rw [show wrap64 (n - 1) = n - 1 from w64 (by omega) (by omega), if_pos (by rw [Bool.and_eq_true, decide_eq_true_eq, decide_eq_true_eq]; exact ⟨h1, h2⟩)]
  simp only [beq0, emptyB]
  generalize (decide (0 ≤ t) && decide (t ≤ n - 1)) = P
  generalize (decide (0 ≤ f) && decide (f ≤ n - 1)) = Q
  generalize (decide (0 ≤ f) && decide (f ≤ 1000000)) = R
  generalize (d.toList == ([] : List UInt8)) = E
  generalize decide ((d.size : Int) = 8) = Z
  by_cases c1 : k = 1
  · simp only [c1, if_true]; cases P <;> by_cases h : f = 0 <;> simp [h]
  by_cases c2 : k = 2
  · simp only [c2, if_true]; cases P <;> by_cases h : f = 0 <;> simp [h]
  by_cases c3 : k = 3
  · simp only [c3, if_true]; cases P <;> cases Q <;> simp
  by_cases c4 : k = 4
  · simp only [c4, if_true]; cases P <;> cases Q <;> simp
  by_cases c5 : k = 5
  · simp only [c5, if_true]; cases R <;> by_cases h : t = 0 <;> simp [h]
  simp [c1, c2, c3, c4, c5]
theorem iStep (k t f : Int) (d : ByteArray) (n : Int) (h1 : 1 ≤ n) (h2 : n ≤ 8) : Ev (fun r => impl_isStep.f r k t f d n) (stepB k t f d n) := by
  have hw : wrap64 (n - 1) = n - 1 := w64 (by omega) (by omega)
  refine ⟨5, fun r hr => ?_⟩
  obtain ⟨r, rfl⟩ : ∃ m, r = m + 5 := ⟨r - 5, by omega⟩
  unfold impl_isStep.f
  simp only [within_eq, time_eq, Option.bind_some, hw, impl_isStep.j0, impl_isStep.j1, impl_isStep.j2, impl_isStep.j3, stepB, beq0, emptyB]
  generalize (decide (0 ≤ t) && decide (t ≤ n - 1)) = P
  generalize (decide (0 ≤ f) && decide (f ≤ n - 1)) = Q
  generalize (decide (0 ≤ f) && decide (f ≤ 1000000)) = R
  generalize (d.toList == ([] : List UInt8)) = E
  generalize decide ((d.size : Int) = 8) = Z
  by_cases c1 : k = 1
  · subst c1; cases P <;> by_cases h : f = 0 <;> simp [h]
  by_cases c2 : k = 2
  · subst c2; cases P <;> by_cases h : f = 0 <;> simp [h]
  by_cases c3 : k = 3
  · subst c3; cases P <;> cases Q <;> simp
  by_cases c4 : k = 4
  · subst c4; cases P <;> cases Q <;> simp
  by_cases c5 : k = 5
  · subst c5; cases R <;> by_cases h : t = 0 <;> simp [h]
  have hk : (decide (1 ≤ k) && decide (k ≤ 5)) = false := by
    rw [Bool.eq_false_iff, Ne, Bool.and_eq_true, decide_eq_true_eq, decide_eq_true_eq]; omega
  simp [c1, c2, c3, c4, c5, hk]
end Go.Proofs.Ythoibokhmkjkdaa.Pure

namespace Go.Proofs.Ythoibokhmkjkdaa.Pure
open Go Go.RowKit Go.Proofs.YthoibokhmkjkdaaW.PrintWords Go.Proofs.YthoibokhmkjkdaaW.PrintLast Go.Proofs.YthoibokhmkjkdaaW.PrintMore Go.Proofs.Ythoibokhmkjkdaa.P
def zeroStep (k t f : Int) (d : ByteArray) : Bool := k == 0 && (t == 0 && (f == 0 && (d.toList == ([] : List UInt8))))
def cmdB (k a b : Int) (g : ByteArray) (sk st sf : Int) (sd : ByteArray) : Bool :=
  if k = 1 then decide (1 ≤ a) && decide (a ≤ 20) && (decide (0 ≤ b) && decide (b ≤ 4)) && decide ((g.size : Int) = 32) && zeroStep sk st sf sd
  else if k = 2 then decide (a = 0) && decide (b = 0) && decide (g.toList = []) && stepB sk st sf sd 8
  else if k = 9 then decide (1 ≤ a) && decide (a ≤ 24) && decide (b = 0) && decide (g.toList = []) && zeroStep sk st sf sd
  else if k = 7 then decide (0 ≤ a) && decide (a ≤ 1000000) && decide (b = 0) && decide (g.toList = []) && zeroStep sk st sf sd
  else decide (1 ≤ k) && decide (k ≤ 11) && decide (a = 0) && decide (b = 0) && decide (g.toList = []) && zeroStep sk st sf sd
theorem iCmd (k a b : Int) (g : ByteArray) (sk st sf : Int) (sd : ByteArray) : Ev (fun r => impl_isCmd.f r k a b g sk st sf sd) (cmdB k a b g sk st sf sd) := by
  obtain ⟨K, hK⟩ := iStep sk st sf sd 8 (by omega) (by omega)
  refine ⟨K, fun r hr => ?_⟩
  unfold impl_isCmd.f cmdB
  simp only [hK r hr, within_eq, time_eq, Option.bind_some]
  rw [show (sk == 0 && (st == 0 && (sf == 0 && (sd.toList == ([] : List UInt8))))) = zeroStep sk st sf sd from rfl]
  generalize zeroStep sk st sf sd = Z
  generalize stepB sk st sf sd 8 = Y
  by_cases c1 : k = 1
  · subst c1
    generalize (decide (1 ≤ a) && decide (a ≤ 20)) = P
    generalize (decide (0 ≤ b) && decide (b ≤ 4)) = Q
    by_cases h : (g.size : Int) = 32 <;> cases P <;> cases Q <;> simp [h]
  by_cases c2 : k = 2
  · subst c2
    by_cases h1 : a = 0 <;> by_cases h2 : b = 0 <;> by_cases h3 : g.toList = [] <;> simp [h1, h2, h3]
  by_cases c9 : k = 9
  · subst c9
    generalize (decide (1 ≤ a) && decide (a ≤ 24)) = P
    by_cases h2 : b = 0 <;> by_cases h3 : g.toList = [] <;> cases P <;> simp [h2, h3]
  by_cases c7 : k = 7
  · subst c7
    generalize (decide (0 ≤ a) && decide (a ≤ 1000000)) = P
    by_cases h2 : b = 0 <;> by_cases h3 : g.toList = [] <;> cases P <;> simp [h2, h3]
  simp only [c1, c2, c9, c7, if_false]
  generalize (decide (1 ≤ k) && decide (k ≤ 11)) = P
  by_cases h1 : a = 0 <;> by_cases h2 : b = 0 <;> by_cases h3 : g.toList = [] <;> cases P <;> simp [h1, h2, h3]
theorem sCmd (k a b : Int) (g : ByteArray) (sk st sf : Int) (sd : ByteArray) : Ev (fun r => spec_CmdRight.f r k a b g sk st sf sd) (cmdB k a b g sk st sf sd) := by
  refine ⟨3, fun r hr => ?_⟩
  obtain ⟨r, rfl⟩ : ∃ m, r = m + 3 := ⟨r - 3, by omega⟩
  unfold spec_CmdRight.f cmdB
  simp only [spec_CmdRight.j0, spec_CmdRight.j1, spec_CmdRight.j2, sStep _ _ _ _ 8 (by omega) (by omega), is_eq, Option.bind_some]
  have ez : (!(sk == 0) || (!(st == 0) || (!(sf == 0) || (!(sd.toList == ([] : List UInt8)))))) = !zeroStep sk st sf sd := by
    unfold zeroStep
    cases (sk == 0) <;> cases (st == 0) <;> cases (sf == 0) <;> cases (sd.toList == ([] : List UInt8)) <;> rfl
  rw [ez]
  generalize zeroStep sk st sf sd = Z
  generalize stepB sk st sf sd 8 = Y
  have e32 : ((g.size : Int) != 32) = !decide ((g.size : Int) = 32) := by rw [Bool.eq_iff_iff]; simp
  have eg : (g.toList != ([] : List UInt8)) = !decide (g.toList = []) := by rw [Bool.eq_iff_iff]; simp
  rw [e32, eg]
  by_cases c1 : k = 1
  · subst c1
    generalize (decide (1 ≤ a) && decide (a ≤ 20)) = P
    generalize (decide (0 ≤ b) && decide (b ≤ 4)) = Q
    by_cases h : (g.size : Int) = 32 <;> cases P <;> cases Q <;> cases Z <;> simp [h]
  by_cases c2 : k = 2
  · subst c2
    by_cases h1 : a = 0 <;> by_cases h2 : b = 0 <;> by_cases h3 : g.toList = [] <;> cases Y <;> simp [h1, h2, h3]
  by_cases c9 : k = 9
  · subst c9
    generalize (decide (1 ≤ a) && decide (a ≤ 24)) = P
    by_cases h2 : b = 0 <;> by_cases h3 : g.toList = [] <;> cases P <;> cases Z <;> simp [h2, h3]
  by_cases c7 : k = 7
  · subst c7
    generalize (decide (0 ≤ a) && decide (a ≤ 1000000)) = P
    by_cases h2 : b = 0 <;> by_cases h3 : g.toList = [] <;> cases P <;> cases Z <;> simp [h2, h3]
  simp only [c1, c2, c9, c7, if_false]
  have b1 : (k == 1) = false := by rw [beq_eq_false_iff_ne]; exact c1
  have b2 : (k == 2) = false := by rw [beq_eq_false_iff_ne]; exact c2
  generalize (decide (1 ≤ k) && decide (k ≤ 11)) = P
  by_cases h1 : a = 0 <;> by_cases h2 : b = 0 <;> by_cases h3 : g.toList = [] <;> cases P <;> cases Z <;> simp [h1, h2, h3, b1, b2]
end Go.Proofs.Ythoibokhmkjkdaa.Pure

namespace Go.Proofs.Ythoibokhmkjkdaa.Pure
open Go Go.RowKit Go.Proofs.YthoibokhmkjkdaaW.PrintWords Go.Proofs.YthoibokhmkjkdaaW.PrintLast Go.Proofs.YthoibokhmkjkdaaW.PrintMore Go.Proofs.Ythoibokhmkjkdaa.P
theorem toInt64S_ev (l : List Int) (h : l.length ≤ 35184372088832) : Ev (fun k => laws_toInt64S.f k l) l := by
  have h0 := ev_fill (fun k x i => laws_toInt64S.l0 k l x i) l.length 0 (fun i => l.getD i 0) (fun x i hi hx r hr => Ev.step (fun k => by
      simp only [laws_toInt64S.l0]
      rw [if_pos (by omega), if_pos (by omega), if_pos (by omega), Int.toNat_natCast, rd_get, wsucc i (by omega)]) hr)
    (fun x hx => Ev.now' fun k => by simp only [laws_toInt64S.l0]; rw [if_neg (by omega)])
  have e : (List.range l.length).map (fun i => l.getD i 0) = l := by
    have := map_range_get l (fun x => x) 0
    simpa using this
  rw [e] at h0
  refine Ev.congr (fun k => ?_) h0
  unfold laws_toInt64S.f
  rw [if_pos (by omega), if_pos (by omega), Int.toNat_natCast]
theorem eqInt64S_ev (l m : List Int) (h : l.length ≤ 35184372088832) : Ev (fun k => laws_eqInt64S.f k l m) (decide (l = m)) := by
  by_cases hl : l.length = m.length
  · have h0 := ev_all (fun k i => laws_eqInt64S.l0 k l m i) l.length (fun i => decide (l.getD i 0 = m.getD i 0)) false true (fun i hi => ⟨fun hp r hr => Ev.step (fun k => by
        simp only [laws_eqInt64S.l0]
        rw [if_pos (by omega), if_pos (by omega), if_pos (by omega), rd_get, rd_get, if_pos (by simpa using hp), wsucc i (by omega)]) hr, fun hp => Ev.now' fun k => by
        simp only [laws_eqInt64S.l0]
        rw [if_pos (by omega), if_pos (by omega), if_pos (by omega), rd_get, rd_get, if_neg (by simpa using hp)]⟩)
      (Ev.now' fun k => by simp only [laws_eqInt64S.l0]; rw [if_neg (by omega)])
    have e : (if (List.range l.length).all (fun i => decide (l.getD i 0 = m.getD i 0)) = true then true else false) = decide (l = m) := by
      rw [Bool.eq_iff_iff]
      simp only [ite_eq_left_iff, decide_eq_true_eq, List.all_eq_true, List.mem_range]
      constructor
      · intro hh
        have hh' : ∀ i, i < l.length → l.getD i 0 = m.getD i 0 := by
          intro i hi
          rcases Classical.em (∀ x < l.length, l.getD x 0 = m.getD x 0) with h1 | h1
          · exact h1 i hi
          · exact absurd (hh h1) (by simp)
        apply List.ext_getElem hl
        intro i h1 h2
        have := hh' i h1
        simpa [List.getD_eq_getElem?_getD, h1, h2] using this
      · rintro rfl
        intro h1
        exact absurd (fun x _ => rfl) h1
    rw [e] at h0
    refine Ev.congr (fun k => ?_) h0
    unfold laws_eqInt64S.f
    rw [if_pos (by omega)]
  · have e : decide (l = m) = false := decide_eq_false (fun hh => hl (by rw [hh]))
    rw [e]
    exact Ev.all fun k => by unfold laws_eqInt64S.f; rw [if_neg (by omega)]
end Go.Proofs.Ythoibokhmkjkdaa.Pure

namespace Go.Proofs.Ythoibokhmkjkdaa.Pure
open Go Go.RowKit Go.Proofs.YthoibokhmkjkdaaW.PrintWords Go.Proofs.YthoibokhmkjkdaaW.PrintLast Go.Proofs.YthoibokhmkjkdaaW.PrintMore
/-- The first place from i on, of d places, with a property, or -1. -/
def firstFrom (p : Nat → Bool) : Nat → Nat → Int
  | 0, _ => -1
  | d + 1, i => if p i = true then (i : Int) else firstFrom p d (i + 1)
theorem firstFrom_any (p : Nat → Bool) : ∀ d i, decide (firstFrom p d i ≥ 0) = (List.range' i d).any p
  | 0, i => by simp [firstFrom]
  | d + 1, i => by
    rw [List.range'_succ, List.any_cons]
    unfold firstFrom
    cases h : p i with
    | true => simp
    | false => simpa using firstFrom_any p d (i + 1)
theorem ev_index (L : Nat → Int → Option Int) (n : Nat) (p : Nat → Bool)
    (hs : ∀ i, i < n → (p i = false → ∀ r, Ev (fun k => L k ((i + 1 : Nat) : Int)) r → Ev (fun k => L k (i : Int)) r) ∧ (p i = true → Ev (fun k => L k (i : Int)) (i : Int)))
    (he : Ev (fun k => L k (n : Int)) (-1)) : Ev (fun k => L k 0) (firstFrom p n 0) := by
  have key : ∀ d i, i + d = n → Ev (fun k => L k (i : Int)) (firstFrom p d i) := by
    intro d
    induction d with
    | zero => intro i hi; obtain rfl : i = n := by omega
              exact he
    | succ d ih =>
      intro i hi
      unfold firstFrom
      cases hp : p i with
      | true => exact (hs i (by omega)).2 hp
      | false => exact (hs i (by omega)).1 hp _ (ih (i + 1) (by omega))
  exact key n 0 (by omega)
theorem firstFrom_any0 (p : Nat → Bool) (n : Nat) : decide (firstFrom p n 0 ≥ 0) = (List.range n).any p := by rw [firstFrom_any, List.range_eq_range']
theorem not_all_any (p : Nat → Bool) (n : Nat) : (List.range n).any (fun i => !p i) = !(List.range n).all p := by
  rw [Bool.eq_iff_iff]
  simp [List.any_eq_true]
end Go.Proofs.Ythoibokhmkjkdaa.Pure

namespace Go.Proofs.Ythoibokhmkjkdaa.Pure
open Go Go.RowKit Go.Proofs.YthoibokhmkjkdaaW.PrintWords Go.Proofs.YthoibokhmkjkdaaW.PrintLast Go.Proofs.YthoibokhmkjkdaaW.PrintMore Go.Proofs.Ythoibokhmkjkdaa.P
def numsB (l : List Int) (m : Int) : Bool := (List.range l.length).all (fun i => decide (0 ≤ l.getD i 0) && decide (l.getD i 0 ≤ m))
theorem l16Nums_ev (l : List Int) (n m : Int) (h : l.length ≤ 35184372088832) : Ev (fun k => spec_l16Nums.f k l n m) (decide ((l.length : Int) ≤ n) && numsB l m) := by
  unfold spec_l16Nums.f
  by_cases hn : (l.length : Int) ≤ n
  · refine Ev.ifn (by omega) ?_
    have h0 := ev_all (fun k i => spec_l16Nums.l0 k l m i) l.length (fun i => decide (0 ≤ l.getD i 0) && decide (l.getD i 0 ≤ m)) false true (fun i hi => ⟨fun hp q hq => Ev.step (fun k => by
        simp only [spec_l16Nums.l0]
        rw [if_pos (by omega), if_pos (by omega), rd_get, is_eq, hp, wsucc i (by omega)]
        rfl) hq, fun hp => Ev.now' fun k => by
        simp only [spec_l16Nums.l0]
        rw [if_pos (by omega), if_pos (by omega), rd_get, is_eq, hp]
        rfl⟩) (Ev.now' fun k => by simp only [spec_l16Nums.l0]; rw [if_neg (by omega)])
    rw [decide_eq_true hn, Bool.true_and]
    have e : numsB l m = (if (List.range l.length).all (fun i => decide (0 ≤ l.getD i 0) && decide (l.getD i 0 ≤ m)) = true then true else false) := by
      unfold numsB; generalize (List.range l.length).all _ = q; cases q <;> rfl
    rw [e]
    exact h0
  · refine Ev.ifp (by omega) ?_
    rw [decide_eq_false hn]
    exact Ev.now _
theorem fates_ev (l : List Int) (h : l.length ≤ 35184372088832) : Ev (fun k => slices_ContainsFunc_int64_int64_of_isDeed_1.f k l) (!numsB l 200) := by
  have h0 := ev_index (fun k i => slices_IndexFunc_int64_int64_of_isDeed_1.l0 k l (l.length : Int) i) l.length (fun i => !(decide (0 ≤ l.getD i 0) && decide (l.getD i 0 ≤ 200))) (fun i hi => ⟨fun hp q hq => Ev.step (fun k => by
      simp only [slices_IndexFunc_int64_int64_of_isDeed_1.l0, impl_isDeed_1.f]
      rw [if_pos (by omega), if_pos (by omega), if_pos (by omega), rd_get, within_eq, Option.bind_some, hp, wsucc i (by omega)]
      rfl) hq, fun hp => Ev.now' fun k => by
      simp only [slices_IndexFunc_int64_int64_of_isDeed_1.l0, impl_isDeed_1.f]
      rw [if_pos (by omega), if_pos (by omega), if_pos (by omega), rd_get, within_eq, Option.bind_some, hp]
      rfl⟩) (Ev.now' fun k => by simp only [slices_IndexFunc_int64_int64_of_isDeed_1.l0]; rw [if_neg (by omega)])
  unfold slices_ContainsFunc_int64_int64_of_isDeed_1.f numsB
  refine Ev.bind (Ev.congr (fun k => by unfold slices_IndexFunc_int64_int64_of_isDeed_1.f; rfl) h0) ?_
  rw [firstFrom_any0, not_all_any]
  exact Ev.now _
theorem again_ev (l : List Int) (h : l.length ≤ 35184372088832) : Ev (fun k => slices_ContainsFunc_int64_int64_of_isDeed_2.f k l) (!numsB l 50) := by
  have h0 := ev_index (fun k i => slices_IndexFunc_int64_int64_of_isDeed_2.l0 k l (l.length : Int) i) l.length (fun i => !(decide (0 ≤ l.getD i 0) && decide (l.getD i 0 ≤ 50))) (fun i hi => ⟨fun hp q hq => Ev.step (fun k => by
      simp only [slices_IndexFunc_int64_int64_of_isDeed_2.l0, impl_isDeed_2.f]
      rw [if_pos (by omega), if_pos (by omega), if_pos (by omega), rd_get, within_eq, Option.bind_some, hp, wsucc i (by omega)]
      rfl) hq, fun hp => Ev.now' fun k => by
      simp only [slices_IndexFunc_int64_int64_of_isDeed_2.l0, impl_isDeed_2.f]
      rw [if_pos (by omega), if_pos (by omega), if_pos (by omega), rd_get, within_eq, Option.bind_some, hp]
      rfl⟩) (Ev.now' fun k => by simp only [slices_IndexFunc_int64_int64_of_isDeed_2.l0]; rw [if_neg (by omega)])
  unfold slices_ContainsFunc_int64_int64_of_isDeed_2.f numsB
  refine Ev.bind (Ev.congr (fun k => by unfold slices_IndexFunc_int64_int64_of_isDeed_2.f; rfl) h0) ?_
  rw [firstFrom_any0, not_all_any]
  exact Ev.now _
def deedB (k a b : Int) (g : ByteArray) (sk st sf : Int) (sd : ByteArray) (c : Int) (fs ag : List Int) : Bool :=
  cmdB k a b g sk st sf sd && (decide (-1 ≤ c) && decide (c ≤ 50)) && (decide ((fs.length : Int) ≤ 40) && numsB fs 200) && (decide ((ag.length : Int) ≤ 5) && numsB ag 50) && (decide (0 ≤ c) || (decide (fs.length = 0) && decide (ag.length = 0)))
section
variable (k a b : Int) (g : ByteArray) (sk st sf : Int) (sd : ByteArray) (c : Int) (fs ag : List Int) (hf : fs.length ≤ 35184372088832) (hg : ag.length ≤ 35184372088832)
include hf hg
theorem iDeed_ev : Ev (fun r => impl_isDeed.f r k a b g sk st sf sd c fs ag) (deedB k a b g sk st sf sd c fs ag) := by
  have hj : ∀ x : Bool, Ev (fun r => impl_isDeed.j0 r x k a b g sk st sf sd c fs ag) (!x && numsB fs 200 && numsB ag 50) := by
    intro x
    cases x with
    | true => exact Ev.now' fun r => by simp only [impl_isDeed.j0]; rfl
    | false =>
      refine Ev.step (f := fun r => (slices_ContainsFunc_int64_int64_of_isDeed_1.f r fs).bind fun t => if t = true then some false else (slices_ContainsFunc_int64_int64_of_isDeed_2.f r ag).bind fun u => some (!u)) (fun r => by simp only [impl_isDeed.j0]; rfl) (Ev.bind (fates_ev fs hf) ?_)
      cases numsB fs 200 with
      | false => exact Ev.ifp rfl (Ev.now _)
      | true =>
        refine Ev.ifn (by simp) (Ev.bind (again_ev ag hg) ?_)
        cases numsB ag 50 <;> exact Ev.now _
  unfold impl_isDeed.f deedB
  refine Ev.bind (iCmd k a b g sk st sf sd) ?_
  cases cmdB k a b g sk st sf sd with
  | false => exact Ev.ifn (by simp) (hj true)
  | true =>
    refine Ev.ifp rfl ?_
    rw [within_eq]
    refine Ev.bind (Ev.now _) ?_
    cases hc : (decide (-1 ≤ c) && decide (c ≤ 50)) with
    | false => exact Ev.ifn (by simp) (hj true)
    | true =>
      refine Ev.ifp rfl ?_
      by_cases h40 : (fs.length : Int) ≤ 40
      case neg =>
        refine Ev.ifp (by omega) ?_
        rw [decide_eq_false h40]
        simpa using hj true
      refine Ev.ifn (by omega) ?_
      by_cases h5 : (ag.length : Int) ≤ 5
      case neg =>
        refine Ev.ifp (by omega) ?_
        rw [decide_eq_false h5]
        simpa using hj true
      refine Ev.ifn (by omega) ?_
      rw [decide_eq_true h40, decide_eq_true h5]
      by_cases h0 : c < 0
      · refine Ev.ifp h0 ?_
        rw [w64 (by omega) (by omega), decide_eq_false (show ¬ 0 ≤ c by omega)]
        by_cases hz : fs.length = 0 ∧ ag.length = 0
        · have e : decide ((fs.length : Int) + (ag.length : Int) > 0) = false := decide_eq_false (by omega)
          rw [e, decide_eq_true hz.1, decide_eq_true hz.2]
          simpa using hj false
        · have e : decide ((fs.length : Int) + (ag.length : Int) > 0) = true := decide_eq_true (by omega)
          have e2 : (decide (fs.length = 0) && decide (ag.length = 0)) = false := by rw [Bool.eq_false_iff, Ne, Bool.and_eq_true, decide_eq_true_eq, decide_eq_true_eq]; exact hz
          rw [e, e2]
          simpa using hj true
      · refine Ev.ifn h0 ?_
        rw [decide_eq_true (show 0 ≤ c by omega)]
        simpa using hj false
theorem sDeed_ev : Ev (fun r => spec_DeedRight.f r k a b g sk st sf sd c fs ag) (deedB k a b g sk st sf sd c fs ag) := by
  unfold spec_DeedRight.f deedB
  refine Ev.bind (sCmd k a b g sk st sf sd) ?_
  cases cmdB k a b g sk st sf sd with
  | false => exact Ev.ifn (by simp) (Ev.now _)
  | true =>
    refine Ev.ifp rfl ?_
    rw [is_eq]
    refine Ev.bind (Ev.now _) ?_
    cases hc : (decide (-1 ≤ c) && decide (c ≤ 50)) with
    | false => exact Ev.ifn (by simp) (Ev.now _)
    | true =>
      refine Ev.ifp rfl (Ev.bind (l16Nums_ev fs 40 200 hf) ?_)
      cases (decide ((fs.length : Int) ≤ 40) && numsB fs 200) with
      | false => exact Ev.ifn (by simp) (Ev.now _)
      | true =>
        refine Ev.ifp rfl (Ev.bind (l16Nums_ev ag 5 50 hg) ?_)
        cases (decide ((ag.length : Int) ≤ 5) && numsB ag 50) with
        | false => exact Ev.ifn (by simp) (Ev.now _)
        | true =>
          refine Ev.ifp rfl ?_
          by_cases h0 : 0 ≤ c
          · refine Ev.ifp (by omega) ?_
            rw [decide_eq_true h0]
            exact Ev.now _
          · refine Ev.ifn (by omega) ?_
            rw [decide_eq_false h0]
            by_cases hz : fs.length = 0
            · refine Ev.ifp (by omega) ?_
              rw [decide_eq_true hz]
              have e : ((ag.length : Int) == 0) = decide (ag.length = 0) := by rw [Bool.eq_iff_iff]; simp
              rw [e]
              simpa using Ev.now _
            · refine Ev.ifn (by omega) ?_
              rw [decide_eq_false hz]
              exact Ev.now _
theorem toDeed_ev : Ev (fun r => laws_toDeed.f r k a b g sk st sf sd c fs ag) (k, a, b, g, sk, st, sf, sd, c, fs, ag) := by
  unfold laws_toDeed.f
  exact Ev.bind (a := (k, a, b, g, sk, st, sf, sd)) (Ev.now _) (Ev.bind (toInt64S_ev fs hf) (Ev.bind (toInt64S_ev ag hg) (Ev.now _)))
theorem eqDeed_ev : Ev (fun r => laws_eqDeed.f r k a b g sk st sf sd c fs ag k a b g sk st sf sd c fs ag) true := by
  have h1 := eqInt64S_ev fs fs hf
  have h2 := eqInt64S_ev ag ag hg
  rw [decide_eq_true rfl] at h1 h2
  have e : laws_eqCmd.f k a b g sk st sf sd k a b g sk st sf sd = some true := by simp [laws_eqCmd.f, laws_eqStep.f]
  unfold laws_eqDeed.f
  rw [e]
  exact Ev.bind (Ev.now _) (Ev.ifp rfl (Ev.ifp rfl (Ev.bind h1 (Ev.ifp rfl (Ev.bind h2 (Ev.ifp rfl (Ev.now _)))))))
omit hf hg in
theorem szDeed_some (z : Int) : ∃ t, laws_szDeed.f k a b g sk st sf sd c fs ag z = some t := by
  unfold laws_szDeed.f laws_szCmd.f laws_szStep.f laws_szInt64S.f
  repeat' (first | exact ⟨_, rfl⟩ | split | simp only [Option.bind_some])
end
end Go.Proofs.Ythoibokhmkjkdaa.Pure

namespace Go.Proofs.Ythoibokhmkjkdaa.Pure
open Go.RowKit Go.Proofs.YthoibokhmkjkdaaW.PrintWords Go.Proofs.YthoibokhmkjkdaaW.PrintLast Go.Proofs.Ythoibokhmkjkdaa.P
theorem FnExactDeedRight : laws_FnExactDeedRight.Pure := by
  intro k a b g sk st sf sd c fs ag _ _ _ _ _ _ _ _ _ _ hf _ _ hg _
  have hf' : fs.length ≤ 35184372088832 := by omega
  have hg' : ag.length ≤ 35184372088832 := by omega
  refine Ev.rounds ?_
  unfold laws_FnExactDeedRight.f
  obtain ⟨z, hz⟩ := szDeed_some k a b g sk st sf sd c fs ag 1048576
  simp only [hz, Option.bind_some]
  by_cases hneg : z < 0
  · exact Ev.ifp hneg (Ev.now _)
  have ht := toDeed_ev k a b g sk st sf sd c fs ag hf' hg'
  exact Ev.ifn hneg (Ev.bind ht (Ev.bind (sDeed_ev k a b g sk st sf sd c fs ag hf' hg') (Ev.bind ht (Ev.bind (by unfold impl_DeedRight.f; exact Ev.bind (iDeed_ev k a b g sk st sf sd c fs ag hf' hg') (Ev.now _)) (Ev.ifn (by simp) (Ev.bind ht (Ev.bind (eqDeed_ev k a b g sk st sf sd c fs ag hf' hg') (Ev.ifp rfl (Ev.now _)))))))))
end Go.Proofs.Ythoibokhmkjkdaa.Pure

namespace Go.Proofs.Ythoibokhmkjkdaa.fnExactDeedRight
open Go.ChangeShapes Go.WideShapes Go.ChangeAt Go.RowKit Go.Proofs.YthoibokhmkjkdaaO Go.Proofs.YthoibokhmkjkdaaW.PrintWords Go.Proofs.Ythoibokhmkjkdaa.P
open Go.ChangeMaps (open_string shut_string)
set_option linter.unusedVariables false
theorem own : ownKnob Try.prog.godebug = none := by kernel_rfl
theorem laidOut : laidOutB Try.prog = true := by kernel_rfl
theorem o2 : Opens Try.prog 2 (Kd.int .i64) (fun n => (Lit.int .i64 n).wf = true) := opens_int Try.underlying2 (by kernel_rfl : Try.prog.cellsOf 2 = 1)
theorem o9 : Opens Try.prog 9 Kd.string (fun s => s.size ≤ 140737488351232) := opens_string Try.underlying9 (by kernel_rfl : Try.prog.cellsOf 9 = 1)
theorem q57 : Opens Try.prog 57 (Kd.iso (Kd.pair (Kd.int .i64) (Kd.pair (Kd.int .i64) (Kd.pair (Kd.int .i64) Kd.string))) (fun x => x)) (fun x => ((Lit.int .i64 x.1).wf = true ∧ (Lit.int .i64 x.2.1).wf = true ∧ (Lit.int .i64 x.2.2.1).wf = true ∧ x.2.2.2.size ≤ 140737488351232)) := opens_struct (l := [(2, 0), (2, 1), (2, 2), (9, 3)]) (d := (Kd.pair (Kd.int .i64) (Kd.pair (Kd.int .i64) (Kd.pair (Kd.int .i64) Kd.string)))) (ok := fun x => ((Lit.int .i64 x.1).wf = true ∧ (Lit.int .i64 x.2.1).wf = true ∧ (Lit.int .i64 x.2.2.1).wf = true ∧ x.2.2.2.size ≤ 140737488351232)) (f := fun x => x) (fun x => x) (fun _ => rfl) Try.underlying57 (by kernel_rfl : Try.prog.cellsOf 57 = 4) rfl (opensL_cons rfl o2 (opensL_cons rfl o2 (opensL_cons rfl o2 (opensL_one o9))))
theorem q59 : Opens Try.prog 59 (Kd.iso (Kd.pair (Kd.int .i64) (Kd.pair (Kd.int .i64) (Kd.pair (Kd.int .i64) (Kd.pair Kd.string (Kd.iso (Kd.pair (Kd.int .i64) (Kd.pair (Kd.int .i64) (Kd.pair (Kd.int .i64) Kd.string))) (fun x => x)))))) (fun x => x)) (fun x => ((Lit.int .i64 x.1).wf = true ∧ (Lit.int .i64 x.2.1).wf = true ∧ (Lit.int .i64 x.2.2.1).wf = true ∧ x.2.2.2.1.size ≤ 140737488351232 ∧ ((Lit.int .i64 x.2.2.2.2.1).wf = true ∧ (Lit.int .i64 x.2.2.2.2.2.1).wf = true ∧ (Lit.int .i64 x.2.2.2.2.2.2.1).wf = true ∧ x.2.2.2.2.2.2.2.size ≤ 140737488351232))) := opens_struct (l := [(2, 0), (2, 1), (2, 2), (9, 3), (57, 4)]) (d := (Kd.pair (Kd.int .i64) (Kd.pair (Kd.int .i64) (Kd.pair (Kd.int .i64) (Kd.pair Kd.string (Kd.iso (Kd.pair (Kd.int .i64) (Kd.pair (Kd.int .i64) (Kd.pair (Kd.int .i64) Kd.string))) (fun x => x))))))) (ok := fun x => ((Lit.int .i64 x.1).wf = true ∧ (Lit.int .i64 x.2.1).wf = true ∧ (Lit.int .i64 x.2.2.1).wf = true ∧ x.2.2.2.1.size ≤ 140737488351232 ∧ ((Lit.int .i64 x.2.2.2.2.1).wf = true ∧ (Lit.int .i64 x.2.2.2.2.2.1).wf = true ∧ (Lit.int .i64 x.2.2.2.2.2.2.1).wf = true ∧ x.2.2.2.2.2.2.2.size ≤ 140737488351232))) (f := fun x => x) (fun x => x) (fun _ => rfl) Try.underlying59 (by kernel_rfl : Try.prog.cellsOf 59 = 8) rfl (opensL_cons rfl o2 (opensL_cons rfl o2 (opensL_cons rfl o2 (opensL_cons rfl o9 (opensL_one q57)))))
theorem o22 : Opens Try.prog 22 (Kd.slice 2 (Kd.int .i64)) (fun l => (l.length ≤ maxLen ∧ l.length * 8 ≤ 140737488351232 ∧ ∀ a ∈ l, ok2 a)) := opens_slice Try.underlying22 (by kernel_rfl : Try.prog.cellsOf 22 = 1) (o2 : Opens Try.prog 2 _ ok2) (by kernel_rfl : Try.prog.bytesOf 2 = 8)
theorem q61 : Opens Try.prog 61 (Kd.iso (Kd.pair (Kd.iso (Kd.pair (Kd.int .i64) (Kd.pair (Kd.int .i64) (Kd.pair (Kd.int .i64) (Kd.pair Kd.string (Kd.iso (Kd.pair (Kd.int .i64) (Kd.pair (Kd.int .i64) (Kd.pair (Kd.int .i64) Kd.string))) (fun x => x)))))) (fun x => x)) (Kd.pair (Kd.int .i64) (Kd.pair (Kd.slice 2 (Kd.int .i64)) (Kd.slice 2 (Kd.int .i64))))) (fun x => x)) (fun x => (((Lit.int .i64 x.1.1).wf = true ∧ (Lit.int .i64 x.1.2.1).wf = true ∧ (Lit.int .i64 x.1.2.2.1).wf = true ∧ x.1.2.2.2.1.size ≤ 140737488351232 ∧ ((Lit.int .i64 x.1.2.2.2.2.1).wf = true ∧ (Lit.int .i64 x.1.2.2.2.2.2.1).wf = true ∧ (Lit.int .i64 x.1.2.2.2.2.2.2.1).wf = true ∧ x.1.2.2.2.2.2.2.2.size ≤ 140737488351232)) ∧ (Lit.int .i64 x.2.1).wf = true ∧ (x.2.2.1.length ≤ maxLen ∧ x.2.2.1.length * 8 ≤ 140737488351232 ∧ ∀ a ∈ x.2.2.1, ok2 a) ∧ (x.2.2.2.length ≤ maxLen ∧ x.2.2.2.length * 8 ≤ 140737488351232 ∧ ∀ a ∈ x.2.2.2, ok2 a))) := opens_struct (l := [(59, 0), (2, 8), (22, 9), (22, 10)]) (d := (Kd.pair (Kd.iso (Kd.pair (Kd.int .i64) (Kd.pair (Kd.int .i64) (Kd.pair (Kd.int .i64) (Kd.pair Kd.string (Kd.iso (Kd.pair (Kd.int .i64) (Kd.pair (Kd.int .i64) (Kd.pair (Kd.int .i64) Kd.string))) (fun x => x)))))) (fun x => x)) (Kd.pair (Kd.int .i64) (Kd.pair (Kd.slice 2 (Kd.int .i64)) (Kd.slice 2 (Kd.int .i64)))))) (ok := fun x => (((Lit.int .i64 x.1.1).wf = true ∧ (Lit.int .i64 x.1.2.1).wf = true ∧ (Lit.int .i64 x.1.2.2.1).wf = true ∧ x.1.2.2.2.1.size ≤ 140737488351232 ∧ ((Lit.int .i64 x.1.2.2.2.2.1).wf = true ∧ (Lit.int .i64 x.1.2.2.2.2.2.1).wf = true ∧ (Lit.int .i64 x.1.2.2.2.2.2.2.1).wf = true ∧ x.1.2.2.2.2.2.2.2.size ≤ 140737488351232)) ∧ (Lit.int .i64 x.2.1).wf = true ∧ (x.2.2.1.length ≤ maxLen ∧ x.2.2.1.length * 8 ≤ 140737488351232 ∧ ∀ a ∈ x.2.2.1, ok2 a) ∧ (x.2.2.2.length ≤ maxLen ∧ x.2.2.2.length * 8 ≤ 140737488351232 ∧ ∀ a ∈ x.2.2.2, ok2 a))) (f := fun x => x) (fun x => x) (fun _ => rfl) Try.underlying61 (by kernel_rfl : Try.prog.cellsOf 61 = 11) rfl (opensL_cons rfl q59 (opensL_cons rfl o2 (opensL_cons rfl o22 (opensL_one o22))))
set_option maxRecDepth 100000 in
theorem lifted (os : Os) (started : os.Started) (H : Type) (enc : TypeId × Value → H) :
    ReturnsInHanded {} Try.checked os 8 .any (Rows.fnExactDeedRightSpec.pre6 enc Try.prog Try.f8 Rows.fnExactDeedRightRow.domain false) (Rows.fnExactDeedRightSpec.post enc Try.prog Try.f8 false true false false) := by
  refine returnsInHanded_of_change_sized (C := Try.checked) own started (by kernel_rfl) Try.func8
    (ChangeSpec.witness6 (enc := enc) (C := Try.checked) false ⟨#[], #[.agg #[.int .i64 0, .int .i64 0, .int .i64 0, .string ByteArray.empty, .int .i64 0, .int .i64 0, .int .i64 0, .string ByteArray.empty, .int .i64 0, .slice none 0 0, .slice none 0 0]], []⟩ 8 (by kernel_rfl) (by kernel_rfl) (by kernel_rfl) (by kernel_rfl)) ?_
  intro W base args ds gs before hval0 hW hcnd hsz0 _
  have hsz : (DataW.weightsEach Try.prog (Try.f8.params.toList ++ Rows.fnExactDeedRightSpec.plain.varTypes Try.prog) (ds ++ gs)).all (· ≤ reachBytes) = true := hsz0
  have hval : ∀ (j : Nat) t v, Try.f8.params[j]? = some t → args[j]? = some v → Value.okWide Try.prog W .any base t v := hval0
  have hW' := hW
  obtain ⟨p, q, hA0, hV, rfl, hfz, hnd⟩ := hW
  have hA : DataW.TrodAll enc Try.prog W 0 (fun _ => true) true Try.f8.params.toList args.toList ds p := hA0
  rw [Try.params8] at hA hval hsz
  obtain ⟨v0, vs0, d0, ds0, p0, q0, hargs, rfl, rfl, h0, r0⟩ := trodAll_cons hA
  obtain ⟨rfl, rfl, rfl⟩ := trodAll_nil r0
  obtain rfl : args = #[v0] := by cases args; simp_all
  obtain ⟨rfl, rfl⟩ := trodVars_none hV
  have lt0 := trod_lt_all h0
  have k0 := h0
  have z0 := weights_arg hsz (j := 0) (t := 61) rfl rfl
  obtain ⟨x0, cs0, rfl, hk0, ok0_⟩ := arg_struct Try.underlying61 (hval 0 61 v0 rfl rfl) h0 z0 q61
  generalize hc0 : cs0.toList = ct0 at hk0
  obtain ⟨_, _, rfl, ⟨_, _, rfl, rfl, ⟨_, _, rfl, rfl, ⟨_, _, rfl, rfl, ⟨_, _, rfl, rfl, ⟨_, _, rfl, rfl, ⟨_, _, rfl, rfl, ⟨_, _, rfl, rfl, rfl⟩⟩⟩⟩⟩⟩⟩, ⟨_, _, rfl, rfl, ⟨_, _, rfl, ⟨A0_, c0_, rfl, l0_, g0_⟩, ⟨A1_, c1_, rfl, l1_, g1_⟩⟩⟩⟩ := hk0
  obtain rfl : cs0 = #[.int .i64 x0.1.1, .int .i64 x0.1.2.1, .int .i64 x0.1.2.2.1, .string x0.1.2.2.2.1, .int .i64 x0.1.2.2.2.2.1, .int .i64 x0.1.2.2.2.2.2.1, .int .i64 x0.1.2.2.2.2.2.2.1, .string x0.1.2.2.2.2.2.2.2, .int .i64 x0.2.1, .slice A0_ x0.2.2.1.length c0_, .slice A1_ x0.2.2.2.length c1_] := Array.ext' hc0
  clear hA0 hval0 hsz0 hsz
  obtain ⟨k, h⟩ := Pure.FnExactDeedRight x0.1.1 x0.1.2.1 x0.1.2.2.1 x0.1.2.2.2.1 x0.1.2.2.2.2.1 x0.1.2.2.2.2.2.1 x0.1.2.2.2.2.2.2.1 x0.1.2.2.2.2.2.2.2 x0.2.1 x0.2.2.1 x0.2.2.2 ok0_.1.1 ok0_.1.2.1 ok0_.1.2.2.1 ok0_.1.2.2.2.1 ok0_.1.2.2.2.2.1 ok0_.1.2.2.2.2.2.1 ok0_.1.2.2.2.2.2.2.1 ok0_.1.2.2.2.2.2.2.2 ok0_.2.1 ok0_.2.2.1.1 ok0_.2.2.1.2.1 ok0_.2.2.1.2.2 ok0_.2.2.2.1 ok0_.2.2.2.2.1 ok0_.2.2.2.2.2
  refine (laws_FnExactDeedRight.calls k x0.1.1 x0.1.2.1 x0.1.2.2.1 x0.1.2.2.2.1 x0.1.2.2.2.2.1 x0.1.2.2.2.2.2.1 x0.1.2.2.2.2.2.2.1 x0.1.2.2.2.2.2.2.2 x0.2.1 _ _ x0.2.2.1 _ _ x0.2.2.2 true W g0_ l0_ g1_ l1_ h).mono fun e W' ⟨he, bel0⟩ => ?_
  have bel : Below W.heap.size W W' := bel0
  subst he
  exact ⟨_, rfl, _, _, _, [], _, [], hW', trodAll_mk1 (shut_bool Try.underlying4 _), (trodAll_cons_mk (Below.trod laidOut (by kernel_rfl) (of_decide_eq_true (by kernel_rfl)) k0 bel lt0) trodAll_mk0), rfl, bel.frame _, fun h => by cases h⟩
theorem over : Rows.fnExactDeedRightRow.holds Try.pinned (OpenSpec.ofChange Rows.fnExactDeedRightSpec) :=
  OpenClaim.holds_of_wide 8 Try.f8 rfl rfl rfl rfl rfl rfl rfl ⟨rfl, rfl, rfl, rfl, rfl⟩ rfl rfl rfl rfl rfl (by kernel_rfl) Try.func8 (by kernel_rfl)
    (of_decide_eq_true (by kernel_rfl)) (by unfold Func.isWrapper; first | (rw [if_pos (by decide +kernel)]; kernel_rfl) | (rw [if_neg (by decide +kernel)]; exact ⟨rfl, rfl⟩))
    (fun os started H enc _ => lifted os started H enc)
theorem proved : Rows.FnExactDeedRightSaid := over
#print axioms proved
end Go.Proofs.Ythoibokhmkjkdaa.fnExactDeedRight
namespace Go.Proofs.Ythoibokhmkjkdaa
/-- The row, under a short name, for the claim. -/
theorem fnExactDeedRight_holds : Rows.FnExactDeedRightSaid := fnExactDeedRight.proved
end Go.Proofs.Ythoibokhmkjkdaa
