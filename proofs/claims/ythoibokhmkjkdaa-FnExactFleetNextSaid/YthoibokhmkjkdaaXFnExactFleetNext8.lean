/- What the law FnExactFleetNext needs, part 9 of 9: the Lean functions of the Go functions that it reaches, with the proofs that the calls come to what they say, and plain facts about them; the last theorem is the law. Conditions: those that each theorem states. Written by a session and by its programs (after the kit's printer). -/
import Derived.Laws.BitsLemmas
import Derived.Test.YthoibokhmkjkdaaRows
import Derived.WalkKit
import Derived.ProofKit
import Derived.OpenShut
import Derived.ShutString
import Derived.ChangeOld
import Derived.Below
import Derived.SizedLaws
import Derived.Test.YthoibokhmkjkdaaXFnExactFleetNext0
import Derived.Test.YthoibokhmkjkdaaXFnExactFleetNext1
import Derived.Test.YthoibokhmkjkdaaXFnExactFleetNext2
import Derived.Test.YthoibokhmkjkdaaXFnExactFleetNext3
import Derived.Test.YthoibokhmkjkdaaXFnExactFleetNext4
import Derived.Test.YthoibokhmkjkdaaXFnExactFleetNext5
import Derived.Test.YthoibokhmkjkdaaXFnExactFleetNext6
import Derived.Test.YthoibokhmkjkdaaXFnExactFleetNext7
namespace Go.Proofs.Ythoibokhmkjkdaa.P
open Go.RowKit Go.Proofs.YthoibokhmkjkdaaW.PrintWords Go.Proofs.YthoibokhmkjkdaaW.PrintLast Go.Proofs.YthoibokhmkjkdaaW.PrintMore
attribute [local go_sem] max2_int min2_int max_two min_two max_three min_three max_four min_four   -- for this text's walks alone
set_option linter.unusedVariables false
set_option linter.unusedSimpArgs false
def ok2 (x : Int) : Prop := (Lit.int .i64 x).wf = true
def laws_FnExactFleetNext.Pure : Prop := ∀ (l0_0 : List Int) (a0_1 : Int) (a0_2 : Int) (l0_3 : List Int), l0_0.length ≤ maxLen → l0_0.length * 8 ≤ 140737488351232 → (∀ a ∈ l0_0, ok2 a) → (Lit.int .i64 a0_1).wf = true → (Lit.int .i64 a0_2).wf = true → l0_3.length ≤ maxLen → l0_3.length * 8 ≤ 140737488351232 → (∀ a ∈ l0_3, ok2 a) → ∃ k, laws_FnExactFleetNext.f k l0_0 a0_1 a0_2 l0_3 = some true
end Go.Proofs.Ythoibokhmkjkdaa.P

namespace Go.Proofs.Ythoibokhmkjkdaa.Pure
open Go Go.RowKit Go.Proofs.YthoibokhmkjkdaaW.PrintWords Go.Proofs.YthoibokhmkjkdaaW.PrintLast Go.Proofs.YthoibokhmkjkdaaW.PrintMore
theorem w64 {n : Int} (h0 : -9223372036854775808 ≤ n) (h1 : n < 9223372036854775808) : wrap64 n = n := by unfold wrap64; omega
theorem wf64 {n : Int} (h : (Lit.int .i64 n).wf = true) : -9223372036854775808 ≤ n ∧ n ≤ 9223372036854775807 := by
  simp [Lit.wf, IntKind.min, IntKind.max, IntKind.signed, IntKind.bits] at h
  omega
theorem u64w (n : Int) : IntKind.u64.wrap n = n % 18446744073709551616 := by simp [IntKind.wrap, IntKind.bits, IntKind.signed]
/-- One round more, where the tests are known. -/
theorem Ev.now' {α : Type} {g : Nat → Option α} {r : α} (h : ∀ k, g (k + 1) = some r) : Ev g r := ⟨1, fun k hk => by
  obtain ⟨m, rfl⟩ : ∃ m, k = m + 1 := ⟨k - 1, by omega⟩
  exact h m⟩
theorem Ev.all {α : Type} {g : Nat → Option α} {r : α} (h : ∀ k, g k = some r) : Ev g r := ⟨0, fun k _ => h k⟩
theorem Ev.ifp {α : Type} {c : Prop} [Decidable c] {g f : Nat → Option α} {r : α} (h : c) (hg : Ev g r) : Ev (fun k => if c then g k else f k) r := Ev.congr (fun _ => if_pos h) hg
theorem Ev.ifn {α : Type} {c : Prop} [Decidable c] {g f : Nat → Option α} {r : α} (h : ¬ c) (hf : Ev f r) : Ev (fun k => if c then g k else f k) r := Ev.congr (fun _ => if_neg h) hf
theorem Ev.ite {α : Type} {c : Prop} [Decidable c] {g f : Nat → Option α} {r q : α} (hg : c → Ev g r) (hf : ¬ c → Ev f q) : Ev (fun k => if c then g k else f k) (if c then r else q) := by
  by_cases h : c
  · rw [if_pos h]; exact Ev.ifp h (hg h)
  · rw [if_neg h]; exact Ev.ifn h (hf h)
/-- The bytes of a string. -/
def B (s : ByteArray) : List Nat := s.data.toList.map (·.toNat)
theorem dl (s : ByteArray) : s.data.toList.length = s.size := by rw [Array.length_toList]; rfl
theorem B_len (s : ByteArray) : (B s).length = s.size := by unfold B; rw [List.length_map]; exact dl s
theorem B_lt (s : ByteArray) : ∀ x ∈ B s, x < 256 := by
  intro x hx
  simp only [B, List.mem_map] at hx
  obtain ⟨u, _, rfl⟩ := hx
  exact u.toNat_lt
theorem bt_B (s : ByteArray) (i : Nat) : bt s (i : Int) = (((B s).getD i 0 : Nat) : Int) := by
  unfold bt B
  simp only [Int.toNat_natCast]
  split
  · rename_i h
    have h' : i < s.data.toList.length := by rw [dl]; omega
    simp only [List.getD_eq_getElem?_getD, List.getElem?_map, List.getElem?_eq_getElem h', Option.map_some, Option.getD_some]
    rfl
  · rename_i h
    have h' : s.data.toList.length ≤ i := by rw [dl]; omega
    simp only [List.getD_eq_getElem?_getD, List.getElem?_map, List.getElem?_eq_none h', Option.map_none, Option.getD_none]
    rfl
theorem B_append (s t : ByteArray) : B (s ++ t) = B s ++ B t := by simp [B]
theorem B_ext {s t : ByteArray} (h : B s = B t) : s = t := by
  have h2 : s.data.toList = t.data.toList := by
    unfold B at h
    exact List.map_inj_right (fun a b hab => UInt8.toNat_inj.1 hab) |>.1 h
  cases s; cases t
  simp only [ByteArray.mk.injEq]
  exact Array.toList_inj.1 h2
/-- A string of numbers' bytes. -/
theorem B_nums (l : List Int) (h : ∀ x ∈ l, 0 ≤ x ∧ x < 256) : B (strOfNums l) = l.map Int.toNat := by
  unfold B strOfNums
  simp only [List.map_map]
  refine List.map_congr_left fun x hx => ?_
  have := h x hx
  simp only [Function.comp]
  simp
  omega
theorem bx32 (a b : Nat) (ha : a < 4294967296) (hb : b < 4294967296) : Go.bits .xor .u32 (a : Int) (b : Int) = ((a ^^^ b : Nat) : Int) := by
  have hx : a ^^^ b < 2 ^ 32 := Nat.xor_lt_two_pow (by omega) (by omega)
  show IntKind.u32.wrap (((BitVec.ofInt 32 (a : Int)) ^^^ (BitVec.ofInt 32 (b : Int))).toNat : Int) = _
  rw [BitVec.ofInt_natCast, BitVec.ofInt_natCast, BitVec.toNat_xor, BitVec.toNat_ofNat, BitVec.toNat_ofNat, IntKind.wrap_u32,
    Nat.mod_eq_of_lt (show a < 2 ^ 32 by omega), Nat.mod_eq_of_lt (show b < 2 ^ 32 by omega)]
  omega
theorem band1 (a : Nat) (ha : a < 4294967296) : Go.bits .and .u32 (a : Int) 1 = ((a % 2 : Nat) : Int) := by
  have h : a &&& 1 = a % 2 := Nat.and_one_is_mod a
  have e : (1 : Int) = ((1 : Nat) : Int) := rfl
  rw [e]
  show IntKind.u32.wrap (((BitVec.ofInt 32 (a : Int)) &&& (BitVec.ofInt 32 ((1 : Nat) : Int))).toNat : Int) = _
  rw [BitVec.ofInt_natCast, BitVec.ofInt_natCast, BitVec.toNat_and, BitVec.toNat_ofNat, BitVec.toNat_ofNat, IntKind.wrap_u32,
    Nat.mod_eq_of_lt (show a < 2 ^ 32 by omega), Nat.mod_eq_of_lt (show 1 < 2 ^ 32 by omega), h]
  omega
end Go.Proofs.Ythoibokhmkjkdaa.Pure

namespace Go.Proofs.Ythoibokhmkjkdaa.Pure
open Go Go.RowKit Go.Proofs.YthoibokhmkjkdaaW.PrintWords Go.Proofs.YthoibokhmkjkdaaW.PrintLast Go.Proofs.YthoibokhmkjkdaaW.PrintMore
/-- What a loop makes: d rounds from round i on, each going on or leaving. -/
def run {σ α : Type} (step : σ → Nat → σ ⊕ α) (fin : σ → α) : Nat → Nat → σ → α
  | 0, _, s => fin s
  | d + 1, i, s => match step s i with
    | .inl s' => run step fin d (i + 1) s'
    | .inr a => a
theorem ev_for {σ α : Type} (L : Nat → σ → Int → Option α) (n : Nat) (step : σ → Nat → σ ⊕ α) (fin : σ → α) (Inv : σ → Nat → Prop)
    (hs : ∀ s i, i < n → Inv s i → (∀ s', step s i = .inl s' → Inv s' (i + 1) ∧ ∀ r, Ev (fun k => L k s' ((i + 1 : Nat) : Int)) r → Ev (fun k => L k s (i : Int)) r) ∧ (∀ a, step s i = .inr a → Ev (fun k => L k s (i : Int)) a))
    (he : ∀ s, Inv s n → Ev (fun k => L k s (n : Int)) (fin s)) : ∀ d i s, i + d = n → Inv s i → Ev (fun k => L k s (i : Int)) (run step fin d i s)
  | 0, i, s, hd, hi => by
    obtain rfl : i = n := by omega
    exact he s hi
  | d + 1, i, s, hd, hi => by
    obtain ⟨h1, h2⟩ := hs s i (by omega) hi
    unfold run
    cases h : step s i with
    | inl s' =>
      obtain ⟨h3, h4⟩ := h1 s' h
      exact h4 _ (ev_for L n step fin Inv hs he d (i + 1) s' (by omega) h3)
    | inr a => exact h2 a h
/-- A list that is filled, place by place. -/
theorem ev_fill {β : Type} (L : Nat → List β → Int → Option (List β)) (n : Nat) (z : β) (v : Nat → β)
    (hs : ∀ x i, i < n → x.length = n → ∀ r, Ev (fun k => L k (x.set i (v i)) ((i + 1 : Nat) : Int)) r → Ev (fun k => L k x (i : Int)) r)
    (he : ∀ x, x.length = n → Ev (fun k => L k x (n : Int)) x) : Ev (fun k => L k (List.replicate n z) 0) ((List.range n).map v) := by
  have key : ∀ d i, i + d = n → Ev (fun k => L k ((List.range i).map v ++ List.replicate d z) (i : Int)) ((List.range n).map v) := by
    intro d
    induction d with
    | zero =>
      intro i hi
      obtain rfl : i = n := by omega
      have := he ((List.range i).map v) (by simp)
      simpa using this
    | succ d ih =>
      intro i hi
      refine hs _ i (by omega) (by simp; omega) _ ?_
      have e : ((List.range i).map v ++ List.replicate (d + 1) z).set i (v i) = (List.range (i + 1)).map v ++ List.replicate d z := by
        rw [List.set_append_right _ _ (by simp), List.length_map, List.length_range, Nat.sub_self, List.replicate_succ, List.set_cons_zero, List.range_succ, List.map_append, List.append_assoc]
        rfl
      rw [e]
      exact ih (i + 1) (by omega)
  have := key n 0 (by omega)
  simpa using this
theorem map_range_get {α β : Type} (l : List α) (c : α → β) (z : α) : (List.range l.length).map (fun i => c (l.getD i z)) = l.map c := by
  apply List.ext_getElem
  · simp
  · intro i h1 h2
    simp at h1
    simp [List.getD_eq_getElem?_getD, List.getElem?_eq_getElem h1]
/-- A test of all places. -/
theorem ev_all {α : Type} (L : Nat → Int → Option α) (n : Nat) (p : Nat → Bool) (no yes : α)
    (hs : ∀ i, i < n → (p i = true → ∀ r, Ev (fun k => L k ((i + 1 : Nat) : Int)) r → Ev (fun k => L k (i : Int)) r) ∧ (p i = false → Ev (fun k => L k (i : Int)) no))
    (he : Ev (fun k => L k (n : Int)) yes) : Ev (fun k => L k 0) (if (List.range n).all p = true then yes else no) := by
  have key : ∀ d i, i + d = n → Ev (fun k => L k (i : Int)) (if (List.range' i d).all p = true then yes else no) := by
    intro d
    induction d with
    | zero =>
      intro i hi
      obtain rfl : i = n := by omega
      simpa using he
    | succ d ih =>
      intro i hi
      rw [List.range'_succ, List.all_cons]
      cases hp : p i with
      | false =>
        have h := (hs i (by omega)).2 hp
        simpa using h
      | true =>
        have h := (hs i (by omega)).1 hp _ (ih (i + 1) (by omega))
        rw [Bool.true_and]
        exact h
  have := key n 0 (by omega)
  rw [List.range_eq_range']
  exact this
theorem rd_get (l : List Int) (i : Nat) : rd l (i : Int) = l.getD i 0 := by simp [rd]
theorem wsucc (i : Nat) (h : i < 9223372036854775807) : wrap64 ((i : Int) + 1) = ((i + 1 : Nat) : Int) := by rw [w64] <;> omega
theorem wpred (i : Nat) (h : 0 < i) (h2 : i < 9223372036854775807) : wrap64 ((i : Int) - 1) = ((i - 1 : Nat) : Int) := by rw [w64] <;> omega
end Go.Proofs.Ythoibokhmkjkdaa.Pure

namespace Go.Proofs.Ythoibokhmkjkdaa.Pure
open Go Go.RowKit Go.Proofs.YthoibokhmkjkdaaW.PrintWords Go.Proofs.YthoibokhmkjkdaaW.PrintLast Go.Proofs.YthoibokhmkjkdaaW.PrintMore
/-- The first place from i on, of d places, with a property, or -1. -/
def firstFrom (p : Nat → Bool) : Nat → Nat → Int
  | 0, _ => -1
  | d + 1, i => if p i = true then (i : Int) else firstFrom p d (i + 1)
theorem firstFrom_any (p : Nat → Bool) : ∀ d i, decide (firstFrom p d i ≥ 0) = (List.range' i d).any p
  | 0, i => by simp [firstFrom]
  | d + 1, i => by
    rw [List.range'_succ, List.any_cons]
    unfold firstFrom
    cases h : p i with
    | true => simp
    | false => simpa using firstFrom_any p d (i + 1)
theorem ev_index (L : Nat → Int → Option Int) (n : Nat) (p : Nat → Bool)
    (hs : ∀ i, i < n → (p i = false → ∀ r, Ev (fun k => L k ((i + 1 : Nat) : Int)) r → Ev (fun k => L k (i : Int)) r) ∧ (p i = true → Ev (fun k => L k (i : Int)) (i : Int)))
    (he : Ev (fun k => L k (n : Int)) (-1)) : Ev (fun k => L k 0) (firstFrom p n 0) := by
  have key : ∀ d i, i + d = n → Ev (fun k => L k (i : Int)) (firstFrom p d i) := by
    intro d
    induction d with
    | zero => intro i hi; obtain rfl : i = n := by omega
              exact he
    | succ d ih =>
      intro i hi
      unfold firstFrom
      cases hp : p i with
      | true => exact (hs i (by omega)).2 hp
      | false => exact (hs i (by omega)).1 hp _ (ih (i + 1) (by omega))
  exact key n 0 (by omega)
theorem firstFrom_any0 (p : Nat → Bool) (n : Nat) : decide (firstFrom p n 0 ≥ 0) = (List.range n).any p := by rw [firstFrom_any, List.range_eq_range']
theorem not_all_any (p : Nat → Bool) (n : Nat) : (List.range n).any (fun i => !p i) = !(List.range n).all p := by
  rw [Bool.eq_iff_iff]
  simp [List.any_eq_true]
end Go.Proofs.Ythoibokhmkjkdaa.Pure

namespace Go.Proofs.Ythoibokhmkjkdaa.Pure
open Go Go.RowKit Go.Proofs.YthoibokhmkjkdaaW.PrintWords Go.Proofs.YthoibokhmkjkdaaW.PrintLast Go.Proofs.YthoibokhmkjkdaaW.PrintMore Go.Proofs.Ythoibokhmkjkdaa.P
theorem toInt64S_ev (l : List Int) (h : l.length ≤ 35184372088832) : Ev (fun k => laws_toInt64S.f k l) l := by
  have h0 := ev_fill (fun k x i => laws_toInt64S.l0 k l x i) l.length 0 (fun i => l.getD i 0) (fun x i hi hx r hr => Ev.step (fun k => by
      simp only [laws_toInt64S.l0]
      rw [if_pos (by omega), if_pos (by omega), if_pos (by omega), Int.toNat_natCast, rd_get, wsucc i (by omega)]) hr)
    (fun x hx => Ev.now' fun k => by simp only [laws_toInt64S.l0]; rw [if_neg (by omega)])
  have e : (List.range l.length).map (fun i => l.getD i 0) = l := by
    have := map_range_get l (fun x => x) 0
    simpa using this
  rw [e] at h0
  refine Ev.congr (fun k => ?_) h0
  unfold laws_toInt64S.f
  rw [if_pos (by omega), if_pos (by omega), Int.toNat_natCast]
theorem eqInt64S_ev (l m : List Int) (h : l.length ≤ 35184372088832) : Ev (fun k => laws_eqInt64S.f k l m) (decide (l = m)) := by
  by_cases hl : l.length = m.length
  · have h0 := ev_all (fun k i => laws_eqInt64S.l0 k l m i) l.length (fun i => decide (l.getD i 0 = m.getD i 0)) false true (fun i hi => ⟨fun hp r hr => Ev.step (fun k => by
        simp only [laws_eqInt64S.l0]
        rw [if_pos (by omega), if_pos (by omega), if_pos (by omega), rd_get, rd_get, if_pos (by simpa using hp), wsucc i (by omega)]) hr, fun hp => Ev.now' fun k => by
        simp only [laws_eqInt64S.l0]
        rw [if_pos (by omega), if_pos (by omega), if_pos (by omega), rd_get, rd_get, if_neg (by simpa using hp)]⟩)
      (Ev.now' fun k => by simp only [laws_eqInt64S.l0]; rw [if_neg (by omega)])
    have e : (if (List.range l.length).all (fun i => decide (l.getD i 0 = m.getD i 0)) = true then true else false) = decide (l = m) := by
      rw [Bool.eq_iff_iff]
      simp only [ite_eq_left_iff, decide_eq_true_eq, List.all_eq_true, List.mem_range]
      constructor
      · intro hh
        have hh' : ∀ i, i < l.length → l.getD i 0 = m.getD i 0 := by
          intro i hi
          rcases Classical.em (∀ x < l.length, l.getD x 0 = m.getD x 0) with h1 | h1
          · exact h1 i hi
          · exact absurd (hh h1) (by simp)
        apply List.ext_getElem hl
        intro i h1 h2
        have := hh' i h1
        simpa [List.getD_eq_getElem?_getD, h1, h2] using this
      · rintro rfl
        intro h1
        exact absurd (fun x _ => rfl) h1
    rw [e] at h0
    refine Ev.congr (fun k => ?_) h0
    unfold laws_eqInt64S.f
    rw [if_pos (by omega)]
  · have e : decide (l = m) = false := decide_eq_false (fun hh => hl (by rw [hh]))
    rw [e]
    exact Ev.all fun k => by unfold laws_eqInt64S.f; rw [if_neg (by omega)]
end Go.Proofs.Ythoibokhmkjkdaa.Pure

namespace Go.Proofs.Ythoibokhmkjkdaa.Pure
open Go Go.RowKit Go.Proofs.YthoibokhmkjkdaaW.PrintWords Go.Proofs.YthoibokhmkjkdaaW.PrintLast Go.Proofs.YthoibokhmkjkdaaW.PrintMore Go.Proofs.Ythoibokhmkjkdaa.P
theorem toFleet_ev (w : List Int) (a b : Int) (s : List Int) (hw : w.length ≤ 35184372088832) (hs : s.length ≤ 35184372088832) : Ev (fun k => laws_toFleet.f k w a b s) (w, a, b, s) := by
  unfold laws_toFleet.f
  exact Ev.bind (toInt64S_ev w hw) (Ev.bind (toInt64S_ev s hs) (Ev.now _))
theorem eqFleet_ev (w : List Int) (a b : Int) (s : List Int) (hw : w.length ≤ 35184372088832) (hs : s.length ≤ 35184372088832) : Ev (fun k => laws_eqFleet.f k w a b s w a b s) true := by
  unfold laws_eqFleet.f
  have h1 := eqInt64S_ev w w hw
  have h2 := eqInt64S_ev s s hs
  rw [decide_eq_true rfl] at h1 h2
  exact Ev.bind h1 (Ev.ifp rfl (Ev.ifp rfl (Ev.ifp rfl (Ev.bind h2 (Ev.ifp rfl (Ev.now _))))))
theorem szFleet_some (w : List Int) (a b : Int) (s : List Int) (z : Int) : ∃ t, laws_szFleet.f w a b s z = some t := by
  unfold laws_szFleet.f laws_szInt64S.f
  repeat' (first | exact ⟨_, rfl⟩ | split | simp only [Option.bind_some])
end Go.Proofs.Ythoibokhmkjkdaa.Pure

namespace Go.Proofs.Ythoibokhmkjkdaa.Pure
open Go Go.RowKit Go.Proofs.YthoibokhmkjkdaaW.PrintWords Go.Proofs.YthoibokhmkjkdaaW.PrintLast Go.Proofs.YthoibokhmkjkdaaW.PrintMore Go.Proofs.Ythoibokhmkjkdaa.P
def marks (a : Int) (n : Nat) : List Int := (List.range n).map (fun i : Nat => a + (i : Int))
theorem marks_len (a : Int) (n : Nat) : (marks a n).length = n := by simp [marks]
theorem marks_succ (a : Int) (n : Nat) : marks a (n + 1) = marks a n ++ [a + (n : Int)] := by simp [marks, List.range_succ]
theorem marks_get (a : Int) (n i : Nat) (h : i < n) : (marks a n).getD i 0 = a + (i : Int) := by simp [marks, List.getD_eq_getElem?_getD, List.getElem?_map, List.getElem?_range h]
theorem mark_ev (l : List Int) (a : Int) (ha : 0 ≤ a) (hl : a + (l.length : Int) ≤ 4611686018427387904) : Ev (fun k => laws_markInt64S.f k l a) (a + (l.length : Int), marks a l.length) := by
  have key : ∀ d i, i + d = l.length → Ev (fun k => laws_markInt64S.l0 k (marks a i ++ l.drop i) (a + (i : Int)) (i : Int)) (a + (l.length : Int), marks a l.length) := by
    intro d
    induction d with
    | zero =>
      intro i hi
      obtain rfl : i = l.length := by omega
      refine Ev.now' fun k => ?_
      simp only [laws_markInt64S.l0]
      rw [if_neg (by rw [List.length_append, marks_len, List.length_drop]; omega), List.drop_length, List.append_nil]
    | succ d ih =>
      intro i hi
      refine Ev.step (fun k => ?_) (ih (i + 1) (by omega))
      simp only [laws_markInt64S.l0]
      have e : (marks a i ++ l.drop i).set (i : Int).toNat (a + (i : Int)) = marks a (i + 1) ++ l.drop (i + 1) := by
        rw [Int.toNat_natCast, List.set_append_right _ _ (by rw [marks_len]; omega), marks_len, Nat.sub_self, List.drop_eq_getElem_cons (show i < l.length by omega), List.set_cons_zero, marks_succ, List.append_assoc]
        rfl
      rw [if_pos (by rw [List.length_append, marks_len, List.length_drop]; omega), if_pos (by omega), e, wsucc i (by omega), w64 (n := a + (i : Int) + 1) (by omega) (by omega)]
      congr 1
      omega
  have h := key l.length 0 (by omega)
  refine Ev.congr (fun k => ?_) h
  unfold laws_markInt64S.f
  simp [marks]
theorem held_ev (n : Nat) (a : Int) (ha : 0 ≤ a) (hl : a + (n : Int) ≤ 4611686018427387904) : Ev (fun k => laws_heldInt64S.f k (marks a n) a) (a + (n : Int)) := by
  have key : ∀ d i, i + d = n → Ev (fun k => laws_heldInt64S.l0 k (marks a n) (a + (i : Int)) (i : Int)) (a + (n : Int)) := by
    intro d
    induction d with
    | zero =>
      intro i hi
      obtain rfl : i = n := by omega
      refine Ev.now' fun k => ?_
      simp only [laws_heldInt64S.l0]
      rw [if_neg (by rw [marks_len]; omega)]
    | succ d ih =>
      intro i hi
      refine Ev.step (fun k => ?_) (ih (i + 1) (by omega))
      simp only [laws_heldInt64S.l0]
      rw [if_pos (by rw [marks_len]; omega), if_pos (by omega), rd_get, marks_get a n i (by omega), if_pos rfl, wsucc i (by omega), w64 (n := a + (i : Int) + 1) (by omega) (by omega)]
      congr 1
      omega
  have h := key n 0 (by omega)
  refine Ev.congr (fun k => ?_) h
  unfold laws_heldInt64S.f
  simp
abbrev FO := List Int × Int × Int × List Int × List Int × Int
section
variable (w : List Int) (a b : Int) (s t : List Int) (c : Int) (hw : w.length ≤ 35184372088832) (hs : s.length ≤ 35184372088832) (ht : t.length ≤ 35184372088832)
include hw hs
theorem markFleet_ev : Ev (fun k => laws_markFleet.f k w a b s 1) (1 + (w.length : Int) + (s.length : Int), marks 1 w.length, marks (1 + (w.length : Int)) s.length) := by
  unfold laws_markFleet.f
  exact Ev.bind (mark_ev w 1 (by omega) (by omega)) (Ev.bind (mark_ev s (1 + (w.length : Int)) (by omega) (by omega)) (Ev.now _))
include ht
theorem markOut_ev : Ev (fun k => laws_markFleetOut.f k w a b s t c 1) (1 + (w.length : Int) + (s.length : Int) + (t.length : Int), marks 1 w.length, marks (1 + (w.length : Int)) s.length, marks (1 + (w.length : Int) + (s.length : Int)) t.length) := by
  unfold laws_markFleetOut.f
  exact Ev.bind (markFleet_ev w a b s hw hs) (Ev.bind (mark_ev t (1 + (w.length : Int) + (s.length : Int)) (by omega) (by omega)) (Ev.now _))
theorem heldOut_ev : Ev (fun k => laws_heldFleetOut.f k (marks 1 w.length) a b (marks (1 + (w.length : Int)) s.length) (marks (1 + (w.length : Int) + (s.length : Int)) t.length) c 1) (1 + (w.length : Int) + (s.length : Int) + (t.length : Int)) := by
  have h1 : Ev (fun k => laws_heldFleet.f k (marks 1 w.length) a b (marks (1 + (w.length : Int)) s.length) 1) (1 + (w.length : Int) + (s.length : Int)) := by
    unfold laws_heldFleet.f
    refine Ev.bind (held_ev w.length 1 (by omega) (by omega)) (Ev.ifn (by omega) (Ev.bind (held_ev s.length (1 + (w.length : Int)) (by omega) (by omega)) (Ev.ifn (by omega) (Ev.now _))))
  unfold laws_heldFleetOut.f
  exact Ev.bind h1 (Ev.ifn (by omega) (Ev.bind (held_ev t.length (1 + (w.length : Int) + (s.length : Int)) (by omega) (by omega)) (Ev.ifn (by omega) (Ev.now _))))
theorem eqOut_ev : Ev (fun k => laws_eqFleetOut.f k w a b s t c w a b s t c) true := by
  unfold laws_eqFleetOut.f
  have h2 := eqInt64S_ev t t ht
  rw [decide_eq_true rfl] at h2
  exact Ev.bind (eqFleet_ev w a b s hw hs) (Ev.ifp rfl (Ev.bind h2 (Ev.ifp rfl (Ev.ifp rfl (Ev.now _)))))
end
/-- The sizes of an answer. -/
structure Small (o : FO) : Prop where
  w : o.1.length ≤ 35184372088832
  s : o.2.2.2.1.length ≤ 35184372088832
  t : o.2.2.2.2.1.length ≤ 35184372088832
end Go.Proofs.Ythoibokhmkjkdaa.Pure

namespace Go.Proofs.Ythoibokhmkjkdaa.P
open Go.RowKit Go.Proofs.YthoibokhmkjkdaaW.PrintWords Go.Proofs.YthoibokhmkjkdaaW.PrintLast Go.Proofs.YthoibokhmkjkdaaW.PrintMore Go.Proofs.YthoibokhmkjkdaaW.PrintSq
attribute [local go_sem] max2_int min2_int max_two min_two max_three min_three max_four min_four   -- for this text's walks alone
set_option linter.unusedVariables false
set_option linter.unusedSimpArgs false

/-! ### impl_isTime: function 139 -/
def impl_isTime.f (a0 : Int) : Option (Bool) := (impl_within.f a0 0 1000000).bind fun t101 => (some t101)
set_option maxHeartbeats 8000000 in
set_option maxRecDepth 100000 in
theorem impl_isTime.calls (a0 : Int) (r : Bool) (w : World) (h : impl_isTime.f a0 = some r) :
    Calls Try.prog 139 #[.int .i64 a0] w fun e w' => e = .returned (.bool r) ∧ Drawn0 w w' := by
  have H : ((impl_within.f a0 0 1000000).bind fun t101 => (some t101)) = some r := h
  clear h
  replace H := Option.bind_eq_some_iff.mp H
  obtain ⟨t101, A20, H⟩ := H
  replace H : (some t101) = some r := H
  have A2 := Aside0.mk A20
  clear A20
  obtain rfl := Option.some.inj H
  go_enter Try.func139, Try.ntmps139
  go_wp2_with (first | ((with_reducible refine gate_callee (f := 76) rfl ?_); refine goesL_ (some 4) rfl rfl Try.func76 (by kernel_rfl) rfl #[.int .i64 a0, .int .i64 0, .int .i64 1000000] rfl lF ?_; (with_reducible refine (impl_within.calls a0 0 1000000 t101 _ A2.out).mono ?_); rintro e w' ⟨rfl, ⟨nd, rfl⟩⟩; refine ⟨_, rfl, ?_⟩))
  go_ret
  exact ⟨by first | rfl | (simp; done) | (simp [*]; done), by repeat (first | exact Drawn0.refl _ | apply Drawn0.step)⟩

end Go.Proofs.Ythoibokhmkjkdaa.P

namespace Go.Proofs.Ythoibokhmkjkdaa.Pure
open Go.RowKit Go.Proofs.YthoibokhmkjkdaaW.PrintWords Go.Proofs.YthoibokhmkjkdaaW.PrintLast Go.Proofs.Ythoibokhmkjkdaa.P
theorem within_eq (a b c : Int) : impl_within.f a b c = some (decide (b ≤ a) && decide (a ≤ c)) := by
  unfold impl_within.f; split <;> simp_all
  omega
theorem is_eq (a b c : Int) : spec_l03Is.f a b c = some (decide (b ≤ a) && decide (a ≤ c)) := by
  unfold spec_l03Is.f; split <;> simp_all
  omega
theorem time_eq (a : Int) : impl_isTime.f a = some (decide (0 ≤ a) && decide (a ≤ 1000000)) := by
  unfold impl_isTime.f; rw [within_eq]; rfl
theorem ite_some {α : Type} (c : Prop) [Decidable c] (a b : α) : (if c then some a else some b) = some (if c then a else b) := by split <;> rfl
theorem ite_and (x y : Bool) : (if x = true then y else false) = (x && y) := by cases x <;> rfl
end Go.Proofs.Ythoibokhmkjkdaa.Pure

namespace Go.Proofs.Ythoibokhmkjkdaa.Pure
open Go Go.RowKit Go.Proofs.YthoibokhmkjkdaaW.PrintWords Go.Proofs.YthoibokhmkjkdaaW.PrintLast Go.Proofs.YthoibokhmkjkdaaW.PrintMore Go.Proofs.Ythoibokhmkjkdaa.P
def many (s : List Int) (x : Int) : Nat := s.countP (fun y => y == x)
theorem many_le (s : List Int) (x : Int) : many s x ≤ s.length := List.countP_le_length
theorem many_take (s : List Int) (x : Int) (i : Nat) (h : i < s.length) : many (s.take (i + 1)) x = many (s.take i) x + (if s.getD i 0 = x then 1 else 0) := by
  unfold many
  rw [List.take_succ_eq_append_getElem h, List.countP_append]
  simp [List.getD_eq_getElem?_getD, List.getElem?_eq_getElem h, List.countP_cons]
def waveB (w : List Int) (i : Nat) : Bool := decide (1 ≤ w.getD i 0) && decide (w.getD i 0 ≤ 100) && !(decide (0 < i) && decide (w.getD (i - 1) 0 ≥ w.getD i 0))
def sizesB (w : List Int) (a b : Int) (s : List Int) : Bool := decide (1 ≤ s.length) && decide (s.length ≤ 12) && (decide (1 ≤ w.length) && decide (w.length ≤ 10)) && (decide (0 ≤ a) && decide (a ≤ (w.length : Int) - 1)) && (decide (0 ≤ b) && decide (b ≤ 12))
def wavesB (w : List Int) : Bool := (List.range w.length).all (waveB w)
def statesB (s : List Int) : Bool := (List.range s.length).all (fun i => decide (0 ≤ s.getD i 0) && decide (s.getD i 0 ≤ 3))
def shareZ (w : List Int) (a : Int) (s : List Int) : Int := wrap64 (Int.tdiv (wrap64 ((wrap64 ((s.length : Int) * (rd w a))) + 99)) 100)
def fleetB (w : List Int) (a b : Int) (s : List Int) : Bool := sizesB w a b s && wavesB w && statesB s && decide (w.getD (w.length - 1) 0 = 100) && decide ((s.length : Int) - many s 0 ≤ shareZ w a s)
theorem count_ev (w : List Int) (a b : Int) (s : List Int) (x : Int) (h : s.length ≤ 35184372088832) : Ev (fun k => impl_Fleet_count.f k w a b s x) (many s x : Int) := by
  have h0 := ev_for (fun k (c : Int) i => impl_Fleet_count.l0 k x c s (s.length : Int) i) s.length (fun c i => .inl (if s.getD i 0 = x then c + 1 else c)) (fun c => c) (fun c i => c = (many (s.take i) x : Int))
    (fun c i hi hc => ⟨fun c' hc' => by
      simp only [Sum.inl.injEq] at hc'
      subst hc'
      have hm := many_le (s.take i) x
      have ht := many_take s x i hi
      have hl := List.length_take_le i s
      refine ⟨by rw [ht, hc]; split <;> simp, fun r hr => Ev.step (fun k => ?_) hr⟩
      simp only [impl_Fleet_count.l0]
      rw [if_pos (by omega), if_pos (by omega), if_pos (by omega), rd_get, wsucc i (by omega)]
      split
      · rw [w64 (by omega) (by omega)]
      · rfl, fun a ha => by simp at ha⟩)
    (fun c hc => Ev.now' fun k => by simp only [impl_Fleet_count.l0]; rw [if_neg (by omega)])
  have key : ∀ d i c, i + d = s.length → c = (many (s.take i) x : Int) → run (fun (c : Int) i => (.inl (if s.getD i 0 = x then c + 1 else c) : Int ⊕ Int)) (fun c => c) d i c = (many s x : Int) := by
    intro d
    induction d with
    | zero => intro i c hi hc; rw [hc, show i = s.length by omega, List.take_length]; rfl
    | succ d ih =>
      intro i c hi hc
      refine ih (i + 1) _ (by omega) ?_
      rw [many_take s x i (by omega), hc]
      split <;> simp
  have h1 := h0 s.length 0 0 (by omega) (by simp [many])
  rw [key s.length 0 0 (by omega) (by simp [many])] at h1
  exact Ev.congr (fun k => by unfold impl_Fleet_count.f; rfl) h1
theorem sMany_ev (w : List Int) (a b : Int) (s : List Int) (x : Int) (h : s.length ≤ 35184372088832) : Ev (fun k => spec_l21Many.f k w a b s x) (many s x : Int) := by
  have h0 := ev_for (fun k (c : Int) i => spec_l21Many.l0 k x c i w a b s) s.length (fun c i => .inl (if s.getD i 0 = x then c + 1 else c)) (fun c => c) (fun c i => c = (many (s.take i) x : Int))
    (fun c i hi hc => ⟨fun c' hc' => by
      simp only [Sum.inl.injEq] at hc'
      subst hc'
      have hm := many_le (s.take i) x
      have ht := many_take s x i hi
      have hl := List.length_take_le i s
      refine ⟨by rw [ht, hc]; split <;> simp, fun r hr => Ev.step (fun k => ?_) hr⟩
      simp only [spec_l21Many.l0]
      rw [if_pos (by omega), if_pos (by omega), rd_get, wsucc i (by omega)]
      split
      · rw [w64 (by omega) (by omega)]
      · rfl, fun a ha => by simp at ha⟩)
    (fun c hc => Ev.now' fun k => by simp only [spec_l21Many.l0]; rw [if_neg (by omega)])
  have key : ∀ d i c, i + d = s.length → c = (many (s.take i) x : Int) → run (fun (c : Int) i => (.inl (if s.getD i 0 = x then c + 1 else c) : Int ⊕ Int)) (fun c => c) d i c = (many s x : Int) := by
    intro d
    induction d with
    | zero => intro i c hi hc; rw [hc, show i = s.length by omega, List.take_length]; rfl
    | succ d ih =>
      intro i c hi hc
      refine ih (i + 1) _ (by omega) ?_
      rw [many_take s x i (by omega), hc]
      split <;> simp
  have h1 := h0 s.length 0 0 (by omega) (by simp [many])
  rw [key s.length 0 0 (by omega) (by simp [many])] at h1
  exact Ev.congr (fun k => by unfold spec_l21Many.f; rfl) h1
/-- The waves' test, in the program. -/
theorem iWaves {w : List Int} {a b : Int} {s : List Int} {r : Bool} (h : w.length ≤ 35184372088832)
    (hr : wavesB w = true → Ev (fun k => impl_isFleet.l0 k w (w.length : Int) (w.length : Int) w a b s) r) : Ev (fun k => impl_isFleet.l0 k w (w.length : Int) 0 w a b s) (if wavesB w = true then r else false) := by
  have key : ∀ d i, i + d = w.length → (∀ j, j < i → waveB w j = true) → Ev (fun k => impl_isFleet.l0 k w (w.length : Int) (i : Int) w a b s) (if wavesB w = true then r else false) := by
    intro d
    induction d with
    | zero =>
      intro i hi hb
      obtain rfl : i = w.length := by omega
      have hw : wavesB w = true := by unfold wavesB; rw [List.all_eq_true]; intro j hj; exact hb j (List.mem_range.1 hj)
      rw [if_pos hw]
      exact hr hw
    | succ d ih =>
      intro i hi hb
      have hin : i < w.length := by omega
      cases hwv : waveB w i with
      | true =>
        refine Ev.step (fun k => ?_) (ih (i + 1) (by omega) (fun j hj => by rcases Nat.lt_succ_iff_lt_or_eq.1 hj with h | rfl; exact hb j h; exact hwv))
        simp only [impl_isFleet.l0]
        rw [if_pos (by omega), if_pos (by omega), if_pos (by omega), rd_get, within_eq, Option.bind_some, wsucc i (by omega)]
        simp only [waveB, Bool.and_eq_true, Bool.not_eq_true', Bool.and_eq_false_iff, decide_eq_true_eq, decide_eq_false_iff_not] at hwv
        obtain ⟨⟨h1, h2⟩, h3⟩ := hwv
        rw [if_pos (by rw [Bool.and_eq_true, decide_eq_true_eq, decide_eq_true_eq]; exact ⟨h1, h2⟩)]
        by_cases hz : 0 < i
        · rw [if_pos (by omega), wpred i hz (by omega), if_pos (by omega), if_pos (by omega), rd_get, if_neg (by rcases h3 with h3 | h3 <;> omega)]
        · rw [if_neg (by omega)]
      | false =>
        have hw : ¬ wavesB w = true := by
          unfold wavesB
          rw [List.all_eq_true]
          intro hh
          have := hh i (List.mem_range.2 hin)
          rw [hwv] at this
          cases this
        rw [if_neg hw]
        refine Ev.now' fun k => ?_
        simp only [impl_isFleet.l0]
        rw [if_pos (by omega), if_pos (by omega), if_pos (by omega), rd_get, within_eq, Option.bind_some, wsucc i (by omega)]
        by_cases h12 : 1 ≤ w.getD i 0 ∧ w.getD i 0 ≤ 100
        · rw [if_pos (by rw [Bool.and_eq_true, decide_eq_true_eq, decide_eq_true_eq]; exact h12)]
          have h3 : 0 < i ∧ w.getD (i - 1) 0 ≥ w.getD i 0 := by
            simp only [waveB, h12.1, h12.2, decide_true, Bool.true_and, Bool.not_eq_false', Bool.and_eq_true, decide_eq_true_eq] at hwv
            exact hwv
          rw [if_pos (by omega), wpred i h3.1 (by omega), if_pos (by omega), if_pos (by omega), rd_get, if_pos h3.2]
        · rw [if_neg (by simp only [Bool.and_eq_true, decide_eq_true_eq]; exact h12)]
  exact key w.length 0 (by omega) (fun j hj => by omega)
theorem sWaves {w : List Int} (h : w.length ≤ 35184372088832) : Ev (fun k => spec_l21Waves.l0 k w 0) (wavesB w) := by
  have key : ∀ d i, i + d = w.length → (∀ j, j < i → waveB w j = true) → Ev (fun k => spec_l21Waves.l0 k w (i : Int)) (wavesB w) := by
    intro d
    induction d with
    | zero =>
      intro i hi hb
      obtain rfl : i = w.length := by omega
      have hw : wavesB w = true := by unfold wavesB; rw [List.all_eq_true]; intro j hj; exact hb j (List.mem_range.1 hj)
      rw [hw]
      refine Ev.now' fun k => ?_
      simp only [spec_l21Waves.l0]
      rw [if_neg (by omega)]
    | succ d ih =>
      intro i hi hb
      have hin : i < w.length := by omega
      cases hwv : waveB w i with
      | true =>
        refine Ev.step (fun k => ?_) (ih (i + 1) (by omega) (fun j hj => by rcases Nat.lt_succ_iff_lt_or_eq.1 hj with h | rfl; exact hb j h; exact hwv))
        simp only [spec_l21Waves.l0]
        rw [if_pos (by omega), if_pos (by omega), rd_get, is_eq, Option.bind_some, wsucc i (by omega)]
        simp only [waveB, Bool.and_eq_true, Bool.not_eq_true', Bool.and_eq_false_iff, decide_eq_true_eq, decide_eq_false_iff_not] at hwv
        obtain ⟨⟨h1, h2⟩, h3⟩ := hwv
        rw [if_pos (by rw [Bool.and_eq_true, decide_eq_true_eq, decide_eq_true_eq]; exact ⟨h1, h2⟩)]
        by_cases hz : 0 < i
        · rw [if_pos (by omega), wpred i hz (by omega), if_pos (by omega), if_pos (by omega), rd_get, if_neg (by rcases h3 with h3 | h3 <;> omega)]
        · rw [if_neg (by omega)]
      | false =>
        have hw : wavesB w = false := by
          rw [Bool.eq_false_iff]
          unfold wavesB
          rw [Ne, List.all_eq_true]
          intro hh
          have := hh i (List.mem_range.2 hin)
          rw [hwv] at this
          cases this
        rw [hw]
        refine Ev.now' fun k => ?_
        simp only [spec_l21Waves.l0]
        rw [if_pos (by omega), if_pos (by omega), rd_get, is_eq, Option.bind_some, wsucc i (by omega)]
        by_cases h12 : 1 ≤ w.getD i 0 ∧ w.getD i 0 ≤ 100
        · rw [if_pos (by rw [Bool.and_eq_true, decide_eq_true_eq, decide_eq_true_eq]; exact h12)]
          have h3 : 0 < i ∧ w.getD (i - 1) 0 ≥ w.getD i 0 := by
            simp only [waveB, h12.1, h12.2, decide_true, Bool.true_and, Bool.not_eq_false', Bool.and_eq_true, decide_eq_true_eq] at hwv
            exact hwv
          rw [if_pos (by omega), wpred i h3.1 (by omega), if_pos (by omega), if_pos (by omega), rd_get, if_pos h3.2]
        · rw [if_neg (by simp only [Bool.and_eq_true, decide_eq_true_eq]; exact h12)]
  exact key w.length 0 (by omega) (fun j hj => by omega)
theorem sl1_ev (_i n : Nat) (h : n ≤ 35184372088832) (h2 : 0 < n) : wrap64 ((n : Int) - 1) = ((n - 1 : Nat) : Int) := by rw [w64] <;> omega
/-- The states' test, in the program. -/
theorem iStates {s : List Int} (h : s.length ≤ 35184372088832) : Ev (fun k => slices_ContainsFunc_int64_int64_of_isFleet_1.f k s) (!statesB s) := by
  have key : ∀ d i, i + d = s.length → (∀ j, j < i → (decide (0 ≤ s.getD j 0) && decide (s.getD j 0 ≤ 3)) = true) → ∃ r : Int, Ev (fun k => slices_IndexFunc_int64_int64_of_isFleet_1.l0 k s (s.length : Int) (i : Int)) r ∧ decide (r ≥ 0) = !statesB s := by
    intro d
    induction d with
    | zero =>
      intro i hi hb
      obtain rfl : i = s.length := by omega
      refine ⟨-1, Ev.now' fun k => by simp only [slices_IndexFunc_int64_int64_of_isFleet_1.l0]; rw [if_neg (by omega)], ?_⟩
      have : statesB s = true := by unfold statesB; rw [List.all_eq_true]; intro j hj; exact hb j (List.mem_range.1 hj)
      rw [this]; rfl
    | succ d ih =>
      intro i hi hb
      cases hv : (decide (0 ≤ s.getD i 0) && decide (s.getD i 0 ≤ 3)) with
      | true =>
        obtain ⟨r, h1, h2⟩ := ih (i + 1) (by omega) (fun j hj => by rcases Nat.lt_succ_iff_lt_or_eq.1 hj with h | rfl; exact hb j h; exact hv)
        refine ⟨r, Ev.step (fun k => ?_) h1, h2⟩
        simp only [slices_IndexFunc_int64_int64_of_isFleet_1.l0]
        rw [if_pos (by omega), if_pos (by omega), if_pos (by omega), rd_get, wsucc i (by omega)]
        have e : impl_isFleet_1.f (s.getD i 0) = some false := by unfold impl_isFleet_1.f; rw [within_eq, hv]; rfl
        rw [e]
        rfl
      | false =>
        refine ⟨i, Ev.now' fun k => ?_, ?_⟩
        · simp only [slices_IndexFunc_int64_int64_of_isFleet_1.l0]
          rw [if_pos (by omega), if_pos (by omega), if_pos (by omega), rd_get]
          have e : impl_isFleet_1.f (s.getD i 0) = some true := by unfold impl_isFleet_1.f; rw [within_eq, hv]; rfl
          rw [e]
          rfl
        · have : statesB s = false := by
            rw [Bool.eq_false_iff]
            unfold statesB
            rw [Ne, List.all_eq_true]
            intro hh
            have := hh i (List.mem_range.2 (by omega))
            rw [hv] at this
            cases this
          rw [this, decide_eq_true (by omega)]
          rfl
  obtain ⟨r, h1, h2⟩ := key s.length 0 (by omega) (fun j hj => by omega)
  unfold slices_ContainsFunc_int64_int64_of_isFleet_1.f
  refine Ev.bind (a := r) (Ev.congr (fun k => by unfold slices_IndexFunc_int64_int64_of_isFleet_1.f; rfl) h1) ?_
  rw [h2]
  exact Ev.now _
theorem iShare (w : List Int) (a b : Int) (s : List Int) (h0 : 0 ≤ a) (h1 : a < w.length) : impl_Fleet_share.f w a b s = some (shareZ w a s) := by
  unfold impl_Fleet_share.f impl_size_int64.f shareZ
  rw [Option.bind_some, if_pos h0, if_pos h1]
theorem sShare (w : List Int) (a b : Int) (s : List Int) (h0 : 0 ≤ a) (h1 : a < w.length) : spec_l21Share.f w a b s = some (shareZ w a s) := by
  unfold spec_l21Share.f shareZ
  rw [if_pos h0, if_pos h1]
theorem sizesB_parts {w : List Int} {a b : Int} {s : List Int} (h : sizesB w a b s = true) : 1 ≤ s.length ∧ s.length ≤ 12 ∧ 1 ≤ w.length ∧ w.length ≤ 10 ∧ 0 ≤ a ∧ a ≤ (w.length : Int) - 1 ∧ 0 ≤ b ∧ b ≤ 12 := by
  simp only [sizesB, Bool.and_eq_true, decide_eq_true_eq] at h
  omega
theorem left_ev (w : List Int) (a b : Int) (s : List Int) (h : s.length ≤ 35184372088832) : Ev (fun k => impl_Fleet_left.f k w a b s) ((s.length : Int) - many s 0) := by
  unfold impl_Fleet_left.f impl_size_int64.f
  refine Ev.bind (Ev.now _) (Ev.bind (count_ev w a b s 0 h) ?_)
  have := many_le s 0
  rw [w64 (by omega) (by omega)]
  exact Ev.now _
theorem iFleet_ev (w : List Int) (a b : Int) (s : List Int) (hw : w.length ≤ 35184372088832) (hs : s.length ≤ 35184372088832) : Ev (fun k => impl_isFleet.f k w a b s) (fleetB w a b s) := by
  have e : ∀ k, impl_isFleet.f k w a b s = impl_isFleet.j0 k (!sizesB w a b s) w a b s := by
    intro k
    unfold impl_isFleet.f impl_size_int64.f sizesB
    simp only [within_eq, Option.bind_some]
    rw [w64 (by omega) (by omega)]
    rw [show decide ((1 : Int) ≤ (s.length : Int)) = decide (1 ≤ s.length) from decide_eq_decide.2 (by omega), show decide ((s.length : Int) ≤ 12) = decide (s.length ≤ 12) from decide_eq_decide.2 (by omega),
      show decide ((1 : Int) ≤ (w.length : Int)) = decide (1 ≤ w.length) from decide_eq_decide.2 (by omega), show decide ((w.length : Int) ≤ 10) = decide (w.length ≤ 10) from decide_eq_decide.2 (by omega)]
    generalize (decide (1 ≤ s.length) && decide (s.length ≤ 12)) = p1
    generalize (decide (1 ≤ w.length) && decide (w.length ≤ 10)) = p2
    generalize (decide (0 ≤ a) && decide (a ≤ (w.length : Int) - 1)) = p3
    generalize (decide (0 ≤ b) && decide (b ≤ 12)) = p4
    cases p1 <;> cases p2 <;> cases p3 <;> cases p4 <;> rfl
  refine Ev.congr e ?_
  cases hz : sizesB w a b s with
  | false =>
    refine Ev.now' fun k => ?_
    simp only [impl_isFleet.j0, fleetB, hz]
    rfl
  | true =>
    obtain ⟨z1, z2, z3, z4, z5, z6, z7, z8⟩ := sizesB_parts hz
    refine Ev.step (f := fun k => impl_isFleet.l0 k w (w.length : Int) 0 w a b s) (fun k => by simp only [impl_isFleet.j0]; rfl) ?_
    have hfin : wavesB w = true → Ev (fun k => impl_isFleet.l0 k w (w.length : Int) (w.length : Int) w a b s) (statesB s && decide (w.getD (w.length - 1) 0 = 100) && decide ((s.length : Int) - many s 0 ≤ shareZ w a s)) := by
      intro _
      refine Ev.step (f := fun k => (slices_ContainsFunc_int64_int64_of_isFleet_1.f k s).bind fun t419 => (if t419 = true then (some false) else (if w.getD (w.length - 1) 0 = 100 then ((impl_Fleet_left.f k w a b s).bind fun t421 => (some (decide (t421 ≤ shareZ w a s)))) else (some false)))) (fun k => ?_) (Ev.bind (iStates hs) ?_)
      · simp only [impl_isFleet.l0]
        rw [if_neg (by omega), sl1_ev 0 w.length (by omega) (by omega), if_pos (by omega), if_pos (by omega), rd_get, iShare w a b s z5 (by omega)]
        rfl
      · cases hst : statesB s with
        | false => exact Ev.ifp rfl (Ev.now _)
        | true =>
          refine Ev.ifn (by simp) ?_
          by_cases h100 : w.getD (w.length - 1) 0 = 100
          · refine Ev.ifp h100 ?_
            rw [decide_eq_true h100]
            exact Ev.bind (left_ev w a b s hs) (Ev.now _)
          · refine Ev.ifn h100 ?_
            rw [decide_eq_false h100]
            exact Ev.now _
    have := iWaves (a := a) (b := b) (s := s) hw hfin
    have e2 : fleetB w a b s = (if wavesB w = true then (statesB s && decide (w.getD (w.length - 1) 0 = 100) && decide ((s.length : Int) - many s 0 ≤ shareZ w a s)) else false) := by
      unfold fleetB
      rw [hz]
      cases wavesB w <;> simp [Bool.and_assoc]
    rw [e2]
    exact this
theorem sWaves_ev (w : List Int) (hw : w.length ≤ 35184372088832) : Ev (fun k => spec_l21Waves.f k w) (decide (1 ≤ w.length) && decide (w.length ≤ 10) && decide (w.getD (w.length - 1) 0 = 100) && wavesB w) := by
  unfold spec_l21Waves.f
  by_cases h1 : 1 ≤ w.length
  · refine Ev.ifn (by omega) ?_
    by_cases h2 : w.length ≤ 10
    · refine Ev.ifn (by omega) ?_
      rw [sl1_ev 0 w.length (by omega) (by omega)]
      refine Ev.ifp (by omega) (Ev.ifp (by omega) ?_)
      rw [rd_get]
      by_cases h100 : w.getD (w.length - 1) 0 = 100
      · have e : (w.getD (w.length - 1) 0 != 100) = false := by rw [h100]; rfl
        rw [e, decide_eq_true h1, decide_eq_true h2, decide_eq_true h100]
        refine Ev.step (f := fun k => spec_l21Waves.l0 k w 0) (fun k => by simp only [spec_l21Waves.j0]; rfl) ?_
        simpa using sWaves hw
      · have e : (w.getD (w.length - 1) 0 != 100) = true := by rw [bne_iff_ne]; exact h100
        rw [e, decide_eq_false h100]
        refine Ev.now' fun k => ?_
        simp only [spec_l21Waves.j0]
        simp
    · refine Ev.ifp (by omega) ?_
      rw [decide_eq_false h2]
      refine Ev.now' fun k => ?_
      simp only [spec_l21Waves.j0]
      simp
  · refine Ev.ifp (by omega) ?_
    rw [decide_eq_false h1]
    refine Ev.now' fun k => ?_
    simp only [spec_l21Waves.j0]
    simp
theorem sStates {w : List Int} {a b : Int} {s : List Int} {r : Bool} (h : s.length ≤ 35184372088832)
    (hr : Ev (fun k => spec_FleetRight.l0 k (s.length : Int) w a b s) r) : Ev (fun k => spec_FleetRight.l0 k 0 w a b s) (if statesB s = true then r else false) := by
  have h0 := ev_all (fun k i => spec_FleetRight.l0 k i w a b s) s.length (fun i => decide (0 ≤ s.getD i 0) && decide (s.getD i 0 ≤ 3)) false r (fun i hi => ⟨fun hp q hq => Ev.step (fun k => by
      simp only [spec_FleetRight.l0]
      rw [if_pos (by omega), if_pos (by omega), rd_get, is_eq, hp, wsucc i (by omega)]
      rfl) hq, fun hp => Ev.now' fun k => by
      simp only [spec_FleetRight.l0]
      rw [if_pos (by omega), if_pos (by omega), rd_get, is_eq, hp]
      rfl⟩) hr
  exact h0
theorem sFleet_ev (w : List Int) (a b : Int) (s : List Int) (hw : w.length ≤ 35184372088832) (hs : s.length ≤ 35184372088832) : Ev (fun k => spec_FleetRight.f k w a b s) (fleetB w a b s) := by
  have hno : Ev (fun k => spec_FleetRight.j0 k true w a b s) false := Ev.now' fun k => by simp only [spec_FleetRight.j0]; rfl
  unfold spec_FleetRight.f
  by_cases h1 : 1 ≤ s.length
  case neg =>
    refine Ev.ifp (by omega) ?_
    have : fleetB w a b s = false := by simp [fleetB, sizesB, h1]
    rw [this]; exact hno
  refine Ev.ifn (by omega) ?_
  by_cases h2 : s.length ≤ 12
  case neg =>
    refine Ev.ifp (by omega) ?_
    have : fleetB w a b s = false := by simp [fleetB, sizesB, h2]
    rw [this]; exact hno
  refine Ev.ifn (by omega) (Ev.bind (sWaves_ev w hw) ?_)
  cases hwv : (decide (1 ≤ w.length) && decide (w.length ≤ 10) && decide (w.getD (w.length - 1) 0 = 100) && wavesB w) with
  | false =>
    refine Ev.ifn (by simp) ?_
    have : fleetB w a b s = false := by
      unfold fleetB sizesB
      simp only [Bool.and_eq_false_iff] at hwv ⊢
      rcases hwv with ((h | h) | h) | h
      · exact .inl (.inl (.inl (.inl (.inl (.inl (.inr (.inl h)))))))
      · exact .inl (.inl (.inl (.inl (.inl (.inl (.inr (.inr h)))))))
      · exact .inl (.inr h)
      · exact .inl (.inl (.inl (.inr h)))
    rw [this]; exact hno
  | true =>
    simp only [Bool.and_eq_true, decide_eq_true_eq] at hwv
    obtain ⟨⟨⟨w1, w2⟩, w3⟩, w4⟩ := hwv
    refine Ev.ifp rfl ?_
    rw [sl1_ev 0 w.length (by omega) (by omega), is_eq]
    refine Ev.bind (Ev.now _) ?_
    by_cases ha : 0 ≤ a ∧ a ≤ ((w.length - 1 : Nat) : Int)
    case neg =>
      have e : (decide (0 ≤ a) && decide (a ≤ ((w.length - 1 : Nat) : Int))) = false := by rw [Bool.eq_false_iff, Ne, Bool.and_eq_true, decide_eq_true_eq, decide_eq_true_eq]; exact ha
      rw [e]
      refine Ev.ifn (by simp) ?_
      have : fleetB w a b s = false := by
        unfold fleetB sizesB
        have e2 : (decide (0 ≤ a) && decide (a ≤ (w.length : Int) - 1)) = false := by rw [Bool.eq_false_iff, Ne, Bool.and_eq_true, decide_eq_true_eq, decide_eq_true_eq]; omega
        rw [e2]
        simp
      rw [this]; exact hno
    have e : (decide (0 ≤ a) && decide (a ≤ ((w.length - 1 : Nat) : Int))) = true := by rw [Bool.and_eq_true, decide_eq_true_eq, decide_eq_true_eq]; exact ha
    rw [e]
    refine Ev.ifp rfl ?_
    rw [is_eq]
    refine Ev.bind (Ev.now _) ?_
    have e2 : (decide (0 ≤ a) && decide (a ≤ (w.length : Int) - 1)) = true := by rw [Bool.and_eq_true, decide_eq_true_eq, decide_eq_true_eq]; omega
    have esz : sizesB w a b s = (decide (0 ≤ b) && decide (b ≤ 12)) := by
      unfold sizesB
      rw [e2, decide_eq_true h1, decide_eq_true h2, decide_eq_true w1, decide_eq_true w2]
      simp
    cases hb : (decide (0 ≤ b) && decide (b ≤ 12)) with
    | false =>
      have : fleetB w a b s = false := by unfold fleetB; rw [esz, hb]; simp
      rw [this]; exact hno
    | true =>
      refine Ev.step (f := fun k => spec_FleetRight.l0 k 0 w a b s) (fun k => by simp only [spec_FleetRight.j0]; rfl) ?_
      have hfin : Ev (fun k => spec_FleetRight.l0 k (s.length : Int) w a b s) (decide ((s.length : Int) - many s 0 ≤ shareZ w a s)) := by
        refine Ev.step (f := fun k => (spec_l21Many.f k w a b s 0).bind fun t610 => some (decide ((wrap64 ((s.length : Int) - t610)) ≤ shareZ w a s))) (fun k => ?_) (Ev.bind (sMany_ev w a b s 0 hs) ?_)
        · simp only [spec_FleetRight.l0]
          rw [if_neg (by omega), sShare w a b s ha.1 (by omega)]
          rfl
        · have := many_le s 0
          rw [w64 (by omega) (by omega)]
          exact Ev.now _
      have h5 := sStates hs hfin
      have e5 : fleetB w a b s = (if statesB s = true then decide ((s.length : Int) - many s 0 ≤ shareZ w a s) else false) := by
        unfold fleetB
        rw [esz, hb, w4, decide_eq_true w3]
        cases statesB s <;> simp
      rw [e5]
      exact h5
end Go.Proofs.Ythoibokhmkjkdaa.Pure

namespace Go.Proofs.Ythoibokhmkjkdaa.Pure
open Go Go.RowKit Go.Proofs.YthoibokhmkjkdaaW.PrintWords Go.Proofs.YthoibokhmkjkdaaW.PrintLast Go.Proofs.Ythoibokhmkjkdaa.P
theorem clone_eq (l : List Int) (h : l.length ≤ 35184372088) : slices_Clone_int64_int64.f l = some l := by
  unfold slices_Clone_int64_int64.f
  simp only [Option.bind_some, List.nil_append, List.length_nil, Nat.zero_add]
  rw [if_pos (by omega)]
theorem cloneFleet_eq (w : List Int) (a b : Int) (s : List Int) (hw : w.length ≤ 35184372088) (hs : s.length ≤ 35184372088) : impl_cloneFleet.f w a b s = some (w, a, b, s) := by
  unfold impl_cloneFleet.f
  rw [clone_eq w hw, clone_eq s hs]
  rfl
theorem copyFleet_eq (w : List Int) (a b : Int) (s : List Int) (hw : w.length ≤ 35184372088) (hs : s.length ≤ 35184372088) : spec_l21Copy.f w a b s = some (w, a, b, s) := by
  unfold spec_l21Copy.f
  simp only [Option.bind_some, List.nil_append, List.length_nil, Nat.zero_add]
  rw [if_pos (by omega), if_pos (by omega)]
def Zf (c : Int) : FO := ([], 0, 0, [], [], c)
theorem Zf_small (c : Int) : Small (Zf c) := ⟨by simp [Zf], by simp [Zf], by simp [Zf]⟩
theorem fleetB_sizes {w : List Int} {a b : Int} {s : List Int} (h : fleetB w a b s = true) : 1 ≤ s.length ∧ s.length ≤ 12 ∧ 1 ≤ w.length ∧ w.length ≤ 10 ∧ 0 ≤ a ∧ a ≤ (w.length : Int) - 1 ∧ 0 ≤ b ∧ b ≤ 12 :=
  sizesB_parts (by simp only [fleetB, Bool.and_eq_true] at h; exact h.1.1.1.1)
end Go.Proofs.Ythoibokhmkjkdaa.Pure

namespace Go.Proofs.Ythoibokhmkjkdaa.Pure
open Go Go.RowKit Go.Proofs.YthoibokhmkjkdaaW.PrintWords Go.Proofs.YthoibokhmkjkdaaW.PrintLast Go.Proofs.Ythoibokhmkjkdaa.P
def nextOf (w : List Int) (a b : Int) (s : List Int) : FO :=
  if fleetB w a b s = true then
    (if (many s 3 : Int) > b ∨ 0 < many s 1 ∨ (s.length : Int) - many s 0 < shareZ w a s then Zf 10 else if a = (w.length : Int) - 1 then Zf 8 else (w, a + 1, b, s, [], 0))
  else Zf 1
theorem nextOf_small (w : List Int) (a b : Int) (s : List Int) (hw : w.length ≤ 35184372088832) (hs : s.length ≤ 35184372088832) : Small (nextOf w a b s) := by
  unfold nextOf
  split
  · split
    · exact Zf_small _
    · split
      · exact Zf_small _
      · exact ⟨hw, hs, by simp⟩
  · exact Zf_small _
theorem contains_ev (s : List Int) (x : Int) (h : s.length ≤ 35184372088832) : Ev (fun k => slices_Contains_int64_int64.f k s x) (decide (0 < many s x)) := by
  have h0 := ev_index (fun k i => slices_Index_int64_int64.l0 k s x (s.length : Int) i) s.length (fun i => decide (x = s.getD i 0)) (fun i hi => ⟨fun hp q hq => Ev.step (fun k => by
      simp only [slices_Index_int64_int64.l0]
      rw [if_pos (by omega), if_pos (by omega), if_pos (by omega), rd_get, if_neg (by simpa using hp), wsucc i (by omega)]) hq, fun hp => Ev.now' fun k => by
      simp only [slices_Index_int64_int64.l0]
      rw [if_pos (by omega), if_pos (by omega), if_pos (by omega), rd_get, if_pos (by simpa using hp)]⟩) (Ev.now' fun k => by simp only [slices_Index_int64_int64.l0]; rw [if_neg (by omega)])
  unfold slices_Contains_int64_int64.f
  refine Ev.bind (Ev.congr (fun k => by unfold slices_Index_int64_int64.f; rfl) h0) ?_
  rw [firstFrom_any0]
  have e : (List.range s.length).any (fun i => decide (x = s.getD i 0)) = decide (0 < many s x) := by
    rw [Bool.eq_iff_iff, List.any_eq_true, decide_eq_true_eq]
    unfold many
    rw [List.countP_pos_iff]
    constructor
    · rintro ⟨i, hi, hx⟩
      have hi' := List.mem_range.1 hi
      refine ⟨s[i], List.getElem_mem hi', ?_⟩
      simp [List.getD_eq_getElem?_getD, hi'] at hx
      simp [hx]
    · rintro ⟨y, hy, hx⟩
      obtain ⟨i, hi, rfl⟩ := List.getElem_of_mem hy
      refine ⟨i, List.mem_range.2 hi, ?_⟩
      simp at hx
      simp [List.getD_eq_getElem?_getD, hi, hx]
  rw [e]
  exact Ev.now _
section
variable (w : List Int) (a b : Int) (s : List Int) (hw : w.length ≤ 35184372088832) (hs : s.length ≤ 35184372088832)
include hw hs
theorem iNext_ev : Ev (fun k => impl_FleetNext.f k w a b s) (nextOf w a b s) := by
  unfold impl_FleetNext.f nextOf
  refine Ev.bind (iFleet_ev w a b s hw hs) ?_
  cases hf : fleetB w a b s with
  | false => exact Ev.ifn (by simp) (Ev.now _)
  | true =>
    obtain ⟨z1, z2, z3, z4, z5, z6, z7, z8⟩ := fleetB_sizes hf
    refine Ev.ifp rfl ?_
    simp only [if_true]
    have hh : Ev (fun k => impl_Fleet_halted.f k w a b s) (decide ((many s 3 : Int) > b)) := by unfold impl_Fleet_halted.f; exact Ev.bind (count_ev w a b s 3 hs) (Ev.now _)
    have hj : ∀ x : Bool, x = decide ((many s 3 : Int) > b ∨ 0 < many s 1 ∨ (s.length : Int) - many s 0 < shareZ w a s) → Ev (fun k => impl_FleetNext.j0 k x w a b s) (if (many s 3 : Int) > b ∨ 0 < many s 1 ∨ (s.length : Int) - many s 0 < shareZ w a s then Zf 10 else if a = (w.length : Int) - 1 then Zf 8 else (w, a + 1, b, s, [], 0)) := by
      rintro x rfl
      by_cases hc : (many s 3 : Int) > b ∨ 0 < many s 1 ∨ (s.length : Int) - many s 0 < shareZ w a s
      · rw [decide_eq_true hc, if_pos hc]
        exact Ev.now' fun k => by simp only [impl_FleetNext.j0]; rfl
      · rw [decide_eq_false hc, if_neg hc]
        refine Ev.now' fun k => ?_
        simp only [impl_FleetNext.j0, impl_size_int64.f, Option.bind_some]
        rw [if_neg (by simp), w64 (n := (w.length : Int) - 1) (by omega) (by omega)]
        by_cases ha : a = (w.length : Int) - 1
        · rw [if_pos ha, if_pos ha]; rfl
        · rw [if_neg ha, if_neg ha, cloneFleet_eq w a b s (by omega) (by omega)]
          simp only [Option.bind_some]
          rw [w64 (by omega) (by omega)]
    refine Ev.bind hh ?_
    by_cases h3 : (many s 3 : Int) > b
    · exact Ev.ifp (by simpa using h3) (hj true (decide_eq_true (Or.inl h3)).symm)
    refine Ev.ifn (by simpa using h3) (Ev.bind (contains_ev s 1 hs) ?_)
    by_cases h1 : 0 < many s 1
    · exact Ev.ifp (by simpa using h1) (hj true (decide_eq_true (Or.inr (Or.inl h1))).symm)
    refine Ev.ifn (by simpa using h1) (Ev.bind (left_ev w a b s hs) (Ev.bind (a := shareZ w a s) (Ev.all fun k => iShare w a b s z5 (by omega)) ?_))
    exact hj _ (decide_eq_decide.2 ⟨fun h => Or.inr (Or.inr h), fun h => by rcases h with h | h | h; exact absurd h h3; exact absurd h h1; exact h⟩)
theorem sNext_ev : Ev (fun k => spec_FleetNext.f k w a b s) (nextOf w a b s) := by
  unfold spec_FleetNext.f nextOf
  refine Ev.bind (sFleet_ev w a b s hw hs) ?_
  cases hf : fleetB w a b s with
  | false => exact Ev.ifn (by simp) (Ev.now _)
  | true =>
    obtain ⟨z1, z2, z3, z4, z5, z6, z7, z8⟩ := fleetB_sizes hf
    refine Ev.ifp rfl ?_
    simp only [if_true]
    have hh : Ev (fun k => spec_Halted.f k w a b s) (decide ((many s 3 : Int) > b)) := by
      unfold spec_Halted.f
      refine Ev.bind (sFleet_ev w a b s hw hs) ?_
      rw [hf]
      exact Ev.ifp rfl (Ev.bind (sMany_ev w a b s 3 hs) (Ev.now _))
    have hj : ∀ x : Bool, x = decide ((many s 3 : Int) > b ∨ 0 < many s 1 ∨ (s.length : Int) - many s 0 < shareZ w a s) → Ev (fun k => spec_FleetNext.j0 k x w a b s) (if (many s 3 : Int) > b ∨ 0 < many s 1 ∨ (s.length : Int) - many s 0 < shareZ w a s then Zf 10 else if a = (w.length : Int) - 1 then Zf 8 else (w, a + 1, b, s, [], 0)) := by
      rintro x rfl
      by_cases hc : (many s 3 : Int) > b ∨ 0 < many s 1 ∨ (s.length : Int) - many s 0 < shareZ w a s
      · rw [decide_eq_true hc, if_pos hc]
        exact Ev.now' fun k => by simp only [spec_FleetNext.j0]; rfl
      · rw [decide_eq_false hc, if_neg hc]
        refine Ev.now' fun k => ?_
        simp only [spec_FleetNext.j0]
        rw [if_neg (by simp), w64 (n := (w.length : Int) - 1) (by omega) (by omega)]
        by_cases ha : a = (w.length : Int) - 1
        · rw [if_pos ha, if_pos ha]; rfl
        · rw [if_neg ha, if_neg ha, copyFleet_eq w a b s (by omega) (by omega)]
          simp only [Option.bind_some]
          rw [w64 (by omega) (by omega)]
    refine Ev.bind hh ?_
    by_cases h3 : (many s 3 : Int) > b
    · exact Ev.ifp (by simpa using h3) (hj true (decide_eq_true (Or.inl h3)).symm)
    refine Ev.ifn (by simpa using h3) (Ev.bind (sMany_ev w a b s 1 hs) ?_)
    by_cases h1 : 0 < many s 1
    · exact Ev.ifp (by omega) (hj true (decide_eq_true (Or.inr (Or.inl h1))).symm)
    refine Ev.ifn (by omega) (Ev.bind (sMany_ev w a b s 0 hs) (Ev.bind (a := shareZ w a s) (Ev.all fun k => sShare w a b s z5 (by omega)) ?_))
    have := many_le s 0
    rw [w64 (n := (s.length : Int) - (many s 0 : Int)) (by omega) (by omega)]
    exact hj _ (decide_eq_decide.2 ⟨fun h => Or.inr (Or.inr h), fun h => by rcases h with h | h | h; exact absurd h h3; exact absurd h h1; exact h⟩)
end
theorem FnExactFleetNext : laws_FnExactFleetNext.Pure := by
  intro w a b s hm1 hy1 _ _ _ hm2 hy2 _
  refine Ev.rounds ?_
  unfold laws_FnExactFleetNext.f
  obtain ⟨z, hz⟩ := szFleet_some w a b s 1048576
  simp only [hz, Option.bind_some]
  have hw : w.length ≤ 35184372088832 := by omega
  have hs : s.length ≤ 35184372088832 := by omega
  by_cases hneg : z < 0
  · exact Ev.ifp hneg (Ev.now _)
  have hsm := nextOf_small w a b s hw hs
  have hi := iNext_ev w a b s hw hs
  have hsp := sNext_ev w a b s hw hs
  generalize nextOf w a b s = o at hsm hi hsp
  obtain ⟨w', x, y, s', t, c⟩ := o
  obtain ⟨z1, z2, z3⟩ := hsm
  have hto := toFleet_ev w a b s hw hs
  have heq := eqOut_ev w' x y s' t c z1 z2 z3
  have hself := eqFleet_ev w a b s hw hs
  have hheld := heldOut_ev w' x y s' t c z1 z2 z3
  refine Ev.ifn hneg (Ev.bind hto (Ev.bind hsp (Ev.bind hto (Ev.bind hi (Ev.bind heq (Ev.ifp rfl (Ev.bind hto (Ev.bind hself (Ev.ifp rfl (Ev.bind (markFleet_ev w a b s hw hs) (Ev.ifn (by simp only; omega) (Ev.bind heq ?_))))))))))))
  refine Ev.step (fun k => by simp only [laws_FnExactFleetNext.j0]; rw [if_neg (by simp)]) ?_
  exact Ev.bind (markOut_ev w' x y s' t c z1 z2 z3) (Ev.bind hheld (Ev.ifn (by omega) (Ev.ifp rfl (Ev.bind hto (Ev.bind hi (Ev.bind heq (Ev.ifp rfl (Ev.bind hheld (Ev.ifn (by omega) (Ev.ifp rfl (Ev.now _)))))))))))
end Go.Proofs.Ythoibokhmkjkdaa.Pure

namespace Go.Proofs.Ythoibokhmkjkdaa.fnExactFleetNext
open Go.ChangeShapes Go.WideShapes Go.ChangeAt Go.RowKit Go.Proofs.YthoibokhmkjkdaaO Go.Proofs.YthoibokhmkjkdaaW.PrintWords Go.Proofs.Ythoibokhmkjkdaa.P
open Go.ChangeMaps (open_string shut_string)
set_option linter.unusedVariables false
theorem own : ownKnob Try.prog.godebug = none := by kernel_rfl
theorem laidOut : laidOutB Try.prog = true := by kernel_rfl
theorem o2 : Opens Try.prog 2 (Kd.int .i64) (fun n => (Lit.int .i64 n).wf = true) := opens_int Try.underlying2 (by kernel_rfl : Try.prog.cellsOf 2 = 1)
theorem o22 : Opens Try.prog 22 (Kd.slice 2 (Kd.int .i64)) (fun l => (l.length ≤ maxLen ∧ l.length * 8 ≤ 140737488351232 ∧ ∀ a ∈ l, ok2 a)) := opens_slice Try.underlying22 (by kernel_rfl : Try.prog.cellsOf 22 = 1) (o2 : Opens Try.prog 2 _ ok2) (by kernel_rfl : Try.prog.bytesOf 2 = 8)
theorem q24 : Opens Try.prog 24 (Kd.iso (Kd.pair (Kd.slice 2 (Kd.int .i64)) (Kd.pair (Kd.int .i64) (Kd.pair (Kd.int .i64) (Kd.slice 2 (Kd.int .i64))))) (fun x => x)) (fun x => ((x.1.length ≤ maxLen ∧ x.1.length * 8 ≤ 140737488351232 ∧ ∀ a ∈ x.1, ok2 a) ∧ (Lit.int .i64 x.2.1).wf = true ∧ (Lit.int .i64 x.2.2.1).wf = true ∧ (x.2.2.2.length ≤ maxLen ∧ x.2.2.2.length * 8 ≤ 140737488351232 ∧ ∀ a ∈ x.2.2.2, ok2 a))) := opens_struct (l := [(22, 0), (2, 1), (2, 2), (22, 3)]) (d := (Kd.pair (Kd.slice 2 (Kd.int .i64)) (Kd.pair (Kd.int .i64) (Kd.pair (Kd.int .i64) (Kd.slice 2 (Kd.int .i64)))))) (ok := fun x => ((x.1.length ≤ maxLen ∧ x.1.length * 8 ≤ 140737488351232 ∧ ∀ a ∈ x.1, ok2 a) ∧ (Lit.int .i64 x.2.1).wf = true ∧ (Lit.int .i64 x.2.2.1).wf = true ∧ (x.2.2.2.length ≤ maxLen ∧ x.2.2.2.length * 8 ≤ 140737488351232 ∧ ∀ a ∈ x.2.2.2, ok2 a))) (f := fun x => x) (fun x => x) (fun _ => rfl) Try.underlying24 (by kernel_rfl : Try.prog.cellsOf 24 = 4) rfl (opensL_cons rfl o22 (opensL_cons rfl o2 (opensL_cons rfl o2 (opensL_one o22))))
set_option maxRecDepth 100000 in
theorem lifted (os : Os) (started : os.Started) (H : Type) (enc : TypeId × Value → H) :
    ReturnsInHanded {} Try.checked os 10 .any (Rows.fnExactFleetNextSpec.pre6 enc Try.prog Try.f10 Rows.fnExactFleetNextRow.domain false) (Rows.fnExactFleetNextSpec.post enc Try.prog Try.f10 false true false false) := by
  refine returnsInHanded_of_change_sized (C := Try.checked) own started (by kernel_rfl) Try.func10
    (ChangeSpec.witness6 (enc := enc) (C := Try.checked) false ⟨#[], #[.agg #[.slice none 0 0, .int .i64 0, .int .i64 0, .slice none 0 0]], []⟩ 8 (by kernel_rfl) (by kernel_rfl) (by kernel_rfl) (by kernel_rfl)) ?_
  intro W base args ds gs before hval0 hW hcnd hsz0 _
  have hsz : (DataW.weightsEach Try.prog (Try.f10.params.toList ++ Rows.fnExactFleetNextSpec.plain.varTypes Try.prog) (ds ++ gs)).all (· ≤ reachBytes) = true := hsz0
  have hval : ∀ (j : Nat) t v, Try.f10.params[j]? = some t → args[j]? = some v → Value.okWide Try.prog W .any base t v := hval0
  have hW' := hW
  obtain ⟨p, q, hA0, hV, rfl, hfz, hnd⟩ := hW
  have hA : DataW.TrodAll enc Try.prog W 0 (fun _ => true) true Try.f10.params.toList args.toList ds p := hA0
  rw [Try.params10] at hA hval hsz
  obtain ⟨v0, vs0, d0, ds0, p0, q0, hargs, rfl, rfl, h0, r0⟩ := trodAll_cons hA
  obtain ⟨rfl, rfl, rfl⟩ := trodAll_nil r0
  obtain rfl : args = #[v0] := by cases args; simp_all
  obtain ⟨rfl, rfl⟩ := trodVars_none hV
  have lt0 := trod_lt_all h0
  have k0 := h0
  have z0 := weights_arg hsz (j := 0) (t := 24) rfl rfl
  obtain ⟨x0, cs0, rfl, hk0, ok0_⟩ := arg_struct Try.underlying24 (hval 0 24 v0 rfl rfl) h0 z0 q24
  generalize hc0 : cs0.toList = ct0 at hk0
  obtain ⟨_, _, rfl, ⟨A0_, c0_, rfl, l0_, g0_⟩, ⟨_, _, rfl, rfl, ⟨_, _, rfl, rfl, ⟨A1_, c1_, rfl, l1_, g1_⟩⟩⟩⟩ := hk0
  obtain rfl : cs0 = #[.slice A0_ x0.1.length c0_, .int .i64 x0.2.1, .int .i64 x0.2.2.1, .slice A1_ x0.2.2.2.length c1_] := Array.ext' hc0
  clear hA0 hval0 hsz0 hsz
  obtain ⟨k, h⟩ := Pure.FnExactFleetNext x0.1 x0.2.1 x0.2.2.1 x0.2.2.2 ok0_.1.1 ok0_.1.2.1 ok0_.1.2.2 ok0_.2.1 ok0_.2.2.1 ok0_.2.2.2.1 ok0_.2.2.2.2.1 ok0_.2.2.2.2.2
  refine (laws_FnExactFleetNext.calls k _ _ x0.1 x0.2.1 x0.2.2.1 _ _ x0.2.2.2 true W g0_ l0_ g1_ l1_ h).mono fun e W' ⟨he, bel0⟩ => ?_
  have bel : Below W.heap.size W W' := bel0
  subst he
  exact ⟨_, rfl, _, _, _, [], _, [], hW', trodAll_mk1 (shut_bool Try.underlying4 _), (trodAll_cons_mk (Below.trod laidOut (by kernel_rfl) (of_decide_eq_true (by kernel_rfl)) k0 bel lt0) trodAll_mk0), rfl, bel.frame _, fun h => by cases h⟩
theorem over : Rows.fnExactFleetNextRow.holds Try.pinned (OpenSpec.ofChange Rows.fnExactFleetNextSpec) :=
  OpenClaim.holds_of_wide 10 Try.f10 rfl rfl rfl rfl rfl rfl rfl ⟨rfl, rfl, rfl, rfl, rfl⟩ rfl rfl rfl rfl rfl (by kernel_rfl) Try.func10 (by kernel_rfl)
    (of_decide_eq_true (by kernel_rfl)) (by unfold Func.isWrapper; first | (rw [if_pos (by decide +kernel)]; kernel_rfl) | (rw [if_neg (by decide +kernel)]; exact ⟨rfl, rfl⟩))
    (fun os started H enc _ => lifted os started H enc)
theorem proved : Rows.FnExactFleetNextSaid := over
#print axioms proved
end Go.Proofs.Ythoibokhmkjkdaa.fnExactFleetNext
namespace Go.Proofs.Ythoibokhmkjkdaa
/-- The row, under a short name, for the claim. -/
theorem fnExactFleetNext_holds : Rows.FnExactFleetNextSaid := fnExactFleetNext.proved
end Go.Proofs.Ythoibokhmkjkdaa
