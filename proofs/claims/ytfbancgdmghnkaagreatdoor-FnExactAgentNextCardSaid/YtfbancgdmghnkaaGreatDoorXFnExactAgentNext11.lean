/- What the law FnExactAgentNext needs, part 12 of 13: the Lean functions of the Go functions that it reaches, with the proofs that the calls come to what they say, and plain facts about them. Conditions: those that each theorem states. Written by a session and by its programs (after the kit's printer). -/
import Derived.Test.YtfbancgdmghnkaaGreatDoorXFnExactAgentNext9
import Derived.Test.YtfbancgdmghnkaaGreatDoorXFnExactAgentNext10
namespace Go.Proofs.YtfbancgdmghnkaaGreatDoorE
open Go
set_option linter.unusedVariables false
def Zid (v : Nat) (n : Nat) : List Nat := (List.range n).filter fun i => v.testBit i
def Zo (v : Nat) : List Int := (Zid v 24).map fun n => ((n : Nat) : Int)
theorem Zlx (v n : Nat) : Zid v (n + 1) = if v.testBit n = true then Zid v n ++ [n] else Zid v n := by
 unfold Zid
 rw [List.range_succ, List.filter_append]
 by_cases h : v.testBit n = true
 ·rw [if_pos h, List.filter_cons_of_pos h]; rfl
 ·rw [if_neg h, List.filter_cons_of_neg h]; simp
theorem Zsy (v n : Nat) : (Zid v n).length ≤ n := by
 unfold Zid
 refine Nat.le_trans (List.length_filter_le _ _) ?_
 simp
theorem Zk0 {v n x : Nat} (h : x ∈ Zid v n) : x < n ∧ v.testBit x = true := by
 unfold Zid at h
 rw [List.mem_filter, List.mem_range] at h
 exact h
theorem Zok (v : Nat) : (Zo v).length ≤ 24 := by
 unfold Zo
 rw [List.length_map]
 exact Zsy v 24
theorem Zq9 (a : Nat) (ha : a < 9223372036854775808) : intBits .and .i64 (a : Int) 1 = ((a % 2 : Nat) : Int) := by
 unfold intBits
 simp only [IntKind.bits]
 have h1 : (BitVec.ofInt 64 (a : Int) &&& BitVec.ofInt 64 1).toNat = a % 2 := by
  rw [BitVec.toNat_and, BitVec.toNat_ofInt, BitVec.toNat_ofInt]
  have : ((a : Int) % ((2 ^ 64 : Nat) : Int)).toNat = a := by omega
  rw [this]
  show a &&& 1 = a % 2
  rw [Nat.and_one_is_mod]
 show IntKind.wrap .i64 (((BitVec.ofInt 64 (a : Int) &&& BitVec.ofInt 64 1).toNat : Nat) : Int) = _
 rw [h1]
 exact w64 (by omega) (by omega)
theorem Zl1 (v i : Nat) (hv : v < 16777216) (hi : i < 24) : (intBits .and .i64 (shr .i64 (v : Int) (i : Int)) 1 == 1) = v.testBit i := by
 rw [Z4i .i64 _ i (by show i ≤ 64; omega), Zq9 _ (Nat.lt_of_le_of_lt (Nat.div_le_self _ _) (by omega)), Nat.testBit_eq_decide_div_mod_eq]
 rw [Bool.eq_iff_iff, beq_iff_eq, decide_eq_true_iff]
 omega
theorem Z64 (v : Nat) (hv : v < 16777216) : ∀ k, 24 < k → Zgc k (v : Int) = some (Zo v) := by
 intro k hk
 have h := Zod (fun j i => Zgc.l0 j (v : Int) (i : Int) ((Zid v i).map fun n => ((n : Nat) : Int))) 24 (Zo v) (fun i hi j => ?_) (fun j => ?_) k hk
 ·have h : Zgc.l0 k (v : Int) 0 [] = some (Zo v) := h
  unfold Zgc
  rw [h]
  rfl
 ·have hl := Zsy v i
  conv => lhs; unfold Zgc.l0
  rw [decide_eq_true (by omega : (i : Int) < 24), Zbb (by omega)]
  dsimp only
  rw [cond_true, Ztd (by omega), Zl1 v i hv hi, Zlx]
  simp only [Option.bind_some]
  cases hb : v.testBit i with
  | true => rw [Zfh (by simp; omega)]; simp
  | false => simp
 ·conv => lhs; unfold Zgc.l0
  rfl
theorem Z9db (v : Nat) (hv : v < 16777216) : ∀ k, 24 < k → Zqb k (v : Int) = some (Zo v) := by
 intro k hk
 have h := Zod (fun j i => Zqb.l0 j (v : Int) (i : Int) ((Zid v i).map fun n => ((n : Nat) : Int))) 24 (Zo v) (fun i hi j => ?_) (fun j => ?_) k hk
 ·have h : Zqb.l0 k (v : Int) 0 [] = some (Zo v) := h
  unfold Zqb
  rw [decide_eq_false (by omega : ¬ (v : Int) < 0), decide_eq_false (by omega : ¬ (16777216 : Int) ≤ (v : Int)), h]
  rfl
 ·have hl := Zsy v i
  conv => lhs; unfold Zqb.l0
  rw [decide_eq_true (by omega : (i : Int) < 24), Zbb (by omega)]
  dsimp only
  rw [cond_true, Ztd (by omega), Zl1 v i hv hi, Zlx]
  simp only [Option.bind_some]
  cases hb : v.testBit i with
  | true => rw [Zfh (by simp; omega)]; simp
  | false => simp
 ·conv => lhs; unfold Zqb.l0
  rfl
theorem Z3cb (v : Int) (h : v < 0 ∨ 16777216 ≤ v) (k : Nat) : Zqb k v = some [] := by
 unfold Zqb
 by_cases q : v < 0
 ·rw [decide_eq_true q]; rfl
 ·rw [decide_eq_false q, decide_eq_true (by omega : (16777216 : Int) ≤ v)]; rfl
theorem Z2x (v n : Nat) : (Zid v n).Pairwise (· < ·) := List.Pairwise.filter _ List.pairwise_lt_range
theorem Zgt {v i : Nat} (h : i < (Zo v).length) : 0 ≤ (Zo v)[i] ∧ (Zo v)[i] ≤ 23 := by
 have hm := List.getElem_mem h
 obtain ⟨x, hx, e⟩ := List.mem_map.1 hm
 have := (Zk0 hx).1
 omega
theorem Zo4 {v i : Nat} (h : i + 1 < (Zo v).length) : (Zo v)[i]'(by omega) < (Zo v)[i + 1] := by
 have hl : (Zo v).length = (Zid v 24).length := by unfold Zo; rw [List.length_map]
 have := List.pairwise_iff_getElem.1 (Z2x v 24) i (i + 1) (by omega) (by omega) (by omega)
 have e : ∀ q (hq : q < (Zo v).length), (Zo v)[q] = (((Zid v 24)[q]'(by omega) : Nat) : Int) := fun q hq => by simp [Zo]
 rw [e, e]
 omega
theorem Zl2 (v : Nat) : ∀ k, 24 < k → Zhc k (Zo v) = some true := by
 intro k hk
 have hlen := Zok v
 have h := Zod (fun j i => Zhc.l0 j (Zo v) (Zo v) ((Zo v).length : Int) (i : Int)) (Zo v).length (.inl ()) (fun i hi j => ?_) (fun j => ?_) k (by omega)
 ·have h : Zhc.l0 k (Zo v) (Zo v) ((Zo v).length : Int) 0 = some (.inl ()) := h
  unfold Zhc
  rw [h]
  rfl
 ·obtain ⟨q1, q2⟩ := Zgt hi
  conv => lhs; unfold Zhc.l0
  rw [dlt hi, Zu hi, Zbb (by omega)]
  simp only [cond_true, Option.bind_some]
  unfold Zgb
  rw [decide_eq_true q1, decide_eq_true q2]
  simp only [Option.bind_some, Bool.and_self, Bool.not_true, cond_false]
  by_cases h0 : 0 < i
  ·obtain ⟨m, rfl⟩ : ∃ m, i = m + 1 := ⟨i - 1, by omega⟩
   have := Zo4 hi
   rw [decide_eq_true (by omega : (0 : Int) < ((m + 1 : Nat) : Int)), w64 (by omega) (by omega), show ((m + 1 : Nat) : Int) - 1 = (m : Int) by omega, Zu (by omega)]
   simp only [cond_true, Option.bind_some]
   rw [decide_eq_false (by omega)]
   rfl
  ·rw [decide_eq_false (by omega : ¬ (0 : Int) < (i : Int))]
   rfl
 ·conv => lhs; unfold Zhc.l0
  rw [Z2c (Nat.le_refl _)]
  rfl
theorem Zvz (v : Nat) : ∀ k, 24 < k → Zsb k (Zo v) = some true := by
 intro k hk
 have hlen := Zok v
 have h := Zod (fun j i => Zsb.l0 j (Zo v) (i : Int)) (Zo v).length (.inl ()) (fun i hi j => ?_) (fun j => ?_) k (by omega)
 ·have h : Zsb.l0 k (Zo v) 0 = some (.inl ()) := h
  unfold Zsb
  rw [decide_eq_false (by omega : ¬ (24 : Int) < ((Zo v).length : Int)), h]
  rfl
 ·obtain ⟨q1, q2⟩ := Zgt hi
  conv => lhs; unfold Zsb.l0
  rw [dlt hi, Zu hi, Zbb (by omega)]
  simp only [cond_true, Option.bind_some]
  unfold Znb
  rw [decide_eq_true q1, decide_eq_true q2]
  simp only [Option.bind_some, Bool.and_self, Bool.not_true, cond_false]
  by_cases h0 : 0 < i
  ·obtain ⟨m, rfl⟩ : ∃ m, i = m + 1 := ⟨i - 1, by omega⟩
   have := Zo4 hi
   rw [decide_eq_true (by omega : (0 : Int) < ((m + 1 : Nat) : Int)), w64 (by omega) (by omega), show ((m + 1 : Nat) : Int) - 1 = (m : Int) by omega, Zu (by omega)]
   simp only [cond_true, Option.bind_some]
   rw [decide_eq_false (by omega)]
   rfl
  ·rw [decide_eq_false (by omega : ¬ (0 : Int) < (i : Int))]
   rfl
 ·conv => lhs; unfold Zsb.l0
  rw [Z2c (Nat.le_refl _)]
  rfl
def Z9d : List Nat → Nat
 | [] => 0
 | x :: l => 2 ^ x + Z9d l
theorem Zgz (a b : List Nat) : Z9d (a ++ b) = Z9d a + Z9d b := by
 induction a with
 | nil => simp [Z9d]
 | cons x a ih => rw [List.cons_append, Z9d, Z9d, ih]; omega
theorem Z8r (v : Nat) : ∀ n, Z9d (Zid v n) = v % 2 ^ n
 | 0 => by simp [Zid, Z9d, Nat.mod_one]
 | n + 1 => by
  have h2 : v % 2 ^ (n + 1) = v % 2 ^ n + 2 ^ n * (v / 2 ^ n % 2) := by rw [Nat.pow_succ, Nat.mod_mul]
  rw [Zlx, h2]
  have ht : v.testBit n = decide (v / 2 ^ n % 2 = 1) := Nat.testBit_eq_decide_div_mod_eq
  by_cases hb : v.testBit n = true
  ·rw [if_pos hb, Zgz, Z8r v n]
   rw [ht] at hb
   rw [of_decide_eq_true hb]
   simp [Z9d]
  ·rw [if_neg hb, Z8r v n]
   rw [ht] at hb
   have : v / 2 ^ n % 2 ≠ 1 := fun q => hb (decide_eq_true q)
   have : v / 2 ^ n % 2 = 0 := by omega
   rw [this]
   omega
theorem Z29 {l : List Nat} {x : Nat} (hs : l.Pairwise (· < ·)) (h : ∀ y ∈ l, y < x) : Z9d l < 2 ^ x := by
 have : ∀ (l : List Nat) (x : Nat), l.reverse.Pairwise (· < ·) → (∀ y ∈ l, y < x) → Z9d l < 2 ^ x := by
  intro l
  induction l with
  | nil => intro x _ _; exact Nat.two_pow_pos x
  | cons a l ih =>
   intro x hs h
   rw [List.reverse_cons, List.pairwise_append] at hs
   have ha := h a List.mem_cons_self
   have h1 := ih a hs.1 fun y hy => hs.2.2 y (List.mem_reverse.2 hy) a List.mem_cons_self
   have h2 : 2 ^ (a + 1) ≤ 2 ^ x := Nat.pow_le_pow_right (by omega) ha
   rw [Nat.pow_succ] at h2
   rw [Z9d]
   omega
 have hr : ∀ l : List Nat, Z9d l.reverse = Z9d l := by
  intro l
  induction l with
  | nil => rfl
  | cons a l ih => rw [List.reverse_cons, Zgz, ih, Z9d, Z9d, Z9d]; omega
 rw [← hr]
 refine this _ x ?_ fun y hy => h y (List.mem_reverse.1 hy)
 rwa [List.reverse_reverse]
theorem Zh1 {x : Nat} (h : x < 24) : shl .i64 1 (x : Int) = ((2 ^ x : Nat) : Int) := by
 have hp : 2 ^ x ≤ 2 ^ 24 := Nat.pow_le_pow_right (by omega) (by omega)
 unfold shl
 rw [Int.toNat_natCast, Nat.min_eq_left (by show x ≤ 64; omega), Int.one_mul]
 have e : (2 : Int) ^ x = ((2 ^ x : Nat) : Int) := by rw [Int.natCast_pow]; rfl
 rw [e]
 have h24 : (2 : Nat) ^ 24 = 16777216 := by decide
 generalize (2 : Nat) ^ x = p at hp ⊢
 exact w64 (by omega) (by omega)
theorem ori (a b : Nat) (ha : a < 9223372036854775808) (hb : b < 9223372036854775808) : intBits .or .i64 (a : Int) (b : Int) = ((a ||| b : Nat) : Int) := by
 have h1 : (BitVec.ofInt 64 (a : Int) ||| BitVec.ofInt 64 (b : Int)).toNat = a ||| b := by
  rw [BitVec.toNat_or, BitVec.toNat_ofInt, BitVec.toNat_ofInt]
  have h1 : ((a : Int) % ((2 ^ 64 : Nat) : Int)).toNat = a := by omega
  have h2 : ((b : Int) % ((2 ^ 64 : Nat) : Int)).toNat = b := by omega
  rw [h1, h2]
 have hlt : a ||| b < 2 ^ 63 := Nat.or_lt_two_pow (by simpa using ha) (by simpa using hb)
 unfold intBits
 show IntKind.wrap .i64 (((BitVec.ofInt 64 (a : Int) ||| BitVec.ofInt 64 (b : Int)).toNat : Nat) : Int) = _
 rw [h1]
 exact w64 (by omega) (by simpa using (by exact_mod_cast hlt : ((a ||| b : Nat) : Int) < 2 ^ 63))
theorem Zl6 {l : List Nat} {i : Nat} (h : i < l.length) : Z9d (l.take (i + 1)) = Z9d (l.take i) + 2 ^ l[i] := by
 rw [Zkk h, Zgz, Z9d, Z9d, Nat.add_zero]
theorem Zyz {v i : Nat} (h : i < (Zid v 24).length) : Z9d ((Zid v 24).take i) < 2 ^ (Zid v 24)[i] := by
 refine Z29 ((Z2x v 24).sublist (List.take_sublist _ _)) fun y hy => ?_
 obtain ⟨j, hj, rfl⟩ := List.mem_iff_getElem.1 hy
 rw [List.length_take] at hj
 rw [List.getElem_take]
 exact List.pairwise_iff_getElem.1 (Z2x v 24) j i (by omega) h (by omega)
theorem Zf1 {v i : Nat} (h : i < (Zid v 24).length) : (Zo v)[i]'(by unfold Zo; rwa [List.length_map]) = (((Zid v 24)[i] : Nat) : Int) ∧ (Zid v 24)[i] < 24 ∧ 2 ^ (Zid v 24)[i] ≤ 8388608 := by
 have hx := (Zk0 (List.getElem_mem h)).1
 refine ⟨by simp [Zo], hx, ?_⟩
 have : 2 ^ (Zid v 24)[i] ≤ 2 ^ 23 := Nat.pow_le_pow_right (by omega) (by omega)
 simpa using this
theorem Z61 (v : Nat) (hv : v < 16777216) : ∀ k, 24 < k → Znc k (Zo v) = some (v : Int) := by
 intro k hk
 have hlen := Zok v
 have hl : (Zo v).length = (Zid v 24).length := by unfold Zo; rw [List.length_map]
 have h := Zod (fun j i => Znc.l0 j ((Z9d ((Zid v 24).take i) : Nat) : Int) (Zo v) ((Zo v).length : Int) (i : Int)) (Zo v).length (v : Int) (fun i hi j => ?_) (fun j => ?_) k (by omega)
 ·have h : Znc.l0 k 0 (Zo v) ((Zo v).length : Int) 0 = some (v : Int) := h
  unfold Znc
  rw [h]
  rfl
 ·have hi2 : i < (Zid v 24).length := by omega
  obtain ⟨e1, e2, e3⟩ := Zf1 hi2
  have hs := Zyz hi2
  conv => lhs; unfold Znc.l0
  rw [dlt hi, Zu hi, Zbb (by omega)]
  simp only [cond_true, Option.bind_some]
  rw [e1, Ztd (by omega), Zh1 e2, ori _ _ (by omega) (by omega), Zl6 hi2]
  simp only [Option.bind_some]
  have : Z9d ((Zid v 24).take i) ||| 2 ^ (Zid v 24)[i] = Z9d ((Zid v 24).take i) + 2 ^ (Zid v 24)[i] := by
   have := Nat.two_pow_add_eq_or_of_lt hs 1
   rw [Nat.mul_one] at this
   rw [Nat.or_comm, ← this, Nat.add_comm]
  rw [this]
 ·conv => lhs; unfold Znc.l0
  rw [Z2c (Nat.le_refl _), hl, List.take_length, Z8r, Nat.mod_eq_of_lt (by simpa using hv)]
  rfl
theorem Zm0 (v : Nat) (hv : v < 16777216) : ∀ k, 24 < k → Zqc k (Zo v) = some (v : Int) := by
 intro k hk
 have hlen := Zok v
 have hl : (Zo v).length = (Zid v 24).length := by unfold Zo; rw [List.length_map]
 have h := Zod (fun j i => Zqc.l0 j (Zo v) ((Z9d ((Zid v 24).take i) : Nat) : Int) (i : Int)) (Zo v).length (v : Int) (fun i hi j => ?_) (fun j => ?_) k (by omega)
 ·have h : Zqc.l0 k (Zo v) 0 0 = some (v : Int) := h
  unfold Zqc
  rw [Zvz v k hk]
  simp only [Option.bind_some, Bool.not_true, cond_false]
  rw [h]
  rfl
 ·have hi2 : i < (Zid v 24).length := by omega
  obtain ⟨e1, e2, e3⟩ := Zf1 hi2
  have hs := Zyz hi2
  conv => lhs; unfold Zqc.l0
  rw [dlt hi, Zu hi, Zbb (by omega)]
  simp only [cond_true, Option.bind_some]
  rw [e1, Ztd (by omega), Zh1 e2, Zl6 hi2]
  simp only [Option.bind_some]
  rw [w64 (by omega) (by omega), ← Int.natCast_add]
 ·conv => lhs; unfold Zqc.l0
  rw [Z2c (Nat.le_refl _), hl, List.take_length, Z8r, Nat.mod_eq_of_lt (by simpa using hv)]
  rfl
end Go.Proofs.YtfbancgdmghnkaaGreatDoorE
namespace Go.Proofs.YtfbancgdmghnkaaGreatDoorE
open Go
set_option linter.unusedVariables false
def Z9c (s : Str) (a : Nat) : Option (Int × Nat) := if (Zsd s a).2.2 = 0 then some ((Zsd s a).1, (Zsd s a).2.1.toNat) else none
def Zbi (s : Str) (a : Nat) : Option (Str × Nat) := if (Zei s a).2.2 = 0 then some ((Zei s a).1, (Zei s a).2.1.toNat) else none
theorem Zyj {s : Str} {a : Nat} {n : Int} {a' : Nat} (h : Z9c s a = some (n, a')) : Got s a n a' := by
 unfold Z9c at h
 rcases Zek s a with ⟨m, b, e, g⟩ | ⟨c, hc, e⟩
 ·rw [e] at h
  simp only [if_true, Int.toNat_natCast, Option.some.injEq, Prod.mk.injEq] at h
  obtain ⟨rfl, rfl⟩ := h
  exact g
 ·rw [e, if_neg hc] at h
  cases h
theorem Z73 {s : Str} {a : Nat} {t : Str} {a' : Nat} (h : Zbi s a = some (t, a')) : GotT s a t a' := by
 unfold Zbi at h
 rcases Z3l s a with ⟨m, b, e, g⟩ | ⟨c, hc, e⟩
 ·rw [e] at h
  simp only [if_true, Int.toNat_natCast, Option.some.injEq, Prod.mk.injEq] at h
  obtain ⟨rfl, rfl⟩ := h
  exact g
 ·rw [e, if_neg hc] at h
  cases h
def StS (s : Str) (st : Str × Int × Bool) (p : Option Nat) : Prop := st.1 = s ∧ ∃ a : Nat, st.2.1 = (a : Int) ∧ a ≤ 8000 ∧ match p with
 | some q => a = q ∧ st.2.2 = false
 | none => st.2.2 = true
def Zc (s : Str) (p : Option Nat) : Option Nat := match p with
 | some a => (Z9c s a).map (·.2)
 | none => none
def Z3c (s : Str) (p : Option Nat) : Option Nat := match p with
 | some a => (Zbi s a).map (·.2)
 | none => none
theorem Zh6 {s : Str} (hs : s.length ≤ 8000) (a : Nat) (ha : a ≤ 8000) : StS s (Zoc s a).2 (Zc s (some a)) ∧ ∀ n a', Z9c s a = some (n, a') → (Zoc s a).1 = n := by
 show StS s (Zoc s a).2 ((Z9c s a).map (·.2)) ∧ _
 rcases Zek s a with ⟨m, b, e, g⟩ | ⟨c, hc, e⟩
 ·have hb := g.le
  have hr : Zoc s a = (m, s, ((b : Nat) : Int), false) := by unfold Zoc; rw [e]; rfl
  have hn : Z9c s a = some (m, b) := by unfold Z9c; rw [e]; rfl
  rw [hr, hn]
  exact ⟨⟨rfl, b, rfl, by omega, rfl, rfl⟩, fun n a' h => by cases h; rfl⟩
 ·have hr : Zoc s a = (0, s, (a : Int), true) := by unfold Zoc; rw [e, if_neg hc]
  have hn : Z9c s a = none := by unfold Z9c; rw [e, if_neg hc]
  rw [hr, hn]
  exact ⟨⟨rfl, a, rfl, ha, rfl⟩, fun n a' h => by cases h⟩
theorem Zo3 {s : Str} (hs : s.length ≤ 8000) (a : Nat) (ha : a ≤ 8000) : StS s (Zqe s a).2 (Z3c s (some a)) ∧ ∀ n a', Zbi s a = some (n, a') → (Zqe s a).1 = n := by
 show StS s (Zqe s a).2 ((Zbi s a).map (·.2)) ∧ _
 rcases Z3l s a with ⟨m, b, e, g⟩ | ⟨c, hc, e⟩
 ·have hb := g.le
  have hr : Zqe s a = (m, s, ((b : Nat) : Int), false) := by unfold Zqe; rw [e]; rfl
  have hn : Zbi s a = some (m, b) := by unfold Zbi; rw [e]; rfl
  rw [hr, hn]
  exact ⟨⟨rfl, b, rfl, by omega, rfl, rfl⟩, fun n a' h => by cases h; rfl⟩
 ·have hr : Zqe s a = ([], s, (a : Int), true) := by unfold Zqe; rw [e, if_neg hc]
  have hn : Zbi s a = none := by unfold Zbi; rw [e, if_neg hc]
  rw [hr, hn]
  exact ⟨⟨rfl, a, rfl, ha, rfl⟩, fun n a' h => by cases h⟩
theorem StS.form {s : Str} {st : Str × Int × Bool} {p : Option Nat} (h : StS s st p) : (∃ a, p = some a ∧ a ≤ 8000 ∧ st = (s, ((a : Int), false))) ∨ ∃ a : Nat, p = none ∧ a ≤ 8000 ∧ st = (s, ((a : Int), true)) := by
 obtain ⟨x, y, z⟩ := st
 obtain ⟨rfl, a, h1, h2, h3⟩ := h
 have h1 : y = (a : Int) := h1
 subst h1
 cases p with
 | some q =>
  obtain ⟨h4, h5⟩ := h3
  have h5 : z = false := h5
  exact .inl ⟨q, rfl, by omega, by rw [h4, h5]⟩
 | none =>
  have h3 : z = true := h3
  exact .inr ⟨a, rfl, h2, by rw [h3]⟩
theorem Z6l {s : Str} (hs : s.length ≤ 8000) {st : Str × Int × Bool} {p : Option Nat} (h : StS s st p) : ∃ v, (Ze fun k => Z1c k st = some v) ∧ StS s v.2 (Zc s p) ∧ ∀ a n a', p = some a → Z9c s a = some (n, a') → v.1 = n := by
 rcases h.form with ⟨a, rfl, ha, rfl⟩ | ⟨a, rfl, ha, rfl⟩
 ·obtain ⟨h1, h2⟩ := Zh6 hs a ha
  exact ⟨_, Zao s a (by omega) hs, h1, fun a0 n a' e h => by cases e; exact h2 n a' h⟩
 ·exact ⟨_, Zsu s a (by omega) hs, ⟨rfl, a, rfl, ha, rfl⟩, fun a0 n a' e => by cases e⟩
theorem Zldb {s : Str} (hs : s.length ≤ 8000) {st : Str × Int × Bool} {p : Option Nat} (h : StS s st p) : ∃ v, (Ze fun k => Z5d k st = some v) ∧ StS s v.2 (Z3c s p) ∧ ∀ a n a', p = some a → Zbi s a = some (n, a') → v.1 = n := by
 rcases h.form with ⟨a, rfl, ha, rfl⟩ | ⟨a, rfl, ha, rfl⟩
 ·obtain ⟨h1, h2⟩ := Zo3 hs a ha
  exact ⟨_, Zv4 s a (by omega) hs, h1, fun a0 n a' e h => by cases e; exact h2 n a' h⟩
 ·exact ⟨_, Z1r s a (by omega) hs, ⟨rfl, a, rfl, ha, rfl⟩, fun a0 n a' e => by cases e⟩
theorem Znk {s : Str} (hs : s.length ≤ 8000) {st : Str × Int × Bool} {p : Option Nat} (h : StS s st p) : ∃ v, (Ze fun k => Z0c k st = some v) ∧ StS s v.2 (Zc s p) ∧ ∀ a n a', p = some a → Z9c s a = some (n, a') → v.1 = n := by
 rcases h.form with ⟨a, rfl, ha, rfl⟩ | ⟨a, rfl, ha, rfl⟩
 ·obtain ⟨h1, h2⟩ := Zh6 hs a ha
  exact ⟨_, Zbx s a (by omega) (by omega), h1, fun a0 n a' e h => by cases e; exact h2 n a' h⟩
 ·obtain ⟨n, a', h1, h2⟩ := Zmdb s a (by omega) (by omega)
  exact ⟨_, h1, ⟨rfl, a', rfl, by omega, rfl⟩, fun a0 n a' e => by cases e⟩
theorem Zl3 {s : Str} (hs : s.length ≤ 8000) {st : Str × Int × Bool} {p : Option Nat} (h : StS s st p) : ∃ v, (Ze fun k => Zpd k st = some v) ∧ StS s v.2 (Z3c s p) ∧ ∀ a n a', p = some a → Zbi s a = some (n, a') → v.1 = n := by
 rcases h.form with ⟨a, rfl, ha, rfl⟩ | ⟨a, rfl, ha, rfl⟩
 ·obtain ⟨h1, h2⟩ := Zo3 hs a ha
  exact ⟨_, Zq3 s a (by omega) (by omega), h1, fun a0 n a' e h => by cases e; exact h2 n a' h⟩
 ·obtain ⟨n, a', h1, h2⟩ := Zo1 s a (by omega) (by omega)
  exact ⟨_, h1, ⟨rfl, a', rfl, by omega, rfl⟩, fun a0 n a' e => by cases e⟩
end Go.Proofs.YtfbancgdmghnkaaGreatDoorE
namespace Go.Proofs.YtfbancgdmghnkaaGreatDoorE
open Go
set_option linter.unusedVariables false
def stZ (s : Str) : Option ((Int × Int × Int × Int × Int × Int × Int × Str) × Nat) :=
 (Z9c s 0).bind fun x1 =>
 (Z9c s x1.2).bind fun x2 =>
 (Z9c s x2.2).bind fun x3 =>
 (Z9c s x3.2).bind fun x4 =>
 (Z9c s x4.2).bind fun x5 =>
 (Z9c s x5.2).bind fun x6 =>
 (Z9c s x6.2).bind fun x7 =>
 (Zbi s x7.2).map fun t => ((x1.1, x2.1, x3.1, x4.1, x5.1, x6.1, x7.1, t.1), t.2)
theorem Zd8 (s : Str) (hs : s.length ≤ 8000) : ∃ v1 v2 v3 v4 v5 v6 v7 : Int × Str × Int × Bool, ∃ v8 : Str × Str × Int × Bool, (Ze fun k => Z1c k (s, (0, false)) = some v1 ∧ Z1c k v1.2 = some v2 ∧ Z1c k v2.2 = some v3 ∧ Z1c k v3.2 = some v4 ∧ Z1c k v4.2 = some v5 ∧ Z1c k v5.2 = some v6 ∧ Z1c k v6.2 = some v7 ∧ Z5d k v7.2 = some v8) ∧
  ((∃ d : Nat, stZ s = some ((v1.1, v2.1, v3.1, v4.1, v5.1, v6.1, v7.1, v8.1), d) ∧ v8.2 = (s, ((d : Nat) : Int), false)) ∨ (stZ s = none ∧ v8.2.2.2 = true)) := by
 have h0 : StS s (s, ((0 : Nat) : Int), false) (some 0) := ⟨rfl, 0, rfl, by omega, rfl, rfl⟩
 obtain ⟨v1, e1, h1, g1⟩ := Z6l hs h0
 obtain ⟨v2, e2, h2, g2⟩ := Z6l hs h1
 obtain ⟨v3, e3, h3, g3⟩ := Z6l hs h2
 obtain ⟨v4, e4, h4, g4⟩ := Z6l hs h3
 obtain ⟨v5, e5, h5, g5⟩ := Z6l hs h4
 obtain ⟨v6, e6, h6, g6⟩ := Z6l hs h5
 obtain ⟨v7, e7, h7, g7⟩ := Z6l hs h6
 obtain ⟨v8, e8, h8, g8⟩ := Zldb hs h7
 refine ⟨v1, v2, v3, v4, v5, v6, v7, v8, (((((((e1.and e2).and e3).and e4).and e5).and e6).and e7).and e8).mono fun k ⟨⟨⟨⟨⟨⟨⟨q1, q2⟩, q3⟩, q4⟩, q5⟩, q6⟩, q7⟩, q8⟩ => ⟨q1, q2, q3, q4, q5, q6, q7, q8⟩, ?_⟩
 clear e1 e2 e3 e4 e5 e6 e7 e8 h0 h1 h2 h3 h4 h5 h6 h7
 have bad : ∀ {st : Str × Int × Bool}, StS s st none → st.2.2 = true := fun h => h.2.choose_spec.2.2
 cases x1 : Z9c s 0 with
 | none =>
  refine .inr ⟨by simp [stZ, x1], bad (st := v8.2) ?_⟩
  have : Z3c s (Zc s (Zc s (Zc s (Zc s (Zc s (Zc s (Zc s (some 0)))))))) = none := by simp [Zc, Z3c, x1]
  rwa [this] at h8
 | some y1 =>
 obtain ⟨n1, a1⟩ := y1
 cases x2 : Z9c s a1 with
 | none =>
  refine .inr ⟨by simp [stZ, x1, x2], bad (st := v8.2) ?_⟩
  have : Z3c s (Zc s (Zc s (Zc s (Zc s (Zc s (Zc s (Zc s (some 0)))))))) = none := by simp [Zc, Z3c, x1, x2]
  rwa [this] at h8
 | some y2 =>
 obtain ⟨n2, a2⟩ := y2
 cases x3 : Z9c s a2 with
 | none =>
  refine .inr ⟨by simp [stZ, x1, x2, x3], bad (st := v8.2) ?_⟩
  have : Z3c s (Zc s (Zc s (Zc s (Zc s (Zc s (Zc s (Zc s (some 0)))))))) = none := by simp [Zc, Z3c, x1, x2, x3]
  rwa [this] at h8
 | some y3 =>
 obtain ⟨n3, a3⟩ := y3
 cases x4 : Z9c s a3 with
 | none =>
  refine .inr ⟨by simp [stZ, x1, x2, x3, x4], bad (st := v8.2) ?_⟩
  have : Z3c s (Zc s (Zc s (Zc s (Zc s (Zc s (Zc s (Zc s (some 0)))))))) = none := by simp [Zc, Z3c, x1, x2, x3, x4]
  rwa [this] at h8
 | some y4 =>
 obtain ⟨n4, a4⟩ := y4
 cases x5 : Z9c s a4 with
 | none =>
  refine .inr ⟨by simp [stZ, x1, x2, x3, x4, x5], bad (st := v8.2) ?_⟩
  have : Z3c s (Zc s (Zc s (Zc s (Zc s (Zc s (Zc s (Zc s (some 0)))))))) = none := by simp [Zc, Z3c, x1, x2, x3, x4, x5]
  rwa [this] at h8
 | some y5 =>
 obtain ⟨n5, a5⟩ := y5
 cases x6 : Z9c s a5 with
 | none =>
  refine .inr ⟨by simp [stZ, x1, x2, x3, x4, x5, x6], bad (st := v8.2) ?_⟩
  have : Z3c s (Zc s (Zc s (Zc s (Zc s (Zc s (Zc s (Zc s (some 0)))))))) = none := by simp [Zc, Z3c, x1, x2, x3, x4, x5, x6]
  rwa [this] at h8
 | some y6 =>
 obtain ⟨n6, a6⟩ := y6
 cases x7 : Z9c s a6 with
 | none =>
  refine .inr ⟨by simp [stZ, x1, x2, x3, x4, x5, x6, x7], bad (st := v8.2) ?_⟩
  have : Z3c s (Zc s (Zc s (Zc s (Zc s (Zc s (Zc s (Zc s (some 0)))))))) = none := by simp [Zc, Z3c, x1, x2, x3, x4, x5, x6, x7]
  rwa [this] at h8
 | some y7 =>
 obtain ⟨n7, a7⟩ := y7
 cases x8 : Zbi s a7 with
 | none =>
  refine .inr ⟨by simp [stZ, x1, x2, x3, x4, x5, x6, x7, x8], bad (st := v8.2) ?_⟩
  have : Z3c s (Zc s (Zc s (Zc s (Zc s (Zc s (Zc s (Zc s (some 0)))))))) = none := by simp [Zc, Z3c, x1, x2, x3, x4, x5, x6, x7, x8]
  rwa [this] at h8
 | some y8 =>
  obtain ⟨t, d⟩ := y8
  have p1 : Zc s (some 0) = some a1 := by simp [Zc, x1]
  have p2 : Zc s (Zc s (some 0)) = some a2 := by simp [Zc, x1, x2]
  have p3 : Zc s (Zc s (Zc s (some 0))) = some a3 := by simp [Zc, x1, x2, x3]
  have p4 : Zc s (Zc s (Zc s (Zc s (some 0)))) = some a4 := by simp [Zc, x1, x2, x3, x4]
  have p5 : Zc s (Zc s (Zc s (Zc s (Zc s (some 0))))) = some a5 := by simp [Zc, x1, x2, x3, x4, x5]
  have p6 : Zc s (Zc s (Zc s (Zc s (Zc s (Zc s (some 0)))))) = some a6 := by simp [Zc, x1, x2, x3, x4, x5, x6]
  have p7 : Zc s (Zc s (Zc s (Zc s (Zc s (Zc s (Zc s (some 0))))))) = some a7 := by simp [Zc, x1, x2, x3, x4, x5, x6, x7]
  have p8 : Z3c s (Zc s (Zc s (Zc s (Zc s (Zc s (Zc s (Zc s (some 0)))))))) = some d := by simp [Zc, Z3c, x1, x2, x3, x4, x5, x6, x7, x8]
  have r1 := g1 _ _ _ rfl x1
  have r2 := g2 _ _ _ p1 x2
  have r3 := g3 _ _ _ p2 x3
  have r4 := g4 _ _ _ p3 x4
  have r5 := g5 _ _ _ p4 x5
  have r6 := g6 _ _ _ p5 x6
  have r7 := g7 _ _ _ p6 x7
  have r8 := g8 _ _ _ p7 x8
  refine .inl ⟨d, ?_, ?_⟩
  ·rw [r1, r2, r3, r4, r5, r6, r7, r8]
   simp [stZ, x1, x2, x3, x4, x5, x6, x7, x8]
  ·rw [p8] at h8
   rcases h8.form with ⟨a, e, _, q⟩ | ⟨a, e, _, q⟩
   ·cases e; exact q
   ·cases e
theorem Zyab (s : Str) (hs : s.length ≤ 8000) : ∃ v1 v2 v3 v4 v5 v6 v7 : Int × Str × Int × Bool, ∃ v8 : Str × Str × Int × Bool, (Ze fun k => Z0c k (s, (0, false)) = some v1 ∧ Z0c k v1.2 = some v2 ∧ Z0c k v2.2 = some v3 ∧ Z0c k v3.2 = some v4 ∧ Z0c k v4.2 = some v5 ∧ Z0c k v5.2 = some v6 ∧ Z0c k v6.2 = some v7 ∧ Zpd k v7.2 = some v8) ∧
  ((∃ d : Nat, stZ s = some ((v1.1, v2.1, v3.1, v4.1, v5.1, v6.1, v7.1, v8.1), d) ∧ v8.2 = (s, ((d : Nat) : Int), false)) ∨ (stZ s = none ∧ v8.2.2.2 = true)) := by
 have h0 : StS s (s, ((0 : Nat) : Int), false) (some 0) := ⟨rfl, 0, rfl, by omega, rfl, rfl⟩
 obtain ⟨v1, e1, h1, g1⟩ := Znk hs h0
 obtain ⟨v2, e2, h2, g2⟩ := Znk hs h1
 obtain ⟨v3, e3, h3, g3⟩ := Znk hs h2
 obtain ⟨v4, e4, h4, g4⟩ := Znk hs h3
 obtain ⟨v5, e5, h5, g5⟩ := Znk hs h4
 obtain ⟨v6, e6, h6, g6⟩ := Znk hs h5
 obtain ⟨v7, e7, h7, g7⟩ := Znk hs h6
 obtain ⟨v8, e8, h8, g8⟩ := Zl3 hs h7
 refine ⟨v1, v2, v3, v4, v5, v6, v7, v8, (((((((e1.and e2).and e3).and e4).and e5).and e6).and e7).and e8).mono fun k ⟨⟨⟨⟨⟨⟨⟨q1, q2⟩, q3⟩, q4⟩, q5⟩, q6⟩, q7⟩, q8⟩ => ⟨q1, q2, q3, q4, q5, q6, q7, q8⟩, ?_⟩
 clear e1 e2 e3 e4 e5 e6 e7 e8 h0 h1 h2 h3 h4 h5 h6 h7
 have bad : ∀ {st : Str × Int × Bool}, StS s st none → st.2.2 = true := fun h => h.2.choose_spec.2.2
 cases x1 : Z9c s 0 with
 | none =>
  refine .inr ⟨by simp [stZ, x1], bad (st := v8.2) ?_⟩
  have : Z3c s (Zc s (Zc s (Zc s (Zc s (Zc s (Zc s (Zc s (some 0)))))))) = none := by simp [Zc, Z3c, x1]
  rwa [this] at h8
 | some y1 =>
 obtain ⟨n1, a1⟩ := y1
 cases x2 : Z9c s a1 with
 | none =>
  refine .inr ⟨by simp [stZ, x1, x2], bad (st := v8.2) ?_⟩
  have : Z3c s (Zc s (Zc s (Zc s (Zc s (Zc s (Zc s (Zc s (some 0)))))))) = none := by simp [Zc, Z3c, x1, x2]
  rwa [this] at h8
 | some y2 =>
 obtain ⟨n2, a2⟩ := y2
 cases x3 : Z9c s a2 with
 | none =>
  refine .inr ⟨by simp [stZ, x1, x2, x3], bad (st := v8.2) ?_⟩
  have : Z3c s (Zc s (Zc s (Zc s (Zc s (Zc s (Zc s (Zc s (some 0)))))))) = none := by simp [Zc, Z3c, x1, x2, x3]
  rwa [this] at h8
 | some y3 =>
 obtain ⟨n3, a3⟩ := y3
 cases x4 : Z9c s a3 with
 | none =>
  refine .inr ⟨by simp [stZ, x1, x2, x3, x4], bad (st := v8.2) ?_⟩
  have : Z3c s (Zc s (Zc s (Zc s (Zc s (Zc s (Zc s (Zc s (some 0)))))))) = none := by simp [Zc, Z3c, x1, x2, x3, x4]
  rwa [this] at h8
 | some y4 =>
 obtain ⟨n4, a4⟩ := y4
 cases x5 : Z9c s a4 with
 | none =>
  refine .inr ⟨by simp [stZ, x1, x2, x3, x4, x5], bad (st := v8.2) ?_⟩
  have : Z3c s (Zc s (Zc s (Zc s (Zc s (Zc s (Zc s (Zc s (some 0)))))))) = none := by simp [Zc, Z3c, x1, x2, x3, x4, x5]
  rwa [this] at h8
 | some y5 =>
 obtain ⟨n5, a5⟩ := y5
 cases x6 : Z9c s a5 with
 | none =>
  refine .inr ⟨by simp [stZ, x1, x2, x3, x4, x5, x6], bad (st := v8.2) ?_⟩
  have : Z3c s (Zc s (Zc s (Zc s (Zc s (Zc s (Zc s (Zc s (some 0)))))))) = none := by simp [Zc, Z3c, x1, x2, x3, x4, x5, x6]
  rwa [this] at h8
 | some y6 =>
 obtain ⟨n6, a6⟩ := y6
 cases x7 : Z9c s a6 with
 | none =>
  refine .inr ⟨by simp [stZ, x1, x2, x3, x4, x5, x6, x7], bad (st := v8.2) ?_⟩
  have : Z3c s (Zc s (Zc s (Zc s (Zc s (Zc s (Zc s (Zc s (some 0)))))))) = none := by simp [Zc, Z3c, x1, x2, x3, x4, x5, x6, x7]
  rwa [this] at h8
 | some y7 =>
 obtain ⟨n7, a7⟩ := y7
 cases x8 : Zbi s a7 with
 | none =>
  refine .inr ⟨by simp [stZ, x1, x2, x3, x4, x5, x6, x7, x8], bad (st := v8.2) ?_⟩
  have : Z3c s (Zc s (Zc s (Zc s (Zc s (Zc s (Zc s (Zc s (some 0)))))))) = none := by simp [Zc, Z3c, x1, x2, x3, x4, x5, x6, x7, x8]
  rwa [this] at h8
 | some y8 =>
  obtain ⟨t, d⟩ := y8
  have p1 : Zc s (some 0) = some a1 := by simp [Zc, x1]
  have p2 : Zc s (Zc s (some 0)) = some a2 := by simp [Zc, x1, x2]
  have p3 : Zc s (Zc s (Zc s (some 0))) = some a3 := by simp [Zc, x1, x2, x3]
  have p4 : Zc s (Zc s (Zc s (Zc s (some 0)))) = some a4 := by simp [Zc, x1, x2, x3, x4]
  have p5 : Zc s (Zc s (Zc s (Zc s (Zc s (some 0))))) = some a5 := by simp [Zc, x1, x2, x3, x4, x5]
  have p6 : Zc s (Zc s (Zc s (Zc s (Zc s (Zc s (some 0)))))) = some a6 := by simp [Zc, x1, x2, x3, x4, x5, x6]
  have p7 : Zc s (Zc s (Zc s (Zc s (Zc s (Zc s (Zc s (some 0))))))) = some a7 := by simp [Zc, x1, x2, x3, x4, x5, x6, x7]
  have p8 : Z3c s (Zc s (Zc s (Zc s (Zc s (Zc s (Zc s (Zc s (some 0)))))))) = some d := by simp [Zc, Z3c, x1, x2, x3, x4, x5, x6, x7, x8]
  have r1 := g1 _ _ _ rfl x1
  have r2 := g2 _ _ _ p1 x2
  have r3 := g3 _ _ _ p2 x3
  have r4 := g4 _ _ _ p3 x4
  have r5 := g5 _ _ _ p4 x5
  have r6 := g6 _ _ _ p5 x6
  have r7 := g7 _ _ _ p6 x7
  have r8 := g8 _ _ _ p7 x8
  refine .inl ⟨d, ?_, ?_⟩
  ·rw [r1, r2, r3, r4, r5, r6, r7, r8]
   simp [stZ, x1, x2, x3, x4, x5, x6, x7, x8]
  ·rw [p8] at h8
   rcases h8.form with ⟨a, e, _, q⟩ | ⟨a, e, _, q⟩
   ·cases e; exact q
   ·cases e
end Go.Proofs.YtfbancgdmghnkaaGreatDoorE
namespace Go.Proofs.YtfbancgdmghnkaaGreatDoorE
open Go
set_option linter.unusedVariables false
abbrev StT := Int × Int × Int × Int × Int × Str × List Int × List Int
def stT (op part steps slots moves : Int) (mem : Str) (v w : Nat) : StT := (op, part, steps, slots, moves, mem, Zo v, Zo w)
def Zwj (op part steps slots moves : Int) (mem : Str) (v w : Nat) : Bool :=
 (decide (1 ≤ op) && decide (op ≤ 5)) && (decide (v &&& w = 0) && (if op = 1 then decide (part = 0 ∧ steps = 0 ∧ slots = 0 ∧ moves = 0 ∧ mem = [] ∧ (Zo w).length = 0)
  else decide ((1 ≤ steps ∧ steps ≤ 20) ∧ (0 ≤ slots ∧ slots ≤ 4) ∧ ((Zo w).length : Int) = steps + slots ∧ mem.length = 32 ∧ (0 ≤ part ∧ part ≤ 2) ∧ (0 ≤ moves ∧ moves ≤ 40) ∧ (part = 0 ∨ op = 4) ∧ (moves = 0 ∨ op = 5))))
theorem andi (a b : Nat) (ha : a < 16777216) (hb : b < 16777216) : intBits .and .i64 (a : Int) (b : Int) = ((a &&& b : Nat) : Int) := by
 have h1 : (BitVec.ofInt 64 (a : Int) &&& BitVec.ofInt 64 (b : Int)).toNat = a &&& b := by
  rw [BitVec.toNat_and, BitVec.toNat_ofInt, BitVec.toNat_ofInt]
  have h1 : ((a : Int) % ((2 ^ 64 : Nat) : Int)).toNat = a := by omega
  have h2 : ((b : Int) % ((2 ^ 64 : Nat) : Int)).toNat = b := by omega
  rw [h1, h2]
 have hlt : a &&& b ≤ a := Nat.and_le_left
 unfold intBits
 show IntKind.wrap .i64 (((BitVec.ofInt 64 (a : Int) &&& BitVec.ofInt 64 (b : Int)).toNat : Nat) : Int) = _
 rw [h1]
 exact w64 (by omega) (by omega)
theorem Zycb (op part steps slots moves : Int) (mem : Str) (v w : Nat) (hv : v < 16777216) (hw : w < 16777216) : ∀ k, 24 < k → Z9g k (stT op part steps slots moves mem v w) = some (Zwj op part steps slots moves mem v w) := by
 intro k hk
 have hl := Zok w
 have W : ∀ a b c : Int, Zgb a b c = some (decide (b ≤ a) && decide (a ≤ c)) := fun _ _ _ => rfl
 have Z : Zqh (Zo w) = some ((Zo w).length : Int) := rfl
 unfold Z9g stT
 dsimp only
 rw [W]
 simp only [Option.bind_some]
 unfold Zwj
 by_cases h1 : (decide (1 ≤ op) && decide (op ≤ 5)) = true
 ·rw [h1]
  simp only [Bool.not_true, cond_false, Bool.true_and]
  refine Zb (Zl2 v k hk) ?_
  simp only [Bool.not_true, cond_false]
  refine Zb (Zl2 w k hk) ?_
  simp only [Bool.not_true, cond_false]
  refine Zb (Z61 v hv k hk) (Zb (Z61 w hw k hk) ?_)
  rw [andi v w hv hw]
  by_cases h2 : v &&& w = 0
  ·rw [h2]
   simp only [decide_true, Bool.true_and]
   rw [show (((0 : Nat) : Int) != 0) = false from rfl]
   simp only [cond_false]
   by_cases h3 : op = 1
   ·rw [show (op == 1) = true by simpa using h3, if_pos h3, cond_true]
    congr 1
    rw [Bool.eq_iff_iff]
    simp only [Bool.and_eq_true, beq_iff_eq, decide_eq_true_eq]
    constructor
    ·rintro ⟨⟨⟨⟨⟨a, b⟩, c⟩, d⟩, e⟩, f⟩
     exact ⟨a, b, c, d, e, by omega⟩
    ·rintro ⟨a, b, c, d, e, f⟩
     exact ⟨⟨⟨⟨⟨a, b⟩, c⟩, d⟩, e⟩, by omega⟩
   ·rw [show (op == 1) = false by simpa using h3, if_neg h3, cond_false]
    have two : ∀ {a b : Prop} [Decidable a] [Decidable b], ¬ (a ∧ b) → (decide a && decide b) = false := fun {a b} _ _ h => by
     rw [Bool.and_eq_false_iff, decide_eq_false_iff_not, decide_eq_false_iff_not]
     exact Classical.not_and_iff_not_or_not.1 h
    by_cases c1 : 1 ≤ steps ∧ steps ≤ 20
    ·refine Zb (W steps 1 20) ?_
     rw [decide_eq_true c1.1, decide_eq_true c1.2]
     simp only [Bool.and_self, cond_true]
     by_cases c2 : 0 ≤ slots ∧ slots ≤ 4
     ·refine Zb (W slots 0 4) ?_
      rw [decide_eq_true c2.1, decide_eq_true c2.2]
      simp only [Bool.and_self, cond_true]
      refine Zb Z ?_
      rw [w64 (n := steps + slots) (by omega) (by omega)]
      by_cases c3 : ((Zo w).length : Int) = steps + slots
      ·rw [show (((Zo w).length : Int) == steps + slots) = true by simpa using c3, cond_true]
       by_cases c4 : mem.length = 32
       ·rw [show ((mem.length : Int) == 32) = true by simp; omega, cond_true]
        refine Zb (W part 0 2) ?_
        by_cases c5 : 0 ≤ part ∧ part ≤ 2
        ·rw [decide_eq_true c5.1, decide_eq_true c5.2]
         simp only [Bool.and_self, cond_true]
         have tail : ((Zgb moves 0 40).bind fun v14 => bif v14 then bif moves == 0 then some true else some (op == 5) else some false) = some (decide ((0 ≤ moves ∧ moves ≤ 40) ∧ (moves = 0 ∨ op = 5))) := by
          refine Zb (W moves 0 40) ?_
          by_cases c6 : 0 ≤ moves ∧ moves ≤ 40
          ·rw [decide_eq_true c6.1, decide_eq_true c6.2]
           simp only [Bool.and_self, cond_true]
           by_cases c7 : moves = 0
           ·rw [show (moves == 0) = true by simpa using c7, decide_eq_true ⟨c6, .inl c7⟩]
            rfl
           ·rw [show (moves == 0) = false by simpa using c7, cond_false]
            congr 1
            rw [Z4h]
            exact decide_eq_decide.2 ⟨fun q => ⟨c6, .inr q⟩, fun q => q.2.resolve_left c7⟩
          ·rw [two c6, decide_eq_false (fun q => c6 q.1)]
           rfl
         by_cases c7 : part = 0
         ·rw [show (part == 0) = true by simpa using c7, cond_true]
          refine tail.trans ?_
          congr 1
          exact decide_eq_decide.2 ⟨fun q => ⟨c1, c2, c3, c4, c5, q.1, .inl c7, q.2⟩, fun q => ⟨q.2.2.2.2.2.1, q.2.2.2.2.2.2.2⟩⟩
         ·rw [show (part == 0) = false by simpa using c7, cond_false]
          by_cases c8 : op = 4
          ·rw [show (op == 4) = true by simpa using c8, cond_true]
           refine tail.trans ?_
           congr 1
           exact decide_eq_decide.2 ⟨fun q => ⟨c1, c2, c3, c4, c5, q.1, .inr c8, q.2⟩, fun q => ⟨q.2.2.2.2.2.1, q.2.2.2.2.2.2.2⟩⟩
          ·rw [show (op == 4) = false by simpa using c8, decide_eq_false (fun q => q.2.2.2.2.2.2.1.elim c7 c8)]
           rfl
        ·rw [two c5, decide_eq_false (fun q => c5 q.2.2.2.2.1)]
         rfl
       ·rw [show ((mem.length : Int) == 32) = false by simp; omega, decide_eq_false (fun q => c4 q.2.2.2.1)]
        rfl
      ·rw [show (((Zo w).length : Int) == steps + slots) = false by simpa using c3, decide_eq_false (fun q => c3 q.2.2.1)]
       rfl
     ·refine Zb (W slots 0 4) ?_
      rw [two c2, decide_eq_false (fun q => c2 q.2.1)]
      rfl
    ·refine Zb (W steps 1 20) ?_
     rw [two c1, decide_eq_false (fun q => c1 q.1)]
     rfl
  ·rw [show (((v &&& w : Nat) : Int) != 0) = true by simp; omega, decide_eq_false h2]
   rfl
 ·rw [Bool.eq_false_iff.2 h1]
  rfl
theorem Zks {v n : Nat} : ((n : Nat) : Int) ∈ Zo v ↔ n < 24 ∧ v.testBit n = true := by
 unfold Zo Zid
 rw [List.mem_map]
 constructor
 ·rintro ⟨m, hm, e⟩
  rw [List.mem_filter, List.mem_range] at hm
  have : m = n := by omega
  rwa [this] at hm
 ·intro h
  exact ⟨n, by rw [List.mem_filter, List.mem_range]; exact h, rfl⟩
theorem Zf4 (l : List Int) (x : Int) (hl : l.length ≤ 1000) : ∀ k, l.length < k → Ztb k l x = some (decide (x ∈ l)) := by
 intro k hk
 have run := Zhk (fun j i => Ztb.l0 j l x i) l (fun y => y == x) (.inl ()) (fun _ => .inr true) (fun i hi => by
  constructor
  ·intro hp j
   show Ztb.l0 (j + 1) l x (i : Int) = Ztb.l0 j l x ((i + 1 : Nat) : Int)
   rw [Ztb.l0, dlt hi, Zu hi, Zbb (by omega)]
   simp only [cond_true, Option.bind_some, hp, cond_false]
  ·intro hp j
   show Ztb.l0 (j + 1) l x (i : Int) = _
   rw [Ztb.l0, dlt hi, Zu hi]
   simp only [cond_true, Option.bind_some, hp]) (fun j => by
  show Ztb.l0 (j + 1) l x (l.length : Int) = _
  rw [Ztb.l0, Z2c (Nat.le_refl _)]
  rfl) hk
 have run : Ztb.l0 k l x 0 = _ := run
 have ha := Ztp (p := fun y : Int => y == x) (l := l) (n := 0)
 unfold Ztb
 rw [run]
 cases hf : Zhd (fun y : Int => y == x) l 0 with
 | some m =>
  rw [hf] at ha
  obtain ⟨y, hy, hy2⟩ := List.any_eq_true.1 ha.symm
  have : y = x := by simpa using hy2
  rw [decide_eq_true (this ▸ hy)]
  rfl
 | none =>
  rw [hf] at ha
  have : x ∉ l := fun hx => by
   have h2 : (l.any fun y => y == x) = true := List.any_eq_true.2 ⟨x, hx, by simp⟩
   rw [h2] at ha
   cases ha
  rw [decide_eq_false this]
  rfl
theorem Zmbb (op part steps slots moves : Int) (mem : Str) (v w : Nat) (hv : v < 16777216) {k : Nat} (hk : 100 ≤ k) : Zkc.l0 k k op part steps slots moves mem (Zo v) (Zo w) 0 = some (if v &&& w = 0 then .inl () else .inr false) := by
 have hl := Zok w
 have hl2 := Zok v
 have h := Z0t (fun j i => Zkc.l0 k j op part steps slots moves mem (Zo v) (Zo w) (i : Int)) (Zo w).length (fun i => !decide ((Zo w).getD i 0 ∈ Zo v)) (fun _ => false) (fun i hi hp j => ?_) (fun i hi hp j => ?_) (fun j => ?_)
 ·have key : (List.range (Zo w).length).all (fun i => !decide ((Zo w).getD i 0 ∈ Zo v)) = true ↔ v &&& w = 0 := by
   rw [List.all_eq_true]
   constructor
   ·intro h
    apply Nat.eq_of_testBit_eq
    intro n
    rw [Nat.testBit_and, Nat.zero_testBit]
    cases q1 : v.testBit n with
    | false => rfl
    | true =>
     cases q2 : w.testBit n with
     | false => rfl
     | true =>
      have hn : n < 24 := by
       refine Nat.not_le.1 fun q => ?_
       have : v < 2 ^ n := Nat.lt_of_lt_of_le hv (by have := Nat.pow_le_pow_right (n := 2) (by omega) q; simpa using this)
       rw [Nat.testBit_lt_two_pow this] at q1
       cases q1
      obtain ⟨i, hi, e⟩ := List.mem_iff_getElem.1 (Zks.2 ⟨hn, q2⟩)
      have := h i (List.mem_range.2 hi)
      rw [List.getD_eq_getElem?_getD, List.getElem?_eq_getElem hi] at this
      have h3 : ¬ ((Zo w)[i] ∈ Zo v) := by simpa using this
      exact absurd (by rw [e]; exact Zks.2 ⟨hn, q1⟩) h3
   ·intro h i hi
    have hi := List.mem_range.1 hi
    rw [List.getD_eq_getElem?_getD, List.getElem?_eq_getElem hi]
    have : ¬ ((Zo w)[i] ∈ Zo v) := fun hm => by
     have hw := List.getElem_mem hi
     obtain ⟨n, hn, e⟩ := List.mem_map.1 hw
     rw [← e] at hm hw
     have a := (Zks.1 hm).2
     have b := (Zks.1 hw).2
     have := congrArg (Nat.testBit · n) h
     simp only [Nat.testBit_and, Nat.zero_testBit, a, b] at this
     cases this
    simpa using this
  rcases h with ⟨h1, h2⟩ | ⟨h1, i, _, _, h2⟩
  ·rw [if_pos (key.1 h1)]
   exact h2 k (by omega)
  ·rw [if_neg (fun q => by rw [key.2 q] at h1; cases h1)]
   exact h2 k (by omega)
 ·have hp : (!decide ((Zo w).getD i 0 ∈ Zo v)) = true := hp
  rw [List.getD_eq_getElem?_getD, List.getElem?_eq_getElem hi] at hp
  have hp : (!decide ((Zo w)[i] ∈ Zo v)) = true := hp
  conv => lhs; unfold Zkc.l0
  rw [dlt hi, Zu hi, Zbb (by omega)]
  simp only [cond_true, Option.bind_some]
  rw [Zf4 _ _ (by omega) k (by omega)]
  rw [Bool.not_eq_true'] at hp
  rw [hp]
  rfl
 ·have hp : (!decide ((Zo w).getD i 0 ∈ Zo v)) = false := hp
  rw [List.getD_eq_getElem?_getD, List.getElem?_eq_getElem hi] at hp
  have hp : (!decide ((Zo w)[i] ∈ Zo v)) = false := hp
  conv => lhs; unfold Zkc.l0
  rw [dlt hi, Zu hi]
  simp only [cond_true, Option.bind_some]
  rw [Zf4 _ _ (by omega) k (by omega)]
  rw [Bool.not_eq_false'] at hp
  rw [hp]
  rfl
 ·conv => lhs; unfold Zkc.l0
  rw [Z2c (Nat.le_refl _)]
  rfl
theorem Z17 (op part steps slots moves : Int) (mem : Str) (v w : Nat) (hv : v < 16777216) (hw : w < 16777216) {k : Nat} (hk : 100 ≤ k) : Zkc k (stT op part steps slots moves mem v w) = some (Zwj op part steps slots moves mem v w) := by
 have hl := Zok w
 have W : ∀ a b c : Int, Znb a b c = some (decide (b ≤ a) && decide (a ≤ c)) := fun _ _ _ => rfl
 have two : ∀ {a b : Prop} [Decidable a] [Decidable b], ¬ (a ∧ b) → (decide a && decide b) = false := fun {a b} _ _ h => by
  rw [Bool.and_eq_false_iff, decide_eq_false_iff_not, decide_eq_false_iff_not]
  exact Classical.not_and_iff_not_or_not.1 h
 unfold Zkc stT
 dsimp only
 rw [W]
 simp only [Option.bind_some]
 unfold Zwj
 by_cases h1 : (decide (1 ≤ op) && decide (op ≤ 5)) = true
 ·rw [h1]
  simp only [Bool.not_true, cond_false, Bool.true_and]
  refine Zb (Zvz v k (by omega)) ?_
  simp only [Bool.not_true, cond_false]
  refine Zb (Zvz w k (by omega)) ?_
  simp only [Bool.not_true, cond_false]
  refine Zb (Zmbb op part steps slots moves mem v w hv hk) ?_
  by_cases h2 : v &&& w = 0
  ·rw [if_pos h2, decide_eq_true h2]
   dsimp only
   rw [Bool.true_and]
   by_cases h3 : op = 1
   ·rw [show (op == 1) = true by simpa using h3, if_pos h3, cond_true]
    congr 1
    rw [Bool.eq_iff_iff]
    simp only [Bool.and_eq_true, beq_iff_eq, decide_eq_true_eq]
    constructor
    ·rintro ⟨⟨⟨⟨⟨a, b⟩, c⟩, d⟩, e⟩, f⟩
     exact ⟨a, b, c, d, e, by omega⟩
    ·rintro ⟨a, b, c, d, e, f⟩
     exact ⟨⟨⟨⟨⟨a, b⟩, c⟩, d⟩, e⟩, by omega⟩
   ·rw [show (op == 1) = false by simpa using h3, if_neg h3, cond_false]
    refine Zb (W steps 1 20) ?_
    by_cases c1 : 1 ≤ steps ∧ steps ≤ 20
    ·rw [decide_eq_true c1.1, decide_eq_true c1.2]
     simp only [Bool.and_self, Bool.not_true, cond_false]
     refine Zb (W slots 0 4) ?_
     by_cases c2 : 0 ≤ slots ∧ slots ≤ 4
     ·rw [decide_eq_true c2.1, decide_eq_true c2.2, w64 (n := steps + slots) (by omega) (by omega)]
      simp only [Bool.and_self, Bool.not_true, Bool.false_or]
      by_cases c3 : ((Zo w).length : Int) = steps + slots
      ·rw [show (((Zo w).length : Int) != steps + slots) = false by simpa using c3, Bool.false_or]
       by_cases c4 : mem.length = 32
       ·rw [show ((mem.length : Int) != 32) = false by simp; omega, cond_false]
        refine Zb (W part 0 2) ?_
        by_cases c5 : 0 ≤ part ∧ part ≤ 2
        ·rw [decide_eq_true c5.1, decide_eq_true c5.2]
         simp only [Bool.and_self, cond_true]
         refine Zb (W moves 0 40) ?_
         congr 1
         rw [Bool.eq_iff_iff]
         simp only [Bool.and_eq_true, Bool.or_eq_true, beq_iff_eq, decide_eq_true_eq]
         exact ⟨fun q => ⟨c1, c2, c3, c4, c5, q.1.1, q.1.2, q.2⟩, fun q => ⟨⟨q.2.2.2.2.2.1, q.2.2.2.2.2.2.1⟩, q.2.2.2.2.2.2.2⟩⟩
        ·rw [two c5, decide_eq_false (fun q => c5 q.2.2.2.2.1)]
         rfl
       ·rw [show ((mem.length : Int) != 32) = true by simp; omega, decide_eq_false (fun q => c4 q.2.2.2.1)]
        rfl
      ·rw [show (((Zo w).length : Int) != steps + slots) = true by simpa using c3, decide_eq_false (fun q => c3 q.2.2.1)]
       rfl
     ·rw [two c2, decide_eq_false (fun q => c2 q.2.1)]
      rfl
    ·rw [two c1, decide_eq_false (fun q => c1 q.1)]
     rfl
  ·rw [if_neg h2, decide_eq_false h2]
   rfl
 ·rw [Bool.eq_false_iff.2 h1]
  rfl
end Go.Proofs.YtfbancgdmghnkaaGreatDoorE
namespace Go.Proofs.YtfbancgdmghnkaaGreatDoorE
open Go
set_option linter.unusedVariables false
theorem Z62 {s : Str} {r : Int × Int × Int × Int × Int × Int × Int × Str} {d : Nat} (h : stZ s = some (r, d)) : ∃ a1 a2 a3 a4 a5 a6 a7, Got s 0 r.1 a1 ∧ Got s a1 r.2.1 a2 ∧ Got s a2 r.2.2.1 a3 ∧ Got s a3 r.2.2.2.1 a4 ∧ Got s a4 r.2.2.2.2.1 a5 ∧ Got s a5 r.2.2.2.2.2.1 a6 ∧ Got s a6 r.2.2.2.2.2.2.1 a7 ∧ GotT s a7 r.2.2.2.2.2.2.2 d := by
 unfold stZ at h
 obtain ⟨⟨n1, a1⟩, h1, h⟩ := Option.bind_eq_some_iff.1 h
 obtain ⟨⟨n2, a2⟩, h2, h⟩ := Option.bind_eq_some_iff.1 h
 obtain ⟨⟨n3, a3⟩, h3, h⟩ := Option.bind_eq_some_iff.1 h
 obtain ⟨⟨n4, a4⟩, h4, h⟩ := Option.bind_eq_some_iff.1 h
 obtain ⟨⟨n5, a5⟩, h5, h⟩ := Option.bind_eq_some_iff.1 h
 obtain ⟨⟨n6, a6⟩, h6, h⟩ := Option.bind_eq_some_iff.1 h
 obtain ⟨⟨n7, a7⟩, h7, h⟩ := Option.bind_eq_some_iff.1 h
 obtain ⟨⟨t, d'⟩, h8, h⟩ := Option.map_eq_some_iff.1 h
 cases h
 exact ⟨a1, a2, a3, a4, a5, a6, a7, Zyj h1, Zyj h2, Zyj h3, Zyj h4, Zyj h5, Zyj h6, Zyj h7, Z73 h8⟩
def Zzj (r : Int × Int × Int × Int × Int × Int × Int × Str) : Str := Zw r.1 ++ Zw r.2.1 ++ Zw r.2.2.1 ++ Zw r.2.2.2.1 ++ Zw r.2.2.2.2.1 ++ Zw r.2.2.2.2.2.1 ++ Zw r.2.2.2.2.2.2.1 ++ Zgd r.2.2.2.2.2.2.2
theorem Zz7 {s : Str} {r : Int × Int × Int × Int × Int × Int × Int × Str} {d : Nat} (h : stZ s = some (r, d)) : Zzj r = s ↔ d = s.length := by
 obtain ⟨a1, a2, a3, a4, a5, a6, a7, g1, g2, g3, g4, g5, g6, g7, g8⟩ := Z62 h
 have e0 : s = Zzj r ++ s.drop d := by
  have h1 := g1.eq
  rw [List.drop_zero, g2.eq, g3.eq, g4.eq, g5.eq, g6.eq, g7.eq, g8.eq] at h1
  unfold Zzj
  simp only [List.append_assoc]
  exact h1
 have hl : d = (Zzj r).length := by
  have := g1.at'; have := g2.at'; have := g3.at'; have := g4.at'; have := g5.at'; have := g6.at'; have := g7.at'; have := g8.at'
  unfold Zzj
  simp only [List.length_append]
  omega
 constructor
 ·intro h
  rw [hl, h]
 ·intro h
  rw [h, List.drop_length, List.append_nil] at e0
  exact e0.symm
def Ztl (s : Str) : Option (Int × Int × Int × Int × Int × Str × Nat × Nat) := match stZ s with
 | some (r, d) => if d = s.length ∧ (0 ≤ r.2.2.2.2.2.1 ∧ r.2.2.2.2.2.1 < 16777216) ∧ (0 ≤ r.2.2.2.2.2.2.1 ∧ r.2.2.2.2.2.2.1 < 16777216) ∧ Zwj r.1 r.2.1 r.2.2.1 r.2.2.2.1 r.2.2.2.2.1 r.2.2.2.2.2.2.2 r.2.2.2.2.2.1.toNat r.2.2.2.2.2.2.1.toNat = true
  then some (r.1, r.2.1, r.2.2.1, r.2.2.2.1, r.2.2.2.2.1, r.2.2.2.2.2.2.2, r.2.2.2.2.2.1.toNat, r.2.2.2.2.2.2.1.toNat) else none
 | none => none
theorem Zkbb (s : Str) (hs : s.length ≤ 8000) : Ze fun k => Ztg k s = some (match Ztl s with
  | some (a, b, c, d, e, m, v, w) => (a, b, c, d, e, m, Zo v, Zo w, true)
  | none => (0, 0, 0, 0, 0, [], [], [], false)) := by
 obtain ⟨v1, v2, v3, v4, v5, v6, v7, v8, hE, hc⟩ := Zyab s hs
 refine (hE.and (Ze.ge 100 fun k hk => hk)).mono fun k ⟨⟨q1, q2, q3, q4, q5, q6, q7, q8⟩, hk⟩ => ?_
 unfold Ztg
 refine Zb q1 (Zb q2 (Zb q3 (Zb q4 (Zb q5 (Zb q6 (Zb q7 (Zb q8 ?_)))))))
 unfold Ztl
 rcases hc with ⟨d, hz, h8⟩ | ⟨hz, h8⟩
 ·rw [hz, h8]
  simp only [Bool.false_or]
  by_cases hd : d = s.length
  ·rw [show (((d : Nat) : Int) != (s.length : Int)) = false by rw [hd]; simp, cond_false]
   have W : ∀ a b c : Int, Zgb a b c = some (decide (b ≤ a) && decide (a ≤ c)) := fun _ _ _ => rfl
   refine Zb (W _ _ _) ?_
   by_cases c6 : 0 ≤ v6.1 ∧ v6.1 < 16777216
   ·rw [decide_eq_true c6.1, decide_eq_true (by omega : v6.1 ≤ 16777215)]
    simp only [Bool.and_self, Bool.not_true, cond_false]
    refine Zb (W _ _ _) ?_
    by_cases c7 : 0 ≤ v7.1 ∧ v7.1 < 16777216
    ·rw [decide_eq_true c7.1, decide_eq_true (by omega : v7.1 ≤ 16777215)]
     simp only [Bool.and_self, Bool.not_true, cond_false]
     have f6 := Z64 v6.1.toNat (by omega) k (by omega)
     have f7 := Z64 v7.1.toNat (by omega) k (by omega)
     rw [Int.toNat_of_nonneg c6.1] at f6
     rw [Int.toNat_of_nonneg c7.1] at f7
     refine Zb f6 (Zb f7 (Zb (Zycb v1.1 v2.1 v3.1 v4.1 v5.1 v8.1 v6.1.toNat v7.1.toNat (by omega) (by omega) k (by omega)) ?_))
     cases hb : Zwj v1.1 v2.1 v3.1 v4.1 v5.1 v8.1 v6.1.toNat v7.1.toNat with
     | true =>
      rw [if_pos ⟨hd, c6, c7, rfl⟩]
      rfl
     | false =>
      rw [if_neg (fun q => by cases q.2.2.2)]
      rfl
    ·rw [if_neg (fun q => c7 q.2.2.1)]
     by_cases z : 0 ≤ v7.1
     ·rw [decide_eq_true z, decide_eq_false (by omega : ¬ v7.1 ≤ 16777215)]; rfl
     ·rw [decide_eq_false z]; rfl
   ·rw [if_neg (fun q => c6 q.2.1)]
    by_cases z : 0 ≤ v6.1
    ·rw [decide_eq_true z, decide_eq_false (by omega : ¬ v6.1 ≤ 16777215)]; rfl
    ·rw [decide_eq_false z]; rfl
  ·rw [show (((d : Nat) : Int) != (s.length : Int)) = true by simp; omega, if_neg (fun q => hd q.1)]
   rfl
 ·rw [hz, h8]
  rfl
theorem Zv0 {a b : Int} (ha : Num a) (hb : Num b) {x y : Str} (h : Zw a ++ x = Zw b ++ y) : a = b := by
 have h1 := Zdq a ha (Zw a ++ x) 0 x (by rw [List.drop_zero])
 have h2 := Zdq b hb (Zw a ++ x) 0 y (by rw [List.drop_zero, h])
 rw [h1] at h2
 injection h2
theorem Zt9 : Zo 0 = [] := by decide
theorem Zot {n : Nat} (h : n < 16777216) : Num (n : Int) := ⟨by omega, by omega⟩
theorem sL12 (op part steps slots moves : Int) (mem : Str) (v w : Nat) (h1 : Num op) (h2 : Num part) (h3 : Num steps) (h4 : Num slots) (h5 : Num moves) (hv : v < 16777216) (hw : w < 16777216) (hm : mem.length ≤ 8000) :
  Ze fun k => Zdg k (stT op part steps slots moves mem v w) = some (Zzj (op, part, steps, slots, moves, (v : Int), (w : Int), mem)) := by
 have l1 := Zgh op
 have l2 := Zgh part
 have l3 := Zgh steps
 have l4 := Zgh slots
 have l5 := Zgh moves
 have l6 := Zgh (v : Int)
 have l7 := Zgh (w : Int)
 have l8 := Z2q mem
 refine (((((((((Zoj op h1).and (Zoj part h2)).and (Zoj steps h3)).and (Zoj slots h4)).and (Zoj moves h5)).and (Zoj (v : Int) (Zot hv))).and (Zoj (w : Int) (Zot hw))).and (Zxv mem hm)).and (Ze.ge 100 fun k hk => hk)).mono fun k ⟨⟨⟨⟨⟨⟨⟨⟨q1, q2⟩, q3⟩, q4⟩, q5⟩, q6⟩, q7⟩, q8⟩, hk⟩ => ?_
 unfold Zdg stT
 refine Zb q1 (Zb q2 (Zb (Zkf (by omega)) (Zb q3 (Zb (Zkf (by simp; omega)) (Zb q4 (Zb (Zkf (by simp; omega)) (Zb q5 (Zb (Zkf (by simp; omega)) ?_))))))))
 refine Zb (Zm0 v hv k (by omega)) (Zb q6 (Zb (Zkf (by simp; omega)) (Zb (Zm0 w hw k (by omega)) (Zb q7 (Zb (Zkf (by simp; omega)) (Zb q8 (Zb (Zkf (by simp; omega)) rfl)))))))
theorem Zwdb (op part steps slots moves : Int) (mem : Str) (v w : Nat) (h1 : Num op) (h2 : Num part) (h3 : Num steps) (h4 : Num slots) (h5 : Num moves) (hv : v < 16777216) (hw : w < 16777216) (hm : mem.length ≤ 8000) :
  Ze fun k => Zhg k (stT op part steps slots moves mem v w) = some (if Zwj op part steps slots moves mem v w = true then Zzj (op, part, steps, slots, moves, (v : Int), (w : Int), mem) else []) := by
 refine ((sL12 op part steps slots moves mem v w h1 h2 h3 h4 h5 hv hw hm).and (Ze.ge 100 fun k hk => hk)).mono fun k ⟨q, hk⟩ => ?_
 unfold Zhg
 refine Zb (Z17 op part steps slots moves mem v w hv hw hk) ?_
 cases Zwj op part steps slots moves mem v w with
 | true =>
  simp only [Bool.not_true, cond_false, if_true]
  exact Zb q rfl
 | false => rfl
def Zvi (n : Int) : Nat := if 0 ≤ n ∧ n < 16777216 then n.toNat else 0
theorem Zno (n : Int) : Zvi n < 16777216 := by unfold Zvi; split <;> omega
theorem Znt (n : Int) {k : Nat} (hk : 24 < k) : Zqb k n = some (Zo (Zvi n)) := by
 unfold Zvi
 by_cases h : 0 ≤ n ∧ n < 16777216
 ·rw [if_pos h]
  have := Z9db n.toNat (by omega) k hk
  rwa [Int.toNat_of_nonneg h.1] at this
 ·rw [if_neg h, Z3cb n (by omega) k, Zt9]
theorem Ze8 {r : Int × Int × Int × Int × Int × Int × Int × Str} {a b : Int} {z : Str} (h6 : Num r.2.2.2.2.2.1) (h7 : Num r.2.2.2.2.2.2.1) (ha : Num a) (hb : Num b) (h : Zzj (r.1, r.2.1, r.2.2.1, r.2.2.2.1, r.2.2.2.2.1, a, b, r.2.2.2.2.2.2.2) = Zzj r ++ z) : a = r.2.2.2.2.2.1 ∧ b = r.2.2.2.2.2.2.1 := by
 unfold Zzj at h
 simp only [List.append_assoc, List.append_cancel_left_eq] at h
 have e1 := Zv0 ha h6 h
 rw [e1] at h
 simp only [List.append_cancel_left_eq] at h
 exact ⟨e1, Zv0 hb h7 h⟩
theorem Zdcb (s : Str) (hs : s.length ≤ 8000) : Ze fun k => Ztf k s = some (match Ztl s with
  | some (a, b, c, d, e, m, v, w) => (a, b, c, d, e, m, Zo v, Zo w, 0)
  | none => (0, 0, 0, 0, 0, [], [], [], 3)) := by
 obtain ⟨v1, v2, v3, v4, v5, v6, v7, v8, hE, hc⟩ := Zd8 s hs
 unfold Ztl
 rcases hc with ⟨d, hz, h8⟩ | ⟨hz, h8⟩
 ·obtain ⟨a1, a2, a3, a4, a5, a6, a7, g1, g2, g3, g4, g5, g6, g7, g8⟩ := Z62 hz
  have hb := Zwdb v1.1 v2.1 v3.1 v4.1 v5.1 v8.1 (Zvi v6.1) (Zvi v7.1) g1.range g2.range g3.range g4.range g5.range (Zno _) (Zno _) g8.size
  refine ((hE.and hb).and (Ze.ge 100 fun k hk => hk)).mono fun k ⟨⟨⟨q1, q2, q3, q4, q5, q6, q7, q8⟩, hb⟩, hk⟩ => ?_
  unfold Ztf
  rw [decide_eq_false (by omega : ¬ (8000 : Int) < (s.length : Int)), cond_false]
  refine Zb q1 (Zb q2 (Zb q3 (Zb q4 (Zb q5 (Zb q6 (Zb (Znt v6.1 (by omega)) (Zb q7 (Zb (Znt v7.1 (by omega)) (Zb q8 ?_)))))))))
  rw [h8]
  simp only [cond_false]
  refine Zb hb ?_
  rw [hz, Zym]
  dsimp only
  have hw := Zz7 hz
  have hpos : 1 ≤ s.length := by
   have p1 := g1.le
   have p2 := Zly v1.1
   have p3 := g1.at'
   dsimp only at p1 p2 p3
   omega
  by_cases c : (0 ≤ v6.1 ∧ v6.1 < 16777216) ∧ (0 ≤ v7.1 ∧ v7.1 < 16777216)
  ·have e6 : Zvi v6.1 = v6.1.toNat := by unfold Zvi; rw [if_pos c.1]
   have e7 : Zvi v7.1 = v7.1.toNat := by unfold Zvi; rw [if_pos c.2]
   rw [e6, e7, Int.toNat_of_nonneg c.1.1, Int.toNat_of_nonneg c.2.1]
   cases hB : Zwj v1.1 v2.1 v3.1 v4.1 v5.1 v8.1 v6.1.toNat v7.1.toNat with
   | true =>
    rw [if_pos rfl]
    by_cases hd : d = s.length
    ·rw [decide_eq_true (hw.2 hd), if_pos ⟨hd, c.1, c.2, rfl⟩]
     rfl
    ·rw [decide_eq_false (fun q => hd (hw.1 q)), if_neg (fun q => hd q.1)]
     rfl
   | false =>
    rw [if_neg (by simp), if_neg (fun q => by cases q.2.2.2), decide_eq_false (fun q => by rw [← q] at hpos; simp at hpos)]
    rfl
  ·have hne : ¬ ((if Zwj v1.1 v2.1 v3.1 v4.1 v5.1 v8.1 (Zvi v6.1) (Zvi v7.1) = true then Zzj (v1.1, v2.1, v3.1, v4.1, v5.1, ((Zvi v6.1 : Nat) : Int), ((Zvi v7.1 : Nat) : Int), v8.1) else []) = s) := by
    intro q
    split at q
    ·have e0 : s = Zzj (v1.1, v2.1, v3.1, v4.1, v5.1, v6.1, v7.1, v8.1) ++ s.drop d := by
      have h1 := g1.eq
      rw [List.drop_zero, g2.eq, g3.eq, g4.eq, g5.eq, g6.eq, g7.eq, g8.eq] at h1
      unfold Zzj
      simp only [List.append_assoc]
      exact h1
     have := Ze8 (r := (v1.1, v2.1, v3.1, v4.1, v5.1, v6.1, v7.1, v8.1)) (z := s.drop d) g6.range g7.range (Zot (Zno v6.1)) (Zot (Zno v7.1)) (q.trans e0)
     have b6 := Zno v6.1
     have b7 := Zno v7.1
     obtain ⟨e6, e7⟩ := this
     have e6 : ((Zvi v6.1 : Nat) : Int) = v6.1 := e6
     have e7 : ((Zvi v7.1 : Nat) : Int) = v7.1 := e7
     omega
    ·rw [← q] at hpos
     simp at hpos
   rw [decide_eq_false hne, if_neg (fun q => c ⟨q.2.1, q.2.2.1⟩)]
   rfl
 ·refine (hE.and (Ze.ge 100 fun k hk => hk)).mono fun k ⟨⟨q1, q2, q3, q4, q5, q6, q7, q8⟩, hk⟩ => ?_
  unfold Ztf
  rw [decide_eq_false (by omega : ¬ (8000 : Int) < (s.length : Int)), cond_false]
  refine Zb q1 (Zb q2 (Zb q3 (Zb q4 (Zb q5 (Zb q6 (Zb (Znt v6.1 (by omega)) (Zb q7 (Zb (Znt v7.1 (by omega)) (Zb q8 ?_)))))))))
  rw [h8, hz]
  rfl
end Go.Proofs.YtfbancgdmghnkaaGreatDoorE
namespace Go.Proofs.YtfbancgdmghnkaaGreatDoorE
open Go
set_option linter.unusedVariables false
abbrev StV := Int × Int × Int × Int × Int × Str × Nat × Nat
def stM (m : Zxd) : Option StV := if (1 ≤ m.1 ∧ m.1 ≤ 8) ∧ Zgj m.2 = true ∧ (m.2.1.length : Int) = m.1 + 27 then (if (Z2h m.2).2.2.1 = 0 then Ztl (Z2h m.2).2.1 else none) else none
theorem Zn4 (f : Zrg) : (Z2h f).2.1.length ≤ 80 := by
 unfold Z2h
 split
 ·exact Zg4 _
 ·split
  ·exact Zg4 _
  ·simp
theorem Zc5 (f : Zrg) : (Z2h f).2.2.2 < 0 ↔ (Z2h f).2.2.1 ≠ 0 := by
 unfold Z2h
 split
 ·rename_i h
  simp [h.1]
 ·split
  ·rename_i h
   simp [h]
  ·simp
def Zzn : Option StV → Int × Int × Int × Int × Int × Str × List Int × List Int × Bool
 | some (a, b, c, d, e, m, v, w) => (a, b, c, d, e, m, Zo v, Zo w, true)
 | none => (0, 0, 0, 0, 0, [], [], [], false)
theorem Zdy (m : Zxd) (hl : m.2.1.length ≤ 1048576) (hl2 : m.2.2.length ≤ 1048576) : Ze fun k => Z4d k m = some (Zzn (stM m)) := by
 have hb : Z7d m.1 = some (decide (1 ≤ m.1) && decide (m.1 ≤ 8)) := rfl
 unfold stM
 by_cases c1 : 1 ≤ m.1 ∧ m.1 ≤ 8
 ·cases c2 : Zgj m.2 with
  | false =>
   refine (Ze.ge 1048577 fun k hk => hk).mono fun k hk => ?_
   unfold Z4d
   refine Zb hb ?_
   rw [decide_eq_true c1.1, decide_eq_true c1.2]
   refine Zb (Z3x m.2 hl hl2 hk) ?_
   rw [c2, if_neg (fun q => by cases q.2.1)]
   rfl
  | true =>
   have hz : Zqd m.2.1 = some (m.2.1.length : Int) := rfl
   have hw : IntKind.wrap .i64 ((IntKind.wrap .i64 (3 + m.1)) + 24) = m.1 + 27 := by rw [w64 (n := 3 + m.1) (by omega) (by omega), w64 (by omega) (by omega)]; omega
   by_cases c3 : (m.2.1.length : Int) = m.1 + 27
   ·refine (((Zhab c2 (by omega)).and (Zkbb (Z2h m.2).2.1 (by have := Zn4 m.2; omega))).and (Ze.ge 1048577 fun k hk => hk)).mono fun k ⟨⟨h1, h2⟩, hk⟩ => ?_
    unfold Z4d
    refine Zb hb ?_
    rw [decide_eq_true c1.1, decide_eq_true c1.2]
    refine Zb (Z3x m.2 hl hl2 hk) ?_
    rw [c2, Bool.not_true, cond_false]
    refine Zb hz ?_
    rw [hw, show ((m.2.1.length : Int) != m.1 + 27) = false by simpa using c3, if_pos ⟨c1, rfl, c3⟩]
    refine Zb h1 ?_
    by_cases c4 : (Z2h m.2).2.2.1 = 0
    ·rw [if_pos c4, decide_eq_false (fun q => (Zc5 m.2).1 q c4)]
     refine Zb h2 ?_
     cases Ztl (Z2h m.2).2.1 <;> rfl
    ·rw [if_neg c4, decide_eq_true ((Zc5 m.2).2 c4)]
     rfl
   ·refine (Ze.ge 1048577 fun k hk => hk).mono fun k hk => ?_
    unfold Z4d
    refine Zb hb ?_
    rw [decide_eq_true c1.1, decide_eq_true c1.2]
    refine Zb (Z3x m.2 hl hl2 hk) ?_
    rw [c2, Bool.not_true, cond_false]
    refine Zb hz ?_
    rw [hw, show ((m.2.1.length : Int) != m.1 + 27) = true by simpa using c3, if_neg (fun q => c3 q.2.2)]
    rfl
 ·refine Ze.of fun k => ?_
  unfold Z4d
  refine Zb hb ?_
  have : (decide (1 ≤ m.1) && decide (m.1 ≤ 8)) = false := by
   rw [Bool.and_eq_false_iff, decide_eq_false_iff_not, decide_eq_false_iff_not]
   exact Classical.not_and_iff_not_or_not.1 c1
  rw [this, if_neg (fun q => c1 q.1)]
  rfl
theorem Ztx (m : Zxd) (hl : m.2.1.length ≤ 1048576) (hl2 : m.2.2.length ≤ 1048576) : Ze fun k => Z3d k m = some (Zzn (stM m)) := by
 have hb : Znb m.1 1 8 = some (decide (1 ≤ m.1) && decide (m.1 ≤ 8)) := rfl
 unfold stM
 by_cases c1 : 1 ≤ m.1 ∧ m.1 ≤ 8
 ·cases c2 : Zgj m.2 with
  | false =>
   refine (Ze.ge 1048577 fun k hk => hk).mono fun k hk => ?_
   unfold Z3d
   refine Zb hb ?_
   rw [decide_eq_true c1.1, decide_eq_true c1.2]
   refine Zb (Z7u m.2 hl hl2 hk) ?_
   rw [c2, if_neg (fun q => by cases q.2.1)]
   rfl
  | true =>
   have hw : IntKind.wrap .i64 ((IntKind.wrap .i64 (3 + m.1)) + 24) = m.1 + 27 := by rw [w64 (n := 3 + m.1) (by omega) (by omega), w64 (by omega) (by omega)]; omega
   by_cases c3 : (m.2.1.length : Int) = m.1 + 27
   ·refine (((Z8bb c2 (by omega)).and (Zdcb (Z2h m.2).2.1 (by have := Zn4 m.2; omega))).and (Ze.ge 1048577 fun k hk => hk)).mono fun k ⟨⟨h1, h2⟩, hk⟩ => ?_
    unfold Z3d
    refine Zb hb ?_
    rw [decide_eq_true c1.1, decide_eq_true c1.2]
    refine Zb (Z7u m.2 hl hl2 hk) ?_
    rw [c2, hw, show ((m.2.1.length : Int) != m.1 + 27) = false by simpa using c3, if_pos ⟨c1, rfl, c3⟩]
    refine Zb h1 ?_
    by_cases c4 : (Z2h m.2).2.2.1 = 0
    ·rw [if_pos c4, show ((Z2h m.2).2.2.1 != 0) = false by simpa using c4]
     refine Zb h2 ?_
     cases Ztl (Z2h m.2).2.1 <;> rfl
    ·rw [if_neg c4, show ((Z2h m.2).2.2.1 != 0) = true by simpa using c4]
     rfl
   ·refine (Ze.ge 1048577 fun k hk => hk).mono fun k hk => ?_
    unfold Z3d
    refine Zb hb ?_
    rw [decide_eq_true c1.1, decide_eq_true c1.2]
    refine Zb (Z7u m.2 hl hl2 hk) ?_
    rw [c2, hw, show ((m.2.1.length : Int) != m.1 + 27) = true by simpa using c3, if_neg (fun q => c3 q.2.2)]
    rfl
 ·refine Ze.of fun k => ?_
  unfold Z3d
  refine Zb hb ?_
  have : (decide (1 ≤ m.1) && decide (m.1 ≤ 8)) = false := by
   rw [Bool.and_eq_false_iff, decide_eq_false_iff_not, decide_eq_false_iff_not]
   exact Classical.not_and_iff_not_or_not.1 c1
  rw [this, if_neg (fun q => c1 q.1)]
  rfl
end Go.Proofs.YtfbancgdmghnkaaGreatDoorE
namespace Go.Proofs.YtfbancgdmghnkaaGreatDoorE
open Go
set_option linter.unusedVariables false
def Zxf (m : Zxd) : List Str := (List.range m.1.toNat).map fun (i : Nat) => Zed m.2 (3 + (i : Int))
theorem Zw4 {α : Type} (f : Nat → α) (i : Nat) : (List.range (i + 1)).map f = (List.range i).map f ++ [f i] := by
 rw [List.range_succ, List.map_append]
 rfl
theorem Z01 {m : Zxd} (h1 : 0 ≤ m.1 ∧ m.1 ≤ 8) (hl : m.1 + 3 ≤ (m.2.1.length : Int)) (hl2 : m.2.2.length ≤ 1048576) {k : Nat} (hk : 1048577 ≤ k) : Zbc k m = some (Zxf m) := by
 have h := Zod (fun j i => Zbc.l0 k j m.1 m.2.1 m.2.2 m.1 (i : Int) ((List.range i).map fun (i : Nat) => Zed m.2 (3 + (i : Int)))) m.1.toNat (Zxf m) (fun i hi j => ?_) (fun j => ?_) k (by omega)
 ·have h : Zbc.l0 k k m.1 m.2.1 m.2.2 m.1 0 [] = some (Zxf m) := h
  unfold Zbc
  exact Zb h rfl
 ·have r : Zvd k (m.2.1, m.2.2) (3 + (i : Int)) = some (Zed m.2 (3 + (i : Int))) := Zws m.2 _ hl2 (by omega) (by omega) (by omega)
  conv => lhs; unfold Zbc.l0
  rw [decide_eq_true (by omega : (i : Int) < m.1), w64 (n := 3 + (i : Int)) (by omega) (by omega), Zbb (by omega), cond_true]
  refine Zb r (Zb (Zfh (by simp; omega)) ?_)
  rw [Zw4]
 ·conv => lhs; unfold Zbc.l0
  rw [decide_eq_false (by omega : ¬ ((m.1.toNat : Nat) : Int) < m.1)]
  rfl
theorem Zw2 {m : Zxd} (h1 : 0 ≤ m.1 ∧ m.1 ≤ 8) (hl : m.1 + 3 ≤ (m.2.1.length : Int)) (hl2 : m.2.2.length ≤ 1048576) {k : Nat} (hk : 1048577 ≤ k) : Zec k m = some (Zxf m) := by
 have h := Zod (fun j i => Zec.l0 k j m.1 m.2.1 m.2.2 (i : Int) ((List.range i).map fun (i : Nat) => Zed m.2 (3 + (i : Int)))) m.1.toNat (Zxf m) (fun i hi j => ?_) (fun j => ?_) k (by omega)
 ·have h : Zec.l0 k k m.1 m.2.1 m.2.2 0 [] = some (Zxf m) := h
  unfold Zec
  exact Zb h rfl
 ·have r : Zab k (m.2.1, m.2.2) (3 + (i : Int)) = some (Zed m.2 (3 + (i : Int))) := Zgs m.2 _ hl2 (by omega) (by omega) (by omega)
  conv => lhs; unfold Zec.l0
  rw [decide_eq_true (by omega : (i : Int) < m.1), w64 (n := 3 + (i : Int)) (by omega) (by omega), Zbb (by omega), cond_true]
  refine Zb r (Zb (Zfh (by simp; omega)) ?_)
  rw [Zw4]
 ·conv => lhs; unfold Zec.l0
  rw [decide_eq_false (by omega : ¬ ((m.1.toNat : Nat) : Int) < m.1)]
  rfl
end Go.Proofs.YtfbancgdmghnkaaGreatDoorE
namespace Go.Proofs.YtfbancgdmghnkaaGreatDoorE
open Go
set_option linter.unusedVariables false
theorem Zz0 (t : Str) (h : t.length ≤ 8000) (s : Str) (a : Nat) (r : Str) (hs : s.drop a = Zgd t ++ r) : Zei s a = (t, ((a + (Zgd t).length : Nat) : Int), 0) := by
 unfold Zgd at hs
 rw [List.append_assoc] at hs
 have e := Zdq (t.length : Int) ⟨by omega, by omega⟩ s a (t ++ r) hs
 have hlen := congrArg List.length hs
 rw [List.length_drop, List.length_append, List.length_append] at hlen
 have hp := Zly (t.length : Int)
 unfold Zei
 rw [e]
 simp only [if_true]
 rw [if_pos ⟨by omega, by omega⟩, if_neg (by omega)]
 have e1 : (((a + (Zw (t.length : Int)).length : Nat) : Int) + (t.length : Int)).toNat = a + (Zw (t.length : Int)).length + t.length := by omega
 rw [e1, Int.toNat_natCast, List.drop_take, Nat.add_sub_cancel_left, ← List.drop_drop, hs, List.drop_left, List.take_left]
 unfold Zgd
 rw [List.length_append]
 congr 2
 push_cast
 omega
theorem Zrw (n : Int) (h : Num n) (s : Str) (a : Nat) (t : Str) (hs : s.drop a = Zw n ++ t) : Zoc s a = (n, s, ((a + (Zw n).length : Nat) : Int), false) := by
 unfold Zoc
 rw [Zdq n h s a t hs]
 rfl
theorem Z2ab (x y z : Int) (t : Str) (hx : Num x) (hy : Num y) (hz : Num z) (ht : t.length ≤ 8000) : Zfj (Zw x ++ Zw y ++ Zw z ++ Zgd t) = some (x, y, z, t, (Zw x ++ Zw y ++ Zw z ++ Zgd t).length) := by
 generalize hs : Zw x ++ Zw y ++ Zw z ++ Zgd t = s
 have d0 : s.drop 0 = Zw x ++ (Zw y ++ Zw z ++ Zgd t) := by rw [← hs]; simp
 have n1 := Zrw x hx s 0 _ d0
 rw [Nat.zero_add] at n1
 have d1 : s.drop (Zw x).length = Zw y ++ (Zw z ++ Zgd t) := by rw [← hs]; simp
 have n2 := Zrw y hy s _ _ d1
 have d2 : s.drop ((Zw x).length + (Zw y).length) = Zw z ++ Zgd t := by rw [← hs, ← List.length_append]; simp
 have n3 := Zrw z hz s _ _ d2
 have d3 : s.drop ((Zw x).length + (Zw y).length + (Zw z).length) = Zgd t ++ [] := by rw [← hs, ← List.length_append, ← List.length_append]; simp
 have n4 := Zz0 t ht s _ _ d3
 have n4' : Zqe s ((Zw x).length + (Zw y).length + (Zw z).length) = (t, s, (((Zw x).length + (Zw y).length + (Zw z).length + (Zgd t).length : Nat) : Int), false) := by
  unfold Zqe
  rw [n4]
  rfl
 have hl : s.length = (Zw x).length + (Zw y).length + (Zw z).length + (Zgd t).length := by rw [← hs]; simp only [List.length_append]
 unfold Zfj
 rw [n1]
 simp only [Int.toNat_natCast, Bool.false_eq_true, if_false]
 rw [n2]
 simp only [Int.toNat_natCast, Bool.false_eq_true, if_false]
 rw [n3]
 simp only [Int.toNat_natCast, Bool.false_eq_true, if_false]
 rw [n4']
 simp only [Int.toNat_natCast, Bool.false_eq_true, if_false]
 rw [hl]
end Go.Proofs.YtfbancgdmghnkaaGreatDoorE
namespace Go.Proofs.YtfbancgdmghnkaaGreatDoorE
open Go
set_option linter.unusedVariables false
def Z9j (s : Str) (a : Nat) : Option ((Int × Int × Int × Str) × Nat) :=
 (Z9c s a).bind fun x =>
 (Z9c s x.2).bind fun y =>
 (Z9c s y.2).bind fun z =>
 (Zbi s z.2).map fun t => ((x.1, y.1, z.1, t.1), t.2)
def Zuj (x y z : Int) (t : Str) : Str := Zw x ++ Zw y ++ Zw z ++ Zgd t
theorem Zvdb {s : Str} {a : Nat} {x y z : Int} {t : Str} {d : Nat} (h : Z9j s a = some ((x, y, z, t), d)) : ∃ b c e, Got s a x b ∧ Got s b y c ∧ Got s c z e ∧ GotT s e t d := by
 unfold Z9j at h
 obtain ⟨⟨n1, a1⟩, h1, h⟩ := Option.bind_eq_some_iff.1 h
 obtain ⟨⟨n2, a2⟩, h2, h⟩ := Option.bind_eq_some_iff.1 h
 obtain ⟨⟨n3, a3⟩, h3, h⟩ := Option.bind_eq_some_iff.1 h
 obtain ⟨⟨t', d'⟩, h8, h⟩ := Option.map_eq_some_iff.1 h
 cases h
 exact ⟨a1, a2, a3, Zyj h1, Zyj h2, Zyj h3, Z73 h8⟩
theorem Z51 {s : Str} {a : Nat} {x y z : Int} {t : Str} {d : Nat} (h : Z9j s a = some ((x, y, z, t), d)) : s.drop a = Zuj x y z t ++ s.drop d ∧ d = a + (Zuj x y z t).length ∧ Num x ∧ Num y ∧ Num z ∧ t.length ≤ 8000 ∧ d ≤ s.length := by
 obtain ⟨b, c, e, g1, g2, g3, g4⟩ := Zvdb h
 refine ⟨?_, ?_, g1.range, g2.range, g3.range, g4.size, g4.le⟩
 ·have h1 := g1.eq
  rw [g2.eq, g3.eq, g4.eq] at h1
  unfold Zuj
  simp only [List.append_assoc]
  exact h1
 ·have := g1.at'; have := g2.at'; have := g3.at'; have := g4.at'
  unfold Zuj
  simp only [List.length_append]
  omega
theorem Ziv {s : Str} {a : Nat} {n : Int} (h : Num n) {t : Str} (hs : s.drop a = Zw n ++ t) : Z9c s a = some (n, a + (Zw n).length) := by
 unfold Z9c
 rw [Zdq n h s a t hs]
 rfl
theorem Z07 {s : Str} {a : Nat} {x : Str} (h : x.length ≤ 8000) {t : Str} (hs : s.drop a = Zgd x ++ t) : Zbi s a = some (x, a + (Zgd x).length) := by
 unfold Zbi
 rw [Zz0 x h s a t hs]
 rfl
theorem Zjp (s : Str) (a : Nat) (ha : a ≤ s.length) (x y z : Int) (t : Str) : Zui (s.drop a) = some (x, y, z, t) ↔ Z9j s a = some ((x, y, z, t), s.length) ∧ Zli x y z t 8 = true := by
 constructor
 ·intro h
  have hr := Zu8 h
  unfold Zui at h
  cases hq : Zfj (s.drop a) with
  | none => rw [hq] at h; cases h
  | some q =>
   obtain ⟨x', y', z', t', d⟩ := q
   rw [hq] at h
   dsimp only at h
   split at h
   ·rename_i hc
    cases h
    obtain ⟨b, c, e, g1, g2, g3, g4⟩ := Zv2 hq
    have hb : Zuj x y z t = s.drop a := (Znz g1 g2 g3 g4).2 hc.1
    refine ⟨?_, hr⟩
    have e0 : s.drop a = Zw x ++ (Zw y ++ (Zw z ++ (Zgd t ++ []))) := by
     rw [← hb]
     unfold Zuj
     simp only [List.append_assoc, List.append_nil]
    have n1 := Ziv g1.range e0
    have e1 : s.drop (a + (Zw x).length) = Zw y ++ (Zw z ++ (Zgd t ++ [])) := by rw [← List.drop_drop, e0, List.drop_left]
    have n2 := Ziv g2.range e1
    have e2 : s.drop (a + (Zw x).length + (Zw y).length) = Zw z ++ (Zgd t ++ []) := by rw [← List.drop_drop, e1, List.drop_left]
    have n3 := Ziv g3.range e2
    have e3 : s.drop (a + (Zw x).length + (Zw y).length + (Zw z).length) = Zgd t ++ [] := by rw [← List.drop_drop, e2, List.drop_left]
    have n4 := Z07 g4.size e3
    have hl := congrArg List.length e0
    simp only [List.length_drop, List.length_append, List.length_nil] at hl
    unfold Z9j
    simp only [n1, n2, n3, n4, Option.bind_some, Option.map_some]
    congr 2
    omega
   ·cases h
 ·rintro ⟨h, hr⟩
  obtain ⟨h1, h2, n1, n2, n3, n4, _⟩ := Z51 h
  rw [List.drop_length, List.append_nil] at h1
  unfold Zui
  rw [h1]
  have := Z2ab x y z t n1 n2 n3 n4
  unfold Zuj
  rw [this]
  dsimp only
  rw [if_pos ⟨rfl, hr⟩]
end Go.Proofs.YtfbancgdmghnkaaGreatDoorE
namespace Go.Proofs.YtfbancgdmghnkaaGreatDoorE
open Go
set_option linter.unusedVariables false
def Zdf (s : Str) (i : Int) : Int × Int × Int × Str × Int :=
 if (Zth s).2 = 0 then match Z9c (Zq s) 0 with
  | some (n, a) => match Zui ((Zq s).drop a) with
   | some (x, y, z, t) => if 0 ≤ n ∧ n ≤ 1000000 then (if n = i then (x, y, z, t, 0) else (0, 0, 0, [], 6)) else (0, 0, 0, [], 3)
   | none => (0, 0, 0, [], 3)
  | none => (0, 0, 0, [], 3)
 else (0, 0, 0, [], (Zth s).2)
theorem sL06 (x y z : Int) (t : Str) (hx : Num x) (hy : Num y) (hz : Num z) (ht : t.length ≤ 8000) : Ze fun k => Zhe k (x, (y, (z, t))) = some (Zuj x y z t) := by
 have l1 := Zgh x
 have l2 := Zgh y
 have l3 := Zgh z
 have l4 := Z2q t
 refine (Zy4 x y z t hx hy hz ht).mono fun k ⟨h1, h2, h3, h4⟩ => ?_
 unfold Zhe
 exact Zb h1 (Zb h2 (Zb (Zkf (by omega)) (Zb h3 (Zb (Zkf (by simp; omega)) (Zb h4 (Zb (Zkf (by simp; omega)) rfl))))))
theorem Zq8 (n x y z : Int) (t : Str) (hn : Num n) (hx : Num x) (hy : Num y) (hz : Num z) (ht : t.length ≤ 8) (hr : Zli x y z t 8 = true) : Ze fun k => Zsf k n (x, (y, (z, t))) = some (if 0 ≤ n ∧ n ≤ 1000000 then Zhj (Zw n ++ Zuj x y z t) else []) := by
 have W : Znb n 0 1000000 = some (decide (0 ≤ n) && decide (n ≤ 1000000)) := rfl
 have l0 := Zgh n
 have l1 := Zgh x
 have l2 := Zgh y
 have l3 := Zgh z
 have l4 := Z2q t
 have lX : (Zuj x y z t).length ≤ 60 := by unfold Zuj; simp only [List.length_append]; omega
 by_cases c : 0 ≤ n ∧ n ≤ 1000000
 ·refine (((Zoj n hn).and (sL06 x y z t hx hy hz (by omega))).and (Z54 (Zw n ++ Zuj x y z t) (by simp; omega))).mono fun k ⟨⟨h1, h2⟩, h3⟩ => ?_
  unfold Zsf
  refine Zb W ?_
  rw [decide_eq_true c.1, decide_eq_true c.2, if_pos c]
  simp only [Bool.and_self, Bool.not_true, cond_false]
  refine Zb (Z4v x y z t 8 (by omega) (by omega)) ?_
  rw [hr]
  simp only [Bool.not_true, cond_false]
  exact Zb h1 (Zb h2 (Zb (Zkf (by omega)) (Zb h3 rfl)))
 ·refine Ze.of fun k => ?_
  unfold Zsf
  refine Zb W ?_
  have : (decide (0 ≤ n) && decide (n ≤ 1000000)) = false := by
   rw [Bool.and_eq_false_iff, decide_eq_false_iff_not, decide_eq_false_iff_not]
   exact Classical.not_and_iff_not_or_not.1 c
  rw [this, if_neg c]
  rfl
theorem Zybb (s : Str) (hs : s.length ≤ 8000) (i : Int) : Ze fun k => Zfe k s i = some (Zdf s i) := by
 unfold Zdf
 by_cases hu : (Zth s).2 = 0
 ·obtain ⟨e1, e2, e3⟩ := Zzr hu
  have hbl : (Zq s).length ≤ 8000 := by rw [Z3o]; omega
  rw [if_pos hu]
  cases hn : Z9c (Zq s) 0 with
  | none =>
   have h0 : StS (Zq s) (Zq s, ((0 : Nat) : Int), false) (some 0) := ⟨rfl, 0, rfl, by omega, rfl, rfl⟩
   obtain ⟨v4, q4, h4, _⟩ := Z6l hbl h0
   rw [show Zc (Zq s) (some 0) = none by simp [Zc, hn]] at h4
   rcases h4.form with ⟨a, e, _, _⟩ | ⟨a, _, ha, e⟩
   ·cases e
   have hv : Zoc (Zq s) 0 = (0, Zq s, ((0 : Nat) : Int), true) := by
    unfold Z9c at hn
    unfold Zoc
    split at hn
    ·cases hn
    ·rename_i h
     rw [if_neg h]
   have hv0 := Zao (Zq s) 0 (by omega) hbl
   refine (((Zrm s hs).and hv0).and (Zqy (Zq s) hbl)).mono fun k ⟨⟨u, q4⟩, q6⟩ => ?_
   have q4 : Z1c k (Zq s, (0, false)) = some (Zoc (Zq s) 0) := q4
   unfold Zfe
   refine Zb u ?_
   rw [hu, e1]
   refine Zb q4 ?_
   rw [hv]
   have hc : Zkd (Zq s) ((0 : Nat) : Int) ((Zq s).length : Int) = some (Zq s) := by
    have := Zzi (l := Zq s) (i := 0) (j := (Zq s).length) (by omega) (Nat.le_refl _)
    rw [List.take_length] at this
    exact this
   refine Zb hc (Zb q6 ?_)
   rfl
  | some w =>
   obtain ⟨n, a⟩ := w
   have g := Zyj hn
   have hla := g.le
   have hv : Zoc (Zq s) 0 = (n, Zq s, ((a : Nat) : Int), false) := by
    unfold Z9c at hn
    unfold Zoc
    split at hn
    ·rename_i h
     rcases Zek (Zq s) 0 with ⟨n', a', e, g'⟩ | ⟨c, hc, e⟩
     ·rw [e] at hn ⊢
      cases hn
      rfl
     ·rw [e] at h; exact absurd h hc
    ·cases hn
   have hdl : ((Zq s).drop a).length ≤ 8000 := by simp; omega
   have hc : Zkd (Zq s) ((a : Nat) : Int) ((Zq s).length : Int) = some ((Zq s).drop a) := by
    have := Zzi (l := Zq s) (i := a) (j := (Zq s).length) hla (Nat.le_refl _)
    rw [List.take_length] at this
    exact this
   have hv0 := Zao (Zq s) 0 (by omega) hbl
   dsimp only
   cases hst : Zui ((Zq s).drop a) with
   | none =>
    refine (((Zrm s hs).and hv0).and (Zqy ((Zq s).drop a) hdl)).mono fun k ⟨⟨u, q4⟩, q6⟩ => ?_
    have q4 : Z1c k (Zq s, (0, false)) = some (Zoc (Zq s) 0) := q4
    rw [hst] at q6
    have q6 : Zze k ((Zq s).drop a) = some (0, 0, 0, [], 3) := q6
    unfold Zfe
    refine Zb u ?_
    rw [hu, e1]
    refine Zb q4 ?_
    rw [hv]
    refine Zb hc (Zb q6 ?_)
    rfl
   | some st =>
    obtain ⟨x, y, z, t⟩ := st
    obtain ⟨hs1, hr⟩ := (Zjp (Zq s) a hla x y z t).1 hst
    obtain ⟨b1, b2, nx, ny, nz, nt, _⟩ := Z51 hs1
    rw [List.drop_length, List.append_nil] at b1
    have hwhole : Zw n ++ Zuj x y z t = Zq s := by
     have := g.eq
     rw [List.drop_zero, b1] at this
     exact this.symm
    refine ((((Zrm s hs).and hv0).and (Zqy ((Zq s).drop a) hdl)).and (Zq8 n x y z t g.range nx ny nz (Zi8 hr) hr)).mono fun k ⟨⟨⟨u, q4⟩, q6⟩, q7⟩ => ?_
    have q4 : Z1c k (Zq s, (0, false)) = some (Zoc (Zq s) 0) := q4
    rw [hst] at q6
    have q6 : Zze k ((Zq s).drop a) = some (x, y, z, t, 0) := q6
    unfold Zfe
    refine Zb u ?_
    rw [hu, e1]
    refine Zb q4 ?_
    rw [hv]
    refine Zb hc (Zb q6 ?_)
    rw [show (false || ((0 : Int) != 0)) = false from rfl, cond_false]
    refine Zb q7 ?_
    rw [hwhole, e2, Zym]
    dsimp only
    by_cases c : 0 ≤ n ∧ n ≤ 1000000
    ·rw [if_pos c, if_pos c, decide_eq_true rfl]
     simp only [Bool.not_true, cond_false]
     by_cases ci : n = i
     ·rw [if_pos ci, show (n != i) = false by simpa using ci]
      rfl
     ·rw [if_neg ci, show (n != i) = true by simpa using ci]
      rfl
    ·rw [if_neg c, if_neg c, decide_eq_false (fun q => by rw [← q] at e3; simp at e3)]
     rfl
 ·rw [if_neg hu]
  refine (Zrm s hs).mono fun k u => ?_
  unfold Zfe
  refine Zb u ?_
  rw [show ((Zth s).2 != 0) = true by simpa using hu]
  rfl
theorem Za8 {s : Str} (hs : s.length ≤ 8000) {st : Str × Int × Bool} {p : Option Nat} (h : StS s st p) : ∃ v : Int × Int × Int × Str × Str × Int × Bool, (Ze fun k => Z7f k st = some v) ∧
  ((∃ a q d, p = some a ∧ Z9j s a = some (q, d) ∧ v = (q.1, q.2.1, q.2.2.1, q.2.2.2, s, (d : Int), false)) ∨ ((∀ a, p = some a → Z9j s a = none) ∧ v.2.2.2.2.2.2 = true)) := by
 obtain ⟨v1, e1, h1, g1⟩ := Znk hs h
 obtain ⟨v2, e2, h2, g2⟩ := Znk hs h1
 obtain ⟨v3, e3, h3, g3⟩ := Znk hs h2
 obtain ⟨v4, e4, h4, g4⟩ := Zl3 hs h3
 have bad : ∀ {st : Str × Int × Bool}, StS s st none → st.2.2 = true := fun h => h.2.choose_spec.2.2
 refine ⟨(v1.1, v2.1, v3.1, v4.1, v4.2.1, v4.2.2.1, v4.2.2.2), (((e1.and e2).and e3).and e4).mono fun k ⟨⟨⟨q1, q2⟩, q3⟩, q4⟩ => ?_, ?_⟩
 ·unfold Z7f
  exact Zb q1 (Zb q2 (Zb q3 (Zb q4 rfl)))
 clear e1 e2 e3 e4 h h1 h2 h3
 cases p with
 | none =>
  refine .inr ⟨fun a e => (by cases e), bad (st := v4.2) ?_⟩
  have : Z3c s (Zc s (Zc s (Zc s none))) = none := rfl
  rwa [this] at h4
 | some a =>
  cases x1 : Z9c s a with
  | none =>
   refine .inr ⟨fun a' e => by cases e; simp [Z9j, x1], bad (st := v4.2) ?_⟩
   have : Z3c s (Zc s (Zc s (Zc s (some a)))) = none := by simp [Zc, Z3c, x1]
   rwa [this] at h4
  | some y1 =>
  obtain ⟨n1, a1⟩ := y1
  cases x2 : Z9c s a1 with
  | none =>
   refine .inr ⟨fun a' e => by cases e; simp [Z9j, x1, x2], bad (st := v4.2) ?_⟩
   have : Z3c s (Zc s (Zc s (Zc s (some a)))) = none := by simp [Zc, Z3c, x1, x2]
   rwa [this] at h4
  | some y2 =>
  obtain ⟨n2, a2⟩ := y2
  cases x3 : Z9c s a2 with
  | none =>
   refine .inr ⟨fun a' e => by cases e; simp [Z9j, x1, x2, x3], bad (st := v4.2) ?_⟩
   have : Z3c s (Zc s (Zc s (Zc s (some a)))) = none := by simp [Zc, Z3c, x1, x2, x3]
   rwa [this] at h4
  | some y3 =>
  obtain ⟨n3, a3⟩ := y3
  cases x4 : Zbi s a3 with
  | none =>
   refine .inr ⟨fun a' e => by cases e; simp [Z9j, x1, x2, x3, x4], bad (st := v4.2) ?_⟩
   have : Z3c s (Zc s (Zc s (Zc s (some a)))) = none := by simp [Zc, Z3c, x1, x2, x3, x4]
   rwa [this] at h4
  | some y4 =>
   obtain ⟨t, d⟩ := y4
   have p1 : Zc s (some a) = some a1 := by simp [Zc, x1]
   have p2 : Zc s (Zc s (some a)) = some a2 := by simp [Zc, x1, x2]
   have p3 : Zc s (Zc s (Zc s (some a))) = some a3 := by simp [Zc, x1, x2, x3]
   have p4 : Z3c s (Zc s (Zc s (Zc s (some a)))) = some d := by simp [Zc, Z3c, x1, x2, x3, x4]
   have r1 := g1 _ _ _ rfl x1
   have r2 := g2 _ _ _ p1 x2
   have r3 := g3 _ _ _ p2 x3
   have r4 := g4 _ _ _ p3 x4
   refine .inl ⟨a, (n1, n2, n3, t), d, rfl, by simp [Z9j, x1, x2, x3, x4], ?_⟩
   rw [p4] at h4
   rcases h4.form with ⟨b, e, _, q⟩ | ⟨b, e, _, q⟩
   ·cases e
    rw [r1, r2, r3, r4, q]
   ·cases e
theorem Zmeb (s : Str) (hs : s.length ≤ 8000) (i : Int) : Ze fun k => Zaf k s i = some (Zdf s i) := by
 unfold Zdf
 by_cases hu : (Zth s).2 = 0
 ·obtain ⟨e1, e2, e3⟩ := Zzr hu
  have hbl : (Zq s).length ≤ 8000 := by rw [Z3o]; omega
  rw [if_pos hu]
  have h0 : StS (Zq s) (Zq s, ((0 : Nat) : Int), false) (some 0) := ⟨rfl, 0, rfl, by omega, rfl, rfl⟩
  obtain ⟨v4, q4, h4, g4⟩ := Znk hbl h0
  obtain ⟨v5, q5, c5⟩ := Za8 hbl h4
  refine (((Zcr s (by omega)).and q4).and q5).mono fun k ⟨⟨u, q4⟩, q5⟩ => ?_
  unfold Zaf
  refine Zb u ?_
  rw [hu, e1]
  refine Zb q4 (Zb q5 ?_)
  rcases c5 with ⟨a, q, d, hp, hst, hv⟩ | ⟨hno, hv⟩
  ·cases hn : Z9c (Zq s) 0 with
   | none => simp [Zc, hn] at hp
   | some w =>
    obtain ⟨n, a'⟩ := w
    have : a' = a := by simpa [Zc, hn] using hp
    subst this
    have r4 := g4 _ _ _ rfl hn
    have hla := (Zyj hn).le
    obtain ⟨x, y, z, t⟩ := q
    rw [hv, r4]
    dsimp only
    have hT : Z7e n = some (decide (0 ≤ n) && decide (n ≤ 1000000)) := rfl
    by_cases hd : d = (Zq s).length
    ·rw [show (false || (((d : Nat) : Int) != ((Zq s).length : Int))) = false by rw [hd]; simp, cond_false]
     refine Zb hT ?_
     cases hb : Zli x y z t 8 with
     | true =>
      have hso := (Zjp (Zq s) a' hla x y z t).2 ⟨by rw [hst, hd], hb⟩
      rw [hso]
      dsimp only
      by_cases c : 0 ≤ n ∧ n ≤ 1000000
      ·rw [decide_eq_true c.1, decide_eq_true c.2, if_pos c]
       simp only [Bool.and_self, Bool.not_true, cond_false]
       refine Zb (Z5w x y z t 8 (by omega) (by omega)) ?_
       rw [hb]
       simp only [Bool.not_true, cond_false]
       by_cases ci : n = i
       ·rw [if_pos ci, show (n != i) = false by simpa using ci]
        rfl
       ·rw [if_neg ci, show (n != i) = true by simpa using ci]
        rfl
      ·have : (decide (0 ≤ n) && decide (n ≤ 1000000)) = false := by
        rw [Bool.and_eq_false_iff, decide_eq_false_iff_not, decide_eq_false_iff_not]
        exact Classical.not_and_iff_not_or_not.1 c
       rw [this, if_neg c]
       rfl
     | false =>
      have hso : Zui ((Zq s).drop a') = none := by
       cases q : Zui ((Zq s).drop a') with
       | none => rfl
       | some r =>
        obtain ⟨x', y', z', t'⟩ := r
        obtain ⟨k1, k2⟩ := (Zjp (Zq s) a' hla x' y' z' t').1 q
        rw [hst] at k1
        cases k1
        rw [hb] at k2
        cases k2
      rw [hso]
      dsimp only
      cases (decide (0 ≤ n) && decide (n ≤ 1000000)) with
      | false => rfl
      | true =>
       simp only [Bool.not_true, cond_false]
       refine Zb (Z5w x y z t 8 (by omega) (by omega)) ?_
       rw [hb]
       rfl
    ·rw [show (false || (((d : Nat) : Int) != ((Zq s).length : Int))) = true by simp; omega]
     have hso : Zui ((Zq s).drop a') = none := by
      cases q : Zui ((Zq s).drop a') with
      | none => rfl
      | some r =>
       obtain ⟨x', y', z', t'⟩ := r
       obtain ⟨k1, k2⟩ := (Zjp (Zq s) a' hla x' y' z' t').1 q
       rw [hst] at k1
       cases k1
       exact absurd rfl hd
     rw [hso]
     rfl
  ·rw [hv]
   cases hn : Z9c (Zq s) 0 with
   | none => rfl
   | some w =>
    obtain ⟨n, a⟩ := w
    have hla := (Zyj hn).le
    have hso : Zui ((Zq s).drop a) = none := by
     cases q : Zui ((Zq s).drop a) with
     | none => rfl
     | some r =>
      obtain ⟨x', y', z', t'⟩ := r
      obtain ⟨k1, k2⟩ := (Zjp (Zq s) a hla x' y' z' t').1 q
      rw [hno a (by simp [Zc, hn])] at k1
      cases k1
    dsimp only
    rw [hso]
    rfl
 ·rw [if_neg hu]
  refine (Zcr s (by omega)).mono fun k u => ?_
  unfold Zaf
  refine Zb u ?_
  rw [show ((Zth s).2 != 0) = true by simpa using hu]
  rfl
end Go.Proofs.YtfbancgdmghnkaaGreatDoorE
namespace Go.Proofs.YtfbancgdmghnkaaGreatDoorE
open Go
set_option linter.unusedVariables false
abbrev Z2 := Int × Int × Int × Str
def szF (s : Int) (x : Z2) : Int ⊕ (Int ⊕ Int) := if s < (x.2.2.2.length : Int) then .inr (.inr (-1)) else .inl (s - (x.2.2.2.length : Int))
theorem Z05 : ∀ (l : List Z2) (s : Int), 0 ≤ s → (∃ v, Zgi szF (fun s => .inl s) l s = .inl v ∧ 0 ≤ v ∧ v ≤ s ∧ ∀ x ∈ l, (x.2.2.2.length : Int) ≤ s) ∨ Zgi szF (fun s => .inl s) l s = .inr (-1)
 | [], s, h => .inl ⟨s, rfl, h, Int.le_refl _, fun x hx => nomatch hx⟩
 | x :: l, s, h => by
  by_cases hx : s < (x.2.2.2.length : Int)
  ·exact .inr (Z86 (by unfold szF; rw [if_pos hx]))
  ·rw [Zi6 (by unfold szF; rw [if_neg hx])]
   rcases Z05 l (s - (x.2.2.2.length : Int)) (by omega) with ⟨v, h1, h2, h3, h4⟩ | h1
   ·refine .inl ⟨v, h1, h2, by omega, fun y hy => ?_⟩
    rcases List.mem_cons.1 hy with rfl | hy
    ·omega
    ·have := h4 y hy; omega
   ·exact .inr h1
theorem Zdbb (x : Z2) (n : Int) (hx : x.2.2.2.length ≤ 140737488351232) (h0 : 0 ≤ n) (h1 : n ≤ 1048576) : Z7g x n = some (if n < (x.2.2.2.length : Int) then -1 else n - (x.2.2.2.length : Int)) := by
 unfold Z7g
 rw [w64 (by omega) (by omega)]
 by_cases h : n < (x.2.2.2.length : Int)
 ·rw [if_pos h]
  dsimp only
  rw [decide_eq_true (by omega : n - (x.2.2.2.length : Int) < 0)]
  rfl
 ·rw [if_neg h]
  dsimp only
  rw [decide_eq_false (by omega : ¬ (n - (x.2.2.2.length : Int) < 0))]
  rfl
theorem Zt8 (l : List Z2) (n : Int) (hl : l.length ≤ 140737488351232) (hx : ∀ x ∈ l, x.2.2.2.length ≤ 140737488351232) (h0 : 0 ≤ n) (h1 : n ≤ 1048576) :
  ∃ v, (Ze fun k => Zib k l n = some v) ∧ v ≤ n ∧ (0 ≤ v → (l.length : Int) ≤ n ∧ ∀ x ∈ l, (x.2.2.2.length : Int) ≤ n) := by
 by_cases hn : n < (l.length : Int)
 ·refine ⟨-1, Ze.of fun k => ?_, by omega, fun h => by omega⟩
  unfold Zib
  rw [w64 (by omega) (by omega)]
  dsimp only
  rw [decide_eq_true (by omega : n - (l.length : Int) < 0)]
  rfl
 ·have run : ∀ k, l.length < k → Zib.l0 k l (n - (l.length : Int)) 0 = some (Zgi szF (fun s => .inl s) l (n - (l.length : Int))) := fun k hk =>
   Zi3 (fun j s i => Zib.l0 j l s i) l szF (fun s => .inl s) (fun _ s => 0 ≤ s ∧ s ≤ 1048576) (fun i hi s hs => by
    have e := Zdbb l[i] s (hx _ (List.getElem_mem hi)) hs.1 hs.2
    by_cases hb : s < ((l[i]).2.2.2.length : Int)
    ·refine .inr ⟨.inr (-1), by unfold szF; rw [if_pos hb], fun j => ?_⟩
     show Zib.l0 (j + 1) l s (i : Int) = _
     unfold Zib.l0
     rw [dlt hi, Zu hi]
     simp only [cond_true, Option.bind_some]
     rw [e, if_pos hb]
     rfl
    ·refine .inl ⟨s - ((l[i]).2.2.2.length : Int), by unfold szF; rw [if_neg hb], by omega, fun j => ?_⟩
     show Zib.l0 (j + 1) l s (i : Int) = Zib.l0 j l (s - ((l[i]).2.2.2.length : Int)) ((i + 1 : Nat) : Int)
     rw [Zib.l0]
     rw [dlt hi, Zu hi]
     simp only [cond_true, Option.bind_some]
     rw [e, if_neg hb]
     simp only [Option.bind_some]
     rw [decide_eq_false (by omega : ¬ (s - ((l[i]).2.2.2.length : Int) < 0)), Zbb (by omega)]
     rfl) (fun s hs j => by
    show Zib.l0 (j + 1) l s (l.length : Int) = _
    unfold Zib.l0
    rw [Z2c (Nat.le_refl _)]
    rfl) ⟨by omega, by omega⟩ hk
  have body : ∀ k, Zib k l n = Option.bind (Zib.l0 k l (n - (l.length : Int)) 0) fun y => match y with | .inl y4 => some y4 | .inr y5 => some y5 := fun k => by
   unfold Zib
   rw [w64 (by omega) (by omega)]
   dsimp only
   rw [decide_eq_false (by omega : ¬ (n - (l.length : Int) < 0))]
   rfl
  rcases Z05 l (n - (l.length : Int)) (by omega) with ⟨v, h2, h3, h4, h5⟩ | h2
  ·refine ⟨v, Ze.ge (l.length + 1) fun k hk => ?_, by omega, fun _ => ⟨by omega, fun x hxl => by have := h5 x hxl; omega⟩⟩
   rw [body, run k (by omega), h2]
   rfl
  ·refine ⟨-1, Ze.ge (l.length + 1) fun k hk => ?_, by omega, fun h => by omega⟩
   rw [body, run k (by omega), h2]
   rfl
theorem Z1db (l : List Z2) (hl : l.length ≤ 1048576) : Ze fun k => Zcc k l = some l := by
 refine Ze.ge (l.length + 1) fun k hk => ?_
 have run := Zyp (fun j i c => Zcc.l0 j l i c) l ((0, (0, (0, []))) : Z2) (fun i hi c hc j => by
  show Zcc.l0 (j + 1) l (i : Int) c = Zcc.l0 j l ((i + 1 : Nat) : Int) (c.set i l[i])
  rw [Zcc.l0]
  rw [dlt hi, Zu hi, Zu (by omega : i < c.length), Zbb (by omega), Int.toNat_natCast]
  rfl) (fun c j => by
  show Zcc.l0 (j + 1) l (l.length : Int) c = some c
  unfold Zcc.l0
  rw [Z2c (Nat.le_refl _)]
  rfl) (k := k) (by omega)
 unfold Zcc
 rw [Z2o (by omega)]
 simp only [Option.bind_some]
 have run : Zcc.l0 k l 0 (List.replicate l.length (0, (0, (0, [])))) = some l := run
 rw [run]
 rfl
theorem Zf5 (x : Z2) : Zxe x x = some true := by
 unfold Zxe
 simp only [bne_self_eq_false, beq_self_eq_true, Bool.not_true, cond_false]
theorem Zxbb (l : List Z2) (hl : l.length ≤ 1048576) : Ze fun k => Z8b k l l = some true := by
 refine Ze.ge (l.length + 1) fun k hk => ?_
 have run := Zod (fun j (i : Nat) => Z8b.l0 j l l (i : Int)) l.length (.inl ()) (fun i hi j => by
  show Z8b.l0 (j + 1) l l (i : Int) = Z8b.l0 j l l ((i + 1 : Nat) : Int)
  rw [Z8b.l0]
  rw [dlt hi, Zu hi, Zbb (by omega)]
  simp only [cond_true, Option.bind_some, Zf5]
  rfl) (fun j => by
  show Z8b.l0 (j + 1) l l (l.length : Int) = _
  unfold Z8b.l0
  rw [Z2c (Nat.le_refl _)]
  rfl) k (by omega)
 unfold Z8b
 rw [bne_self_eq_false]
 simp only [cond_false]
 have run : Z8b.l0 k l l 0 = some (.inl ()) := run
 rw [run]
 rfl
abbrev Zoh := Int × Str × List Z2
theorem Zx8 (p : Zoh) (n : Int) (hb : Bnd (.pair (.int .i64) (.pair .str (.sl (.pair (.int .i64) (.pair (.int .i64) (.pair (.int .i64) .str)))))) p) (h0 : 0 ≤ n) (h1 : n ≤ 1048576) :
  ∃ v, (Ze fun k => Z3e k p n = some v) ∧ v ≤ n ∧ (0 ≤ v → (p.2.1.length : Int) ≤ n ∧ (p.2.2.length : Int) ≤ n ∧ ∀ x ∈ p.2.2, (x.2.2.2.length : Int) ≤ n) := by
 have hd : p.2.1.length ≤ 140737488351232 := hb.2.1
 by_cases hn : n < (p.2.1.length : Int)
 ·refine ⟨-1, Ze.of fun k => ?_, by omega, fun h => by omega⟩
  unfold Z3e
  rw [w64 (by omega) (by omega)]
  dsimp only
  rw [decide_eq_true (by omega : n - (p.2.1.length : Int) < 0)]
  rfl
 ·obtain ⟨v, h2, h3, h4⟩ := Zt8 p.2.2 (n - (p.2.1.length : Int)) hb.2.2.1 (fun x hx => (hb.2.2.2 x hx).2.2.2) (by omega) (by omega)
  have body : ∀ k, Z3e k p n = Option.bind (Zib k p.2.2 (n - (p.2.1.length : Int))) fun v4 => bif decide (v4 < 0) then some (-1) else some v4 := fun k => by
   unfold Z3e
   rw [w64 (by omega) (by omega)]
   dsimp only
   rw [decide_eq_false (by omega : ¬ (n - (p.2.1.length : Int) < 0))]
   rfl
  by_cases hv : v < 0
  ·refine ⟨-1, h2.mono fun k e => ?_, by omega, fun h => by omega⟩
   rw [body, e]
   simp only [Option.bind_some]
   rw [decide_eq_true hv]
   rfl
  ·refine ⟨v, h2.mono fun k e => ?_, by omega, fun h => ⟨by omega, by have := (h4 (by omega)).1; omega, fun x hx => by have := (h4 (by omega)).2 x hx; omega⟩⟩
   rw [body, e]
   simp only [Option.bind_some]
   rw [decide_eq_false hv]
   rfl
theorem Z4bb (p : Zoh) (hl : p.2.2.length ≤ 1048576) : Ze fun k => Z1g k p = some p := by
 refine (Z1db p.2.2 hl).mono fun k e => ?_
 unfold Z1g
 rw [e]
 rfl
theorem Z3ab (p : Zoh) (hl : p.2.2.length ≤ 1048576) : Ze fun k => Z4f k p p = some true := by
 refine (Zxbb p.2.2 hl).mono fun k e => ?_
 unfold Z4f
 rw [e]
 simp only [bne_self_eq_false, beq_self_eq_true, Bool.not_true, cond_false, Option.bind_some]
end Go.Proofs.YtfbancgdmghnkaaGreatDoorE
namespace Go.Proofs.YtfbancgdmghnkaaGreatDoorE
open Go
set_option linter.unusedVariables false
def Znj : List Str → Nat → List Z2
 | [], _ => []
 | s :: l, i => if (Zdf s (i : Int)).2.2.2.2 = 0 then ((Zdf s (i : Int)).1, (Zdf s (i : Int)).2.1, (Zdf s (i : Int)).2.2.1, (Zdf s (i : Int)).2.2.2.1) :: Znj l (i + 1) else []
theorem Zk2 : ∀ (l : List Str) (i : Nat), (Znj l i).length ≤ l.length
 | [], _ => Nat.le_refl _
 | s :: l, i => by
  unfold Znj
  have := Zk2 l (i + 1)
  split
  ·simp only [List.length_cons]; omega
  ·simp
theorem Zd3 (L : Nat → Nat → List Z2 → Option (List Z2)) (l : List Str)
  (hs : ∀ i, (h : i < l.length) → ∀ acc j, acc.length ≤ i → L (j + 1) i acc = if (Zdf l[i] (i : Int)).2.2.2.2 = 0 then L j (i + 1) (acc ++ [((Zdf l[i] (i : Int)).1, (Zdf l[i] (i : Int)).2.1, (Zdf l[i] (i : Int)).2.2.1, (Zdf l[i] (i : Int)).2.2.2.1)]) else some acc)
  (he : ∀ acc j, L (j + 1) l.length acc = some acc) {k : Nat} (hk : l.length < k) : L k 0 [] = some (Znj l 0) := by
 have key : ∀ (d i : Nat) (acc : List Z2), i + d = l.length → acc.length ≤ i → ∀ j, d < j → L j i acc = some (acc ++ Znj (l.drop i) i) := by
  intro d
  induction d with
  | zero =>
   intro i acc hi hacc j hj
   obtain ⟨j, rfl⟩ : ∃ q, j = q + 1 := ⟨j - 1, by omega⟩
   obtain rfl : i = l.length := by omega
   rw [he, List.drop_length]
   simp [Znj]
  | succ d ih =>
   intro i acc hi hacc j hj
   obtain ⟨j, rfl⟩ : ∃ q, j = q + 1 := ⟨j - 1, by omega⟩
   have h : i < l.length := by omega
   rw [hs i h acc j hacc, List.drop_eq_getElem_cons h]
   by_cases c : (Zdf l[i] (i : Int)).2.2.2.2 = 0
   ·rw [if_pos c, ih (i + 1) _ (by omega) (by simp; omega) j (by omega), Znj, if_pos c, List.append_assoc]
    rfl
   ·rw [if_neg c, Znj, if_neg c, List.append_nil]
 have := key l.length 0 [] (Nat.zero_add _) (by simp) k hk
 rw [this, List.drop_zero]
 rfl
theorem Zuab (l : List Str) (hl : l.length ≤ 1000) (hs : ∀ s ∈ l, s.length ≤ 8000) : Ze fun k => Zvc k l = some (Znj l 0) := by
 have hr : Ze fun k => ∀ i, i < l.length → ∀ h : i < l.length, Zaf k l[i] (i : Int) = some (Zdf l[i] (i : Int)) := Ze.all fun i h => (Zmeb l[i] (hs _ (List.getElem_mem h)) (i : Int)).mono fun k e h => e
 refine (hr.and (Ze.ge (l.length + 1) fun k hk => hk)).mono fun k ⟨hr, hk⟩ => ?_
 have h := Zd3 (fun j i acc => Zvc.l0 k j l (l.length : Int) (i : Int) acc) l (fun i h acc j hacc => ?_) (fun acc j => ?_) (k := k) (by omega)
 ·have h : Zvc.l0 k k l (l.length : Int) 0 [] = some (Znj l 0) := h
  unfold Zvc
  exact Zb h rfl
 ·conv => lhs; unfold Zvc.l0
  rw [dlt h, Zbb (by omega), cond_true]
  refine Zb (Zu h) (Zb (hr i h h) ?_)
  by_cases c : (Zdf l[i] (i : Int)).2.2.2.2 = 0
  ·rw [if_pos c, show ((Zdf l[i] (i : Int)).2.2.2.2 != 0) = false by simpa using c, cond_false]
   exact Zb (Zfh (by simp; omega)) rfl
  ·rw [if_neg c, show ((Zdf l[i] (i : Int)).2.2.2.2 != 0) = true by simpa using c]
   rfl
 ·conv => lhs; unfold Zvc.l0
  rw [Z2c (Nat.le_refl _)]
  rfl
theorem Zocb (l : List Str) (hl : l.length ≤ 1000) (hs : ∀ s ∈ l, s.length ≤ 8000) : Ze fun k => Zsc k l = some (Znj l 0) := by
 have hr : Ze fun k => ∀ i, i < l.length → ∀ h : i < l.length, Zfe k l[i] (i : Int) = some (Zdf l[i] (i : Int)) := Ze.all fun i h => (Zybb l[i] (hs _ (List.getElem_mem h)) (i : Int)).mono fun k e h => e
 refine (hr.and (Ze.ge (l.length + 1) fun k hk => hk)).mono fun k ⟨hr, hk⟩ => ?_
 have h := Zd3 (fun j i acc => Zsc.l0 k j l (i : Int) acc) l (fun i h acc j hacc => ?_) (fun acc j => ?_) (k := k) (by omega)
 ·have h : Zsc.l0 k k l 0 [] = some (Znj l 0) := h
  unfold Zsc
  exact Zb h rfl
 ·conv => lhs; unfold Zsc.l0
  rw [dlt h, Zbb (by omega), cond_true]
  refine Zb (Zu h) (Zb (hr i h h) ?_)
  by_cases c : (Zdf l[i] (i : Int)).2.2.2.2 = 0
  ·rw [if_pos c, show ((Zdf l[i] (i : Int)).2.2.2.2 != 0) = false by simpa using c, cond_false]
   exact Zb (Zfh (by simp; omega)) rfl
  ·rw [if_neg c, show ((Zdf l[i] (i : Int)).2.2.2.2 != 0) = true by simpa using c]
   rfl
 ·conv => lhs; unfold Zsc.l0
  rw [Z2c (Nat.le_refl _)]
  rfl
end Go.Proofs.YtfbancgdmghnkaaGreatDoorE
namespace Go.Proofs.YtfbancgdmghnkaaGreatDoorE
open Go
set_option linter.unusedVariables false
def Zjh (n : Int) (x : Z2) : Bool := Zli x.1 x.2.1 x.2.2.1 x.2.2.2 n
theorem Zqab (x : Z2) (n : Int) (h1 : 1 ≤ n) (h2 : n ≤ 8) : Z3 x n = some (Zjh n x) := Z5w x.1 x.2.1 x.2.2.1 x.2.2.2 n h1 h2
theorem Zn2 (x : Z2) (n : Int) (h1 : 1 ≤ n) (h2 : n ≤ 8) : Z8d x n = some (Zjh n x) := Z4v x.1 x.2.1 x.2.2.1 x.2.2.2 n h1 h2
def isW (x : Z2) : Bool := x.1 != 5
def Zeb (l : List Z2) : List Z2 := l.filter isW
def Zae (l : List Z2) : List Int := (Zeb l).map fun x => x.2.1
def Z1j : Int → List Z2 → Bool
 | _, [] => true
 | a, x :: l => if x.1 = 5 then decide (a < x.2.2.1) && Z1j x.2.2.1 l else Z1j a l
def Zvf (l : List Z2) (n : Int) : Int :=
 if 20 < l.length ∨ ¬ (1 ≤ n ∧ n ≤ 8) ∨ l.all (Zjh n) = false then 1 else if ¬ (Zae l).Nodup then 12 else if Z1j (-1) l then 0 else 8
theorem Zbp {l : List Z2} {i : Nat} (h : i < l.length) : Zae (l.take (i + 1)) = if isW l[i] then Zae (l.take i) ++ [(l[i]).2.1] else Zae (l.take i) := by
 unfold Zae Zeb
 rw [Zkk h, List.filter_append, List.map_append]
 split
 ·rename_i hw; simp [hw]
 ·rename_i hw; simp [hw]
theorem Zyq {x : Z2} (h : x.1 ≠ 5) : isW x = true := by unfold isW; simpa using h
theorem Zhp {x : Z2} (h : x.1 = 5) : isW x = false := by unfold isW; simp [h]
theorem Zb2 {l : List Z2} (i : Nat) : (Zae (l.take i)).Sublist (Zae l) := by
 unfold Zae Zeb
 exact (((List.take_sublist i l).filter _).map _)
theorem Zk7 {l : List Z2} {b : Int} : b ∈ Zae l ↔ ∃ x ∈ l, isW x = true ∧ x.2.1 = b := by
 unfold Zae Zeb
 rw [List.mem_map]
 constructor
 ·rintro ⟨x, hx, e⟩
  rw [List.mem_filter] at hx
  exact ⟨x, hx.1, hx.2, e⟩
 ·rintro ⟨x, h1, h2, e⟩
  exact ⟨x, List.mem_filter.2 ⟨h1, h2⟩, e⟩
theorem Zax {l : List Z2} {b : Int} {i : Nat} : b ∈ Zae (l.take i) ↔ ∃ j, ∃ h : j < l.length, j < i ∧ isW l[j] = true ∧ (l[j]).2.1 = b := by
 rw [Zk7]
 constructor
 ·rintro ⟨x, hx, h1, h2⟩
  obtain ⟨j, hj, rfl⟩ := List.getElem_of_mem hx
  rw [List.getElem_take] at h1 h2
  rw [List.length_take] at hj
  exact ⟨j, by omega, by omega, h1, h2⟩
 ·rintro ⟨j, h, hji, h1, h2⟩
  refine ⟨l[j], ?_, h1, h2⟩
  rw [List.mem_take_iff_getElem]
  exact ⟨j, by omega, rfl⟩
def Zll (b : Int) (x : Z2) : Bool := isW x && (x.2.1 == b)
def Zqr (l : List Z2) (b : Int) : Int := match Zhd (Zll b) l 0 with
 | some i => (i : Int)
 | none => -1
theorem Z2cb (l : List Z2) (b : Int) (hl : l.length ≤ 1048576) : ∀ k, l.length < k → Z3g k l b = some (Zqr l b) := by
 intro k hk
 have run := Zhk (fun j i => Z4b.l0 j l (l.length : Int) i b) l (Zll b) (.inl b) (fun i => .inr ((i : Int), b)) (fun i hi => by
  have e : Zlh l[i] b = some (Zll b l[i]) := rfl
  constructor
  ·intro hp j
   show Z4b.l0 (j + 1) l (l.length : Int) (i : Int) b = Z4b.l0 j l (l.length : Int) ((i + 1 : Nat) : Int) b
   rw [Z4b.l0]
   rw [dlt hi, Zu hi, Zbb (by omega)]
   simp only [cond_true, Option.bind_some, e, hp, cond_false]
  ·intro hp j
   show Z4b.l0 (j + 1) l (l.length : Int) (i : Int) b = _
   unfold Z4b.l0
   rw [dlt hi, Zu hi]
   simp only [cond_true, Option.bind_some, e, hp]) (fun j => by
  show Z4b.l0 (j + 1) l (l.length : Int) (l.length : Int) b = _
  unfold Z4b.l0
  rw [Z2c (Nat.le_refl _)]
  rfl) hk
 have run : Z4b.l0 k l (l.length : Int) 0 b = _ := run
 unfold Z3g Z4b Zqr
 rw [run]
 cases Zhd (Zll b) l 0 <;> rfl
theorem Zo5 {l : List Z2} {i : Nat} (h : i < l.length) (hw : isW l[i] = true) : Zqr l (l[i]).2.1 < (i : Int) ↔ (l[i]).2.1 ∈ Zae (l.take i) := by
 unfold Zqr
 rw [Zax]
 cases hf : Zhd (Zll (l[i]).2.1) l 0 with
 | none =>
  have := Z8n.1 hf l[i] (List.getElem_mem h)
  unfold Zll at this
  rw [hw] at this
  simp at this
 | some m =>
  obtain ⟨_, h2, h3, h4⟩ := Z0m hf
  have h4 : ∀ j, (hj : j < m) → Zll (l[i]).2.1 (l[j]'(by omega)) = false := h4
  unfold Zll at h3
  simp only [Bool.and_eq_true, beq_iff_eq] at h3
  constructor
  ·intro hm
   have hm : (m : Int) < (i : Int) := hm
   exact ⟨m, h2, by omega, h3.1, h3.2⟩
  ·rintro ⟨j, hj, hji, h5, h6⟩
   show (m : Int) < (i : Int)
   rcases Nat.lt_or_ge m i with h | h
   ·omega
   ·have := h4 j (by omega)
    unfold Zll at this
    rw [h5, h6] at this
    simp at this
theorem Zyeb (l : List Z2) (n : Int) (h1 : 1 ≤ n) (h2 : n ≤ 8) (hl : l.length ≤ 1048576) : ∀ k, l.length < k → Zbh k l n = some (!(l.all (Zjh n)), n) := by
 intro k hk
 have run := Zhk (fun j i => Z2b.l0 j l (l.length : Int) i n) l (fun x => !(Zjh n x)) (.inl n) (fun i => .inr ((i : Int), n)) (fun i hi => by
  have e : Zkg l[i] n = some (!(Zjh n l[i])) := by
   unfold Zkg
   rw [Zqab _ _ h1 h2]
   rfl
  constructor
  ·intro hp j
   show Z2b.l0 (j + 1) l (l.length : Int) (i : Int) n = Z2b.l0 j l (l.length : Int) ((i + 1 : Nat) : Int) n
   rw [Z2b.l0]
   rw [dlt hi, Zu hi, Zbb (by omega)]
   simp only [cond_true, Option.bind_some, e, hp, cond_false]
  ·intro hp j
   show Z2b.l0 (j + 1) l (l.length : Int) (i : Int) n = _
   unfold Z2b.l0
   rw [dlt hi, Zu hi]
   simp only [cond_true, Option.bind_some, e, hp]) (fun j => by
  show Z2b.l0 (j + 1) l (l.length : Int) (l.length : Int) n = _
  unfold Z2b.l0
  rw [Z2c (Nat.le_refl _)]
  rfl) hk
 have run : Z2b.l0 k l (l.length : Int) 0 n = _ := run
 have hany := Ztp (p := fun x => !(Zjh n x)) (l := l) (n := 0)
 rw [← List.not_all_eq_any_not] at hany
 unfold Zbh Z2b
 rw [run, ← hany]
 cases Zhd (fun x => !(Zjh n x)) l 0 with
 | none => rfl
 | some m =>
  simp only [Option.bind_some, Option.isSome_some]
  rw [decide_eq_true (by omega : (0 : Int) ≤ (m : Int))]
theorem Z1eb (l : List Z2) (hl : l.length ≤ 20) (k : Nat) (hk : 20 < k) : ∀ (d i : Nat) (a : Int) (b : Bool), i + d = l.length → (Zae (l.take i)).Nodup → ∀ j, d < j →
  Z5b.l0 k j l a b l (l.length : Int) (i : Int) = some (if (Zae l).Nodup then .inl (b && Z1j a (l.drop i)) else .inr 12) := by
 intro d
 induction d with
 | zero =>
  intro i a b hi hn j hj
  obtain ⟨j, rfl⟩ : ∃ q, j = q + 1 := ⟨j - 1, by omega⟩
  obtain rfl : i = l.length := by omega
  rw [List.take_length] at hn
  unfold Z5b.l0
  rw [Z2c (Nat.le_refl _), if_pos hn, List.drop_length]
  simp [Z1j]
 | succ d ih =>
  intro i a b hi hn j hj
  obtain ⟨j, rfl⟩ : ∃ q, j = q + 1 := ⟨j - 1, by omega⟩
  have hlt : i < l.length := by omega
  rw [Z5b.l0, dlt hlt, Zu hlt, Zbb (by omega)]
  simp only [cond_true, Option.bind_some]
  rw [List.drop_eq_getElem_cons hlt]
  by_cases h5 : (l[i]).1 = 5
  ·have hw := Zhp h5
   have hn2 : (Zae (l.take (i + 1))).Nodup := by rw [Zbp hlt, hw]; exact hn
   have e : ((l[i]).1 != 5) = false := by simp [h5]
   rw [e]
   simp only [cond_false]
   rw [ih (i + 1) _ _ (by omega) hn2 j (by omega)]
   simp only [Z1j, if_pos h5, Bool.and_assoc]
  ·have hw := Zyq h5
   have e : ((l[i]).1 != 5) = true := by simpa using h5
   rw [e]
   simp only [cond_true]
   rw [Z2cb l (l[i]).2.1 (by omega) k (by omega)]
   simp only [Option.bind_some]
   by_cases ht : Zqr l (l[i]).2.1 < (i : Int)
   ·rw [decide_eq_true ht]
    have hin := (Zo5 hlt hw).1 ht
    have hnd : ¬ (Zae l).Nodup := by
     intro hnd
     have h3 := (Zb2 (l := l) (i + 1)).nodup hnd
     rw [Zbp hlt, hw] at h3
     simp only [if_true] at h3
     exact (List.nodup_append.1 h3).2.2 _ hin _ (List.mem_singleton.2 rfl) rfl
    rw [if_neg hnd]
    rfl
   ·rw [decide_eq_false ht]
    have hn2 : (Zae (l.take (i + 1))).Nodup := by
     rw [Zbp hlt, hw]
     refine List.nodup_append.2 ⟨hn, List.nodup_cons.2 ⟨(fun h => nomatch h), List.nodup_nil⟩, fun x hx y hy e => ?_⟩
     rw [List.mem_singleton.1 hy] at e
     subst e
     exact ht ((Zo5 hlt hw).2 hx)
    simp only [cond_false]
    rw [ih (i + 1) _ _ (by omega) hn2 j (by omega)]
    simp only [Z1j, if_neg h5]
theorem Z94 (l : List Z2) (n : Int) (hl : l.length ≤ 1048576) : Ze fun k => Z5b k l n = some (Zvf l n) := by
 refine Ze.ge (l.length + 30) fun k hk => ?_
 unfold Z5b Z7d Zgb Zvf
 simp only [Option.bind_some]
 by_cases hb : 1 ≤ n ∧ n ≤ 8
 ·rw [decide_eq_true hb.1, decide_eq_true hb.2]
  by_cases h20 : 20 < l.length
  ·rw [decide_eq_true (by omega : (20 : Int) < (l.length : Int)), if_pos (.inl h20)]
   rfl
  ·rw [decide_eq_false (by omega : ¬ ((20 : Int) < (l.length : Int))), Zyeb l n hb.1 hb.2 hl k (by omega)]
   simp only [Bool.and_self, Bool.not_true, Bool.or_false, cond_false, Option.bind_some]
   cases ha : l.all (Zjh n) with
   | false => rw [if_pos (.inr (.inr rfl))]; rfl
   | true =>
    rw [if_neg (by rintro (h | h | h); exact h20 h; exact h hb; cases h)]
    simp only [Bool.not_true, cond_false]
    have run := Z1eb l (by omega) k (by omega) l.length 0 (-1) true (Nat.zero_add _) List.nodup_nil k (by omega)
    rw [List.drop_zero, Bool.true_and] at run
    have run : Z5b.l0 k k l (-1) true l (l.length : Int) 0 = _ := run
    rw [run]
    by_cases hd : (Zae l).Nodup
    ·rw [if_pos hd, if_neg (not_not_intro hd)]
     cases Z1j (-1) l <;> rfl
    ·rw [if_neg hd, if_pos hd]
     rfl
 ·have e : (!(decide (1 ≤ n) && decide (n ≤ 8)) || decide ((20 : Int) < (l.length : Int))) = true := by
   rw [show (decide (1 ≤ n) && decide (n ≤ 8)) = false by rw [Bool.eq_false_iff, Ne, Bool.and_eq_true, decide_eq_true_eq, decide_eq_true_eq]; exact hb]
   rfl
  rw [e, if_pos (.inr (.inl hb))]
  rfl
theorem Z5ab (l : List Z2) (i : Nat) (hi : i < l.length) (hl : l.length ≤ 1048576) : ∀ (d c j : Nat), (hc : c + d = i) → d < j → (∀ q, (hq : q < c) → isW l[i] = true → isW (l[q]'(by omega)) = true → (l[q]'(by omega)).2.1 ≠ (l[i]).2.1) →
  Zg.l1 j l (i : Int) (c : Int) = some (if isW l[i] = true ∧ (l[i]).2.1 ∈ Zae (l.take i) then .inr 12 else .inl ()) := by
 intro d
 induction d with
 | zero =>
  intro c j hc hj hq
  obtain ⟨j, rfl⟩ : ∃ q, j = q + 1 := ⟨j - 1, by omega⟩
  obtain rfl : c = i := by omega
  unfold Zg.l1
  rw [Z2c (Nat.le_refl _), if_neg]
  ·rfl
  ·rintro ⟨h1, h2⟩
   obtain ⟨q, hq1, hq2, hq3, hq4⟩ := Zax.1 h2
   exact hq q hq2 h1 hq3 hq4
 | succ d ih =>
  intro c j hc hj hq
  obtain ⟨j, rfl⟩ : ∃ q, j = q + 1 := ⟨j - 1, by omega⟩
  have hcl : c < l.length := by omega
  rw [Zg.l1, dlt (by omega : c < i), Zu hi, Zu hcl, Zbb (by omega)]
  simp only [cond_true, Option.bind_some]
  have go : (isW l[i] = true → isW l[c] = true → (l[c]).2.1 ≠ (l[i]).2.1) → Zg.l1 j l (i : Int) ((c + 1 : Nat) : Int) = some (if isW l[i] = true ∧ (l[i]).2.1 ∈ Zae (l.take i) then .inr 12 else .inl ()) := fun h => by
   refine ih (c + 1) j (by omega) (by omega) fun q hqc h1 h2 => ?_
   rcases Nat.lt_or_ge q c with h3 | h3
   ·exact hq q h3 h1 h2
   ·obtain rfl : q = c := by omega
    exact h h1 h2
  by_cases h5 : (l[i]).1 = 5
  ·rw [show ((l[i]).1 != 5) = false by simp [h5]]
   simp only [cond_false]
   exact go fun h1 => by rw [Zhp h5] at h1; cases h1
  ·rw [show ((l[i]).1 != 5) = true by simpa using h5]
   simp only [cond_true]
   by_cases h6 : (l[c]).1 = 5
   ·rw [show ((l[c]).1 != 5) = false by simp [h6]]
    simp only [cond_false]
    exact go fun _ h1 => by rw [Zhp h6] at h1; cases h1
   ·rw [show ((l[c]).1 != 5) = true by simpa using h6]
    simp only [cond_true]
    by_cases h7 : (l[i]).2.1 = (l[c]).2.1
    ·rw [show ((l[i]).2.1 == (l[c]).2.1) = true by simpa using h7, if_pos ⟨Zyq h5, Zax.2 ⟨c, hcl, by omega, Zyq h6, h7.symm⟩⟩]
     rfl
    ·rw [show ((l[i]).2.1 == (l[c]).2.1) = false by simpa using h7]
     simp only [cond_false]
     exact go fun _ _ e => h7 e.symm
theorem Zv7 (l : List Z2) (hl : l.length ≤ 20) (k : Nat) (hk : 20 < k) : ∀ (d i : Nat), i + d = l.length → (Zae (l.take i)).Nodup → ∀ j, d < j →
  Zg.l2 k j l (i : Int) = some (if (Zae l).Nodup then .inl () else .inr 12) := by
 intro d
 induction d with
 | zero =>
  intro i hi hn j hj
  obtain ⟨j, rfl⟩ : ∃ q, j = q + 1 := ⟨j - 1, by omega⟩
  obtain rfl : i = l.length := by omega
  rw [List.take_length] at hn
  unfold Zg.l2
  rw [Z2c (Nat.le_refl _), if_pos hn]
  rfl
 | succ d ih =>
  intro i hi hn j hj
  obtain ⟨j, rfl⟩ : ∃ q, j = q + 1 := ⟨j - 1, by omega⟩
  have hlt : i < l.length := by omega
  rw [Zg.l2, dlt hlt, Zbb (by omega)]
  have run := Z5ab l i hlt (by omega) i 0 k (Nat.zero_add _) (by omega) (fun q hq => by omega)
  have run : Zg.l1 k l (i : Int) 0 = _ := run
  simp only [cond_true]
  rw [run]
  by_cases h : isW l[i] = true ∧ (l[i]).2.1 ∈ Zae (l.take i)
  ·rw [if_pos h]
   have hnd : ¬ (Zae l).Nodup := by
    intro hnd
    have h3 := (Zb2 (l := l) (i + 1)).nodup hnd
    rw [Zbp hlt, h.1] at h3
    simp only [if_true] at h3
    exact (List.nodup_append.1 h3).2.2 _ h.2 _ (List.mem_singleton.2 rfl) rfl
   rw [if_neg hnd]
   rfl
  ·rw [if_neg h]
   simp only [Option.bind_some]
   refine ih (i + 1) (by omega) ?_ j (by omega)
   rw [Zbp hlt]
   split
   ·rename_i hw
    refine List.nodup_append.2 ⟨hn, List.nodup_cons.2 ⟨(fun h => nomatch h), List.nodup_nil⟩, fun x hx y hy e => ?_⟩
    rw [List.mem_singleton.1 hy] at e
    subst e
    exact h ⟨hw, hx⟩
   ·exact hn
theorem Zobb (l : List Z2) (hl : l.length ≤ 20) : ∀ (d i : Nat) (a : Int), i + d = l.length → ∀ j, d < j →
  Zg.l3 j l a (i : Int) = some (if Z1j a (l.drop i) then .inl () else .inr 8) := by
 intro d
 induction d with
 | zero =>
  intro i a hi j hj
  obtain ⟨j, rfl⟩ : ∃ q, j = q + 1 := ⟨j - 1, by omega⟩
  obtain rfl : i = l.length := by omega
  unfold Zg.l3
  rw [Z2c (Nat.le_refl _), List.drop_length]
  rfl
 | succ d ih =>
  intro i a hi j hj
  obtain ⟨j, rfl⟩ : ∃ q, j = q + 1 := ⟨j - 1, by omega⟩
  have hlt : i < l.length := by omega
  rw [Zg.l3, dlt hlt, Zu hlt, Zbb (by omega)]
  simp only [cond_true, Option.bind_some]
  rw [List.drop_eq_getElem_cons hlt]
  by_cases h5 : (l[i]).1 = 5
  ·rw [show ((l[i]).1 != 5) = false by simp [h5]]
   simp only [cond_false, Z1j, if_pos h5]
   by_cases h6 : a < (l[i]).2.2.1
   ·rw [decide_eq_false (by omega : ¬ ((l[i]).2.2.1 ≤ a)), decide_eq_true h6, Bool.true_and]
    exact ih (i + 1) _ (by omega) j (by omega)
   ·rw [decide_eq_true (by omega : (l[i]).2.2.1 ≤ a), decide_eq_false h6]
    rfl
  ·rw [show ((l[i]).1 != 5) = true by simpa using h5]
   simp only [cond_true, Z1j, if_neg h5]
   exact ih (i + 1) _ (by omega) j (by omega)
theorem Zteb (l : List Z2) (n : Int) (h1 : 1 ≤ n) (h2 : n ≤ 8) (hl : l.length ≤ 20) : ∀ k, 20 < k → Zg.l0 k l n 0 = some (if l.all (Zjh n) then .inl () else .inr 1) := by
 intro k hk
 have run := Zhk (fun j i => Zg.l0 j l n i) l (fun x => !(Zjh n x)) (.inl ()) (fun i => .inr 1) (fun i hi => by
  constructor
  ·intro hp j
   show Zg.l0 (j + 1) l n (i : Int) = Zg.l0 j l n ((i + 1 : Nat) : Int)
   rw [Zg.l0, dlt hi, Zu hi, Zbb (by omega)]
   simp only [cond_true, Option.bind_some]
   rw [Zn2 _ _ h1 h2]
   simp only [Option.bind_some, hp, cond_false]
  ·intro hp j
   show Zg.l0 (j + 1) l n (i : Int) = _
   unfold Zg.l0
   rw [dlt hi, Zu hi]
   simp only [cond_true, Option.bind_some]
   rw [Zn2 _ _ h1 h2]
   simp only [Option.bind_some, hp, cond_true]) (fun j => by
  show Zg.l0 (j + 1) l n (l.length : Int) = _
  unfold Zg.l0
  rw [Z2c (Nat.le_refl _)]
  rfl) (by omega : l.length < k)
 have run : Zg.l0 k l n 0 = _ := run
 have hany := Ztp (p := fun x => !(Zjh n x)) (l := l) (n := 0)
 rw [← List.not_all_eq_any_not] at hany
 rw [run]
 cases hf : Zhd (fun x => !(Zjh n x)) l 0 with
 | none =>
  rw [hf] at hany
  have : l.all (Zjh n) = true := by simpa using hany.symm
  rw [this]
  rfl
 | some m =>
  rw [hf] at hany
  have : l.all (Zjh n) = false := by simpa using hany.symm
  rw [this]
  rfl
theorem Zfx (l : List Z2) (n : Int) (hl : l.length ≤ 1048576) : Ze fun k => Zg k l n = some (Zvf l n) := by
 refine Ze.ge 30 fun k hk => ?_
 unfold Zg Znb Zvf
 simp only [Option.bind_some]
 by_cases h20 : 20 < l.length
 ·rw [decide_eq_true (by omega : (20 : Int) < (l.length : Int)), if_pos (.inl h20)]
  rfl
 rw [decide_eq_false (by omega : ¬ ((20 : Int) < (l.length : Int)))]
 simp only [cond_false]
 by_cases hb : 1 ≤ n ∧ n ≤ 8
 ·rw [decide_eq_true hb.1, decide_eq_true hb.2, Zteb l n hb.1 hb.2 (by omega) k (by omega)]
  simp only [Bool.and_self, Bool.not_true, cond_false]
  cases ha : l.all (Zjh n) with
  | false => simp only [Bool.false_eq_true, if_false]; rw [if_pos (.inr (.inr True.intro))]; rfl
  | true =>
   simp only [if_true, Option.bind_some]
   rw [if_neg (by rintro (h | h | h); exact h20 h; exact h hb; cases h)]
   have r2 := Zv7 l (by omega) k (by omega) l.length 0 (Nat.zero_add _) List.nodup_nil k (by omega)
   have r2 : Zg.l2 k k l 0 = _ := r2
   have r3 := Zobb l (by omega) l.length 0 (-1) (Nat.zero_add _) k (by omega)
   rw [List.drop_zero] at r3
   have r3 : Zg.l3 k l (-1) 0 = _ := r3
   rw [r2]
   by_cases hd : (Zae l).Nodup
   ·rw [if_pos hd, if_neg (not_not_intro hd)]
    simp only [Option.bind_some]
    rw [r3]
    cases Z1j (-1) l <;> rfl
   ·rw [if_neg hd, if_pos hd]
    rfl
 ·have e : (decide (1 ≤ n) && decide (n ≤ 8)) = false := by rw [Bool.eq_false_iff, Ne, Bool.and_eq_true, decide_eq_true_eq, decide_eq_true_eq]; exact hb
  rw [e, if_pos (.inr (.inl hb))]
  rfl
theorem Zgk {l : List Z2} {n : Int} (h : Zvf l n = 0) : l.length ≤ 20 ∧ 1 ≤ n ∧ n ≤ 8 ∧ (∀ x ∈ l, Zjh n x = true) ∧ (Zae l).Nodup ∧ Z1j (-1) l = true := by
 unfold Zvf at h
 split at h
 ·cases h
 ·rename_i h1
  split at h
  ·cases h
  ·rename_i h2
   split at h
   ·rename_i h3
    have h1a : ¬ 20 < l.length := fun q => h1 (.inl q)
    have h1b : 1 ≤ n ∧ n ≤ 8 := Decidable.not_not.1 fun q => h1 (.inr (.inl q))
    have h1c : l.all (Zjh n) = true := by
     cases ha : l.all (Zjh n) with
     | true => rfl
     | false => exact absurd (.inr (.inr ha)) h1
    exact ⟨by omega, h1b.1, h1b.2, fun x hx => List.all_eq_true.1 h1c x hx, Decidable.not_not.1 h2, h3⟩
   ·cases h
end Go.Proofs.YtfbancgdmghnkaaGreatDoorE
