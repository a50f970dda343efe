/- What the law FnExactDeedRead needs, part 9 of 10: the Lean functions of the Go functions that it reaches, with the proofs that the calls come to what they say, and plain facts about them. Conditions: those that each theorem states. Written by a session and by its programs (after the kit's printer). -/
import Derived.Laws.BitsLemmas
import Derived.Lib.ItoaNum
import Derived.Lib.Join
import Derived.Lib.Split
import Derived.Lib.ParseIntBTie
import Derived.Test.YtcnkbllbpimaiaaGreatDoorXFnExactDeedRead7
namespace Go.Proofs.YtcnkbllbpimaiaaGreatDoorE
open Go
set_option linter.unusedVariables false
/-- A step is taken for each element, until one of them ends it. -/
def runL {α S R : Type} (f : S → α → S ⊕ R) (g : S → R) : List α → S → R
  | [], s => g s
  | x :: l, s => match f s x with
    | .inl s' => runL f g l s'
    | .inr r => r
theorem runL_inl {α S R : Type} {f : S → α → S ⊕ R} {g : S → R} {x : α} {l : List α} {s s' : S} (h : f s x = .inl s') : runL f g (x :: l) s = runL f g l s' := by
  have e : runL f g (x :: l) s = match f s x with | .inl s' => runL f g l s' | .inr r => r := rfl
  rw [e, h]
theorem runL_inr {α S R : Type} {f : S → α → S ⊕ R} {g : S → R} {x : α} {l : List α} {s : S} {r : R} (h : f s x = .inr r) : runL f g (x :: l) s = r := by
  have e : runL f g (x :: l) s = match f s x with | .inl s' => runL f g l s' | .inr r => r := rfl
  rw [e, h]
theorem loop_from {α S R : Type} (L : Nat → S → Int → Option R) (l : List α) (f : S → α → S ⊕ R) (g : S → R) (I : Nat → S → Prop)
    (hs : ∀ (i : Nat) (h : i < l.length) (s : S), I i s → (∃ s', f s l[i] = .inl s' ∧ I (i + 1) s' ∧ ∀ j, L (j + 1) s (i : Int) = L j s' ((i + 1 : Nat) : Int)) ∨ ∃ r, f s l[i] = .inr r ∧ ∀ j, L (j + 1) s (i : Int) = some r)
    (he : ∀ (s : S), I l.length s → ∀ j, L (j + 1) s (l.length : Int) = some (g s)) : ∀ (d i : Nat) (s : S), i + d = l.length → I i s → ∀ j, d < j → L j s (i : Int) = some (runL f g (l.drop i) s) := by
  intro d
  induction d with
  | zero =>
    intro i s hi hI j hj
    obtain ⟨j, rfl⟩ : ∃ q, j = q + 1 := ⟨j - 1, by omega⟩
    obtain rfl : i = l.length := by omega
    rw [List.drop_length, he s hI]
    rfl
  | succ d ih =>
    intro i s hi hI j hj
    obtain ⟨j, rfl⟩ : ∃ q, j = q + 1 := ⟨j - 1, by omega⟩
    have hlt : i < l.length := by omega
    rw [List.drop_eq_getElem_cons hlt]
    rcases hs i hlt s hI with ⟨s', h1, h2, h3⟩ | ⟨r, h1, h3⟩
    · rw [h3 j]
      show _ = some (match f s l[i] with | .inl s' => runL f g (l.drop (i + 1)) s' | .inr r => r)
      rw [h1]
      exact ih (i + 1) s' (by omega) h2 j (by omega)
    · rw [h3 j]
      show _ = some (match f s l[i] with | .inl s' => runL f g (l.drop (i + 1)) s' | .inr r => r)
      rw [h1]
theorem loop_fold {α S R : Type} (L : Nat → S → Int → Option R) (l : List α) (f : S → α → S ⊕ R) (g : S → R) (I : Nat → S → Prop)
    (hs : ∀ (i : Nat) (h : i < l.length) (s : S), I i s → (∃ s', f s l[i] = .inl s' ∧ I (i + 1) s' ∧ ∀ j, L (j + 1) s (i : Int) = L j s' ((i + 1 : Nat) : Int)) ∨ ∃ r, f s l[i] = .inr r ∧ ∀ j, L (j + 1) s (i : Int) = some r)
    (he : ∀ (s : S), I l.length s → ∀ j, L (j + 1) s (l.length : Int) = some (g s)) {s : S} (hI : I 0 s) {k : Nat} (hk : l.length < k) : L k s 0 = some (runL f g l s) :=
  loop_from L l f g I hs he l.length 0 s (Nat.zero_add _) hI k hk
/-- A loop that tests each element with a partial function that answers, and leaves at the first that passes. -/
def firstI {α : Type} (p : α → Bool) : List α → Nat → Option Nat
  | [], _ => none
  | x :: l, i => if p x then some i else firstI p l (i + 1)
theorem loop_find {α R : Type} (L : Nat → Int → Option R) (l : List α) (p : α → Bool) (a : R) (b : Nat → R)
    (hs : ∀ (i : Nat) (h : i < l.length), (p l[i] = false → ∀ j, L (j + 1) (i : Int) = L j ((i + 1 : Nat) : Int)) ∧ (p l[i] = true → ∀ j, L (j + 1) (i : Int) = some (b i)))
    (he : ∀ j, L (j + 1) (l.length : Int) = some a) {k : Nat} (hk : l.length < k) : L k 0 = some (match firstI p l 0 with | some i => b i | none => a) := by
  have key : ∀ (d i : Nat), i + d = l.length → ∀ j, d < j → L j (i : Int) = some (match firstI p (l.drop i) i with | some i => b i | none => a) := by
    intro d
    induction d with
    | zero =>
      intro i hi j hj
      obtain ⟨j, rfl⟩ : ∃ q, j = q + 1 := ⟨j - 1, by omega⟩
      obtain rfl : i = l.length := by omega
      rw [List.drop_length, he]
      rfl
    | succ d ih =>
      intro i hi j hj
      obtain ⟨j, rfl⟩ : ∃ q, j = q + 1 := ⟨j - 1, by omega⟩
      have hlt : i < l.length := by omega
      rw [List.drop_eq_getElem_cons hlt]
      obtain ⟨h1, h2⟩ := hs i hlt
      cases hp : p l[i] with
      | true => rw [h2 hp j]; simp [firstI, hp]
      | false =>
        rw [h1 hp j, ih (i + 1) (by omega) j (by omega)]
        simp [firstI, hp]
  have := key l.length 0 (Nat.zero_add _) k hk
  rwa [List.drop_zero] at this
theorem firstI_some {α : Type} {p : α → Bool} : ∀ {l : List α} {n i : Nat}, firstI p l n = some i → n ≤ i ∧ ∃ h : i - n < l.length, p (l[i - n]) = true ∧ ∀ j, (hj : j < i - n) → p (l[j]'(by omega)) = false
  | [], _, _, h => by cases h
  | x :: l, n, i, h => by
    unfold firstI at h
    split at h
    · rename_i hp
      cases h
      refine ⟨Nat.le_refl _, by simp, ?_, fun j hj => by omega⟩
      simpa using hp
    · rename_i hp
      obtain ⟨h1, h2, h3, h4⟩ := firstI_some h
      refine ⟨by omega, by simp only [List.length_cons]; omega, ?_, fun j hj => ?_⟩
      · have e : i - n = (i - (n + 1)) + 1 := by omega
        simpa [e] using h3
      · cases j with
        | zero => simpa using hp
        | succ j => simpa using h4 j (by omega)
theorem firstI_none {α : Type} {p : α → Bool} : ∀ {l : List α} {n : Nat}, firstI p l n = none ↔ ∀ x ∈ l, p x = false
  | [], n => by simp [firstI]
  | x :: l, n => by
    unfold firstI
    split
    · rename_i hp
      simp [hp]
    · rename_i hp
      rw [firstI_none]
      simp at hp
      simp [hp]
theorem firstI_any {α : Type} {p : α → Bool} {l : List α} {n : Nat} : (firstI p l n).isSome = l.any p := by
  cases h : firstI p l n with
  | none =>
    have := firstI_none.1 h
    symm
    simp only [Option.isSome_none, List.any_eq_false]
    intro x hx
    rw [this x hx]
    exact nofun
  | some i =>
    obtain ⟨_, h2, h3, _⟩ := firstI_some h
    symm
    exact List.any_eq_true.2 ⟨_, List.getElem_mem h2, h3⟩
/-- A list that is copied place by place. -/
theorem copy_loop {α : Type} (L : Nat → Int → List α → Option (List α)) (l : List α) (z : α)
    (hs : ∀ (i : Nat) (h : i < l.length) (c : List α), c.length = l.length → ∀ j, L (j + 1) (i : Int) c = L j ((i + 1 : Nat) : Int) (c.set i l[i]))
    (he : ∀ (c : List α) j, L (j + 1) (l.length : Int) c = some c) {k : Nat} (hk : l.length < k) : L k 0 (List.replicate l.length z) = some l := by
  have key : ∀ (d i : Nat), i + d = l.length → ∀ j, d < j → L j (i : Int) (l.take i ++ List.replicate (l.length - i) z) = some l := by
    intro d
    induction d with
    | zero =>
      intro i hi j hj
      obtain ⟨j, rfl⟩ : ∃ q, j = q + 1 := ⟨j - 1, by omega⟩
      obtain rfl : i = l.length := by omega
      rw [he, Nat.sub_self, List.take_length]
      simp
    | succ d ih =>
      intro i hi j hj
      obtain ⟨j, rfl⟩ : ∃ q, j = q + 1 := ⟨j - 1, by omega⟩
      have hlt : i < l.length := by omega
      rw [hs i hlt _ (by simp; omega)]
      have e : (l.take i ++ List.replicate (l.length - i) z).set i l[i] = l.take (i + 1) ++ List.replicate (l.length - (i + 1)) z := by
        have hl : (l.take i).length = i := by simp; omega
        rw [List.set_append_right _ _ (by omega), hl, Nat.sub_self, show l.length - i = (l.length - (i + 1)) + 1 by omega, List.replicate_succ, List.set_cons_zero, take_succ' hlt, List.append_assoc]
        rfl
      rw [e]
      exact ih (i + 1) (by omega) j (by omega)
  have := key l.length 0 (Nat.zero_add _) k hk
  simpa using this
theorem dlt {a b : Nat} (h : a < b) : decide ((a : Int) < (b : Int)) = true := decide_eq_true (by omega)
theorem dnlt {a b : Nat} (h : b ≤ a) : decide ((a : Int) < (b : Int)) = false := decide_eq_false (by omega)
theorem bnd' {α β : Type} {x : Option α} {f : α → Option β} {a : α} {b : Option β} (h : x = some a) (k : f a = b) : x.bind f = b := by rw [h]; exact k
theorem cat_loop {α : Type} (L : Nat → Nat → Str → Int → Option Str) (l : List α) (f : α → Str) (B M : Nat) (hB : ∀ x ∈ l, (f x).length ≤ B)
    (hs : ∀ i, (h : i < l.length) → Ever fun k => ∀ acc j, acc.length ≤ M → L k (j + 1) acc (i : Int) = L k j (acc ++ f l[i]) ((i + 1 : Nat) : Int))
    (he : ∀ k acc j, L k (j + 1) acc (l.length : Int) = some acc) (acc : Str) (ha : acc.length + B * l.length ≤ M) : Ever fun k => L k k acc 0 = some (acc ++ (l.map f).flatten) := by
  have hall : Ever fun k => ∀ i, i < l.length → ∀ (h : i < l.length) acc j, acc.length ≤ M → L k (j + 1) acc (i : Int) = L k j (acc ++ f l[i]) ((i + 1 : Nat) : Int) := Ever.all fun i hi => (hs i hi).mono fun k hk h => hk
  obtain ⟨K, hK⟩ := hall
  refine Ever.ge (K + l.length + 1) fun k hk => ?_
  have hK := hK k (by omega)
  have key : ∀ (d i : Nat) (acc : Str), i + d = l.length → acc.length + B * d ≤ M → ∀ j, d < j → L k j acc (i : Int) = some (acc ++ ((l.drop i).map f).flatten) := by
    intro d
    induction d with
    | zero =>
      intro i acc hi hacc j hj
      obtain ⟨j, rfl⟩ : ∃ q, j = q + 1 := ⟨j - 1, by omega⟩
      obtain rfl : i = l.length := by omega
      rw [he, List.drop_length]
      simp
    | succ d ih =>
      intro i acc hi hacc j hj
      obtain ⟨j, rfl⟩ : ∃ q, j = q + 1 := ⟨j - 1, by omega⟩
      have h : i < l.length := by omega
      have hf := hB _ (List.getElem_mem h)
      rw [Nat.mul_succ] at hacc
      rw [hK i h h acc j (by omega), ih (i + 1) _ (by omega) (by rw [List.length_append]; omega) j (by omega), List.drop_eq_getElem_cons h, List.map_cons, List.flatten_cons, List.append_assoc]
  have := key l.length 0 acc (Nat.zero_add _) ha k (by omega)
  rwa [List.drop_zero] at this
end Go.Proofs.YtcnkbllbpimaiaaGreatDoorE

namespace Go.Proofs.YtcnkbllbpimaiaaGreatDoorE
open Go
set_option linter.unusedVariables false
theorem u8w (n : Int) : IntKind.wrap .u8 n = n % 256 := by simp [IntKind.wrap, IntKind.bits, IntKind.signed]
theorem u32w (n : Int) : IntKind.wrap .u32 n = n % 4294967296 := by simp [IntKind.wrap, IntKind.bits, IntKind.signed]
theorem u64w (n : Int) : IntKind.wrap .u64 n = n % 18446744073709551616 := by simp [IntKind.wrap, IntKind.bits, IntKind.signed]
theorem bx32 (a b : Nat) (ha : a < 4294967296) (hb : b < 4294967296) : intBits .xor .u32 (a : Int) (b : Int) = ((a ^^^ b : Nat) : Int) := by
  have hx : a ^^^ b < 2 ^ 32 := Nat.xor_lt_two_pow (by omega) (by omega)
  show IntKind.wrap .u32 (((BitVec.ofInt 32 (a : Int)) ^^^ (BitVec.ofInt 32 (b : Int))).toNat : Int) = _
  rw [BitVec.ofInt_natCast, BitVec.ofInt_natCast, BitVec.toNat_xor, BitVec.toNat_ofNat, BitVec.toNat_ofNat, u32w, Nat.mod_eq_of_lt (show a < 2 ^ 32 by omega), Nat.mod_eq_of_lt (show b < 2 ^ 32 by omega)]
  omega
theorem band1 (a : Nat) (ha : a < 4294967296) : intBits .and .u32 (a : Int) 1 = ((a % 2 : Nat) : Int) := by
  have h : a &&& 1 = a % 2 := Nat.and_one_is_mod a
  show IntKind.wrap .u32 (((BitVec.ofInt 32 (a : Int)) &&& (BitVec.ofInt 32 ((1 : Nat) : Int))).toNat : Int) = _
  rw [BitVec.ofInt_natCast, BitVec.ofInt_natCast, BitVec.toNat_and, BitVec.toNat_ofNat, BitVec.toNat_ofNat, u32w, Nat.mod_eq_of_lt (show a < 2 ^ 32 by omega), Nat.mod_eq_of_lt (show 1 < 2 ^ 32 by omega), h]
  omega
theorem band64 (a : Nat) (ha : a < 18446744073709551616) : intBits .and .u64 (a : Int) 1 = ((a % 2 : Nat) : Int) := by
  have h : a &&& 1 = a % 2 := Nat.and_one_is_mod a
  show IntKind.wrap .u64 (((BitVec.ofInt 64 (a : Int)) &&& (BitVec.ofInt 64 ((1 : Nat) : Int))).toNat : Int) = _
  rw [BitVec.ofInt_natCast, BitVec.ofInt_natCast, BitVec.toNat_and, BitVec.toNat_ofNat, BitVec.toNat_ofNat, u64w, Nat.mod_eq_of_lt (show a < 2 ^ 64 by omega), Nat.mod_eq_of_lt (show 1 < 2 ^ 64 by omega), h]
  omega
theorem bor64 (a b : Nat) (ha : a < 18446744073709551616) (hb : b < 18446744073709551616) : intBits .or .u64 (a : Int) (b : Int) = ((a ||| b : Nat) : Int) := by
  show IntKind.wrap .u64 (((BitVec.ofInt 64 (a : Int)) ||| (BitVec.ofInt 64 (b : Int))).toNat : Int) = _
  have hx : a ||| b < 2 ^ 64 := Nat.or_lt_two_pow (by omega) (by omega)
  rw [BitVec.ofInt_natCast, BitVec.ofInt_natCast, BitVec.toNat_or, BitVec.toNat_ofNat, BitVec.toNat_ofNat, u64w, Nat.mod_eq_of_lt (show a < 2 ^ 64 by omega), Nat.mod_eq_of_lt (show b < 2 ^ 64 by omega)]
  omega
theorem and127 : ∀ a : Nat, a < 256 → intBits .and .u8 ((a : Nat) : Int) 127 = ((a % 128 : Nat) : Int) := by decide +kernel
theorem noti64 (a : Nat) (h : a < 9223372036854775808) : intBits .xor .i64 (-1) (a : Int) = -(a : Int) - 1 := by
  show IntKind.wrap .i64 (((BitVec.ofInt 64 (-1)) ^^^ (BitVec.ofInt 64 (a : Int))).toNat : Int) = _
  have e : (BitVec.ofInt 64 (-1)) = BitVec.allOnes 64 := by decide
  rw [BitVec.ofInt_natCast, e, BitVec.allOnes_xor, BitVec.toNat_not, BitVec.toNat_ofNat, IntKind.wrap_i64, Nat.mod_eq_of_lt (show a < 2 ^ 64 by omega)]
  omega
theorem shr_nat (k : IntKind) (r m : Nat) (h : m ≤ k.bits) : shr k (r : Int) (m : Int) = ((r / 2 ^ m : Nat) : Int) := by
  unfold shr
  rw [Int.toNat_natCast, Nat.min_eq_left h, Int.fdiv_eq_ediv_of_nonneg _ (by exact Int.le_of_lt (Int.pow_pos (by omega)))]
  push_cast
  rfl
theorem byte_lt (c : UInt8) : c.toNat < 256 := c.toNat_lt
theorem byte_of (c : UInt8) : UInt8.ofNat ((c.toNat : Nat) : Int).toNat = c := by simp
/-! ### the CRC -/
def crcBit (r : Nat) : Nat := if r % 2 = 1 then (r / 2) ^^^ 3988292384 else r / 2
def crcBits : Nat → Nat → Nat
  | 0, r => r
  | n + 1, r => crcBits n (crcBit r)
def crcRun : Str → Nat → Nat
  | [], r => r
  | c :: l, r => crcRun l (crcBits 8 (r ^^^ c.toNat))
def crcOf (c : Nat) (s : Str) : Nat := (crcRun s (c ^^^ 4294967295)) ^^^ 4294967295
theorem x32 {a b : Nat} (ha : a < 4294967296) (hb : b < 4294967296) : a ^^^ b < 4294967296 := Nat.xor_lt_two_pow (n := 32) ha hb
theorem crcBit_lt {r : Nat} (h : r < 4294967296) : crcBit r < 4294967296 := by
  unfold crcBit
  split
  · exact x32 (by omega) (by omega)
  · omega
theorem crcBits_lt : ∀ (n : Nat) {r : Nat}, r < 4294967296 → crcBits n r < 4294967296
  | 0, _, h => h
  | n + 1, _, h => crcBits_lt n (crcBit_lt h)
theorem crcRun_lt : ∀ (l : Str) {r : Nat}, r < 4294967296 → crcRun l r < 4294967296
  | [], _, h => h
  | c :: l, r, h => crcRun_lt l (crcBits_lt 8 (x32 h (by have := byte_lt c; omega)))
theorem crcOf_lt {c : Nat} (s : Str) (h : c < 4294967296) : crcOf c s < 4294967296 := x32 (crcRun_lt _ (x32 h (by omega))) (by omega)
/-- The four bytes of a CRC. -/
def four (n : Nat) : Str := listByte [((n % 256 : Nat) : Int), ((n / 256 % 256 : Nat) : Int), ((n / 65536 % 256 : Nat) : Int), ((n / 16777216 % 256 : Nat) : Int)]
def sealOf (s : Str) : Str := s ++ four (crcOf 0 s)
theorem four_len (n : Nat) : (four n).length = 4 := rfl
theorem sealOf_len (s : Str) : (sealOf s).length = s.length + 4 := by unfold sealOf; rw [List.length_append, four_len]
/-- What stands ahead of the seal. -/
def bodyOf (s : Str) : Str := s.take (s.length - 4)
theorem body_len (s : Str) : (bodyOf s).length = s.length - 4 := by unfold bodyOf; simp
theorem seal_inj {a b : Str} : sealOf a = sealOf b ↔ a = b := by
  constructor
  · intro h
    exact List.append_inj_left' h (by rw [four_len, four_len])
  · rintro rfl; rfl
theorem tail_iff (s : Str) : (four (crcOf 0 (bodyOf s)) = s.drop (s.length - 4)) ↔ sealOf (bodyOf s) = s := by
  have e : s = bodyOf s ++ s.drop (s.length - 4) := (List.take_append_drop _ _).symm
  unfold sealOf
  constructor
  · intro h; rw [h]; exact e.symm
  · intro h
    exact List.append_cancel_left (h.trans e)
theorem body_seal (s : Str) : bodyOf (sealOf s) = s := by
  unfold bodyOf
  rw [sealOf_len, Nat.add_sub_cancel]
  unfold sealOf
  simp
def unsealI (s : Str) : Str × Int := if s.length < 4 then ([], 4) else if sealOf (bodyOf s) = s then (bodyOf s, 0) else ([], 5)
theorem unseal_ok {s : Str} (h : (unsealI s).2 = 0) : unsealI s = (bodyOf s, 0) ∧ sealOf (bodyOf s) = s ∧ 4 ≤ s.length := by
  unfold unsealI at h ⊢
  by_cases h4 : s.length < 4
  · rw [if_pos h4] at h; simp at h
  · rw [if_neg h4] at h ⊢
    by_cases he : sealOf (bodyOf s) = s
    · rw [if_pos he]; exact ⟨rfl, he, by omega⟩
    · rw [if_neg he] at h; simp at h
theorem unseal_no {s : Str} (h : (unsealI s).2 ≠ 0) : (unsealI s).1 = [] := by
  unfold unsealI at h ⊢
  by_cases h4 : s.length < 4
  · rw [if_pos h4]
  · rw [if_neg h4] at h ⊢
    by_cases he : sealOf (bodyOf s) = s
    · rw [if_pos he] at h; exact absurd rfl h
    · rw [if_neg he]
theorem unseal_len (s : Str) : (unsealI s).1.length ≤ s.length := by
  unfold unsealI
  split
  · simp
  · split
    · rw [body_len]; omega
    · simp
theorem unseal_seal (s : Str) : unsealI (sealOf s) = (s, 0) := by
  unfold unsealI
  rw [body_seal, if_neg (by rw [sealOf_len]; omega), if_pos rfl]
/-! ### numbers as bytes -/
/-- The zigzag number. -/
def zig (n : Int) : Nat := if n < 0 then (-2 * n - 1).toNat else (2 * n).toNat
/-- The groups of seven bits of a number, as bytes; f: a bound on their count. -/
def groups : Nat → Nat → List Int
  | 0, _ => []
  | f + 1, u => if 128 ≤ u then ((u % 128 + 128 : Nat) : Int) :: groups f (u / 128) else [(u : Int)]
def putOf (n : Int) : Str := listByte (groups 10 (zig n))
def Num (n : Int) : Prop := -9223372036854775808 ≤ n ∧ n < 9223372036854775808
theorem zig_lt {n : Int} (h : Num n) : zig n < 18446744073709551616 := by unfold Num at h; unfold zig; split <;> omega
theorem groups_len : ∀ (f u : Nat), (groups f u).length ≤ f
  | 0, _ => by simp [groups]
  | f + 1, u => by
    unfold groups
    split
    · simp only [List.length_cons]; have := groups_len f (u / 128); omega
    · simp
theorem listByte_len (l : List Int) : (listByte l).length = l.length := by simp [listByte]
theorem putOf_len (n : Int) : (putOf n).length ≤ 10 := by
  unfold putOf
  rw [listByte_len]
  exact groups_len 10 _
theorem putOf_pos (n : Int) : 1 ≤ (putOf n).length := by
  unfold putOf
  rw [listByte_len]
  unfold groups
  split <;> simp
def putTextOf (s : Str) : Str := putOf (s.length : Int) ++ s
theorem putTextOf_len (s : Str) : (putTextOf s).length ≤ 10 + s.length := by
  unfold putTextOf
  have := putOf_len (s.length : Int)
  rw [List.length_append]
  omega
/-! ### numbers, read back -/
def unz (u : Nat) : Int := if u % 2 = 1 then -((u / 2 : Nat) : Int) - 1 else ((u / 2 : Nat) : Int)
/-- A number's groups, read: the number, how many bytes, the code. -/
def gn : Nat → Nat → Nat → Str → Int × Nat × Int
  | 0, _, _, _ => (0, 0, 3)
  | _ + 1, _, _, [] => (0, 0, 4)
  | f + 1, i, u, b :: l => if i = 9 ∧ 1 < b.toNat then (0, 0, 3) else if 128 ≤ b.toNat then gn f (i + 1) (u + b.toNat % 128 * 128 ^ i) l else if b.toNat = 0 ∧ 0 < i then (0, 0, 3) else (unz (u + b.toNat % 128 * 128 ^ i), i + 1, 0)
/-- What the readers make of it: the number, the place behind it, the code. -/
def fin (a : Nat) (r : Int × Nat × Int) : Int × Int × Int := if r.2.2 = 0 then (r.1, ((a + r.2.1 : Nat) : Int), 0) else (0, 0, r.2.2)
def getNumZ (s : Str) (a : Nat) : Int × Int × Int := fin a (gn 10 0 0 (s.drop a))
theorem p128 (i : Nat) : (2 : Nat) ^ (7 * i) = 128 ^ i := by rw [Nat.pow_mul]
theorem step_lt {i u b : Nat} (_ : i ≤ 8) (hu : u < 128 ^ i) : u + b % 128 * 128 ^ i < 128 ^ (i + 1) := by
  have h1 : b % 128 ≤ 127 := by omega
  have h2 : b % 128 * 128 ^ i ≤ 127 * 128 ^ i := Nat.mul_le_mul_right _ h1
  rw [Nat.pow_succ]
  omega
theorem pow_le9 {i : Nat} (hi : i ≤ 9) : 128 ^ i ≤ 9223372036854775808 := by
  have : 128 ^ i ≤ 128 ^ 9 := Nat.pow_le_pow_right (by omega) hi
  simpa using this
theorem term_lt {i b : Nat} (hi : i ≤ 9) (h9 : i = 9 → b ≤ 1) : b % 128 * 128 ^ i < 18446744073709551616 := by
  by_cases h : i = 9
  · have := h9 h
    subst h
    have : b % 128 ≤ 1 := by omega
    have := Nat.mul_le_mul_right (128 ^ 9) this
    simp at this ⊢
    omega
  · have h1 : 128 ^ i ≤ 128 ^ 8 := Nat.pow_le_pow_right (by omega) (by omega)
    have h2 : b % 128 ≤ 127 := by omega
    have := Nat.mul_le_mul h2 h1
    simp at this
    omega
theorem sum_lt {i u b : Nat} (hi : i ≤ 9) (hu : u < 128 ^ i) (h9 : i = 9 → b ≤ 1) : u + b % 128 * 128 ^ i < 18446744073709551616 := by
  by_cases h : i = 9
  · have := h9 h
    subst h
    have h1 : b % 128 ≤ 1 := by omega
    have := Nat.mul_le_mul_right (128 ^ 9) h1
    simp at this hu ⊢
    omega
  · have h1 := step_lt (b := b) (show i ≤ 8 by omega) hu
    have h2 := pow_le9 (show i + 1 ≤ 9 by omega)
    omega
theorem shl_eq {i b : Nat} (hi : i ≤ 9) (h9 : i = 9 → b ≤ 1) : shl .u64 ((b % 128 : Nat) : Int) ((7 * i : Nat) : Int) = ((b % 128 * 128 ^ i : Nat) : Int) := by
  unfold shl
  rw [Int.toNat_natCast, Nat.min_eq_left (by simp [IntKind.bits]; omega), u64w]
  have e : ((b % 128 : Nat) : Int) * 2 ^ (7 * i) = ((b % 128 * 128 ^ i : Nat) : Int) := by rw [← p128]; push_cast; rfl
  rw [e]
  have := term_lt hi h9
  omega
theorem or_sum {i u b : Nat} (hu : u < 128 ^ i) : u ||| (b % 128 * 128 ^ i) = u + b % 128 * 128 ^ i := by
  have h := @Nat.shiftLeft_add_eq_or_of_lt (7 * i) u (by rw [p128]; exact hu) (b % 128)
  rw [Nat.shiftLeft_eq, p128] at h
  rw [Nat.or_comm, ← h, Nat.add_comm]
theorem zig_unz (v : Nat) : zig (unz v) = v := by
  unfold unz
  split
  · unfold zig; split <;> omega
  · unfold zig; split <;> omega
theorem unz_zig (n : Int) : unz (zig n) = n := by
  unfold zig
  split
  · unfold unz; split <;> omega
  · unfold unz; split <;> omega
theorem unz_range {v : Nat} (h : v < 18446744073709551616) : Num (unz v) := by
  unfold Num unz
  split <;> omega
theorem gn_canon : ∀ (f i u : Nat) (l : Str), i + f = 10 → i ≤ 9 → u < 128 ^ i → (gn f i u l).2.2 = 0 →
    ∃ v, gn f i u l = (unz (u + v * 128 ^ i), i + (groups f v).length, 0) ∧ l = listByte (groups f v) ++ l.drop (groups f v).length ∧ u + v * 128 ^ i < 18446744073709551616 ∧ (0 < i → v ≠ 0)
  | 0, i, u, l, hf, h9, _, _ => by omega
  | f + 1, i, u, [], hf, h9, hu, h0 => by simp [gn] at h0
  | f + 1, i, u, c :: l, hf, hi9, hu, h0 => by
    have hb := byte_lt c
    have hbc := byte_of c
    simp only [gn] at h0 ⊢
    generalize hcb : c.toNat = b at h0 hb hbc ⊢
    by_cases h9 : i = 9 ∧ 1 < b
    · rw [if_pos h9] at h0; simp at h0
    rw [if_neg h9] at h0 ⊢
    have hb9 : i = 9 → b ≤ 1 := fun h => by
      rcases Nat.lt_or_ge 1 b with h1 | h1
      · exact absurd ⟨h, h1⟩ h9
      · exact h1
    by_cases h128 : 128 ≤ b
    · have hi8 : i ≤ 8 := by
        by_cases h : i = 9
        · have := hb9 h; omega
        · omega
      rw [if_pos h128] at h0 ⊢
      obtain ⟨v, e1, e2, e3, e4⟩ := gn_canon f (i + 1) (u + b % 128 * 128 ^ i) l (by omega) (by omega) (step_lt hi8 hu) h0
      have hv := e4 (by omega)
      have hs : u + b % 128 * 128 ^ i + v * 128 ^ (i + 1) = u + (b % 128 + 128 * v) * 128 ^ i := by
        rw [Nat.pow_succ, Nat.add_mul, Nat.mul_comm (128 ^ i) 128, ← Nat.mul_assoc, Nat.mul_comm v 128, Nat.add_assoc]
      have hg : groups (f + 1) (b % 128 + 128 * v) = (b : Int) :: groups f v := by
        have h1 : 128 ≤ b % 128 + 128 * v := by omega
        have h2 : (b % 128 + 128 * v) / 128 = v := by omega
        have h3 : (b % 128 + 128 * v) % 128 + 128 = b := by omega
        simp only [groups, if_pos h1, h2, h3]
      refine ⟨b % 128 + 128 * v, ?_, ?_, ?_, ?_⟩
      · rw [e1, hs, hg, List.length_cons, Nat.add_assoc, Nat.add_comm 1]
      · rw [hg]
        show c :: l = UInt8.ofNat ((b : Nat) : Int).toNat :: (listByte (groups f v) ++ l.drop (groups f v).length)
        rw [hbc, ← e2]
      · rw [← hs]; exact e3
      · intro _; omega
    · rw [if_neg h128] at h0 ⊢
      by_cases hz : b = 0 ∧ 0 < i
      · rw [if_pos hz] at h0; simp at h0
      rw [if_neg hz] at h0 ⊢
      have hm : b % 128 = b := by omega
      have hsl := sum_lt (b := b) hi9 hu hb9
      rw [hm] at hsl ⊢
      have hg : groups (f + 1) b = [(b : Int)] := by simp only [groups, if_neg h128]
      refine ⟨b, ?_, ?_, hsl, ?_⟩
      · rw [hg]; rfl
      · rw [hg]
        show c :: l = UInt8.ofNat ((b : Nat) : Int).toNat :: l
        rw [hbc]
      · intro hi hb0; exact hz ⟨hb0, hi⟩
/-- At a stands the encoding of n, and it ends at a'. -/
structure Got (s : Str) (a : Nat) (n : Int) (a' : Nat) : Prop where
  at' : a' = a + (putOf n).length
  le : a' ≤ s.length
  eq : s.drop a = putOf n ++ s.drop a'
  range : Num n
theorem num_cases (s : Str) (a : Nat) : (∃ (n : Int) (a' : Nat), getNumZ s a = (n, (a' : Int), 0) ∧ Got s a n a') ∨ ∃ c, c ≠ 0 ∧ getNumZ s a = (0, 0, c) := by
  unfold getNumZ fin
  by_cases h : (gn 10 0 0 (s.drop a)).2.2 = 0
  · left
    obtain ⟨v, e1, e2, e3, _⟩ := gn_canon 10 0 0 (s.drop a) (by omega) (by omega) (by omega) h
    simp only [Nat.pow_zero, Nat.mul_one, Nat.zero_add] at e1 e3
    have hB : putOf (unz v) = listByte (groups 10 v) := by unfold putOf; rw [zig_unz]
    have hsz : (putOf (unz v)).length = (groups 10 v).length := by rw [hB, listByte_len]
    refine ⟨unz v, a + (putOf (unz v)).length, ?_, rfl, ?_, ?_, unz_range e3⟩
    · rw [e1, hsz]
      rfl
    · have := congrArg List.length e2
      simp only [List.length_append, listByte_len, List.length_drop] at this
      have hp : 0 < (groups 10 v).length := by unfold groups; split <;> simp
      omega
    · rw [hsz, ← List.drop_drop, hB]
      exact e2
  · right
    exact ⟨_, h, by rw [if_neg h]⟩
/-- What was encoded is read back, whatever follows. -/
theorem gn_put : ∀ (f i u v : Nat) (l : Str), i + f = 10 → i ≤ 9 → v < 128 ^ f → u + v * 128 ^ i < 18446744073709551616 → (0 < i → v ≠ 0) → gn f i u (listByte (groups f v) ++ l) = (unz (u + v * 128 ^ i), i + (groups f v).length, 0)
  | 0, i, u, v, l, hf, h9, _, _, _ => by omega
  | f + 1, i, u, v, l, hf, hi9, hv, hb, hz => by
    have h9' : i = 9 → v ≤ 1 := fun h => by subst h; simp at hb; omega
    by_cases h128 : 128 ≤ v
    · have hi8 : i ≤ 8 := by
        by_cases h : i = 9
        · have := h9' h; omega
        · omega
      have hg : groups (f + 1) v = ((v % 128 + 128 : Nat) : Int) :: groups f (v / 128) := by simp only [groups, if_pos h128]
      have ht : (UInt8.ofNat (((v % 128 + 128 : Nat) : Int)).toNat).toNat = v % 128 + 128 := by
        rw [Int.toNat_natCast, UInt8.toNat_ofNat']
        omega
      rw [hg]
      show gn (f + 1) i u (UInt8.ofNat (((v % 128 + 128 : Nat) : Int)).toNat :: (listByte (groups f (v / 128)) ++ l)) = _
      simp only [gn]
      rw [ht, if_neg (by omega), if_pos (by omega)]
      have hs : u + (v % 128 + 128) % 128 * 128 ^ i + v / 128 * 128 ^ (i + 1) = u + v * 128 ^ i := by
        have e : (v % 128 + 128) % 128 = v % 128 := by omega
        have e2 : v % 128 * 128 ^ i + v / 128 * (128 * 128 ^ i) = v * 128 ^ i := by
          rw [← Nat.mul_assoc, ← Nat.add_mul]
          congr 1
          omega
        rw [e, Nat.pow_succ, Nat.mul_comm (128 ^ i) 128, Nat.add_assoc, e2]
      rw [gn_put f (i + 1) _ (v / 128) l (by omega) (by omega) (by rw [Nat.pow_succ] at hv; exact Nat.div_lt_of_lt_mul (by rw [Nat.mul_comm]; exact hv)) (by rw [hs]; exact hb) (fun _ => by omega), hs]
      simp only [List.length_cons, Prod.mk.injEq, and_true, true_and]
      omega
    · have hg : groups (f + 1) v = [(v : Int)] := by simp only [groups, if_neg h128]
      have ht : (UInt8.ofNat ((v : Int)).toNat).toNat = v := by
        rw [Int.toNat_natCast, UInt8.toNat_ofNat']
        omega
      rw [hg]
      show gn (f + 1) i u (UInt8.ofNat ((v : Int)).toNat :: l) = _
      simp only [gn]
      rw [ht, if_neg (fun q => by have := h9' q.1; omega), if_neg h128, if_neg (fun q => hz q.2 q.1), Nat.mod_eq_of_lt (by omega)]
      rfl
theorem get_put (n : Int) (h : Num n) (s : Str) (a : Nat) (t : Str) (hs : s.drop a = putOf n ++ t) : getNumZ s a = (n, ((a + (putOf n).length : Nat) : Int), 0) := by
  unfold getNumZ
  have hz := zig_lt h
  rw [hs]
  unfold putOf
  rw [gn_put 10 0 0 (zig n) t rfl (by omega) (by omega) (by omega) (fun q => absurd q (by omega))]
  simp only [Nat.pow_zero, Nat.mul_one, Nat.zero_add, unz_zig, listByte_len]
  rfl
/-! ### texts, read back -/
def getTextZ (s : Str) (a : Nat) : Str × Int × Int :=
  if (getNumZ s a).2.2 = 0 then
    if 0 ≤ (getNumZ s a).1 ∧ (getNumZ s a).1 ≤ 8000 then
      if (getNumZ s a).1 > (s.length : Int) - (getNumZ s a).2.1 then ([], 0, 4)
      else ((s.take ((getNumZ s a).2.1 + (getNumZ s a).1).toNat).drop (getNumZ s a).2.1.toNat, (getNumZ s a).2.1 + (getNumZ s a).1, 0)
    else ([], 0, 3)
  else ([], 0, (getNumZ s a).2.2)
/-- At a stands the encoding of the text t, and it ends at a'. -/
structure GotT (s : Str) (a : Nat) (t : Str) (a' : Nat) : Prop where
  at' : a' = a + (putTextOf t).length
  le : a' ≤ s.length
  eq : s.drop a = putTextOf t ++ s.drop a'
  size : t.length ≤ 8000
theorem text_cases (s : Str) (a : Nat) : (∃ t a', getTextZ s a = (t, ((a' : Nat) : Int), 0) ∧ GotT s a t a') ∨ ∃ c, c ≠ 0 ∧ getTextZ s a = ([], 0, c) := by
  unfold getTextZ
  rcases num_cases s a with ⟨n, a', e, g⟩ | ⟨c, hc, e⟩
  · rw [e]
    simp only [if_true]
    by_cases hn : 0 ≤ n ∧ n ≤ 8000
    · rw [if_pos hn]
      have hle := g.le
      by_cases hs : n > (s.length : Int) - (a' : Int)
      · rw [if_pos hs]
        exact .inr ⟨4, by omega, rfl⟩
      · rw [if_neg hs]
        obtain ⟨m, rfl⟩ : ∃ m : Nat, n = (m : Int) := ⟨n.toNat, by omega⟩
        have e1 : ((a' : Int) + (m : Int)).toNat = a' + m := by omega
        rw [e1, Int.toNat_natCast]
        have hB : (s.take (a' + m)).drop a' = (s.drop a').take m := by
          rw [List.drop_take, Nat.add_sub_cancel_left]
        have hsz : ((s.take (a' + m)).drop a').length = m := by
          rw [hB, List.length_take, List.length_drop]
          omega
        refine .inl ⟨_, a' + m, by push_cast; rfl, ?_, ?_, ?_, ?_⟩
        · unfold putTextOf
          rw [List.length_append, hsz]
          have := g.at'
          omega
        · omega
        · unfold putTextOf
          rw [hsz, hB, g.eq, List.append_assoc, ← List.drop_drop, List.take_append_drop]
        · rw [hsz]; omega
    · rw [if_neg hn]
      exact .inr ⟨3, by omega, rfl⟩
  · rw [e]
    simp only
    rw [if_neg hc]
    exact .inr ⟨c, hc, rfl⟩
/-- One number, read: the number, the place, whether it failed. -/
def numR (s : Str) (a : Nat) : Int × Str × Int × Bool := if (getNumZ s a).2.2 = 0 then ((getNumZ s a).1, s, (getNumZ s a).2.1, false) else (0, s, (a : Int), true)
theorem numR_cases (s : Str) (a : Nat) : (∃ n a', numR s a = (n, s, ((a' : Nat) : Int), false) ∧ Got s a n a') ∨ numR s a = (0, s, (a : Int), true) := by
  unfold numR
  rcases num_cases s a with ⟨n, a', e, g⟩ | ⟨c, hc, e⟩
  · left; exact ⟨n, a', by rw [e]; rfl, g⟩
  · right; rw [e, if_neg hc]
/-- One text, read: the text, the place, whether it failed. -/
def textR (s : Str) (a : Nat) : Str × Str × Int × Bool := if (getTextZ s a).2.2 = 0 then ((getTextZ s a).1, s, (getTextZ s a).2.1, false) else ([], s, (a : Int), true)
theorem textR_cases (s : Str) (a : Nat) : (∃ t a', textR s a = (t, s, ((a' : Nat) : Int), false) ∧ GotT s a t a') ∨ textR s a = ([], s, (a : Int), true) := by
  unfold textR
  rcases text_cases s a with ⟨n, a', e, g⟩ | ⟨c, hc, e⟩
  · left; exact ⟨n, a', by rw [e]; rfl, g⟩
  · right; rw [e, if_neg hc]
end Go.Proofs.YtcnkbllbpimaiaaGreatDoorE

namespace Go.Proofs.YtcnkbllbpimaiaaGreatDoorE
open Go
set_option linter.unusedVariables false
theorem loop_inv {S R : Type} (L : Nat → S → Option R) (m : S → Nat) (I : S → Prop) (Q : R → Prop) (step : ∀ s, I s → (∃ r, (∀ j, L (j + 1) s = some r) ∧ Q r) ∨ ∃ s', I s' ∧ m s' < m s ∧ ∀ j, L (j + 1) s = L j s') : ∀ (n : Nat) (s : S) (j : Nat), I s → m s ≤ n → n < j → ∃ r, L j s = some r ∧ Q r := by
  intro n
  induction n with
  | zero =>
    intro s j hi hm hj
    obtain ⟨j, rfl⟩ : ∃ q, j = q + 1 := ⟨j - 1, by omega⟩
    rcases step s hi with ⟨r, hr, hq⟩ | ⟨s', _, hm', _⟩
    · exact ⟨r, hr j, hq⟩
    · omega
  | succ n ih =>
    intro s j hi hm hj
    obtain ⟨j, rfl⟩ : ∃ q, j = q + 1 := ⟨j - 1, by omega⟩
    rcases step s hi with ⟨r, hr, hq⟩ | ⟨s', hi', hm', hs⟩
    · exact ⟨r, hr j, hq⟩
    · rw [hs j]
      exact ih s' j hi' (by omega) (by omega)
/-- The same, whatever the fuel. -/
theorem loop_uni {S R : Type} (L : Nat → S → Option R) (m : S → Nat) (I : S → Prop) (Q : R → Prop) (step : ∀ s, I s → (∃ r, (∀ j, L (j + 1) s = some r) ∧ Q r) ∨ ∃ s', I s' ∧ m s' < m s ∧ ∀ j, L (j + 1) s = L j s') : ∀ (n : Nat) (s : S), I s → m s ≤ n → ∃ r, Q r ∧ ∀ j, n < j → L j s = some r := by
  intro n
  induction n with
  | zero =>
    intro s hi hm
    rcases step s hi with ⟨r, hr, hq⟩ | ⟨s', _, hm', _⟩
    · refine ⟨r, hq, fun j hj => ?_⟩
      obtain ⟨j, rfl⟩ : ∃ q, j = q + 1 := ⟨j - 1, by omega⟩
      exact hr j
    · omega
  | succ n ih =>
    intro s hi hm
    rcases step s hi with ⟨r, hr, hq⟩ | ⟨s', hi', hm', hs⟩
    · refine ⟨r, hq, fun j hj => ?_⟩
      obtain ⟨j, rfl⟩ : ∃ q, j = q + 1 := ⟨j - 1, by omega⟩
      exact hr j
    · obtain ⟨r, hq, hr⟩ := ih s' hi' (by omega)
      refine ⟨r, hq, fun j hj => ?_⟩
      obtain ⟨j, rfl⟩ : ∃ q, j = q + 1 := ⟨j - 1, by omega⟩
      rw [hs j]
      exact hr j (by omega)
theorem at_in {α : Type} {l : List α} {i : Int} (h : 0 ≤ i) (h2 : i < (l.length : Int)) : ∃ x, at? l i = some x ∧ x ∈ l := by
  obtain ⟨n, rfl⟩ : ∃ n : Nat, i = (n : Int) := ⟨i.toNat, by omega⟩
  exact ⟨l[n]'(by omega), at_nat (by omega), List.getElem_mem _⟩
theorem wid {n : Int} (h0 : 0 ≤ n) (h1 : n < 9223372036854775808) : IntKind.wrap .i64 n = n := w64 (by omega) h1
theorem wuid {n : Int} (h0 : 0 ≤ n) (h1 : n < 18446744073709551616) : IntKind.wrap .u64 n = n := by rw [u64w]; omega
theorem cut_in {α : Type} {l : List α} {i j : Int} (h0 : 0 ≤ i) (h1 : i ≤ j) (h2 : j ≤ (l.length : Int)) : ∃ t, cut? l i j = some t ∧ (t.length : Int) = j - i := by
  obtain ⟨a, rfl⟩ : ∃ n : Nat, i = (n : Int) := ⟨i.toNat, by omega⟩
  obtain ⟨b, rfl⟩ : ∃ n : Nat, j = (n : Int) := ⟨j.toNat, by omega⟩
  refine ⟨_, cut_ok (by omega) (by omega), ?_⟩
  rw [List.length_drop, List.length_take]
  omega
end Go.Proofs.YtcnkbllbpimaiaaGreatDoorE

namespace Go.Proofs.YtcnkbllbpimaiaaGreatDoorE
open Go
set_option linter.unusedVariables false
/-- From some fuel on it comes to one value, of which Q is known. -/
def Ev {α : Type} (f : Nat → Option α) (Q : α → Prop) : Prop := ∃ p, Q p ∧ Ever fun k => f k = some p
theorem Ev.bind {α β : Type} {f : Nat → Option α} {g : Nat → α → Option β} {Q : α → Prop} {R : β → Prop} (h : Ev f Q) (k : ∀ p, Q p → Ev (fun k => g k p) R) : Ev (fun k => (f k).bind (g k)) R := by
  obtain ⟨p, hp, e⟩ := h
  obtain ⟨q, hq, e2⟩ := k p hp
  exact ⟨q, hq, (e.and e2).mono fun k h => (congrArg (fun z => Option.bind z (g k)) h.1).trans h.2⟩
theorem Ev.ret {α : Type} {p : α} {Q : α → Prop} (h : Q p) : Ev (fun _ => some p) Q := ⟨p, h, Ever.of fun _ => rfl⟩
theorem Ev.of {α : Type} {x : Option α} {Q : α → Prop} (h : ∃ p, x = some p ∧ Q p) : Ev (fun _ => x) Q := by
  obtain ⟨p, e, h⟩ := h
  exact ⟨p, h, Ever.of fun _ => e⟩
theorem Ev.ever {α : Type} {f : Nat → Option α} {p : α} {Q : α → Prop} (h : Ever fun k => f k = some p) (q : Q p) : Ev f Q := ⟨p, q, h⟩
theorem Ev.mono {α : Type} {f : Nat → Option α} {Q R : α → Prop} (h : Ev f Q) (k : ∀ p, Q p → R p) : Ev f R := by
  obtain ⟨p, hp, e⟩ := h
  exact ⟨p, k p hp, e⟩
theorem Ev.cond {α : Type} {b : Bool} {f g : Nat → Option α} {Q : α → Prop} (h1 : b = true → Ev f Q) (h2 : b = false → Ev g Q) : Ev (fun k => bif b then f k else g k) Q := by
  cases b with
  | true => exact h1 rfl
  | false => exact h2 rfl
/-- A bind that surely has its value. -/
theorem Ev.bnd {α β : Type} {x : Option α} {g : Nat → α → Option β} {R : β → Prop} {p : α} (h : x = some p) (k : Ev (fun k => g k p) R) : Ev (fun k => x.bind (g k)) R := by
  rw [h]
  exact k
theorem loop_ev {S R : Type} (L : Nat → Nat → S → Option R) (m : S → Nat) (I : S → Prop) (Q : R → Prop) (step : ∀ s, I s → (∃ r, (Ever fun k => ∀ j, L k (j + 1) s = some r) ∧ Q r) ∨ ∃ s', I s' ∧ m s' < m s ∧ Ever fun k => ∀ j, L k (j + 1) s = L k j s') : ∀ (n : Nat) (s : S), I s → m s ≤ n → ∃ r, Q r ∧ Ever fun k => ∀ j, n < j → L k j s = some r := by
  intro n
  induction n with
  | zero =>
    intro s hi hm
    rcases step s hi with ⟨r, hr, hq⟩ | ⟨s', _, hm', _⟩
    · refine ⟨r, hq, hr.mono fun k hr j hj => ?_⟩
      obtain ⟨j, rfl⟩ : ∃ q, j = q + 1 := ⟨j - 1, by omega⟩
      exact hr j
    · omega
  | succ n ih =>
    intro s hi hm
    rcases step s hi with ⟨r, hr, hq⟩ | ⟨s', hi', hm', hs⟩
    · refine ⟨r, hq, hr.mono fun k hr j hj => ?_⟩
      obtain ⟨j, rfl⟩ : ∃ q, j = q + 1 := ⟨j - 1, by omega⟩
      exact hr j
    · obtain ⟨r, hq, hr⟩ := ih s' hi' (by omega)
      refine ⟨r, hq, (hr.and hs).mono fun k h j hj => ?_⟩
      obtain ⟨j, rfl⟩ : ∃ q, j = q + 1 := ⟨j - 1, by omega⟩
      rw [h.2 j]
      exact h.1 j (by omega)
theorem Ev.loop {S R : Type} (L : Nat → Nat → S → Option R) (m : S → Nat) (I : S → Prop) (Q : R → Prop) (s : S) (hs : I s) (step : ∀ s, I s → (∃ r, (Ever fun k => ∀ j, L k (j + 1) s = some r) ∧ Q r) ∨ ∃ s', I s' ∧ m s' < m s ∧ Ever fun k => ∀ j, L k (j + 1) s = L k j s') : Ev (fun k => L k k s) Q := by
  obtain ⟨r, hq, K, h⟩ := loop_ev L m I Q step (m s) s hs (Nat.le_refl _)
  exact ⟨r, hq, K + m s + 1, fun k hk => h k (by omega) k (by omega)⟩
end Go.Proofs.YtcnkbllbpimaiaaGreatDoorE

namespace Go.Proofs.YtcnkbllbpimaiaaGreatDoorE
open Go
set_option linter.unusedVariables false
abbrev DirtyT := Int × Str
abbrev FlashT := List Str × List DirtyT
abbrev MachT := Int × FlashT
theorem szLoop_ev {α : Type} (L : Nat → Int → Int → Option (Int ⊕ Int)) (l : List α) (len : α → Nat) (n : Int) (h0 : 0 ≤ n)
    (hs : ∀ i, (h : i < l.length) → ∀ s, 0 ≤ s → s ≤ n → ∀ j, L (j + 1) s (i : Int) = if s < (len l[i] : Int) then some (.inr (-1)) else L j (s - (len l[i] : Int)) ((i + 1 : Nat) : Int))
    (he : ∀ s j, L (j + 1) s (l.length : Int) = some (.inl s)) : Ev (fun k => L k n 0) fun r => (∃ v, r = .inl v ∧ 0 ≤ v ∧ v ≤ n ∧ ∀ x ∈ l, (len x : Int) ≤ n) ∨ r = .inr (-1) := by
  refine Ev.loop (fun k j (z : Int × Nat) => L j z.1 (z.2 : Int)) (fun z => l.length - z.2) (fun z => 0 ≤ z.1 ∧ z.1 ≤ n ∧ z.2 ≤ l.length ∧ ∀ x ∈ l.take z.2, (len x : Int) ≤ n) _ (n, 0) ⟨h0, Int.le_refl _, Nat.zero_le _, fun x hx => by simp at hx⟩ ?_
  rintro ⟨s, i⟩ ⟨q0, q1, q2, q3⟩
  have q0 : 0 ≤ s := q0
  have q1 : s ≤ n := q1
  have q2 : i ≤ l.length := q2
  by_cases hi : i < l.length
  · by_cases hb : s < (len l[i] : Int)
    · left
      refine ⟨.inr (-1), Ever.of fun k j => ?_, .inr rfl⟩
      show L (j + 1) s (i : Int) = _
      rw [hs i hi s q0 q1, if_pos hb]
    · right
      refine ⟨(s - (len l[i] : Int), i + 1), ⟨by show 0 ≤ s - _; omega, by show s - _ ≤ n; omega, hi, fun x hx => ?_⟩, by show l.length - (i + 1) < l.length - i; omega, Ever.of fun k j => ?_⟩
      · have hx : x ∈ l.take (i + 1) := hx
        rw [take_succ' hi] at hx
        rcases List.mem_append.1 hx with hx | hx
        · exact q3 x hx
        · rw [List.mem_singleton.1 hx]; omega
      · show L (j + 1) s (i : Int) = L j (s - (len l[i] : Int)) ((i + 1 : Nat) : Int)
        rw [hs i hi s q0 q1, if_neg hb]
  · left
    obtain rfl : i = l.length := by omega
    refine ⟨.inl s, Ever.of fun k j => he s j, .inl ⟨s, rfl, q0, q1, fun x hx => q3 x (by rw [List.take_length]; exact hx)⟩⟩
def FlashBig (f : FlashT) : Prop := (f.1.length ≤ 140737488351232 ∧ ∀ x ∈ f.1, x.length ≤ 140737488351232) ∧ f.2.length ≤ 140737488351232 ∧ ∀ x ∈ f.2, x.2.length ≤ 140737488351232
def FlashFit (f : FlashT) (n : Int) : Prop := ((f.1.length : Int) ≤ n ∧ ∀ x ∈ f.1, (x.length : Int) ≤ n) ∧ (f.2.length : Int) ≤ n ∧ ∀ x ∈ f.2, (x.2.length : Int) ≤ n
/-! ### copies -/
/-! ### comparisons -/
theorem eqInt64S_refl (l : List Int) (hl : l.length ≤ 1048576) : Ever fun k => laws_eqInt64S k l l = some true := by
  have key : Ever fun k => laws_eqInt64S.l0 k l l 0 = some (.inl ()) := by
    refine loop_of (fun j i => laws_eqInt64S.l0 j l l (i : Int)) l.length _ (fun i hi j => ?_) fun j => ?_
    · conv => lhs; unfold laws_eqInt64S.l0
      rw [dlt hi, at_nat hi, wsuc (by omega)]
      simp only [cond_true, Option.bind_some, bne_self_eq_false, cond_false]
    · conv => lhs; unfold laws_eqInt64S.l0
      rw [dnlt (Nat.le_refl _)]
      rfl
  refine key.mono fun k hk => ?_
  unfold laws_eqInt64S
  rw [hk]
  simp
end Go.Proofs.YtcnkbllbpimaiaaGreatDoorE

namespace Go.Proofs.YtcnkbllbpimaiaaGreatDoorE
open Go
set_option linter.unusedVariables false
theorem beqd (a b : Int) : (a == b) = decide (a = b) := by rw [Bool.eq_iff_iff]; simp
theorem w8u (i : Nat) (h : i < 9223372036854775807) : IntKind.wrap .i64 ((i : Int) + 1) = ((i + 1 : Nat) : Int) := wsuc h
theorem half32 (r : Nat) : shr .u32 (r : Int) 1 = ((r / 2 : Nat) : Int) := shr_nat .u32 r 1 (by decide)
theorem beq_str (s t : Str) : (s == t) = decide (s = t) := by rw [Bool.eq_iff_iff]; simp
end Go.Proofs.YtcnkbllbpimaiaaGreatDoorE

namespace Go.Proofs.YtcnkbllbpimaiaaGreatDoorE
open Go
set_option linter.unusedVariables false
theorem listByte_byteList (s : Str) : listByte (byteList s) = s := by
  unfold listByte byteList
  rw [List.map_map]
  have : ((fun n : Int => UInt8.ofNat n.toNat) ∘ fun b : UInt8 => (b.toNat : Int)) = id := by
    funext b
    simp
  rw [this, List.map_id]
theorem listByte_app (a b : List Int) : listByte (a ++ b) = listByte a ++ listByte b := by simp [listByte]
theorem byteList_app (a b : Str) : byteList (a ++ b) = byteList a ++ byteList b := by simp [byteList]
theorem byteList_len (s : Str) : (byteList s).length = s.length := by simp [byteList]
/-! ### decimal -/
theorem dec_small {u : Nat} (h : u < 10) : Lib.decDigits u = [UInt8.ofNat (48 + u)] := by
  rw [Lib.decDigits, dif_pos h]
theorem dec_big {u : Nat} (h : ¬ u < 10) : Lib.decDigits u = Lib.decDigits (u / 10) ++ [UInt8.ofNat (48 + u % 10)] := by
  rw [Lib.decDigits, dif_neg h]
theorem dec_len : ∀ (d u : Nat), u < 10 ^ (d + 1) → (Lib.decDigits u).length ≤ d + 1
  | 0, u, h => by
    rw [dec_small (by simpa using h)]
    simp
  | d + 1, u, h => by
    by_cases hu : u < 10
    · rw [dec_small hu]; simp
    · rw [dec_big hu, List.length_append]
      have := dec_len d (u / 10) (by rw [Nat.pow_succ] at h; omega)
      simp
      omega
/-- A number, as it is written: what is below nothing is nothing. -/
def decM (n : Int) : Str := Lib.decDigits n.toNat
theorem decM_len {n : Int} (h : n < 9223372036854775808) : (decM n).length ≤ 20 := dec_len 19 n.toNat (by omega)
theorem iDec (n : Int) (h : n < 9223372036854775808) : impl_decimal n = some (decM n) := by
  have hm : imax 0 n = ((n.toNat : Nat) : Int) := by
    unfold imax
    by_cases h0 : n > 0
    · rw [if_pos h0]; omega
    · rw [if_neg h0]; omega
  unfold impl_decimal strconv_FormatInt int_strconv_FormatInt decM
  rw [hm, if_pos ⟨rfl, by omega, by omega⟩]
  simp only [Option.bind_some]
  unfold Lib.itoa
  rw [if_neg (by omega), Int.toNat_natCast]
theorem sDecL : ∀ (d u : Nat) (acc : Str) (j : Nat), u < 10 ^ d → u < 9223372036854775808 → acc.length + d ≤ 100 → d < j → spec_l01Dec.l0 j (u : Int) acc = some ((if u = 0 then [] else Lib.decDigits u) ++ acc)
  | d, 0, acc, j, _, _, _, hj => by
    obtain ⟨j, rfl⟩ : ∃ q, j = q + 1 := ⟨j - 1, by omega⟩
    unfold spec_l01Dec.l0
    rfl
  | 0, u + 1, acc, j, h, _, _, _ => by simp at h
  | d + 1, u + 1, acc, j, h, h63, ha, hj => by
    obtain ⟨j, rfl⟩ : ∃ q, j = q + 1 := ⟨j - 1, by omega⟩
    generalize hu : u + 1 = v at h h63 ⊢
    have hv : v ≠ 0 := by omega
    have e1 : Int.tmod (v : Int) 10 = ((v % 10 : Nat) : Int) := by rw [Int.tmod_eq_emod_of_nonneg (by omega)]; omega
    have e2 : Int.tdiv (v : Int) 10 = ((v / 10 : Nat) : Int) := by rw [Int.tdiv_eq_ediv_of_nonneg (by omega)]; omega
    have e3 : IntKind.wrap .i64 (48 + ((v % 10 : Nat) : Int)) = ((48 + v % 10 : Nat) : Int) := by rw [w64 (by omega) (by omega)]; omega
    have e4 : IntKind.wrap .u8 ((48 + v % 10 : Nat) : Int) = ((48 + v % 10 : Nat) : Int) := by
      simp [IntKind.wrap, IntKind.bits, IntKind.signed]
      omega
    have e5 : listByte [((48 + v % 10 : Nat) : Int)] = [UInt8.ofNat (48 + v % 10)] := rfl
    rw [spec_l01Dec.l0, show ((v : Int) != 0) = true by simp; omega, e1, e2, e3, e4, e5, decide_eq_false (by omega : ¬ (((v % 10 : Nat) : Int) < 0)), nz_some (by omega), w64 (n := ((v / 10 : Nat) : Int)) (by omega) (by omega)]
    simp only [cond_true, cond_false, Option.bind_some]
    rw [cat_some (by simp; omega)]
    simp only [Option.bind_some]
    rw [sDecL d (v / 10) _ j (by rw [Nat.pow_succ] at h; omega) (by omega) (by simp; omega) (by omega), if_neg hv]
    congr 1
    by_cases h10 : v < 10
    · rw [dec_small h10, if_pos (by omega)]
      rw [Nat.mod_eq_of_lt h10]
      simp
    · rw [dec_big h10, if_neg (by omega)]
      simp
/-! ### hexadecimal -/
def hexD : Str := [48, 49, 50, 51, 52, 53, 54, 55, 56, 57, 97, 98, 99, 100, 101, 102]
def hexP (b : UInt8) : List Int := [((hexD.getD (b.toNat / 16) 0).toNat : Int), ((hexD.getD (b.toNat % 16) 0).toNat : Int)]
theorem hex_hi : ∀ n : Nat, n < 256 → at? hexD (shr .u8 ((n : Nat) : Int) 4) = some (hexD.getD (n / 16) 0) := by decide +kernel
theorem hex_lo : ∀ n : Nat, n < 256 → at? hexD (intBits .and .u8 ((n : Nat) : Int) 15) = some (hexD.getD (n % 16) 0) := by decide +kernel
def hexL (s : Str) : List Int := s.flatMap hexP
theorem hexL_len (s : Str) : (hexL s).length = 2 * s.length := by
  unfold hexL
  induction s with
  | nil => rfl
  | cons b s ih => rw [List.flatMap_cons, List.length_append, ih, List.length_cons]; show 2 + _ = _; omega
def hexM (s : Str) : Str := listByte (hexL s)
theorem hex_loop (L : Nat → Int → List Int → Option (List Int)) (s : Str) (hl : s.length ≤ 1048576)
    (hs : ∀ i, (h : i < s.length) → ∀ acc j, acc.length ≤ 4000000 → L (j + 1) (i : Int) acc = L j ((i + 1 : Nat) : Int) (acc ++ hexP s[i]))
    (he : ∀ acc j, L (j + 1) (s.length : Int) acc = some acc) : ∀ k, s.length < k → L k 0 [] = some (hexL s) := by
  intro k hk
  have key : ∀ (d i : Nat), i + d = s.length → ∀ j, d < j → L j (i : Int) (hexL (s.take i)) = some (hexL s) := by
    intro d
    induction d with
    | zero =>
      intro i hi j hj
      obtain ⟨j, rfl⟩ : ∃ q, j = q + 1 := ⟨j - 1, by omega⟩
      obtain rfl : i = s.length := by omega
      rw [he, List.take_length]
    | succ d ih =>
      intro i hi j hj
      obtain ⟨j, rfl⟩ : ∃ q, j = q + 1 := ⟨j - 1, by omega⟩
      have h : i < s.length := by omega
      rw [hs i h _ j (by rw [hexL_len, List.length_take]; omega)]
      have := ih (i + 1) (by omega) j (by omega)
      rw [take_succ' h] at this
      unfold hexL at this ⊢
      rw [List.flatMap_append] at this
      simpa using this
  exact key s.length 0 (Nat.zero_add _) k hk
theorem byte_lt' (b : UInt8) : b.toNat < 256 := b.toNat_lt
theorem sHex (s : Str) (hl : s.length ≤ 1048576) : ∀ k, s.length < k → spec_l16Hex k s = some (hexM s) := by
  intro k hk
  have run := hex_loop (fun j i acc => spec_l16Hex.l0 j s hexD i acc) s hl (fun i h acc j ha => by
    show spec_l16Hex.l0 (j + 1) s hexD (i : Int) acc = _
    rw [spec_l16Hex.l0, dlt h, at_nat h, nneg_some (by omega), wsuc (by omega)]
    simp only [cond_true, Option.bind_some]
    rw [hex_hi _ (byte_lt' _), hex_lo _ (byte_lt' _)]
    simp only [Option.bind_some]
    rw [app_ok (by simp; omega)]
    rfl) (fun acc j => by
    show spec_l16Hex.l0 (j + 1) s hexD (s.length : Int) acc = _
    unfold spec_l16Hex.l0
    rw [dnlt (Nat.le_refl _)]
    rfl) k hk
  unfold spec_l16Hex
  have run : spec_l16Hex.l0 k s [48, 49, 50, 51, 52, 53, 54, 55, 56, 57, 97, 98, 99, 100, 101, 102] 0 [] = some (hexL s) := run
  rw [run]
  rfl
theorem iHex (s : Str) (hl : s.length ≤ 1048576) : ∀ k, s.length < k → impl_hexText k s = some (hexM s) := by
  intro k hk
  have run := hex_loop (fun j i acc => impl_hexText.l0 j s (s.length : Int) i acc) s hl (fun i h acc j ha => by
    show impl_hexText.l0 (j + 1) s (s.length : Int) (i : Int) acc = _
    rw [impl_hexText.l0, dlt h, at_nat h, nneg_some (by omega), wsuc (by omega)]
    simp only [cond_true, Option.bind_some]
    have e1 := hex_hi _ (byte_lt' s[i])
    have e2 := hex_lo _ (byte_lt' s[i])
    unfold hexD at e1 e2
    rw [e1, e2]
    simp only [Option.bind_some]
    rw [app_ok (by simp; omega)]
    rfl) (fun acc j => by
    show impl_hexText.l0 (j + 1) s (s.length : Int) (s.length : Int) acc = _
    unfold impl_hexText.l0
    rw [dnlt (Nat.le_refl _)]
    rfl) k hk
  unfold impl_hexText
  have run : impl_hexText.l0 k s (s.length : Int) 0 [] = some (hexL s) := run
  rw [run]
  rfl
theorem hexM_len (s : Str) : (hexM s).length = 2 * s.length := by
  unfold hexM
  rw [show (listByte (hexL s)).length = (hexL s).length by simp [listByte], hexL_len]
end Go.Proofs.YtcnkbllbpimaiaaGreatDoorE

namespace Go.Proofs.YtcnkbllbpimaiaaGreatDoorE
open Go
set_option linter.unusedVariables false
theorem drop_cases (s : Str) (j : Nat) : (s.drop j = [] ∧ s.length ≤ j) ∨ ∃ h : j < s.length, s.drop j = s[j] :: s.drop (j + 1) := by
  by_cases h : j < s.length
  · exact .inr ⟨h, List.drop_eq_getElem_cons h⟩
  · exact .inl ⟨List.drop_eq_nil_of_le (by omega), by omega⟩
section
variable (s : Str) (a : Nat) (ha : a < 9223372036854775000)
include ha
end
end Go.Proofs.YtcnkbllbpimaiaaGreatDoorE

namespace Go.Proofs.YtcnkbllbpimaiaaGreatDoorE
open Go
set_option linter.unusedVariables false
section
variable (s : Str) (a : Nat) (ha : a < 9223372036854775000)
include ha
end
end Go.Proofs.YtcnkbllbpimaiaaGreatDoorE

namespace Go.Proofs.YtcnkbllbpimaiaaGreatDoorE
open Go
set_option linter.unusedVariables false
/-- Three numbers and a text from the start of s, and where they end. -/
def quadZ (s : Str) : Option (Int × Int × Int × Str × Nat) :=
  if (numR s 0).2.2.2 = true then none else
  if (numR s (numR s 0).2.2.1.toNat).2.2.2 = true then none else
  if (numR s (numR s (numR s 0).2.2.1.toNat).2.2.1.toNat).2.2.2 = true then none else
  if (textR s (numR s (numR s (numR s 0).2.2.1.toNat).2.2.1.toNat).2.2.1.toNat).2.2.2 = true then none else
  some ((numR s 0).1, (numR s (numR s 0).2.2.1.toNat).1, (numR s (numR s (numR s 0).2.2.1.toNat).2.2.1.toNat).1, (textR s (numR s (numR s (numR s 0).2.2.1.toNat).2.2.1.toNat).2.2.1.toNat).1, (textR s (numR s (numR s (numR s 0).2.2.1.toNat).2.2.1.toNat).2.2.1.toNat).2.2.1.toNat)
theorem head_whole {s : Str} {x y z : Int} {t : Str} {a b c d : Nat} (g1 : Got s 0 x a) (g2 : Got s a y b) (g3 : Got s b z c) (g4 : GotT s c t d) : putOf x ++ putOf y ++ putOf z ++ putTextOf t = s ↔ d = s.length := by
  have e1 := g1.eq
  have e2 := g2.eq
  have e3 := g3.eq
  have e4 := g4.eq
  rw [List.drop_zero] at e1
  constructor
  · intro h
    have h1 := congrArg List.length h
    rw [List.length_append, List.length_append, List.length_append] at h1
    have := g1.at'; have := g2.at'; have := g3.at'; have := g4.at'
    omega
  · rintro rfl
    rw [List.drop_of_length_le (l := s) (i := s.length) (Nat.le_refl _), List.append_nil] at e4
    rw [← e4, List.append_assoc, ← e3, List.append_assoc, ← e2, ← e1]
/-- What was found stands there. -/
theorem quad_got {s : Str} {x y z : Int} {t : Str} {d : Nat} (h : quadZ s = some (x, y, z, t, d)) : ∃ a b c, Got s 0 x a ∧ Got s a y b ∧ Got s b z c ∧ GotT s c t d := by
  unfold quadZ at h
  rcases numR_cases s 0 with ⟨x', a, e1, g1⟩ | e1
  · rw [e1] at h
    simp only [Int.toNat_natCast, Bool.false_eq_true, if_false] at h
    rcases numR_cases s a with ⟨y', b, e2, g2⟩ | e2
    · rw [e2] at h
      simp only [Int.toNat_natCast, Bool.false_eq_true, if_false] at h
      rcases numR_cases s b with ⟨z', c, e3, g3⟩ | e3
      · rw [e3] at h
        simp only [Int.toNat_natCast, Bool.false_eq_true, if_false] at h
        rcases textR_cases s c with ⟨t', d', e4, g4⟩ | e4
        · rw [e4] at h
          simp only [Int.toNat_natCast, Bool.false_eq_true, if_false, Option.some.injEq, Prod.mk.injEq] at h
          obtain ⟨rfl, rfl, rfl, rfl, rfl⟩ := h
          exact ⟨a, b, c, g1, g2, g3, g4⟩
        · rw [e4] at h; simp at h
      · rw [e3] at h; simp at h
    · rw [e2] at h; simp at h
  · rw [e1] at h; simp at h
end Go.Proofs.YtcnkbllbpimaiaaGreatDoorE

namespace Go.Proofs.YtcnkbllbpimaiaaGreatDoorE
open Go
set_option linter.unusedVariables false
/-- A step is right, for so many blocks. -/
def stepB (k t f : Int) (d : Str) (n : Int) : Bool :=
  if k = 1 then decide (0 ≤ t) && decide (t ≤ n - 1) && decide (f = 0) && (d == [])
  else if k = 2 then decide (0 ≤ t) && decide (t ≤ n - 1) && decide (f = 0) && decide ((d.length : Int) = 8)
  else if k = 3 then decide (0 ≤ t) && decide (t ≤ n - 1) && (decide (0 ≤ f) && decide (f ≤ n - 1)) && (d == [])
  else if k = 4 then decide (0 ≤ t) && decide (t ≤ n - 1) && (decide (0 ≤ f) && decide (f ≤ n - 1)) && decide ((d.length : Int) = 8)
  else if k = 5 then decide (t = 0) && (decide (0 ≤ f) && decide (f ≤ 1000000)) && (d == [])
  else false
theorem sStep (k t f : Int) (d : Str) (n : Int) (h1 : 1 ≤ n) (h2 : n ≤ 8) : spec_StepRight (k, (t, (f, d))) n = some (stepB k t f d n) := by
  unfold spec_StepRight spec_l03Is stepB
  simp only [Option.bind_some]
  rw [w64 (n := n - 1) (by omega) (by omega), decide_eq_true h1, decide_eq_true h2]
  simp only [beqd]
  generalize (decide (0 ≤ t) && decide (t ≤ n - 1)) = P
  generalize (decide (0 ≤ f) && decide (f ≤ n - 1)) = Q
  generalize (decide (0 ≤ f) && decide (f ≤ 1000000)) = R
  generalize (d == ([] : Str)) = E
  generalize decide ((d.length : Int) = 8) = Z
  by_cases c1 : k = 1
  · subst c1; cases P <;> by_cases h : f = 0 <;> simp [h]
  by_cases c2 : k = 2
  · subst c2; cases P <;> by_cases h : f = 0 <;> simp [h]
  by_cases c3 : k = 3
  · subst c3; cases P <;> cases Q <;> simp
  by_cases c4 : k = 4
  · subst c4; cases P <;> cases Q <;> simp
  by_cases c5 : k = 5
  · subst c5; cases R <;> by_cases h : t = 0 <;> simp [h]
  simp [c1, c2, c3, c4, c5]
theorem sStepNo (k t f : Int) (d : Str) (n : Int) (h : ¬ (1 ≤ n ∧ n ≤ 8)) : spec_StepRight (k, (t, (f, d))) n = some false := by
  unfold spec_StepRight spec_l03Is
  simp only [Option.bind_some]
  rw [show (decide (1 ≤ n) && decide (n ≤ 8)) = false by rw [Bool.eq_false_iff, Ne, Bool.and_eq_true, decide_eq_true_eq, decide_eq_true_eq]; exact h]
  rfl
theorem iStep (k t f : Int) (d : Str) (n : Int) (h1 : 1 ≤ n) (h2 : n ≤ 8) : impl_isStep (k, (t, (f, d))) n = some (stepB k t f d n) := by
  have hw : IntKind.wrap .i64 (n - 1) = n - 1 := w64 (by omega) (by omega)
  unfold impl_isStep
  simp only [impl_within, impl_isTime, Option.bind_some, hw, impl_isStep.j0, impl_isStep.j1, stepB, beqd]
  generalize (decide (0 ≤ t) && decide (t ≤ n - 1)) = P
  generalize (decide (0 ≤ f) && decide (f ≤ n - 1)) = Q
  generalize (d == ([] : Str)) = E
  by_cases c1 : k = 1
  · subst c1; cases P <;> by_cases h : f = 0 <;> simp [h]
  by_cases c2 : k = 2
  · subst c2; cases P <;> by_cases h : f = 0 <;> simp [h]
  by_cases c3 : k = 3
  · subst c3; cases P <;> cases Q <;> simp
  by_cases c4 : k = 4
  · subst c4; cases P <;> cases Q <;> simp
  by_cases c5 : k = 5
  · subst c5; cases E <;> by_cases h : t = 0 <;> simp [h]
  have hk : (decide (1 ≤ k) && decide (k ≤ 5)) = false := by
    rw [Bool.eq_false_iff, Ne, Bool.and_eq_true, decide_eq_true_eq, decide_eq_true_eq]; omega
  simp [c1, c2, c3, c4, c5, hk]
theorem stepB_data {k t f : Int} {d : Str} {n : Int} (h : stepB k t f d n = true) : d.length ≤ 8 := by
  unfold stepB at h
  have e : (d == ([] : Str)) = true → d.length ≤ 8 := fun q => by
    rw [beq_str] at q
    rw [of_decide_eq_true q]; simp
  have e8 : decide ((d.length : Int) = 8) = true → d.length ≤ 8 := fun q => by
    have := of_decide_eq_true q; omega
  split at h
  · exact e ((Bool.and_eq_true _ _).mp h).2
  split at h
  · exact e8 ((Bool.and_eq_true _ _).mp h).2
  split at h
  · exact e ((Bool.and_eq_true _ _).mp h).2
  split at h
  · exact e8 ((Bool.and_eq_true _ _).mp h).2
  split at h
  · exact e ((Bool.and_eq_true _ _).mp h).2
  · cases h
/-- A step, read from the body of a text. -/
def stepOf (s : Str) : Option (Int × Int × Int × Str) := match quadZ s with
  | some (x, y, z, t, d) => if d = s.length ∧ stepB x y z t 8 = true then some (x, y, z, t) else none
  | none => none
theorem stepOf_right {s : Str} {x y z : Int} {t : Str} (h : stepOf s = some (x, y, z, t)) : stepB x y z t 8 = true := by
  unfold stepOf at h
  split at h
  · split at h
    · rename_i hq
      cases h
      exact hq.2
    · cases h
  · cases h
theorem empty_ne {s : Str} (h : 1 ≤ s.length) : (([] : Str) == s) = false := by
  cases s with
  | nil => exact absurd h (by simp)
  | cons _ _ => rfl
/-! ### heads -/
def headB (x y z : Int) (t : Str) : Bool := (decide (1 ≤ x) && decide (x ≤ 8)) && ((decide (1 ≤ y) && decide (y ≤ 20)) && ((decide (0 ≤ z) && decide (z ≤ 4)) && decide ((t.length : Int) = 32)))
theorem headB_is {x y z : Int} {t : Str} (h : headB x y z t = true) : (1 ≤ x ∧ x ≤ 8) ∧ (1 ≤ y ∧ y ≤ 20) ∧ (0 ≤ z ∧ z ≤ 4) ∧ t.length = 32 := by
  unfold headB at h
  simp only [Bool.and_eq_true, decide_eq_true_eq] at h
  omega
/-- A head, read from the body of a text: the head, or none. -/
def headOf (s : Str) : Option (Int × Int × Int × Str) := match quadZ s with
  | some (x, y, z, t, d) => if d = s.length ∧ headB x y z t = true then some (x, y, z, t) else none
  | none => none
def headR (s : Str) : Int × Int × Int × Str × Int := if (unsealI s).2 = 0 then match headOf (bodyOf s) with
    | some (x, y, z, t) => (x, y, z, t, 0)
    | none => (0, 0, 0, [], 3) else (0, 0, 0, [], (unsealI s).2)
end Go.Proofs.YtcnkbllbpimaiaaGreatDoorE

namespace Go.Proofs.YtcnkbllbpimaiaaGreatDoorE
open Go
set_option linter.unusedVariables false
abbrev StepT := Int × Int × Int × Str
def szF (s : Int) (x : StepT) : Int ⊕ (Int ⊕ Int) := if s < (x.2.2.2.length : Int) then .inr (.inr (-1)) else .inl (s - (x.2.2.2.length : Int))
theorem szRun : ∀ (l : List StepT) (s : Int), 0 ≤ s → (∃ v, runL szF (fun s => .inl s) l s = .inl v ∧ 0 ≤ v ∧ v ≤ s ∧ ∀ x ∈ l, (x.2.2.2.length : Int) ≤ s) ∨ runL szF (fun s => .inl s) l s = .inr (-1)
  | [], s, h => .inl ⟨s, rfl, h, Int.le_refl _, fun x hx => nomatch hx⟩
  | x :: l, s, h => by
    by_cases hx : s < (x.2.2.2.length : Int)
    · exact .inr (runL_inr (by unfold szF; rw [if_pos hx]))
    · rw [runL_inl (by unfold szF; rw [if_neg hx])]
      rcases szRun l (s - (x.2.2.2.length : Int)) (by omega) with ⟨v, h1, h2, h3, h4⟩ | h1
      · refine .inl ⟨v, h1, h2, by omega, fun y hy => ?_⟩
        rcases List.mem_cons.1 hy with rfl | hy
        · omega
        · have := h4 y hy; omega
      · exact .inr h1
theorem eqStep_refl (x : StepT) : laws_eqStep x x = some true := by
  unfold laws_eqStep
  simp only [bne_self_eq_false, beq_self_eq_true, Bool.not_true, cond_false]
abbrev PkgT := Int × Str × List StepT
end Go.Proofs.YtcnkbllbpimaiaaGreatDoorE

namespace Go.Proofs.YtcnkbllbpimaiaaGreatDoorE
open Go
set_option linter.unusedVariables false
/-- A loop that ends at the first place where a test fails. -/
theorem ever_stop {R : Type} (L : Nat → Nat → Nat → Option R) (n : Nat) (p : Nat → Bool) (m : Nat) (r : R) (hm : m ≤ n) (hall : ∀ i, i < m → p i = true) (hs : Ever fun k => ∀ i, i < n → p i = true → ∀ j, L k (j + 1) i = L k j (i + 1))
    (hl : Ever fun k => ∀ j, L k (j + 1) m = some r) : Ever fun k => L k k 0 = some r :=
  ever_loop L m r (hs.mono fun k h i hi => h i (by omega) (hall i hi)) hl
/-- Either all places pass, or there is a first that does not. -/
theorem all_or_first (n : Nat) (p : Nat → Bool) : (∀ i, i < n → p i = true) ∨ ∃ m, m < n ∧ p m = false ∧ ∀ i, i < m → p i = true := by
  induction n with
  | zero => exact .inl fun i hi => absurd hi (Nat.not_lt_zero i)
  | succ n ih =>
    rcases ih with h | ⟨m, h1, h2, h3⟩
    · cases hp : p n with
      | true =>
        refine .inl fun i hi => ?_
        rcases Nat.eq_or_lt_of_le (Nat.le_of_lt_succ hi) with rfl | hi
        · exact hp
        · exact h i hi
      | false => exact .inr ⟨n, Nat.lt_succ_self n, hp, h⟩
    · exact .inr ⟨m, Nat.lt_succ_of_lt h1, h2, h3⟩
theorem all_get {α : Type} {l : List α} {q : α → Bool} : (∀ x ∈ l, q x = true) ↔ ∀ i, (h : i < l.length) → q l[i] = true := by
  constructor
  · exact fun h i hi => h _ (List.getElem_mem hi)
  · intro h x hx
    obtain ⟨i, hi, rfl⟩ := List.getElem_of_mem hx
    exact h i hi
/-- All elements pass, or there is a first that does not. -/
theorem list_first {α : Type} (l : List α) (q : α → Bool) : (l.all q = true) ∨ (l.all q = false ∧ ∃ m, ∃ h : m < l.length, q l[m] = false ∧ ∀ i, (hi : i < m) → q (l[i]'(by omega)) = true) := by
  rcases all_or_first l.length (fun i => match l[i]? with | some x => q x | none => true) with h | ⟨m, h1, h2, h3⟩
  · refine .inl (List.all_eq_true.2 (all_get.2 fun i hi => ?_))
    have := h i hi
    rwa [List.getElem?_eq_getElem hi] at this
  · rw [List.getElem?_eq_getElem h1] at h2
    replace h2 : q l[m] = false := h2
    refine .inr ⟨?_, m, h1, h2, fun i hi => ?_⟩
    · cases ha : l.all q with
      | false => rfl
      | true => rw [List.all_eq_true.1 ha _ (List.getElem_mem h1)] at h2; cases h2
    · have := h3 i hi
      rwa [List.getElem?_eq_getElem (by omega)] at this
/-- A loop that tests all places; where a test fails it leaves with what q says. -/
theorem loop_test {R : Type} (L : Nat → Nat → Option (Unit ⊕ R)) (n : Nat) (p : Nat → Bool) (q : Nat → R) (hs : ∀ i, i < n → p i = true → ∀ j, L (j + 1) i = L j (i + 1)) (hf : ∀ i, i < n → p i = false → ∀ j, L (j + 1) i = some (.inr (q i))) (he : ∀ j, L (j + 1) n = some (.inl ())) :
    ((List.range n).all p = true ∧ ∀ k, n < k → L k 0 = some (.inl ())) ∨ ((List.range n).all p = false ∧ ∃ i, i < n ∧ p i = false ∧ ∀ k, n < k → L k 0 = some (.inr (q i))) := by
  rcases all_or_first n p with h | ⟨m, h1, h2, h3⟩
  · refine .inl ⟨List.all_eq_true.2 fun i hi => h i (List.mem_range.1 hi), loop_at L n _ (fun i hi => hs i hi (h i hi)) he⟩
  · refine .inr ⟨?_, m, h1, h2, fun k hk => loop_at L m _ (fun i hi => hs i (by omega) (h3 i hi)) (hf m h1 h2) k (by omega)⟩
    cases ha : (List.range n).all p with
    | false => rfl
    | true => rw [List.all_eq_true.1 ha m (List.mem_range.2 h1)] at h2; cases h2
end Go.Proofs.YtcnkbllbpimaiaaGreatDoorE

namespace Go.Proofs.YtcnkbllbpimaiaaGreatDoorE
open Go
set_option linter.unusedVariables false
abbrev CmdT := Int × Int × Int × Str × StepT
abbrev DeedT := CmdT × Int × List Int × List Int
/-! ### tests -/
def zeroStep (s : StepT) : Bool := decide (s.1 = 0) && (decide (s.2.1 = 0) && (decide (s.2.2.1 = 0) && (s.2.2.2 == [])))
def cmdB (c : CmdT) : Bool :=
  if c.1 = 1 then (decide (1 ≤ c.2.1) && decide (c.2.1 ≤ 20)) && (decide (0 ≤ c.2.2.1) && decide (c.2.2.1 ≤ 4)) && decide ((c.2.2.2.1.length : Int) = 32) && zeroStep c.2.2.2.2
  else if c.1 = 2 then decide (c.2.1 = 0) && decide (c.2.2.1 = 0) && (c.2.2.2.1 == []) && stepB c.2.2.2.2.1 c.2.2.2.2.2.1 c.2.2.2.2.2.2.1 c.2.2.2.2.2.2.2 8
  else if c.1 = 9 then (decide (1 ≤ c.2.1) && decide (c.2.1 ≤ 24)) && decide (c.2.2.1 = 0) && (c.2.2.2.1 == []) && zeroStep c.2.2.2.2
  else if c.1 = 7 then (decide (0 ≤ c.2.1) && decide (c.2.1 ≤ 1000000)) && decide (c.2.2.1 = 0) && (c.2.2.2.1 == []) && zeroStep c.2.2.2.2
  else (decide (1 ≤ c.1) && decide (c.1 ≤ 11)) && decide (c.2.1 = 0) && decide (c.2.2.1 = 0) && (c.2.2.2.1 == []) && zeroStep c.2.2.2.2
theorem iCmd (c : CmdT) : impl_isCmd c = some (cmdB c) := by
  obtain ⟨o, a, b, t, s⟩ := c
  have hs : impl_isStep s 8 = some (stepB s.1 s.2.1 s.2.2.1 s.2.2.2 8) := iStep s.1 s.2.1 s.2.2.1 s.2.2.2 8 (by decide) (by decide)
  unfold impl_isCmd cmdB zeroStep
  simp only [impl_within, impl_isTime, Option.bind_some, hs, beqd]
  generalize (decide (s.1 = 0) && (decide (s.2.1 = 0) && (decide (s.2.2.1 = 0) && (s.2.2.2 == [])))) = Z
  generalize (t == ([] : Str)) = E
  generalize stepB s.1 s.2.1 s.2.2.1 s.2.2.2 8 = S
  by_cases c1 : o = 1
  · subst c1; simp
  by_cases c2 : o = 2
  · subst c2; simp
  by_cases c9 : o = 9
  · subst c9; simp
  by_cases c7 : o = 7
  · subst c7; simp
  simp [c1, c2, c9, c7]
theorem sCmd (c : CmdT) : spec_CmdRight c = some (cmdB c) := by
  obtain ⟨o, a, b, t, s⟩ := c
  have hs : spec_StepRight s 8 = some (stepB s.1 s.2.1 s.2.2.1 s.2.2.2 8) := sStep s.1 s.2.1 s.2.2.1 s.2.2.2 8 (by decide) (by decide)
  unfold spec_CmdRight cmdB zeroStep
  simp only [spec_l03Is, Option.bind_some, hs, bne, beqd]
  generalize (decide (s.1 = 0) && (decide (s.2.1 = 0) && (decide (s.2.2.1 = 0) && (s.2.2.2 == [])))) = Z
  generalize (t == ([] : Str)) = E
  generalize stepB s.1 s.2.1 s.2.2.1 s.2.2.2 8 = S
  generalize decide ((t.length : Int) = 32) = W
  by_cases c1 : o = 1
  · subst c1
    generalize (decide (1 ≤ a) && decide (a ≤ 20)) = P
    generalize (decide (0 ≤ b) && decide (b ≤ 4)) = Q
    cases P <;> cases Q <;> cases W <;> cases Z <;> simp
  by_cases c2 : o = 2
  · subst c2
    generalize decide (a = 0) = P
    generalize decide (b = 0) = Q
    cases P <;> cases Q <;> cases E <;> cases S <;> simp
  by_cases c9 : o = 9
  · subst c9
    generalize (decide (1 ≤ a) && decide (a ≤ 24)) = P
    generalize decide (b = 0) = Q
    cases P <;> cases Q <;> cases E <;> cases Z <;> simp
  by_cases c7 : o = 7
  · subst c7
    generalize (decide (0 ≤ a) && decide (a ≤ 1000000)) = P
    generalize decide (b = 0) = Q
    cases P <;> cases Q <;> cases E <;> cases Z <;> simp
  simp only [decide_eq_false c1, decide_eq_false c2, decide_eq_false c9, decide_eq_false c7, if_neg c1, if_neg c2, if_neg c9, if_neg c7]
  generalize decide (a = 0) = P
  generalize decide (b = 0) = Q
  generalize (decide (1 ≤ o) && decide (o ≤ 11)) = R
  cases P <;> cases Q <;> cases E <;> cases Z <;> cases R <;> simp
def numsB (l : List Int) (m : Nat) (h : Int) : Bool := decide (l.length ≤ m) && !(l.any fun x => !(decide (0 ≤ x) && decide (x ≤ h)))
theorem sNums (l : List Int) (m : Nat) (h : Int) {k : Nat} (hk : l.length < k) (hm : m ≤ 1000) : spec_l16Nums k l (m : Int) h = some (numsB l m h) := by
  unfold spec_l16Nums numsB
  by_cases c : m < l.length
  · rw [dlt c, decide_eq_false (by omega : ¬ l.length ≤ m)]
    rfl
  · rw [dnlt (by omega), decide_eq_true (by omega : l.length ≤ m)]
    have run := loop_find (fun j i => spec_l16Nums.l0 j l h i) l (fun x => !(decide (0 ≤ x) && decide (x ≤ h))) (.inl ()) (fun _ => .inr false) (fun i hi => by
      refine ⟨fun hp j => ?_, fun hp j => ?_⟩
      · show spec_l16Nums.l0 (j + 1) l h (i : Int) = spec_l16Nums.l0 j l h ((i + 1 : Nat) : Int)
        rw [spec_l16Nums.l0, dlt hi, at_nat hi, wsuc (by omega)]
        simp only [cond_true, Option.bind_some, spec_l03Is]
        rw [hp]
        rfl
      · show spec_l16Nums.l0 (j + 1) l h (i : Int) = some (.inr false)
        rw [spec_l16Nums.l0, dlt hi, at_nat hi]
        simp only [cond_true, Option.bind_some, spec_l03Is]
        rw [hp]
        rfl) (fun j => by
      show spec_l16Nums.l0 (j + 1) l h (l.length : Int) = some (.inl ())
      rw [spec_l16Nums.l0, dnlt (Nat.le_refl _)]
      rfl) hk
    have run : spec_l16Nums.l0 k l h 0 = _ := run
    rw [run, ← firstI_any (n := 0)]
    cases firstI (fun x => !(decide (0 ≤ x) && decide (x ≤ h))) l 0 <;> rfl
theorem iNums1 (l : List Int) {k : Nat} (hk : l.length < k) (hl : l.length ≤ 1000) : slices_ContainsFunc_int64_isDeed_1 k l = some (l.any fun x => !(decide (0 ≤ x) && decide (x ≤ 200))) := by
  unfold slices_ContainsFunc_int64_isDeed_1 slices_IndexFunc_int64_isDeed_1
  have run := loop_find (fun j i => slices_IndexFunc_int64_isDeed_1.l0 j l (l.length : Int) i) l (fun x => !(decide (0 ≤ x) && decide (x ≤ 200))) (.inl ()) (fun i => .inr (i : Int)) (fun i hi => by
    refine ⟨fun hp j => ?_, fun hp j => ?_⟩
    · show slices_IndexFunc_int64_isDeed_1.l0 (j + 1) l (l.length : Int) (i : Int) = slices_IndexFunc_int64_isDeed_1.l0 j l (l.length : Int) ((i + 1 : Nat) : Int)
      rw [slices_IndexFunc_int64_isDeed_1.l0, dlt hi, at_nat hi, wsuc (by omega)]
      simp only [cond_true, Option.bind_some, impl_isDeed_1, impl_within]
      rw [hp]
      rfl
    · show slices_IndexFunc_int64_isDeed_1.l0 (j + 1) l (l.length : Int) (i : Int) = some (.inr (i : Int))
      rw [slices_IndexFunc_int64_isDeed_1.l0, dlt hi, at_nat hi]
      simp only [cond_true, Option.bind_some, impl_isDeed_1, impl_within]
      rw [hp]
      rfl) (fun j => by
    show slices_IndexFunc_int64_isDeed_1.l0 (j + 1) l (l.length : Int) (l.length : Int) = some (.inl ())
    rw [slices_IndexFunc_int64_isDeed_1.l0, dnlt (Nat.le_refl _)]
    rfl) hk
  have run : slices_IndexFunc_int64_isDeed_1.l0 k l (l.length : Int) 0 = _ := run
  rw [run, ← firstI_any (n := 0)]
  cases firstI (fun x => !(decide (0 ≤ x) && decide (x ≤ 200))) l 0 with
  | none => rfl
  | some i =>
    simp only [Option.bind_some]
    rw [decide_eq_true (by omega : (0 : Int) ≤ (i : Int))]
    rfl
theorem iNums2 (l : List Int) {k : Nat} (hk : l.length < k) (hl : l.length ≤ 1000) : slices_ContainsFunc_int64_isDeed_2 k l = some (l.any fun x => !(decide (0 ≤ x) && decide (x ≤ 50))) := by
  unfold slices_ContainsFunc_int64_isDeed_2 slices_IndexFunc_int64_isDeed_2
  have run := loop_find (fun j i => slices_IndexFunc_int64_isDeed_2.l0 j l (l.length : Int) i) l (fun x => !(decide (0 ≤ x) && decide (x ≤ 50))) (.inl ()) (fun i => .inr (i : Int)) (fun i hi => by
    refine ⟨fun hp j => ?_, fun hp j => ?_⟩
    · show slices_IndexFunc_int64_isDeed_2.l0 (j + 1) l (l.length : Int) (i : Int) = slices_IndexFunc_int64_isDeed_2.l0 j l (l.length : Int) ((i + 1 : Nat) : Int)
      rw [slices_IndexFunc_int64_isDeed_2.l0, dlt hi, at_nat hi, wsuc (by omega)]
      simp only [cond_true, Option.bind_some, impl_isDeed_2, impl_within]
      rw [hp]
      rfl
    · show slices_IndexFunc_int64_isDeed_2.l0 (j + 1) l (l.length : Int) (i : Int) = some (.inr (i : Int))
      rw [slices_IndexFunc_int64_isDeed_2.l0, dlt hi, at_nat hi]
      simp only [cond_true, Option.bind_some, impl_isDeed_2, impl_within]
      rw [hp]
      rfl) (fun j => by
    show slices_IndexFunc_int64_isDeed_2.l0 (j + 1) l (l.length : Int) (l.length : Int) = some (.inl ())
    rw [slices_IndexFunc_int64_isDeed_2.l0, dnlt (Nat.le_refl _)]
    rfl) hk
  have run : slices_IndexFunc_int64_isDeed_2.l0 k l (l.length : Int) 0 = _ := run
  rw [run, ← firstI_any (n := 0)]
  cases firstI (fun x => !(decide (0 ≤ x) && decide (x ≤ 50))) l 0 with
  | none => rfl
  | some i =>
    simp only [Option.bind_some]
    rw [decide_eq_true (by omega : (0 : Int) ≤ (i : Int))]
    rfl
def deedB (d : DeedT) : Bool := cmdB d.1 && (decide (-1 ≤ d.2.1) && decide (d.2.1 ≤ 50)) && numsB d.2.2.1 40 200 && numsB d.2.2.2 5 50 && (decide (0 ≤ d.2.1) || (decide (d.2.2.1.length = 0) && decide (d.2.2.2.length = 0)))
theorem sDeed (d : DeedT) {k : Nat} (h1 : d.2.2.1.length < k) (h2 : d.2.2.2.length < k) : spec_DeedRight k d = some (deedB d) := by
  unfold spec_DeedRight deedB
  have e1 : spec_l16Nums k d.2.2.1 40 200 = some (numsB d.2.2.1 40 200) := sNums d.2.2.1 40 200 h1 (by omega)
  have e2 : spec_l16Nums k d.2.2.2 5 50 = some (numsB d.2.2.2 5 50) := sNums d.2.2.2 5 50 h2 (by omega)
  rw [sCmd, e1, e2]
  simp only [Option.bind_some, spec_l03Is, beqd]
  rw [show decide ((d.2.2.1.length : Int) = 0) = decide (d.2.2.1.length = 0) from decide_eq_decide.2 (by omega), show decide ((d.2.2.2.length : Int) = 0) = decide (d.2.2.2.length = 0) from decide_eq_decide.2 (by omega)]
  cases cmdB d.1 <;> cases (decide (-1 ≤ d.2.1) && decide (d.2.1 ≤ 50)) <;> cases numsB d.2.2.1 40 200 <;> cases numsB d.2.2.2 5 50 <;> rfl
theorem iDeed (d : DeedT) {k : Nat} (h1 : d.2.2.1.length < k) (h2 : d.2.2.2.length < k) (hb1 : d.2.2.1.length ≤ 1048576) (hb2 : d.2.2.2.length ≤ 1048576) : impl_isDeed k d = some (deedB d) := by
  unfold impl_isDeed deedB
  rw [iCmd]
  simp only [Option.bind_some, impl_within]
  rw [show IntKind.wrap .i64 ((d.2.2.1.length : Int) + (d.2.2.2.length : Int)) = (d.2.2.1.length : Int) + (d.2.2.2.length : Int) from w64 (by omega) (by omega)]
  cases cmdB d.1 with
  | false => rfl
  | true =>
  simp only [Bool.not_true, cond_false]
  unfold numsB
  cases (decide (-1 ≤ d.2.1) && decide (d.2.1 ≤ 50)) with
  | false => rfl
  | true =>
  by_cases c1 : d.2.2.1.length ≤ 40
  · by_cases c2 : d.2.2.2.length ≤ 5
    · rw [decide_eq_false (by omega : ¬ (40 : Int) < (d.2.2.1.length : Int)), decide_eq_false (by omega : ¬ (5 : Int) < (d.2.2.2.length : Int)), decide_eq_true c1, decide_eq_true c2, iNums1 _ h1 (by omega), iNums2 _ h2 (by omega)]
      simp only [Option.bind_some]
      have e : (decide (0 ≤ d.2.1) || (decide (d.2.2.1.length = 0) && decide (d.2.2.2.length = 0))) = !(decide (d.2.1 < 0) && decide (0 < (d.2.2.1.length : Int) + (d.2.2.2.length : Int))) := by
        rw [Bool.eq_iff_iff]
        simp only [Bool.or_eq_true, Bool.and_eq_true, decide_eq_true_eq, Bool.not_eq_true', Bool.and_eq_false_iff, decide_eq_false_iff_not]
        omega
      rw [e]
      cases (decide (d.2.1 < 0) && decide (0 < (d.2.2.1.length : Int) + (d.2.2.2.length : Int))) <;> cases (d.2.2.1.any fun x => !(decide (0 ≤ x) && decide (x ≤ 200))) <;> cases (d.2.2.2.any fun x => !(decide (0 ≤ x) && decide (x ≤ 50))) <;> rfl
    · rw [decide_eq_true (by omega : (5 : Int) < (d.2.2.2.length : Int)), decide_eq_false c2]
      simp
  · rw [decide_eq_true (by omega : (40 : Int) < (d.2.2.1.length : Int)), decide_eq_false c1]
    simp
/-! ### numbers -/
theorem sDec1 (n : Int) (h0 : 0 ≤ n) (h : n < 9223372036854775808) {k : Nat} (hk : 30 ≤ k) : spec_l01Dec k n = some (decM n) := by
  unfold decM
  obtain ⟨u, rfl⟩ : ∃ u : Nat, n = (u : Int) := ⟨n.toNat, by omega⟩
  rw [Int.toNat_natCast]
  have hu2 : u < 9223372036854775808 := by omega
  unfold spec_l01Dec
  by_cases h0 : u = 0
  · subst h0
    rw [dec_small (by omega : 0 < 10)]
    rfl
  · rw [show ((u : Int) == 0) = false by rw [beqd]; exact decide_eq_false (by omega)]
    simp only [cond_false]
    rw [sDecL 20 u [] k (by omega) hu2 (by simp) (by omega), if_neg h0]
    simp only [Option.bind_some, List.append_nil]
    rw [decide_eq_false (by omega : ¬ ((u : Int) < 0))]
    rfl
theorem decM_ne (n : Int) : decM n ≠ [] := by
  unfold decM
  by_cases h : n.toNat < 10
  · rw [dec_small h]; simp
  · rw [dec_big h]; simp
theorem flatB (B : Nat) : ∀ (l : List Str), (∀ x ∈ l, x.length ≤ B) → l.flatten.length ≤ B * l.length
  | [], _ => Nat.le_refl _
  | x :: l, h => by
    have := h x List.mem_cons_self
    have := flatB B l fun y hy => h y (List.mem_cons_of_mem _ hy)
    rw [List.flatten_cons, List.length_append, List.length_cons, Nat.mul_succ]
    omega
def numsM (l : List Int) : Str := if l = [] then [45] else Lib.join (l.map decM) [44]
theorem join_len (l : List Int) (h : ∀ n ∈ l, n < 9223372036854775808) : (Lib.join (l.map decM) [44]).length ≤ 21 * l.length := by
  cases l with
  | nil => exact Nat.le_refl _
  | cons x r =>
    rw [List.map_cons, Lib.join_cons]
    unfold Lib.joinTail
    have h1 := decM_len (h x List.mem_cons_self)
    have h2 := flatB 21 ((r.map decM).map ([44] ++ ·)) (fun y hy => by
      obtain ⟨z, hz, rfl⟩ := List.mem_map.1 hy
      obtain ⟨n, hn, rfl⟩ := List.mem_map.1 hz
      have := decM_len (h n (List.mem_cons_of_mem _ hn))
      simp
      omega)
    rw [List.length_map, List.length_map] at h2
    rw [List.length_append, List.length_cons]
    refine Nat.le_trans (Nat.add_le_add h1 h2) ?_
    omega
theorem numsM_len (l : List Int) (h : ∀ n ∈ l, n < 9223372036854775808) : (numsM l).length ≤ 21 * l.length + 1 := by
  unfold numsM
  split
  · simp
  · have := join_len l h; omega
theorem iCommas (l : List Int) (h : ∀ n ∈ l, n < 9223372036854775808) (hl : l.length ≤ 1000) {k : Nat} (hk : l.length < k) : impl_commas k l = some (numsM l) := by
  unfold impl_commas numsM
  by_cases c : l = []
  · subst c; rfl
  · have hlen : l.length ≠ 0 := fun e => c (List.eq_nil_of_length_eq_zero e)
    rw [if_neg c, beqd, decide_eq_false (by omega : ¬ (l.length : Int) = 0), make_some (by omega)]
    simp only [cond_false, Option.bind_some]
    have run : impl_commas.l0 k l (l.length : Int) 0 (List.replicate l.length []) = some (l.map decM) := by
      have := loop_at (fun j i => impl_commas.l0 j l (l.length : Int) (i : Int) ((l.take i).map decM ++ List.replicate (l.length - i) [])) l.length (l.map decM) (fun i hi j => by
        show impl_commas.l0 (j + 1) l (l.length : Int) (i : Int) _ = impl_commas.l0 j l (l.length : Int) ((i + 1 : Nat) : Int) _
        have hlen := fill_len (l := l) (f := decM) (z := ([] : Str)) (i := i) (by omega)
        rw [impl_commas.l0, dlt hi, at_nat hi, wsuc (by omega)]
        simp only [cond_true, Option.bind_some]
        rw [iDec _ (h _ (List.getElem_mem hi)), at_nat (by rw [hlen]; exact hi)]
        simp only [Option.bind_some]
        rw [Int.toNat_natCast, fill_set hi]) (fun j => by
        show impl_commas.l0 (j + 1) l (l.length : Int) (l.length : Int) _ = _
        rw [impl_commas.l0, dnlt (Nat.le_refl _), List.take_length, Nat.sub_self]
        simp) k hk
      simpa using this
    rw [run]
    simp only [Option.bind_some]
    unfold strings_Join
    have := join_len l h
    rw [if_pos ⟨by rw [List.length_map]; omega, by omega⟩]
    rfl
theorem sCommas (l : List Int) (h : ∀ n ∈ l, 0 ≤ n ∧ n < 9223372036854775808) (hl : l.length ≤ 1000) {k : Nat} (hk : l.length + 30 < k) : spec_l17Nums k l = some (numsM l) := by
  unfold spec_l17Nums numsM
  cases l with
  | nil =>
    obtain ⟨k, rfl⟩ : ∃ q, k = q + 1 := ⟨k - 1, by omega⟩
    rfl
  | cons x r =>
    have hx := h x List.mem_cons_self
    have key : ∀ (d i : Nat) (acc : Str), i + d = r.length → acc.length + 21 * d ≤ 100000 → ∀ j, d < j → spec_l17Nums.l0 k j (x :: r) acc ((i + 1 : Nat) : Int) = some (acc ++ Lib.joinTail [44] ((r.drop i).map decM)) := by
      intro d
      induction d with
      | zero =>
        intro i acc hi hacc j hj
        obtain ⟨j, rfl⟩ : ∃ q, j = q + 1 := ⟨j - 1, by omega⟩
        obtain rfl : i = r.length := by omega
        rw [spec_l17Nums.l0, dnlt (by simp), List.drop_length]
        simp [Lib.joinTail]
      | succ d ih =>
        intro i acc hi hacc j hj
        obtain ⟨j, rfl⟩ : ∃ q, j = q + 1 := ⟨j - 1, by omega⟩
        have hir : i < r.length := by omega
        have hil : i + 1 < (x :: r).length := by simp; omega
        have hy := h r[i] (List.mem_cons_of_mem _ (List.getElem_mem hir))
        have hd := decM_len hy.2
        rw [Nat.mul_succ] at hacc
        rw [spec_l17Nums.l0, dlt hil, decide_eq_true (by omega : (0 : Int) < ((i + 1 : Nat) : Int)), at_nat hil, wsuc (by simp at hl; omega)]
        simp only [cond_true]
        rw [cat_some (by simp; omega)]
        simp only [Option.bind_some, List.getElem_cons_succ]
        rw [sDec1 _ hy.1 hy.2 (by omega)]
        simp only [Option.bind_some]
        rw [cat_some (by simp; omega)]
        simp only [Option.bind_some]
        rw [ih (i + 1) _ (by omega) (by simp; omega) j (by omega), List.drop_eq_getElem_cons hir]
        simp only [Lib.joinTail, List.map_cons, List.flatten_cons, List.append_assoc]
    have run : spec_l17Nums.l0 k k (x :: r) [] 0 = some (Lib.join ((x :: r).map decM) [44]) := by
      obtain ⟨j, hj⟩ : ∃ q, k = q + 1 := ⟨k - 1, by omega⟩
      have hlen : (x :: r).length = r.length + 1 := rfl
      have := key r.length 0 (decM x) (by omega) (by have := decM_len hx.2; omega) j (by omega)
      rw [List.map_cons, Lib.join_cons]
      rw [List.drop_zero] at this
      rw [← this]
      conv => lhs; rw [show spec_l17Nums.l0 k k (x :: r) [] 0 = spec_l17Nums.l0 k (j + 1) (x :: r) [] ((0 : Nat) : Int) by rw [← hj]; rfl]
      rw [spec_l17Nums.l0, dlt (by simp), decide_eq_false (by omega : ¬ (0 : Int) < ((0 : Nat) : Int)), at_nat (by simp), wsuc (by omega)]
      simp only [cond_true, cond_false, Option.bind_some, List.getElem_cons_zero]
      rw [sDec1 _ hx.1 hx.2 (by omega)]
      simp only [Option.bind_some]
      rw [cat_some (by have := decM_len hx.2; simp; omega)]
      simp only [Option.bind_some, List.nil_append]
    rw [run, if_neg (by simp)]
    simp only [Option.bind_some]
    have hne : (Lib.join ((x :: r).map decM) [44] == []) = false := by
      rw [List.map_cons, Lib.join_cons]
      have := decM_ne x
      cases h : decM x with
      | nil => exact absurd h this
      | cons _ _ => rfl
    rw [hne]
    rfl
end Go.Proofs.YtcnkbllbpimaiaaGreatDoorE

namespace Go.Proofs.YtcnkbllbpimaiaaGreatDoorE
open Go
set_option linter.unusedVariables false
/-! ### letters -/
def letM (t : Str) : Str := match t with
  | [] => []
  | c :: r => if (c :: r).length = 8 ∧ 97 ≤ c.toNat ∧ c.toNat ≤ 122 ∧ (c :: r).count c = 8 then [c] else []
theorem letM_len (t : Str) : (letM t).length ≤ 1 := by
  unfold letM
  split
  · simp
  · split <;> simp
theorem bneF {a b : Int} (h : a = b) : (a != b) = false := by rw [bne, beqd, decide_eq_true h]; rfl
theorem bneT {a b : Int} (h : ¬ a = b) : (a != b) = true := by rw [bne, beqd, decide_eq_false h]; rfl
theorem cons_of {t : Str} (h : t.length = 8) : ∃ c r, t = c :: r := by
  cases t with
  | nil => simp at h
  | cons c r => exact ⟨c, r, rfl⟩
theorem cut01 (c : UInt8) (r : Str) : cut? (c :: r) 0 1 = some [c] := by
  have := cut_ok (l := c :: r) (i := 0) (j := 1) (by omega) (by simp)
  simpa using this
theorem at0 (c : UInt8) (r : Str) : at? (c :: r) 0 = some c := at_nat (l := c :: r) (i := 0) (by simp)
theorem iLetter (t : Str) : impl_letterOf t = some (letM t) := by
  unfold impl_letterOf
  by_cases h8 : t.length = 8
  · obtain ⟨c, r, rfl⟩ := cons_of h8
    have hl : letM (c :: r) = if (c :: r).length = 8 ∧ 97 ≤ c.toNat ∧ c.toNat ≤ 122 ∧ (c :: r).count c = 8 then [c] else [] := rfl
    rw [bneF (by rw [h8]; rfl), at0, cut01, hl]
    simp only [cond_false, Option.bind_some]
    by_cases a1 : (c.toNat : Int) < 97
    · rw [decide_eq_true a1, if_neg (by omega)]; rfl
    · by_cases a2 : (122 : Int) < (c.toNat : Int)
      · rw [decide_eq_false a1, decide_eq_true a2, if_neg (by omega)]; rfl
      · rw [decide_eq_false a1, decide_eq_false a2]
        have hc : strings_Count (c :: r) [c] = some (((c :: r).count c : Nat) : Int) := rfl
        rw [hc]
        simp only [cond_false, Option.bind_some]
        by_cases a3 : (c :: r).count c = 8
        · rw [bneF (by omega), if_pos ⟨h8, by omega, by omega, a3⟩]; rfl
        · rw [bneT (by omega), if_neg (fun h => a3 h.2.2.2)]; rfl
  · rw [bneT (by omega)]
    simp only [cond_true]
    cases t with
    | nil => rfl
    | cons c r =>
      have hl : letM (c :: r) = if (c :: r).length = 8 ∧ 97 ≤ c.toNat ∧ c.toNat ≤ 122 ∧ (c :: r).count c = 8 then [c] else [] := rfl
      rw [hl, if_neg (fun h => h8 h.1)]
def letN (t : Str) : Int := match letM t with
  | [] => 0
  | c :: _ => (c.toNat : Int)
theorem sLetter (t : Str) {k : Nat} (hk : 10 ≤ k) : spec_l17Letter k t = some (letN t) := by
  unfold spec_l17Letter letN
  by_cases h8 : t.length = 8
  · obtain ⟨c, r, rfl⟩ := cons_of h8
    have hl : letM (c :: r) = if (c :: r).length = 8 ∧ 97 ≤ c.toNat ∧ c.toNat ≤ 122 ∧ (c :: r).count c = 8 then [c] else [] := rfl
    have key : ∀ (d i : Nat), i + d = 8 → ∀ j, d < j → spec_l17Letter.l0 j (c :: r) (i : Int) = some (if ((c :: r).drop i).all (fun x => x == c) = true then .inl () else .inr 0) := by
      intro d
      induction d with
      | zero =>
        intro i hi j hj
        obtain ⟨j, rfl⟩ : ∃ q, j = q + 1 := ⟨j - 1, by omega⟩
        obtain rfl : i = 8 := by omega
        rw [spec_l17Letter.l0, List.drop_eq_nil_of_le (by omega)]
        rfl
      | succ d ih =>
        intro i hi j hj
        obtain ⟨j, rfl⟩ : ∃ q, j = q + 1 := ⟨j - 1, by omega⟩
        have hil : i < (c :: r).length := by omega
        rw [spec_l17Letter.l0, decide_eq_true (by omega : (i : Int) < 8), at_nat hil, at0, wsuc (by omega), List.drop_eq_getElem_cons hil, List.all_cons]
        simp only [cond_true, Option.bind_some]
        by_cases e : (c :: r)[i] = c
        · rw [bneF (by rw [e]), show ((c :: r)[i] == c) = true by simpa using e]
          simp only [cond_false, Bool.true_and]
          exact ih (i + 1) (by omega) j (by omega)
        · rw [bneT (fun q => e (UInt8.toNat_inj.1 (by omega))), show ((c :: r)[i] == c) = false by simpa using e]
          rfl
    have run := key 7 1 (by omega) k (by omega)
    rw [bneF (by rw [h8]; rfl), at0, hl]
    simp only [cond_false, Option.bind_some]
    by_cases a1 : (c.toNat : Int) < 97
    · rw [decide_eq_true a1, if_neg (by omega)]; rfl
    · by_cases a2 : (122 : Int) < (c.toNat : Int)
      · rw [decide_eq_false a1, decide_eq_true a2, if_neg (by omega)]; rfl
      · rw [decide_eq_false a1, decide_eq_false a2]
        simp only [cond_false]
        have run : spec_l17Letter.l0 k (c :: r) 1 = _ := run
        rw [run]
        have hiff : (((c :: r).drop 1).all (fun x => x == c) = true) ↔ (c :: r).count c = 8 := by
          rw [← h8, List.count_eq_length, List.all_eq_true]
          constructor
          · intro h b hb
            rcases List.mem_cons.1 hb with rfl | hb
            · rfl
            · exact (by simpa using h b hb : b = c).symm
          · intro h x hx
            have := h x (List.mem_cons_of_mem _ hx)
            simp [this]
        by_cases a3 : (c :: r).count c = 8
        · rw [if_pos (hiff.2 a3), if_pos ⟨h8, by omega, by omega, a3⟩]; rfl
        · rw [if_neg (fun h => a3 (hiff.1 h)), if_neg (fun h => a3 h.2.2.2)]; rfl
  · rw [bneT (by omega)]
    simp only [cond_true]
    cases t with
    | nil => rfl
    | cons c r =>
      have hl : letM (c :: r) = if (c :: r).length = 8 ∧ 97 ≤ c.toNat ∧ c.toNat ≤ 122 ∧ (c :: r).count c = 8 then [c] else [] := rfl
      rw [hl, if_neg (fun h => h8 h.1)]
theorem letM_some {t : Str} (h : letM t ≠ []) : cut? t 0 1 = some (letM t) ∧ ¬ letN t = 0 := by
  cases t with
  | nil => exact absurd rfl h
  | cons c r =>
    have hl : letM (c :: r) = if (c :: r).length = 8 ∧ 97 ≤ c.toNat ∧ c.toNat ≤ 122 ∧ (c :: r).count c = 8 then [c] else [] := rfl
    unfold letN
    rw [hl] at h ⊢
    by_cases q : (c :: r).length = 8 ∧ 97 ≤ c.toNat ∧ c.toNat ≤ 122 ∧ (c :: r).count c = 8
    · rw [if_pos q]
      exact ⟨cut01 c r, by show ¬ (c.toNat : Int) = 0; omega⟩
    · rw [if_neg q] at h
      exact absurd rfl h
theorem letM_none {t : Str} (h : letM t = []) : letN t = 0 := by
  unfold letN
  rw [h]
/-! ### words -/
theorem at_getD {l : List Str} {i : Int} (h0 : 0 ≤ i) (h1 : i < (l.length : Int)) : at? l i = some (l.getD i.toNat []) := by
  obtain ⟨n, rfl⟩ : ∃ n : Nat, i = (n : Int) := ⟨i.toNat, by omega⟩
  rw [at_nat (by omega), Int.toNat_natCast, List.getD_eq_getElem?_getD, List.getElem?_eq_getElem (by omega)]
  rfl
theorem getD_len (l : List Str) (h : ∀ x ∈ l, x.length ≤ 6) (n : Nat) : (l.getD n []).length ≤ 6 := by
  rw [List.getD_eq_getElem?_getD]
  cases e : l[n]? with
  | none => simp
  | some x => exact h x (List.mem_of_getElem? e)
def word0 (o : Int) : Str := tab1.getD o.toNat []
def word1 (o : Int) : Str := tab0.getD o.toNat []
theorem word0_len (o : Int) : (word0 o).length ≤ 6 := getD_len tab1 (by decide) _
theorem word1_len (o : Int) : (word1 o).length ≤ 6 := getD_len tab0 (by decide) _
theorem at_word0 {o : Int} (h0 : 0 ≤ o) (h1 : o ≤ 11) : at? tab1 o = some (word0 o) := at_getD h0 (by have : tab1.length = 12 := rfl; omega)
theorem at_word1 {o : Int} (h0 : 0 ≤ o) (h1 : o ≤ 5) : at? tab0 o = some (word1 o) := at_getD h0 (by have : tab0.length = 6 := rfl; omega)
theorem sWords1 {a b : Int} (ha : a = 2) (h0 : 0 ≤ b) (h1 : b ≤ 5) : spec_l17Words a b = some (word1 b) := by
  have e := at_word1 h0 h1
  unfold tab0 at e
  unfold spec_l17Words
  rw [beqd, decide_eq_true ha]
  simp only [cond_true]
  rw [e]
  rfl
theorem sWords0 {a b : Int} (ha : ¬ a = 2) (h0 : 0 ≤ a) (h1 : a ≤ 11) : spec_l17Words a b = some (word0 a) := by
  have e := at_word0 h0 h1
  unfold tab1 at e
  unfold spec_l17Words
  rw [beqd, decide_eq_false ha]
  simp only [cond_false]
  rw [e]
  rfl
/-! ### steps -/
structure StepFit (s : StepT) : Prop where
  k0 : 1 ≤ s.1
  k1 : s.1 ≤ 5
  a0 : 0 ≤ s.2.1
  a1 : s.2.1 ≤ 1000000
  b0 : 0 ≤ s.2.2.1
  b1 : s.2.2.1 ≤ 1000000
  t : if s.1 = 2 ∨ s.1 = 4 then s.2.2.2.length = 8 else s.2.2.2 = []
theorem stepFit {s : StepT} (h : stepB s.1 s.2.1 s.2.2.1 s.2.2.2 8 = true) : StepFit s := by
  obtain ⟨k, a, b, t⟩ := s
  unfold stepB at h
  dsimp only at h
  split at h
  · rename_i q
    subst q
    simp only [Bool.and_eq_true, decide_eq_true_eq, beq_iff_eq] at h
    exact ⟨by dsimp only; decide, by dsimp only; decide, by show 0 ≤ a; omega, by show a ≤ _; omega, by show 0 ≤ b; omega, by show b ≤ _; omega, by rw [if_neg (by dsimp only; decide)]; exact h.2⟩
  split at h
  · rename_i q
    subst q
    simp only [Bool.and_eq_true, decide_eq_true_eq] at h
    exact ⟨by dsimp only; decide, by dsimp only; decide, by show 0 ≤ a; omega, by show a ≤ _; omega, by show 0 ≤ b; omega, by show b ≤ _; omega, by rw [if_pos (by dsimp only; decide)]; show t.length = 8; omega⟩
  split at h
  · rename_i q
    subst q
    simp only [Bool.and_eq_true, decide_eq_true_eq, beq_iff_eq] at h
    exact ⟨by dsimp only; decide, by dsimp only; decide, by show 0 ≤ a; omega, by show a ≤ _; omega, by show 0 ≤ b; omega, by show b ≤ _; omega, by rw [if_neg (by dsimp only; decide)]; exact h.2⟩
  split at h
  · rename_i q
    subst q
    simp only [Bool.and_eq_true, decide_eq_true_eq] at h
    exact ⟨by dsimp only; decide, by dsimp only; decide, by show 0 ≤ a; omega, by show a ≤ _; omega, by show 0 ≤ b; omega, by show b ≤ _; omega, by rw [if_pos (by dsimp only; decide)]; show t.length = 8; omega⟩
  split at h
  · rename_i q
    subst q
    simp only [Bool.and_eq_true, decide_eq_true_eq, beq_iff_eq] at h
    exact ⟨by dsimp only; decide, by dsimp only; decide, by show 0 ≤ a; omega, by show a ≤ _; omega, by show 0 ≤ b; omega, by show b ≤ _; omega, by rw [if_neg (by dsimp only; decide)]; exact h.2⟩
  · cases h
def stepW1 (s : StepT) : Str := if s.1 = 5 then word1 s.1 else word1 s.1 ++ ([32] ++ decM s.2.1)
def stepW (s : StepT) : Str := if 3 ≤ s.1 then stepW1 s ++ ([32] ++ decM s.2.2.1) else stepW1 s
def stepM (s : StepT) : Str := if s.1 = 2 ∨ s.1 = 4 then (if letM s.2.2.2 = [] then [] else stepW s ++ ([32] ++ letM s.2.2.2)) else stepW s
theorem stepW1_len {s : StepT} (h : StepFit s) : (stepW1 s).length ≤ 27 := by
  have h1 := word1_len s.1
  have h2 := decM_len (n := s.2.1) (by have := h.a1; omega)
  unfold stepW1
  split
  · omega
  · simp; omega
theorem stepW_len {s : StepT} (h : StepFit s) : (stepW s).length ≤ 48 := by
  have h1 := stepW1_len h
  have h2 := decM_len (n := s.2.2.1) (by have := h.b1; omega)
  unfold stepW
  split
  · simp; omega
  · omega
theorem stepM_len {s : StepT} (h : StepFit s) : (stepM s).length ≤ 50 := by
  have h1 := stepW_len h
  have h2 := letM_len s.2.2.2
  unfold stepM
  split
  · split
    · simp
    · simp; omega
  · omega
theorem iStepText {s : StepT} (h : StepFit s) : impl_stepText s = some (stepM s) := by
  have h1 := word1_len s.1
  have hd1 := decM_len (n := s.2.1) (by have := h.a1; omega)
  have hd2 := decM_len (n := s.2.2.1) (by have := h.b1; omega)
  have hw1 := stepW1_len h
  have hw := stepW_len h
  have hk0 := h.k0
  have hk1 := h.k1
  have e0 : impl_stepText.j0 (word1 s.1) s.1 s.2.1 s.2.2.1 s.2.2.2 = some (stepW1 s, s.1, s.2.1, s.2.2.1, s.2.2.2) := by
    unfold impl_stepText.j0 stepW1
    by_cases q : s.1 = 5
    · rw [bneF q, if_pos q]; rfl
    · rw [bneT q, if_neg q, iDec _ (by have := h.a1; omega)]
      simp only [cond_true, Option.bind_some]
      rw [cat_some (by simp; omega)]
      simp only [Option.bind_some]
      rw [cat_some (by simp; omega)]
      rfl
  have e1 : impl_stepText.j1 (stepW1 s) s.1 s.2.1 s.2.2.1 s.2.2.2 = some (stepW s, s.1, s.2.1, s.2.2.1, s.2.2.2) := by
    unfold impl_stepText.j1 stepW
    simp only [beqd]
    have hq : ((decide (s.1 = 3) || decide (s.1 = 4)) || decide (s.1 = 5)) = decide (3 ≤ s.1) := by
      rw [Bool.eq_iff_iff]
      simp only [Bool.or_eq_true, decide_eq_true_eq]
      omega
    rw [hq]
    by_cases q : 3 ≤ s.1
    · rw [decide_eq_true q, if_pos q, iDec _ (by have := h.b1; omega)]
      simp only [cond_true, Option.bind_some]
      rw [cat_some (by simp; omega)]
      simp only [Option.bind_some]
      rw [cat_some (by simp; omega)]
      rfl
    · rw [decide_eq_false q, if_neg q]; rfl
  unfold impl_stepText stepM
  rw [at_word1 (by omega) (by omega)]
  simp only [Option.bind_some]
  rw [e0]
  simp only [Option.bind_some]
  rw [e1]
  simp only [Option.bind_some]
  have ht := h.t
  have hll := letM_len s.2.2.2
  by_cases q : s.1 = 2 ∨ s.1 = 4
  · rw [if_pos q] at ht ⊢
    have hne : (s.2.2.2 == []) = false := by
      cases e : s.2.2.2 with
      | nil => rw [e] at ht; cases ht
      | cons _ _ => rfl
    rw [hne, iLetter]
    simp only [Bool.not_false, cond_true, Option.bind_some]
    by_cases e : letM s.2.2.2 = []
    · rw [e]; rfl
    · rw [if_neg e, show (letM s.2.2.2 == []) = false by simpa using e]
      simp only [cond_false]
      rw [cat_some (by simp; omega)]
      simp only [Option.bind_some]
      rw [cat_some (by simp; omega)]
      rfl
  · rw [if_neg q] at ht ⊢
    rw [ht]
    rfl
/-! ### commands -/
def cmdM (c : CmdT) : Str :=
  if c.1 = 2 then stepM c.2.2.2.2
  else if c.1 = 1 then [98, 101, 103, 105, 110, 32] ++ (decM c.2.1 ++ ([32] ++ (decM c.2.2.1 ++ ([32] ++ hexM c.2.2.2.1))))
  else if c.1 = 7 ∨ c.1 = 9 then word0 c.1 ++ ([32] ++ decM c.2.1)
  else word0 c.1
structure CmdFit (c : CmdT) : Prop where
  o0 : 1 ≤ c.1
  o1 : c.1 ≤ 11
  a0 : 0 ≤ c.2.1
  a1 : c.2.1 ≤ 1000000
  b0 : 0 ≤ c.2.2.1
  b1 : c.2.2.1 ≤ 4
  t : c.2.2.2.1.length ≤ 32
  s : c.1 = 2 → StepFit c.2.2.2.2
theorem cmdFit {c : CmdT} (h : cmdB c = true) : CmdFit c := by
  obtain ⟨o, a, b, t, s⟩ := c
  unfold cmdB at h
  dsimp only at h
  have ht : t = [] → t.length ≤ 32 := fun e => by rw [e]; simp
  split at h
  · rename_i q
    subst q
    simp only [Bool.and_eq_true, decide_eq_true_eq] at h
    exact ⟨by dsimp only; decide, by dsimp only; decide, by show 0 ≤ a; omega, by show a ≤ _; omega, by show 0 ≤ b; omega, by show b ≤ _; omega, by show t.length ≤ 32; omega, fun e => absurd e (by dsimp only; decide)⟩
  split at h
  · rename_i q
    subst q
    simp only [Bool.and_eq_true, decide_eq_true_eq, beq_iff_eq] at h
    exact ⟨by dsimp only; decide, by dsimp only; decide, by show 0 ≤ a; omega, by show a ≤ _; omega, by show 0 ≤ b; omega, by show b ≤ _; omega, ht h.1.2, fun _ => stepFit h.2⟩
  split at h
  · rename_i q
    subst q
    simp only [Bool.and_eq_true, decide_eq_true_eq, beq_iff_eq] at h
    exact ⟨by dsimp only; decide, by dsimp only; decide, by show 0 ≤ a; omega, by show a ≤ _; omega, by show 0 ≤ b; omega, by show b ≤ _; omega, ht h.1.2, fun e => absurd e (by dsimp only; decide)⟩
  split at h
  · rename_i q
    subst q
    simp only [Bool.and_eq_true, decide_eq_true_eq, beq_iff_eq] at h
    exact ⟨by dsimp only; decide, by dsimp only; decide, by show 0 ≤ a; omega, by show a ≤ _; omega, by show 0 ≤ b; omega, by show b ≤ _; omega, ht h.1.2, fun e => absurd e (by dsimp only; decide)⟩
  · rename_i q2 _ _
    simp only [Bool.and_eq_true, decide_eq_true_eq, beq_iff_eq] at h
    exact ⟨by show 1 ≤ o; omega, by show o ≤ _; omega, by show 0 ≤ a; omega, by show a ≤ _; omega, by show 0 ≤ b; omega, by show b ≤ _; omega, ht h.1.2, fun e => absurd e q2⟩
theorem cmdM_len {c : CmdT} (h : CmdFit c) : (cmdM c).length ≤ 200 := by
  have h0 := word0_len c.1
  have h1 := decM_len (n := c.2.1) (by have := h.a1; omega)
  have h2 := decM_len (n := c.2.2.1) (by have := h.b1; omega)
  have h3 := hexM_len c.2.2.2.1
  have h4 := h.t
  unfold cmdM
  split
  · rename_i q
    have := stepM_len (h.s q)
    omega
  split
  · simp; omega
  split
  · simp; omega
  · omega
theorem iCmdText {c : CmdT} (h : CmdFit c) {k : Nat} (hk : 100 ≤ k) : impl_cmdText k c = some (cmdM c) := by
  have h0 := word0_len c.1
  have h1 := decM_len (n := c.2.1) (by have := h.a1; omega)
  have h2 := decM_len (n := c.2.2.1) (by have := h.b1; omega)
  have h3 := hexM_len c.2.2.2.1
  have h4 := h.t
  have o0 := h.o0
  have o1 := h.o1
  unfold impl_cmdText cmdM
  simp only [beqd]
  by_cases c2 : c.1 = 2
  · rw [decide_eq_true c2, if_pos c2, iStepText (h.s c2)]
    rfl
  rw [decide_eq_false c2, if_neg c2]
  simp only [cond_false]
  have d1 := iDec c.2.1 (by have := h.a1; omega)
  by_cases c1 : c.1 = 1
  · rw [decide_eq_true c1, if_pos c1, d1, iDec c.2.2.1 (by have := h.b1; omega), iHex c.2.2.2.1 (by omega) k (by omega)]
    simp only [cond_true, Option.bind_some]
    rw [cat_some (by simp; omega)]
    simp only [Option.bind_some]
    rw [cat_some (by simp; omega)]
    simp only [Option.bind_some]
    rw [cat_some (by simp; omega)]
    simp only [Option.bind_some]
    rw [cat_some (by simp; omega)]
    simp only [Option.bind_some]
    rw [cat_some (by simp; omega)]
    simp only [Option.bind_some, List.append_assoc]
  rw [decide_eq_false c1, if_neg c1, at_word0 (by omega) o1]
  simp only [cond_false, Option.bind_some]
  by_cases c7 : c.1 = 7
  · rw [decide_eq_true c7, if_pos (.inl c7), d1, cat_some (by simp; omega)]
    simp only [cond_true, Option.bind_some]
    rw [cat_some (by simp; omega)]
    simp only [Option.bind_some, List.append_assoc]
  rw [decide_eq_false c7]
  simp only [cond_false]
  by_cases c9 : c.1 = 9
  · rw [decide_eq_true c9, if_pos (.inr c9), d1, cat_some (by simp; omega)]
    simp only [cond_true, Option.bind_some]
    rw [cat_some (by simp; omega)]
    simp only [Option.bind_some, List.append_assoc]
  rw [decide_eq_false c9, if_neg (fun q => q.elim c7 c9)]
  rfl
theorem sCmdText {c : CmdT} (h : CmdFit c) {k : Nat} (hk : 100 ≤ k) : spec_l17Cmd k c = some (cmdM c) := by
  have h0 := word0_len c.1
  have h1 := decM_len (n := c.2.1) (by have := h.a1; omega)
  have h2 := decM_len (n := c.2.2.1) (by have := h.b1; omega)
  have h3 := hexM_len c.2.2.2.1
  have h4 := h.t
  have o0 := h.o0
  have o1 := h.o1
  have d1 : spec_l01Dec k c.2.1 = some (decM c.2.1) := sDec1 _ h.a0 (by have := h.a1; omega) (by omega)
  have d2 : spec_l01Dec k c.2.2.1 = some (decM c.2.2.1) := sDec1 _ h.b0 (by have := h.b1; omega) (by omega)
  unfold spec_l17Cmd cmdM spec_l17Cmd.j0
  simp only [beqd]
  by_cases c2 : c.1 = 2
  · have hs := h.s c2
    generalize hsg : c.2.2.2.2 = s at hs ⊢
    have w0 := word1_len s.1
    have s1 := decM_len (n := s.2.1) (by have := hs.a1; omega)
    have s2 := decM_len (n := s.2.2.1) (by have := hs.b1; omega)
    have hw1 := stepW1_len hs
    have hw := stepW_len hs
    have hk0 := hs.k0
    have hk1 := hs.k1
    have e1 : spec_l17Cmd.j1 k (word1 s.1) s.1 s.2.1 s.2.2.1 s.2.2.2 = some (stepW1 s, s.1, s.2.1, s.2.2.1, s.2.2.2) := by
      unfold spec_l17Cmd.j1 stepW1
      by_cases q : s.1 = 5
      · rw [bneF q, if_pos q]; rfl
      · rw [bneT q, if_neg q, sDec1 _ hs.a0 (by have := hs.a1; omega) (by omega), cat_some (by simp; omega)]
        simp only [cond_true, Option.bind_some]
        rw [cat_some (by simp; omega)]
        simp only [Option.bind_some, List.append_assoc]
    have e2 : spec_l17Cmd.j2 k (stepW1 s) s.1 s.2.1 s.2.2.1 s.2.2.2 = some (stepW s, s.1, s.2.1, s.2.2.1, s.2.2.2) := by
      unfold spec_l17Cmd.j2 stepW
      by_cases q : 3 ≤ s.1
      · rw [decide_eq_true q, if_pos q, sDec1 _ hs.b0 (by have := hs.b1; omega) (by omega), cat_some (by simp; omega)]
        simp only [cond_true, Option.bind_some]
        rw [cat_some (by simp; omega)]
        simp only [Option.bind_some, List.append_assoc]
      · rw [decide_eq_false q, if_neg q]; rfl
    rw [if_pos c2, sWords1 c2 (by omega) hk1]
    simp only [Option.bind_some]
    rw [decide_eq_false (by omega : ¬ c.1 = 1), decide_eq_false (by omega : ¬ c.1 = 7), decide_eq_false (by omega : ¬ c.1 = 9), decide_eq_true c2]
    simp only [cond_false, cond_true, Option.bind_some]
    rw [e1]
    simp only [Option.bind_some]
    rw [e2]
    simp only [Option.bind_some]
    have hll := letM_len s.2.2.2
    unfold stepM
    by_cases q : s.1 = 2 ∨ s.1 = 4
    · rw [if_pos q, show (decide (s.1 = 2) || decide (s.1 = 4)) = true by simpa using q, sLetter _ (by omega)]
      simp only [cond_true, Option.bind_some]
      by_cases e : letM s.2.2.2 = []
      · rw [if_pos e, letM_none e]; rfl
      · obtain ⟨q1, q2⟩ := letM_some e
        rw [if_neg e, decide_eq_false q2, q1, cat_some (by simp; omega)]
        simp only [cond_false, Option.bind_some]
        rw [cat_some (by simp; omega)]
        simp only [Option.bind_some, List.append_assoc]
    · rw [if_neg q, show (decide (s.1 = 2) || decide (s.1 = 4)) = false by simpa using q]
      rfl
  rw [if_neg c2, sWords0 c2 (by omega) o1]
  simp only [Option.bind_some]
  by_cases c1 : c.1 = 1
  · have hb : word0 c.1 = [98, 101, 103, 105, 110] := by rw [c1]; rfl
    rw [decide_eq_true c1, if_pos c1, d1, d2, sHex c.2.2.2.1 (by omega) k (by omega), hb]
    simp only [cond_true, Option.bind_some]
    rw [cat_some (by simp)]
    simp only [Option.bind_some]
    rw [cat_some (by simp; omega)]
    simp only [Option.bind_some]
    rw [cat_some (by simp; omega)]
    simp only [Option.bind_some]
    rw [cat_some (by simp; omega)]
    simp only [Option.bind_some]
    rw [cat_some (by simp; omega)]
    simp only [Option.bind_some]
    rw [cat_some (by simp; omega)]
    simp only [Option.bind_some, List.append_assoc]
    rfl
  rw [decide_eq_false c1, if_neg c1]
  simp only [cond_false]
  by_cases c7 : c.1 = 7
  · rw [decide_eq_true c7, if_pos (.inl c7), d1]
    simp only [cond_true, Option.bind_some]
    rw [cat_some (by simp; omega)]
    simp only [Option.bind_some]
    rw [cat_some (by simp; omega)]
    simp only [Option.bind_some, List.append_assoc]
  rw [decide_eq_false c7]
  simp only [cond_false]
  by_cases c9 : c.1 = 9
  · rw [decide_eq_true c9, if_pos (.inr c9), d1]
    simp only [cond_true, Option.bind_some]
    rw [cat_some (by simp; omega)]
    simp only [Option.bind_some]
    rw [cat_some (by simp; omega)]
    simp only [Option.bind_some, List.append_assoc]
  rw [decide_eq_false c9, if_neg (fun q => q.elim c7 c9), decide_eq_false c2]
  rfl
/-! ### deeds -/
def deedM (d : DeedT) : Str := if deedB d = true then (if cmdM d.1 = [] ∨ d.2.1 < 0 then cmdM d.1 else [99, 117, 116, 32] ++ (decM d.2.1 ++ ([32] ++ (numsM d.2.2.1 ++ ([32] ++ (numsM d.2.2.2 ++ ([32] ++ cmdM d.1))))))) else []
theorem numsFit {l : List Int} {m : Nat} {h : Int} (q : numsB l m h = true) (hh : h ≤ 200) : l.length ≤ m ∧ ∀ n ∈ l, 0 ≤ n ∧ n < 9223372036854775808 := by
  unfold numsB at q
  rw [Bool.and_eq_true, decide_eq_true_eq, Bool.not_eq_true', List.any_eq_false] at q
  refine ⟨q.1, fun n hn => ?_⟩
  have := q.2 n hn
  simp only [Bool.not_eq_true', Bool.and_eq_false_iff, decide_eq_false_iff_not] at this
  omega
theorem iDeedB {d : DeedT} (hb : deedB d = true) {k : Nat} (hk : 2000000 ≤ k) : impl_deedText k d = some (deedM d) := by
  unfold deedM
  rw [if_pos hb]
  unfold deedB at hb
  simp only [Bool.and_eq_true, decide_eq_true_eq] at hb
  obtain ⟨⟨⟨⟨hc, hr1, hr2⟩, hn1⟩, hn2⟩, _⟩ := hb
  have hf := cmdFit hc
  obtain ⟨l1, m1⟩ := numsFit hn1 (by omega)
  obtain ⟨l2, m2⟩ := numsFit hn2 (by omega)
  have q1 := numsM_len d.2.2.1 fun n hn => (m1 n hn).2
  have q2 := numsM_len d.2.2.2 fun n hn => (m2 n hn).2
  have q3 := cmdM_len hf
  have q4 := decM_len (n := d.2.1) (by omega)
  unfold impl_deedText
  rw [iCmdText hf (by omega)]
  simp only [Option.bind_some]
  by_cases e : cmdM d.1 = []
  · rw [if_pos (.inl e), e]
    rfl
  by_cases z : d.2.1 < 0
  · rw [if_pos (.inr z), show (cmdM d.1 == []) = false by simpa using e, decide_eq_false (by omega : ¬ 0 ≤ d.2.1)]
    rfl
  rw [if_neg (fun q => q.elim e z), show (cmdM d.1 == []) = false by simpa using e, decide_eq_true (by omega : 0 ≤ d.2.1), iDec _ (by omega), iCommas _ (fun n hn => (m1 n hn).2) (by omega) (by omega), iCommas _ (fun n hn => (m2 n hn).2) (by omega) (by omega)]
  simp only [Bool.not_false, Bool.true_and, Bool.false_or, cond_true, cond_false, Option.bind_some]
  rw [cat_some (by simp; omega)]
  simp only [Option.bind_some]
  rw [cat_some (by simp; omega)]
  simp only [Option.bind_some]
  rw [cat_some (by simp; omega)]
  simp only [Option.bind_some]
  rw [cat_some (by simp; omega)]
  simp only [Option.bind_some]
  rw [cat_some (by simp; omega)]
  simp only [Option.bind_some]
  rw [cat_some (by simp; omega)]
  simp only [Option.bind_some]
  rw [cat_some (by simp; omega)]
  simp only [Option.bind_some, List.append_assoc]
theorem sDeedText (d : DeedT) (h1 : d.2.2.1.length ≤ 1048576) (h2 : d.2.2.2.length ≤ 1048576) {k : Nat} (hk : 2000000 ≤ k) : spec_DeedText k d = some (deedM d) := by
  unfold spec_DeedText deedM
  rw [sDeed d (by omega) (by omega)]
  simp only [Option.bind_some]
  cases hb : deedB d with
  | false => rfl
  | true =>
  rw [if_pos rfl]
  simp only [Bool.not_true, cond_false]
  unfold deedB at hb
  simp only [Bool.and_eq_true, decide_eq_true_eq] at hb
  obtain ⟨⟨⟨⟨hc, hr1, hr2⟩, hn1⟩, hn2⟩, _⟩ := hb
  have hf := cmdFit hc
  obtain ⟨l1, m1⟩ := numsFit hn1 (by omega)
  obtain ⟨l2, m2⟩ := numsFit hn2 (by omega)
  have q1 := numsM_len d.2.2.1 fun n hn => (m1 n hn).2
  have q2 := numsM_len d.2.2.2 fun n hn => (m2 n hn).2
  have q3 := cmdM_len hf
  have q4 := decM_len (n := d.2.1) (by omega)
  rw [sCmdText hf (by omega)]
  simp only [Option.bind_some]
  by_cases e : cmdM d.1 = []
  · rw [if_pos (.inl e), e]
    rfl
  by_cases z : d.2.1 < 0
  · rw [if_pos (.inr z), show (cmdM d.1 == []) = false by simpa using e, decide_eq_true z]
    rfl
  rw [if_neg (fun q => q.elim e z), show (cmdM d.1 == []) = false by simpa using e, decide_eq_false z, sDec1 _ (by omega) (by omega) (by omega), sCommas _ m1 (by omega) (by omega), sCommas _ m2 (by omega) (by omega)]
  simp only [Bool.not_false, Bool.true_and, Bool.false_or, cond_true, cond_false, Option.bind_some]
  rw [cat_some (by simp; omega)]
  simp only [Option.bind_some]
  rw [cat_some (by simp; omega)]
  simp only [Option.bind_some]
  rw [cat_some (by simp; omega)]
  simp only [Option.bind_some]
  rw [cat_some (by simp; omega)]
  simp only [Option.bind_some]
  rw [cat_some (by simp; omega)]
  simp only [Option.bind_some]
  rw [cat_some (by simp; omega)]
  simp only [Option.bind_some]
  rw [cat_some (by simp; omega)]
  simp only [Option.bind_some, List.append_assoc]
end Go.Proofs.YtcnkbllbpimaiaaGreatDoorE

section
namespace Go.Proofs.YtcnkbllbpimaiaaGreatDoorE
open Go
set_option linter.unusedVariables false
def splitM (c : UInt8) : Str → List Str
  | [] => [[]]
  | x :: s => if x = c then [] :: splitM c s else match splitM c s with
    | [] => [[x]]
    | w :: ws => (x :: w) :: ws
theorem splitM_ne (c : UInt8) : ∀ s : Str, splitM c s ≠ []
  | [] => by simp [splitM]
  | x :: s => by
    unfold splitM
    split
    · simp
    · split <;> simp
theorem splitM_cons {c x : UInt8} (h : x ≠ c) (s : Str) : ∃ w ws, splitM c s = w :: ws ∧ splitM c (x :: s) = (x :: w) :: ws := by
  cases e : splitM c s with
  | nil => exact absurd e (splitM_ne c s)
  | cons w ws => exact ⟨w, ws, rfl, by rw [splitM, if_neg h, e]⟩
theorem splitM_app {c : UInt8} : ∀ {w : Str} (s : Str), c ∉ w → splitM c (w ++ c :: s) = w :: splitM c s
  | [], s, _ => by rw [List.nil_append, splitM, if_pos rfl]
  | x :: w, s, h => by
    have hx : x ≠ c := fun e => h (e ▸ List.mem_cons_self)
    have hw : c ∉ w := fun e => h (List.mem_cons_of_mem _ e)
    rw [List.cons_append, splitM, if_neg hx, splitM_app s hw]
theorem splitM_free {c : UInt8} : ∀ {w : Str}, c ∉ w → splitM c w = [w]
  | [], _ => rfl
  | x :: w, h => by
    have hx : x ≠ c := fun e => h (e ▸ List.mem_cons_self)
    have hw : c ∉ w := fun e => h (List.mem_cons_of_mem _ e)
    rw [splitM, if_neg hx, splitM_free hw]
theorem splitM_len (c : UInt8) : ∀ s : Str, (splitM c s).length ≤ s.length + 1
  | [] => Nat.le_refl _
  | x :: s => by
    have := splitM_len c s
    by_cases h : x = c
    · rw [splitM, if_pos h]; simp; omega
    · obtain ⟨w, ws, e1, e2⟩ := splitM_cons h s
      rw [e2]; rw [e1] at this; simp at this ⊢; omega
theorem splitM_mem {c : UInt8} : ∀ {s w : Str}, w ∈ splitM c s → c ∉ w ∧ w.length ≤ s.length
  | [], w, h => by
    have : w = [] := by simpa [splitM] using h
    subst this; simp
  | x :: s, w, h => by
    by_cases hx : x = c
    · rw [splitM, if_pos hx] at h
      rcases List.mem_cons.1 h with rfl | h
      · simp
      · have := splitM_mem h
        exact ⟨this.1, by simp; omega⟩
    · obtain ⟨v, ws, e1, e2⟩ := splitM_cons hx s
      rw [e2] at h
      rcases List.mem_cons.1 h with rfl | h
      · have := splitM_mem (c := c) (s := s) (w := v) (by rw [e1]; exact List.mem_cons_self)
        refine ⟨fun q => ?_, by simp; omega⟩
        rcases List.mem_cons.1 q with q | q
        · exact hx q.symm
        · exact this.1 q
      · have := splitM_mem (c := c) (s := s) (w := w) (by rw [e1]; exact List.mem_cons_of_mem _ h)
        exact ⟨this.1, by simp; omega⟩
theorem occ1 {s : Str} {c : UInt8} {i : Nat} : Lib.occAt s [c] i = true ↔ s[i]? = some c := by
  constructor
  · exact Lib.occAt_head rfl
  · intro h
    unfold Lib.occAt
    obtain ⟨hi, e⟩ := List.getElem?_eq_some_iff.1 h
    rw [List.drop_eq_getElem_cons hi, e]
    simp [List.isPrefixOf]
theorem splitK_splitM (c : UInt8) : ∀ (n : Nat) (s : Str), s.length ≤ n → Lib.splitK [c] 0 (Lib.count s [c]) s = splitM c s := by
  intro n
  induction n with
  | zero =>
    intro s hs
    have : s = [] := List.eq_nil_of_length_eq_zero (by omega)
    subst this
    have h : Lib.index ([] : Str) [c] = -1 := rfl
    rw [Lib.count_miss h]
    rfl
  | succ n ih =>
    intro s hs
    rcases Lib.index_spec s [c] with ⟨h1, h2⟩ | ⟨i, h1, h2, h3, h4⟩
    · rw [Lib.count_miss h1]
      have hc : c ∉ s := fun hm => by
        obtain ⟨j, hj, e⟩ := List.getElem_of_mem hm
        have := h2 j (by omega)
        rw [Bool.eq_false_iff] at this
        exact this (occ1.2 (by rw [List.getElem?_eq_getElem hj, e]))
      rw [splitM_free hc]
      rfl
    · obtain ⟨hi, e⟩ := List.getElem?_eq_some_iff.1 (occ1.1 h3)
      have hne : ([c] : Str) ≠ [] := by simp
      rw [Lib.count_hit hne h1, Nat.add_comm, Lib.splitK]
      rw [if_neg (by rw [h1]; simp), h1]
      have hd : s = s.take i ++ c :: s.drop (i + 1) := by
        conv => lhs; rw [← List.take_append_drop i s, List.drop_eq_getElem_cons hi, e]
      have hc : c ∉ s.take i := fun hm => by
        obtain ⟨j, hj, e⟩ := List.getElem_of_mem hm
        rw [List.length_take] at hj
        have := h4 j (by omega)
        rw [Bool.eq_false_iff] at this
        refine this (occ1.2 ?_)
        rw [List.getElem_take] at e
        rw [List.getElem?_eq_getElem (by omega), e]
      conv => rhs; rw [hd]
      rw [splitM_app _ hc, ← ih (s.drop (i + 1)) (by rw [List.length_drop]; omega)]
      rfl
def stepD (a : Nat) (x : UInt8) : Nat := a * 10 + (x.toNat - 48)
def valD (a : Nat) (s : Str) : Nat := s.foldl stepD a
theorem valD_cons (a : Nat) (x : UInt8) (s : Str) : valD a (x :: s) = valD (stepD a x) s := by unfold valD; rw [List.foldl_cons]
theorem valD_app : ∀ (a : Nat) (s t : Str), valD a (s ++ t) = valD (valD a s) t
  | _, [], _ => rfl
  | a, x :: s, t => by rw [List.cons_append, valD_cons, valD_cons, valD_app]
def digs (s : Str) : Prop := ∀ x ∈ s, 48 ≤ x.toNat ∧ x.toNat ≤ 57
theorem dig_nat {d : Nat} (h : d < 10) : (UInt8.ofNat (48 + d)).toNat = 48 + d := by
  rw [UInt8.toNat_ofNat']; omega
theorem dec_val : ∀ u : Nat, digs (Lib.decDigits u) ∧ valD 0 (Lib.decDigits u) = u := by
  intro u
  induction u using Nat.strongRecOn with
  | _ u ih =>
  by_cases h : u < 10
  · rw [Lib.decDigits, dif_pos h]
    refine ⟨fun x hx => ?_, ?_⟩
    · rw [List.mem_singleton.1 hx, dig_nat h]; omega
    · show 0 * 10 + ((UInt8.ofNat (48 + u)).toNat - 48) = u
      rw [dig_nat h]; omega
  · rw [Lib.decDigits, dif_neg h]
    obtain ⟨h1, h2⟩ := ih (u / 10) (by omega)
    have hd := dig_nat (d := u % 10) (by omega)
    refine ⟨fun x hx => ?_, ?_⟩
    · rcases List.mem_append.1 hx with q | q
      · exact h1 x q
      · rw [List.mem_singleton.1 q, hd]; omega
    · rw [valD_app, h2]
      show u / 10 * 10 + ((UInt8.ofNat (48 + u % 10)).toNat - 48) = u
      rw [hd]; omega
theorem valD_le : ∀ (a : Nat) (s : Str), a ≤ valD a s
  | _, [] => Nat.le_refl _
  | a, x :: s => by
    have := valD_le (stepD a x) s
    rw [valD_cons]
    unfold stepD at this ⊢
    omega
theorem parseUintM_val (M : Nat) (hM : M ≤ 18446744073709551615) : ∀ (s : Str) (a : Nat), digs s → valD a s ≤ M → Lib.parseUintM M a s = .ok (valD a s)
  | [], _, _, _ => rfl
  | x :: s, a, hd, h => by
    have hx := hd x List.mem_cons_self
    rw [valD_cons] at h ⊢
    have hle := valD_le (stepD a x) s
    unfold stepD at h hle ⊢
    rw [Lib.parseUintM, if_pos hx, if_neg (by omega), if_neg (by omega)]
    exact parseUintM_val M hM s _ (fun y hy => hd y (List.mem_cons_of_mem _ hy)) h
theorem dec_ne (u : Nat) : Lib.decDigits u ≠ [] := by
  rw [Lib.decDigits]
  split <;> simp
theorem parseInt_dec {u : Nat} (h : u < 9223372036854775808) : Lib.parseIntB 64 (Lib.decDigits u) = .ok (u : Int) := by
  obtain ⟨h1, h2⟩ := dec_val u
  have h3 := dec_ne u
  cases e : Lib.decDigits u with
  | nil => exact absurd e h3
  | cons c r =>
    rw [e] at h1 h2
    have hc := h1 c List.mem_cons_self
    rw [Lib.parseIntB_plain 64 c r (by omega) (by omega), Lib.parseUintB, if_neg (by simp), parseUintM_val (2 ^ 64 - 1) (by decide) _ 0 h1 (by rw [h2]; omega), h2]
    show (if 2 ^ (64 - 1) ≤ u then Lib.NumEnd.range else Lib.NumEnd.ok (u : Int)) = _
    rw [if_neg (by omega)]
end Go.Proofs.YtcnkbllbpimaiaaGreatDoorE
end

namespace Go.Proofs.YtcnkbllbpimaiaaGreatDoorE
open Go
set_option linter.unusedVariables false
/-! ### words -/
theorem iSplit {c : UInt8} {s : Str} (h : s.length < 4294967281) : strings_Split s [c] = some (splitM c s) := by
  unfold strings_Split
  rw [if_pos ⟨h, by simp⟩]
  have e := Lib.splitB_data (ba [c]) 0 (Lib.countB (ba s) (ba [c])) (ba s)
  rw [e]
  exact congrArg some (splitK_splitM c s.length s (Nat.le_refl _))
theorem sSplitL (c : UInt8) (t : Str) (ht : t.length ≤ 1000000) : ∀ (d i frm : Nat) (out : List Str) (j : Nat), i + d = t.length → frm ≤ i → (∀ m, frm ≤ m → m < i → t[m]? ≠ some c) → out.length ≤ i → d < j →
    ∃ (frm' : Nat) (out' : List Str), spec_l01Split.l0 j t (c.toNat : Int) (frm : Int) (i : Int) out = some ((frm' : Int), out') ∧ frm' ≤ t.length ∧ out'.length ≤ t.length ∧ out' ++ [t.drop frm'] = out ++ splitM c (t.drop frm) := by
  intro d
  induction d with
  | zero =>
    intro i frm out j hi hf hc ho hj
    obtain ⟨j, rfl⟩ : ∃ q, j = q + 1 := ⟨j - 1, by omega⟩
    obtain rfl : i = t.length := by omega
    refine ⟨frm, out, ?_, hf, ho, ?_⟩
    · rw [spec_l01Split.l0, dnlt (Nat.le_refl _)]
      rfl
    · rw [splitM_free]
      intro hm
      obtain ⟨m, hm, e⟩ := List.getElem_of_mem hm
      rw [List.length_drop] at hm
      rw [List.getElem_drop] at e
      exact hc (frm + m) (by omega) (by omega) (by rw [List.getElem?_eq_getElem (by omega), e])
  | succ d ih =>
    intro i frm out j hi hf hc ho hj
    obtain ⟨j, rfl⟩ : ∃ q, j = q + 1 := ⟨j - 1, by omega⟩
    have hlt : i < t.length := by omega
    rw [spec_l01Split.l0, dlt hlt, at_nat hlt]
    simp only [cond_true, Option.bind_some]
    rw [wsuc (by omega)]
    by_cases e : t[i] = c
    · rw [show (((t[i].toNat : Int) == (c.toNat : Int))) = true by rw [e]; exact beq_self_eq_true _, cut_ok hf (by omega)]
      simp only [cond_true, Option.bind_some]
      rw [app_ok (by simp; omega)]
      simp only [Option.bind_some]
      obtain ⟨f', o', h1, h2, h3, h4⟩ := ih (i + 1) (i + 1) (out ++ [(t.take i).drop frm]) j (by omega) (Nat.le_refl _) (fun m h h' => by omega) (by simp; omega) (by omega)
      refine ⟨f', o', h1, h2, h3, ?_⟩
      rw [h4]
      have hd : t.drop frm = (t.take i).drop frm ++ c :: t.drop (i + 1) := by
        conv => lhs; rw [← List.take_append_drop i t, List.drop_eq_getElem_cons hlt, e]
        rw [List.drop_append_of_le_length (by rw [List.length_take]; omega)]
      rw [hd, splitM_app _ (fun hm => ?_), List.append_assoc]
      · rfl
      · obtain ⟨m, hm, e2⟩ := List.getElem_of_mem hm
        rw [List.length_drop, List.length_take] at hm
        rw [List.getElem_drop, List.getElem_take] at e2
        exact hc (frm + m) (by omega) (by omega) (by rw [List.getElem?_eq_getElem (by omega), e2])
    · have hne : ((t[i].toNat : Int) == (c.toNat : Int)) = false := by
        rw [beqd]
        refine decide_eq_false fun q => e ?_
        have : t[i].toNat = c.toNat := by omega
        exact UInt8.toNat_inj.1 this
      rw [hne]
      simp only [cond_false]
      refine ih (i + 1) frm out j (by omega) (by omega) (fun m h h' => ?_) (by omega) (by omega)
      by_cases hm : m < i
      · exact hc m h hm
      · obtain rfl : m = i := by omega
        rw [List.getElem?_eq_getElem hlt]
        intro q
        exact e (Option.some.inj q)
theorem sSplit {c : UInt8} {t : Str} (ht : t.length ≤ 1000000) {k : Nat} (hk : t.length < k) : spec_l01Split k t (c.toNat : Int) = some (splitM c t) := by
  obtain ⟨f', o', h1, h2, h3, h4⟩ := sSplitL c t ht t.length 0 0 [] k (Nat.zero_add _) (Nat.le_refl _) (fun m h h' => by omega) (by simp) hk
  have h1 : spec_l01Split.l0 k t (c.toNat : Int) 0 0 [] = some ((f' : Int), o') := h1
  unfold spec_l01Split
  rw [h1]
  simp only [Option.bind_some]
  rw [cut_ok h2 (Nat.le_refl _)]
  simp only [Option.bind_some]
  rw [app_ok (by simp; omega)]
  simp only [Option.bind_some]
  rw [List.take_length, h4]
  rfl
/-! ### numbers -/
theorem iNumW {w : Str} (h : w.length ≤ 1000000) : ∃ v, impl_wordNumber w = some v ∧ ∀ n : Int, 0 ≤ n → n < 9223372036854775808 → w = decM n → v = n := by
  refine ⟨wordNum w, by unfold impl_wordNumber; rw [if_pos (by omega)], fun n h0 h1 e => ?_⟩
  unfold wordNum
  subst e
  unfold decM
  obtain ⟨u, rfl⟩ : ∃ u : Nat, n = (u : Int) := ⟨n.toNat, by omega⟩
  rw [Int.toNat_natCast, parseInt_dec (by omega)]
  dsimp only
  rw [if_neg]
  intro q
  rcases q with q | q
  · omega
  · refine q ?_
    unfold Lib.itoa
    rw [if_neg (by omega), Int.toNat_natCast]
theorem decM_digs (n : Int) : digs (decM n) := (dec_val n.toNat).1
theorem decM_val {n : Int} (h : 0 ≤ n) : (valD 0 (decM n) : Int) = n := by
  have := (dec_val n.toNat).2
  unfold decM
  rw [this]
  omega
theorem dec_head : ∀ u : Nat, 0 < u → (Lib.decDigits u).head? ≠ some 48 := by
  intro u
  induction u using Nat.strongRecOn with
  | _ u ih =>
  intro h
  by_cases h10 : u < 10
  · rw [dec_small h10]
    intro q
    have q : UInt8.ofNat (48 + u) = 48 := Option.some.inj q
    have := congrArg UInt8.toNat q
    rw [dig_nat h10] at this
    have h48 : (48 : UInt8).toNat = 48 := rfl
    omega
  · rw [dec_big h10]
    have := ih (u / 10) (by omega) (by omega)
    have hne := dec_ne (u / 10)
    cases e : Lib.decDigits (u / 10) with
    | nil => exact absurd e hne
    | cons c r => rw [e] at this; exact this
theorem valD_lt : ∀ (s : Str) (a : Nat), digs s → valD a s < (a + 1) * 10 ^ s.length
  | [], a, _ => by show a < _; simp
  | x :: s, a, h => by
    have hx := h x List.mem_cons_self
    have := valD_lt s (stepD a x) (fun y hy => h y (List.mem_cons_of_mem _ hy))
    rw [valD_cons, List.length_cons, Nat.pow_succ, Nat.mul_comm (10 ^ s.length) 10, ← Nat.mul_assoc]
    refine Nat.lt_of_lt_of_le this (Nat.mul_le_mul_right _ ?_)
    unfold stepD
    omega
/-- What a digit adds. -/
theorem sNumL (w : Str) (hw : w.length ≤ 9) : ∀ (d i : Nat) (a : Nat) (j : Nat), i + d = w.length → a < 10 ^ i → d < j →
    ∃ r, spec_l17Num.l0 j w (a : Int) (i : Int) = some r ∧ (digs (w.drop i) → r = .inl (valD a (w.drop i) : Nat)) := by
  intro d
  induction d with
  | zero =>
    intro i a j hi ha hj
    obtain ⟨j, rfl⟩ : ∃ q, j = q + 1 := ⟨j - 1, by omega⟩
    obtain rfl : i = w.length := by omega
    refine ⟨.inl (a : Int), ?_, fun _ => ?_⟩
    · rw [spec_l17Num.l0, dnlt (Nat.le_refl _)]; rfl
    · rw [List.drop_length]; rfl
  | succ d ih =>
    intro i a j hi ha hj
    obtain ⟨j, rfl⟩ : ∃ q, j = q + 1 := ⟨j - 1, by omega⟩
    have hlt : i < w.length := by omega
    have hd : w.drop i = w[i] :: w.drop (i + 1) := List.drop_eq_getElem_cons hlt
    have h9 : (10 : Nat) ^ i ≤ 10 ^ 8 := Nat.pow_le_pow_right (by omega) (by omega)
    have h256 := w[i].toNat_lt
    rw [spec_l17Num.l0, dlt hlt, at_nat hlt]
    simp only [cond_true, Option.bind_some]
    by_cases c1 : w[i].toNat < 48
    · rw [decide_eq_true (by omega : (w[i].toNat : Int) < 48)]
      refine ⟨_, rfl, fun q => ?_⟩
      have := q w[i] (by rw [hd]; exact List.mem_cons_self)
      omega
    · rw [decide_eq_false (by omega : ¬ (w[i].toNat : Int) < 48)]
      simp only [cond_false]
      by_cases c2 : 57 < w[i].toNat
      · rw [decide_eq_true (by omega : (57 : Int) < (w[i].toNat : Int))]
        refine ⟨_, rfl, fun q => ?_⟩
        have := q w[i] (by rw [hd]; exact List.mem_cons_self)
        omega
      · rw [decide_eq_false (by omega : ¬ (57 : Int) < (w[i].toNat : Int))]
        simp only [cond_false]
        have e1 : IntKind.wrap .u8 ((w[i].toNat : Int) - 48) = ((w[i].toNat - 48 : Nat) : Int) := by
          simp [IntKind.wrap, IntKind.bits, IntKind.signed]
          omega
        have ha8 : a < 100000000 := by omega
        rw [e1, wsuc (by omega), w64 (n := ((w[i].toNat - 48 : Nat) : Int)) (by omega) (by omega), w64 (n := 10 * (a : Int)) (by omega) (by omega), w64 (by omega) (by omega)]
        have e2 : 10 * (a : Int) + ((w[i].toNat - 48 : Nat) : Int) = ((stepD a w[i] : Nat) : Int) := by unfold stepD; omega
        rw [e2]
        obtain ⟨r, h1, h2⟩ := ih (i + 1) (stepD a w[i]) j (by omega) (by unfold stepD; rw [Nat.pow_succ]; omega) (by omega)
        refine ⟨r, h1, fun q => ?_⟩
        rw [h2 (fun x hx => q x (by rw [hd]; exact List.mem_cons_of_mem _ hx)), hd, valD_cons]
theorem sNumW (w : Str) : ∃ v, (∀ k, 20 ≤ k → spec_l17Num k w = some v) ∧ ∀ n : Int, 0 ≤ n → n ≤ 1000000 → w = decM n → v = n := by
  by_cases c1 : w.length < 1 ∨ 9 < w.length
  · refine ⟨-1, fun k _ => ?_, fun n h0 h1 e => ?_⟩
    · unfold spec_l17Num
      rw [show (decide ((w.length : Int) < 1) || decide (9 < (w.length : Int))) = true by simp; omega]
      rfl
    · exfalso
      have hl := dec_len 8 n.toNat (by omega)
      have hne := decM_ne n
      subst e
      unfold decM at c1 hne
      have := List.length_pos_iff.2 hne
      omega
  · have hw : w.length ≤ 9 := by omega
    obtain ⟨r, h1, h2⟩ := sNumL w hw w.length 0 0 (w.length + 1) (Nat.zero_add _) (by simp) (by omega)
    have hrun : ∀ k, 20 ≤ k → ∃ r, spec_l17Num.l0 k w 0 0 = some r ∧ (digs w → r = .inl (valD 0 w : Nat)) := fun k hk => by
      have := sNumL w hw w.length 0 0 k (Nat.zero_add _) (by simp) (by omega)
      simpa using this
    have hdet : ∀ k, 20 ≤ k → spec_l17Num.l0 k w 0 0 = spec_l17Num.l0 20 w 0 0 := by
      intro k hk
      have mono : ∀ (d i : Nat) (a : Int) (j j' : Nat), i + d = w.length → d < j → d < j' → spec_l17Num.l0 j w a (i : Int) = spec_l17Num.l0 j' w a (i : Int) := by
        intro d
        induction d with
        | zero =>
          intro i a j j' hi hj hj'
          obtain ⟨j, rfl⟩ : ∃ q, j = q + 1 := ⟨j - 1, by omega⟩
          obtain ⟨j', rfl⟩ : ∃ q, j' = q + 1 := ⟨j' - 1, by omega⟩
          obtain rfl : i = w.length := by omega
          rw [spec_l17Num.l0, spec_l17Num.l0, dnlt (Nat.le_refl _)]
          rfl
        | succ d ih =>
          intro i a j j' hi hj hj'
          obtain ⟨j, rfl⟩ : ∃ q, j = q + 1 := ⟨j - 1, by omega⟩
          obtain ⟨j', rfl⟩ : ∃ q, j' = q + 1 := ⟨j' - 1, by omega⟩
          have hlt : i < w.length := by omega
          rw [spec_l17Num.l0, spec_l17Num.l0, at_nat hlt, wsuc (by omega)]
          simp only [Option.bind_some]
          rw [ih (i + 1) _ j j' (by omega) (by omega) (by omega)]
      exact mono w.length 0 0 k 20 (Nat.zero_add _) (by omega) (by omega)
    have hcond : (decide ((w.length : Int) < 1) || decide (9 < (w.length : Int))) = false := by
      rw [Bool.or_eq_false_iff]; exact ⟨decide_eq_false (by omega), decide_eq_false (by omega)⟩
    have hk : ∃ v, (∀ k, 20 ≤ k → spec_l17Num k w = some v) ∧ (digs w → (w.length = 1 ∨ w.head? ≠ some 48) → v = (valD 0 w : Nat)) := by
      obtain ⟨r, hr, hr2⟩ := hrun 20 (Nat.le_refl _)
      have fin : (bif decide (1 < (w.length : Int)) then false else true) = true ∨ (bif decide (1 < (w.length : Int)) then false else true) = false := by cases (bif decide (1 < (w.length : Int)) then false else true) <;> simp
      have h0 : 0 < w.length := by omega
      have ha : at? w 0 = some w[0] := at_nat (l := w) (i := 0) h0
      have val : ∃ v, (∀ k, 20 ≤ k → (Option.bind (spec_l17Num.l0 k w 0 0) fun
          | .inl y => some y
          | .inr y => some y) = some v) ∧ (digs w → v = (valD 0 w : Nat)) := by
        cases r with
        | inl y => exact ⟨y, fun k hk => by rw [hdet k hk, hr]; rfl, fun q => by have := hr2 q; cases this; rfl⟩
        | inr y => exact ⟨y, fun k hk => by rw [hdet k hk, hr]; rfl, fun q => by have := hr2 q; cases this⟩
      obtain ⟨v, v1, v2⟩ := val
      by_cases c2 : 1 < w.length
      · by_cases c3 : w[0] = 48
        · refine ⟨-1, fun k hk => ?_, fun q1 q2 => ?_⟩
          · unfold spec_l17Num
            rw [hcond, decide_eq_true (by omega : (1 : Int) < (w.length : Int)), ha]
            simp only [cond_false, cond_true, Option.bind_some]
            rw [c3]
            rfl
          · exfalso
            rcases q2 with q2 | q2
            · omega
            · refine q2 ?_
              cases w with
              | nil => simp at h0
              | cons x r => rw [show x = 48 from c3]; rfl
        · refine ⟨v, fun k hk => ?_, fun q1 _ => v2 q1⟩
          unfold spec_l17Num
          rw [hcond, decide_eq_true (by omega : (1 : Int) < (w.length : Int)), ha]
          simp only [cond_false, cond_true, Option.bind_some]
          have hne : ((w[0].toNat : Int) == 48) = false := by
            rw [beqd]
            refine decide_eq_false fun q => c3 ?_
            have : w[0].toNat = (48 : UInt8).toNat := by show w[0].toNat = 48; omega
            exact UInt8.toNat_inj.1 this
          rw [hne]
          exact v1 k hk
      · refine ⟨v, fun k hk => ?_, fun q1 _ => v2 q1⟩
        unfold spec_l17Num
        rw [hcond, decide_eq_false (by omega : ¬ (1 : Int) < (w.length : Int))]
        exact v1 k hk
    obtain ⟨v, hv, hv2⟩ := hk
    refine ⟨v, hv, fun n h0 h1 e => ?_⟩
    subst e
    rw [hv2 (decM_digs n) ?_, decM_val h0]
    by_cases hz : n = 0
    · left; subst hz; unfold decM; rw [show (0 : Int).toNat = 0 from rfl, dec_small (by omega)]; rfl
    · right
      exact dec_head n.toNat (by omega)
end Go.Proofs.YtcnkbllbpimaiaaGreatDoorE
