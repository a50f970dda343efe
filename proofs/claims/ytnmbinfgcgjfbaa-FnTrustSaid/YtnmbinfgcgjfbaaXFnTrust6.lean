/- What the law FnTrust needs, part 7 of 7: the Lean functions of the Go functions that it reaches, with the proofs that the calls come to what they say, and plain facts about them; the last theorem is the law. Conditions: those that each theorem states. Written by a session and by its programs (after the kit's printer). -/
import Derived.Laws.BitsLemmas
import Derived.Test.YtnmbinfgcgjfbaaRows
import Derived.Carry
import Derived.Handed
import Derived.Test.YtnmbinfgcgjfbaaXFnTrust4
import Derived.Test.YtnmbinfgcgjfbaaXFnTrust5
namespace Go.Proofs.YtnmbinfgcgjfbaaE
open Go
set_option linter.unusedVariables false
theorem u8w (n : Int) : IntKind.wrap .u8 n = n % 256 := by simp [IntKind.wrap, IntKind.bits, IntKind.signed]
theorem u32w (n : Int) : IntKind.wrap .u32 n = n % 4294967296 := by simp [IntKind.wrap, IntKind.bits, IntKind.signed]
theorem u64w (n : Int) : IntKind.wrap .u64 n = n % 18446744073709551616 := by simp [IntKind.wrap, IntKind.bits, IntKind.signed]
theorem bx32 (a b : Nat) (ha : a < 4294967296) (hb : b < 4294967296) : intBits .xor .u32 (a : Int) (b : Int) = ((a ^^^ b : Nat) : Int) := by
  have hx : a ^^^ b < 2 ^ 32 := Nat.xor_lt_two_pow (by omega) (by omega)
  show IntKind.wrap .u32 (((BitVec.ofInt 32 (a : Int)) ^^^ (BitVec.ofInt 32 (b : Int))).toNat : Int) = _
  rw [BitVec.ofInt_natCast, BitVec.ofInt_natCast, BitVec.toNat_xor, BitVec.toNat_ofNat, BitVec.toNat_ofNat, u32w, Nat.mod_eq_of_lt (show a < 2 ^ 32 by omega), Nat.mod_eq_of_lt (show b < 2 ^ 32 by omega)]
  omega
theorem band1 (a : Nat) (ha : a < 4294967296) : intBits .and .u32 (a : Int) 1 = ((a % 2 : Nat) : Int) := by
  have h : a &&& 1 = a % 2 := Nat.and_one_is_mod a
  show IntKind.wrap .u32 (((BitVec.ofInt 32 (a : Int)) &&& (BitVec.ofInt 32 ((1 : Nat) : Int))).toNat : Int) = _
  rw [BitVec.ofInt_natCast, BitVec.ofInt_natCast, BitVec.toNat_and, BitVec.toNat_ofNat, BitVec.toNat_ofNat, u32w, Nat.mod_eq_of_lt (show a < 2 ^ 32 by omega), Nat.mod_eq_of_lt (show 1 < 2 ^ 32 by omega), h]
  omega
theorem band64 (a : Nat) (ha : a < 18446744073709551616) : intBits .and .u64 (a : Int) 1 = ((a % 2 : Nat) : Int) := by
  have h : a &&& 1 = a % 2 := Nat.and_one_is_mod a
  show IntKind.wrap .u64 (((BitVec.ofInt 64 (a : Int)) &&& (BitVec.ofInt 64 ((1 : Nat) : Int))).toNat : Int) = _
  rw [BitVec.ofInt_natCast, BitVec.ofInt_natCast, BitVec.toNat_and, BitVec.toNat_ofNat, BitVec.toNat_ofNat, u64w, Nat.mod_eq_of_lt (show a < 2 ^ 64 by omega), Nat.mod_eq_of_lt (show 1 < 2 ^ 64 by omega), h]
  omega
theorem bor64 (a b : Nat) (ha : a < 18446744073709551616) (hb : b < 18446744073709551616) : intBits .or .u64 (a : Int) (b : Int) = ((a ||| b : Nat) : Int) := by
  show IntKind.wrap .u64 (((BitVec.ofInt 64 (a : Int)) ||| (BitVec.ofInt 64 (b : Int))).toNat : Int) = _
  have hx : a ||| b < 2 ^ 64 := Nat.or_lt_two_pow (by omega) (by omega)
  rw [BitVec.ofInt_natCast, BitVec.ofInt_natCast, BitVec.toNat_or, BitVec.toNat_ofNat, BitVec.toNat_ofNat, u64w, Nat.mod_eq_of_lt (show a < 2 ^ 64 by omega), Nat.mod_eq_of_lt (show b < 2 ^ 64 by omega)]
  omega
theorem and127 : ∀ a : Nat, a < 256 → intBits .and .u8 ((a : Nat) : Int) 127 = ((a % 128 : Nat) : Int) := by decide +kernel
theorem noti64 (a : Nat) (h : a < 9223372036854775808) : intBits .xor .i64 (-1) (a : Int) = -(a : Int) - 1 := by
  show IntKind.wrap .i64 (((BitVec.ofInt 64 (-1)) ^^^ (BitVec.ofInt 64 (a : Int))).toNat : Int) = _
  have e : (BitVec.ofInt 64 (-1)) = BitVec.allOnes 64 := by decide
  rw [BitVec.ofInt_natCast, e, BitVec.allOnes_xor, BitVec.toNat_not, BitVec.toNat_ofNat, IntKind.wrap_i64, Nat.mod_eq_of_lt (show a < 2 ^ 64 by omega)]
  omega
theorem shr_nat (k : IntKind) (r m : Nat) (h : m ≤ k.bits) : shr k (r : Int) (m : Int) = ((r / 2 ^ m : Nat) : Int) := by
  unfold shr
  rw [Int.toNat_natCast, Nat.min_eq_left h, Int.fdiv_eq_ediv_of_nonneg _ (by exact Int.le_of_lt (Int.pow_pos (by omega)))]
  push_cast
  rfl
theorem byte_lt (c : UInt8) : c.toNat < 256 := c.toNat_lt
theorem byte_of (c : UInt8) : UInt8.ofNat ((c.toNat : Nat) : Int).toNat = c := by simp
/-! ### the CRC -/
def crcBit (r : Nat) : Nat := if r % 2 = 1 then (r / 2) ^^^ 3988292384 else r / 2
def crcBits : Nat → Nat → Nat
  | 0, r => r
  | n + 1, r => crcBits n (crcBit r)
def crcRun : Str → Nat → Nat
  | [], r => r
  | c :: l, r => crcRun l (crcBits 8 (r ^^^ c.toNat))
def crcOf (c : Nat) (s : Str) : Nat := (crcRun s (c ^^^ 4294967295)) ^^^ 4294967295
theorem x32 {a b : Nat} (ha : a < 4294967296) (hb : b < 4294967296) : a ^^^ b < 4294967296 := Nat.xor_lt_two_pow (n := 32) ha hb
theorem crcBit_lt {r : Nat} (h : r < 4294967296) : crcBit r < 4294967296 := by
  unfold crcBit
  split
  · exact x32 (by omega) (by omega)
  · omega
theorem crcBits_lt : ∀ (n : Nat) {r : Nat}, r < 4294967296 → crcBits n r < 4294967296
  | 0, _, h => h
  | n + 1, _, h => crcBits_lt n (crcBit_lt h)
theorem crcRun_lt : ∀ (l : Str) {r : Nat}, r < 4294967296 → crcRun l r < 4294967296
  | [], _, h => h
  | c :: l, r, h => crcRun_lt l (crcBits_lt 8 (x32 h (by have := byte_lt c; omega)))
theorem crcOf_lt {c : Nat} (s : Str) (h : c < 4294967296) : crcOf c s < 4294967296 := x32 (crcRun_lt _ (x32 h (by omega))) (by omega)
/-- The four bytes of a CRC. -/
def four (n : Nat) : Str := listByte [((n % 256 : Nat) : Int), ((n / 256 % 256 : Nat) : Int), ((n / 65536 % 256 : Nat) : Int), ((n / 16777216 % 256 : Nat) : Int)]
def sealOf (s : Str) : Str := s ++ four (crcOf 0 s)
theorem four_len (n : Nat) : (four n).length = 4 := rfl
theorem sealOf_len (s : Str) : (sealOf s).length = s.length + 4 := by unfold sealOf; rw [List.length_append, four_len]
/-- What stands ahead of the seal. -/
def bodyOf (s : Str) : Str := s.take (s.length - 4)
theorem body_len (s : Str) : (bodyOf s).length = s.length - 4 := by unfold bodyOf; simp
theorem seal_inj {a b : Str} : sealOf a = sealOf b ↔ a = b := by
  constructor
  · intro h
    exact List.append_inj_left' h (by rw [four_len, four_len])
  · rintro rfl; rfl
theorem tail_iff (s : Str) : (four (crcOf 0 (bodyOf s)) = s.drop (s.length - 4)) ↔ sealOf (bodyOf s) = s := by
  have e : s = bodyOf s ++ s.drop (s.length - 4) := (List.take_append_drop _ _).symm
  unfold sealOf
  constructor
  · intro h; rw [h]; exact e.symm
  · intro h
    exact List.append_cancel_left (h.trans e)
theorem body_seal (s : Str) : bodyOf (sealOf s) = s := by
  unfold bodyOf
  rw [sealOf_len, Nat.add_sub_cancel]
  unfold sealOf
  simp
def unsealI (s : Str) : Str × Int := if s.length < 4 then ([], 4) else if sealOf (bodyOf s) = s then (bodyOf s, 0) else ([], 5)
theorem unseal_ok {s : Str} (h : (unsealI s).2 = 0) : unsealI s = (bodyOf s, 0) ∧ sealOf (bodyOf s) = s ∧ 4 ≤ s.length := by
  unfold unsealI at h ⊢
  by_cases h4 : s.length < 4
  · rw [if_pos h4] at h; simp at h
  · rw [if_neg h4] at h ⊢
    by_cases he : sealOf (bodyOf s) = s
    · rw [if_pos he]; exact ⟨rfl, he, by omega⟩
    · rw [if_neg he] at h; simp at h
theorem unseal_no {s : Str} (h : (unsealI s).2 ≠ 0) : (unsealI s).1 = [] := by
  unfold unsealI at h ⊢
  by_cases h4 : s.length < 4
  · rw [if_pos h4]
  · rw [if_neg h4] at h ⊢
    by_cases he : sealOf (bodyOf s) = s
    · rw [if_pos he] at h; exact absurd rfl h
    · rw [if_neg he]
theorem unseal_len (s : Str) : (unsealI s).1.length ≤ s.length := by
  unfold unsealI
  split
  · simp
  · split
    · rw [body_len]; omega
    · simp
theorem unseal_seal (s : Str) : unsealI (sealOf s) = (s, 0) := by
  unfold unsealI
  rw [body_seal, if_neg (by rw [sealOf_len]; omega), if_pos rfl]
/-! ### numbers as bytes -/
/-- The zigzag number. -/
def zig (n : Int) : Nat := if n < 0 then (-2 * n - 1).toNat else (2 * n).toNat
/-- The groups of seven bits of a number, as bytes; f: a bound on their count. -/
def groups : Nat → Nat → List Int
  | 0, _ => []
  | f + 1, u => if 128 ≤ u then ((u % 128 + 128 : Nat) : Int) :: groups f (u / 128) else [(u : Int)]
def putOf (n : Int) : Str := listByte (groups 10 (zig n))
def Num (n : Int) : Prop := -9223372036854775808 ≤ n ∧ n < 9223372036854775808
theorem zig_lt {n : Int} (h : Num n) : zig n < 18446744073709551616 := by unfold Num at h; unfold zig; split <;> omega
theorem groups_len : ∀ (f u : Nat), (groups f u).length ≤ f
  | 0, _ => by simp [groups]
  | f + 1, u => by
    unfold groups
    split
    · simp only [List.length_cons]; have := groups_len f (u / 128); omega
    · simp
theorem listByte_len (l : List Int) : (listByte l).length = l.length := by simp [listByte]
theorem putOf_len (n : Int) : (putOf n).length ≤ 10 := by
  unfold putOf
  rw [listByte_len]
  exact groups_len 10 _
theorem putOf_pos (n : Int) : 1 ≤ (putOf n).length := by
  unfold putOf
  rw [listByte_len]
  unfold groups
  split <;> simp
def putTextOf (s : Str) : Str := putOf (s.length : Int) ++ s
theorem putTextOf_len (s : Str) : (putTextOf s).length ≤ 10 + s.length := by
  unfold putTextOf
  have := putOf_len (s.length : Int)
  rw [List.length_append]
  omega
/-! ### numbers, read back -/
def unz (u : Nat) : Int := if u % 2 = 1 then -((u / 2 : Nat) : Int) - 1 else ((u / 2 : Nat) : Int)
/-- A number's groups, read: the number, how many bytes, the code. -/
def gn : Nat → Nat → Nat → Str → Int × Nat × Int
  | 0, _, _, _ => (0, 0, 3)
  | _ + 1, _, _, [] => (0, 0, 4)
  | f + 1, i, u, b :: l => if i = 9 ∧ 1 < b.toNat then (0, 0, 3) else if 128 ≤ b.toNat then gn f (i + 1) (u + b.toNat % 128 * 128 ^ i) l else if b.toNat = 0 ∧ 0 < i then (0, 0, 3) else (unz (u + b.toNat % 128 * 128 ^ i), i + 1, 0)
/-- What the readers make of it: the number, the place behind it, the code. -/
def fin (a : Nat) (r : Int × Nat × Int) : Int × Int × Int := if r.2.2 = 0 then (r.1, ((a + r.2.1 : Nat) : Int), 0) else (0, 0, r.2.2)
def getNumZ (s : Str) (a : Nat) : Int × Int × Int := fin a (gn 10 0 0 (s.drop a))
theorem p128 (i : Nat) : (2 : Nat) ^ (7 * i) = 128 ^ i := by rw [Nat.pow_mul]
theorem step_lt {i u b : Nat} (_ : i ≤ 8) (hu : u < 128 ^ i) : u + b % 128 * 128 ^ i < 128 ^ (i + 1) := by
  have h1 : b % 128 ≤ 127 := by omega
  have h2 : b % 128 * 128 ^ i ≤ 127 * 128 ^ i := Nat.mul_le_mul_right _ h1
  rw [Nat.pow_succ]
  omega
theorem pow_le9 {i : Nat} (hi : i ≤ 9) : 128 ^ i ≤ 9223372036854775808 := by
  have : 128 ^ i ≤ 128 ^ 9 := Nat.pow_le_pow_right (by omega) hi
  simpa using this
theorem term_lt {i b : Nat} (hi : i ≤ 9) (h9 : i = 9 → b ≤ 1) : b % 128 * 128 ^ i < 18446744073709551616 := by
  by_cases h : i = 9
  · have := h9 h
    subst h
    have : b % 128 ≤ 1 := by omega
    have := Nat.mul_le_mul_right (128 ^ 9) this
    simp at this ⊢
    omega
  · have h1 : 128 ^ i ≤ 128 ^ 8 := Nat.pow_le_pow_right (by omega) (by omega)
    have h2 : b % 128 ≤ 127 := by omega
    have := Nat.mul_le_mul h2 h1
    simp at this
    omega
theorem sum_lt {i u b : Nat} (hi : i ≤ 9) (hu : u < 128 ^ i) (h9 : i = 9 → b ≤ 1) : u + b % 128 * 128 ^ i < 18446744073709551616 := by
  by_cases h : i = 9
  · have := h9 h
    subst h
    have h1 : b % 128 ≤ 1 := by omega
    have := Nat.mul_le_mul_right (128 ^ 9) h1
    simp at this hu ⊢
    omega
  · have h1 := step_lt (b := b) (show i ≤ 8 by omega) hu
    have h2 := pow_le9 (show i + 1 ≤ 9 by omega)
    omega
theorem shl_eq {i b : Nat} (hi : i ≤ 9) (h9 : i = 9 → b ≤ 1) : shl .u64 ((b % 128 : Nat) : Int) ((7 * i : Nat) : Int) = ((b % 128 * 128 ^ i : Nat) : Int) := by
  unfold shl
  rw [Int.toNat_natCast, Nat.min_eq_left (by simp [IntKind.bits]; omega), u64w]
  have e : ((b % 128 : Nat) : Int) * 2 ^ (7 * i) = ((b % 128 * 128 ^ i : Nat) : Int) := by rw [← p128]; push_cast; rfl
  rw [e]
  have := term_lt hi h9
  omega
theorem or_sum {i u b : Nat} (hu : u < 128 ^ i) : u ||| (b % 128 * 128 ^ i) = u + b % 128 * 128 ^ i := by
  have h := @Nat.shiftLeft_add_eq_or_of_lt (7 * i) u (by rw [p128]; exact hu) (b % 128)
  rw [Nat.shiftLeft_eq, p128] at h
  rw [Nat.or_comm, ← h, Nat.add_comm]
theorem zig_unz (v : Nat) : zig (unz v) = v := by
  unfold unz
  split
  · unfold zig; split <;> omega
  · unfold zig; split <;> omega
theorem unz_zig (n : Int) : unz (zig n) = n := by
  unfold zig
  split
  · unfold unz; split <;> omega
  · unfold unz; split <;> omega
theorem unz_range {v : Nat} (h : v < 18446744073709551616) : Num (unz v) := by
  unfold Num unz
  split <;> omega
theorem gn_canon : ∀ (f i u : Nat) (l : Str), i + f = 10 → i ≤ 9 → u < 128 ^ i → (gn f i u l).2.2 = 0 →
    ∃ v, gn f i u l = (unz (u + v * 128 ^ i), i + (groups f v).length, 0) ∧ l = listByte (groups f v) ++ l.drop (groups f v).length ∧ u + v * 128 ^ i < 18446744073709551616 ∧ (0 < i → v ≠ 0)
  | 0, i, u, l, hf, h9, _, _ => by omega
  | f + 1, i, u, [], hf, h9, hu, h0 => by simp [gn] at h0
  | f + 1, i, u, c :: l, hf, hi9, hu, h0 => by
    have hb := byte_lt c
    have hbc := byte_of c
    simp only [gn] at h0 ⊢
    generalize hcb : c.toNat = b at h0 hb hbc ⊢
    by_cases h9 : i = 9 ∧ 1 < b
    · rw [if_pos h9] at h0; simp at h0
    rw [if_neg h9] at h0 ⊢
    have hb9 : i = 9 → b ≤ 1 := fun h => by
      rcases Nat.lt_or_ge 1 b with h1 | h1
      · exact absurd ⟨h, h1⟩ h9
      · exact h1
    by_cases h128 : 128 ≤ b
    · have hi8 : i ≤ 8 := by
        by_cases h : i = 9
        · have := hb9 h; omega
        · omega
      rw [if_pos h128] at h0 ⊢
      obtain ⟨v, e1, e2, e3, e4⟩ := gn_canon f (i + 1) (u + b % 128 * 128 ^ i) l (by omega) (by omega) (step_lt hi8 hu) h0
      have hv := e4 (by omega)
      have hs : u + b % 128 * 128 ^ i + v * 128 ^ (i + 1) = u + (b % 128 + 128 * v) * 128 ^ i := by
        rw [Nat.pow_succ, Nat.add_mul, Nat.mul_comm (128 ^ i) 128, ← Nat.mul_assoc, Nat.mul_comm v 128, Nat.add_assoc]
      have hg : groups (f + 1) (b % 128 + 128 * v) = (b : Int) :: groups f v := by
        have h1 : 128 ≤ b % 128 + 128 * v := by omega
        have h2 : (b % 128 + 128 * v) / 128 = v := by omega
        have h3 : (b % 128 + 128 * v) % 128 + 128 = b := by omega
        simp only [groups, if_pos h1, h2, h3]
      refine ⟨b % 128 + 128 * v, ?_, ?_, ?_, ?_⟩
      · rw [e1, hs, hg, List.length_cons, Nat.add_assoc, Nat.add_comm 1]
      · rw [hg]
        show c :: l = UInt8.ofNat ((b : Nat) : Int).toNat :: (listByte (groups f v) ++ l.drop (groups f v).length)
        rw [hbc, ← e2]
      · rw [← hs]; exact e3
      · intro _; omega
    · rw [if_neg h128] at h0 ⊢
      by_cases hz : b = 0 ∧ 0 < i
      · rw [if_pos hz] at h0; simp at h0
      rw [if_neg hz] at h0 ⊢
      have hm : b % 128 = b := by omega
      have hsl := sum_lt (b := b) hi9 hu hb9
      rw [hm] at hsl ⊢
      have hg : groups (f + 1) b = [(b : Int)] := by simp only [groups, if_neg h128]
      refine ⟨b, ?_, ?_, hsl, ?_⟩
      · rw [hg]; rfl
      · rw [hg]
        show c :: l = UInt8.ofNat ((b : Nat) : Int).toNat :: l
        rw [hbc]
      · intro hi hb0; exact hz ⟨hb0, hi⟩
/-- At a stands the encoding of n, and it ends at a'. -/
structure Got (s : Str) (a : Nat) (n : Int) (a' : Nat) : Prop where
  at' : a' = a + (putOf n).length
  le : a' ≤ s.length
  eq : s.drop a = putOf n ++ s.drop a'
  range : Num n
theorem num_cases (s : Str) (a : Nat) : (∃ (n : Int) (a' : Nat), getNumZ s a = (n, (a' : Int), 0) ∧ Got s a n a') ∨ ∃ c, c ≠ 0 ∧ getNumZ s a = (0, 0, c) := by
  unfold getNumZ fin
  by_cases h : (gn 10 0 0 (s.drop a)).2.2 = 0
  · left
    obtain ⟨v, e1, e2, e3, _⟩ := gn_canon 10 0 0 (s.drop a) (by omega) (by omega) (by omega) h
    simp only [Nat.pow_zero, Nat.mul_one, Nat.zero_add] at e1 e3
    have hB : putOf (unz v) = listByte (groups 10 v) := by unfold putOf; rw [zig_unz]
    have hsz : (putOf (unz v)).length = (groups 10 v).length := by rw [hB, listByte_len]
    refine ⟨unz v, a + (putOf (unz v)).length, ?_, rfl, ?_, ?_, unz_range e3⟩
    · rw [e1, hsz]
      rfl
    · have := congrArg List.length e2
      simp only [List.length_append, listByte_len, List.length_drop] at this
      have hp : 0 < (groups 10 v).length := by unfold groups; split <;> simp
      omega
    · rw [hsz, ← List.drop_drop, hB]
      exact e2
  · right
    exact ⟨_, h, by rw [if_neg h]⟩
/-- What was encoded is read back, whatever follows. -/
theorem gn_put : ∀ (f i u v : Nat) (l : Str), i + f = 10 → i ≤ 9 → v < 128 ^ f → u + v * 128 ^ i < 18446744073709551616 → (0 < i → v ≠ 0) → gn f i u (listByte (groups f v) ++ l) = (unz (u + v * 128 ^ i), i + (groups f v).length, 0)
  | 0, i, u, v, l, hf, h9, _, _, _ => by omega
  | f + 1, i, u, v, l, hf, hi9, hv, hb, hz => by
    have h9' : i = 9 → v ≤ 1 := fun h => by subst h; simp at hb; omega
    by_cases h128 : 128 ≤ v
    · have hi8 : i ≤ 8 := by
        by_cases h : i = 9
        · have := h9' h; omega
        · omega
      have hg : groups (f + 1) v = ((v % 128 + 128 : Nat) : Int) :: groups f (v / 128) := by simp only [groups, if_pos h128]
      have ht : (UInt8.ofNat (((v % 128 + 128 : Nat) : Int)).toNat).toNat = v % 128 + 128 := by
        rw [Int.toNat_natCast, UInt8.toNat_ofNat']
        omega
      rw [hg]
      show gn (f + 1) i u (UInt8.ofNat (((v % 128 + 128 : Nat) : Int)).toNat :: (listByte (groups f (v / 128)) ++ l)) = _
      simp only [gn]
      rw [ht, if_neg (by omega), if_pos (by omega)]
      have hs : u + (v % 128 + 128) % 128 * 128 ^ i + v / 128 * 128 ^ (i + 1) = u + v * 128 ^ i := by
        have e : (v % 128 + 128) % 128 = v % 128 := by omega
        have e2 : v % 128 * 128 ^ i + v / 128 * (128 * 128 ^ i) = v * 128 ^ i := by
          rw [← Nat.mul_assoc, ← Nat.add_mul]
          congr 1
          omega
        rw [e, Nat.pow_succ, Nat.mul_comm (128 ^ i) 128, Nat.add_assoc, e2]
      rw [gn_put f (i + 1) _ (v / 128) l (by omega) (by omega) (by rw [Nat.pow_succ] at hv; exact Nat.div_lt_of_lt_mul (by rw [Nat.mul_comm]; exact hv)) (by rw [hs]; exact hb) (fun _ => by omega), hs]
      simp only [List.length_cons, Prod.mk.injEq, and_true, true_and]
      omega
    · have hg : groups (f + 1) v = [(v : Int)] := by simp only [groups, if_neg h128]
      have ht : (UInt8.ofNat ((v : Int)).toNat).toNat = v := by
        rw [Int.toNat_natCast, UInt8.toNat_ofNat']
        omega
      rw [hg]
      show gn (f + 1) i u (UInt8.ofNat ((v : Int)).toNat :: l) = _
      simp only [gn]
      rw [ht, if_neg (fun q => by have := h9' q.1; omega), if_neg h128, if_neg (fun q => hz q.2 q.1), Nat.mod_eq_of_lt (by omega)]
      rfl
theorem get_put (n : Int) (h : Num n) (s : Str) (a : Nat) (t : Str) (hs : s.drop a = putOf n ++ t) : getNumZ s a = (n, ((a + (putOf n).length : Nat) : Int), 0) := by
  unfold getNumZ
  have hz := zig_lt h
  rw [hs]
  unfold putOf
  rw [gn_put 10 0 0 (zig n) t rfl (by omega) (by omega) (by omega) (fun q => absurd q (by omega))]
  simp only [Nat.pow_zero, Nat.mul_one, Nat.zero_add, unz_zig, listByte_len]
  rfl
/-! ### texts, read back -/
def getTextZ (s : Str) (a : Nat) : Str × Int × Int :=
  if (getNumZ s a).2.2 = 0 then
    if 0 ≤ (getNumZ s a).1 ∧ (getNumZ s a).1 ≤ 8000 then
      if (getNumZ s a).1 > (s.length : Int) - (getNumZ s a).2.1 then ([], 0, 4)
      else ((s.take ((getNumZ s a).2.1 + (getNumZ s a).1).toNat).drop (getNumZ s a).2.1.toNat, (getNumZ s a).2.1 + (getNumZ s a).1, 0)
    else ([], 0, 3)
  else ([], 0, (getNumZ s a).2.2)
/-- At a stands the encoding of the text t, and it ends at a'. -/
structure GotT (s : Str) (a : Nat) (t : Str) (a' : Nat) : Prop where
  at' : a' = a + (putTextOf t).length
  le : a' ≤ s.length
  eq : s.drop a = putTextOf t ++ s.drop a'
  size : t.length ≤ 8000
theorem text_cases (s : Str) (a : Nat) : (∃ t a', getTextZ s a = (t, ((a' : Nat) : Int), 0) ∧ GotT s a t a') ∨ ∃ c, c ≠ 0 ∧ getTextZ s a = ([], 0, c) := by
  unfold getTextZ
  rcases num_cases s a with ⟨n, a', e, g⟩ | ⟨c, hc, e⟩
  · rw [e]
    simp only [if_true]
    by_cases hn : 0 ≤ n ∧ n ≤ 8000
    · rw [if_pos hn]
      have hle := g.le
      by_cases hs : n > (s.length : Int) - (a' : Int)
      · rw [if_pos hs]
        exact .inr ⟨4, by omega, rfl⟩
      · rw [if_neg hs]
        obtain ⟨m, rfl⟩ : ∃ m : Nat, n = (m : Int) := ⟨n.toNat, by omega⟩
        have e1 : ((a' : Int) + (m : Int)).toNat = a' + m := by omega
        rw [e1, Int.toNat_natCast]
        have hB : (s.take (a' + m)).drop a' = (s.drop a').take m := by
          rw [List.drop_take, Nat.add_sub_cancel_left]
        have hsz : ((s.take (a' + m)).drop a').length = m := by
          rw [hB, List.length_take, List.length_drop]
          omega
        refine .inl ⟨_, a' + m, by push_cast; rfl, ?_, ?_, ?_, ?_⟩
        · unfold putTextOf
          rw [List.length_append, hsz]
          have := g.at'
          omega
        · omega
        · unfold putTextOf
          rw [hsz, hB, g.eq, List.append_assoc, ← List.drop_drop, List.take_append_drop]
        · rw [hsz]; omega
    · rw [if_neg hn]
      exact .inr ⟨3, by omega, rfl⟩
  · rw [e]
    simp only
    rw [if_neg hc]
    exact .inr ⟨c, hc, rfl⟩
/-- One number, read: the number, the place, whether it failed. -/
def numR (s : Str) (a : Nat) : Int × Str × Int × Bool := if (getNumZ s a).2.2 = 0 then ((getNumZ s a).1, s, (getNumZ s a).2.1, false) else (0, s, (a : Int), true)
theorem numR_cases (s : Str) (a : Nat) : (∃ n a', numR s a = (n, s, ((a' : Nat) : Int), false) ∧ Got s a n a') ∨ numR s a = (0, s, (a : Int), true) := by
  unfold numR
  rcases num_cases s a with ⟨n, a', e, g⟩ | ⟨c, hc, e⟩
  · left; exact ⟨n, a', by rw [e]; rfl, g⟩
  · right; rw [e, if_neg hc]
/-- One text, read: the text, the place, whether it failed. -/
def textR (s : Str) (a : Nat) : Str × Str × Int × Bool := if (getTextZ s a).2.2 = 0 then ((getTextZ s a).1, s, (getTextZ s a).2.1, false) else ([], s, (a : Int), true)
theorem textR_cases (s : Str) (a : Nat) : (∃ t a', textR s a = (t, s, ((a' : Nat) : Int), false) ∧ GotT s a t a') ∨ textR s a = ([], s, (a : Int), true) := by
  unfold textR
  rcases text_cases s a with ⟨n, a', e, g⟩ | ⟨c, hc, e⟩
  · left; exact ⟨n, a', by rw [e]; rfl, g⟩
  · right; rw [e, if_neg hc]
end Go.Proofs.YtnmbinfgcgjfbaaE

namespace Go.Proofs.YtnmbinfgcgjfbaaE
open Go
set_option linter.unusedVariables false
theorem beqd (a b : Int) : (a == b) = decide (a = b) := by rw [Bool.eq_iff_iff]; simp
theorem w8u (i : Nat) (h : i < 9223372036854775807) : IntKind.wrap .i64 ((i : Int) + 1) = ((i + 1 : Nat) : Int) := wsuc h
theorem half32 (r : Nat) : shr .u32 (r : Int) 1 = ((r / 2 : Nat) : Int) := shr_nat .u32 r 1 (by decide)
theorem sl0 : ∀ (n r j : Nat), n ≤ 8 → r < 4294967296 → n < j → spec_l01Crc.l0 j (r : Int) ((8 - n : Nat) : Int) = some ((crcBits n r : Nat) : Int)
  | n, r, 0, _, _, h => absurd h (Nat.not_lt_zero n)
  | 0, r, j + 1, _, _, _ => by
    unfold spec_l01Crc.l0
    rfl
  | n + 1, r, j + 1, hn, hr, hj => by
    have e : IntKind.wrap .i64 (((8 - (n + 1) : Nat) : Int) + 1) = ((8 - n : Nat) : Int) := by rw [w64] <;> omega
    unfold spec_l01Crc.l0
    rw [decide_eq_true (by omega : (((8 - (n + 1) : Nat) : Int)) < 8), band1 _ hr, half32, e, nneg_some (by omega), beqd]
    simp only [cond_true, Option.bind_some]
    by_cases hp : r % 2 = 1
    · rw [decide_eq_true (by omega : ((r % 2 : Nat) : Int) = 1), show (3988292384 : Int) = ((3988292384 : Nat) : Int) from rfl, bx32 _ _ (by omega) (by omega)]
      have e2 : crcBit r = r / 2 ^^^ 3988292384 := by unfold crcBit; rw [if_pos hp]
      rw [cond_true, ← e2]
      exact sl0 n (crcBit r) j (by omega) (crcBit_lt hr) (by omega)
    · rw [decide_eq_false (by omega : ¬ (((r % 2 : Nat) : Int) = 1))]
      have e2 : crcBit r = r / 2 := by unfold crcBit; rw [if_neg hp]
      rw [cond_false, ← e2]
      exact sl0 n (crcBit r) j (by omega) (crcBit_lt hr) (by omega)
theorem sl1 (x : Str) (hx : x.length ≤ 140737488351232) (k : Nat) (hk : 9 ≤ k) : ∀ (d i r j : Nat), x.length - i = d → i ≤ x.length → r < 4294967296 → d < j → spec_l01Crc.l1 k j x (r : Int) (i : Int) = some ((crcRun (x.drop i) r : Nat) : Int)
  | d, i, r, 0, _, _, _, h => absurd h (Nat.not_lt_zero d)
  | 0, i, r, j + 1, hd, hi, hr, _ => by
    unfold spec_l01Crc.l1
    rw [decide_eq_false (by omega : ¬ ((i : Int) < (x.length : Int))), List.drop_eq_nil_of_le (by omega)]
    rfl
  | d + 1, i, r, j + 1, hd, hi, hr, hj => by
    have hlt : i < x.length := by omega
    have hc := byte_lt x[i]
    unfold spec_l01Crc.l1
    rw [decide_eq_true (by omega : (i : Int) < (x.length : Int)), at_nat hlt]
    simp only [cond_true, Option.bind_some]
    have hxr := x32 hr (show x[i].toNat < 4294967296 by omega)
    rw [u32w, show (((x[i].toNat : Nat) : Int) % 4294967296) = ((x[i].toNat : Nat) : Int) by omega, bx32 _ _ hr (by omega), wsuc (by omega)]
    have h8 := sl0 8 (r ^^^ x[i].toNat) k (Nat.le_refl _) hxr (by omega)
    have h8 : spec_l01Crc.l0 k ((r ^^^ x[i].toNat : Nat) : Int) 0 = some ((crcBits 8 (r ^^^ x[i].toNat) : Nat) : Int) := h8
    rw [h8, List.drop_eq_getElem_cons hlt]
    simp only [Option.bind_some]
    exact sl1 x hx k hk d (i + 1) _ j (by omega) (by omega) (crcBits_lt 8 hxr) (by omega)
theorem sCrc (c : Nat) (s : Str) (hc : c < 4294967296) (hs : s.length ≤ 140737488351232) : Ever fun k => spec_l01Crc k (c : Int) s = some ((crcOf c s : Nat) : Int) := by
  refine Ever.ge (s.length + 9) fun k hk => ?_
  have h := sl1 s hs k (by omega) s.length 0 (c ^^^ 4294967295) k (by omega) (by omega) (x32 hc (by omega)) (by omega)
  have h : spec_l01Crc.l1 k k s ((c ^^^ 4294967295 : Nat) : Int) 0 = some ((crcRun s (c ^^^ 4294967295) : Nat) : Int) := h
  unfold spec_l01Crc
  rw [u32w, show ((c : Int) % 4294967296) = (c : Int) by omega, show (4294967295 : Int) = ((4294967295 : Nat) : Int) from rfl, bx32 _ _ hc (by omega), h]
  simp only [Option.bind_some]
  have hl := crcRun_lt s (x32 hc (show 4294967295 < 4294967296 by omega))
  have hl2 := x32 hl (show 4294967295 < 4294967296 by omega)
  rw [bx32 _ _ hl (by omega), w64 (by omega) (by omega)]
  rfl
theorem il0 (x : Str) (i : Nat) (hi : i < x.length) : ∀ (n s r j : Nat), n ≤ 8 → s < 4294967296 → r = s ^^^ (x[i].toNat / 2 ^ (8 - n)) → n < j → impl_crcMore.l0 j x (r : Int) (i : Int) ((8 - n : Nat) : Int) = some ((crcBits n s : Nat) : Int)
  | n, s, r, 0, _, _, _, h => absurd h (Nat.not_lt_zero n)
  | 0, s, r, j + 1, _, _, hr, _ => by
    have hc := byte_lt x[i]
    have : x[i].toNat / 2 ^ (8 - 0) = 0 := Nat.div_eq_of_lt (by simpa using hc)
    rw [this, Nat.xor_zero] at hr
    subst hr
    unfold impl_crcMore.l0
    rfl
  | n + 1, s, r, j + 1, hn, hs, hr, hj => by
    have hc := byte_lt x[i]
    have e : IntKind.wrap .i64 (((8 - (n + 1) : Nat) : Int) + 1) = ((8 - n : Nat) : Int) := by rw [w64] <;> omega
    have ih := il0 x i hi n (crcBit s)
    unfold impl_crcMore.l0
    rw [decide_eq_true (by omega : (((8 - (n + 1) : Nat) : Int)) < 8), at_nat hi]
    simp only [cond_true, Option.bind_some]
    generalize x[i].toNat = c at hc hr ih ⊢
    have hcd : c / 2 ^ (8 - (n + 1)) < 256 := Nat.lt_of_le_of_lt (Nat.div_le_self _ _) hc
    have hrl : r < 4294967296 := by rw [hr]; exact x32 hs (by omega)
    have hsr : r ^^^ (c / 2 ^ (8 - (n + 1))) = s := by rw [hr, Nat.xor_assoc, Nat.xor_self, Nat.xor_zero]
    have hhalf : r / 2 = s / 2 ^^^ (c / 2 ^ (8 - n)) := by
      have e1 : c / 2 ^ (8 - n) = (c / 2 ^ (8 - (n + 1))) / 2 := by rw [Nat.div_div_eq_div_mul, ← Nat.pow_succ]; congr 2; omega
      rw [hr, e1]
      have := @Nat.shiftRight_xor_distrib 1 s (c / 2 ^ (8 - (n + 1)))
      simpa [Nat.shiftRight_eq_div_pow] using this
    rw [u32w, show ((c : Int) % 4294967296) = (c : Int) by omega, shr_nat .u32 c (8 - (n + 1)) (by show 8 - (n + 1) ≤ 32; omega), bx32 _ _ hrl (by omega), hsr, band1 _ hs, half32, e, nneg_some (by omega), nneg_some (by omega), beqd]
    simp only [Option.bind_some]
    by_cases hp : s % 2 = 1
    · rw [decide_eq_true (by omega : ((s % 2 : Nat) : Int) = 1), show (3988292384 : Int) = ((3988292384 : Nat) : Int) from rfl, bx32 _ _ (by omega) (by omega), cond_true]
      refine ih _ j (by omega) (crcBit_lt hs) ?_ (by omega)
      unfold crcBit
      rw [if_pos hp, hhalf, Nat.xor_assoc, Nat.xor_assoc, Nat.xor_comm (c / 2 ^ (8 - n))]
    · rw [decide_eq_false (by omega : ¬ (((s % 2 : Nat) : Int) = 1)), cond_false]
      refine ih _ j (by omega) (crcBit_lt hs) ?_ (by omega)
      unfold crcBit
      rw [if_neg hp, hhalf]
theorem il1 (x : Str) (hx : x.length ≤ 140737488351232) (k : Nat) (hk : 9 ≤ k) : ∀ (d i r j : Nat), x.length - i = d → i ≤ x.length → r < 4294967296 → d < j → impl_crcMore.l1 k j x (r : Int) (x.length : Int) (i : Int) = some ((crcRun (x.drop i) r : Nat) : Int)
  | d, i, r, 0, _, _, _, h => absurd h (Nat.not_lt_zero d)
  | 0, i, r, j + 1, hd, hi, hr, _ => by
    unfold impl_crcMore.l1
    rw [decide_eq_false (by omega : ¬ ((i : Int) < (x.length : Int))), List.drop_eq_nil_of_le (by omega)]
    rfl
  | d + 1, i, r, j + 1, hd, hi, hr, hj => by
    have hlt : i < x.length := by omega
    have hc := byte_lt x[i]
    unfold impl_crcMore.l1
    rw [decide_eq_true (by omega : (i : Int) < (x.length : Int))]
    have hxr := x32 hr (show x[i].toNat < 4294967296 by omega)
    have h8 := il0 x i hlt 8 (r ^^^ x[i].toNat) r k (Nat.le_refl _) hxr (by simp [Nat.xor_assoc]) (by omega)
    have h8 : impl_crcMore.l0 k x (r : Int) (i : Int) 0 = some ((crcBits 8 (r ^^^ x[i].toNat) : Nat) : Int) := h8
    rw [h8, List.drop_eq_getElem_cons hlt]
    simp only [cond_true, Option.bind_some]
    rw [wsuc (by omega)]
    exact il1 x hx k hk d (i + 1) _ j (by omega) (by omega) (crcBits_lt 8 hxr) (by omega)
theorem iCrc (c : Nat) (s : Str) (hc : c < 4294967296) (hs : s.length ≤ 140737488351232) : Ever fun k => impl_crcMore k (c : Int) s = some ((crcOf c s : Nat) : Int) := by
  refine Ever.ge (s.length + 9) fun k hk => ?_
  have h := il1 s hs k (by omega) s.length 0 (c ^^^ 4294967295) k (by omega) (by omega) (x32 hc (by omega)) (by omega)
  have h : impl_crcMore.l1 k k s ((c ^^^ 4294967295 : Nat) : Int) (s.length : Int) 0 = some ((crcRun s (c ^^^ 4294967295) : Nat) : Int) := h
  unfold impl_crcMore
  rw [show (IntKind.max .u32 : Int) = ((4294967295 : Nat) : Int) from rfl, bx32 _ _ (by omega) hc, Nat.xor_comm, h]
  simp only [Option.bind_some]
  have hl := crcRun_lt s (x32 hc (show 4294967295 < 4294967296 by omega))
  rw [bx32 _ _ (by omega) hl, Nat.xor_comm]
  rfl
theorem sFour (n : Nat) : spec_l01Four (n : Int) = some (four n) := by
  unfold spec_l01Four four
  have h8 := shr_nat .i64 n 8 (by decide)
  have h16 := shr_nat .i64 n 16 (by decide)
  have h24 := shr_nat .i64 n 24 (by decide)
  have h8 : shr .i64 (n : Int) 8 = ((n / 256 : Nat) : Int) := h8
  have h16 : shr .i64 (n : Int) 16 = ((n / 65536 : Nat) : Int) := h16
  have h24 : shr .i64 (n : Int) 24 = ((n / 16777216 : Nat) : Int) := h24
  rw [nneg_some (by omega), nneg_some (by omega), nneg_some (by omega)]
  simp only [Option.bind_some]
  rw [h8, h16, h24, u8w, u8w, u8w, u8w]
  rfl
theorem sSeal (s : Str) (hs : s.length ≤ 7996) : Ever fun k => spec_Seal k s = some (sealOf s) := by
  refine (sCrc 0 s (by omega) (by omega)).mono fun k h => ?_
  have h : spec_l01Crc k 0 s = some ((crcOf 0 s : Nat) : Int) := h
  unfold spec_Seal
  rw [decide_eq_false (by omega : ¬ (7996 < (s.length : Int))), h]
  simp only [cond_false, Option.bind_some]
  rw [sFour]
  simp only [Option.bind_some]
  rw [cat_some (by rw [four_len]; omega)]
  rfl
theorem iSeal (s : Str) (hs : s.length ≤ 140737488351232) : Ever fun k => impl_seal k s = some (sealOf s) := by
  refine (iCrc 0 s (by omega) (by omega)).mono fun k h => ?_
  have h : impl_crcMore k 0 s = some ((crcOf 0 s : Nat) : Int) := h
  have h8 := shr_nat .u32 (crcOf 0 s) 8 (by decide)
  have h16 := shr_nat .u32 (crcOf 0 s) 16 (by decide)
  have h24 := shr_nat .u32 (crcOf 0 s) 24 (by decide)
  have h8 : shr .u32 ((crcOf 0 s : Nat) : Int) 8 = ((crcOf 0 s / 256 : Nat) : Int) := h8
  have h16 : shr .u32 ((crcOf 0 s : Nat) : Int) 16 = ((crcOf 0 s / 65536 : Nat) : Int) := h16
  have h24 : shr .u32 ((crcOf 0 s : Nat) : Int) 24 = ((crcOf 0 s / 16777216 : Nat) : Int) := h24
  unfold impl_seal
  rw [h, nneg_some (by omega), nneg_some (by omega), nneg_some (by omega)]
  simp only [Option.bind_some]
  rw [h8, h16, h24, u8w, u8w, u8w, u8w]
  have e : listByte [((crcOf 0 s : Nat) : Int) % 256, ((crcOf 0 s / 256 : Nat) : Int) % 256, ((crcOf 0 s / 65536 : Nat) : Int) % 256, ((crcOf 0 s / 16777216 : Nat) : Int) % 256] = four (crcOf 0 s) := rfl
  rw [e, cat_some (by rw [four_len]; omega)]
  rfl
theorem beq_str (s t : Str) : (s == t) = decide (s = t) := by rw [Bool.eq_iff_iff]; simp
theorem iUnseal (s : Str) (hs : s.length ≤ 140737488351232) : Ever fun k => impl_unseal k s = some (unsealI s) := by
  refine (iSeal (bodyOf s) (by rw [body_len]; omega)).mono fun k h => ?_
  unfold impl_unseal unsealI
  by_cases h4 : s.length < 4
  · rw [decide_eq_true (by omega : (s.length : Int) < 4), if_pos h4]
    rfl
  · rw [decide_eq_false (by omega : ¬ ((s.length : Int) < 4)), if_neg h4, w64 (by omega) (by omega), show ((s.length : Int) - 4) = ((s.length - 4 : Nat) : Int) by omega]
    have hc := cut_ok (l := s) (i := 0) (j := s.length - 4) (by omega) (by omega)
    have hc : cut? s 0 ((s.length - 4 : Nat) : Int) = some (bodyOf s) := hc
    rw [hc]
    simp only [cond_false, Option.bind_some]
    rw [h]
    simp only [Option.bind_some, beq_str]
    by_cases he : sealOf (bodyOf s) = s
    · rw [if_pos he, decide_eq_true he]; rfl
    · rw [if_neg he, decide_eq_false he]; rfl
theorem sUnseal (s : Str) (hs : s.length ≤ 8000) : Ever fun k => spec_Unseal k s = some ((unsealI s).1, 0, (unsealI s).2) := by
  refine (sCrc 0 (bodyOf s) (by omega) (by rw [body_len]; omega)).mono fun k h => ?_
  have h : spec_l01Crc k 0 (bodyOf s) = some ((crcOf 0 (bodyOf s) : Nat) : Int) := h
  unfold spec_Unseal unsealI
  rw [decide_eq_false (by omega : ¬ (8000 < (s.length : Int)))]
  by_cases h4 : s.length < 4
  · rw [decide_eq_true (by omega : (s.length : Int) < 4), if_pos h4]
    rfl
  · rw [decide_eq_false (by omega : ¬ ((s.length : Int) < 4)), if_neg h4, w64 (by omega) (by omega), show ((s.length : Int) - 4) = ((s.length - 4 : Nat) : Int) by omega]
    have hc := cut_ok (l := s) (i := 0) (j := s.length - 4) (by omega) (by omega)
    have hc : cut? s 0 ((s.length - 4 : Nat) : Int) = some (bodyOf s) := hc
    have hd := cut_ok (l := s) (i := s.length - 4) (j := s.length) (by omega) (by omega)
    rw [List.take_length] at hd
    simp only [cond_false]
    rw [hc]
    simp only [cond_false, Option.bind_some]
    rw [h]
    simp only [Option.bind_some]
    rw [sFour, hd]
    simp only [Option.bind_some, beq_str]
    by_cases he : sealOf (bodyOf s) = s
    · rw [if_pos he, decide_eq_true ((tail_iff s).2 he)]; rfl
    · rw [if_neg he, decide_eq_false (fun q => he ((tail_iff s).1 q))]; rfl
end Go.Proofs.YtnmbinfgcgjfbaaE

namespace Go.Proofs.YtnmbinfgcgjfbaaE
open Go
set_option linter.unusedVariables false
theorem sFold (n : Int) (h : Num n) : spec_l01Fold n = some ((zig n : Nat) : Int) := by
  unfold Num at h
  unfold spec_l01Fold zig
  simp only [u64w]
  by_cases hn : n < 0
  · rw [decide_eq_true hn, if_pos hn, w64 (n := n + 1) (by omega) (by omega), w64 (by omega) (by omega)]
    rw [cond_true]
    congr 1
    omega
  · rw [decide_eq_false hn, if_neg hn, cond_false]
    congr 1
    omega
theorem sput : ∀ (f u : Nat) (acc : List Int) (j : Nat), u < 128 ^ f → u < 18446744073709551616 → acc.length + f ≤ 100 → 0 < f → f < j + 1 → ∃ p : Int × List Int, spec_PutNum.l0 j (u : Int) acc = some p ∧ p.2.length ≤ 100 ∧ p.2 ++ [IntKind.wrap .u8 p.1] = acc ++ groups f u
  | 0, _, _, _, _, _, _, h, _ => absurd h (by omega)
  | f + 1, u, acc, 0, hu, hb, hl, _, hj => by omega
  | f + 1, u, acc, j + 1, hu, hb, hl, _, hj => by
    unfold spec_PutNum.l0
    by_cases h : 128 ≤ u
    · have hf : 0 < f := by
        rcases Nat.eq_zero_or_pos f with rfl | h'
        · simp at hu; omega
        · exact h'
      obtain ⟨p, e, e1, e2⟩ := sput f (u / 128) (acc ++ [((u % 128 + 128 : Nat) : Int)]) j (by rw [Nat.pow_succ] at hu; exact Nat.div_lt_of_lt_mul (by rw [Nat.mul_comm]; exact hu)) (by omega) (by simp; omega) hf (by omega)
      refine ⟨p, ?_, e1, ?_⟩
      · rw [decide_eq_true (by omega : (128 : Int) ≤ (u : Int)), nz_some (by omega : (128 : Int) ≠ 0)]
        simp only [cond_true, Option.bind_some]
        rw [app_ok (by simp; omega), u8w, u64w, u64w, Int.tmod_eq_emod_of_nonneg (by omega), Int.tdiv_eq_ediv_of_nonneg (by omega)]
        simp only [Option.bind_some]
        rw [show (((u : Int) / 128) % 18446744073709551616) = ((u / 128 : Nat) : Int) by omega, show ((((u : Int) % 128 + 128) % 18446744073709551616) % 256) = ((u % 128 + 128 : Nat) : Int) by omega]
        exact e
      · rw [e2, List.append_assoc]
        simp [groups, h]
    · refine ⟨((u : Int), acc), ?_, by show acc.length ≤ 100; omega, ?_⟩
      · rw [decide_eq_false (by omega : ¬ ((128 : Int) ≤ (u : Int)))]
        rfl
      · show acc ++ [IntKind.wrap .u8 (u : Int)] = _
        rw [u8w, show ((u : Int) % 256) = (u : Int) by omega]
        simp [groups, h]
theorem sPutNum (n : Int) (h : Num n) : Ever fun k => spec_PutNum k n = some (putOf n) := by
  refine Ever.ge 10 fun k hk => ?_
  have hz := zig_lt h
  obtain ⟨p, e, e1, e2⟩ := sput 10 (zig n) [] k (by omega) hz (by simp) (by omega) (by omega)
  unfold spec_PutNum
  rw [sFold n h]
  simp only [Option.bind_some]
  rw [e]
  simp only [Option.bind_some]
  rw [app_ok (by simp; omega), e2]
  rfl
theorem drop_cases (s : Str) (j : Nat) : (s.drop j = [] ∧ s.length ≤ j) ∨ ∃ h : j < s.length, s.drop j = s[j] :: s.drop (j + 1) := by
  by_cases h : j < s.length
  · exact .inr ⟨h, List.drop_eq_getElem_cons h⟩
  · exact .inl ⟨List.drop_eq_nil_of_le (by omega), by omega⟩
theorem sgn (s : Str) (hs : s.length ≤ 140737488351232) (a : Nat) (ha : a < 9223372036854775000) : ∀ (f i u j : Nat), i + f = 10 → i ≤ 9 → u < 128 ^ i → (0 < i → a + i ≤ s.length) → f < j → spec_GetNum.l0 j s (a : Int) (u : Int) (i : Int) 0 0 0 = some (.inr (fin a (gn f i u (s.drop (a + i)))))
  | f, i, u, 0, _, _, _, _, h => absurd h (Nat.not_lt_zero f)
  | 0, i, u, j + 1, hf, h9, hu, hz, _ => by omega
  | f + 1, i, u, j + 1, hf, hi9, hu, hz, hj => by
    unfold spec_GetNum.l0
    rw [decide_eq_true (by omega : (i : Int) < 10), w64 (n := (s.length : Int) - (i : Int)) (by omega) (by omega), cond_true]
    rcases drop_cases s (a + i) with ⟨hd, hlen⟩ | ⟨hlt, hd⟩
    · rw [decide_eq_true (by omega : (s.length : Int) - (i : Int) ≤ (a : Int)), hd]
      rfl
    · rw [decide_eq_false (by omega : ¬ ((s.length : Int) - (i : Int) ≤ (a : Int))), w64 (n := (a : Int) + (i : Int)) (by omega) (by omega), show ((a : Int) + (i : Int)) = ((a + i : Nat) : Int) by omega]
      simp only [cond_false]
      rw [at_nat hlt, hd]
      simp only [Option.bind_some, gn]
      have hb := byte_lt s[a + i]
      have ih := fun u' => sgn s hs a ha f (i + 1) u' j
      generalize s[a + i].toNat = b at hb ⊢
      rw [u64w (b : Int), show ((b : Int) % 18446744073709551616) = (b : Int) by omega, beqd, nz_some (by omega : (128 : Int) ≠ 0)]
      by_cases h9 : i = 9 ∧ 1 < b
      · rw [decide_eq_true (by omega : (i : Int) = 9), decide_eq_true (by omega : (1 : Int) < (b : Int)), if_pos h9]
        rfl
      · rw [if_neg h9, show (decide ((i : Int) = 9) && decide ((1 : Int) < (b : Int))) = false by
          by_cases h : i = 9
          · rw [decide_eq_false (by omega : ¬ ((1 : Int) < (b : Int))), Bool.and_false]
          · rw [decide_eq_false (by omega : ¬ ((i : Int) = 9))]; rfl]
        have hb9 : i = 9 → b ≤ 1 := fun h => by
          rcases Nat.lt_or_ge 1 b with h1 | h1
          · exact absurd ⟨h, h1⟩ h9
          · exact h1
        have hsl := sum_lt (b := b) (show i ≤ 9 by omega) hu hb9
        have hv : IntKind.wrap .u64 ((u : Int) + shl .u64 (Int.tmod (b : Int) 128) (IntKind.wrap .u64 (IntKind.wrap .i64 (7 * (i : Int))))) = ((u + b % 128 * 128 ^ i : Nat) : Int) := by
          rw [w64 (by omega) (by omega), u64w (7 * (i : Int)), show (7 * (i : Int)) % 18446744073709551616 = ((7 * i : Nat) : Int) by omega, Int.tmod_eq_emod_of_nonneg (by omega), show (b : Int) % 128 = ((b % 128 : Nat) : Int) by omega, shl_eq (by omega) hb9, u64w]
          omega
        have hn : nneg? (IntKind.wrap .u64 (IntKind.wrap .i64 (7 * (i : Int)))) = some () := nneg_some (by rw [u64w]; omega)
        simp only [cond_false, Option.bind_some]
        rw [hn]
        simp only [Option.bind_some]
        rw [hv]
        by_cases h128 : 128 ≤ b
        · have hi8 : i ≤ 8 := by
            by_cases h : i = 9
            · have := hb9 h; omega
            · omega
          rw [decide_eq_false (by omega : ¬ ((b : Int) < 128)), if_pos h128, cond_false, wsuc (by omega), show a + i + 1 = a + (i + 1) by omega]
          exact ih _ (by omega) (by omega) (step_lt hi8 hu) (fun _ => by omega) (by omega)
        · rw [decide_eq_true (by omega : ((b : Int) < 128)), if_neg h128, cond_true, beqd]
          by_cases h0 : b = 0 ∧ 0 < i
          · rw [decide_eq_true (by omega : (b : Int) = 0), decide_eq_true (by omega : (0 : Int) < (i : Int)), if_pos h0]
            rfl
          · rw [if_neg h0, show (decide ((b : Int) = 0) && decide ((0 : Int) < (i : Int))) = false by
              by_cases h : b = 0
              · rw [decide_eq_false (by omega : ¬ ((0 : Int) < (i : Int))), Bool.and_false]
              · rw [decide_eq_false (by omega : ¬ ((b : Int) = 0))]; rfl]
            generalize u + b % 128 * 128 ^ i = v at hsl
            have e2 : IntKind.wrap .i64 (IntKind.wrap .u64 (Int.tdiv (v : Int) 2)) = ((v / 2 : Nat) : Int) := by
              rw [Int.tdiv_eq_ediv_of_nonneg (by omega), u64w, w64 (by omega) (by omega)]
              omega
            rw [cond_false, nz_some (by omega : (2 : Int) ≠ 0)]
            simp only [Option.bind_some]
            rw [wsuc (by omega), e2, Int.tmod_eq_emod_of_nonneg (by omega), beqd]
            unfold fin unz
            by_cases hp : v % 2 = 1
            · rw [decide_eq_true (by omega : (v : Int) % 2 = 1), if_pos hp, w64 (n := 0 - ((v / 2 : Nat) : Int)) (by omega) (by omega), w64 (by omega) (by omega), cond_true, show (0 - ((v / 2 : Nat) : Int) - 1) = -((v / 2 : Nat) : Int) - 1 by omega]
              rfl
            · rw [decide_eq_false (by omega : ¬ ((v : Int) % 2 = 1)), if_neg hp]
              rfl
theorem ign (s : Str) (hs : s.length ≤ 140737488351232) (a : Nat) (ha : a < 9223372036854775000) : ∀ (f i u j : Nat), i + f = 10 → i ≤ 9 → u < 128 ^ i → (0 < i → a + i ≤ s.length) → f < j → impl_getNum.l0 j s (a : Int) (u : Int) (i : Int) = some (fin a (gn f i u (s.drop (a + i))))
  | f, i, u, 0, _, _, _, _, h => absurd h (Nat.not_lt_zero f)
  | 0, i, u, j + 1, hf, h9, hu, hz, _ => by omega
  | f + 1, i, u, j + 1, hf, hi9, hu, hz, hj => by
    unfold impl_getNum.l0
    rw [w64 (n := (s.length : Int) - (i : Int)) (by omega) (by omega)]
    rcases drop_cases s (a + i) with ⟨hd, hlen⟩ | ⟨hlt, hd⟩
    · rw [decide_eq_true (by omega : (s.length : Int) - (i : Int) ≤ (a : Int)), hd]
      rfl
    · rw [decide_eq_false (by omega : ¬ ((s.length : Int) - (i : Int) ≤ (a : Int))), w64 (n := (a : Int) + (i : Int)) (by omega) (by omega), show ((a : Int) + (i : Int)) = ((a + i : Nat) : Int) by omega]
      simp only [cond_false]
      rw [at_nat hlt, hd]
      simp only [Option.bind_some, gn]
      have hb := byte_lt s[a + i]
      have ih := fun u' => ign s hs a ha f (i + 1) u' j
      generalize s[a + i].toNat = b at hb ⊢
      rw [beqd]
      by_cases h9 : i = 9 ∧ 1 < b
      · rw [decide_eq_true (by omega : (i : Int) = 9), decide_eq_true (by omega : (1 : Int) < (b : Int)), if_pos h9]
        rfl
      · rw [if_neg h9, show (decide ((i : Int) = 9) && decide ((1 : Int) < (b : Int))) = false by
          by_cases h : i = 9
          · rw [decide_eq_false (by omega : ¬ ((1 : Int) < (b : Int))), Bool.and_false]
          · rw [decide_eq_false (by omega : ¬ ((i : Int) = 9))]; rfl]
        have hb9 : i = 9 → b ≤ 1 := fun h => by
          rcases Nat.lt_or_ge 1 b with h1 | h1
          · exact absurd ⟨h, h1⟩ h9
          · exact h1
        have hsl := sum_lt (b := b) (show i ≤ 9 by omega) hu hb9
        have hv : intBits .or .u64 (u : Int) (shl .u64 (IntKind.wrap .u64 (intBits .and .u8 (b : Int) 127)) (IntKind.wrap .i64 (7 * (i : Int)))) = ((u + b % 128 * 128 ^ i : Nat) : Int) := by
          rw [and127 b hb, u64w, show ((b % 128 : Nat) : Int) % 18446744073709551616 = ((b % 128 : Nat) : Int) by omega, w64 (by omega) (by omega), show (7 * (i : Int)) = ((7 * i : Nat) : Int) by omega, shl_eq (by omega) hb9, bor64 _ _ (by have := pow_le9 (show i ≤ 9 by omega); omega) (term_lt (by omega) hb9), or_sum hu]
        have hn : nneg? (IntKind.wrap .i64 (7 * (i : Int))) = some () := nneg_some (by rw [w64 (by omega) (by omega)]; omega)
        simp only [cond_false, Option.bind_some]
        rw [hn]
        simp only [Option.bind_some]
        rw [hv]
        by_cases h128 : 128 ≤ b
        · have hi8 : i ≤ 8 := by
            by_cases h : i = 9
            · have := hb9 h; omega
            · omega
          rw [decide_eq_true (by omega : ((127 : Int) < (b : Int))), if_pos h128, cond_true, wsuc (by omega), show a + i + 1 = a + (i + 1) by omega]
          exact ih _ (by omega) (by omega) (step_lt hi8 hu) (fun _ => by omega) (by omega)
        · rw [decide_eq_false (by omega : ¬ ((127 : Int) < (b : Int))), if_neg h128, cond_false, beqd]
          by_cases h0 : b = 0 ∧ 0 < i
          · rw [decide_eq_true (by omega : (b : Int) = 0), decide_eq_true (by omega : (0 : Int) < (i : Int)), if_pos h0]
            rfl
          · rw [if_neg h0, show (decide ((b : Int) = 0) && decide ((0 : Int) < (i : Int))) = false by
              by_cases h : b = 0
              · rw [decide_eq_false (by omega : ¬ ((0 : Int) < (i : Int))), Bool.and_false]
              · rw [decide_eq_false (by omega : ¬ ((b : Int) = 0))]; rfl]
            generalize u + b % 128 * 128 ^ i = v at hsl
            have e2 : shr .u64 (v : Int) 1 = ((v / 2 : Nat) : Int) := shr_nat .u64 v 1 (by decide)
            rw [cond_false, nneg_some (by omega : (0 : Int) ≤ 1)]
            simp only [Option.bind_some]
            rw [wsuc (by omega), e2, band64 v hsl, w64 (n := ((v / 2 : Nat) : Int)) (by omega) (by omega), beqd]
            unfold fin unz
            by_cases hp : v % 2 = 1
            · rw [decide_eq_true (by omega : ((v % 2 : Nat) : Int) = 1), if_pos hp, noti64 _ (by omega)]
              rfl
            · rw [decide_eq_false (by omega : ¬ (((v % 2 : Nat) : Int) = 1)), if_neg hp]
              rfl
section
variable (s : Str) (a : Nat) (ha : a < 9223372036854775000)
include ha
theorem iGet (hs : s.length ≤ 140737488351232) : Ever fun k => impl_getNum k s (a : Int) = some (getNumZ s a) := by
  refine Ever.ge 11 fun k hk => ?_
  have h := ign s hs a ha 10 0 0 k rfl (by omega) (by omega) (fun h => absurd h (by omega)) (by omega)
  have h : impl_getNum.l0 k s (a : Int) 0 0 = some (getNumZ s a) := h
  unfold impl_getNum
  rw [decide_eq_false (by omega : ¬ ((a : Int) < 0)), h]
  rfl
theorem sGet (hs : s.length ≤ 8000) : Ever fun k => spec_GetNum k s (a : Int) = some (getNumZ s a) := by
  refine Ever.ge 11 fun k hk => ?_
  have h := sgn s (by omega) a ha 10 0 0 k rfl (by omega) (by omega) (fun h => absurd h (by omega)) (by omega)
  have h : spec_GetNum.l0 k s (a : Int) 0 0 0 0 0 = some (.inr (getNumZ s a)) := h
  unfold spec_GetNum
  rw [decide_eq_false (by omega : ¬ (8000 < (s.length : Int))), decide_eq_false (by omega : ¬ ((a : Int) < 0)), h]
  rfl
theorem iNum (hs : s.length ≤ 140737488351232) : Ever fun k => impl_reader_num k (s, ((a : Int), false)) = some (numR s a) := by
  refine (iGet s a ha hs).mono fun k h => ?_
  unfold impl_reader_num numR
  rw [h]
  rcases num_cases s a with ⟨n, a', e, g⟩ | ⟨c, hc, e⟩
  · rw [e]; rfl
  · rw [e, if_neg hc]
    simp only [Option.bind_some]
    rw [show (c != 0) = true by simpa using hc]
    rfl
theorem sNum (hs : s.length ≤ 8000) : Ever fun k => spec_l06Reader_num k (s, ((a : Int), false)) = some (numR s a) := by
  refine (sGet s a ha hs).mono fun k h => ?_
  unfold spec_l06Reader_num numR
  rw [h]
  rcases num_cases s a with ⟨n, a', e, g⟩ | ⟨c, hc, e⟩
  · rw [e]; rfl
  · rw [e, if_neg hc]
    simp only [Option.bind_some]
    rw [show (c != 0) = true by simpa using hc]
    rfl
theorem sNumF (hs : s.length ≤ 8000) : Ever fun k => spec_l06Reader_num k (s, ((a : Int), true)) = some (0, s, (a : Int), true) := by
  refine (sGet s a ha hs).mono fun k h => ?_
  unfold spec_l06Reader_num
  rw [h]
  rfl
theorem iNumF (hs : s.length ≤ 140737488351232) : ∃ (n : Int) (a' : Nat), (Ever fun k => impl_reader_num k (s, ((a : Int), true)) = some (n, s, (a' : Int), true)) ∧ a' ≤ max a s.length := by
  rcases num_cases s a with ⟨n, a', e, g⟩ | ⟨c, hc, e⟩
  · refine ⟨n, a', (iGet s a ha hs).mono fun k h => ?_, ?_⟩
    · unfold impl_reader_num
      rw [h, e]
      rfl
    · have := g.le; omega
  · refine ⟨0, a, (iGet s a ha hs).mono fun k h => ?_, by omega⟩
    unfold impl_reader_num
    rw [h, e]
    simp only [Option.bind_some]
    rw [show (c != 0) = true by simpa using hc]
    rfl
end
end Go.Proofs.YtnmbinfgcgjfbaaE

namespace Go.Proofs.YtnmbinfgcgjfbaaE
open Go
set_option linter.unusedVariables false
theorem or128 : ∀ a : Nat, a < 256 → intBits .or .u8 ((a : Nat) : Int) 128 = ((a % 128 + 128 : Nat) : Int) := by decide +kernel
theorem iput : ∀ (f u : Nat) (acc : List Int) (j : Nat), u < 128 ^ f → u < 18446744073709551616 → acc.length + f ≤ 100 → 0 < f → f < j + 1 → ∃ p : Int × List Int, impl_putNum.l1 j (u : Int) acc = some p ∧ p.2.length ≤ 100 ∧ p.2 ++ [IntKind.wrap .u8 p.1] = acc ++ groups f u
  | 0, _, _, _, _, _, _, h, _ => absurd h (by omega)
  | f + 1, u, acc, 0, hu, hb, hl, _, hj => by omega
  | f + 1, u, acc, j + 1, hu, hb, hl, _, hj => by
    unfold impl_putNum.l1
    by_cases h : 128 ≤ u
    · have hf : 0 < f := by
        rcases Nat.eq_zero_or_pos f with rfl | h'
        · simp at hu; omega
        · exact h'
      obtain ⟨p, e, e1, e2⟩ := iput f (u / 128) (acc ++ [((u % 128 + 128 : Nat) : Int)]) j (by rw [Nat.pow_succ] at hu; exact Nat.div_lt_of_lt_mul (by rw [Nat.mul_comm]; exact hu)) (by omega) (by simp; omega) hf (by omega)
      refine ⟨p, ?_, e1, ?_⟩
      · have e3 : intBits .or .u8 (IntKind.wrap .u8 (u : Int)) 128 = ((u % 128 + 128 : Nat) : Int) := by
          rw [u8w, show (u : Int) % 256 = ((u % 256 : Nat) : Int) by omega, or128 _ (by omega)]
          congr 1
          omega
        have e4 : shr .u64 (u : Int) 7 = ((u / 128 : Nat) : Int) := shr_nat .u64 u 7 (by decide)
        rw [decide_eq_true (by omega : (127 : Int) < (u : Int)), e3, e4]
        simp only [cond_true]
        rw [app_ok (by simp; omega), nneg_some (by omega)]
        exact e
      · rw [e2, List.append_assoc]
        simp [groups, h]
    · refine ⟨((u : Int), acc), ?_, by show acc.length ≤ 100; omega, ?_⟩
      · rw [decide_eq_false (by omega : ¬ ((127 : Int) < (u : Int)))]
        rfl
      · show acc ++ [IntKind.wrap .u8 (u : Int)] = _
        rw [u8w, show ((u : Int) % 256) = (u : Int) by omega]
        simp [groups, h]
theorem not64 (a : Nat) (h : a < 18446744073709551616) : intBits .xor .u64 (IntKind.max .u64) (a : Int) = ((18446744073709551615 - a : Nat) : Int) := by
  show IntKind.wrap .u64 (((BitVec.ofInt 64 ((18446744073709551615 : Nat) : Int)) ^^^ (BitVec.ofInt 64 (a : Int))).toNat : Int) = _
  have e : (BitVec.ofNat 64 18446744073709551615) = BitVec.allOnes 64 := by decide
  rw [BitVec.ofInt_natCast, BitVec.ofInt_natCast, e, BitVec.allOnes_xor, BitVec.toNat_not, BitVec.toNat_ofNat, u64w, Nat.mod_eq_of_lt (show a < 2 ^ 64 by omega)]
  omega
theorem iPutNum (n : Int) (h : Num n) : Ever fun k => impl_putNum k n = some (putOf n) := by
  refine Ever.ge 10 fun k hk => ?_
  have hz := zig_lt h
  obtain ⟨p, e, e1, e2⟩ := iput 10 (zig n) [] k (by omega) hz (by simp) (by omega) (by omega)
  have hs : impl_putNum.j0 n (shl .u64 (IntKind.wrap .u64 n) 1) = some ((zig n : Nat) : Int) := by
    unfold Num at h
    have e0 : shl .u64 (IntKind.wrap .u64 n) 1 = (2 * n) % 18446744073709551616 := by
      have : shl .u64 (IntKind.wrap .u64 n) 1 = IntKind.wrap .u64 (IntKind.wrap .u64 n * 2) := rfl
      rw [this, u64w, u64w]
      omega
    unfold impl_putNum.j0
    rw [e0]
    by_cases hn : n < 0
    · rw [decide_eq_true hn, show (2 * n) % 18446744073709551616 = ((18446744073709551616 + 2 * n).toNat : Int) by omega, cond_true, not64 _ (by omega)]
      congr 1
      unfold zig
      rw [if_pos hn]
      omega
    · rw [decide_eq_false hn, cond_false]
      congr 1
      unfold zig
      rw [if_neg hn]
      omega
  unfold impl_putNum
  rw [nneg_some (by omega), hs]
  simp only [Option.bind_some]
  rw [e]
  simp only [Option.bind_some]
  rw [app_ok (by simp; omega), e2]
  rfl
/-- Several numbers' encodings. -/
def putsOf : List Int → Str
  | [] => []
  | n :: l => putOf n ++ putsOf l
theorem putsOf_len : ∀ l : List Int, (putsOf l).length ≤ 10 * l.length
  | [] => Nat.zero_le _
  | n :: l => by
    have := putOf_len n
    have := putsOf_len l
    simp only [putsOf, List.length_append, List.length_cons]
    omega
theorem iPutNums (l : List Int) (hw : ∀ n ∈ l, Num n) (hl : l.length ≤ 1000000) : Ever fun k => impl_putNums k l = some (putsOf l) := by
  have hp : Ever fun k => ∀ i, i < l.length → ∀ n, l[i]? = some n → impl_putNum k n = some (putOf n) := Ever.all fun i hi => (iPutNum l[i] (hw _ (List.getElem_mem hi))).mono fun k h n hn => by
    rw [List.getElem?_eq_getElem hi] at hn
    cases hn
    exact h
  have key : ∀ (d i : Nat) (acc : Str), l.length - i = d → i ≤ l.length → acc.length ≤ 10 * i → Ever fun k => ∀ j, d < j → impl_putNums.l0 k j acc l (l.length : Int) (i : Int) = some (acc ++ putsOf (l.drop i)) := by
    intro d
    induction d with
    | zero =>
      intro i acc hd hi ha
      refine Ever.of fun k j hj => ?_
      obtain ⟨j, rfl⟩ : ∃ m, j = m + 1 := ⟨j - 1, by omega⟩
      unfold impl_putNums.l0
      rw [decide_eq_false (by omega : ¬ ((i : Int) < (l.length : Int))), List.drop_eq_nil_of_le (by omega)]
      simp only [cond_false, putsOf, List.append_nil]
    | succ d ih =>
      intro i acc hd hi ha
      have hlt : i < l.length := by omega
      have := putOf_len l[i]
      refine (hp.and (ih (i + 1) (acc ++ putOf l[i]) (by omega) (by omega) (by rw [List.length_append]; omega))).mono fun k ⟨h1, h2⟩ j hj => ?_
      obtain ⟨j, rfl⟩ : ∃ m, j = m + 1 := ⟨j - 1, by omega⟩
      unfold impl_putNums.l0
      rw [decide_eq_true (by omega : (i : Int) < (l.length : Int)), at_nat hlt]
      simp only [cond_true, Option.bind_some]
      rw [h1 i hlt _ (List.getElem?_eq_getElem hlt)]
      simp only [Option.bind_some]
      rw [cat_some (by omega)]
      simp only [Option.bind_some]
      rw [wsuc (by omega), h2 j (by omega), List.drop_eq_getElem_cons hlt, putsOf, List.append_assoc]
  obtain ⟨K, h⟩ := key l.length 0 [] (by omega) (by omega) (by simp)
  refine Ever.ge (K + l.length + 1) fun k hk => ?_
  have h := h k (by omega) k (by omega)
  have h : impl_putNums.l0 k k [] l (l.length : Int) 0 = some (putsOf l) := h
  unfold impl_putNums
  rw [h]
  rfl
end Go.Proofs.YtnmbinfgcgjfbaaE

namespace Go.Proofs.YtnmbinfgcgjfbaaE
open Go
set_option linter.unusedVariables false
def trustB (t : G36) : Bool := (decide (0 ≤ t.1) && decide (t.1 ≤ 1000000)) && (decide (0 ≤ t.2) && decide (t.2 ≤ t.1))
def offerB (o : G38) : Bool := (decide (1 ≤ o.1) && decide (o.1 ≤ 1000000)) && ((decide (0 ≤ o.2.1) && decide (o.2.1 ≤ o.1)) && ((o.2.2.length : Int) == 32))
theorem trustB_is {t : G36} (h : trustB t = true) : (0 ≤ t.1 ∧ t.1 ≤ 1000000) ∧ 0 ≤ t.2 ∧ t.2 ≤ t.1 := by
  unfold trustB at h
  simpa only [Bool.and_eq_true, decide_eq_true_eq] using h
theorem offerB_is {o : G38} (h : offerB o = true) : (1 ≤ o.1 ∧ o.1 ≤ 1000000) ∧ (0 ≤ o.2.1 ∧ o.2.1 ≤ o.1) := by
  unfold offerB at h
  simp only [Bool.and_eq_true, decide_eq_true_eq] at h
  exact ⟨h.1, h.2.1⟩
theorem sTrust (t : G36) : spec_TrustRight t = some (trustB t) := by
  unfold spec_TrustRight spec_l03Is trustB
  simp only [Option.bind_some]
  cases (decide (0 ≤ t.1) && decide (t.1 ≤ 1000000)) <;> rfl
theorem iTrust (t : G36) : impl_isTrust t = some (trustB t) := by
  unfold impl_isTrust impl_isTime impl_within trustB
  simp only [Option.bind_some]
  cases (decide (0 ≤ t.1) && decide (t.1 ≤ 1000000)) <;> rfl
theorem sOffer (o : G38) : spec_OfferRight o = some (offerB o) := by
  unfold spec_OfferRight spec_l03Is offerB
  simp only [Option.bind_some]
  cases (decide (1 ≤ o.1) && decide (o.1 ≤ 1000000)) <;> rfl
theorem iOffer (o : G38) : impl_isOffer o = some (offerB o) := by
  unfold impl_isOffer impl_within offerB
  simp only [Option.bind_some]
  cases (decide (1 ≤ o.1) && decide (o.1 ≤ 1000000)) <;> rfl
/-- The code of an offer. -/
def codeZ (t : G36) (o : G38) : Int := if trustB t = true then if offerB o = true then if o.1 < t.2 then 8 else if o.1 = t.1 then 7 else 0 else 1 else 1
theorem sCode (t : G36) (o : G38) : spec_OfferCode t o = some (codeZ t o) := by
  unfold spec_OfferCode codeZ
  rw [sTrust, sOffer]
  simp only [Option.bind_some, beqd]
  by_cases h1 : o.1 < t.2
  · rw [if_pos h1, decide_eq_true h1]
    cases trustB t <;> cases offerB o <;> rfl
  · rw [if_neg h1, decide_eq_false h1]
    by_cases h2 : o.1 = t.1
    · rw [if_pos h2, decide_eq_true h2]
      cases trustB t <;> cases offerB o <;> rfl
    · rw [if_neg h2, decide_eq_false h2]
      cases trustB t <;> cases offerB o <;> rfl
theorem iCode (t : G36) (o : G38) : impl_offerCode t o = some (codeZ t o) := by
  unfold impl_offerCode codeZ
  rw [iTrust, iOffer]
  simp only [Option.bind_some, beqd]
  by_cases h1 : o.1 < t.2
  · rw [if_pos h1, decide_eq_true h1]
    cases trustB t <;> cases offerB o <;> rfl
  · rw [if_neg h1, decide_eq_false h1]
    by_cases h2 : o.1 = t.1
    · rw [if_pos h2, decide_eq_true h2]
      cases trustB t <;> cases offerB o <;> rfl
    · rw [if_neg h2, decide_eq_false h2]
      cases trustB t <;> cases offerB o <;> rfl
def settleZ (t : G36) (o : G38) (g : Bool) : Int × Int × Int := if codeZ t o = 0 then if g = true then (o.1, imax t.2 o.2.1, 0) else (t.1, t.2, 0) else (0, 0, codeZ t o)
theorem sSettle (t : G36) (o : G38) (g : Bool) : spec_Settle t o g = some (settleZ t o g) := by
  unfold spec_Settle settleZ
  rw [sCode]
  simp only [Option.bind_some]
  by_cases h : codeZ t o = 0
  · rw [if_pos h, h]
    cases g with
    | false => rfl
    | true =>
      unfold spec_l03Max imax
      by_cases hm : o.2.1 < t.2
      · simp [hm]; omega
      · by_cases he : o.2.1 > t.2
        · simp [hm, he]
        · have : o.2.1 = t.2 := by omega
          simp [this]
  · rw [if_neg h, show (codeZ t o != 0) = true by simpa using h]
    rfl
theorem iSettle (t : G36) (o : G38) (g : Bool) : impl_Settle t o g = some (settleZ t o g) := by
  unfold impl_Settle settleZ
  rw [iCode]
  simp only [Option.bind_some]
  by_cases h : codeZ t o = 0
  · rw [if_pos h, h]
    cases g <;> rfl
  · rw [if_neg h, show (codeZ t o != 0) = true by simpa using h]
    rfl
def trustBytes (t : G36) : Str := if trustB t = true then sealOf (putOf t.1 ++ putOf t.2) else []
theorem trustBytes_len (t : G36) : (trustBytes t).length ≤ 24 := by
  unfold trustBytes
  split
  · have := putOf_len t.1
    have := putOf_len t.2
    rw [sealOf_len, List.length_append]
    omega
  · simp
theorem sBytes (t : G36) : Ever fun k => spec_TrustBytes k t = some (trustBytes t) := by
  unfold trustBytes
  by_cases h : trustB t = true
  · have hb := trustB_is h
    have l1 := putOf_len t.1
    have l2 := putOf_len t.2
    refine (((sPutNum t.1 ⟨by omega, by omega⟩).and (sPutNum t.2 ⟨by omega, by omega⟩)).and (sSeal (putOf t.1 ++ putOf t.2) (by rw [List.length_append]; omega))).mono fun k ⟨⟨h1, h2⟩, h3⟩ => ?_
    unfold spec_TrustBytes
    rw [sTrust, h, if_pos rfl]
    simp only [Option.bind_some, Bool.not_true, cond_false]
    rw [h1, h2]
    simp only [Option.bind_some]
    rw [cat_some (by omega)]
    simp only [Option.bind_some]
    rw [h3]
    rfl
  · refine Ever.of fun k => ?_
    unfold spec_TrustBytes
    rw [sTrust, if_neg h, Bool.eq_false_iff.2 h]
    rfl
theorem iBytes (t : G36) : Ever fun k => impl_TrustBytes k t = some (trustBytes t) := by
  unfold trustBytes
  by_cases h : trustB t = true
  · have hb := trustB_is h
    have l1 := putOf_len t.1
    have l2 := putOf_len t.2
    refine ((iPutNums [t.1, t.2] (fun n hn => by
      have hn : n = t.1 ∨ n = t.2 := by simpa using hn
      unfold Num
      omega) (by simp)).and (iSeal (putOf t.1 ++ putOf t.2) (by rw [List.length_append]; omega))).mono fun k ⟨h1, h3⟩ => ?_
    have h1 : impl_putNums k [t.1, t.2] = some (putOf t.1 ++ (putOf t.2 ++ [])) := h1
    unfold impl_TrustBytes
    rw [iTrust, h, if_pos rfl]
    simp only [Option.bind_some, Bool.not_true, cond_false]
    rw [h1, List.append_nil]
    simp only [Option.bind_some]
    rw [h3]
    rfl
  · refine Ever.of fun k => ?_
    unfold impl_TrustBytes
    rw [iTrust, if_neg h, Bool.eq_false_iff.2 h]
    rfl
/-! ### reading -/
def pairZ (s : Str) : Option (Int × Int × Nat) :=
  if (numR s 0).2.2.2 = true then none else
  if (numR s (numR s 0).2.2.1.toNat).2.2.2 = true then none else
  some ((numR s 0).1, (numR s (numR s 0).2.2.1.toNat).1, (numR s (numR s 0).2.2.1.toNat).2.2.1.toNat)
theorem pair_got {s : Str} {x y : Int} {d : Nat} (h : pairZ s = some (x, y, d)) : ∃ a, Got s 0 x a ∧ Got s a y d := by
  unfold pairZ at h
  rcases numR_cases s 0 with ⟨x', a, e1, g1⟩ | e1
  · rw [e1] at h
    simp only [Int.toNat_natCast, Bool.false_eq_true, if_false] at h
    rcases numR_cases s a with ⟨y', b, e2, g2⟩ | e2
    · rw [e2] at h
      simp only [Int.toNat_natCast, Bool.false_eq_true, if_false, Option.some.injEq, Prod.mk.injEq] at h
      obtain ⟨rfl, rfl, rfl⟩ := h
      exact ⟨a, g1, g2⟩
    · rw [e2] at h; simp at h
  · rw [e1] at h; simp at h
theorem pair_whole {s : Str} {x y : Int} {a d : Nat} (g1 : Got s 0 x a) (g2 : Got s a y d) : putOf x ++ putOf y = s ↔ d = s.length := by
  have e1 := g1.eq
  have e2 := g2.eq
  rw [List.drop_zero] at e1
  constructor
  · intro h
    have h1 := congrArg List.length h
    rw [List.length_append] at h1
    have := g1.at'; have := g2.at'
    omega
  · rintro rfl
    rw [List.drop_of_length_le (l := s) (i := s.length) (Nat.le_refl _), List.append_nil] at e2
    rw [← e2, ← e1]
def readZ (s : Str) : Int × Int × Int := if 8000 < s.length then (0, 0, 2) else if (unsealI s).2 = 0 then match pairZ (bodyOf s) with
    | some (x, y, d) => if d = (bodyOf s).length ∧ trustB (x, y) = true then (x, y, 0) else (0, 0, 3)
    | none => (0, 0, 3) else (0, 0, (unsealI s).2)
theorem sRead (s : Str) (hs : s.length ≤ 8000) : Ever fun k => spec_TrustRead k s = some (readZ s) := by
  unfold readZ
  by_cases hu : (unsealI s).2 = 0
  · obtain ⟨e1, e2, e3⟩ := unseal_ok hu
    have hbl : (bodyOf s).length ≤ 8000 := by rw [body_len]; omega
    have f0 := sNum (bodyOf s) 0 (by omega) hbl
    rcases numR_cases (bodyOf s) 0 with ⟨x, a, n1, g1⟩ | n1
    · have l1 := g1.le
      have f1 := sNum (bodyOf s) a (by omega) hbl
      rcases numR_cases (bodyOf s) a with ⟨y, b, n2, g2⟩ | n2
      · have hq : pairZ (bodyOf s) = some (x, y, b) := by unfold pairZ; simp [n1, n2]
        refine ((((sUnseal s hs).and f0).and f1).and (sBytes (x, y))).mono fun k ⟨⟨⟨h0, h1⟩, h2⟩, h3⟩ => ?_
        have h1 : spec_l06Reader_num k (bodyOf s, (0, false)) = some (numR (bodyOf s) 0) := h1
        unfold spec_TrustRead
        rw [if_neg (by omega), if_pos hu, hq, h0, e1]
        simp only [Option.bind_some]
        rw [show ((0 : Int) != 0) = false from rfl, cond_false, h1]
        simp only [Option.bind_some]
        rw [n1]
        simp only
        rw [h2]
        simp only [Option.bind_some]
        rw [n2]
        simp only [cond_false]
        rw [h3]
        simp only [Option.bind_some, beq_str]
        unfold trustBytes
        by_cases hr : trustB (x, y) = true
        · rw [if_pos hr]
          by_cases hd : b = (bodyOf s).length
          · have : sealOf (putOf x ++ putOf y) = s := by rw [(pair_whole g1 g2).2 hd, e2]
            rw [decide_eq_true this, if_pos ⟨hd, hr⟩]
            rfl
          · rw [decide_eq_false (fun q => hd ((pair_whole g1 g2).1 (seal_inj.1 (q.trans e2.symm)))), if_neg (fun q => hd q.1)]
            rfl
        · have : ¬ (([] : Str) = s) := by rintro rfl; simp at e3
          rw [if_neg hr, if_neg (fun q => hr q.2), decide_eq_false this]
          rfl
      · have hq : pairZ (bodyOf s) = none := by unfold pairZ; simp [n1, n2]
        refine (((sUnseal s hs).and f0).and f1).mono fun k ⟨⟨h0, h1⟩, h2⟩ => ?_
        have h1 : spec_l06Reader_num k (bodyOf s, (0, false)) = some (numR (bodyOf s) 0) := h1
        unfold spec_TrustRead
        rw [if_neg (by omega), if_pos hu, hq, h0, e1]
        simp only [Option.bind_some]
        rw [show ((0 : Int) != 0) = false from rfl, cond_false, h1]
        simp only [Option.bind_some]
        rw [n1]
        simp only
        rw [h2]
        simp only [Option.bind_some]
        rw [n2]
        rfl
    · have f1 := sNumF (bodyOf s) 0 (by omega) hbl
      have hq : pairZ (bodyOf s) = none := by unfold pairZ; simp [n1]
      refine (((sUnseal s hs).and f0).and f1).mono fun k ⟨⟨h0, h1⟩, h2⟩ => ?_
      have h1 : spec_l06Reader_num k (bodyOf s, (0, false)) = some (numR (bodyOf s) 0) := h1
      unfold spec_TrustRead
      rw [if_neg (by omega), if_pos hu, hq, h0, e1]
      simp only [Option.bind_some]
      rw [show ((0 : Int) != 0) = false from rfl, cond_false, h1]
      simp only [Option.bind_some]
      rw [n1]
      simp only
      rw [h2]
      rfl
  · refine (sUnseal s hs).mono fun k h0 => ?_
    unfold spec_TrustRead
    rw [if_neg (by omega), if_neg hu, h0]
    simp only [Option.bind_some]
    rw [show ((unsealI s).2 != 0) = true by simpa using hu]
    rfl
theorem iRead (s : Str) (hs : s.length ≤ 8000) : Ever fun k => impl_TrustRead k s = some (readZ s) := by
  unfold readZ
  by_cases hu : (unsealI s).2 = 0
  · obtain ⟨e1, e2, e3⟩ := unseal_ok hu
    have hbl : (bodyOf s).length ≤ 8000 := by rw [body_len]; omega
    have f0 := iNum (bodyOf s) 0 (by omega) (by omega)
    rcases numR_cases (bodyOf s) 0 with ⟨x, a, n1, g1⟩ | n1
    · have l1 := g1.le
      have f1 := iNum (bodyOf s) a (by omega) (by omega)
      refine (((iUnseal s (by omega)).and f0).and f1).mono fun k ⟨⟨h0, h1⟩, h2⟩ => ?_
      have h1 : impl_reader_num k (bodyOf s, (0, false)) = some (numR (bodyOf s) 0) := h1
      unfold impl_TrustRead
      rw [decide_eq_false (by omega : ¬ (8000 < (s.length : Int))), if_neg (by omega), if_pos hu, h0, e1]
      simp only [cond_false, Option.bind_some]
      rw [show ((0 : Int) != 0) = false from rfl, cond_false, h1]
      simp only [Option.bind_some]
      rw [n1]
      simp only
      rw [h2]
      simp only [Option.bind_some]
      rcases numR_cases (bodyOf s) a with ⟨y, b, n2, g2⟩ | n2
      · have hq : pairZ (bodyOf s) = some (x, y, b) := by unfold pairZ; simp [n1, n2]
        rw [hq, n2]
        simp only [Bool.false_or]
        rw [iTrust]
        by_cases hd : b = (bodyOf s).length
        · rw [show (((b : Nat) : Int) != ((bodyOf s).length : Int)) = false by rw [hd]; simp]
          simp only [cond_false, Option.bind_some]
          by_cases hr : trustB (x, y) = true
          · rw [if_pos ⟨hd, hr⟩, hr]; rfl
          · rw [if_neg (fun q => hr q.2), Bool.eq_false_iff.2 hr]; rfl
        · rw [show (((b : Nat) : Int) != ((bodyOf s).length : Int)) = true by simp; omega, if_neg (fun q => hd q.1)]
          rfl
      · have hq : pairZ (bodyOf s) = none := by unfold pairZ; simp [n1, n2]
        rw [hq, n2]
        rfl
    · obtain ⟨m, b, f1, _⟩ := iNumF (bodyOf s) 0 (by omega) (by omega)
      have hq : pairZ (bodyOf s) = none := by unfold pairZ; simp [n1]
      refine (((iUnseal s (by omega)).and f0).and f1).mono fun k ⟨⟨h0, h1⟩, h2⟩ => ?_
      have h1 : impl_reader_num k (bodyOf s, (0, false)) = some (numR (bodyOf s) 0) := h1
      have h2 : impl_reader_num k (bodyOf s, (0, true)) = some (m, bodyOf s, ((b : Nat) : Int), true) := h2
      unfold impl_TrustRead
      rw [decide_eq_false (by omega : ¬ (8000 < (s.length : Int))), if_neg (by omega), if_pos hu, hq, h0, e1]
      simp only [cond_false, Option.bind_some]
      rw [show ((0 : Int) != 0) = false from rfl, cond_false, h1]
      simp only [Option.bind_some]
      rw [n1]
      have h2 : impl_reader_num k (bodyOf s, ((0 : Nat) : Int), true) = some (m, bodyOf s, ((b : Nat) : Int), true) := h2
      simp only
      rw [h2]
      rfl
  · refine (iUnseal s (by omega)).mono fun k h0 => ?_
    unfold impl_TrustRead
    rw [decide_eq_false (by omega : ¬ (8000 < (s.length : Int))), if_neg (by omega), if_neg hu, h0]
    simp only [cond_false, Option.bind_some]
    rw [show ((unsealI s).2 != 0) = true by simpa using hu]
    rfl
/-- What was encoded is read. -/
theorem read_bytes (t : G36) (h : trustB t = true) : readZ (trustBytes t) = (t.1, t.2, 0) := by
  have hb := trustB_is h
  have hl := trustBytes_len t
  have e : trustBytes t = sealOf (putOf t.1 ++ putOf t.2) := by unfold trustBytes; rw [if_pos h]
  unfold readZ
  rw [if_neg (by omega), e, unseal_seal, if_pos rfl, body_seal]
  have n1 : numR (putOf t.1 ++ putOf t.2) 0 = (t.1, putOf t.1 ++ putOf t.2, (((putOf t.1).length : Nat) : Int), false) := by
    have := get_put t.1 ⟨by omega, by omega⟩ (putOf t.1 ++ putOf t.2) 0 (putOf t.2) rfl
    unfold numR
    rw [this, Nat.zero_add]
    rfl
  have n2 : numR (putOf t.1 ++ putOf t.2) (putOf t.1).length = (t.2, putOf t.1 ++ putOf t.2, (((putOf t.1 ++ putOf t.2).length : Nat) : Int), false) := by
    have := get_put t.2 ⟨by omega, by omega⟩ (putOf t.1 ++ putOf t.2) (putOf t.1).length [] (by simp)
    unfold numR
    rw [this, List.length_append]
    rfl
  have hq : pairZ (putOf t.1 ++ putOf t.2) = some (t.1, t.2, (putOf t.1 ++ putOf t.2).length) := by
    unfold pairZ
    simp [n1, n2]
    omega
  rw [hq]
  exact if_pos ⟨rfl, h⟩
end Go.Proofs.YtnmbinfgcgjfbaaE

namespace Go.Proofs.YtnmbinfgcgjfbaaE
open Go
set_option linter.unusedVariables false
theorem loop_inv {S R : Type} (L : Nat → S → Option R) (m : S → Nat) (I : S → Prop) (Q : R → Prop) (step : ∀ s, I s → (∃ r, (∀ j, L (j + 1) s = some r) ∧ Q r) ∨ ∃ s', I s' ∧ m s' < m s ∧ ∀ j, L (j + 1) s = L j s') : ∀ (n : Nat) (s : S) (j : Nat), I s → m s ≤ n → n < j → ∃ r, L j s = some r ∧ Q r := by
  intro n
  induction n with
  | zero =>
    intro s j hi hm hj
    obtain ⟨j, rfl⟩ : ∃ q, j = q + 1 := ⟨j - 1, by omega⟩
    rcases step s hi with ⟨r, hr, hq⟩ | ⟨s', _, hm', _⟩
    · exact ⟨r, hr j, hq⟩
    · omega
  | succ n ih =>
    intro s j hi hm hj
    obtain ⟨j, rfl⟩ : ∃ q, j = q + 1 := ⟨j - 1, by omega⟩
    rcases step s hi with ⟨r, hr, hq⟩ | ⟨s', hi', hm', hs⟩
    · exact ⟨r, hr j, hq⟩
    · rw [hs j]
      exact ih s' j hi' (by omega) (by omega)
/-- The same, whatever the fuel. -/
theorem loop_uni {S R : Type} (L : Nat → S → Option R) (m : S → Nat) (I : S → Prop) (Q : R → Prop) (step : ∀ s, I s → (∃ r, (∀ j, L (j + 1) s = some r) ∧ Q r) ∨ ∃ s', I s' ∧ m s' < m s ∧ ∀ j, L (j + 1) s = L j s') : ∀ (n : Nat) (s : S), I s → m s ≤ n → ∃ r, Q r ∧ ∀ j, n < j → L j s = some r := by
  intro n
  induction n with
  | zero =>
    intro s hi hm
    rcases step s hi with ⟨r, hr, hq⟩ | ⟨s', _, hm', _⟩
    · refine ⟨r, hq, fun j hj => ?_⟩
      obtain ⟨j, rfl⟩ : ∃ q, j = q + 1 := ⟨j - 1, by omega⟩
      exact hr j
    · omega
  | succ n ih =>
    intro s hi hm
    rcases step s hi with ⟨r, hr, hq⟩ | ⟨s', hi', hm', hs⟩
    · refine ⟨r, hq, fun j hj => ?_⟩
      obtain ⟨j, rfl⟩ : ∃ q, j = q + 1 := ⟨j - 1, by omega⟩
      exact hr j
    · obtain ⟨r, hq, hr⟩ := ih s' hi' (by omega)
      refine ⟨r, hq, fun j hj => ?_⟩
      obtain ⟨j, rfl⟩ : ∃ q, j = q + 1 := ⟨j - 1, by omega⟩
      rw [hs j]
      exact hr j (by omega)
theorem at_in {α : Type} {l : List α} {i : Int} (h : 0 ≤ i) (h2 : i < (l.length : Int)) : ∃ x, at? l i = some x ∧ x ∈ l := by
  obtain ⟨n, rfl⟩ : ∃ n : Nat, i = (n : Int) := ⟨i.toNat, by omega⟩
  exact ⟨l[n]'(by omega), at_nat (by omega), List.getElem_mem _⟩
theorem wid {n : Int} (h0 : 0 ≤ n) (h1 : n < 9223372036854775808) : IntKind.wrap .i64 n = n := w64 (by omega) h1
theorem wuid {n : Int} (h0 : 0 ≤ n) (h1 : n < 18446744073709551616) : IntKind.wrap .u64 n = n := by rw [u64w]; omega
theorem cut_in {α : Type} {l : List α} {i j : Int} (h0 : 0 ≤ i) (h1 : i ≤ j) (h2 : j ≤ (l.length : Int)) : ∃ t, cut? l i j = some t ∧ (t.length : Int) = j - i := by
  obtain ⟨a, rfl⟩ : ∃ n : Nat, i = (n : Int) := ⟨i.toNat, by omega⟩
  obtain ⟨b, rfl⟩ : ∃ n : Nat, j = (n : Int) := ⟨j.toNat, by omega⟩
  refine ⟨_, cut_ok (by omega) (by omega), ?_⟩
  rw [List.length_drop, List.length_take]
  omega
end Go.Proofs.YtnmbinfgcgjfbaaE

namespace Go.Proofs.YtnmbinfgcgjfbaaE
open Go
set_option linter.unusedVariables false
namespace Dg
theorem turn_some (x : Int) {n : Int} (h : 0 ≤ n) : ∃ v, spec_l02Turn x n = some v := by
  unfold spec_l02Turn
  exact some_bind ⟨_, nneg_some h⟩ fun _ => some_bind ⟨_, nneg_some (by rw [u64w]; omega)⟩ fun _ => ⟨_, rfl⟩
theorem block0 (b : Str) (hb : b.length = 64) : ∀ (j : Nat) (w : List Int), 16 < j → w.length = 64 → ∃ r, spec_l02Block.l0 j b 0 w = some r ∧ r.length = 64 := by
  intro j w hj hw
  refine loop_inv (fun j (s : Int × List Int) => spec_l02Block.l0 j b s.1 s.2) (fun s => (16 - s.1).toNat) (fun s => 0 ≤ s.1 ∧ s.1 ≤ 16 ∧ s.2.length = 64) (fun r => r.length = 64) (fun s ⟨h0, h1, h2⟩ => ?_) 16 (0, w) j ⟨by simp, by simp, hw⟩ (by simp) hj
  obtain ⟨i, w⟩ := s
  have h0 : 0 ≤ i := h0
  have h1 : i ≤ 16 := h1
  have h2 : w.length = 64 := h2
  by_cases hi : i < 16
  · right
    obtain ⟨c0, e0, _⟩ := at_in (l := b) (i := 4 * i) (by omega) (by omega)
    obtain ⟨c1, e1, _⟩ := at_in (l := b) (i := 4 * i + 1) (by omega) (by omega)
    obtain ⟨c2, e2, _⟩ := at_in (l := b) (i := 4 * i + 2) (by omega) (by omega)
    obtain ⟨c3, e3, _⟩ := at_in (l := b) (i := 4 * i + 3) (by omega) (by omega)
    obtain ⟨v, ev, _⟩ := at_in (l := w) (i := i) (by omega) (by omega)
    refine ⟨(i + 1, w.set i.toNat (intBits .or .u32 (intBits .or .u32 (intBits .or .u32 (shl .u32 (IntKind.wrap .u32 (c0.toNat : Int)) 24) (shl .u32 (IntKind.wrap .u32 (c1.toNat : Int)) 16)) (shl .u32 (IntKind.wrap .u32 (c2.toNat : Int)) 8)) (IntKind.wrap .u32 (c3.toNat : Int)))), ⟨by show 0 ≤ i + 1; omega, by show i + 1 ≤ 16; omega, by show (w.set _ _).length = 64; rw [List.length_set]; exact h2⟩, by show (16 - (i + 1)).toNat < (16 - i).toNat; omega, fun j => ?_⟩
    · show spec_l02Block.l0 (j + 1) b i w = _
      conv => lhs; unfold spec_l02Block.l0
      rw [decide_eq_true hi, wid (n := 4 * i) (by omega) (by omega)]
      simp only [cond_true]
      rw [wid (n := 4 * i + 1) (by omega) (by omega), wid (n := 4 * i + 2) (by omega) (by omega), wid (n := 4 * i + 3) (by omega) (by omega), e0, e1, e2, e3, ev, nneg_some (by omega), nneg_some (by omega), nneg_some (by omega), wid (n := i + 1) (by omega) (by omega)]
      rfl
  · left
    refine ⟨w, fun j => ?_, h2⟩
    show spec_l02Block.l0 (j + 1) b i w = _
    conv => lhs; unfold spec_l02Block.l0
    rw [decide_eq_false hi]
    rfl
theorem block1 : ∀ (j : Nat) (w : List Int), 48 < j → w.length = 64 → ∃ r, spec_l02Block.l1 j 16 w = some r ∧ r.length = 64 := by
  intro j w hj hw
  refine loop_inv (fun j (s : Int × List Int) => spec_l02Block.l1 j s.1 s.2) (fun s => (64 - s.1).toNat) (fun s => 16 ≤ s.1 ∧ s.1 ≤ 64 ∧ s.2.length = 64) (fun r => r.length = 64) (fun s ⟨h0, h1, h2⟩ => ?_) 48 (16, w) j ⟨by simp, by simp, hw⟩ (by simp) hj
  obtain ⟨i, w⟩ := s
  have h0 : 16 ≤ i := h0
  have h1 : i ≤ 64 := h1
  have h2 : w.length = 64 := h2
  by_cases hi : i < 64
  · right
    obtain ⟨a, ea, _⟩ := at_in (l := w) (i := i - 15) (by omega) (by omega)
    obtain ⟨b, eb, _⟩ := at_in (l := w) (i := i - 2) (by omega) (by omega)
    obtain ⟨c, ec, _⟩ := at_in (l := w) (i := i - 16) (by omega) (by omega)
    obtain ⟨d, ed, _⟩ := at_in (l := w) (i := i - 7) (by omega) (by omega)
    obtain ⟨v, ev, _⟩ := at_in (l := w) (i := i) (by omega) (by omega)
    obtain ⟨t1, f1⟩ := turn_some a (n := 7) (by omega)
    obtain ⟨t2, f2⟩ := turn_some a (n := 18) (by omega)
    obtain ⟨t3, f3⟩ := turn_some b (n := 17) (by omega)
    obtain ⟨t4, f4⟩ := turn_some b (n := 19) (by omega)
    refine ⟨(i + 1, w.set i.toNat (IntKind.wrap .u32 ((IntKind.wrap .u32 ((IntKind.wrap .u32 (c + (intBits .xor .u32 (intBits .xor .u32 t1 t2) (shr .u32 a 3)))) + d)) + (intBits .xor .u32 (intBits .xor .u32 t3 t4) (shr .u32 b 10))))), ⟨by show 16 ≤ i + 1; omega, by show i + 1 ≤ 64; omega, by show (w.set _ _).length = 64; rw [List.length_set]; exact h2⟩, by show (64 - (i + 1)).toNat < (64 - i).toNat; omega, fun j => ?_⟩
    show spec_l02Block.l1 (j + 1) i w = _
    conv => lhs; unfold spec_l02Block.l1
    rw [decide_eq_true hi, w64 (n := i - 15) (by omega) (by omega), w64 (n := i - 2) (by omega) (by omega), w64 (n := i - 16) (by omega) (by omega), w64 (n := i - 7) (by omega) (by omega), w64 (n := i + 1) (by omega) (by omega)]
    simp only [cond_true, ea, eb, ec, ed, ev, Option.bind_some, f1, f2, f3, f4]
    rw [nneg_some (by omega), nneg_some (by omega)]
    rfl
  · left
    refine ⟨w, fun j => ?_, h2⟩
    show spec_l02Block.l1 (j + 1) i w = _
    conv => lhs; unfold spec_l02Block.l1
    rw [decide_eq_false hi]
    rfl
theorem block2 (w key : List Int) (hw : w.length = 64) (hk : key.length = 64) : ∀ (j : Nat) (a b c d e f g h : Int), 64 < j → ∃ r, spec_l02Block.l2 j a b c d e f g h 0 w key = some r := by
  intro j a b c d e f g h hj
  have key : ∃ r, spec_l02Block.l2 j a b c d e f g h 0 w key = some r ∧ True := by
   refine loop_inv (fun j (s : Int × Int × Int × Int × Int × Int × Int × Int × Int) => spec_l02Block.l2 j s.1 s.2.1 s.2.2.1 s.2.2.2.1 s.2.2.2.2.1 s.2.2.2.2.2.1 s.2.2.2.2.2.2.1 s.2.2.2.2.2.2.2.1 s.2.2.2.2.2.2.2.2 w key) (fun s => (64 - s.2.2.2.2.2.2.2.2).toNat) (fun s => 0 ≤ s.2.2.2.2.2.2.2.2 ∧ s.2.2.2.2.2.2.2.2 ≤ 64) (fun _ => True) (fun s ⟨h0, h1⟩ => ?_) 64 (a, b, c, d, e, f, g, h, 0) j ⟨by simp, by simp⟩ (by simp) hj
   · obtain ⟨a, b, c, d, e, f, g, h, i⟩ := s
     have h0 : 0 ≤ i := h0
     have h1 : i ≤ 64 := h1
     by_cases hi : i < 64
     · right
       obtain ⟨x, ex, _⟩ := at_in (l := w) (i := i) (by omega) (by omega)
       obtain ⟨y, ey, _⟩ := at_in (l := key) (i := i) (by omega) (by omega)
       obtain ⟨t1, f1⟩ := turn_some e (n := 6) (by omega)
       obtain ⟨t2, f2⟩ := turn_some e (n := 11) (by omega)
       obtain ⟨t3, f3⟩ := turn_some e (n := 25) (by omega)
       obtain ⟨t4, f4⟩ := turn_some a (n := 2) (by omega)
       obtain ⟨t5, f5⟩ := turn_some a (n := 13) (by omega)
       obtain ⟨t6, f6⟩ := turn_some a (n := 22) (by omega)
       refine ⟨(IntKind.wrap .u32 ((IntKind.wrap .u32 ((IntKind.wrap .u32 ((IntKind.wrap .u32 ((IntKind.wrap .u32 (h + (intBits .xor .u32 (intBits .xor .u32 t1 t2) t3))) + (intBits .xor .u32 (intBits .and .u32 e f) (intBits .and .u32 (intBits .xor .u32 (IntKind.max .u32) e) g)))) + y)) + x)) + (IntKind.wrap .u32 ((intBits .xor .u32 (intBits .xor .u32 t4 t5) t6) + (intBits .xor .u32 (intBits .xor .u32 (intBits .and .u32 a b) (intBits .and .u32 a c)) (intBits .and .u32 b c))))), a, b, c, IntKind.wrap .u32 (d + IntKind.wrap .u32 ((IntKind.wrap .u32 ((IntKind.wrap .u32 ((IntKind.wrap .u32 (h + (intBits .xor .u32 (intBits .xor .u32 t1 t2) t3))) + (intBits .xor .u32 (intBits .and .u32 e f) (intBits .and .u32 (intBits .xor .u32 (IntKind.max .u32) e) g)))) + y)) + x)), e, f, g, i + 1), ⟨by show 0 ≤ i + 1; omega, by show i + 1 ≤ 64; omega⟩, by show (64 - (i + 1)).toNat < (64 - i).toNat; omega, fun j => ?_⟩
       · show spec_l02Block.l2 (j + 1) a b c d e f g h i w key = _
         conv => lhs; unfold spec_l02Block.l2
         rw [decide_eq_true hi, w64 (n := i + 1) (by omega) (by omega)]
         simp only [cond_true, ex, ey, Option.bind_some, f1, f2, f3, f4, f5, f6]
     · left
       refine ⟨(a, b, c, d, e, f, g, h), fun j => ?_, trivial⟩
       · show spec_l02Block.l2 (j + 1) a b c d e f g h i w key = _
         conv => lhs; unfold spec_l02Block.l2
         rw [decide_eq_false hi]
         rfl
  exact ⟨key.choose, key.choose_spec.1⟩
theorem block3 (st v : List Int) (hs : st.length = 8) (hv : v.length = 8) : ∀ (j : Nat), 8 < j → ∃ r, spec_l02Block.l3 j st 0 v [] = some r ∧ r.length = 8 := by
  intro j hj
  refine loop_inv (fun j (s : Int × List Int) => spec_l02Block.l3 j st s.1 v s.2) (fun s => (8 - s.1).toNat) (fun s => 0 ≤ s.1 ∧ s.1 ≤ 8 ∧ (s.2.length : Int) = s.1) (fun r => r.length = 8) (fun s ⟨h0, h1, h2⟩ => ?_) 8 (0, []) j ⟨by simp, by simp, by simp⟩ (by simp) hj
  obtain ⟨i, o⟩ := s
  have h0 : 0 ≤ i := h0
  have h1 : i ≤ 8 := h1
  have h2 : (o.length : Int) = i := h2
  by_cases hi : i < 8
  · right
    obtain ⟨x, ex, _⟩ := at_in (l := st) (i := i) (by omega) (by omega)
    obtain ⟨y, ey, _⟩ := at_in (l := v) (i := i) (by omega) (by omega)
    refine ⟨(i + 1, o ++ [IntKind.wrap .i64 (IntKind.wrap .u32 ((IntKind.wrap .u32 x) + y))]), ⟨by show 0 ≤ i + 1; omega, by show i + 1 ≤ 8; omega, by show ((o ++ [_]).length : Int) = i + 1; rw [List.length_append]; simp; omega⟩, by show (8 - (i + 1)).toNat < (8 - i).toNat; omega, fun j => ?_⟩
    show spec_l02Block.l3 (j + 1) st i v o = _
    conv => lhs; unfold spec_l02Block.l3
    rw [decide_eq_true hi, w64 (n := i + 1) (by omega) (by omega)]
    simp only [cond_true, ex, ey, Option.bind_some]
    rw [app_ok (by simp; omega)]
    rfl
  · left
    refine ⟨o, fun j => ?_, by omega⟩
    show spec_l02Block.l3 (j + 1) st i v o = _
    conv => lhs; unfold spec_l02Block.l3
    rw [decide_eq_false hi]
    rfl
theorem block_some (k : Nat) (hk : 65 < k) (st : List Int) (b : Str) (hs : st.length = 8) (hb : b.length = 64) : ∃ r, spec_l02Block k st b = some r ∧ r.length = 8 := by
  unfold spec_l02Block
  have hm : make? 4 64 64 (0 : Int) = some (List.replicate 64 0) := make_some (n := 64) (b := 4) (by omega)
  rw [hm]
  simp only [Option.bind_some]
  obtain ⟨w0, e0, h0⟩ := block0 b hb k (List.replicate 64 0) (by omega) (by simp)
  rw [e0]
  simp only [Option.bind_some]
  obtain ⟨w1, e1, h1⟩ := block1 k w0 (by omega) h0
  rw [e1]
  simp only [Option.bind_some]
  obtain ⟨s0, a0, _⟩ := at_in (l := st) (i := 0) (by omega) (by omega)
  obtain ⟨s1, a1, _⟩ := at_in (l := st) (i := 1) (by omega) (by omega)
  obtain ⟨s2, a2, _⟩ := at_in (l := st) (i := 2) (by omega) (by omega)
  obtain ⟨s3, a3, _⟩ := at_in (l := st) (i := 3) (by omega) (by omega)
  obtain ⟨s4, a4, _⟩ := at_in (l := st) (i := 4) (by omega) (by omega)
  obtain ⟨s5, a5, _⟩ := at_in (l := st) (i := 5) (by omega) (by omega)
  obtain ⟨s6, a6, _⟩ := at_in (l := st) (i := 6) (by omega) (by omega)
  obtain ⟨s7, a7, _⟩ := at_in (l := st) (i := 7) (by omega) (by omega)
  simp only [a0, a1, a2, a3, a4, a5, a6, a7, Option.bind_some]
  have hkey : ∃ key, spec_l02Keys = some key ∧ key.length = 64 := ⟨_, rfl, rfl⟩
  obtain ⟨key, ek, hkl⟩ := hkey
  rw [ek]
  simp only [Option.bind_some]
  obtain ⟨r, er⟩ := block2 w1 key h1 hkl k (IntKind.wrap .u32 s0) (IntKind.wrap .u32 s1) (IntKind.wrap .u32 s2) (IntKind.wrap .u32 s3) (IntKind.wrap .u32 s4) (IntKind.wrap .u32 s5) (IntKind.wrap .u32 s6) (IntKind.wrap .u32 s7) (by omega)
  rw [er]
  simp only [Option.bind_some]
  obtain ⟨o, eo, ho⟩ := block3 st [r.1, r.2.1, r.2.2.1, r.2.2.2.1, r.2.2.2.2.1, r.2.2.2.2.2.1, r.2.2.2.2.2.2.1, r.2.2.2.2.2.2.2] hs rfl k (by omega)
  rw [eo]
  exact ⟨o, rfl, ho⟩
theorem all0 (l : List Int) (hl : l.length ≤ 9000) : ∀ j, 64 < j → ∃ r, spec_l02All.l0 j l = some r ∧ r.length ≤ 9100 ∧ r.length % 64 = 56 := by
  intro j hj
  refine loop_inv (fun j (s : List Int) => spec_l02All.l0 j s) (fun s => (56 + 64 - s.length % 64) % 64) (fun s => s.length + (56 + 64 - s.length % 64) % 64 ≤ 9100) (fun r => r.length ≤ 9100 ∧ r.length % 64 = 56) (fun s h => ?_) 64 l j (by show l.length + _ ≤ 9100; omega) (by omega) hj
  have h : s.length + (56 + 64 - s.length % 64) % 64 ≤ 9100 := h
  have e : Int.tmod (s.length : Int) 64 = ((s.length % 64 : Nat) : Int) := by rw [Int.tmod_eq_emod_of_nonneg (by omega)]; omega
  by_cases hm : s.length % 64 = 56
  · left
    refine ⟨s, fun j => ?_, by omega, hm⟩
    show spec_l02All.l0 (j + 1) s = _
    conv => lhs; unfold spec_l02All.l0
    rw [nz_some (by omega), e, hm]
    rfl
  · right
    refine ⟨s ++ [0], by show (s ++ [0]).length + _ ≤ 9100; rw [List.length_append]; simp only [List.length_cons, List.length_nil]; omega, by show (56 + 64 - (s ++ [0]).length % 64) % 64 < _; rw [List.length_append]; simp only [List.length_cons, List.length_nil]; omega, fun j => ?_⟩
    show spec_l02All.l0 (j + 1) s = _
    conv => lhs; unfold spec_l02All.l0
    rw [nz_some (by omega), e, show (((s.length % 64 : Nat) : Int) != 56) = true by simp; omega]
    simp only [cond_true, Option.bind_some]
    rw [app_ok (by simp; omega)]
    rfl
theorem all1 (n : Int) (l : List Int) (hl : l.length ≤ 9100) (hm : l.length % 64 = 56) : ∀ j, 8 < j → ∃ r, spec_l02All.l1 j n 56 l = some r ∧ r.length ≤ 9200 ∧ r.length % 64 = 0 := by
  intro j hj
  refine loop_inv (fun j (s : Int × List Int) => spec_l02All.l1 j n s.1 s.2) (fun s => ((s.1 + 8) / 8).toNat) (fun s => ∃ q : Nat, s.1 = 8 * (q : Int) - 8 ∧ q ≤ 8 ∧ s.2.length + q = l.length + 8) (fun r => r.length ≤ 9200 ∧ r.length % 64 = 0) (fun s ⟨q, h0, h1, h2⟩ => ?_) 8 (56, l) j ⟨8, by simp, by omega, by simp⟩ (by simp) hj
  obtain ⟨i, o⟩ := s
  have h0 : i = 8 * (q : Int) - 8 := h0
  have h2 : o.length + q = l.length + 8 := h2
  by_cases hi : 0 ≤ i
  · right
    refine ⟨(i - 8, o ++ [IntKind.wrap .u8 (shr .u64 n (IntKind.wrap .u64 i))]), ⟨q - 1, by show i - 8 = _; omega, by omega, by show (o ++ [_]).length + _ = _; rw [List.length_append]; simp only [List.length_cons, List.length_nil]; omega⟩, by show ((i - 8 + 8) / 8).toNat < ((i + 8) / 8).toNat; omega, fun j => ?_⟩
    show spec_l02All.l1 (j + 1) n i o = _
    conv => lhs; unfold spec_l02All.l1
    rw [decide_eq_true hi, nneg_some (by rw [u64w]; omega), w64 (n := i - 8) (by omega) (by omega)]
    simp only [cond_true, Option.bind_some]
    rw [app_ok (by simp; omega)]
    rfl
  · left
    refine ⟨o, fun j => ?_, by omega, by omega⟩
    show spec_l02All.l1 (j + 1) n i o = _
    conv => lhs; unfold spec_l02All.l1
    rw [decide_eq_false hi]
    rfl
theorem all2 (k : Nat) (hk : 65 < k) (l : List Int) (hl : l.length ≤ 9200) (hm : l.length % 64 = 0) (st : List Int) (hs : st.length = 8) : ∀ j, l.length < j → ∃ r, spec_l02All.l2 k j l 0 st = some r ∧ r.length = 8 := by
  intro j hj
  refine loop_inv (fun j (s : Int × List Int) => spec_l02All.l2 k j l s.1 s.2) (fun s => ((l.length : Int) - s.1).toNat) (fun s => ∃ q : Nat, s.1 = 64 * (q : Int) ∧ s.1 ≤ (l.length : Int) ∧ s.2.length = 8) (fun r => r.length = 8) (fun s ⟨q, h0, h1, h2⟩ => ?_) l.length (0, st) j ⟨0, by simp, by simp, hs⟩ (by simp) hj
  obtain ⟨i, o⟩ := s
  have h0 : i = 64 * (q : Int) := h0
  have h1 : i ≤ (l.length : Int) := h1
  have h2 : o.length = 8 := h2
  by_cases hi : i < (l.length : Int)
  · right
    obtain ⟨t, et, ht⟩ := cut_in (l := l) (i := i) (j := i + 64) (by omega) (by omega) (by omega)
    obtain ⟨r, er, hr⟩ := block_some k hk o (listByte t) h2 (by rw [listByte_len]; omega)
    refine ⟨(i + 64, r), ⟨q + 1, by show i + 64 = _; omega, by show i + 64 ≤ _; omega, hr⟩, by show ((l.length : Int) - (i + 64)).toNat < ((l.length : Int) - i).toNat; omega, fun j => ?_⟩
    show spec_l02All.l2 k (j + 1) l i o = _
    conv => lhs; unfold spec_l02All.l2
    rw [decide_eq_true hi, w64 (n := i + 64) (by omega) (by omega)]
    simp only [cond_true]
    rw [et]
    simp only [Option.bind_some]
    rw [er]
    rfl
  · left
    refine ⟨o, fun j => ?_, h2⟩
    show spec_l02All.l2 k (j + 1) l i o = _
    conv => lhs; unfold spec_l02All.l2
    rw [decide_eq_false hi]
    rfl
theorem all3 (st : List Int) (hs : st.length = 8) : ∀ j, 8 < j → ∃ r, spec_l02All.l3 j 0 st [] = some r ∧ r.length = 32 := by
  intro j hj
  refine loop_inv (fun j (s : Int × List Int) => spec_l02All.l3 j s.1 st s.2) (fun s => (8 - s.1).toNat) (fun s => 0 ≤ s.1 ∧ s.1 ≤ 8 ∧ (s.2.length : Int) = 4 * s.1) (fun r => r.length = 32) (fun s ⟨h0, h1, h2⟩ => ?_) 8 (0, []) j ⟨by simp, by simp, by simp⟩ (by simp) hj
  obtain ⟨i, o⟩ := s
  have h0 : 0 ≤ i := h0
  have h1 : i ≤ 8 := h1
  have h2 : (o.length : Int) = 4 * i := h2
  by_cases hi : i < 8
  · right
    obtain ⟨x, ex, _⟩ := at_in (l := st) (i := i) (by omega) (by omega)
    refine ⟨(i + 1, o ++ [(IntKind.wrap .u8 (shr .i64 x 24)), (IntKind.wrap .u8 (shr .i64 x 16)), (IntKind.wrap .u8 (shr .i64 x 8)), (IntKind.wrap .u8 x)]), ⟨by show 0 ≤ i + 1; omega, by show i + 1 ≤ 8; omega, by show ((o ++ [_, _, _, _]).length : Int) = 4 * (i + 1); rw [List.length_append]; simp only [List.length_cons, List.length_nil]; omega⟩, by show (8 - (i + 1)).toNat < (8 - i).toNat; omega, fun j => ?_⟩
    show spec_l02All.l3 (j + 1) i st o = _
    conv => lhs; unfold spec_l02All.l3
    rw [decide_eq_true hi, w64 (n := i + 1) (by omega) (by omega)]
    simp only [cond_true, ex, Option.bind_some]
    rw [nneg_some (by omega), nneg_some (by omega), nneg_some (by omega)]
    simp only [Option.bind_some]
    rw [app_ok (by simp; omega)]
    rfl
  · left
    refine ⟨o, fun j => ?_, by omega⟩
    show spec_l02All.l3 (j + 1) i st o = _
    conv => lhs; unfold spec_l02All.l3
    rw [decide_eq_false hi]
    rfl
end Dg
open Dg in
theorem sDigest_some (s : Str) (h : s.length ≤ 8000) (k : Nat) (hk : 9300 ≤ k) : ∃ d, spec_Digest k s = some d ∧ d.length = 32 := by
  unfold spec_Digest spec_l02All
  rw [decide_eq_false (by omega : ¬ (8000 < (s.length : Int))), room_some (by omega)]
  simp only [cond_false, Option.bind_some]
  have hb : (byteList s).length = s.length := by simp [byteList]
  rw [app_ok (by rw [hb]; simp; omega)]
  simp only [Option.bind_some]
  obtain ⟨a, ea, h1, h2⟩ := all0 (byteList s ++ [128]) (by rw [List.length_append, hb]; simp; omega) k (by omega)
  rw [ea]
  simp only [Option.bind_some]
  obtain ⟨b, eb, h3, h4⟩ := all1 (IntKind.wrap .u64 (IntKind.wrap .i64 (8 * (s.length : Int)))) a h1 h2 k (by omega)
  rw [eb]
  simp only [Option.bind_some]
  have hst : ∃ st, spec_l02Start = some st ∧ st.length = 8 := ⟨_, rfl, rfl⟩
  obtain ⟨st, es, hs⟩ := hst
  rw [es]
  simp only [Option.bind_some]
  obtain ⟨c, ec, h5⟩ := all2 k (by omega) b h3 h4 st hs k (by omega)
  rw [ec]
  simp only [Option.bind_some]
  obtain ⟨d, ed, h6⟩ := all3 c h5 k (by omega)
  rw [ed]
  exact ⟨_, rfl, by rw [listByte_len]; exact h6⟩
end Go.Proofs.YtnmbinfgcgjfbaaE

namespace Go.Proofs.YtnmbinfgcgjfbaaE
open Go
set_option linter.unusedVariables false
/-- A source of draws. -/
def Src (s : G136) : Prop := 0 ≤ s.2.1 ∧ s.1.length ≤ 140737488351232
theorem n_ok (s : G136) (hs : Src s) (m : Int) (hm : m < 9223372036854775807) : ∃ p : Int × G136, spec_l01Src_n s m = some p ∧ Src p.2 ∧ 0 ≤ p.1 ∧ (m ≤ 1 → p.1 = 0) ∧ (1 < m → p.1 < m) := by
  unfold spec_l01Src_n
  by_cases h : m ≤ 1
  · rw [decide_eq_true h]
    exact ⟨(0, s), rfl, hs, Int.le_refl _, fun _ => rfl, fun q => by omega⟩
  · have hj : ∃ q : Int × G136, spec_l01Src_n.j0 0 s.1 s.2.1 s.2.2.1 s.2.2.2 = some q ∧ Src q.2 := by
      obtain ⟨h0, h1⟩ := hs
      unfold spec_l01Src_n.j0
      by_cases ha : s.2.1 < (s.1.length : Int)
      · obtain ⟨c, ec, _⟩ := at_in h0 ha
        rw [decide_eq_true ha, ec, w64 (by omega) (by omega)]
        exact ⟨(IntKind.wrap .u64 c, s.1, s.2.1 + 1, s.2.2.1, s.2.2.2), rfl, by show 0 ≤ s.2.1 + 1; omega, h1⟩
      · rw [decide_eq_false ha]
        exact ⟨(0, s), rfl, h0, h1⟩
    obtain ⟨q, hq, hq2⟩ := hj
    rw [decide_eq_false h, hq]
    simp only [cond_false, Option.bind_some]
    rw [nneg_some (by omega), nneg_some (by omega), nneg_some (by omega), nneg_some (by omega), wuid (n := m) (by omega) (by omega), nz_some (by omega)]
    simp only [Option.bind_some]
    generalize intBits .xor .u64 (intBits .xor .u64 (intBits .xor .u64 q.2.2.2.1 (shl .u64 q.2.2.2.1 13)) (shr .u64 (intBits .xor .u64 q.2.2.2.1 (shl .u64 q.2.2.2.1 13)) 7)) (shl .u64 (intBits .xor .u64 (intBits .xor .u64 q.2.2.2.1 (shl .u64 q.2.2.2.1 13)) (shr .u64 (intBits .xor .u64 q.2.2.2.1 (shl .u64 q.2.2.2.1 13)) 7)) 17) = e
    generalize hx : IntKind.wrap .u64 (q.1 + shr .u64 e 20) = x
    have hx0 : 0 ≤ x := by rw [← hx, u64w]; omega
    have h1 : Int.tmod x m = x % m := Int.tmod_eq_emod_of_nonneg hx0
    have h2 := Int.emod_nonneg x (by omega : m ≠ 0)
    have h3 := Int.emod_lt_of_pos x (by omega : 0 < m)
    refine ⟨(x % m, q.2.1, q.2.2.1, e, q.2.2.2.2), ?_, hq2, h2, fun q => absurd q h, fun _ => h3⟩
    rw [h1, w64 (by omega) (by omega)]
theorem one_ok (s : G136) (hs : Src s) (m : Int) (hm : m < 9223372036854775807) : ∃ p : Bool × G136, spec_l01Src_one s m = some p ∧ Src p.2 := by
  obtain ⟨p, h1, h2, _⟩ := n_ok s hs m hm
  unfold spec_l01Src_one
  rw [h1]
  exact ⟨(p.1 == 0, p.2), rfl, h2⟩
theorem edge_ok (s : G136) (hs : Src s) : ∃ p : Int × G136, spec_l01Src_edge s = some p ∧ Src p.2 ∧ Num p.1 := by
  obtain ⟨p, h1, h2, h3, _, h4⟩ := n_ok s hs 14 (by omega)
  have h4 := h4 (by omega)
  unfold spec_l01Src_edge
  rw [h1]
  simp only [Option.bind_some]
  obtain ⟨x, ex, hx⟩ := at_in (l := [0, 1, (-1), 2, 1000, 1001, 2147483648, 2147483647, (-2147483648), 4611686018427387904, 9223372036854775807, (-9223372036854775808), 1000000, (1000001 : Int)]) h3 h4
  rw [ex]
  refine ⟨(x, p.2), rfl, h2, ?_⟩
  have key : ∀ x ∈ [0, 1, (-1), 2, 1000, 1001, 2147483648, 2147483647, (-2147483648), 4611686018427387904, 9223372036854775807, (-9223372036854775808), 1000000, (1000001 : Int)], -9223372036854775808 ≤ x ∧ x < 9223372036854775808 := by decide
  exact key x hx
theorem source_uni (code : List Int) (hc : code.length ≤ 1048576) : ∃ s : G136, Src s ∧ ∀ k, 65 ≤ k → spec_l01Source k code = some s := by
  have hl : ∃ r : G136, Src r ∧ ∀ k, 64 < k → spec_l01Source.l0 k code 0 code 0 88172645463325252 0 = some r := by
    refine loop_uni (fun j (s : Int × Int) => spec_l01Source.l0 j code s.1 code 0 s.2 0) (fun s => (64 - s.1).toNat) (fun s => 0 ≤ s.1 ∧ s.1 ≤ 64) Src (fun s ⟨h0, h1⟩ => ?_) 64 (0, 88172645463325252) ⟨by simp, by simp⟩ (by simp)
    obtain ⟨i, mix⟩ := s
    have h0 : 0 ≤ i := h0
    have h1 : i ≤ 64 := h1
    by_cases hi : i < (code.length : Int) ∧ i < 64
    · right
      obtain ⟨c, ec, _⟩ := at_in h0 hi.1
      refine ⟨(i + 1, IntKind.wrap .u64 ((intBits .xor .u64 mix (IntKind.wrap .u64 c)) * 1099511628211)), ⟨by show 0 ≤ i + 1; omega, by show i + 1 ≤ 64; omega⟩, by show (64 - (i + 1)).toNat < (64 - i).toNat; omega, fun j => ?_⟩
      show spec_l01Source.l0 (j + 1) code i code 0 mix 0 = _
      conv => lhs; unfold spec_l01Source.l0
      rw [decide_eq_true hi.1, decide_eq_true hi.2, ec, w64 (n := i + 1) (by omega) (by omega)]
      rfl
    · left
      refine ⟨(code, 0, mix, 0), fun j => ?_, by show (0 : Int) ≤ 0; omega, by show code.length ≤ _; omega⟩
      show spec_l01Source.l0 (j + 1) code i code 0 mix 0 = _
      conv => lhs; unfold spec_l01Source.l0
      rw [show (decide (i < (code.length : Int)) && decide (i < 64)) = false by rw [Bool.eq_false_iff, Ne, Bool.and_eq_true, decide_eq_true_eq, decide_eq_true_eq]; exact hi]
      rfl
  obtain ⟨r, hr, er⟩ := hl
  cases hc : decide (12 < IntKind.wrap .i64 (Int.tdiv (code.length : Int) 20)) with
  | false =>
    refine ⟨(r.1, r.2.1, r.2.2.1, IntKind.wrap .i64 (Int.tdiv (code.length : Int) 20)), hr, fun k hk => ?_⟩
    unfold spec_l01Source
    rw [er k (by omega), nz_some (by omega)]
    simp only [Option.bind_some]
    rw [hc]
    rfl
  | true =>
    refine ⟨(r.1, r.2.1, r.2.2.1, 12), hr, fun k hk => ?_⟩
    unfold spec_l01Source
    rw [er k (by omega), nz_some (by omega)]
    simp only [Option.bind_some]
    rw [hc]
    rfl
theorem source_ok (code : List Int) (hc : code.length ≤ 1048576) (k : Nat) (hk : 65 ≤ k) : ∃ s : G136, spec_l01Source k code = some s ∧ Src s := by
  obtain ⟨s, h, e⟩ := source_uni code hc
  exact ⟨s, e k hk, h⟩
theorem spoil_ok (s : G136) (hs : Src s) (t : Str) (ht : t.length ≤ 100000) : ∃ p : Str × G136, spec_l01Src_spoil s t = some p ∧ Src p.2 ∧ p.1.length ≤ t.length + 1 := by
  obtain ⟨v3, e3, s3, l3, z3, u3⟩ := n_ok s hs ((t.length : Int) + 1) (by omega)
  obtain ⟨v4, e4, s4, l4, _, u4⟩ := n_ok v3.2 s3 17 (by omega)
  have u4 := u4 (by omega)
  have hle : v3.1 ≤ (t.length : Int) := by
    by_cases h : (t.length : Int) + 1 ≤ 1
    · rw [z3 h]; omega
    · have := u3 (by omega); omega
  obtain ⟨c, ec, _⟩ := at_in (l := ([32, 10, 48, 97, 45, 110, 44, 58, 93, 255, 40, 120, 126, 49, 128, 225, 59] : Str)) l4 u4
  obtain ⟨a, ea, la⟩ := cut_in (l := t) (i := 0) (j := v3.1) (by omega) l3 hle
  obtain ⟨b, eb, lb⟩ := cut_in (l := t) (i := v3.1) (j := (t.length : Int)) l3 hle (Int.le_refl _)
  have hc1 : (listByte [((c.toNat : Nat) : Int)]).length = 1 := rfl
  unfold spec_l01Src_spoil
  rw [w64 (n := (t.length : Int) + 1) (by omega) (by omega), e3]
  simp only [Option.bind_some]
  rw [e4]
  simp only [Option.bind_some]
  rw [ec]
  simp only [Option.bind_some]
  rw [ea, eb]
  simp only [Option.bind_some]
  have c1 : cat? a (listByte [((c.toNat : Nat) : Int)]) = some (a ++ listByte [((c.toNat : Nat) : Int)]) := cat_some (by omega)
  have c2 : cat? (a ++ listByte [((c.toNat : Nat) : Int)]) b = some (a ++ listByte [((c.toNat : Nat) : Int)] ++ b) := cat_some (by rw [List.length_append]; omega)
  have hlen : (a ++ listByte [((c.toNat : Nat) : Int)] ++ b).length ≤ t.length + 1 := by rw [List.length_append, List.length_append]; omega
  by_cases hq : v3.1 = (t.length : Int)
  · rw [show (v3.1 == (t.length : Int)) = true by rw [hq]; simp]
    simp only [cond_true]
    rw [c1]
    simp only [Option.bind_some]
    rw [c2]
    exact ⟨(_, v4.2), rfl, s4, hlen⟩
  · rw [show (v3.1 == (t.length : Int)) = false by simpa using hq]
    simp only [cond_false]
    obtain ⟨v13, e13, s13⟩ := one_ok v4.2 s4 3 (by omega)
    rw [e13]
    simp only [Option.bind_some]
    cases hv : v13.1 with
    | true =>
      simp only [cond_true]
      rw [c1]
      simp only [Option.bind_some]
      rw [c2]
      exact ⟨(_, v13.2), rfl, s13, hlen⟩
    | false =>
      simp only [cond_false]
      obtain ⟨v18, e18, s18⟩ := one_ok v13.2 s13 2 (by omega)
      rw [e18, w64 (n := v3.1 + 1) (by omega) (by omega)]
      simp only [Option.bind_some]
      obtain ⟨d, ed, ld⟩ := cut_in (l := t) (i := v3.1 + 1) (j := (t.length : Int)) (by omega) (by omega) (Int.le_refl _)
      rw [ed]
      simp only [Option.bind_some]
      cases hw : v18.1 with
      | true =>
        simp only [cond_true]
        rw [cat_some (by omega)]
        exact ⟨(_, v18.2), rfl, s18, by show (a ++ d).length ≤ _; rw [List.length_append]; omega⟩
      | false =>
        simp only [cond_false]
        rw [c1]
        simp only [Option.bind_some]
        rw [cat_some (by rw [List.length_append]; omega)]
        exact ⟨(_, v18.2), rfl, s18, by show (a ++ listByte [((c.toNat : Nat) : Int)] ++ d).length ≤ _; rw [List.length_append, List.length_append]; omega⟩
end Go.Proofs.YtnmbinfgcgjfbaaE

namespace Go.Proofs.YtnmbinfgcgjfbaaE
open Go
def laws_FnTrust.Pure : Prop := ∀ (y0 : List Int) (y1 : List Int), Bnd (.sl (.int .u8)) y0 → Bnd (.sl (.int .u8)) y1 → ∃ k : Nat, laws_FnTrust k y0 y1 = some true
end Go.Proofs.YtnmbinfgcgjfbaaE

namespace Go.Proofs.YtnmbinfgcgjfbaaE
open Go
set_option linter.unusedVariables false
namespace Tru
theorem trust_ok (s : G136) (hs : Src s) : ∃ p : Int × Int × G136, spec_l01Src_l20Trust s = some p ∧ Src p.2.2 ∧ Num p.1 ∧ Num p.2.1 := by
  obtain ⟨v2, e2, s2, l2, _, u2⟩ := n_ok s hs 9 (by omega)
  have u2 := u2 (by omega)
  obtain ⟨v3, e3, s3, l3, z3, u3⟩ := n_ok v2.2 s2 (v2.1 + 1) (by omega)
  have h3 : Num v3.1 := by
    unfold Num
    by_cases h : v2.1 + 1 ≤ 1
    · rw [z3 h]; omega
    · have := u3 (by omega); omega
  have hj : ∃ y : List Int × Int × Int × Int × Int × Int, spec_l01Src_l20Trust.j0 v3.2.1 v3.2.2.1 v3.2.2.2.1 v3.2.2.2.2 v2.1 v3.1 = some y ∧ Src (y.1, (y.2.1, (y.2.2.1, y.2.2.2.1))) ∧ y.2.2.2.2.1 = v2.1 ∧ Num y.2.2.2.2.2 := by
    obtain ⟨v7, e7, s7⟩ := one_ok v3.2 s3 12 (by omega)
    have e7 : spec_l01Src_one (v3.2.1, (v3.2.2.1, (v3.2.2.2.1, v3.2.2.2.2))) 12 = some v7 := e7
    unfold spec_l01Src_l20Trust.j0
    rw [e7]
    simp only [Option.bind_some]
    cases v7.1 with
    | true =>
      obtain ⟨v8, e8, s8, h8⟩ := edge_ok v7.2 s7
      simp only [cond_true]
      rw [e8]
      exact ⟨_, rfl, s8, rfl, h8⟩
    | false => exact ⟨_, rfl, s7, rfl, h3⟩
  obtain ⟨y, ey, sy, y1, y2⟩ := hj
  obtain ⟨v5, e5, s5⟩ := one_ok _ sy 20 (by omega)
  unfold spec_l01Src_l20Trust
  rw [e2]
  simp only [Option.bind_some]
  rw [w64 (n := v2.1 + 1) (by omega) (by omega), e3]
  simp only [Option.bind_some]
  rw [ey]
  simp only [Option.bind_some]
  rw [e5]
  simp only [Option.bind_some]
  cases v5.1 with
  | true =>
    obtain ⟨v6, e6, s6, l6, _, u6⟩ := n_ok v5.2 s5 3 (by omega)
    have u6 := u6 (by omega)
    obtain ⟨x, ex, hx⟩ := at_in (l := [(-1), 1000000, (1000001 : Int)]) l6 u6
    simp only [cond_true]
    rw [e6]
    simp only [Option.bind_some]
    rw [ex]
    have key : ∀ x ∈ [(-1), 1000000, (1000001 : Int)], -9223372036854775808 ≤ x ∧ x < 9223372036854775808 := by decide
    exact ⟨(x, y.2.2.2.2.2, v6.2), rfl, s6, key x hx, y2⟩
  | false => exact ⟨(y.2.2.2.2.1, y.2.2.2.2.2, v5.2), rfl, s5, by show Num y.2.2.2.2.1; rw [y1]; exact ⟨by omega, by omega⟩, y2⟩
theorem offer_ok (k : Nat) (hd : ∃ d, spec_Digest k ([111] : Str) = some d) (s : G136) (hs : Src s) : ∃ p : Int × Int × Str × G136, spec_l01Src_l20Offer k s = some p ∧ Src p.2.2.2 := by
  obtain ⟨d, ed⟩ := hd
  obtain ⟨v2, e2, s2, l2, _, u2⟩ := n_ok s hs 12 (by omega)
  have u2 := u2 (by omega)
  obtain ⟨v5, e5, s5, _⟩ := n_ok v2.2 s2 (1 + v2.1 + 1) (by omega)
  obtain ⟨v6, e6, s6⟩ := one_ok v5.2 s5 12 (by omega)
  unfold spec_l01Src_l20Offer
  rw [e2]
  simp only [Option.bind_some]
  rw [ed]
  simp only [Option.bind_some]
  rw [w64 (n := 1 + v2.1) (by omega) (by omega), w64 (n := 1 + v2.1 + 1) (by omega) (by omega), e5]
  simp only [Option.bind_some]
  rw [e6]
  simp only [Option.bind_some]
  cases v6.1 with
  | false => exact ⟨(1 + v2.1, v5.1, d, v6.2), rfl, s6⟩
  | true =>
    obtain ⟨v7, e7, s7, _⟩ := n_ok v6.2 s6 3 (by omega)
    obtain ⟨v8, e8, s8, _⟩ := edge_ok v7.2 s7
    simp only [cond_true]
    rw [e7]
    simp only [Option.bind_some]
    rw [e8]
    simp only [Option.bind_some]
    cases v7.1 == 0 with
    | true => exact ⟨(v8.1, v5.1, d, v8.2), rfl, s8⟩
    | false =>
      cases v7.1 == 1 with
      | true => exact ⟨(1 + v2.1, v8.1, d, v8.2), rfl, s8⟩
      | false => exact ⟨(1 + v2.1, v5.1, ([120] : Str), v7.2), rfl, s7⟩
theorem settle_draw (code : List Int) (hc : code.length ≤ 1048576) : ∃ t : G36, Num t.1 ∧ Num t.2 ∧ ∀ k, 65 ≤ k → (∃ d, spec_Digest k ([111] : Str) = some d) → ∃ (o : G38) (g : Bool), spec_DrawSettle k code = some (t.1, t.2, o.1, o.2.1, o.2.2, g) := by
  obtain ⟨s, h0, e0⟩ := source_uni code hc
  obtain ⟨t, e1, h1, n1, n2⟩ := trust_ok s h0
  refine ⟨(t.1, t.2.1), n1, n2, fun k hk hd => ?_⟩
  obtain ⟨o, e2, h2⟩ := offer_ok k hd t.2.2 h1
  obtain ⟨b, e3, h3⟩ := one_ok o.2.2.2 h2 3 (by omega)
  refine ⟨(o.1, (o.2.1, o.2.2.1)), !b.1, ?_⟩
  unfold spec_DrawSettle
  rw [e0 k hk]
  simp only [Option.bind_some]
  rw [e1]
  simp only [Option.bind_some]
  rw [e2]
  simp only [Option.bind_some]
  rw [e3]
  rfl
theorem best_draw (k : Nat) (hk : 65 ≤ k) (hd : ∃ d, spec_Digest k ([111] : Str) = some d) (code : List Int) (hc : code.length ≤ 1048576) : ∃ p : Int × Int × List G38, spec_DrawBestOffer k code = some p ∧ p.2.2.length ≤ 100 := by
  obtain ⟨s, e0, h0⟩ := source_ok code hc k hk
  obtain ⟨t, e1, h1, _⟩ := trust_ok s h0
  obtain ⟨n, e2, h2, l2, _, u2⟩ := n_ok t.2.2 h1 6 (by omega)
  have u2 := u2 (by omega)
  have hl : ∃ y : List Int × Int × Int × Int × List G38, spec_DrawBestOffer.l0 k k n.1 n.2.1 n.2.2.1 n.2.2.2.1 n.2.2.2.2 [] = some y ∧ (Src (y.1, (y.2.1, (y.2.2.1, y.2.2.2.1))) ∧ y.2.2.2.2.length ≤ 6) := by
    refine loop_inv (fun j (s : Int × G136 × List G38) => spec_DrawBestOffer.l0 k j s.1 s.2.1.1 s.2.1.2.1 s.2.1.2.2.1 s.2.1.2.2.2 s.2.2) (fun s => s.1.toNat) (fun s => 0 ≤ s.1 ∧ s.1 + (s.2.2.length : Int) ≤ 6 ∧ Src s.2.1) (fun y => Src (y.1, (y.2.1, (y.2.2.1, y.2.2.2.1))) ∧ y.2.2.2.2.length ≤ 6) (fun s ⟨i0, i1, i2⟩ => ?_) 6 (n.1, n.2, []) k ⟨l2, by show n.1 + 0 ≤ 6; omega, h2⟩ (by show n.1.toNat ≤ 6; omega) (by omega)
    obtain ⟨i, r, l⟩ := s
    have i0 : 0 ≤ i := i0
    have i1 : i + (l.length : Int) ≤ 6 := i1
    have i2 : Src r := i2
    by_cases hi : 0 < i
    · right
      obtain ⟨o, eo, ho⟩ := offer_ok k hd r i2
      refine ⟨(i - 1, o.2.2.2, l ++ [(o.1, (o.2.1, o.2.2.1))]), ⟨by show 0 ≤ i - 1; omega, by show i - 1 + ((l ++ [_]).length : Int) ≤ 6; rw [List.length_append]; simp only [List.length_cons, List.length_nil]; omega, ho⟩, by show (i - 1).toNat < i.toNat; omega, fun j => ?_⟩
      have eo : spec_l01Src_l20Offer k (r.1, (r.2.1, (r.2.2.1, r.2.2.2))) = some o := eo
      show spec_DrawBestOffer.l0 k (j + 1) i r.1 r.2.1 r.2.2.1 r.2.2.2 l = _
      conv => lhs; unfold spec_DrawBestOffer.l0
      rw [decide_eq_true hi, eo, w64 (n := i - 1) (by omega) (by omega)]
      simp only [cond_true, Option.bind_some]
      rw [app_ok (by simp; omega)]
      rfl
    · left
      refine ⟨(r.1, r.2.1, r.2.2.1, r.2.2.2, l), fun j => ?_, i2, by show l.length ≤ 6; omega⟩
      show spec_DrawBestOffer.l0 k (j + 1) i r.1 r.2.1 r.2.2.1 r.2.2.2 l = _
      conv => lhs; unfold spec_DrawBestOffer.l0
      rw [decide_eq_false hi]
      rfl
  obtain ⟨y, ey, sy, ly⟩ := hl
  obtain ⟨b, e3, h3⟩ := one_ok _ sy 25 (by omega)
  unfold spec_DrawBestOffer
  rw [e0]
  simp only [Option.bind_some]
  rw [e1]
  simp only [Option.bind_some]
  rw [e2]
  simp only [Option.bind_some]
  rw [ey]
  simp only [Option.bind_some]
  rw [e3]
  simp only [Option.bind_some]
  cases b.1 with
  | false => exact ⟨(t.1, t.2.1, y.2.2.2.2), rfl, by show y.2.2.2.2.length ≤ 100; omega⟩
  | true =>
    obtain ⟨v, e4, h4, l4, _, u4⟩ := n_ok b.2 h3 2 (by omega)
    have u4 := u4 (by omega)
    simp only [cond_true]
    rw [e4]
    simp only [Option.bind_some]
    rw [w64 (n := 20 + v.1) (by omega) (by omega)]
    obtain ⟨m, hm⟩ : ∃ m : Nat, 20 + v.1 = (m : Int) := ⟨(20 + v.1).toNat, by omega⟩
    rw [hm, make_some (by omega)]
    exact ⟨(t.1, t.2.1, List.replicate m (0, (0, []))), rfl, by show (List.replicate m _).length ≤ 100; rw [List.length_replicate]; omega⟩
theorem read_draw (code : List Int) (hc : code.length ≤ 1048576) : ∃ u : Str, u.length ≤ 8000 ∧ Ever fun k => spec_DrawTrustRead k code = some u := by
  obtain ⟨s, h0, e0⟩ := source_uni code hc
  obtain ⟨t, e1, h1, _⟩ := trust_ok s h0
  obtain ⟨v, e2, h2, _⟩ := n_ok t.2.2 h1 5 (by omega)
  have hT := trustBytes_len (t.1, t.2.1)
  have eT := sBytes (t.1, t.2.1)
  generalize trustBytes (t.1, t.2.1) = T at hT eT
  have base := (Ever.ge 65 e0).and eT
  by_cases c0 : v.1 = 0
  · obtain ⟨p, ep, _, lp⟩ := spoil_ok v.2 h2 T (by omega)
    refine ⟨p.1, by omega, base.mono fun k ⟨b0, b1⟩ => ?_⟩
    unfold spec_DrawTrustRead
    rw [b0]
    simp only [Option.bind_some]
    rw [e1]
    simp only [Option.bind_some]
    rw [b1]
    simp only [Option.bind_some]
    rw [e2]
    simp only [Option.bind_some]
    rw [c0, ep]
    rfl
  · by_cases c1 : v.1 = 1
    · obtain ⟨w, e3, _, l3, z3, u3⟩ := n_ok v.2 h2 ((T.length : Int) + 1) (by omega)
      have hle : w.1 ≤ (T.length : Int) := by
        by_cases h : (T.length : Int) + 1 ≤ 1
        · rw [z3 h]; omega
        · have := u3 (by omega); omega
      obtain ⟨u, eu, lu⟩ := cut_in (l := T) (i := 0) (j := w.1) (by omega) l3 hle
      refine ⟨u, by omega, base.mono fun k ⟨b0, b1⟩ => ?_⟩
      unfold spec_DrawTrustRead
      rw [b0]
      simp only [Option.bind_some]
      rw [e1]
      simp only [Option.bind_some]
      rw [b1]
      simp only [Option.bind_some]
      rw [e2]
      simp only [Option.bind_some]
      rw [c1, w64 (n := (T.length : Int) + 1) (by omega) (by omega), e3]
      simp only [Option.bind_some]
      rw [eu]
      rfl
    · by_cases c2 : v.1 = 2
      · have lU := unseal_len T
        obtain ⟨p, ep, _, lp⟩ := spoil_ok v.2 h2 (unsealI T).1 (by omega)
        refine ⟨sealOf p.1, by rw [sealOf_len]; omega, ((base.and (sUnseal T (by omega))).and (sSeal p.1 (by omega))).mono fun k ⟨⟨⟨b0, b1⟩, b2⟩, b3⟩ => ?_⟩
        unfold spec_DrawTrustRead
        rw [b0]
        simp only [Option.bind_some]
        rw [e1]
        simp only [Option.bind_some]
        rw [b1]
        simp only [Option.bind_some]
        rw [e2]
        simp only [Option.bind_some]
        rw [c2, b2]
        simp only [Option.bind_some]
        rw [ep]
        simp only [Option.bind_some]
        rw [b3]
        rfl
      · refine ⟨T, by omega, base.mono fun k ⟨b0, b1⟩ => ?_⟩
        unfold spec_DrawTrustRead
        rw [b0]
        simp only [Option.bind_some]
        rw [e1]
        simp only [Option.bind_some]
        rw [b1]
        simp only [Option.bind_some]
        rw [e2]
        simp only [Option.bind_some, beqd]
        rw [decide_eq_false c0, decide_eq_false c1, decide_eq_false c2]
        rfl
/-! the best of some offers -/
/-- What may be said of the best of the first i offers. -/
def Bst (t : G36) (l : List G38) (i : Nat) (b : Int) : Prop := (b = -1 ∨ ∃ q : Nat, b = (q : Int) ∧ q < l.length) ∧ ∀ m, (h : m < l.length) → m < i → codeZ t l[m] = 0 → t.1 < l[m].1 → ∃ q : Nat, ∃ hq : q < l.length, b = (q : Int) ∧ l[m].1 ≤ l[q].1
theorem best_loop (t : G36) (l : List G38) (hl : l.length ≤ 100) : ∀ (d i : Nat) (b : Int), i + d = l.length → Bst t l i b → ∃ b', Bst t l l.length b' ∧ ∀ j, d < j → impl_BestOffer.l0 j l b l (l.length : Int) (i : Int) t.1 t.2 = some (b', t.1, t.2) ∧ spec_BestOffer.l0 j l b (i : Int) t.1 t.2 = some (b', t.1, t.2)
  | 0, i, b, hd, hb => by
    obtain rfl : i = l.length := by omega
    refine ⟨b, hb, fun j hj => ?_⟩
    obtain ⟨j, rfl⟩ : ∃ q, j = q + 1 := ⟨j - 1, by omega⟩
    constructor
    · unfold impl_BestOffer.l0
      rw [decide_eq_false (by omega : ¬ ((l.length : Int) < (l.length : Int)))]
      rfl
    · unfold spec_BestOffer.l0
      rw [decide_eq_false (by omega : ¬ ((l.length : Int) < (l.length : Int)))]
      rfl
  | d + 1, i, b, hd, hb => by
    have hi : i < l.length := by omega
    have ha : at? l (i : Int) = some l[i] := at_nat hi
    have cs : spec_OfferCode (t.1, t.2) l[i] = some (codeZ t l[i]) := sCode t _
    have ci : impl_offerCode (t.1, t.2) l[i] = some (codeZ t l[i]) := iCode t _
    -- going on with the same
    have same : (codeZ t l[i] = 0 → t.1 < l[i].1 → ∃ q : Nat, ∃ hq : q < l.length, b = (q : Int) ∧ l[i].1 ≤ l[q].1) → (∀ j, impl_BestOffer.l0 (j + 1) l b l (l.length : Int) (i : Int) t.1 t.2 = impl_BestOffer.l0 j l b l (l.length : Int) ((i + 1 : Nat) : Int) t.1 t.2 ∧ spec_BestOffer.l0 (j + 1) l b (i : Int) t.1 t.2 = spec_BestOffer.l0 j l b ((i + 1 : Nat) : Int) t.1 t.2) →
        ∃ b', Bst t l l.length b' ∧ ∀ j, d + 1 < j → impl_BestOffer.l0 j l b l (l.length : Int) (i : Int) t.1 t.2 = some (b', t.1, t.2) ∧ spec_BestOffer.l0 j l b (i : Int) t.1 t.2 = some (b', t.1, t.2) := fun h1 h2 => by
      obtain ⟨b', k1, k2⟩ := best_loop t l hl d (i + 1) b (by omega) ⟨hb.1, fun m hm hmi c1 c2 => by
        rcases Nat.eq_or_lt_of_le (Nat.le_of_lt_succ hmi) with rfl | hmi
        · exact h1 c1 c2
        · exact hb.2 m hm hmi c1 c2⟩
      refine ⟨b', k1, fun j hj => ?_⟩
      obtain ⟨j, rfl⟩ : ∃ q, j = q + 1 := ⟨j - 1, by omega⟩
      obtain ⟨s1, s2⟩ := h2 j
      rw [s1, s2]
      exact k2 j (by omega)
    by_cases hc : codeZ t l[i] = 0
    · by_cases hv : t.1 < l[i].1
      · -- it may be the new best
        have new : (b = -1 ∨ ∃ q : Nat, ∃ hq : q < l.length, b = (q : Int) ∧ l[q].1 < l[i].1) → (∀ j, impl_BestOffer.l0 (j + 1) l b l (l.length : Int) (i : Int) t.1 t.2 = impl_BestOffer.l0 j l (i : Int) l (l.length : Int) ((i + 1 : Nat) : Int) t.1 t.2 ∧ spec_BestOffer.l0 (j + 1) l b (i : Int) t.1 t.2 = spec_BestOffer.l0 j l (i : Int) ((i + 1 : Nat) : Int) t.1 t.2) →
            ∃ b', Bst t l l.length b' ∧ ∀ j, d + 1 < j → impl_BestOffer.l0 j l b l (l.length : Int) (i : Int) t.1 t.2 = some (b', t.1, t.2) ∧ spec_BestOffer.l0 j l b (i : Int) t.1 t.2 = some (b', t.1, t.2) := fun h1 h2 => by
          obtain ⟨b', k1, k2⟩ := best_loop t l hl d (i + 1) (i : Int) (by omega) ⟨.inr ⟨i, rfl, hi⟩, fun m hm hmi c1 c2 => by
            rcases Nat.eq_or_lt_of_le (Nat.le_of_lt_succ hmi) with rfl | hmi
            · exact ⟨m, hm, rfl, Int.le_refl _⟩
            · obtain ⟨q, hq, e, le⟩ := hb.2 m hm hmi c1 c2
              rcases h1 with rfl | ⟨q2, hq2, e2, lt⟩
              · omega
              · obtain rfl : q = q2 := by omega
                exact ⟨i, hi, rfl, by omega⟩⟩
          refine ⟨b', k1, fun j hj => ?_⟩
          obtain ⟨j, rfl⟩ : ∃ q, j = q + 1 := ⟨j - 1, by omega⟩
          obtain ⟨s1, s2⟩ := h2 j
          rw [s1, s2]
          exact k2 j (by omega)
        rcases hb.1 with rfl | ⟨q, rfl, hq⟩
        · refine new (.inl rfl) fun j => ⟨?_, ?_⟩
          · conv => lhs; unfold impl_BestOffer.l0
            rw [decide_eq_true (by omega : (i : Int) < (l.length : Int)), ha]
            simp only [cond_true, Option.bind_some]
            rw [ci, wsuc (by omega)]
            simp only [Option.bind_some]
            rw [hc, decide_eq_true hv]
            rfl
          · conv => lhs; unfold spec_BestOffer.l0
            rw [decide_eq_true (by omega : (i : Int) < (l.length : Int)), ha]
            simp only [cond_true, Option.bind_some]
            rw [cs, wsuc (by omega)]
            simp only [Option.bind_some]
            rw [hc, decide_eq_true hv]
            rfl
        · have hq2 : at? l (q : Int) = some l[q] := at_nat hq
          by_cases hlt : l[q].1 < l[i].1
          · refine new (.inr ⟨q, hq, rfl, hlt⟩) fun j => ⟨?_, ?_⟩
            · conv => lhs; unfold impl_BestOffer.l0
              rw [decide_eq_true (by omega : (i : Int) < (l.length : Int)), ha]
              simp only [cond_true, Option.bind_some]
              rw [ci, wsuc (by omega)]
              simp only [Option.bind_some]
              rw [hc, decide_eq_true hv, decide_eq_false (by omega : ¬ ((q : Int) < 0)), hq2]
              simp only [Option.bind_some]
              rw [decide_eq_true hlt]
              rfl
            · conv => lhs; unfold spec_BestOffer.l0
              rw [decide_eq_true (by omega : (i : Int) < (l.length : Int)), ha]
              simp only [cond_true, Option.bind_some]
              rw [cs, wsuc (by omega)]
              simp only [Option.bind_some]
              rw [hc, decide_eq_true hv, decide_eq_false (by omega : ¬ ((q : Int) < 0)), hq2]
              simp only [Option.bind_some]
              rw [decide_eq_true hlt]
              rfl
          · refine same (fun _ _ => ⟨q, hq, rfl, by omega⟩) fun j => ⟨?_, ?_⟩
            · conv => lhs; unfold impl_BestOffer.l0
              rw [decide_eq_true (by omega : (i : Int) < (l.length : Int)), ha]
              simp only [cond_true, Option.bind_some]
              rw [ci, wsuc (by omega)]
              simp only [Option.bind_some]
              rw [hc, decide_eq_true hv, decide_eq_false (by omega : ¬ ((q : Int) < 0)), hq2]
              simp only [Option.bind_some]
              rw [decide_eq_false hlt]
              rfl
            · conv => lhs; unfold spec_BestOffer.l0
              rw [decide_eq_true (by omega : (i : Int) < (l.length : Int)), ha]
              simp only [cond_true, Option.bind_some]
              rw [cs, wsuc (by omega)]
              simp only [Option.bind_some]
              rw [hc, decide_eq_true hv, decide_eq_false (by omega : ¬ ((q : Int) < 0)), hq2]
              simp only [Option.bind_some]
              rw [decide_eq_false hlt]
              rfl
      · refine same (fun _ h => absurd h hv) fun j => ⟨?_, ?_⟩
        · conv => lhs; unfold impl_BestOffer.l0
          rw [decide_eq_true (by omega : (i : Int) < (l.length : Int)), ha]
          simp only [cond_true, Option.bind_some]
          rw [ci, wsuc (by omega)]
          simp only [Option.bind_some]
          rw [hc, decide_eq_false hv]
          rfl
        · conv => lhs; unfold spec_BestOffer.l0
          rw [decide_eq_true (by omega : (i : Int) < (l.length : Int)), ha]
          simp only [cond_true, Option.bind_some]
          rw [cs, wsuc (by omega)]
          simp only [Option.bind_some]
          rw [hc, decide_eq_false hv]
          rfl
    · have hc0 : (codeZ t l[i] == 0) = false := by simpa using hc
      refine same (fun h => absurd h hc) fun j => ⟨?_, ?_⟩
      · conv => lhs; unfold impl_BestOffer.l0
        rw [decide_eq_true (by omega : (i : Int) < (l.length : Int)), ha]
        simp only [cond_true, Option.bind_some]
        rw [ci, wsuc (by omega)]
        simp only [Option.bind_some]
        rw [hc0]
        rfl
      · conv => lhs; unfold spec_BestOffer.l0
        rw [decide_eq_true (by omega : (i : Int) < (l.length : Int)), ha]
        simp only [cond_true, Option.bind_some]
        rw [cs, wsuc (by omega)]
        simp only [Option.bind_some]
        rw [hc0]
        rfl
theorem best_ok (t : G36) (l : List G38) (hl : l.length ≤ 100) (k : Nat) (hk : 101 ≤ k) : ∃ b : Int, (impl_BestOffer k t l = some b ∧ spec_BestOffer k t l = some b) ∧ ∀ m, (h : m < l.length) → l.length ≤ 20 → codeZ t l[m] = 0 → t.1 < l[m].1 → ∃ q : Nat, ∃ hq : q < l.length, b = (q : Int) ∧ l[m].1 ≤ l[q].1 := by
  by_cases hr : trustB t = true
  · by_cases h20 : l.length ≤ 20
    · obtain ⟨b, hb, hloop⟩ := best_loop t l hl l.length 0 (-1) (by omega) ⟨.inl rfl, fun m h hm => absurd hm (Nat.not_lt_zero m)⟩
      refine ⟨b, ?_, fun m h _ => hb.2 m h h⟩
      obtain ⟨h1, h2⟩ := hloop k (by omega)
      have h1 : impl_BestOffer.l0 k l (-1) l (l.length : Int) 0 t.1 t.2 = some (b, t.1, t.2) := h1
      have h2 : spec_BestOffer.l0 k l (-1) 0 t.1 t.2 = some (b, t.1, t.2) := h2
      constructor
      · unfold impl_BestOffer
        rw [iTrust, hr, decide_eq_false (by omega : ¬ (20 < (l.length : Int)))]
        simp only [Option.bind_some, Bool.not_true, Bool.or_false, cond_false]
        rw [h1]
        rfl
      · unfold spec_BestOffer
        rw [sTrust, hr, decide_eq_false (by omega : ¬ (20 < (l.length : Int)))]
        simp only [Option.bind_some, Bool.not_true, Bool.or_false, cond_false]
        rw [h2]
        rfl
    · refine ⟨-1, ⟨?_, ?_⟩, fun m h h2 => absurd h2 h20⟩
      · unfold impl_BestOffer
        rw [iTrust, decide_eq_true (by omega : (20 < (l.length : Int)))]
        simp only [Option.bind_some, Bool.or_true, cond_true]
      · unfold spec_BestOffer
        rw [sTrust, decide_eq_true (by omega : (20 < (l.length : Int)))]
        simp only [Option.bind_some, Bool.or_true, cond_true]
  · have hr : trustB t = false := Bool.eq_false_iff.2 hr
    refine ⟨-1, ⟨?_, ?_⟩, fun m h _ c => ?_⟩
    · unfold impl_BestOffer
      rw [iTrust, hr]
      rfl
    · unfold spec_BestOffer
      rw [sTrust, hr]
      rfl
    · exfalso
      unfold codeZ at c
      rw [if_neg (by rw [hr]; simp)] at c
      cases c
theorem law_loop (t : G36) (l : List G38) (hl : l.length ≤ 100) (b : Int) (hb : ∀ m, (h : m < l.length) → l.length ≤ 20 → codeZ t l[m] = 0 → t.1 < l[m].1 → ∃ q : Nat, ∃ hq : q < l.length, b = (q : Int) ∧ l[m].1 ≤ l[q].1) : ∀ k, 101 ≤ k → laws_FnTrust.l0 k b 0 t.1 t.2 l = some (.inl (t.1, t.2)) := by
  suffices h : ∀ k, l.length < k → laws_FnTrust.l0 k b 0 t.1 t.2 l = some (.inl (t.1, t.2)) from fun k hk => h k (by omega)
  refine loop_at (fun j i => laws_FnTrust.l0 j b (i : Int) t.1 t.2 l) l.length _ (fun i hi j => ?_) fun j => ?_
  · have ha : at? l (i : Int) = some l[i] := at_nat hi
    have cs : spec_OfferCode (t.1, t.2) l[i] = some (codeZ t l[i]) := sCode t _
    conv => lhs; unfold laws_FnTrust.l0
    rw [decide_eq_true (by omega : (i : Int) < (l.length : Int)), ha]
    simp only [cond_true, Option.bind_some]
    rw [cs, wsuc (by omega)]
    simp only [Option.bind_some]
    by_cases hc : codeZ t l[i] = 0
    · rw [hc]
      simp only [show ((0 : Int) == 0) = true from rfl, cond_true]
      by_cases hv : t.1 < l[i].1
      · rw [decide_eq_true hv]
        by_cases h20 : l.length ≤ 20
        · obtain ⟨q, hq, rfl, le⟩ := hb i hi h20 hc hv
          have hq2 : at? l (q : Int) = some l[q] := at_nat hq
          rw [decide_eq_true (by omega : (l.length : Int) ≤ 20), decide_eq_false (by omega : ¬ ((q : Int) < 0)), hq2]
          simp only [cond_true, cond_false, Option.bind_some]
          rw [decide_eq_false (by omega : ¬ (l[q].1 < l[i].1))]
          rfl
        · rw [decide_eq_false (by omega : ¬ ((l.length : Int) ≤ 20))]
          rfl
      · rw [decide_eq_false hv]
        rfl
    · rw [show (codeZ t l[i] == 0) = false by simpa using hc]
      rfl
  · conv => lhs; unfold laws_FnTrust.l0
    rw [decide_eq_false (by omega : ¬ ((l.length : Int) < (l.length : Int)))]
    rfl
end Tru
theorem Tru.last (t : G36) (o : G38) (g : Bool) (hx : (settleZ t o g).2.2 = 0) : trustB ((settleZ t o g).1, (settleZ t o g).2.1) = true ∧ t.2 ≤ (settleZ t o g).2.1 ∧ t.2 ≤ o.1 ∧ (g = false → (settleZ t o g).1 = t.1 ∧ (settleZ t o g).2.1 = t.2) ∧ (g = true → (settleZ t o g).1 = o.1 ∧ codeZ ((settleZ t o g).1, (settleZ t o g).2.1) o = 7) := by
  have hc : codeZ t o = 0 := by
    unfold settleZ at hx
    split at hx
    · assumption
    · exact hx
  have hc' := hc
  unfold codeZ at hc'
  split at hc'
  · rename_i ht
    split at hc'
    · rename_i ho
      split at hc'
      · cases hc'
      · rename_i h1
        have bt := trustB_is ht
        have bo := offerB_is ho
        unfold settleZ
        rw [if_pos hc]
        cases g with
        | false => exact ⟨ht, Int.le_refl _, by omega, fun _ => ⟨rfl, rfl⟩, fun h => by cases h⟩
        | true =>
          have hm : t.2 ≤ imax t.2 o.2.1 ∧ imax t.2 o.2.1 ≤ o.1 := by
            unfold imax
            constructor
            · split <;> omega
            · split <;> omega
          have htr : trustB (o.1, imax t.2 o.2.1) = true := by
            unfold trustB
            simp only [Bool.and_eq_true, decide_eq_true_eq]
            omega
          refine ⟨htr, hm.1, by omega, fun h => (by cases h), fun _ => ⟨rfl, ?_⟩⟩
          show codeZ (o.1, imax t.2 o.2.1) o = 7
          unfold codeZ
          rw [if_pos htr, if_pos ho, if_neg (by show ¬ (o.1 < imax t.2 o.2.1); omega), if_pos rfl]
    · cases hc'
  · cases hc'
open Tru in
theorem laws_FnTrust.proved : laws_FnTrust.Pure := by
  intro c1 c2 _ _
  by_cases hb : 1048576 < c1.length ∨ 1048576 < c2.length
  · refine ⟨0, ?_⟩
    unfold laws_FnTrust
    rcases hb with hb | hb
    · rw [decide_eq_true (by omega : 1048576 < (c1.length : Int))]; rfl
    · rw [decide_eq_true (by omega : 1048576 < (c2.length : Int)), Bool.or_true]; rfl
  obtain ⟨t, n1, n2, ht⟩ := settle_draw c1 (by omega)
  obtain ⟨u, lu, hu⟩ := read_draw c2 (by omega)
  obtain ⟨K, hK⟩ := (((((hu.and (sRead u lu)).and (iRead u lu)).and (sBytes t)).and (iBytes t)).and (iRead (trustBytes t) (by have := trustBytes_len t; omega)))
  refine ⟨K + 9300, ?_⟩
  obtain ⟨⟨⟨⟨⟨h1, h2⟩, h3⟩, h4⟩, h5⟩, h6⟩ := hK (K + 9300) (by omega)
  generalize hk : K + 9300 = k at h1 h2 h3 h4 h5 h6 ⊢
  obtain ⟨d, hd, _⟩ := sDigest_some ([111] : Str) (by simp) k (by omega)
  obtain ⟨o, g, h7⟩ := ht k (by omega) ⟨d, hd⟩
  obtain ⟨w, h8, lw⟩ := best_draw k (by omega) ⟨d, hd⟩ c2 (by omega)
  obtain ⟨b, ⟨h9, h10⟩, hbest⟩ := best_ok (w.1, w.2.1) w.2.2 lw k (by omega)
  have hloop := law_loop (w.1, w.2.1) w.2.2 lw b hbest k (by omega)
  have hset : impl_Settle (t.1, t.2) (o.1, (o.2.1, o.2.2)) g = some (settleZ t o g) := iSettle t o g
  have sset : spec_Settle (t.1, t.2) (o.1, (o.2.1, o.2.2)) g = some (settleZ t o g) := sSettle t o g
  have hcode : impl_OfferCode (t.1, t.2) (o.1, (o.2.1, o.2.2)) = some (codeZ t o) := by
    unfold impl_OfferCode
    rw [show impl_offerCode (t.1, t.2) (o.1, (o.2.1, o.2.2)) = some (codeZ t o) from iCode t o]
    rfl
  have scode : spec_OfferCode (t.1, t.2) (o.1, (o.2.1, o.2.2)) = some (codeZ t o) := sCode t o
  have htr : impl_TrustRight (t.1, t.2) = some (trustB t) := by
    unfold impl_TrustRight
    rw [show impl_isTrust (t.1, t.2) = some (trustB t) from iTrust t]
    rfl
  have str : spec_TrustRight (t.1, t.2) = some (trustB t) := sTrust t
  have hor : impl_OfferRight (o.1, (o.2.1, o.2.2)) = some (offerB o) := by
    unfold impl_OfferRight
    rw [show impl_isOffer (o.1, (o.2.1, o.2.2)) = some (offerB o) from iOffer o]
    rfl
  have sor : spec_OfferRight (o.1, (o.2.1, o.2.2)) = some (offerB o) := sOffer o
  have h4 : spec_TrustBytes k (t.1, t.2) = some (trustBytes t) := h4
  have h5 : impl_TrustBytes k (t.1, t.2) = some (trustBytes t) := h5
  have hloop : laws_FnTrust.l0 k b 0 w.1 w.2.1 w.2.2 = some (.inl (w.1, w.2.1)) := hloop
  -- what comes behind the loop
  have tail : (bif (settleZ t o g).2.2 != 0 then some true else
      Option.bind (impl_TrustRight ((settleZ t o g).1, (settleZ t o g).2.1)) fun v31 =>
        bif ((!v31) || decide ((settleZ t o g).2.1 < t.2)) || decide (o.1 < t.2) then some false
        else bif (!g) && (((settleZ t o g).1 == t.1) && ((settleZ t o g).2.1 == t.2)) then some true
        else bif g && ((settleZ t o g).1 == o.1) then
          Option.bind (impl_OfferCode ((settleZ t o g).1, (settleZ t o g).2.1) (o.1, (o.2.1, o.2.2))) fun v32 => some (v32 == 7)
        else some false) = some true := by
    by_cases hx : (settleZ t o g).2.2 = 0
    · obtain ⟨a1, a2, a3, a4, a5⟩ := Tru.last t o g hx
      rw [hx, show ((0 : Int) != 0) = false from rfl, cond_false]
      have e1 : impl_TrustRight ((settleZ t o g).1, (settleZ t o g).2.1) = some true := by
        unfold impl_TrustRight
        rw [iTrust, a1]
        rfl
      rw [e1]
      simp only [Option.bind_some]
      rw [decide_eq_false (by omega : ¬ ((settleZ t o g).2.1 < t.2)), decide_eq_false (by omega : ¬ (o.1 < t.2))]
      cases g with
      | false =>
        obtain ⟨b1, b2⟩ := a4 rfl
        rw [b1, b2]
        simp
      | true =>
        obtain ⟨b1, b2⟩ := a5 rfl
        have e2 : impl_OfferCode ((settleZ t o true).1, (settleZ t o true).2.1) (o.1, (o.2.1, o.2.2)) = some 7 := by
          unfold impl_OfferCode
          rw [show impl_offerCode ((settleZ t o true).1, (settleZ t o true).2.1) (o.1, (o.2.1, o.2.2)) = some (codeZ ((settleZ t o true).1, (settleZ t o true).2.1) o) from iCode _ o, b2]
          rfl
        rw [e2, b1]
        simp
    · rw [show ((settleZ t o g).2.2 != 0) = true by simpa using hx]
      rfl
  unfold laws_FnTrust
  rw [decide_eq_false (by omega : ¬ (1048576 < (c1.length : Int))), decide_eq_false (by omega : ¬ (1048576 < (c2.length : Int))), h7]
  simp only [Bool.or_false, cond_false, Option.bind_some]
  rw [hset, h8]
  simp only [Option.bind_some]
  rw [h9, h1, h5, sset]
  simp only [Option.bind_some, beq_self_eq_true, Bool.and_self, Bool.not_true, cond_false]
  rw [h10]
  simp only [Option.bind_some, bne_self_eq_false, cond_false]
  rw [h3, h2]
  simp only [Option.bind_some, beq_self_eq_true, Bool.and_self, Bool.not_true, cond_false]
  rw [h4, hcode, scode, htr, str, hor, sor]
  simp only [Option.bind_some, beq_self_eq_true, bne_self_eq_false, Bool.not_true, cond_false]
  by_cases he : trustBytes t = []
  · rw [he, show (([] : Str) == []) = true from rfl]
    simp only [Bool.not_true, cond_false]
    rw [hloop]
    exact tail
  · have hT : trustB t = true := by
      cases hT : trustB t with
      | true => rfl
      | false => exact absurd (by unfold trustBytes; rw [hT]; rfl) he
    rw [show (trustBytes t == []) = false by simpa using he]
    simp only [Bool.not_false, cond_true]
    rw [h6, read_bytes t hT]
    simp only [Option.bind_some, beq_self_eq_true, Bool.and_self, Bool.not_true, cond_false]
    rw [hloop]
    exact tail
end Go.Proofs.YtnmbinfgcgjfbaaE

namespace Go.Proofs.Ytnmbinfgcgjfbaa.fnTrust
open Go Go.ChangeShapes Go.WideShapes Go.ChangeAt Go.RowKit Go.Proofs.YtnmbinfgcgjfbaaE
set_option linter.unusedVariables false
theorem own : ownKnob Try.prog.godebug = none := by kernel_rfl
theorem laidOut : laidOutB Try.prog = true := by kernel_rfl
theorem go (k : Nat) (y0 : List Int) (y1 : List Int) : (laws_FnTrust.con k).f [argC false (.sl (.int .u8)) y0, argC false (.sl (.int .u8)) y1] = .opt (Prod' laws_FnTrust.sig.outs) (laws_FnTrust k y0 y1) laws_FnTrust.sig.enc := by kernel_rfl
set_option maxRecDepth 100000 in
theorem lifted (os : Os) (started : os.Started) (H : Type) (enc : TypeId × Value → H) :
    ReturnsInHanded {} Try.checked os 4 .any (Rows.fnTrustSpec.pre6 enc Try.prog Try.f4 Rows.fnTrustRow.domain false) (Rows.fnTrustSpec.post enc Try.prog Try.f4 false true false false) := by
  refine returnsInHanded_of_change_sized (C := Try.checked) own started (by kernel_rfl) Try.func4
    (ChangeSpec.witness6 (enc := enc) (C := Try.checked) false ⟨#[], #[.slice none 0 0, .slice none 0 0], []⟩ 8 (by kernel_rfl) (by kernel_rfl) (by kernel_rfl) (by kernel_rfl)) ?_
  intro W base args ds gs before hval0 hW hcnd hsz0 _
  have hsz : (DataW.weightsEach Try.prog (Try.f4.params.toList ++ Rows.fnTrustSpec.plain.varTypes Try.prog) (ds ++ gs)).all (· ≤ reachBytes) = true := hsz0
  have hval : ∀ (j : Nat) t v, Try.f4.params[j]? = some t → args[j]? = some v → Value.okWide Try.prog W .any base t v := hval0
  have hW' := hW
  obtain ⟨p, q, hA0, hV, rfl, hfz, hnd⟩ := hW
  have hA : DataW.TrodAll enc Try.prog W 0 (fun _ => true) true Try.f4.params.toList args.toList ds p := hA0
  rw [Try.params4] at hA hval hsz
  obtain ⟨v0, vs0, d0, ds0, p0, q0, hargs, rfl, rfl, h0, r0⟩ := trodAll_cons hA
  obtain ⟨v1, vs1, d1, ds1, p1, q1, rfl, rfl, rfl, h1, r1⟩ := trodAll_cons r0
  obtain ⟨rfl, rfl, rfl⟩ := trodAll_nil r1
  obtain rfl : args = #[v0, v1] := by cases args; simp_all
  obtain ⟨rfl, rfl⟩ := trodVars_none hV
  have lt0 := trod_lt_all h0
  have z0 := weights_arg hsz (j := 0) (t := 22) rfl rfl
  obtain ⟨y0, b0, c0⟩ := arg_rep (ty := (.sl (.int .u8))) (n := 20) (ag := false) (by kernel_rfl) (by kernel_rfl) (hval 0 22 v0 rfl rfl) h0 z0
  have lt1 := trod_lt_all h1
  have z1 := weights_arg hsz (j := 1) (t := 22) rfl rfl
  obtain ⟨y1, b1, c1⟩ := arg_rep (ty := (.sl (.int .u8))) (n := 20) (ag := false) (by kernel_rfl) (by kernel_rfl) (hval 1 22 v1 rfl rfl) h1 z1
  obtain ⟨k, hp⟩ := laws_FnTrust.proved y0 y1 b0 b1
  have hrr : ((laws_FnTrust.con k).f [argC false (.sl (.int .u8)) y0, argC false (.sl (.int .u8)) y1]).val = some ⟨[.val false [.leaf (.bool true)]], []⟩ := by
    refine (congrArg CR.val (go k y0 y1)).trans ?_
    rw [hp]
    kernel_rfl
  refine (law_true (laws_FnTrust.ok k) hrr (vs := [v0, v1]) (cargs_cons (c0 _) (cargs_cons (c1 _) cargs_nil))).mono fun e W' ⟨he, bel0⟩ => ?_
  have bel : Below W.heap.size W W' := bel0
  subst he
  exact ⟨_, rfl, _, _, _, [], _, [], hW', trodAll_mk1 (shutB Try.underlying4 _), (trodAll_cons_mk (Below.trod laidOut (by kernel_rfl) (of_decide_eq_true (by kernel_rfl)) h0 bel lt0) (trodAll_cons_mk (Below.trod laidOut (by kernel_rfl) (of_decide_eq_true (by kernel_rfl)) h1 bel lt1) trodAll_mk0)), rfl, bel.frame _, fun h => by cases h⟩
theorem over : Rows.fnTrustRow.holds Try.pinned (OpenSpec.ofChange Rows.fnTrustSpec) :=
  OpenClaim.holds_of_wide 4 Try.f4 rfl rfl rfl rfl rfl rfl rfl ⟨rfl, rfl, rfl, rfl, rfl⟩ rfl rfl rfl rfl rfl (by kernel_rfl) Try.func4 (by kernel_rfl)
    (of_decide_eq_true (by kernel_rfl)) (by unfold Func.isWrapper; first | (rw [if_pos (by decide +kernel)]; kernel_rfl) | (rw [if_neg (by decide +kernel)]; exact ⟨rfl, rfl⟩))
    (fun os started H enc _ => lifted os started H enc)
theorem proved : Rows.FnTrustSaid := over
end Go.Proofs.Ytnmbinfgcgjfbaa.fnTrust
namespace Go.Proofs.Ytnmbinfgcgjfbaa
/-- The row, under a short name, for the claim. -/
theorem fnTrust_holds : Rows.FnTrustSaid := fnTrust.proved
#print axioms fnTrust_holds
end Go.Proofs.Ytnmbinfgcgjfbaa
