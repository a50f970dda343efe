/- What the law FnExactFeedPut needs, part 7 of 7: the Lean functions of the Go functions that it reaches, with the proofs that the calls come to what they say, and plain facts about them; the last theorem is the law. Conditions: those that each theorem states. Written by a session and by its programs (after the kit's printer). -/
import Derived.Laws.BitsLemmas
import Derived.Test.YtnmbinfgcgjfbaaRows
import Derived.Carry
import Derived.Handed
import Derived.Test.YtnmbinfgcgjfbaaXFnExactFeedPut4
import Derived.Test.YtnmbinfgcgjfbaaXFnExactFeedPut5
namespace Go.Proofs.YtnmbinfgcgjfbaaE
open Go
set_option linter.unusedVariables false
theorem u8w (n : Int) : IntKind.wrap .u8 n = n % 256 := by simp [IntKind.wrap, IntKind.bits, IntKind.signed]
theorem u32w (n : Int) : IntKind.wrap .u32 n = n % 4294967296 := by simp [IntKind.wrap, IntKind.bits, IntKind.signed]
theorem u64w (n : Int) : IntKind.wrap .u64 n = n % 18446744073709551616 := by simp [IntKind.wrap, IntKind.bits, IntKind.signed]
theorem bx32 (a b : Nat) (ha : a < 4294967296) (hb : b < 4294967296) : intBits .xor .u32 (a : Int) (b : Int) = ((a ^^^ b : Nat) : Int) := by
  have hx : a ^^^ b < 2 ^ 32 := Nat.xor_lt_two_pow (by omega) (by omega)
  show IntKind.wrap .u32 (((BitVec.ofInt 32 (a : Int)) ^^^ (BitVec.ofInt 32 (b : Int))).toNat : Int) = _
  rw [BitVec.ofInt_natCast, BitVec.ofInt_natCast, BitVec.toNat_xor, BitVec.toNat_ofNat, BitVec.toNat_ofNat, u32w, Nat.mod_eq_of_lt (show a < 2 ^ 32 by omega), Nat.mod_eq_of_lt (show b < 2 ^ 32 by omega)]
  omega
theorem band1 (a : Nat) (ha : a < 4294967296) : intBits .and .u32 (a : Int) 1 = ((a % 2 : Nat) : Int) := by
  have h : a &&& 1 = a % 2 := Nat.and_one_is_mod a
  show IntKind.wrap .u32 (((BitVec.ofInt 32 (a : Int)) &&& (BitVec.ofInt 32 ((1 : Nat) : Int))).toNat : Int) = _
  rw [BitVec.ofInt_natCast, BitVec.ofInt_natCast, BitVec.toNat_and, BitVec.toNat_ofNat, BitVec.toNat_ofNat, u32w, Nat.mod_eq_of_lt (show a < 2 ^ 32 by omega), Nat.mod_eq_of_lt (show 1 < 2 ^ 32 by omega), h]
  omega
theorem band64 (a : Nat) (ha : a < 18446744073709551616) : intBits .and .u64 (a : Int) 1 = ((a % 2 : Nat) : Int) := by
  have h : a &&& 1 = a % 2 := Nat.and_one_is_mod a
  show IntKind.wrap .u64 (((BitVec.ofInt 64 (a : Int)) &&& (BitVec.ofInt 64 ((1 : Nat) : Int))).toNat : Int) = _
  rw [BitVec.ofInt_natCast, BitVec.ofInt_natCast, BitVec.toNat_and, BitVec.toNat_ofNat, BitVec.toNat_ofNat, u64w, Nat.mod_eq_of_lt (show a < 2 ^ 64 by omega), Nat.mod_eq_of_lt (show 1 < 2 ^ 64 by omega), h]
  omega
theorem bor64 (a b : Nat) (ha : a < 18446744073709551616) (hb : b < 18446744073709551616) : intBits .or .u64 (a : Int) (b : Int) = ((a ||| b : Nat) : Int) := by
  show IntKind.wrap .u64 (((BitVec.ofInt 64 (a : Int)) ||| (BitVec.ofInt 64 (b : Int))).toNat : Int) = _
  have hx : a ||| b < 2 ^ 64 := Nat.or_lt_two_pow (by omega) (by omega)
  rw [BitVec.ofInt_natCast, BitVec.ofInt_natCast, BitVec.toNat_or, BitVec.toNat_ofNat, BitVec.toNat_ofNat, u64w, Nat.mod_eq_of_lt (show a < 2 ^ 64 by omega), Nat.mod_eq_of_lt (show b < 2 ^ 64 by omega)]
  omega
theorem and127 : ∀ a : Nat, a < 256 → intBits .and .u8 ((a : Nat) : Int) 127 = ((a % 128 : Nat) : Int) := by decide +kernel
theorem noti64 (a : Nat) (h : a < 9223372036854775808) : intBits .xor .i64 (-1) (a : Int) = -(a : Int) - 1 := by
  show IntKind.wrap .i64 (((BitVec.ofInt 64 (-1)) ^^^ (BitVec.ofInt 64 (a : Int))).toNat : Int) = _
  have e : (BitVec.ofInt 64 (-1)) = BitVec.allOnes 64 := by decide
  rw [BitVec.ofInt_natCast, e, BitVec.allOnes_xor, BitVec.toNat_not, BitVec.toNat_ofNat, IntKind.wrap_i64, Nat.mod_eq_of_lt (show a < 2 ^ 64 by omega)]
  omega
theorem shr_nat (k : IntKind) (r m : Nat) (h : m ≤ k.bits) : shr k (r : Int) (m : Int) = ((r / 2 ^ m : Nat) : Int) := by
  unfold shr
  rw [Int.toNat_natCast, Nat.min_eq_left h, Int.fdiv_eq_ediv_of_nonneg _ (by exact Int.le_of_lt (Int.pow_pos (by omega)))]
  push_cast
  rfl
theorem byte_lt (c : UInt8) : c.toNat < 256 := c.toNat_lt
theorem byte_of (c : UInt8) : UInt8.ofNat ((c.toNat : Nat) : Int).toNat = c := by simp
/-! ### the CRC -/
def crcBit (r : Nat) : Nat := if r % 2 = 1 then (r / 2) ^^^ 3988292384 else r / 2
def crcBits : Nat → Nat → Nat
  | 0, r => r
  | n + 1, r => crcBits n (crcBit r)
def crcRun : Str → Nat → Nat
  | [], r => r
  | c :: l, r => crcRun l (crcBits 8 (r ^^^ c.toNat))
def crcOf (c : Nat) (s : Str) : Nat := (crcRun s (c ^^^ 4294967295)) ^^^ 4294967295
theorem x32 {a b : Nat} (ha : a < 4294967296) (hb : b < 4294967296) : a ^^^ b < 4294967296 := Nat.xor_lt_two_pow (n := 32) ha hb
theorem crcBit_lt {r : Nat} (h : r < 4294967296) : crcBit r < 4294967296 := by
  unfold crcBit
  split
  · exact x32 (by omega) (by omega)
  · omega
theorem crcBits_lt : ∀ (n : Nat) {r : Nat}, r < 4294967296 → crcBits n r < 4294967296
  | 0, _, h => h
  | n + 1, _, h => crcBits_lt n (crcBit_lt h)
theorem crcRun_lt : ∀ (l : Str) {r : Nat}, r < 4294967296 → crcRun l r < 4294967296
  | [], _, h => h
  | c :: l, r, h => crcRun_lt l (crcBits_lt 8 (x32 h (by have := byte_lt c; omega)))
theorem crcOf_lt {c : Nat} (s : Str) (h : c < 4294967296) : crcOf c s < 4294967296 := x32 (crcRun_lt _ (x32 h (by omega))) (by omega)
/-- The four bytes of a CRC. -/
def four (n : Nat) : Str := listByte [((n % 256 : Nat) : Int), ((n / 256 % 256 : Nat) : Int), ((n / 65536 % 256 : Nat) : Int), ((n / 16777216 % 256 : Nat) : Int)]
def sealOf (s : Str) : Str := s ++ four (crcOf 0 s)
theorem four_len (n : Nat) : (four n).length = 4 := rfl
theorem sealOf_len (s : Str) : (sealOf s).length = s.length + 4 := by unfold sealOf; rw [List.length_append, four_len]
/-- What stands ahead of the seal. -/
def bodyOf (s : Str) : Str := s.take (s.length - 4)
theorem body_len (s : Str) : (bodyOf s).length = s.length - 4 := by unfold bodyOf; simp
theorem seal_inj {a b : Str} : sealOf a = sealOf b ↔ a = b := by
  constructor
  · intro h
    exact List.append_inj_left' h (by rw [four_len, four_len])
  · rintro rfl; rfl
theorem tail_iff (s : Str) : (four (crcOf 0 (bodyOf s)) = s.drop (s.length - 4)) ↔ sealOf (bodyOf s) = s := by
  have e : s = bodyOf s ++ s.drop (s.length - 4) := (List.take_append_drop _ _).symm
  unfold sealOf
  constructor
  · intro h; rw [h]; exact e.symm
  · intro h
    exact List.append_cancel_left (h.trans e)
theorem body_seal (s : Str) : bodyOf (sealOf s) = s := by
  unfold bodyOf
  rw [sealOf_len, Nat.add_sub_cancel]
  unfold sealOf
  simp
def unsealI (s : Str) : Str × Int := if s.length < 4 then ([], 4) else if sealOf (bodyOf s) = s then (bodyOf s, 0) else ([], 5)
theorem unseal_ok {s : Str} (h : (unsealI s).2 = 0) : unsealI s = (bodyOf s, 0) ∧ sealOf (bodyOf s) = s ∧ 4 ≤ s.length := by
  unfold unsealI at h ⊢
  by_cases h4 : s.length < 4
  · rw [if_pos h4] at h; simp at h
  · rw [if_neg h4] at h ⊢
    by_cases he : sealOf (bodyOf s) = s
    · rw [if_pos he]; exact ⟨rfl, he, by omega⟩
    · rw [if_neg he] at h; simp at h
theorem unseal_no {s : Str} (h : (unsealI s).2 ≠ 0) : (unsealI s).1 = [] := by
  unfold unsealI at h ⊢
  by_cases h4 : s.length < 4
  · rw [if_pos h4]
  · rw [if_neg h4] at h ⊢
    by_cases he : sealOf (bodyOf s) = s
    · rw [if_pos he] at h; exact absurd rfl h
    · rw [if_neg he]
theorem unseal_len (s : Str) : (unsealI s).1.length ≤ s.length := by
  unfold unsealI
  split
  · simp
  · split
    · rw [body_len]; omega
    · simp
theorem unseal_seal (s : Str) : unsealI (sealOf s) = (s, 0) := by
  unfold unsealI
  rw [body_seal, if_neg (by rw [sealOf_len]; omega), if_pos rfl]
/-! ### numbers as bytes -/
/-- The zigzag number. -/
def zig (n : Int) : Nat := if n < 0 then (-2 * n - 1).toNat else (2 * n).toNat
/-- The groups of seven bits of a number, as bytes; f: a bound on their count. -/
def groups : Nat → Nat → List Int
  | 0, _ => []
  | f + 1, u => if 128 ≤ u then ((u % 128 + 128 : Nat) : Int) :: groups f (u / 128) else [(u : Int)]
def putOf (n : Int) : Str := listByte (groups 10 (zig n))
def Num (n : Int) : Prop := -9223372036854775808 ≤ n ∧ n < 9223372036854775808
theorem zig_lt {n : Int} (h : Num n) : zig n < 18446744073709551616 := by unfold Num at h; unfold zig; split <;> omega
theorem groups_len : ∀ (f u : Nat), (groups f u).length ≤ f
  | 0, _ => by simp [groups]
  | f + 1, u => by
    unfold groups
    split
    · simp only [List.length_cons]; have := groups_len f (u / 128); omega
    · simp
theorem listByte_len (l : List Int) : (listByte l).length = l.length := by simp [listByte]
theorem putOf_len (n : Int) : (putOf n).length ≤ 10 := by
  unfold putOf
  rw [listByte_len]
  exact groups_len 10 _
theorem putOf_pos (n : Int) : 1 ≤ (putOf n).length := by
  unfold putOf
  rw [listByte_len]
  unfold groups
  split <;> simp
def putTextOf (s : Str) : Str := putOf (s.length : Int) ++ s
theorem putTextOf_len (s : Str) : (putTextOf s).length ≤ 10 + s.length := by
  unfold putTextOf
  have := putOf_len (s.length : Int)
  rw [List.length_append]
  omega
/-! ### numbers, read back -/
def unz (u : Nat) : Int := if u % 2 = 1 then -((u / 2 : Nat) : Int) - 1 else ((u / 2 : Nat) : Int)
/-- A number's groups, read: the number, how many bytes, the code. -/
def gn : Nat → Nat → Nat → Str → Int × Nat × Int
  | 0, _, _, _ => (0, 0, 3)
  | _ + 1, _, _, [] => (0, 0, 4)
  | f + 1, i, u, b :: l => if i = 9 ∧ 1 < b.toNat then (0, 0, 3) else if 128 ≤ b.toNat then gn f (i + 1) (u + b.toNat % 128 * 128 ^ i) l else if b.toNat = 0 ∧ 0 < i then (0, 0, 3) else (unz (u + b.toNat % 128 * 128 ^ i), i + 1, 0)
/-- What the readers make of it: the number, the place behind it, the code. -/
def fin (a : Nat) (r : Int × Nat × Int) : Int × Int × Int := if r.2.2 = 0 then (r.1, ((a + r.2.1 : Nat) : Int), 0) else (0, 0, r.2.2)
def getNumZ (s : Str) (a : Nat) : Int × Int × Int := fin a (gn 10 0 0 (s.drop a))
theorem p128 (i : Nat) : (2 : Nat) ^ (7 * i) = 128 ^ i := by rw [Nat.pow_mul]
theorem step_lt {i u b : Nat} (_ : i ≤ 8) (hu : u < 128 ^ i) : u + b % 128 * 128 ^ i < 128 ^ (i + 1) := by
  have h1 : b % 128 ≤ 127 := by omega
  have h2 : b % 128 * 128 ^ i ≤ 127 * 128 ^ i := Nat.mul_le_mul_right _ h1
  rw [Nat.pow_succ]
  omega
theorem pow_le9 {i : Nat} (hi : i ≤ 9) : 128 ^ i ≤ 9223372036854775808 := by
  have : 128 ^ i ≤ 128 ^ 9 := Nat.pow_le_pow_right (by omega) hi
  simpa using this
theorem term_lt {i b : Nat} (hi : i ≤ 9) (h9 : i = 9 → b ≤ 1) : b % 128 * 128 ^ i < 18446744073709551616 := by
  by_cases h : i = 9
  · have := h9 h
    subst h
    have : b % 128 ≤ 1 := by omega
    have := Nat.mul_le_mul_right (128 ^ 9) this
    simp at this ⊢
    omega
  · have h1 : 128 ^ i ≤ 128 ^ 8 := Nat.pow_le_pow_right (by omega) (by omega)
    have h2 : b % 128 ≤ 127 := by omega
    have := Nat.mul_le_mul h2 h1
    simp at this
    omega
theorem sum_lt {i u b : Nat} (hi : i ≤ 9) (hu : u < 128 ^ i) (h9 : i = 9 → b ≤ 1) : u + b % 128 * 128 ^ i < 18446744073709551616 := by
  by_cases h : i = 9
  · have := h9 h
    subst h
    have h1 : b % 128 ≤ 1 := by omega
    have := Nat.mul_le_mul_right (128 ^ 9) h1
    simp at this hu ⊢
    omega
  · have h1 := step_lt (b := b) (show i ≤ 8 by omega) hu
    have h2 := pow_le9 (show i + 1 ≤ 9 by omega)
    omega
theorem shl_eq {i b : Nat} (hi : i ≤ 9) (h9 : i = 9 → b ≤ 1) : shl .u64 ((b % 128 : Nat) : Int) ((7 * i : Nat) : Int) = ((b % 128 * 128 ^ i : Nat) : Int) := by
  unfold shl
  rw [Int.toNat_natCast, Nat.min_eq_left (by simp [IntKind.bits]; omega), u64w]
  have e : ((b % 128 : Nat) : Int) * 2 ^ (7 * i) = ((b % 128 * 128 ^ i : Nat) : Int) := by rw [← p128]; push_cast; rfl
  rw [e]
  have := term_lt hi h9
  omega
theorem or_sum {i u b : Nat} (hu : u < 128 ^ i) : u ||| (b % 128 * 128 ^ i) = u + b % 128 * 128 ^ i := by
  have h := @Nat.shiftLeft_add_eq_or_of_lt (7 * i) u (by rw [p128]; exact hu) (b % 128)
  rw [Nat.shiftLeft_eq, p128] at h
  rw [Nat.or_comm, ← h, Nat.add_comm]
theorem zig_unz (v : Nat) : zig (unz v) = v := by
  unfold unz
  split
  · unfold zig; split <;> omega
  · unfold zig; split <;> omega
theorem unz_zig (n : Int) : unz (zig n) = n := by
  unfold zig
  split
  · unfold unz; split <;> omega
  · unfold unz; split <;> omega
theorem unz_range {v : Nat} (h : v < 18446744073709551616) : Num (unz v) := by
  unfold Num unz
  split <;> omega
theorem gn_canon : ∀ (f i u : Nat) (l : Str), i + f = 10 → i ≤ 9 → u < 128 ^ i → (gn f i u l).2.2 = 0 →
    ∃ v, gn f i u l = (unz (u + v * 128 ^ i), i + (groups f v).length, 0) ∧ l = listByte (groups f v) ++ l.drop (groups f v).length ∧ u + v * 128 ^ i < 18446744073709551616 ∧ (0 < i → v ≠ 0)
  | 0, i, u, l, hf, h9, _, _ => by omega
  | f + 1, i, u, [], hf, h9, hu, h0 => by simp [gn] at h0
  | f + 1, i, u, c :: l, hf, hi9, hu, h0 => by
    have hb := byte_lt c
    have hbc := byte_of c
    simp only [gn] at h0 ⊢
    generalize hcb : c.toNat = b at h0 hb hbc ⊢
    by_cases h9 : i = 9 ∧ 1 < b
    · rw [if_pos h9] at h0; simp at h0
    rw [if_neg h9] at h0 ⊢
    have hb9 : i = 9 → b ≤ 1 := fun h => by
      rcases Nat.lt_or_ge 1 b with h1 | h1
      · exact absurd ⟨h, h1⟩ h9
      · exact h1
    by_cases h128 : 128 ≤ b
    · have hi8 : i ≤ 8 := by
        by_cases h : i = 9
        · have := hb9 h; omega
        · omega
      rw [if_pos h128] at h0 ⊢
      obtain ⟨v, e1, e2, e3, e4⟩ := gn_canon f (i + 1) (u + b % 128 * 128 ^ i) l (by omega) (by omega) (step_lt hi8 hu) h0
      have hv := e4 (by omega)
      have hs : u + b % 128 * 128 ^ i + v * 128 ^ (i + 1) = u + (b % 128 + 128 * v) * 128 ^ i := by
        rw [Nat.pow_succ, Nat.add_mul, Nat.mul_comm (128 ^ i) 128, ← Nat.mul_assoc, Nat.mul_comm v 128, Nat.add_assoc]
      have hg : groups (f + 1) (b % 128 + 128 * v) = (b : Int) :: groups f v := by
        have h1 : 128 ≤ b % 128 + 128 * v := by omega
        have h2 : (b % 128 + 128 * v) / 128 = v := by omega
        have h3 : (b % 128 + 128 * v) % 128 + 128 = b := by omega
        simp only [groups, if_pos h1, h2, h3]
      refine ⟨b % 128 + 128 * v, ?_, ?_, ?_, ?_⟩
      · rw [e1, hs, hg, List.length_cons, Nat.add_assoc, Nat.add_comm 1]
      · rw [hg]
        show c :: l = UInt8.ofNat ((b : Nat) : Int).toNat :: (listByte (groups f v) ++ l.drop (groups f v).length)
        rw [hbc, ← e2]
      · rw [← hs]; exact e3
      · intro _; omega
    · rw [if_neg h128] at h0 ⊢
      by_cases hz : b = 0 ∧ 0 < i
      · rw [if_pos hz] at h0; simp at h0
      rw [if_neg hz] at h0 ⊢
      have hm : b % 128 = b := by omega
      have hsl := sum_lt (b := b) hi9 hu hb9
      rw [hm] at hsl ⊢
      have hg : groups (f + 1) b = [(b : Int)] := by simp only [groups, if_neg h128]
      refine ⟨b, ?_, ?_, hsl, ?_⟩
      · rw [hg]; rfl
      · rw [hg]
        show c :: l = UInt8.ofNat ((b : Nat) : Int).toNat :: l
        rw [hbc]
      · intro hi hb0; exact hz ⟨hb0, hi⟩
/-- At a stands the encoding of n, and it ends at a'. -/
structure Got (s : Str) (a : Nat) (n : Int) (a' : Nat) : Prop where
  at' : a' = a + (putOf n).length
  le : a' ≤ s.length
  eq : s.drop a = putOf n ++ s.drop a'
  range : Num n
theorem num_cases (s : Str) (a : Nat) : (∃ (n : Int) (a' : Nat), getNumZ s a = (n, (a' : Int), 0) ∧ Got s a n a') ∨ ∃ c, c ≠ 0 ∧ getNumZ s a = (0, 0, c) := by
  unfold getNumZ fin
  by_cases h : (gn 10 0 0 (s.drop a)).2.2 = 0
  · left
    obtain ⟨v, e1, e2, e3, _⟩ := gn_canon 10 0 0 (s.drop a) (by omega) (by omega) (by omega) h
    simp only [Nat.pow_zero, Nat.mul_one, Nat.zero_add] at e1 e3
    have hB : putOf (unz v) = listByte (groups 10 v) := by unfold putOf; rw [zig_unz]
    have hsz : (putOf (unz v)).length = (groups 10 v).length := by rw [hB, listByte_len]
    refine ⟨unz v, a + (putOf (unz v)).length, ?_, rfl, ?_, ?_, unz_range e3⟩
    · rw [e1, hsz]
      rfl
    · have := congrArg List.length e2
      simp only [List.length_append, listByte_len, List.length_drop] at this
      have hp : 0 < (groups 10 v).length := by unfold groups; split <;> simp
      omega
    · rw [hsz, ← List.drop_drop, hB]
      exact e2
  · right
    exact ⟨_, h, by rw [if_neg h]⟩
/-- What was encoded is read back, whatever follows. -/
theorem gn_put : ∀ (f i u v : Nat) (l : Str), i + f = 10 → i ≤ 9 → v < 128 ^ f → u + v * 128 ^ i < 18446744073709551616 → (0 < i → v ≠ 0) → gn f i u (listByte (groups f v) ++ l) = (unz (u + v * 128 ^ i), i + (groups f v).length, 0)
  | 0, i, u, v, l, hf, h9, _, _, _ => by omega
  | f + 1, i, u, v, l, hf, hi9, hv, hb, hz => by
    have h9' : i = 9 → v ≤ 1 := fun h => by subst h; simp at hb; omega
    by_cases h128 : 128 ≤ v
    · have hi8 : i ≤ 8 := by
        by_cases h : i = 9
        · have := h9' h; omega
        · omega
      have hg : groups (f + 1) v = ((v % 128 + 128 : Nat) : Int) :: groups f (v / 128) := by simp only [groups, if_pos h128]
      have ht : (UInt8.ofNat (((v % 128 + 128 : Nat) : Int)).toNat).toNat = v % 128 + 128 := by
        rw [Int.toNat_natCast, UInt8.toNat_ofNat']
        omega
      rw [hg]
      show gn (f + 1) i u (UInt8.ofNat (((v % 128 + 128 : Nat) : Int)).toNat :: (listByte (groups f (v / 128)) ++ l)) = _
      simp only [gn]
      rw [ht, if_neg (by omega), if_pos (by omega)]
      have hs : u + (v % 128 + 128) % 128 * 128 ^ i + v / 128 * 128 ^ (i + 1) = u + v * 128 ^ i := by
        have e : (v % 128 + 128) % 128 = v % 128 := by omega
        have e2 : v % 128 * 128 ^ i + v / 128 * (128 * 128 ^ i) = v * 128 ^ i := by
          rw [← Nat.mul_assoc, ← Nat.add_mul]
          congr 1
          omega
        rw [e, Nat.pow_succ, Nat.mul_comm (128 ^ i) 128, Nat.add_assoc, e2]
      rw [gn_put f (i + 1) _ (v / 128) l (by omega) (by omega) (by rw [Nat.pow_succ] at hv; exact Nat.div_lt_of_lt_mul (by rw [Nat.mul_comm]; exact hv)) (by rw [hs]; exact hb) (fun _ => by omega), hs]
      simp only [List.length_cons, Prod.mk.injEq, and_true, true_and]
      omega
    · have hg : groups (f + 1) v = [(v : Int)] := by simp only [groups, if_neg h128]
      have ht : (UInt8.ofNat ((v : Int)).toNat).toNat = v := by
        rw [Int.toNat_natCast, UInt8.toNat_ofNat']
        omega
      rw [hg]
      show gn (f + 1) i u (UInt8.ofNat ((v : Int)).toNat :: l) = _
      simp only [gn]
      rw [ht, if_neg (fun q => by have := h9' q.1; omega), if_neg h128, if_neg (fun q => hz q.2 q.1), Nat.mod_eq_of_lt (by omega)]
      rfl
theorem get_put (n : Int) (h : Num n) (s : Str) (a : Nat) (t : Str) (hs : s.drop a = putOf n ++ t) : getNumZ s a = (n, ((a + (putOf n).length : Nat) : Int), 0) := by
  unfold getNumZ
  have hz := zig_lt h
  rw [hs]
  unfold putOf
  rw [gn_put 10 0 0 (zig n) t rfl (by omega) (by omega) (by omega) (fun q => absurd q (by omega))]
  simp only [Nat.pow_zero, Nat.mul_one, Nat.zero_add, unz_zig, listByte_len]
  rfl
/-! ### texts, read back -/
def getTextZ (s : Str) (a : Nat) : Str × Int × Int :=
  if (getNumZ s a).2.2 = 0 then
    if 0 ≤ (getNumZ s a).1 ∧ (getNumZ s a).1 ≤ 8000 then
      if (getNumZ s a).1 > (s.length : Int) - (getNumZ s a).2.1 then ([], 0, 4)
      else ((s.take ((getNumZ s a).2.1 + (getNumZ s a).1).toNat).drop (getNumZ s a).2.1.toNat, (getNumZ s a).2.1 + (getNumZ s a).1, 0)
    else ([], 0, 3)
  else ([], 0, (getNumZ s a).2.2)
/-- At a stands the encoding of the text t, and it ends at a'. -/
structure GotT (s : Str) (a : Nat) (t : Str) (a' : Nat) : Prop where
  at' : a' = a + (putTextOf t).length
  le : a' ≤ s.length
  eq : s.drop a = putTextOf t ++ s.drop a'
  size : t.length ≤ 8000
theorem text_cases (s : Str) (a : Nat) : (∃ t a', getTextZ s a = (t, ((a' : Nat) : Int), 0) ∧ GotT s a t a') ∨ ∃ c, c ≠ 0 ∧ getTextZ s a = ([], 0, c) := by
  unfold getTextZ
  rcases num_cases s a with ⟨n, a', e, g⟩ | ⟨c, hc, e⟩
  · rw [e]
    simp only [if_true]
    by_cases hn : 0 ≤ n ∧ n ≤ 8000
    · rw [if_pos hn]
      have hle := g.le
      by_cases hs : n > (s.length : Int) - (a' : Int)
      · rw [if_pos hs]
        exact .inr ⟨4, by omega, rfl⟩
      · rw [if_neg hs]
        obtain ⟨m, rfl⟩ : ∃ m : Nat, n = (m : Int) := ⟨n.toNat, by omega⟩
        have e1 : ((a' : Int) + (m : Int)).toNat = a' + m := by omega
        rw [e1, Int.toNat_natCast]
        have hB : (s.take (a' + m)).drop a' = (s.drop a').take m := by
          rw [List.drop_take, Nat.add_sub_cancel_left]
        have hsz : ((s.take (a' + m)).drop a').length = m := by
          rw [hB, List.length_take, List.length_drop]
          omega
        refine .inl ⟨_, a' + m, by push_cast; rfl, ?_, ?_, ?_, ?_⟩
        · unfold putTextOf
          rw [List.length_append, hsz]
          have := g.at'
          omega
        · omega
        · unfold putTextOf
          rw [hsz, hB, g.eq, List.append_assoc, ← List.drop_drop, List.take_append_drop]
        · rw [hsz]; omega
    · rw [if_neg hn]
      exact .inr ⟨3, by omega, rfl⟩
  · rw [e]
    simp only
    rw [if_neg hc]
    exact .inr ⟨c, hc, rfl⟩
/-- One number, read: the number, the place, whether it failed. -/
def numR (s : Str) (a : Nat) : Int × Str × Int × Bool := if (getNumZ s a).2.2 = 0 then ((getNumZ s a).1, s, (getNumZ s a).2.1, false) else (0, s, (a : Int), true)
theorem numR_cases (s : Str) (a : Nat) : (∃ n a', numR s a = (n, s, ((a' : Nat) : Int), false) ∧ Got s a n a') ∨ numR s a = (0, s, (a : Int), true) := by
  unfold numR
  rcases num_cases s a with ⟨n, a', e, g⟩ | ⟨c, hc, e⟩
  · left; exact ⟨n, a', by rw [e]; rfl, g⟩
  · right; rw [e, if_neg hc]
/-- One text, read: the text, the place, whether it failed. -/
def textR (s : Str) (a : Nat) : Str × Str × Int × Bool := if (getTextZ s a).2.2 = 0 then ((getTextZ s a).1, s, (getTextZ s a).2.1, false) else ([], s, (a : Int), true)
theorem textR_cases (s : Str) (a : Nat) : (∃ t a', textR s a = (t, s, ((a' : Nat) : Int), false) ∧ GotT s a t a') ∨ textR s a = ([], s, (a : Int), true) := by
  unfold textR
  rcases text_cases s a with ⟨n, a', e, g⟩ | ⟨c, hc, e⟩
  · left; exact ⟨n, a', by rw [e]; rfl, g⟩
  · right; rw [e, if_neg hc]
end Go.Proofs.YtnmbinfgcgjfbaaE

namespace Go.Proofs.YtnmbinfgcgjfbaaE
open Go
set_option linter.unusedVariables false
theorem beqd (a b : Int) : (a == b) = decide (a = b) := by rw [Bool.eq_iff_iff]; simp
theorem w8u (i : Nat) (h : i < 9223372036854775807) : IntKind.wrap .i64 ((i : Int) + 1) = ((i + 1 : Nat) : Int) := wsuc h
theorem half32 (r : Nat) : shr .u32 (r : Int) 1 = ((r / 2 : Nat) : Int) := shr_nat .u32 r 1 (by decide)
theorem sl0 : ∀ (n r j : Nat), n ≤ 8 → r < 4294967296 → n < j → spec_l01Crc.l0 j (r : Int) ((8 - n : Nat) : Int) = some ((crcBits n r : Nat) : Int)
  | n, r, 0, _, _, h => absurd h (Nat.not_lt_zero n)
  | 0, r, j + 1, _, _, _ => by
    unfold spec_l01Crc.l0
    rfl
  | n + 1, r, j + 1, hn, hr, hj => by
    have e : IntKind.wrap .i64 (((8 - (n + 1) : Nat) : Int) + 1) = ((8 - n : Nat) : Int) := by rw [w64] <;> omega
    unfold spec_l01Crc.l0
    rw [decide_eq_true (by omega : (((8 - (n + 1) : Nat) : Int)) < 8), band1 _ hr, half32, e, nneg_some (by omega), beqd]
    simp only [cond_true, Option.bind_some]
    by_cases hp : r % 2 = 1
    · rw [decide_eq_true (by omega : ((r % 2 : Nat) : Int) = 1), show (3988292384 : Int) = ((3988292384 : Nat) : Int) from rfl, bx32 _ _ (by omega) (by omega)]
      have e2 : crcBit r = r / 2 ^^^ 3988292384 := by unfold crcBit; rw [if_pos hp]
      rw [cond_true, ← e2]
      exact sl0 n (crcBit r) j (by omega) (crcBit_lt hr) (by omega)
    · rw [decide_eq_false (by omega : ¬ (((r % 2 : Nat) : Int) = 1))]
      have e2 : crcBit r = r / 2 := by unfold crcBit; rw [if_neg hp]
      rw [cond_false, ← e2]
      exact sl0 n (crcBit r) j (by omega) (crcBit_lt hr) (by omega)
theorem sl1 (x : Str) (hx : x.length ≤ 140737488351232) (k : Nat) (hk : 9 ≤ k) : ∀ (d i r j : Nat), x.length - i = d → i ≤ x.length → r < 4294967296 → d < j → spec_l01Crc.l1 k j x (r : Int) (i : Int) = some ((crcRun (x.drop i) r : Nat) : Int)
  | d, i, r, 0, _, _, _, h => absurd h (Nat.not_lt_zero d)
  | 0, i, r, j + 1, hd, hi, hr, _ => by
    unfold spec_l01Crc.l1
    rw [decide_eq_false (by omega : ¬ ((i : Int) < (x.length : Int))), List.drop_eq_nil_of_le (by omega)]
    rfl
  | d + 1, i, r, j + 1, hd, hi, hr, hj => by
    have hlt : i < x.length := by omega
    have hc := byte_lt x[i]
    unfold spec_l01Crc.l1
    rw [decide_eq_true (by omega : (i : Int) < (x.length : Int)), at_nat hlt]
    simp only [cond_true, Option.bind_some]
    have hxr := x32 hr (show x[i].toNat < 4294967296 by omega)
    rw [u32w, show (((x[i].toNat : Nat) : Int) % 4294967296) = ((x[i].toNat : Nat) : Int) by omega, bx32 _ _ hr (by omega), wsuc (by omega)]
    have h8 := sl0 8 (r ^^^ x[i].toNat) k (Nat.le_refl _) hxr (by omega)
    have h8 : spec_l01Crc.l0 k ((r ^^^ x[i].toNat : Nat) : Int) 0 = some ((crcBits 8 (r ^^^ x[i].toNat) : Nat) : Int) := h8
    rw [h8, List.drop_eq_getElem_cons hlt]
    simp only [Option.bind_some]
    exact sl1 x hx k hk d (i + 1) _ j (by omega) (by omega) (crcBits_lt 8 hxr) (by omega)
theorem sCrc (c : Nat) (s : Str) (hc : c < 4294967296) (hs : s.length ≤ 140737488351232) : Ever fun k => spec_l01Crc k (c : Int) s = some ((crcOf c s : Nat) : Int) := by
  refine Ever.ge (s.length + 9) fun k hk => ?_
  have h := sl1 s hs k (by omega) s.length 0 (c ^^^ 4294967295) k (by omega) (by omega) (x32 hc (by omega)) (by omega)
  have h : spec_l01Crc.l1 k k s ((c ^^^ 4294967295 : Nat) : Int) 0 = some ((crcRun s (c ^^^ 4294967295) : Nat) : Int) := h
  unfold spec_l01Crc
  rw [u32w, show ((c : Int) % 4294967296) = (c : Int) by omega, show (4294967295 : Int) = ((4294967295 : Nat) : Int) from rfl, bx32 _ _ hc (by omega), h]
  simp only [Option.bind_some]
  have hl := crcRun_lt s (x32 hc (show 4294967295 < 4294967296 by omega))
  have hl2 := x32 hl (show 4294967295 < 4294967296 by omega)
  rw [bx32 _ _ hl (by omega), w64 (by omega) (by omega)]
  rfl
theorem il0 (x : Str) (i : Nat) (hi : i < x.length) : ∀ (n s r j : Nat), n ≤ 8 → s < 4294967296 → r = s ^^^ (x[i].toNat / 2 ^ (8 - n)) → n < j → impl_crcMore.l0 j x (r : Int) (i : Int) ((8 - n : Nat) : Int) = some ((crcBits n s : Nat) : Int)
  | n, s, r, 0, _, _, _, h => absurd h (Nat.not_lt_zero n)
  | 0, s, r, j + 1, _, _, hr, _ => by
    have hc := byte_lt x[i]
    have : x[i].toNat / 2 ^ (8 - 0) = 0 := Nat.div_eq_of_lt (by simpa using hc)
    rw [this, Nat.xor_zero] at hr
    subst hr
    unfold impl_crcMore.l0
    rfl
  | n + 1, s, r, j + 1, hn, hs, hr, hj => by
    have hc := byte_lt x[i]
    have e : IntKind.wrap .i64 (((8 - (n + 1) : Nat) : Int) + 1) = ((8 - n : Nat) : Int) := by rw [w64] <;> omega
    have ih := il0 x i hi n (crcBit s)
    unfold impl_crcMore.l0
    rw [decide_eq_true (by omega : (((8 - (n + 1) : Nat) : Int)) < 8), at_nat hi]
    simp only [cond_true, Option.bind_some]
    generalize x[i].toNat = c at hc hr ih ⊢
    have hcd : c / 2 ^ (8 - (n + 1)) < 256 := Nat.lt_of_le_of_lt (Nat.div_le_self _ _) hc
    have hrl : r < 4294967296 := by rw [hr]; exact x32 hs (by omega)
    have hsr : r ^^^ (c / 2 ^ (8 - (n + 1))) = s := by rw [hr, Nat.xor_assoc, Nat.xor_self, Nat.xor_zero]
    have hhalf : r / 2 = s / 2 ^^^ (c / 2 ^ (8 - n)) := by
      have e1 : c / 2 ^ (8 - n) = (c / 2 ^ (8 - (n + 1))) / 2 := by rw [Nat.div_div_eq_div_mul, ← Nat.pow_succ]; congr 2; omega
      rw [hr, e1]
      have := @Nat.shiftRight_xor_distrib 1 s (c / 2 ^ (8 - (n + 1)))
      simpa [Nat.shiftRight_eq_div_pow] using this
    rw [u32w, show ((c : Int) % 4294967296) = (c : Int) by omega, shr_nat .u32 c (8 - (n + 1)) (by show 8 - (n + 1) ≤ 32; omega), bx32 _ _ hrl (by omega), hsr, band1 _ hs, half32, e, nneg_some (by omega), nneg_some (by omega), beqd]
    simp only [Option.bind_some]
    by_cases hp : s % 2 = 1
    · rw [decide_eq_true (by omega : ((s % 2 : Nat) : Int) = 1), show (3988292384 : Int) = ((3988292384 : Nat) : Int) from rfl, bx32 _ _ (by omega) (by omega), cond_true]
      refine ih _ j (by omega) (crcBit_lt hs) ?_ (by omega)
      unfold crcBit
      rw [if_pos hp, hhalf, Nat.xor_assoc, Nat.xor_assoc, Nat.xor_comm (c / 2 ^ (8 - n))]
    · rw [decide_eq_false (by omega : ¬ (((s % 2 : Nat) : Int) = 1)), cond_false]
      refine ih _ j (by omega) (crcBit_lt hs) ?_ (by omega)
      unfold crcBit
      rw [if_neg hp, hhalf]
theorem il1 (x : Str) (hx : x.length ≤ 140737488351232) (k : Nat) (hk : 9 ≤ k) : ∀ (d i r j : Nat), x.length - i = d → i ≤ x.length → r < 4294967296 → d < j → impl_crcMore.l1 k j x (r : Int) (x.length : Int) (i : Int) = some ((crcRun (x.drop i) r : Nat) : Int)
  | d, i, r, 0, _, _, _, h => absurd h (Nat.not_lt_zero d)
  | 0, i, r, j + 1, hd, hi, hr, _ => by
    unfold impl_crcMore.l1
    rw [decide_eq_false (by omega : ¬ ((i : Int) < (x.length : Int))), List.drop_eq_nil_of_le (by omega)]
    rfl
  | d + 1, i, r, j + 1, hd, hi, hr, hj => by
    have hlt : i < x.length := by omega
    have hc := byte_lt x[i]
    unfold impl_crcMore.l1
    rw [decide_eq_true (by omega : (i : Int) < (x.length : Int))]
    have hxr := x32 hr (show x[i].toNat < 4294967296 by omega)
    have h8 := il0 x i hlt 8 (r ^^^ x[i].toNat) r k (Nat.le_refl _) hxr (by simp [Nat.xor_assoc]) (by omega)
    have h8 : impl_crcMore.l0 k x (r : Int) (i : Int) 0 = some ((crcBits 8 (r ^^^ x[i].toNat) : Nat) : Int) := h8
    rw [h8, List.drop_eq_getElem_cons hlt]
    simp only [cond_true, Option.bind_some]
    rw [wsuc (by omega)]
    exact il1 x hx k hk d (i + 1) _ j (by omega) (by omega) (crcBits_lt 8 hxr) (by omega)
theorem iCrc (c : Nat) (s : Str) (hc : c < 4294967296) (hs : s.length ≤ 140737488351232) : Ever fun k => impl_crcMore k (c : Int) s = some ((crcOf c s : Nat) : Int) := by
  refine Ever.ge (s.length + 9) fun k hk => ?_
  have h := il1 s hs k (by omega) s.length 0 (c ^^^ 4294967295) k (by omega) (by omega) (x32 hc (by omega)) (by omega)
  have h : impl_crcMore.l1 k k s ((c ^^^ 4294967295 : Nat) : Int) (s.length : Int) 0 = some ((crcRun s (c ^^^ 4294967295) : Nat) : Int) := h
  unfold impl_crcMore
  rw [show (IntKind.max .u32 : Int) = ((4294967295 : Nat) : Int) from rfl, bx32 _ _ (by omega) hc, Nat.xor_comm, h]
  simp only [Option.bind_some]
  have hl := crcRun_lt s (x32 hc (show 4294967295 < 4294967296 by omega))
  rw [bx32 _ _ (by omega) hl, Nat.xor_comm]
  rfl
theorem sFour (n : Nat) : spec_l01Four (n : Int) = some (four n) := by
  unfold spec_l01Four four
  have h8 := shr_nat .i64 n 8 (by decide)
  have h16 := shr_nat .i64 n 16 (by decide)
  have h24 := shr_nat .i64 n 24 (by decide)
  have h8 : shr .i64 (n : Int) 8 = ((n / 256 : Nat) : Int) := h8
  have h16 : shr .i64 (n : Int) 16 = ((n / 65536 : Nat) : Int) := h16
  have h24 : shr .i64 (n : Int) 24 = ((n / 16777216 : Nat) : Int) := h24
  rw [nneg_some (by omega), nneg_some (by omega), nneg_some (by omega)]
  simp only [Option.bind_some]
  rw [h8, h16, h24, u8w, u8w, u8w, u8w]
  rfl
theorem sSeal (s : Str) (hs : s.length ≤ 7996) : Ever fun k => spec_Seal k s = some (sealOf s) := by
  refine (sCrc 0 s (by omega) (by omega)).mono fun k h => ?_
  have h : spec_l01Crc k 0 s = some ((crcOf 0 s : Nat) : Int) := h
  unfold spec_Seal
  rw [decide_eq_false (by omega : ¬ (7996 < (s.length : Int))), h]
  simp only [cond_false, Option.bind_some]
  rw [sFour]
  simp only [Option.bind_some]
  rw [cat_some (by rw [four_len]; omega)]
  rfl
theorem iSeal (s : Str) (hs : s.length ≤ 140737488351232) : Ever fun k => impl_seal k s = some (sealOf s) := by
  refine (iCrc 0 s (by omega) (by omega)).mono fun k h => ?_
  have h : impl_crcMore k 0 s = some ((crcOf 0 s : Nat) : Int) := h
  have h8 := shr_nat .u32 (crcOf 0 s) 8 (by decide)
  have h16 := shr_nat .u32 (crcOf 0 s) 16 (by decide)
  have h24 := shr_nat .u32 (crcOf 0 s) 24 (by decide)
  have h8 : shr .u32 ((crcOf 0 s : Nat) : Int) 8 = ((crcOf 0 s / 256 : Nat) : Int) := h8
  have h16 : shr .u32 ((crcOf 0 s : Nat) : Int) 16 = ((crcOf 0 s / 65536 : Nat) : Int) := h16
  have h24 : shr .u32 ((crcOf 0 s : Nat) : Int) 24 = ((crcOf 0 s / 16777216 : Nat) : Int) := h24
  unfold impl_seal
  rw [h, nneg_some (by omega), nneg_some (by omega), nneg_some (by omega)]
  simp only [Option.bind_some]
  rw [h8, h16, h24, u8w, u8w, u8w, u8w]
  have e : listByte [((crcOf 0 s : Nat) : Int) % 256, ((crcOf 0 s / 256 : Nat) : Int) % 256, ((crcOf 0 s / 65536 : Nat) : Int) % 256, ((crcOf 0 s / 16777216 : Nat) : Int) % 256] = four (crcOf 0 s) := rfl
  rw [e, cat_some (by rw [four_len]; omega)]
  rfl
theorem beq_str (s t : Str) : (s == t) = decide (s = t) := by rw [Bool.eq_iff_iff]; simp
theorem iUnseal (s : Str) (hs : s.length ≤ 140737488351232) : Ever fun k => impl_unseal k s = some (unsealI s) := by
  refine (iSeal (bodyOf s) (by rw [body_len]; omega)).mono fun k h => ?_
  unfold impl_unseal unsealI
  by_cases h4 : s.length < 4
  · rw [decide_eq_true (by omega : (s.length : Int) < 4), if_pos h4]
    rfl
  · rw [decide_eq_false (by omega : ¬ ((s.length : Int) < 4)), if_neg h4, w64 (by omega) (by omega), show ((s.length : Int) - 4) = ((s.length - 4 : Nat) : Int) by omega]
    have hc := cut_ok (l := s) (i := 0) (j := s.length - 4) (by omega) (by omega)
    have hc : cut? s 0 ((s.length - 4 : Nat) : Int) = some (bodyOf s) := hc
    rw [hc]
    simp only [cond_false, Option.bind_some]
    rw [h]
    simp only [Option.bind_some, beq_str]
    by_cases he : sealOf (bodyOf s) = s
    · rw [if_pos he, decide_eq_true he]; rfl
    · rw [if_neg he, decide_eq_false he]; rfl
theorem sUnseal (s : Str) (hs : s.length ≤ 8000) : Ever fun k => spec_Unseal k s = some ((unsealI s).1, 0, (unsealI s).2) := by
  refine (sCrc 0 (bodyOf s) (by omega) (by rw [body_len]; omega)).mono fun k h => ?_
  have h : spec_l01Crc k 0 (bodyOf s) = some ((crcOf 0 (bodyOf s) : Nat) : Int) := h
  unfold spec_Unseal unsealI
  rw [decide_eq_false (by omega : ¬ (8000 < (s.length : Int)))]
  by_cases h4 : s.length < 4
  · rw [decide_eq_true (by omega : (s.length : Int) < 4), if_pos h4]
    rfl
  · rw [decide_eq_false (by omega : ¬ ((s.length : Int) < 4)), if_neg h4, w64 (by omega) (by omega), show ((s.length : Int) - 4) = ((s.length - 4 : Nat) : Int) by omega]
    have hc := cut_ok (l := s) (i := 0) (j := s.length - 4) (by omega) (by omega)
    have hc : cut? s 0 ((s.length - 4 : Nat) : Int) = some (bodyOf s) := hc
    have hd := cut_ok (l := s) (i := s.length - 4) (j := s.length) (by omega) (by omega)
    rw [List.take_length] at hd
    simp only [cond_false]
    rw [hc]
    simp only [cond_false, Option.bind_some]
    rw [h]
    simp only [Option.bind_some]
    rw [sFour, hd]
    simp only [Option.bind_some, beq_str]
    by_cases he : sealOf (bodyOf s) = s
    · rw [if_pos he, decide_eq_true ((tail_iff s).2 he)]; rfl
    · rw [if_neg he, decide_eq_false (fun q => he ((tail_iff s).1 q))]; rfl
end Go.Proofs.YtnmbinfgcgjfbaaE

namespace Go.Proofs.YtnmbinfgcgjfbaaE
open Go
set_option linter.unusedVariables false
theorem sFold (n : Int) (h : Num n) : spec_l01Fold n = some ((zig n : Nat) : Int) := by
  unfold Num at h
  unfold spec_l01Fold zig
  simp only [u64w]
  by_cases hn : n < 0
  · rw [decide_eq_true hn, if_pos hn, w64 (n := n + 1) (by omega) (by omega), w64 (by omega) (by omega)]
    rw [cond_true]
    congr 1
    omega
  · rw [decide_eq_false hn, if_neg hn, cond_false]
    congr 1
    omega
theorem sput : ∀ (f u : Nat) (acc : List Int) (j : Nat), u < 128 ^ f → u < 18446744073709551616 → acc.length + f ≤ 100 → 0 < f → f < j + 1 → ∃ p : Int × List Int, spec_PutNum.l0 j (u : Int) acc = some p ∧ p.2.length ≤ 100 ∧ p.2 ++ [IntKind.wrap .u8 p.1] = acc ++ groups f u
  | 0, _, _, _, _, _, _, h, _ => absurd h (by omega)
  | f + 1, u, acc, 0, hu, hb, hl, _, hj => by omega
  | f + 1, u, acc, j + 1, hu, hb, hl, _, hj => by
    unfold spec_PutNum.l0
    by_cases h : 128 ≤ u
    · have hf : 0 < f := by
        rcases Nat.eq_zero_or_pos f with rfl | h'
        · simp at hu; omega
        · exact h'
      obtain ⟨p, e, e1, e2⟩ := sput f (u / 128) (acc ++ [((u % 128 + 128 : Nat) : Int)]) j (by rw [Nat.pow_succ] at hu; exact Nat.div_lt_of_lt_mul (by rw [Nat.mul_comm]; exact hu)) (by omega) (by simp; omega) hf (by omega)
      refine ⟨p, ?_, e1, ?_⟩
      · rw [decide_eq_true (by omega : (128 : Int) ≤ (u : Int)), nz_some (by omega : (128 : Int) ≠ 0)]
        simp only [cond_true, Option.bind_some]
        rw [app_ok (by simp; omega), u8w, u64w, u64w, Int.tmod_eq_emod_of_nonneg (by omega), Int.tdiv_eq_ediv_of_nonneg (by omega)]
        simp only [Option.bind_some]
        rw [show (((u : Int) / 128) % 18446744073709551616) = ((u / 128 : Nat) : Int) by omega, show ((((u : Int) % 128 + 128) % 18446744073709551616) % 256) = ((u % 128 + 128 : Nat) : Int) by omega]
        exact e
      · rw [e2, List.append_assoc]
        simp [groups, h]
    · refine ⟨((u : Int), acc), ?_, by show acc.length ≤ 100; omega, ?_⟩
      · rw [decide_eq_false (by omega : ¬ ((128 : Int) ≤ (u : Int)))]
        rfl
      · show acc ++ [IntKind.wrap .u8 (u : Int)] = _
        rw [u8w, show ((u : Int) % 256) = (u : Int) by omega]
        simp [groups, h]
theorem sPutNum (n : Int) (h : Num n) : Ever fun k => spec_PutNum k n = some (putOf n) := by
  refine Ever.ge 10 fun k hk => ?_
  have hz := zig_lt h
  obtain ⟨p, e, e1, e2⟩ := sput 10 (zig n) [] k (by omega) hz (by simp) (by omega) (by omega)
  unfold spec_PutNum
  rw [sFold n h]
  simp only [Option.bind_some]
  rw [e]
  simp only [Option.bind_some]
  rw [app_ok (by simp; omega), e2]
  rfl
theorem sPutText (s : Str) (h : s.length ≤ 8000) : Ever fun k => spec_PutText k s = some (putTextOf s) := by
  refine (sPutNum (s.length : Int) ⟨by omega, by omega⟩).mono fun k hk => ?_
  have := putOf_len (s.length : Int)
  unfold spec_PutText
  rw [decide_eq_false (by omega : ¬ (8000 < (s.length : Int))), hk]
  simp only [cond_false, Option.bind_some]
  rw [cat_some (by omega)]
  rfl
theorem drop_cases (s : Str) (j : Nat) : (s.drop j = [] ∧ s.length ≤ j) ∨ ∃ h : j < s.length, s.drop j = s[j] :: s.drop (j + 1) := by
  by_cases h : j < s.length
  · exact .inr ⟨h, List.drop_eq_getElem_cons h⟩
  · exact .inl ⟨List.drop_eq_nil_of_le (by omega), by omega⟩
theorem sgn (s : Str) (hs : s.length ≤ 140737488351232) (a : Nat) (ha : a < 9223372036854775000) : ∀ (f i u j : Nat), i + f = 10 → i ≤ 9 → u < 128 ^ i → (0 < i → a + i ≤ s.length) → f < j → spec_GetNum.l0 j s (a : Int) (u : Int) (i : Int) 0 0 0 = some (.inr (fin a (gn f i u (s.drop (a + i)))))
  | f, i, u, 0, _, _, _, _, h => absurd h (Nat.not_lt_zero f)
  | 0, i, u, j + 1, hf, h9, hu, hz, _ => by omega
  | f + 1, i, u, j + 1, hf, hi9, hu, hz, hj => by
    unfold spec_GetNum.l0
    rw [decide_eq_true (by omega : (i : Int) < 10), w64 (n := (s.length : Int) - (i : Int)) (by omega) (by omega), cond_true]
    rcases drop_cases s (a + i) with ⟨hd, hlen⟩ | ⟨hlt, hd⟩
    · rw [decide_eq_true (by omega : (s.length : Int) - (i : Int) ≤ (a : Int)), hd]
      rfl
    · rw [decide_eq_false (by omega : ¬ ((s.length : Int) - (i : Int) ≤ (a : Int))), w64 (n := (a : Int) + (i : Int)) (by omega) (by omega), show ((a : Int) + (i : Int)) = ((a + i : Nat) : Int) by omega]
      simp only [cond_false]
      rw [at_nat hlt, hd]
      simp only [Option.bind_some, gn]
      have hb := byte_lt s[a + i]
      have ih := fun u' => sgn s hs a ha f (i + 1) u' j
      generalize s[a + i].toNat = b at hb ⊢
      rw [u64w (b : Int), show ((b : Int) % 18446744073709551616) = (b : Int) by omega, beqd, nz_some (by omega : (128 : Int) ≠ 0)]
      by_cases h9 : i = 9 ∧ 1 < b
      · rw [decide_eq_true (by omega : (i : Int) = 9), decide_eq_true (by omega : (1 : Int) < (b : Int)), if_pos h9]
        rfl
      · rw [if_neg h9, show (decide ((i : Int) = 9) && decide ((1 : Int) < (b : Int))) = false by
          by_cases h : i = 9
          · rw [decide_eq_false (by omega : ¬ ((1 : Int) < (b : Int))), Bool.and_false]
          · rw [decide_eq_false (by omega : ¬ ((i : Int) = 9))]; rfl]
        have hb9 : i = 9 → b ≤ 1 := fun h => by
          rcases Nat.lt_or_ge 1 b with h1 | h1
          · exact absurd ⟨h, h1⟩ h9
          · exact h1
        have hsl := sum_lt (b := b) (show i ≤ 9 by omega) hu hb9
        have hv : IntKind.wrap .u64 ((u : Int) + shl .u64 (Int.tmod (b : Int) 128) (IntKind.wrap .u64 (IntKind.wrap .i64 (7 * (i : Int))))) = ((u + b % 128 * 128 ^ i : Nat) : Int) := by
          rw [w64 (by omega) (by omega), u64w (7 * (i : Int)), show (7 * (i : Int)) % 18446744073709551616 = ((7 * i : Nat) : Int) by omega, Int.tmod_eq_emod_of_nonneg (by omega), show (b : Int) % 128 = ((b % 128 : Nat) : Int) by omega, shl_eq (by omega) hb9, u64w]
          omega
        have hn : nneg? (IntKind.wrap .u64 (IntKind.wrap .i64 (7 * (i : Int)))) = some () := nneg_some (by rw [u64w]; omega)
        simp only [cond_false, Option.bind_some]
        rw [hn]
        simp only [Option.bind_some]
        rw [hv]
        by_cases h128 : 128 ≤ b
        · have hi8 : i ≤ 8 := by
            by_cases h : i = 9
            · have := hb9 h; omega
            · omega
          rw [decide_eq_false (by omega : ¬ ((b : Int) < 128)), if_pos h128, cond_false, wsuc (by omega), show a + i + 1 = a + (i + 1) by omega]
          exact ih _ (by omega) (by omega) (step_lt hi8 hu) (fun _ => by omega) (by omega)
        · rw [decide_eq_true (by omega : ((b : Int) < 128)), if_neg h128, cond_true, beqd]
          by_cases h0 : b = 0 ∧ 0 < i
          · rw [decide_eq_true (by omega : (b : Int) = 0), decide_eq_true (by omega : (0 : Int) < (i : Int)), if_pos h0]
            rfl
          · rw [if_neg h0, show (decide ((b : Int) = 0) && decide ((0 : Int) < (i : Int))) = false by
              by_cases h : b = 0
              · rw [decide_eq_false (by omega : ¬ ((0 : Int) < (i : Int))), Bool.and_false]
              · rw [decide_eq_false (by omega : ¬ ((b : Int) = 0))]; rfl]
            generalize u + b % 128 * 128 ^ i = v at hsl
            have e2 : IntKind.wrap .i64 (IntKind.wrap .u64 (Int.tdiv (v : Int) 2)) = ((v / 2 : Nat) : Int) := by
              rw [Int.tdiv_eq_ediv_of_nonneg (by omega), u64w, w64 (by omega) (by omega)]
              omega
            rw [cond_false, nz_some (by omega : (2 : Int) ≠ 0)]
            simp only [Option.bind_some]
            rw [wsuc (by omega), e2, Int.tmod_eq_emod_of_nonneg (by omega), beqd]
            unfold fin unz
            by_cases hp : v % 2 = 1
            · rw [decide_eq_true (by omega : (v : Int) % 2 = 1), if_pos hp, w64 (n := 0 - ((v / 2 : Nat) : Int)) (by omega) (by omega), w64 (by omega) (by omega), cond_true, show (0 - ((v / 2 : Nat) : Int) - 1) = -((v / 2 : Nat) : Int) - 1 by omega]
              rfl
            · rw [decide_eq_false (by omega : ¬ ((v : Int) % 2 = 1)), if_neg hp]
              rfl
theorem ign (s : Str) (hs : s.length ≤ 140737488351232) (a : Nat) (ha : a < 9223372036854775000) : ∀ (f i u j : Nat), i + f = 10 → i ≤ 9 → u < 128 ^ i → (0 < i → a + i ≤ s.length) → f < j → impl_getNum.l0 j s (a : Int) (u : Int) (i : Int) = some (fin a (gn f i u (s.drop (a + i))))
  | f, i, u, 0, _, _, _, _, h => absurd h (Nat.not_lt_zero f)
  | 0, i, u, j + 1, hf, h9, hu, hz, _ => by omega
  | f + 1, i, u, j + 1, hf, hi9, hu, hz, hj => by
    unfold impl_getNum.l0
    rw [w64 (n := (s.length : Int) - (i : Int)) (by omega) (by omega)]
    rcases drop_cases s (a + i) with ⟨hd, hlen⟩ | ⟨hlt, hd⟩
    · rw [decide_eq_true (by omega : (s.length : Int) - (i : Int) ≤ (a : Int)), hd]
      rfl
    · rw [decide_eq_false (by omega : ¬ ((s.length : Int) - (i : Int) ≤ (a : Int))), w64 (n := (a : Int) + (i : Int)) (by omega) (by omega), show ((a : Int) + (i : Int)) = ((a + i : Nat) : Int) by omega]
      simp only [cond_false]
      rw [at_nat hlt, hd]
      simp only [Option.bind_some, gn]
      have hb := byte_lt s[a + i]
      have ih := fun u' => ign s hs a ha f (i + 1) u' j
      generalize s[a + i].toNat = b at hb ⊢
      rw [beqd]
      by_cases h9 : i = 9 ∧ 1 < b
      · rw [decide_eq_true (by omega : (i : Int) = 9), decide_eq_true (by omega : (1 : Int) < (b : Int)), if_pos h9]
        rfl
      · rw [if_neg h9, show (decide ((i : Int) = 9) && decide ((1 : Int) < (b : Int))) = false by
          by_cases h : i = 9
          · rw [decide_eq_false (by omega : ¬ ((1 : Int) < (b : Int))), Bool.and_false]
          · rw [decide_eq_false (by omega : ¬ ((i : Int) = 9))]; rfl]
        have hb9 : i = 9 → b ≤ 1 := fun h => by
          rcases Nat.lt_or_ge 1 b with h1 | h1
          · exact absurd ⟨h, h1⟩ h9
          · exact h1
        have hsl := sum_lt (b := b) (show i ≤ 9 by omega) hu hb9
        have hv : intBits .or .u64 (u : Int) (shl .u64 (IntKind.wrap .u64 (intBits .and .u8 (b : Int) 127)) (IntKind.wrap .i64 (7 * (i : Int)))) = ((u + b % 128 * 128 ^ i : Nat) : Int) := by
          rw [and127 b hb, u64w, show ((b % 128 : Nat) : Int) % 18446744073709551616 = ((b % 128 : Nat) : Int) by omega, w64 (by omega) (by omega), show (7 * (i : Int)) = ((7 * i : Nat) : Int) by omega, shl_eq (by omega) hb9, bor64 _ _ (by have := pow_le9 (show i ≤ 9 by omega); omega) (term_lt (by omega) hb9), or_sum hu]
        have hn : nneg? (IntKind.wrap .i64 (7 * (i : Int))) = some () := nneg_some (by rw [w64 (by omega) (by omega)]; omega)
        simp only [cond_false, Option.bind_some]
        rw [hn]
        simp only [Option.bind_some]
        rw [hv]
        by_cases h128 : 128 ≤ b
        · have hi8 : i ≤ 8 := by
            by_cases h : i = 9
            · have := hb9 h; omega
            · omega
          rw [decide_eq_true (by omega : ((127 : Int) < (b : Int))), if_pos h128, cond_true, wsuc (by omega), show a + i + 1 = a + (i + 1) by omega]
          exact ih _ (by omega) (by omega) (step_lt hi8 hu) (fun _ => by omega) (by omega)
        · rw [decide_eq_false (by omega : ¬ ((127 : Int) < (b : Int))), if_neg h128, cond_false, beqd]
          by_cases h0 : b = 0 ∧ 0 < i
          · rw [decide_eq_true (by omega : (b : Int) = 0), decide_eq_true (by omega : (0 : Int) < (i : Int)), if_pos h0]
            rfl
          · rw [if_neg h0, show (decide ((b : Int) = 0) && decide ((0 : Int) < (i : Int))) = false by
              by_cases h : b = 0
              · rw [decide_eq_false (by omega : ¬ ((0 : Int) < (i : Int))), Bool.and_false]
              · rw [decide_eq_false (by omega : ¬ ((b : Int) = 0))]; rfl]
            generalize u + b % 128 * 128 ^ i = v at hsl
            have e2 : shr .u64 (v : Int) 1 = ((v / 2 : Nat) : Int) := shr_nat .u64 v 1 (by decide)
            rw [cond_false, nneg_some (by omega : (0 : Int) ≤ 1)]
            simp only [Option.bind_some]
            rw [wsuc (by omega), e2, band64 v hsl, w64 (n := ((v / 2 : Nat) : Int)) (by omega) (by omega), beqd]
            unfold fin unz
            by_cases hp : v % 2 = 1
            · rw [decide_eq_true (by omega : ((v % 2 : Nat) : Int) = 1), if_pos hp, noti64 _ (by omega)]
              rfl
            · rw [decide_eq_false (by omega : ¬ (((v % 2 : Nat) : Int) = 1)), if_neg hp]
              rfl
section
variable (s : Str) (a : Nat) (ha : a < 9223372036854775000)
include ha
theorem iGet (hs : s.length ≤ 140737488351232) : Ever fun k => impl_getNum k s (a : Int) = some (getNumZ s a) := by
  refine Ever.ge 11 fun k hk => ?_
  have h := ign s hs a ha 10 0 0 k rfl (by omega) (by omega) (fun h => absurd h (by omega)) (by omega)
  have h : impl_getNum.l0 k s (a : Int) 0 0 = some (getNumZ s a) := h
  unfold impl_getNum
  rw [decide_eq_false (by omega : ¬ ((a : Int) < 0)), h]
  rfl
theorem sGet (hs : s.length ≤ 8000) : Ever fun k => spec_GetNum k s (a : Int) = some (getNumZ s a) := by
  refine Ever.ge 11 fun k hk => ?_
  have h := sgn s (by omega) a ha 10 0 0 k rfl (by omega) (by omega) (fun h => absurd h (by omega)) (by omega)
  have h : spec_GetNum.l0 k s (a : Int) 0 0 0 0 0 = some (.inr (getNumZ s a)) := h
  unfold spec_GetNum
  rw [decide_eq_false (by omega : ¬ (8000 < (s.length : Int))), decide_eq_false (by omega : ¬ ((a : Int) < 0)), h]
  rfl
theorem iNum (hs : s.length ≤ 140737488351232) : Ever fun k => impl_reader_num k (s, ((a : Int), false)) = some (numR s a) := by
  refine (iGet s a ha hs).mono fun k h => ?_
  unfold impl_reader_num numR
  rw [h]
  rcases num_cases s a with ⟨n, a', e, g⟩ | ⟨c, hc, e⟩
  · rw [e]; rfl
  · rw [e, if_neg hc]
    simp only [Option.bind_some]
    rw [show (c != 0) = true by simpa using hc]
    rfl
theorem sNum (hs : s.length ≤ 8000) : Ever fun k => spec_l06Reader_num k (s, ((a : Int), false)) = some (numR s a) := by
  refine (sGet s a ha hs).mono fun k h => ?_
  unfold spec_l06Reader_num numR
  rw [h]
  rcases num_cases s a with ⟨n, a', e, g⟩ | ⟨c, hc, e⟩
  · rw [e]; rfl
  · rw [e, if_neg hc]
    simp only [Option.bind_some]
    rw [show (c != 0) = true by simpa using hc]
    rfl
theorem sNumF (hs : s.length ≤ 8000) : Ever fun k => spec_l06Reader_num k (s, ((a : Int), true)) = some (0, s, (a : Int), true) := by
  refine (sGet s a ha hs).mono fun k h => ?_
  unfold spec_l06Reader_num
  rw [h]
  rfl
theorem iNumF (hs : s.length ≤ 140737488351232) : ∃ (n : Int) (a' : Nat), (Ever fun k => impl_reader_num k (s, ((a : Int), true)) = some (n, s, (a' : Int), true)) ∧ a' ≤ max a s.length := by
  rcases num_cases s a with ⟨n, a', e, g⟩ | ⟨c, hc, e⟩
  · refine ⟨n, a', (iGet s a ha hs).mono fun k h => ?_, ?_⟩
    · unfold impl_reader_num
      rw [h, e]
      rfl
    · have := g.le; omega
  · refine ⟨0, a, (iGet s a ha hs).mono fun k h => ?_, by omega⟩
    unfold impl_reader_num
    rw [h, e]
    simp only [Option.bind_some]
    rw [show (c != 0) = true by simpa using hc]
    rfl
theorem sGetText (hs : s.length ≤ 8000) : Ever fun k => spec_GetText k s (a : Int) = some (getTextZ s a) := by
  refine (sGet s a ha hs).mono fun k h => ?_
  unfold spec_GetText getTextZ
  rw [h]
  rcases num_cases s a with ⟨n, a', e, g⟩ | ⟨c, hc, e⟩
  · rw [e]
    simp only [if_true, Option.bind_some]
    have hle := g.le
    rw [show ((0 : Int) != 0) = false from rfl, cond_false]
    by_cases hn : 0 ≤ n ∧ n ≤ 8000
    · rw [decide_eq_false (by omega : ¬ (n < 0)), decide_eq_false (by omega : ¬ (8000 < n)), if_pos hn, w64 (n := (s.length : Int) - n) (by omega) (by omega), w64 (n := (a' : Int) + n) (by omega) (by omega)]
      by_cases hq : n > (s.length : Int) - (a' : Int)
      · rw [decide_eq_true (by omega : (s.length : Int) - n < (a' : Int)), if_pos hq]
        rfl
      · rw [decide_eq_false (by omega : ¬ ((s.length : Int) - n < (a' : Int))), if_neg hq]
        obtain ⟨m, rfl⟩ : ∃ m : Nat, n = (m : Int) := ⟨n.toNat, by omega⟩
        rw [show ((a' : Int) + (m : Int)) = ((a' + m : Nat) : Int) by omega]
        have hc := cut_ok (l := s) (i := a') (j := a' + m) (by omega) (by omega)
        simp only [Bool.or_false, cond_false]
        rw [hc]
        rfl
    · rw [if_neg hn, show (decide (n < 0) || decide (8000 < n)) = true by
        by_cases h0 : n < 0
        · rw [decide_eq_true h0]; rfl
        · rw [decide_eq_true (by omega : 8000 < n), Bool.or_true]]
      rfl
  · rw [e]
    simp only [Option.bind_some]
    rw [if_neg hc, show (c != 0) = true by simpa using hc]
    rfl
theorem iGetText (hs : s.length ≤ 140737488351232) : Ever fun k => impl_getText k s (a : Int) = some (getTextZ s a) := by
  refine (iGet s a ha hs).mono fun k h => ?_
  unfold impl_getText getTextZ
  rw [h]
  rcases num_cases s a with ⟨n, a', e, g⟩ | ⟨c, hc, e⟩
  · rw [e]
    simp only [if_true, Option.bind_some]
    have hle := g.le
    rw [show ((0 : Int) != 0) = false from rfl, cond_false]
    unfold impl_within
    simp only [Option.bind_some]
    by_cases hn : 0 ≤ n ∧ n ≤ 8000
    · rw [decide_eq_true (by omega : 0 ≤ n), decide_eq_true (by omega : n ≤ 8000), if_pos hn, w64 (n := (s.length : Int) - (a' : Int)) (by omega) (by omega), w64 (n := (a' : Int) + n) (by omega) (by omega)]
      by_cases hq : n > (s.length : Int) - (a' : Int)
      · rw [decide_eq_true (by omega : (s.length : Int) - (a' : Int) < n), if_pos hq]
        rfl
      · rw [decide_eq_false (by omega : ¬ ((s.length : Int) - (a' : Int) < n)), if_neg hq]
        obtain ⟨m, rfl⟩ : ∃ m : Nat, n = (m : Int) := ⟨n.toNat, by omega⟩
        rw [show ((a' : Int) + (m : Int)) = ((a' + m : Nat) : Int) by omega]
        have hc := cut_ok (l := s) (i := a') (j := a' + m) (by omega) (by omega)
        simp only [Bool.and_true, Bool.not_true, cond_false]
        rw [hc]
        rfl
    · rw [if_neg hn, show (decide (0 ≤ n) && decide (n ≤ 8000)) = false by
        by_cases h0 : 0 ≤ n
        · rw [decide_eq_false (by omega : ¬ (n ≤ 8000)), Bool.and_false]
        · rw [decide_eq_false h0]; rfl]
      rfl
  · rw [e]
    simp only [Option.bind_some]
    rw [if_neg hc, show (c != 0) = true by simpa using hc]
    rfl
theorem iWord (hs : s.length ≤ 140737488351232) : Ever fun k => impl_reader_word k (s, ((a : Int), false)) = some (textR s a) := by
  refine (iGetText s a ha hs).mono fun k h => ?_
  unfold impl_reader_word textR
  rw [h]
  rcases text_cases s a with ⟨n, a', e, g⟩ | ⟨c, hc, e⟩
  · rw [e]; rfl
  · rw [e, if_neg hc]
    simp only [Option.bind_some]
    rw [show (c != 0) = true by simpa using hc]
    rfl
theorem sText (hs : s.length ≤ 8000) : Ever fun k => spec_l06Reader_text k (s, ((a : Int), false)) = some (textR s a) := by
  refine (sGetText s a ha hs).mono fun k h => ?_
  unfold spec_l06Reader_text textR
  rw [h]
  rcases text_cases s a with ⟨n, a', e, g⟩ | ⟨c, hc, e⟩
  · rw [e]; rfl
  · rw [e, if_neg hc]
    simp only [Option.bind_some]
    rw [show (c != 0) = true by simpa using hc]
    rfl
theorem sTextF (hs : s.length ≤ 8000) : Ever fun k => spec_l06Reader_text k (s, ((a : Int), true)) = some ([], s, (a : Int), true) := by
  refine (sGetText s a ha hs).mono fun k h => ?_
  unfold spec_l06Reader_text
  rw [h]
  rfl
theorem iWordF (hs : s.length ≤ 140737488351232) : ∃ (t : Str) (a' : Nat), (Ever fun k => impl_reader_word k (s, ((a : Int), true)) = some (t, s, (a' : Int), true)) ∧ a' ≤ max a s.length := by
  rcases text_cases s a with ⟨n, a', e, g⟩ | ⟨c, hc, e⟩
  · refine ⟨n, a', (iGetText s a ha hs).mono fun k h => ?_, ?_⟩
    · unfold impl_reader_word
      rw [h, e]
      rfl
    · have := g.le; omega
  · refine ⟨[], a, (iGetText s a ha hs).mono fun k h => ?_, by omega⟩
    unfold impl_reader_word
    rw [h, e]
    simp only [Option.bind_some]
    rw [show (c != 0) = true by simpa using hc]
    rfl
end
end Go.Proofs.YtnmbinfgcgjfbaaE

namespace Go.Proofs.YtnmbinfgcgjfbaaE
open Go
set_option linter.unusedVariables false
/-- Three numbers and a text from the start of s, and where they end. -/
def quadZ (s : Str) : Option (Int × Int × Int × Str × Nat) :=
  if (numR s 0).2.2.2 = true then none else
  if (numR s (numR s 0).2.2.1.toNat).2.2.2 = true then none else
  if (numR s (numR s (numR s 0).2.2.1.toNat).2.2.1.toNat).2.2.2 = true then none else
  if (textR s (numR s (numR s (numR s 0).2.2.1.toNat).2.2.1.toNat).2.2.1.toNat).2.2.2 = true then none else
  some ((numR s 0).1, (numR s (numR s 0).2.2.1.toNat).1, (numR s (numR s (numR s 0).2.2.1.toNat).2.2.1.toNat).1, (textR s (numR s (numR s (numR s 0).2.2.1.toNat).2.2.1.toNat).2.2.1.toNat).1, (textR s (numR s (numR s (numR s 0).2.2.1.toNat).2.2.1.toNat).2.2.1.toNat).2.2.1.toNat)
theorem head_whole {s : Str} {x y z : Int} {t : Str} {a b c d : Nat} (g1 : Got s 0 x a) (g2 : Got s a y b) (g3 : Got s b z c) (g4 : GotT s c t d) : putOf x ++ putOf y ++ putOf z ++ putTextOf t = s ↔ d = s.length := by
  have e1 := g1.eq
  have e2 := g2.eq
  have e3 := g3.eq
  have e4 := g4.eq
  rw [List.drop_zero] at e1
  constructor
  · intro h
    have h1 := congrArg List.length h
    rw [List.length_append, List.length_append, List.length_append] at h1
    have := g1.at'; have := g2.at'; have := g3.at'; have := g4.at'
    omega
  · rintro rfl
    rw [List.drop_of_length_le (l := s) (i := s.length) (Nat.le_refl _), List.append_nil] at e4
    rw [← e4, List.append_assoc, ← e3, List.append_assoc, ← e2, ← e1]
/-- What was found stands there. -/
theorem quad_got {s : Str} {x y z : Int} {t : Str} {d : Nat} (h : quadZ s = some (x, y, z, t, d)) : ∃ a b c, Got s 0 x a ∧ Got s a y b ∧ Got s b z c ∧ GotT s c t d := by
  unfold quadZ at h
  rcases numR_cases s 0 with ⟨x', a, e1, g1⟩ | e1
  · rw [e1] at h
    simp only [Int.toNat_natCast, Bool.false_eq_true, if_false] at h
    rcases numR_cases s a with ⟨y', b, e2, g2⟩ | e2
    · rw [e2] at h
      simp only [Int.toNat_natCast, Bool.false_eq_true, if_false] at h
      rcases numR_cases s b with ⟨z', c, e3, g3⟩ | e3
      · rw [e3] at h
        simp only [Int.toNat_natCast, Bool.false_eq_true, if_false] at h
        rcases textR_cases s c with ⟨t', d', e4, g4⟩ | e4
        · rw [e4] at h
          simp only [Int.toNat_natCast, Bool.false_eq_true, if_false, Option.some.injEq, Prod.mk.injEq] at h
          obtain ⟨rfl, rfl, rfl, rfl, rfl⟩ := h
          exact ⟨a, b, c, g1, g2, g3, g4⟩
        · rw [e4] at h; simp at h
      · rw [e3] at h; simp at h
    · rw [e2] at h; simp at h
  · rw [e1] at h; simp at h
/-- The reference reads them so. -/
def ReadsS (k : Nat) (s : Str) : Prop := ∃ v3 v4 v5 : Int × Str × Int × Bool, ∃ v6 : Str × Str × Int × Bool, spec_l06Reader_num k (s, (0, false)) = some v3 ∧ spec_l06Reader_num k v3.2 = some v4 ∧ spec_l06Reader_num k v4.2 = some v5 ∧ spec_l06Reader_text k v5.2 = some v6 ∧
  ((∃ x y z t d, quadZ s = some (x, y, z, t, d) ∧ v3.1 = x ∧ v4.1 = y ∧ v5.1 = z ∧ v6 = (t, s, ((d : Nat) : Int), false)) ∨ (quadZ s = none ∧ v6.2.2.2 = true))
/-- The program reads them so. -/
def ReadsI (k : Nat) (s : Str) : Prop := ∃ v3 v4 v5 : Int × Str × Int × Bool, ∃ v6 : Str × Str × Int × Bool, impl_reader_num k (s, (0, false)) = some v3 ∧ impl_reader_num k v3.2 = some v4 ∧ impl_reader_num k v4.2 = some v5 ∧ impl_reader_word k v5.2 = some v6 ∧
  ((∃ x y z t d, quadZ s = some (x, y, z, t, d) ∧ v3.1 = x ∧ v4.1 = y ∧ v5.1 = z ∧ v6 = (t, s, ((d : Nat) : Int), false)) ∨ (quadZ s = none ∧ v6.2.2.2 = true))
theorem readsS (s : Str) (hs : s.length ≤ 8000) : Ever fun k => ReadsS k s := by
  have f0 := sNum s 0 (by omega) hs
  rcases numR_cases s 0 with ⟨x, a, e1, g1⟩ | e1
  · have l1 := g1.le
    have f1 := sNum s a (by omega) hs
    rcases numR_cases s a with ⟨y, b, e2, g2⟩ | e2
    · have l2 := g2.le
      have f2 := sNum s b (by omega) hs
      rcases numR_cases s b with ⟨z, c, e3, g3⟩ | e3
      · have l3 := g3.le
        have f3 := sText s c (by omega) hs
        refine (((f0.and f1).and f2).and f3).mono fun k ⟨⟨⟨h0, h1⟩, h2⟩, h3⟩ => ⟨numR s 0, numR s a, numR s b, textR s c, h0, ?_, ?_, ?_, ?_⟩
        · rw [e1]; exact h1
        · rw [e2]; exact h2
        · rw [e3]; exact h3
        · rcases textR_cases s c with ⟨t, d, e4, g4⟩ | e4
          · refine .inl ⟨x, y, z, t, d, ?_, by rw [e1], by rw [e2], by rw [e3], e4⟩
            unfold quadZ
            simp [e1, e2, e3, e4]
          · refine .inr ⟨?_, by rw [e4]⟩
            unfold quadZ
            simp [e1, e2, e3, e4]
      · have f3 := sTextF s b (by omega) hs
        refine (((f0.and f1).and f2).and f3).mono fun k ⟨⟨⟨h0, h1⟩, h2⟩, h3⟩ => ⟨numR s 0, numR s a, numR s b, ([], s, (b : Int), true), h0, ?_, ?_, ?_, .inr ⟨?_, ?_⟩⟩
        · rw [e1]; exact h1
        · rw [e2]; exact h2
        · rw [e3]; exact h3
        · unfold quadZ
          simp [e1, e2, e3]
        · rfl
    · have f2 := sNumF s a (by omega) hs
      have f3 := sTextF s a (by omega) hs
      refine (((f0.and f1).and f2).and f3).mono fun k ⟨⟨⟨h0, h1⟩, h2⟩, h3⟩ => ⟨numR s 0, numR s a, (0, s, (a : Int), true), ([], s, (a : Int), true), h0, ?_, ?_, h3, .inr ⟨?_, rfl⟩⟩
      · rw [e1]; exact h1
      · rw [e2]; exact h2
      · unfold quadZ
        simp [e1, e2]
  · have f1 := sNumF s 0 (by omega) hs
    have f3 := sTextF s 0 (by omega) hs
    refine ((f0.and f1).and f3).mono fun k ⟨⟨h0, h1⟩, h3⟩ => ⟨numR s 0, (0, s, ((0 : Nat) : Int), true), (0, s, ((0 : Nat) : Int), true), ([], s, ((0 : Nat) : Int), true), h0, ?_, h1, h3, .inr ⟨?_, rfl⟩⟩
    · rw [e1]; exact h1
    · unfold quadZ
      simp [e1]
theorem readsI (s : Str) (hs : s.length ≤ 8000) : Ever fun k => ReadsI k s := by
  have f0 := iNum s 0 (by omega) (by omega)
  rcases numR_cases s 0 with ⟨x, a, e1, g1⟩ | e1
  · have l1 := g1.le
    have f1 := iNum s a (by omega) (by omega)
    rcases numR_cases s a with ⟨y, b, e2, g2⟩ | e2
    · have l2 := g2.le
      have f2 := iNum s b (by omega) (by omega)
      rcases numR_cases s b with ⟨z, c, e3, g3⟩ | e3
      · have l3 := g3.le
        have f3 := iWord s c (by omega) (by omega)
        refine (((f0.and f1).and f2).and f3).mono fun k ⟨⟨⟨h0, h1⟩, h2⟩, h3⟩ => ⟨numR s 0, numR s a, numR s b, textR s c, h0, ?_, ?_, ?_, ?_⟩
        · rw [e1]; exact h1
        · rw [e2]; exact h2
        · rw [e3]; exact h3
        · rcases textR_cases s c with ⟨t, d, e4, g4⟩ | e4
          · refine .inl ⟨x, y, z, t, d, ?_, by rw [e1], by rw [e2], by rw [e3], e4⟩
            unfold quadZ
            simp [e1, e2, e3, e4]
          · refine .inr ⟨?_, by rw [e4]⟩
            unfold quadZ
            simp [e1, e2, e3, e4]
      · obtain ⟨t3, a3, f3, _⟩ := iWordF s b (by omega) (by omega)
        refine (((f0.and f1).and f2).and f3).mono fun k ⟨⟨⟨h0, h1⟩, h2⟩, h3⟩ => ⟨numR s 0, numR s a, numR s b, (t3, s, (a3 : Int), true), h0, ?_, ?_, ?_, .inr ⟨?_, rfl⟩⟩
        · rw [e1]; exact h1
        · rw [e2]; exact h2
        · rw [e3]; exact h3
        · unfold quadZ
          simp [e1, e2, e3]
    · obtain ⟨n2, a2, f2, l2⟩ := iNumF s a (by omega) (by omega)
      obtain ⟨t3, a3, f3, _⟩ := iWordF s a2 (by omega) (by omega)
      refine (((f0.and f1).and f2).and f3).mono fun k ⟨⟨⟨h0, h1⟩, h2⟩, h3⟩ => ⟨numR s 0, numR s a, (n2, s, (a2 : Int), true), (t3, s, (a3 : Int), true), h0, ?_, ?_, h3, .inr ⟨?_, rfl⟩⟩
      · rw [e1]; exact h1
      · rw [e2]; exact h2
      · unfold quadZ
        simp [e1, e2]
  · obtain ⟨n1, a1, f1, l1⟩ := iNumF s 0 (by omega) (by omega)
    obtain ⟨n2, a2, f2, l2⟩ := iNumF s a1 (by omega) (by omega)
    obtain ⟨t3, a3, f3, _⟩ := iWordF s a2 (by omega) (by omega)
    refine (((f0.and f1).and f2).and f3).mono fun k ⟨⟨⟨h0, h1⟩, h2⟩, h3⟩ => ⟨numR s 0, (n1, s, (a1 : Int), true), (n2, s, (a2 : Int), true), (t3, s, (a3 : Int), true), h0, ?_, h2, h3, .inr ⟨?_, rfl⟩⟩
    · rw [e1]; exact h1
    · unfold quadZ
      simp [e1]
end Go.Proofs.YtnmbinfgcgjfbaaE

namespace Go.Proofs.YtnmbinfgcgjfbaaE
open Go
set_option linter.unusedVariables false
/-- A step is right, for so many blocks. -/
def stepB (k t f : Int) (d : Str) (n : Int) : Bool :=
  if k = 1 then decide (0 ≤ t) && decide (t ≤ n - 1) && decide (f = 0) && (d == [])
  else if k = 2 then decide (0 ≤ t) && decide (t ≤ n - 1) && decide (f = 0) && decide ((d.length : Int) = 8)
  else if k = 3 then decide (0 ≤ t) && decide (t ≤ n - 1) && (decide (0 ≤ f) && decide (f ≤ n - 1)) && (d == [])
  else if k = 4 then decide (0 ≤ t) && decide (t ≤ n - 1) && (decide (0 ≤ f) && decide (f ≤ n - 1)) && decide ((d.length : Int) = 8)
  else if k = 5 then decide (t = 0) && (decide (0 ≤ f) && decide (f ≤ 1000000)) && (d == [])
  else false
theorem sStep (k t f : Int) (d : Str) (n : Int) (h1 : 1 ≤ n) (h2 : n ≤ 8) : spec_StepRight (k, (t, (f, d))) n = some (stepB k t f d n) := by
  unfold spec_StepRight spec_l03Is stepB
  simp only [Option.bind_some]
  rw [w64 (n := n - 1) (by omega) (by omega), decide_eq_true h1, decide_eq_true h2]
  simp only [beqd]
  generalize (decide (0 ≤ t) && decide (t ≤ n - 1)) = P
  generalize (decide (0 ≤ f) && decide (f ≤ n - 1)) = Q
  generalize (decide (0 ≤ f) && decide (f ≤ 1000000)) = R
  generalize (d == ([] : Str)) = E
  generalize decide ((d.length : Int) = 8) = Z
  by_cases c1 : k = 1
  · subst c1; cases P <;> by_cases h : f = 0 <;> simp [h]
  by_cases c2 : k = 2
  · subst c2; cases P <;> by_cases h : f = 0 <;> simp [h]
  by_cases c3 : k = 3
  · subst c3; cases P <;> cases Q <;> simp
  by_cases c4 : k = 4
  · subst c4; cases P <;> cases Q <;> simp
  by_cases c5 : k = 5
  · subst c5; cases R <;> by_cases h : t = 0 <;> simp [h]
  simp [c1, c2, c3, c4, c5]
theorem sStepNo (k t f : Int) (d : Str) (n : Int) (h : ¬ (1 ≤ n ∧ n ≤ 8)) : spec_StepRight (k, (t, (f, d))) n = some false := by
  unfold spec_StepRight spec_l03Is
  simp only [Option.bind_some]
  rw [show (decide (1 ≤ n) && decide (n ≤ 8)) = false by rw [Bool.eq_false_iff, Ne, Bool.and_eq_true, decide_eq_true_eq, decide_eq_true_eq]; exact h]
  rfl
theorem iStep (k t f : Int) (d : Str) (n : Int) (h1 : 1 ≤ n) (h2 : n ≤ 8) : impl_isStep (k, (t, (f, d))) n = some (stepB k t f d n) := by
  have hw : IntKind.wrap .i64 (n - 1) = n - 1 := w64 (by omega) (by omega)
  unfold impl_isStep
  simp only [impl_within, impl_isTime, Option.bind_some, hw, impl_isStep.j0, impl_isStep.j1, stepB, beqd]
  generalize (decide (0 ≤ t) && decide (t ≤ n - 1)) = P
  generalize (decide (0 ≤ f) && decide (f ≤ n - 1)) = Q
  generalize (d == ([] : Str)) = E
  by_cases c1 : k = 1
  · subst c1; cases P <;> by_cases h : f = 0 <;> simp [h]
  by_cases c2 : k = 2
  · subst c2; cases P <;> by_cases h : f = 0 <;> simp [h]
  by_cases c3 : k = 3
  · subst c3; cases P <;> cases Q <;> simp
  by_cases c4 : k = 4
  · subst c4; cases P <;> cases Q <;> simp
  by_cases c5 : k = 5
  · subst c5; cases E <;> by_cases h : t = 0 <;> simp [h]
  have hk : (decide (1 ≤ k) && decide (k ≤ 5)) = false := by
    rw [Bool.eq_false_iff, Ne, Bool.and_eq_true, decide_eq_true_eq, decide_eq_true_eq]; omega
  simp [c1, c2, c3, c4, c5, hk]
theorem stepB_data {k t f : Int} {d : Str} {n : Int} (h : stepB k t f d n = true) : d.length ≤ 8 := by
  unfold stepB at h
  have e : (d == ([] : Str)) = true → d.length ≤ 8 := fun q => by
    rw [beq_str] at q
    rw [of_decide_eq_true q]; simp
  have e8 : decide ((d.length : Int) = 8) = true → d.length ≤ 8 := fun q => by
    have := of_decide_eq_true q; omega
  split at h
  · exact e ((Bool.and_eq_true _ _).mp h).2
  split at h
  · exact e8 ((Bool.and_eq_true _ _).mp h).2
  split at h
  · exact e ((Bool.and_eq_true _ _).mp h).2
  split at h
  · exact e8 ((Bool.and_eq_true _ _).mp h).2
  split at h
  · exact e ((Bool.and_eq_true _ _).mp h).2
  · cases h
/-- A step, read from the body of a text. -/
def stepOf (s : Str) : Option (Int × Int × Int × Str) := match quadZ s with
  | some (x, y, z, t, d) => if d = s.length ∧ stepB x y z t 8 = true then some (x, y, z, t) else none
  | none => none
theorem stepOf_right {s : Str} {x y z : Int} {t : Str} (h : stepOf s = some (x, y, z, t)) : stepB x y z t 8 = true := by
  unfold stepOf at h
  split at h
  · split at h
    · rename_i hq
      cases h
      exact hq.2
    · cases h
  · cases h
theorem puts4 (x y z : Int) (t : Str) (hx : Num x) (hy : Num y) (hz : Num z) (ht : t.length ≤ 8000) : Ever fun k => spec_PutNum k x = some (putOf x) ∧ spec_PutNum k y = some (putOf y) ∧ spec_PutNum k z = some (putOf z) ∧ spec_PutText k t = some (putTextOf t) :=
  ((sPutNum x hx).and ((sPutNum y hy).and ((sPutNum z hz).and (sPutText t ht))))
theorem sStepBytes (x y z : Int) (t : Str) (hx : Num x) (hy : Num y) (hz : Num z) (ht : t.length ≤ 8000) : Ever fun k => spec_StepBytes k (x, (y, (z, t))) = some (if stepB x y z t 8 = true then putOf x ++ putOf y ++ putOf z ++ putTextOf t else []) := by
  refine (puts4 x y z t hx hy hz ht).mono fun k ⟨h1, h2, h3, h4⟩ => ?_
  have l1 := putOf_len x
  have l2 := putOf_len y
  have l3 := putOf_len z
  have l4 := putTextOf_len t
  unfold spec_StepBytes
  rw [sStep x y z t 8 (by omega) (by omega)]
  simp only [Option.bind_some]
  by_cases hb : stepB x y z t 8 = true
  · rw [hb, if_pos rfl]
    unfold spec_l06Bytes
    simp only [Bool.not_true, cond_false]
    rw [h1, h2, h3, h4]
    simp only [Option.bind_some]
    rw [cat_some (by omega)]
    simp only [Option.bind_some]
    rw [cat_some (by simp; omega)]
    simp only [Option.bind_some]
    rw [cat_some (by simp; omega)]
    rfl
  · rw [if_neg hb, (Bool.eq_false_iff.2 hb : stepB x y z t 8 = false)]
    rfl
theorem empty_ne {s : Str} (h : 1 ≤ s.length) : (([] : Str) == s) = false := by
  cases s with
  | nil => exact absurd h (by simp)
  | cons _ _ => rfl
theorem sStepRead (s : Str) (hs : s.length ≤ 8000) : Ever fun k => spec_StepRead k s = some (match stepOf s with
    | some (x, y, z, t) => (x, y, z, t, 0)
    | none => (0, 0, 0, [], 3)) := by
  cases hq : quadZ s with
  | none =>
    refine (readsS s hs).mono fun k ⟨v3, v4, v5, v6, h3, h4, h5, h6, h⟩ => ?_
    have h7 : v6.2.2.2 = true := by
      rcases h with ⟨x, y, z, t, d, e, _⟩ | ⟨_, h⟩
      · rw [hq] at e; cases e
      · exact h
    unfold spec_StepRead stepOf
    rw [hq, decide_eq_false (by omega : ¬ (8000 < (s.length : Int)))]
    simp only [cond_false]
    rw [h3]
    simp only [Option.bind_some]
    rw [h4]
    simp only [Option.bind_some]
    rw [h5]
    simp only [Option.bind_some]
    rw [h6]
    simp only [Option.bind_some]
    rw [h7]
    rfl
  | some q =>
    obtain ⟨x, y, z, t, d⟩ := q
    obtain ⟨a, b, c, g1, g2, g3, g4⟩ := quad_got hq
    refine ((readsS s hs).and (sStepBytes x y z t g1.range g2.range g3.range g4.size)).mono fun k ⟨⟨v3, v4, v5, v6, h3, h4, h5, h6, h⟩, hb⟩ => ?_
    have h7 : v3.1 = x ∧ v4.1 = y ∧ v5.1 = z ∧ v6 = (t, s, ((d : Nat) : Int), false) := by
      rcases h with ⟨x', y', z', t', d', e, h⟩ | ⟨e, _⟩
      · rw [hq] at e; cases e; exact h
      · rw [hq] at e; cases e
    obtain ⟨i1, i2, i3, i4⟩ := h7
    unfold spec_StepRead stepOf
    rw [hq, decide_eq_false (by omega : ¬ (8000 < (s.length : Int)))]
    simp only [cond_false]
    rw [h3]
    simp only [Option.bind_some]
    rw [h4]
    simp only [Option.bind_some]
    rw [h5]
    simp only [Option.bind_some]
    rw [h6]
    simp only [Option.bind_some]
    rw [i1, i2, i3, i4]
    simp only [cond_false]
    rw [hb]
    simp only [Option.bind_some]
    by_cases hr : stepB x y z t 8 = true
    · rw [if_pos hr, beq_str]
      by_cases hd : d = s.length
      · rw [decide_eq_true ((head_whole g1 g2 g3 g4).2 hd), if_pos ⟨hd, hr⟩]
        rfl
      · rw [decide_eq_false (fun q => hd ((head_whole g1 g2 g3 g4).1 q)), if_neg (fun q => hd q.1)]
        rfl
    · have := g1.le
      have := g1.at'
      have := putOf_pos x
      rw [if_neg hr, if_neg (fun q => hr q.2), empty_ne (by omega)]
      rfl
theorem iStepRead (s : Str) (hs : s.length ≤ 8000) : Ever fun k => impl_stepRead k s = some (match stepOf s with
    | some (x, y, z, t) => (x, y, z, t, true)
    | none => (0, 0, 0, [], false)) := by
  refine (readsI s hs).mono fun k ⟨v3, v4, v5, v6, h3, h4, h5, h6, h⟩ => ?_
  unfold impl_stepRead impl_reader_step stepOf
  rw [h3]
  simp only [Option.bind_some]
  rw [h4]
  simp only [Option.bind_some]
  rw [h5]
  simp only [Option.bind_some]
  rw [h6]
  simp only [Option.bind_some]
  rcases h with ⟨x, y, z, t, d, e, i1, i2, i3, i4⟩ | ⟨e, h7⟩
  · rw [e, i1, i2, i3, i4]
    simp only [Bool.false_or]
    rw [iStep x y z t 8 (by omega) (by omega)]
    by_cases hd : d = s.length
    · rw [show (((d : Nat) : Int) != (s.length : Int)) = false by rw [hd]; simp]
      simp only [cond_false, Option.bind_some]
      by_cases hr : stepB x y z t 8 = true
      · rw [if_pos ⟨hd, hr⟩, hr]; rfl
      · rw [if_neg (fun q => hr q.2), Bool.eq_false_iff.2 hr]; rfl
    · rw [show (((d : Nat) : Int) != (s.length : Int)) = true by simp; omega, if_neg (fun q => hd q.1)]
      rfl
  · rw [e, h7]
    rfl
/-! ### heads -/
def headB (x y z : Int) (t : Str) : Bool := (decide (1 ≤ x) && decide (x ≤ 8)) && ((decide (1 ≤ y) && decide (y ≤ 20)) && ((decide (0 ≤ z) && decide (z ≤ 4)) && decide ((t.length : Int) = 32)))
theorem sHead (x y z : Int) (t : Str) : spec_HeadRight (x, (y, (z, t))) = some (headB x y z t) := by
  unfold spec_HeadRight spec_l03Is headB
  simp only [Option.bind_some, beqd]
  cases (decide (1 ≤ x) && decide (x ≤ 8)) <;> cases (decide (1 ≤ y) && decide (y ≤ 20)) <;> rfl
theorem iHead (x y z : Int) (t : Str) : impl_isHead (x, (y, (z, t))) = some (headB x y z t) := by
  unfold impl_isHead impl_isBlocks impl_within headB
  simp only [Option.bind_some, beqd]
  cases (decide (1 ≤ x) && decide (x ≤ 8)) <;> cases (decide (1 ≤ y) && decide (y ≤ 20)) <;> rfl
theorem headB_is {x y z : Int} {t : Str} (h : headB x y z t = true) : (1 ≤ x ∧ x ≤ 8) ∧ (1 ≤ y ∧ y ≤ 20) ∧ (0 ≤ z ∧ z ≤ 4) ∧ t.length = 32 := by
  unfold headB at h
  simp only [Bool.and_eq_true, decide_eq_true_eq] at h
  omega
/-- A head, read from the body of a text: the head, or none. -/
def headOf (s : Str) : Option (Int × Int × Int × Str) := match quadZ s with
  | some (x, y, z, t, d) => if d = s.length ∧ headB x y z t = true then some (x, y, z, t) else none
  | none => none
def headR (s : Str) : Int × Int × Int × Str × Int := if (unsealI s).2 = 0 then match headOf (bodyOf s) with
    | some (x, y, z, t) => (x, y, z, t, 0)
    | none => (0, 0, 0, [], 3) else (0, 0, 0, [], (unsealI s).2)
theorem sHeadBytes (x y z : Int) (t : Str) (hx : Num x) (hy : Num y) (hz : Num z) (ht : t.length ≤ 8000) : Ever fun k => spec_HeadBytes k (x, (y, (z, t))) = some (if headB x y z t = true then sealOf (putOf x ++ putOf y ++ putOf z ++ putTextOf t) else []) := by
  by_cases hb : headB x y z t = true
  · have hl := headB_is hb
    have l1 := putOf_len x
    have l2 := putOf_len y
    have l3 := putOf_len z
    have l4 := putTextOf_len t
    refine ((puts4 x y z t hx hy hz ht).and (sSeal (putOf x ++ putOf y ++ putOf z ++ putTextOf t) (by simp; omega))).mono fun k ⟨⟨h1, h2, h3, h4⟩, h5⟩ => ?_
    unfold spec_HeadBytes
    rw [sHead, hb, if_pos rfl]
    simp only [Option.bind_some, Bool.not_true, cond_false]
    rw [h1, h2, h3, h4]
    simp only [Option.bind_some]
    rw [cat_some (by omega)]
    simp only [Option.bind_some]
    rw [cat_some (by simp; omega)]
    simp only [Option.bind_some]
    rw [cat_some (by simp; omega)]
    simp only [Option.bind_some]
    rw [h5]
    rfl
  · refine Ever.of fun k => ?_
    unfold spec_HeadBytes
    rw [sHead, if_neg hb, Bool.eq_false_iff.2 hb]
    rfl
theorem sHeadRead (s : Str) (hs : s.length ≤ 8000) : Ever fun k => spec_HeadRead k s = some (headR s) := by
  by_cases hu : (unsealI s).2 = 0
  · obtain ⟨e1, e2, e3⟩ := unseal_ok hu
    have hbl : (bodyOf s).length ≤ 8000 := by rw [body_len]; omega
    cases hq : quadZ (bodyOf s) with
    | none =>
      refine ((sUnseal s hs).and (readsS (bodyOf s) hbl)).mono fun k ⟨h0, v3, v4, v5, v6, h3, h4, h5, h6, h⟩ => ?_
      have h7 : v6.2.2.2 = true := by
        rcases h with ⟨x, y, z, t, d, e, _⟩ | ⟨_, h⟩
        · rw [hq] at e; cases e
        · exact h
      unfold spec_HeadRead headR headOf
      rw [if_pos hu, hq, h0, e1]
      simp only [Option.bind_some]
      rw [show ((0 : Int) != 0) = false from rfl, cond_false, h3]
      simp only [Option.bind_some]
      rw [h4]
      simp only [Option.bind_some]
      rw [h5]
      simp only [Option.bind_some]
      rw [h6]
      simp only [Option.bind_some]
      rw [h7]
      rfl
    | some q =>
      obtain ⟨x, y, z, t, d⟩ := q
      obtain ⟨a, b, c, g1, g2, g3, g4⟩ := quad_got hq
      refine (((sUnseal s hs).and (readsS (bodyOf s) hbl)).and (sHeadBytes x y z t g1.range g2.range g3.range g4.size)).mono fun k ⟨⟨h0, v3, v4, v5, v6, h3, h4, h5, h6, h⟩, hb⟩ => ?_
      have h7 : v3.1 = x ∧ v4.1 = y ∧ v5.1 = z ∧ v6 = (t, bodyOf s, ((d : Nat) : Int), false) := by
        rcases h with ⟨x', y', z', t', d', e, h⟩ | ⟨e, _⟩
        · rw [hq] at e; cases e; exact h
        · rw [hq] at e; cases e
      obtain ⟨i1, i2, i3, i4⟩ := h7
      unfold spec_HeadRead headR headOf
      rw [if_pos hu, hq, h0, e1]
      simp only [Option.bind_some]
      rw [show ((0 : Int) != 0) = false from rfl, cond_false, h3]
      simp only [Option.bind_some]
      rw [h4]
      simp only [Option.bind_some]
      rw [h5]
      simp only [Option.bind_some]
      rw [h6]
      simp only [Option.bind_some]
      rw [i1, i2, i3, i4]
      simp only [cond_false]
      rw [hb]
      simp only [Option.bind_some]
      by_cases hr : headB x y z t = true
      · rw [if_pos hr, beq_str]
        by_cases hd : d = (bodyOf s).length
        · have : sealOf (putOf x ++ putOf y ++ putOf z ++ putTextOf t) = s := by rw [(head_whole g1 g2 g3 g4).2 hd, e2]
          rw [decide_eq_true this, if_pos ⟨hd, hr⟩]
          rfl
        · rw [decide_eq_false (fun q => hd ((head_whole g1 g2 g3 g4).1 (seal_inj.1 (q.trans e2.symm)))), if_neg (fun q => hd q.1)]
          rfl
      · rw [if_neg hr, if_neg (fun q => hr q.2), empty_ne (by omega)]
        rfl
  · refine (sUnseal s hs).mono fun k h0 => ?_
    unfold spec_HeadRead headR
    rw [if_neg hu, h0]
    simp only [Option.bind_some]
    rw [show ((unsealI s).2 != 0) = true by simpa using hu]
    rfl
theorem iHeadRead (s : Str) (hs : s.length ≤ 8000) : Ever fun k => impl_headRead k s = some (headR s) := by
  by_cases hu : (unsealI s).2 = 0
  · obtain ⟨e1, e2, e3⟩ := unseal_ok hu
    have hbl : (bodyOf s).length ≤ 8000 := by rw [body_len]; omega
    refine ((iUnseal s (by omega)).and (readsI (bodyOf s) hbl)).mono fun k ⟨h0, v3, v4, v5, v6, h3, h4, h5, h6, h⟩ => ?_
    unfold impl_headRead headR headOf
    rw [if_pos hu, h0, e1]
    simp only [Option.bind_some]
    rw [show ((0 : Int) != 0) = false from rfl, cond_false, h3]
    simp only [Option.bind_some]
    rw [h4]
    simp only [Option.bind_some]
    rw [h5]
    simp only [Option.bind_some]
    rw [h6]
    simp only [Option.bind_some]
    rcases h with ⟨x, y, z, t, d, e, i1, i2, i3, i4⟩ | ⟨e, h7⟩
    · rw [e, i1, i2, i3, i4]
      simp only [Bool.false_or]
      rw [iHead]
      by_cases hd : d = (bodyOf s).length
      · rw [show (((d : Nat) : Int) != ((bodyOf s).length : Int)) = false by rw [hd]; simp]
        simp only [cond_false, Option.bind_some]
        by_cases hr : headB x y z t = true
        · rw [if_pos ⟨hd, hr⟩, hr]; rfl
        · rw [if_neg (fun q => hr q.2), Bool.eq_false_iff.2 hr]; rfl
      · rw [show (((d : Nat) : Int) != ((bodyOf s).length : Int)) = true by simp; omega, if_neg (fun q => hd q.1)]
        rfl
    · rw [e, h7]
      rfl
  · refine (iUnseal s (by omega)).mono fun k h0 => ?_
    unfold impl_headRead headR
    rw [if_neg hu, h0]
    simp only [Option.bind_some]
    rw [show ((unsealI s).2 != 0) = true by simpa using hu]
    rfl
end Go.Proofs.YtnmbinfgcgjfbaaE

namespace Go.Proofs.YtnmbinfgcgjfbaaE
open Go
def laws_FnExactFeedPut.Pure : Prop := ∀ (y0 : G68) (y1 : Str), Bnd T68 y0 → Bnd .str y1 → ∃ k : Nat, laws_FnExactFeedPut k y0 y1 = some true
end Go.Proofs.YtnmbinfgcgjfbaaE

namespace Go.Proofs.YtnmbinfgcgjfbaaE
open Go
set_option linter.unusedVariables false
namespace Feed
def zeroS : G66 := (0, (0, (0, [])))
/-- No head stands yet. -/
def fresh (h : G66) : Bool := (h.1 == 0) && ((h.2.1 == 0) && ((h.2.2.1 == 0) && (h.2.2.2 == [])))
def hB (h : G66) : Bool := headB h.1 h.2.1 h.2.2.1 h.2.2.2
def Inv (h : G66) (g : Int) : Prop := (fresh h = true ∧ g = 0) ∨ (fresh h = false ∧ hB h = true ∧ 0 ≤ g ∧ g ≤ h.2.1)
theorem hB_fresh {h : G66} (q : hB h = true) : fresh h = false := by
  have := headB_is q
  unfold fresh
  rw [beqd, decide_eq_false (by omega : ¬ (h.1 = 0))]
  rfl
/-- What one element makes of the state. -/
def takeM (h : G66) (g : Int) (c : List G169) (s : Str) : Option (G66 × Int × List G169) :=
  if fresh h = true then
    if (headR s).2.2.2.2 = 0 then some (((headR s).1, ((headR s).2.1, ((headR s).2.2.1, (headR s).2.2.2.1))), g, c ++ [(1, ((headR s).2.1, ((headR s).2.2.1, ((headR s).2.2.2.1, zeroS))))]) else none
  else if (unsealI s).2 = 0 then match stepOf (bodyOf s) with
    | some q => if stepB q.1 q.2.1 q.2.2.1 q.2.2.2 h.1 = true then if g + 1 = h.2.1 then some (h, g + 1, (c ++ [(2, (0, (0, ([], q))))]) ++ [(3, (0, (0, ([], zeroS))))]) else some (h, g + 1, c ++ [(2, (0, (0, ([], q))))]) else none
    | none => none
  else none
def TakeOk (r : Option (G66 × Int × List G169)) (rest : Str) (code : Int) (v : Bool × Int × Int × Int × Str × Int × Str × List G169 × Int) : Prop := match r with
  | some q => v = (true, q.1.1, q.1.2.1, q.1.2.2.1, q.1.2.2.2, q.2.1, rest, q.2.2, code)
  | none => v.1 = false
theorem take_inv {h : G66} {g : Int} {c : List G169} {s : Str} {q : G66 × Int × List G169} (hi : Inv h g) (hn : fresh h = false → g < h.2.1) (e : takeM h g c s = some q) : Inv q.1 q.2.1 ∧ q.2.2.length ≤ c.length + 2 := by
  unfold takeM at e
  split at e
  · rename_i hf
    split at e
    · rename_i hr
      cases e
      refine ⟨.inr ?_, by simp⟩
      have hg : g = 0 := by
        rcases hi with hi | hi
        · exact hi.2
        · rw [hi.1] at hf; cases hf
      have hb : hB ((headR s).1, ((headR s).2.1, ((headR s).2.2.1, (headR s).2.2.2.1))) = true := by
        unfold headR at hr ⊢
        split at hr
        · rename_i hu
          rw [if_pos hu]
          unfold headOf at hr ⊢
          cases hq : quadZ (bodyOf s) with
          | none => rw [hq] at hr; simp at hr
          | some w =>
            obtain ⟨x, y, z, t, d⟩ := w
            rw [hq] at hr
            simp only at hr ⊢
            by_cases hd : d = (bodyOf s).length ∧ headB x y z t = true
            · rw [if_pos hd]; exact hd.2
            · rw [if_neg hd] at hr; simp at hr
        · rename_i hu
          exact absurd hr hu
      have hh : 1 ≤ (headR s).2.1 := (headB_is hb).2.1.1
      exact ⟨hB_fresh hb, hb, by show (0 : Int) ≤ g; omega, by show g ≤ (headR s).2.1; omega⟩
    · cases e
  · rename_i hf
    have hf : fresh h = false := Bool.eq_false_iff.2 hf
    have hi : hB h = true ∧ 0 ≤ g ∧ g ≤ h.2.1 := by
      rcases hi with hi | hi
      · rw [hi.1] at hf; cases hf
      · exact hi.2
    have hn := hn hf
    split at e
    · split at e
      · split at e
        · split at e
          · cases e
            exact ⟨.inr ⟨hf, hi.1, by show (0 : Int) ≤ g + 1; omega, by show g + 1 ≤ h.2.1; omega⟩, by simp⟩
          · cases e
            exact ⟨.inr ⟨hf, hi.1, by show (0 : Int) ≤ g + 1; omega, by show g + 1 ≤ h.2.1; omega⟩, by simp⟩
        · cases e
      · cases e
    · cases e
theorem iTake (h : G66) (g : Int) (c : List G169) (s rest : Str) (code : Int) (hs : s.length ≤ 8000) (hc : c.length ≤ 100000) (hi : Inv h g) (hn : fresh h = false → g < h.2.1) :
    Ever fun k => ∃ v, impl_FeedOut_take k ((h, (g, rest)), (c, code)) s (!(fresh h)) = some v ∧ TakeOk (takeM h g c s) rest code v := by
  cases hf : fresh h with
  | true =>
    refine (iHeadRead s hs).mono fun k e => ?_
    unfold impl_FeedOut_take takeM
    simp only [Bool.not_true, Bool.not_false, cond_true]
    rw [e, hf]
    simp only [Option.bind_some]
    rw [app_ok (by simp; omega)]
    simp only [Option.bind_some]
    refine ⟨_, rfl, ?_⟩
    by_cases hr : (headR s).2.2.2.2 = 0
    · rw [if_pos True.intro, if_pos hr, hr]; rfl
    · rw [if_pos True.intro, if_neg hr]
      show ((headR s).2.2.2.2 == 0) = false
      rw [beqd, decide_eq_false hr]
  | false =>
    have hi : hB h = true ∧ 0 ≤ g ∧ g ≤ h.2.1 := by
      rcases hi with hi | hi
      · rw [hi.1] at hf; cases hf
      · exact hi.2
    have hn := hn hf
    have hh := headB_is hi.1
    refine ((iUnseal s (by omega)).and (iStepRead (unsealI s).1 (by have := unseal_len s; omega))).mono fun k ⟨e1, e2⟩ => ?_
    unfold impl_FeedOut_take takeM
    simp only [Bool.not_true, Bool.not_false, cond_false]
    rw [e1]
    simp only [Option.bind_some]
    rw [e2, hf, if_neg (by simp)]
    simp only [Option.bind_some]
    by_cases hu : (unsealI s).2 = 0
    · rw [if_pos hu, hu, (unseal_ok hu).1]
      simp only [show ((0 : Int) != 0) = false from rfl, cond_false]
      cases hq : stepOf (bodyOf s) with
      | none => exact ⟨_, rfl, rfl⟩
      | some q =>
        obtain ⟨x, y, z, t⟩ := q
        simp only [Bool.not_true, cond_false]
        rw [iStep x y z t h.1 (by omega) (by omega)]
        simp only [Option.bind_some]
        by_cases hb : stepB x y z t h.1 = true
        · rw [if_pos hb, hb, app_ok (by simp; omega), w64 (n := g + 1) (by omega) (by omega), beqd]
          simp only [Bool.not_true, cond_false, Option.bind_some]
          by_cases he : g + 1 = h.2.1
          · rw [if_pos he, decide_eq_true he, app_ok (by simp; omega)]
            exact ⟨_, rfl, rfl⟩
          · rw [if_neg he, decide_eq_false he]
            exact ⟨_, rfl, rfl⟩
        · rw [if_neg hb, Bool.eq_false_iff.2 hb]
          exact ⟨_, rfl, rfl⟩
    · rw [if_neg hu, show ((unsealI s).2 != 0) = true by simpa using hu]
      exact ⟨_, rfl, rfl⟩
theorem sTake (h : G66) (g : Int) (c : List G169) (s rest : Str) (code : Int) (hs : s.length ≤ 8000) (hc : c.length ≤ 100000) (hi : Inv h g) :
    Ever fun k => ∃ v, spec_l18Take k ((h, (g, rest)), (c, code)) s = some v ∧ TakeOk (if fresh h = false ∧ g = h.2.1 then none else takeM h g c s) rest code v := by
  cases hf : fresh h with
  | true =>
    refine (sHeadRead s hs).mono fun k e => ?_
    unfold spec_l18Take takeM
    rw [show ((h.1 == 0) && ((h.2.1 == 0) && ((h.2.2.1 == 0) && (h.2.2.2 == [])))) = true from hf, if_neg (fun q => by cases q.1)]
    simp only [cond_true]
    rw [e, hf]
    simp only [Option.bind_some]
    rw [app_ok (by simp; omega)]
    simp only [Option.bind_some]
    refine ⟨_, rfl, ?_⟩
    by_cases hr : (headR s).2.2.2.2 = 0
    · rw [if_pos True.intro, if_pos hr, hr]; rfl
    · rw [if_pos True.intro, if_neg hr]
      show ((headR s).2.2.2.2 == 0) = false
      rw [beqd, decide_eq_false hr]
  | false =>
    have hi : hB h = true ∧ 0 ≤ g ∧ g ≤ h.2.1 := by
      rcases hi with hi | hi
      · rw [hi.1] at hf; cases hf
      · exact hi.2
    have hh := headB_is hi.1
    refine ((sUnseal s hs).and (sStepRead (unsealI s).1 (by have := unseal_len s; omega))).mono fun k ⟨e1, e2⟩ => ?_
    unfold spec_l18Take takeM
    rw [show ((h.1 == 0) && ((h.2.1 == 0) && ((h.2.2.1 == 0) && (h.2.2.2 == [])))) = false from hf]
    simp only [cond_false]
    rw [e1]
    simp only [Option.bind_some]
    rw [e2, hf, if_neg (by simp : ¬ (false = true))]
    simp only [Option.bind_some, true_and]
    by_cases hu : (unsealI s).2 = 0
    · rw [if_pos hu, hu, (unseal_ok hu).1]
      simp only [show ((0 : Int) != 0) = false from rfl, cond_false]
      cases hq : stepOf (bodyOf s) with
      | none =>
        refine ⟨_, rfl, ?_⟩
        split <;> exact rfl
      | some q =>
        obtain ⟨x, y, z, t⟩ := q
        simp only [show ((0 : Int) != 0) = false from rfl, cond_false]
        rw [sStep x y z t h.1 (by omega) (by omega)]
        simp only [Option.bind_some]
        by_cases hb : stepB x y z t h.1 = true
        · rw [if_pos hb, hb]
          simp only [Bool.not_true, cond_false]
          by_cases hl : g = h.2.1
          · rw [if_pos hl, decide_eq_true (by omega : h.2.1 ≤ g)]
            exact ⟨_, rfl, rfl⟩
          · rw [if_neg hl, decide_eq_false (by omega : ¬ (h.2.1 ≤ g)), app_ok (by simp; omega), w64 (n := g + 1) (by omega) (by omega), beqd]
            simp only [cond_false, Option.bind_some]
            by_cases he : g + 1 = h.2.1
            · rw [if_pos he, decide_eq_true he, app_ok (by simp; omega)]
              exact ⟨_, rfl, rfl⟩
            · rw [if_neg he, decide_eq_false he]
              exact ⟨_, rfl, rfl⟩
        · rw [if_neg hb, Bool.eq_false_iff.2 hb]
          refine ⟨_, rfl, ?_⟩
          split <;> exact rfl
    · rw [if_neg hu, show ((unsealI s).2 != 0) = true by simpa using hu]
      refine ⟨_, rfl, ?_⟩
      split <;> exact rfl
/-! the loops -/
def feedM : Nat → Str → Nat → G66 → Int → List G169 → Option (Nat × G66 × Int × List G169)
  | 0, _, _, _, _, _ => none
  | d + 1, s, a, h, g, c => if a < s.length then
      if fresh h = false ∧ g = h.2.1 then none
      else if (getTextZ s a).2.2 = 4 then some (a, h, g, c)
      else if (getTextZ s a).2.2 = 0 then match takeM h g c (getTextZ s a).1 with
        | some q => feedM d s (getTextZ s a).2.1.toNat q.1 q.2.1 q.2.2
        | none => none
      else none
    else some (a, h, g, c)
abbrev Out := (Int × Int × Int × Int × Str × Int × Str × Int × Int × Int × Int × Str × Int × Str × Int × List G169 × List G169) ⊕ (Int × Int × Int × Str × Int × Str × Int × Int × Int × Int × Str × Int × Str × Int × List G169 × List G169)
def outL (r : Str) (a : Nat) (h : G66) (g : Int) (c : List G169) : Out := .inl ((a : Int), 0, 0, 0, [], 0, [], 0, h.1, h.2.1, h.2.2.1, h.2.2.2, g, r, 0, [], c)
def OutR (X : Out) : Prop := ∃ (a b c : Int) (d : Str) (e : Int) (f : Str) (g : Int) (l : List G169), X = .inr (0, 0, 0, [], 0, [], 3, a, b, c, d, e, f, g, [], l)
def PostI (s : Str) (r : Option (Nat × G66 × Int × List G169)) (X : Out) : Prop := match r with
  | some q => X = outL [] q.1 q.2.1 q.2.2.1 q.2.2.2 ∧ q.1 ≤ s.length ∧ q.2.2.2.length ≤ 100000
  | none => OutR X
def PostS (r : Str) (s : Str) (m : Option (Nat × G66 × Int × List G169)) (X : Out) : Prop := match m with
  | some q => X = outL r q.1 q.2.1 q.2.2.1 q.2.2.2 ∧ q.1 ≤ s.length ∧ (q.1 = s.length ∨ (Inv q.2.1 q.2.2.1 ∧ ¬ (fresh q.2.1 = false ∧ q.2.2.1 = q.2.1.2.1)))
  | none => OutR X ∨ ∃ a h g c, X = outL r a h g c ∧ a < s.length ∧ Inv h g ∧ fresh h = false ∧ g = h.2.1
theorem text_next {s : Str} {a : Nat} (h : (getTextZ s a).2.2 = 0) : ∃ t b, getTextZ s a = (t, ((b : Nat) : Int), 0) ∧ a < b ∧ b ≤ s.length ∧ t.length ≤ 8000 := by
  rcases text_cases s a with ⟨t, b, e, q⟩ | ⟨c, hc, e⟩
  · refine ⟨t, b, e, ?_, q.le, q.size⟩
    have := q.at'
    have := putOf_pos (t.length : Int)
    unfold putTextOf at *
    simp only [List.length_append] at *
    omega
  · rw [e] at h; exact absurd h hc
theorem iLoop (s : Str) (hs : s.length ≤ 8000) : ∀ (d a : Nat) (h : G66) (g : Int) (c : List G169), Inv h g → a ≤ s.length → s.length - a < d → c.length ≤ 2 * a →
    Ever fun k => ∀ j, d ≤ j → ∃ X, impl_feedPut.l0 k j s (a : Int) 0 0 0 [] 0 [] 0 h.1 h.2.1 h.2.2.1 h.2.2.2 g [] 0 [] c = some X ∧ PostI s (feedM d s a h g c) X
  | 0, a, h, g, c, hi, ha, hd, hc => absurd hd (Nat.not_lt_zero _)
  | d + 1, a, h, g, c, hi, ha, hd, hc => by
    by_cases hl : a < s.length
    · by_cases hfin : fresh h = false ∧ g = h.2.1
      · refine Ever.of fun k j hj => ?_
        obtain ⟨j, rfl⟩ : ∃ m, j = m + 1 := ⟨j - 1, by omega⟩
        unfold impl_feedPut.l0 feedM
        rw [decide_eq_true (by omega : (a : Int) < (s.length : Int)), if_pos hl, if_pos hfin]
        have hf : ((h.1 == 0) && ((h.2.1 == 0) && ((h.2.2.1 == 0) && (h.2.2.2 == [])))) = false := hfin.1
        simp only [cond_true]
        rw [hf, beqd, decide_eq_true hfin.2]
        exact ⟨_, rfl, _, _, _, _, _, _, _, _, rfl⟩
      · have hgt := iGetText s a (by omega) (by omega)
        have hkn : ((!(fresh h)) && (g == h.2.1)) = false := by
          rw [Bool.eq_false_iff, Ne, Bool.and_eq_true, beqd, decide_eq_true_eq, Bool.not_eq_true']
          exact hfin
        have hnf : fresh h = false → g < h.2.1 := fun q => by
          rcases hi with hi | hi
          · rw [hi.1] at q; cases q
          · have : g ≠ h.2.1 := fun e => hfin ⟨q, e⟩
            omega
        by_cases h4 : (getTextZ s a).2.2 = 4
        · refine hgt.mono fun k e j hj => ?_
          obtain ⟨j, rfl⟩ : ∃ m, j = m + 1 := ⟨j - 1, by omega⟩
          unfold impl_feedPut.l0 feedM
          rw [decide_eq_true (by omega : (a : Int) < (s.length : Int)), if_pos hl, if_neg hfin, if_pos h4]
          simp only [cond_true]
          rw [show (!((h.1 == 0) && ((h.2.1 == 0) && ((h.2.2.1 == 0) && (h.2.2.2 == []))))) = !(fresh h) from rfl, hkn, cond_false, e]
          simp only [Option.bind_some]
          rw [h4]
          exact ⟨_, rfl, rfl, ha, by show c.length ≤ 100000; omega⟩
        · by_cases h0 : (getTextZ s a).2.2 = 0
          · obtain ⟨t, b, e1, hab, hb, ht⟩ := text_next h0
            have htk := iTake h g c t [] 0 ht (by omega) hi hnf
            cases hm : takeM h g c t with
            | none =>
              refine (hgt.and htk).mono fun k ⟨e, v, e2, ok⟩ j hj => ?_
              obtain ⟨j, rfl⟩ : ∃ m, j = m + 1 := ⟨j - 1, by omega⟩
              rw [hm] at ok
              have ok : v.1 = false := ok
              unfold impl_feedPut.l0 feedM
              rw [decide_eq_true (by omega : (a : Int) < (s.length : Int)), if_pos hl, if_neg hfin, if_neg h4, if_pos h0]
              simp only [cond_true]
              rw [show (!((h.1 == 0) && ((h.2.1 == 0) && ((h.2.2.1 == 0) && (h.2.2.2 == []))))) = !(fresh h) from rfl, hkn, cond_false, e]
              simp only [Option.bind_some]
              rw [e1]
              simp only [show ((0 : Int) == 4) = false from rfl, show ((0 : Int) != 0) = false from rfl, cond_false]
              rw [e2, hm]
              simp only [Option.bind_some]
              rw [ok]
              exact ⟨_, rfl, _, _, _, _, _, _, _, _, rfl⟩
            | some q =>
              obtain ⟨hi', hc'⟩ := take_inv hi hnf hm
              have ih := iLoop s hs d b q.1 q.2.1 q.2.2 hi' hb (by omega) (by omega)
              refine ((hgt.and htk).and ih).mono fun k ⟨⟨e, v, e2, ok⟩, ih⟩ j hj => ?_
              obtain ⟨j, rfl⟩ : ∃ m, j = m + 1 := ⟨j - 1, by omega⟩
              rw [hm] at ok
              have ok : v = (true, q.1.1, q.1.2.1, q.1.2.2.1, q.1.2.2.2, q.2.1, [], q.2.2, 0) := ok
              obtain ⟨X, ex, px⟩ := ih j (by omega)
              refine ⟨X, ?_, ?_⟩
              · unfold impl_feedPut.l0
                rw [decide_eq_true (by omega : (a : Int) < (s.length : Int))]
                simp only [cond_true]
                rw [show (!((h.1 == 0) && ((h.2.1 == 0) && ((h.2.2.1 == 0) && (h.2.2.2 == []))))) = !(fresh h) from rfl, hkn, cond_false, e]
                simp only [Option.bind_some]
                rw [e1]
                simp only [show ((0 : Int) == 4) = false from rfl, show ((0 : Int) != 0) = false from rfl, cond_false]
                rw [e2]
                simp only [Option.bind_some]
                rw [ok]
                exact ex
              · unfold feedM
                rw [if_pos hl, if_neg hfin, if_neg h4, if_pos h0, e1]
                simp only [Int.toNat_natCast]
                rw [hm]
                exact px
          · refine hgt.mono fun k e j hj => ?_
            obtain ⟨j, rfl⟩ : ∃ m, j = m + 1 := ⟨j - 1, by omega⟩
            unfold impl_feedPut.l0 feedM
            rw [decide_eq_true (by omega : (a : Int) < (s.length : Int)), if_pos hl, if_neg hfin, if_neg h4, if_neg h0]
            simp only [cond_true]
            rw [show (!((h.1 == 0) && ((h.2.1 == 0) && ((h.2.2.1 == 0) && (h.2.2.2 == []))))) = !(fresh h) from rfl, hkn, cond_false, e]
            simp only [Option.bind_some]
            rw [beqd, decide_eq_false h4, show ((getTextZ s a).2.2 != 0) = true by simpa using h0]
            exact ⟨_, rfl, _, _, _, _, _, _, _, _, rfl⟩
    · refine Ever.of fun k j hj => ?_
      obtain ⟨j, rfl⟩ : ∃ m, j = m + 1 := ⟨j - 1, by omega⟩
      unfold impl_feedPut.l0 feedM
      rw [decide_eq_false (by omega : ¬ ((a : Int) < (s.length : Int))), if_neg hl]
      exact ⟨_, rfl, rfl, ha, by show c.length ≤ 100000; omega⟩
theorem sLoop (s r : Str) (hs : s.length ≤ 8000) : ∀ (d a : Nat) (h : G66) (g : Int) (c : List G169), Inv h g → a ≤ s.length → s.length - a < d → c.length ≤ 2 * a →
    Ever fun k => ∀ j, d ≤ j → ∃ X, spec_FeedPut.l0 k j s (a : Int) 0 0 0 [] 0 [] 0 h.1 h.2.1 h.2.2.1 h.2.2.2 g r 0 [] c = some X ∧ PostS r s (feedM d s a h g c) X
  | 0, a, h, g, c, hi, ha, hd, hc => absurd hd (Nat.not_lt_zero _)
  | d + 1, a, h, g, c, hi, ha, hd, hc => by
    have hgt := sGetText s a (by omega) hs
    by_cases h4 : (getTextZ s a).2.2 = 4
    · refine hgt.mono fun k e j hj => ?_
      obtain ⟨j, rfl⟩ : ∃ m, j = m + 1 := ⟨j - 1, by omega⟩
      refine ⟨outL r a h g c, ?_, ?_⟩
      · unfold spec_FeedPut.l0
        rw [e]
        simp only [Option.bind_some]
        rw [h4]
        rfl
      · unfold feedM
        by_cases hl : a < s.length
        · rw [if_pos hl]
          by_cases hfin : fresh h = false ∧ g = h.2.1
          · rw [if_pos hfin]
            exact .inr ⟨a, h, g, c, rfl, hl, hi, hfin.1, hfin.2⟩
          · rw [if_neg hfin, if_pos h4]
            exact ⟨rfl, ha, .inr ⟨hi, hfin⟩⟩
        · rw [if_neg hl]
          exact ⟨rfl, ha, .inl (by show a = s.length; omega)⟩
    · by_cases h0 : (getTextZ s a).2.2 = 0
      · obtain ⟨t, b, e1, hab, hb, ht⟩ := text_next h0
        have hl : a < s.length := by omega
        have htk := sTake h g c t r 0 ht (by omega) hi
        by_cases hfin : fresh h = false ∧ g = h.2.1
        · refine (hgt.and htk).mono fun k ⟨e, v, e2, ok⟩ j hj => ?_
          obtain ⟨j, rfl⟩ : ∃ m, j = m + 1 := ⟨j - 1, by omega⟩
          rw [if_pos hfin] at ok
          have ok : v.1 = false := ok
          unfold spec_FeedPut.l0 feedM
          rw [if_pos hl, if_pos hfin, e]
          simp only [Option.bind_some]
          rw [e1]
          simp only [show ((0 : Int) == 4) = false from rfl, show ((0 : Int) != 0) = false from rfl, cond_false]
          rw [e2]
          simp only [Option.bind_some]
          rw [ok]
          exact ⟨_, rfl, .inl ⟨_, _, _, _, _, _, _, _, rfl⟩⟩
        · have hnf : fresh h = false → g < h.2.1 := fun q => by
            rcases hi with hi | hi
            · rw [hi.1] at q; cases q
            · have : g ≠ h.2.1 := fun e => hfin ⟨q, e⟩
              omega
          cases hm : takeM h g c t with
          | none =>
            refine (hgt.and htk).mono fun k ⟨e, v, e2, ok⟩ j hj => ?_
            obtain ⟨j, rfl⟩ : ∃ m, j = m + 1 := ⟨j - 1, by omega⟩
            rw [if_neg hfin, hm] at ok
            have ok : v.1 = false := ok
            unfold spec_FeedPut.l0 feedM
            rw [if_pos hl, if_neg hfin, if_neg h4, if_pos h0, e]
            simp only [Option.bind_some]
            rw [e1]
            simp only [show ((0 : Int) == 4) = false from rfl, show ((0 : Int) != 0) = false from rfl, cond_false]
            rw [e2, hm]
            simp only [Option.bind_some]
            rw [ok]
            exact ⟨_, rfl, .inl ⟨_, _, _, _, _, _, _, _, rfl⟩⟩
          | some q =>
            obtain ⟨hi', hc'⟩ := take_inv hi hnf hm
            have ih := sLoop s r hs d b q.1 q.2.1 q.2.2 hi' hb (by omega) (by omega)
            refine ((hgt.and htk).and ih).mono fun k ⟨⟨e, v, e2, ok⟩, ih⟩ j hj => ?_
            obtain ⟨j, rfl⟩ : ∃ m, j = m + 1 := ⟨j - 1, by omega⟩
            rw [if_neg hfin, hm] at ok
            have ok : v = (true, q.1.1, q.1.2.1, q.1.2.2.1, q.1.2.2.2, q.2.1, r, q.2.2, 0) := ok
            obtain ⟨X, ex, px⟩ := ih j (by omega)
            refine ⟨X, ?_, ?_⟩
            · unfold spec_FeedPut.l0
              rw [e]
              simp only [Option.bind_some]
              rw [e1]
              simp only [show ((0 : Int) == 4) = false from rfl, show ((0 : Int) != 0) = false from rfl, cond_false]
              rw [e2]
              simp only [Option.bind_some]
              rw [ok]
              exact ex
            · unfold feedM
              rw [if_pos hl, if_neg hfin, if_neg h4, if_pos h0, e1]
              simp only [Int.toNat_natCast]
              rw [hm]
              exact px
      · refine hgt.mono fun k e j hj => ?_
        obtain ⟨j, rfl⟩ : ∃ m, j = m + 1 := ⟨j - 1, by omega⟩
        unfold spec_FeedPut.l0
        rw [e]
        simp only [Option.bind_some]
        rw [beqd, decide_eq_false h4, show ((getTextZ s a).2.2 != 0) = true by simpa using h0]
        refine ⟨_, rfl, ?_⟩
        have hl : a < s.length := by
          rcases Nat.lt_or_ge a s.length with hl | hl
          · exact hl
          · exfalso
            unfold getTextZ getNumZ at h4
            rw [List.drop_of_length_le hl] at h4
            exact h4 rfl
        unfold feedM
        rw [if_pos hl]
        by_cases hfin : fresh h = false ∧ g = h.2.1
        · rw [if_pos hfin]
          exact .inl ⟨_, _, _, _, _, _, _, _, rfl⟩
        · rw [if_neg hfin, if_neg h4, if_neg h0]
          exact .inl ⟨_, _, _, _, _, _, _, _, rfl⟩
/-! both, whole -/
abbrev Res := Int × Int × Int × Str × Int × Str × List G169 × Int
def ill (c : Int) : Res := (0, 0, 0, [], 0, [], [], c)
def finM (s : Str) (r : Option (Nat × G66 × Int × List G169)) : Res := match r with
  | some q => if 500 < (s.drop q.1).length then ill 3 else (q.2.1.1, q.2.1.2.1, q.2.1.2.2.1, q.2.1.2.2.2, q.2.2.1, s.drop q.1, q.2.2.2, 0)
  | none => ill 3
def feedB (f : G68) : Bool := if 500 < f.2.2.length then false else if fresh f.1 = true then decide (f.2.1 = 0) else hB f.1 && (decide (0 ≤ f.2.1) && decide (f.2.1 ≤ f.1.2.1))
theorem feedB_inv {f : G68} (h : feedB f = true) : f.2.2.length ≤ 500 ∧ Inv f.1 f.2.1 := by
  unfold feedB at h
  split at h
  · cases h
  · rename_i hl
    refine ⟨by omega, ?_⟩
    split at h
    · rename_i hf
      exact .inl ⟨hf, of_decide_eq_true h⟩
    · rename_i hf
      simp only [Bool.and_eq_true, decide_eq_true_eq] at h
      exact .inr ⟨Bool.eq_false_iff.2 hf, h.1, h.2.1, h.2.2⟩
theorem sFeed (f : G68) : spec_FeedRight f = some (feedB f) := by
  unfold spec_FeedRight feedB
  by_cases hl : 500 < f.2.2.length
  · rw [decide_eq_true (by omega : 500 < (f.2.2.length : Int)), if_pos hl]; rfl
  · rw [decide_eq_false (by omega : ¬ (500 < (f.2.2.length : Int))), if_neg hl, show ((f.1.1 == 0) && ((f.1.2.1 == 0) && ((f.1.2.2.1 == 0) && (f.1.2.2.2 == [])))) = fresh f.1 from rfl]
    cases hf : fresh f.1 with
    | true => rw [if_pos rfl, beqd]; rfl
    | false =>
      rw [if_neg (by simp), show spec_HeadRight f.1 = some (hB f.1) from sHead _ _ _ _]
      unfold spec_l03Is
      cases hB f.1 <;> rfl
theorem iFeed (f : G68) : impl_isFeed f = some (feedB f) := by
  unfold impl_isFeed feedB
  by_cases hl : 500 < f.2.2.length
  · rw [decide_eq_true (by omega : 500 < (f.2.2.length : Int)), if_pos hl]; rfl
  · rw [decide_eq_false (by omega : ¬ (500 < (f.2.2.length : Int))), if_neg hl, show ((f.1.1 == 0) && ((f.1.2.1 == 0) && ((f.1.2.2.1 == 0) && (f.1.2.2.2 == [])))) = fresh f.1 from rfl, beqd, show impl_isHead f.1 = some (hB f.1) from iHead _ _ _ _]
    unfold impl_within
    cases hf : fresh f.1 with
    | true =>
      rw [if_pos rfl]
      have hb : hB f.1 = false := by
        cases hb : hB f.1 with
        | false => rfl
        | true => rw [hB_fresh hb] at hf; cases hf
      rw [hb]
      by_cases h0 : f.2.1 = 0
      · rw [decide_eq_true h0]; rfl
      · rw [decide_eq_false h0]; rfl
    | false =>
      rw [if_neg (by simp), Bool.false_and]
      cases hB f.1 <;> rfl
def putM (f : G68) (p : Str) : Res :=
  if 8000 < p.length then ill 2 else if feedB f = false then ill 1 else if 8000 < f.2.2.length + p.length then ill 2 else finM (f.2.2 ++ p) (feedM ((f.2.2 ++ p).length + 1) (f.2.2 ++ p) 0 f.1 f.2.1 [])
theorem iPut (f : G68) (p : Str) : Ever fun k => impl_FeedPut k f p = some (putM f p) := by
  unfold putM
  by_cases h1 : 8000 < p.length
  · refine Ever.of fun k => ?_
    unfold impl_FeedPut
    rw [decide_eq_true (by omega : 8000 < (p.length : Int)), if_pos h1]; rfl
  · by_cases h2 : feedB f = true
    · obtain ⟨hl, hi⟩ := feedB_inv h2
      rw [if_neg h1, if_neg (by rw [h2]; simp)]
      by_cases h3 : 8000 < f.2.2.length + p.length
      · refine Ever.of fun k => ?_
        unfold impl_FeedPut
        rw [decide_eq_false (by omega : ¬ (8000 < (p.length : Int))), iFeed, h2, if_pos h3, w64 (by omega) (by omega), decide_eq_true (by omega : 8000 < (f.2.2.length : Int) + (p.length : Int))]; rfl
      · have hlen : (f.2.2 ++ p).length ≤ 8000 := by rw [List.length_append]; omega
        obtain ⟨K, lp⟩ := iLoop (f.2.2 ++ p) hlen ((f.2.2 ++ p).length + 1) 0 f.1 f.2.1 [] hi (Nat.zero_le _) (by omega) (Nat.zero_le _)
        refine Ever.ge (K + (f.2.2 ++ p).length + 1) fun k hk => ?_
        obtain ⟨X, ex, px⟩ := lp k (by omega) k (by omega)
        have ex : impl_feedPut.l0 k k (f.2.2 ++ p) 0 0 0 0 [] 0 [] 0 f.1.1 f.1.2.1 f.1.2.2.1 f.1.2.2.2 f.2.1 [] 0 [] [] = some X := ex
        rw [if_neg h3]
        unfold impl_FeedPut
        rw [decide_eq_false (by omega : ¬ (8000 < (p.length : Int))), iFeed, h2, w64 (by omega) (by omega), decide_eq_false (by omega : ¬ (8000 < (f.2.2.length : Int) + (p.length : Int)))]
        simp only [cond_false, Option.bind_some, Bool.not_true]
        rw [cat_some (by omega)]
        simp only [Option.bind_some]
        unfold impl_feedPut
        rw [ex]
        generalize feedM ((f.2.2 ++ p).length + 1) (f.2.2 ++ p) 0 f.1 f.2.1 [] = m at px
        cases m with
        | none =>
          obtain ⟨_, _, _, _, _, _, _, _, rfl⟩ := px
          rfl
        | some q =>
          obtain ⟨rfl, hq, _⟩ := px
          have hc := cut_ok (l := f.2.2 ++ p) (i := q.1) (j := (f.2.2 ++ p).length) hq (Nat.le_refl _)
          rw [List.take_length] at hc
          simp only [Option.bind_some, outL]
          rw [hc]
          simp only [Option.bind_some, finM]
          by_cases h5 : 500 < ((f.2.2 ++ p).drop q.1).length
          · rw [decide_eq_true (by omega : 500 < (((f.2.2 ++ p).drop q.1).length : Int)), if_pos h5]; rfl
          · rw [decide_eq_false (by omega : ¬ (500 < (((f.2.2 ++ p).drop q.1).length : Int))), if_neg h5]; rfl
    · have h2 : feedB f = false := Bool.eq_false_iff.2 h2
      refine Ever.of fun k => ?_
      unfold impl_FeedPut
      rw [decide_eq_false (by omega : ¬ (8000 < (p.length : Int))), iFeed, h2, if_neg h1, if_pos rfl]; rfl
theorem sPut (f : G68) (p : Str) : Ever fun k => spec_FeedPut k f p = some (putM f p) := by
  unfold putM
  by_cases h1 : 8000 < p.length
  · refine Ever.of fun k => ?_
    unfold spec_FeedPut
    rw [decide_eq_true (by omega : 8000 < (p.length : Int)), if_pos h1]; rfl
  · by_cases h2 : feedB f = true
    · obtain ⟨hl, hi⟩ := feedB_inv h2
      rw [if_neg h1, if_neg (by rw [h2]; simp)]
      by_cases h3 : 8000 < f.2.2.length + p.length
      · refine Ever.of fun k => ?_
        unfold spec_FeedPut
        rw [decide_eq_false (by omega : ¬ (8000 < (p.length : Int))), sFeed, h2, if_pos h3]
        simp only [cond_false, Option.bind_some, Bool.not_true]
        rw [cat_some (by omega)]
        simp only [Option.bind_some]
        rw [List.length_append, decide_eq_true (by omega : 8000 < ((f.2.2.length + p.length : Nat) : Int))]; rfl
      · have hlen : (f.2.2 ++ p).length ≤ 8000 := by rw [List.length_append]; omega
        obtain ⟨K, lp⟩ := sLoop (f.2.2 ++ p) f.2.2 hlen ((f.2.2 ++ p).length + 1) 0 f.1 f.2.1 [] hi (Nat.zero_le _) (by omega) (Nat.zero_le _)
        refine Ever.ge (K + (f.2.2 ++ p).length + 1) fun k hk => ?_
        obtain ⟨X, ex, px⟩ := lp k (by omega) k (by omega)
        have ex : spec_FeedPut.l0 k k (f.2.2 ++ p) 0 0 0 0 [] 0 [] 0 f.1.1 f.1.2.1 f.1.2.2.1 f.1.2.2.2 f.2.1 f.2.2 0 [] [] = some X := ex
        rw [if_neg h3]
        unfold spec_FeedPut
        rw [decide_eq_false (by omega : ¬ (8000 < (p.length : Int))), sFeed, h2]
        simp only [cond_false, Option.bind_some, Bool.not_true]
        rw [cat_some (by omega)]
        simp only [Option.bind_some]
        rw [decide_eq_false (by omega : ¬ (8000 < ((f.2.2 ++ p).length : Int))), cond_false, ex]
        generalize f.2.2 ++ p = s at px hlen ⊢
        generalize feedM (s.length + 1) s 0 f.1 f.2.1 [] = m at px
        have hcut : ∀ a : Nat, a ≤ s.length → cut? s (a : Int) (s.length : Int) = some (s.drop a) := fun a ha => by
          have hc := cut_ok (l := s) (i := a) (j := s.length) ha (Nat.le_refl _)
          rwa [List.take_length] at hc
        cases m with
        | none =>
          rcases px with ⟨_, _, _, _, _, _, _, _, rfl⟩ | ⟨a, h, g, c, rfl, ha, hi', hf, hg⟩
          · rfl
          · simp only [Option.bind_some, outL, finM]
            rw [hcut a (by omega)]
            simp only [Option.bind_some]
            have hh : 1 ≤ h.2.1 := by
              rcases hi' with q | q
              · rw [q.1] at hf; cases hf
              · exact (headB_is q.2.1).2.1.1
            have hne : (s.drop a == ([] : Str)) = false := by
              rw [beq_str, decide_eq_false]
              intro q
              have := congrArg List.length q
              rw [List.length_drop] at this
              simp only [List.length_nil] at this
              omega
            rw [decide_eq_true (by omega : 0 < h.2.1), beqd, decide_eq_true hg, hne]
            simp only [Bool.not_false, Bool.and_true, Bool.or_true, cond_true]
            rfl
        | some q =>
          obtain ⟨rfl, hle, hq⟩ := px
          simp only [Option.bind_some, outL, finM]
          rw [hcut q.1 hle]
          simp only [Option.bind_some]
          have hz : (((decide (0 < q.2.1.2.1)) && (q.2.2.1 == q.2.1.2.1)) && (!(s.drop q.1 == []))) = false := by
            rcases hq with hq | ⟨hi', hq⟩
            · rw [hq, List.drop_length]; simp
            · rcases hi' with hi' | hi'
              · have e0 : q.2.1.2.1 = 0 := by
                  have h0 := hi'.1
                  unfold fresh at h0
                  simp only [Bool.and_eq_true, beq_iff_eq] at h0
                  exact h0.2.1
                rw [decide_eq_false (by omega : ¬ (0 < q.2.1.2.1))]; rfl
              · have : q.2.2.1 ≠ q.2.1.2.1 := fun e => hq ⟨hi'.1, e⟩
                rw [beqd, decide_eq_false this, Bool.and_false]; rfl
          rw [hz, Bool.or_false]
          by_cases h5 : 500 < (s.drop q.1).length
          · rw [decide_eq_true (by omega : 500 < ((s.drop q.1).length : Int)), if_pos h5]; rfl
          · rw [decide_eq_false (by omega : ¬ (500 < ((s.drop q.1).length : Int))), if_neg h5]; rfl
    · have h2 : feedB f = false := Bool.eq_false_iff.2 h2
      refine Ever.of fun k => ?_
      unfold spec_FeedPut
      rw [decide_eq_false (by omega : ¬ (8000 < (p.length : Int))), sFeed, h2, if_neg h1, if_pos rfl]; rfl
theorem feedM_len (s : Str) (hs : s.length ≤ 8000) : ∀ (d a : Nat) (h : G66) (g : Int) (c : List G169), Inv h g → a ≤ s.length → s.length - a < d → c.length ≤ 2 * a → ∀ q, feedM d s a h g c = some q → q.2.2.2.length ≤ 100000 := by
  intro d a h g c hi ha hd hc q hq
  obtain ⟨k, hk⟩ := (iLoop s hs d a h g c hi ha hd hc).ex
  obtain ⟨X, _, px⟩ := hk d (Nat.le_refl d)
  rw [hq] at px
  exact px.2.2
theorem putM_len (f : G68) (p : Str) : (putM f p).2.2.2.2.2.2.1.length ≤ 100000 := by
  unfold putM
  split
  · exact Nat.zero_le _
  · split
    · exact Nat.zero_le _
    · split
      · exact Nat.zero_le _
      · rename_i h1 h2 h3
        obtain ⟨hl, hi⟩ := feedB_inv (Bool.not_eq_false _ ▸ h2 : feedB f = true)
        have key := feedM_len (f.2.2 ++ p) (by rw [List.length_append]; omega) ((f.2.2 ++ p).length + 1) 0 f.1 f.2.1 [] hi (Nat.zero_le _) (by omega) (Nat.zero_le _)
        cases hm : feedM ((f.2.2 ++ p).length + 1) (f.2.2 ++ p) 0 f.1 f.2.1 [] with
        | none => exact Nat.zero_le _
        | some q =>
          simp only [finM]
          split
          · exact Nat.zero_le _
          · exact key q hm
end Feed
theorem Feed.sz_some (f : G68) (n : Int) : ∃ v, laws_szFeed f n = some v := by
  unfold laws_szFeed laws_szHead
  exact some_bind (some_cond ⟨_, rfl⟩ ⟨_, rfl⟩) fun v => some_cond ⟨_, rfl⟩ (some_cond ⟨_, rfl⟩ ⟨_, rfl⟩)
open Feed in
theorem laws_FnExactFeedPut.proved : laws_FnExactFeedPut.Pure := by
  intro f p hf hp
  by_cases hb : 1048576 < p.length
  · refine ⟨0, ?_⟩
    unfold laws_FnExactFeedPut
    rw [decide_eq_true (by omega : 1048576 < (p.length : Int))]
    rfl
  obtain ⟨v, hv⟩ := sz_some f 1048576
  by_cases hn : v < 0
  · refine ⟨0, ?_⟩
    unfold laws_FnExactFeedPut
    rw [decide_eq_false (by omega : ¬ (1048576 < (p.length : Int))), hv]
    simp only [cond_false, Option.bind_some]
    rw [decide_eq_true hn]
    rfl
  have hl := putM_len f p
  have hi := iPut f p
  have hs := sPut f p
  generalize putM f p = P at hl hi hs
  obtain ⟨a, b, c, d, e, r, l, code⟩ := P
  have hl : l.length ≤ 100000 := hl
  obtain ⟨k, ⟨⟨⟨h1, h2⟩, h3⟩, h4⟩, h5⟩ := ((((hi.and hs).and (eqCmdS_self l (by omega))).and (markCmdS_eq l 1 (by omega))).and (heldCmdS_eq l.length 1 (by omega))).ex
  refine ⟨k, ?_⟩
  have e0 : laws_toFeed f = some (f.1.1, f.1.2.1, f.1.2.2.1, f.1.2.2.2, f.2.1, f.2.2) := rfl
  have e1 : laws_eqFeedOut k (((a, (b, (c, d))), (e, r)), (l, code)) (((a, (b, (c, d))), (e, r)), (l, code)) = some true := by
    have q1 : laws_eqHead (a, (b, (c, d))) (a, (b, (c, d))) = some true := by
      unfold laws_eqHead
      simp only [bne_self_eq_false, beq_self_str, Bool.not_true, cond_false]
    have q2 : laws_eqFeed ((a, (b, (c, d))), (e, r)) ((a, (b, (c, d))), (e, r)) = some true := by
      unfold laws_eqFeed
      simp only [q1, bne_self_eq_false, beq_self_str, Bool.not_true, cond_false, Option.bind_some]
    unfold laws_eqFeedOut
    simp only [q2, h3, bne_self_eq_false, Bool.not_true, cond_false, Option.bind_some]
  have e2 : laws_markFeedOut k (((a, (b, (c, d))), (e, r)), (l, code)) 1 = some (((1 + 8 * l.length : Nat) : Int), cmdMarks l.length 1) := by
    unfold laws_markFeedOut
    have h4 : laws_markCmdS k l 1 = _ := h4
    rw [h4]
    rfl
  have e3 : laws_heldFeedOut k (((a, (b, (c, d))), (e, r)), (cmdMarks l.length 1, code)) 1 = some ((1 + 8 * l.length : Nat) : Int) := by
    unfold laws_heldFeedOut
    have h5 : laws_heldCmdS k (cmdMarks l.length 1) 1 = _ := h5
    rw [h5]
    simp only [Option.bind_some]
    rw [decide_eq_false (by omega : ¬ (((1 + 8 * l.length : Nat) : Int) < 0))]
    rfl
  unfold laws_FnExactFeedPut
  rw [decide_eq_false (by omega : ¬ (1048576 < (p.length : Int))), hv]
  simp only [cond_false, Option.bind_some]
  rw [decide_eq_false hn, e0]
  simp only [cond_false, Option.bind_some]
  have h1 : impl_FeedPut k ((f.1.1, (f.1.2.1, (f.1.2.2.1, f.1.2.2.2))), (f.2.1, f.2.2)) p = some (a, b, c, d, e, r, l, code) := h1
  have h2 : spec_FeedPut k ((f.1.1, (f.1.2.1, (f.1.2.2.1, f.1.2.2.2))), (f.2.1, f.2.2)) p = some (a, b, c, d, e, r, l, code) := h2
  rw [h2]
  simp only [Option.bind_some]
  rw [h1]
  simp only [Option.bind_some, e1, e2, e3, Bool.not_true, cond_false]
  rw [decide_eq_false (by omega : ¬ (((1 + 8 * l.length : Nat) : Int) < 0))]
  simp only [cond_false, bne_self_eq_false]
end Go.Proofs.YtnmbinfgcgjfbaaE

namespace Go.Proofs.Ytnmbinfgcgjfbaa.fnExactFeedPut
open Go Go.ChangeShapes Go.WideShapes Go.ChangeAt Go.RowKit Go.Proofs.YtnmbinfgcgjfbaaE
set_option linter.unusedVariables false
theorem own : ownKnob Try.prog.godebug = none := by kernel_rfl
theorem laidOut : laidOutB Try.prog = true := by kernel_rfl
theorem go (k : Nat) (y0 : G68) (y1 : Str) : (laws_FnExactFeedPut.con k).f [argC true T68 y0, argC false .str y1] = .opt (Prod' laws_FnExactFeedPut.sig.outs) (laws_FnExactFeedPut k y0 y1) laws_FnExactFeedPut.sig.enc := by kernel_rfl
set_option maxRecDepth 100000 in
theorem lifted (os : Os) (started : os.Started) (H : Type) (enc : TypeId × Value → H) :
    ReturnsInHanded {} Try.checked os 6 .any (Rows.fnExactFeedPutSpec.pre6 enc Try.prog Try.f6 Rows.fnExactFeedPutRow.domain false) (Rows.fnExactFeedPutSpec.post enc Try.prog Try.f6 false true false false) := by
  refine returnsInHanded_of_change_sized (C := Try.checked) own started (by kernel_rfl) Try.func6
    (ChangeSpec.witness6 (enc := enc) (C := Try.checked) false ⟨#[], #[.agg #[.int .i64 0, .int .i64 0, .int .i64 0, .string ByteArray.empty, .int .i64 0, .string ByteArray.empty], .string ByteArray.empty], []⟩ 8 (by kernel_rfl) (by kernel_rfl) (by kernel_rfl) (by kernel_rfl)) ?_
  intro W base args ds gs before hval0 hW hcnd hsz0 _
  have hsz : (DataW.weightsEach Try.prog (Try.f6.params.toList ++ Rows.fnExactFeedPutSpec.plain.varTypes Try.prog) (ds ++ gs)).all (· ≤ reachBytes) = true := hsz0
  have hval : ∀ (j : Nat) t v, Try.f6.params[j]? = some t → args[j]? = some v → Value.okWide Try.prog W .any base t v := hval0
  have hW' := hW
  obtain ⟨p, q, hA0, hV, rfl, hfz, hnd⟩ := hW
  have hA : DataW.TrodAll enc Try.prog W 0 (fun _ => true) true Try.f6.params.toList args.toList ds p := hA0
  rw [Try.params6] at hA hval hsz
  obtain ⟨v0, vs0, d0, ds0, p0, q0, hargs, rfl, rfl, h0, r0⟩ := trodAll_cons hA
  obtain ⟨v1, vs1, d1, ds1, p1, q1, rfl, rfl, rfl, h1, r1⟩ := trodAll_cons r0
  obtain ⟨rfl, rfl, rfl⟩ := trodAll_nil r1
  obtain rfl : args = #[v0, v1] := by cases args; simp_all
  obtain ⟨rfl, rfl⟩ := trodVars_none hV
  have lt0 := trod_lt_all h0
  have z0 := weights_arg hsz (j := 0) (t := 68) rfl rfl
  obtain ⟨y0, b0, c0⟩ := arg_rep (ty := T68) (n := 20) (ag := true) (by kernel_rfl) (by kernel_rfl) (hval 0 68 v0 rfl rfl) h0 z0
  have lt1 := trod_lt_all h1
  have z1 := weights_arg hsz (j := 1) (t := 9) rfl rfl
  obtain ⟨y1, b1, c1⟩ := arg_rep (ty := .str) (n := 20) (ag := false) (by kernel_rfl) (by kernel_rfl) (hval 1 9 v1 rfl rfl) h1 z1
  obtain ⟨k, hp⟩ := laws_FnExactFeedPut.proved y0 y1 b0 b1
  have hrr : ((laws_FnExactFeedPut.con k).f [argC true T68 y0, argC false .str y1]).val = some ⟨[.val false [.leaf (.bool true)]], []⟩ := by
    refine (congrArg CR.val (go k y0 y1)).trans ?_
    rw [hp]
    kernel_rfl
  refine (law_true (laws_FnExactFeedPut.ok k) hrr (vs := [v0, v1]) (cargs_cons (c0 _) (cargs_cons (c1 _) cargs_nil))).mono fun e W' ⟨he, bel0⟩ => ?_
  have bel : Below W.heap.size W W' := bel0
  subst he
  exact ⟨_, rfl, _, _, _, [], _, [], hW', trodAll_mk1 (shutB Try.underlying4 _), (trodAll_cons_mk (Below.trod laidOut (by kernel_rfl) (of_decide_eq_true (by kernel_rfl)) h0 bel lt0) (trodAll_cons_mk (Below.trod laidOut (by kernel_rfl) (of_decide_eq_true (by kernel_rfl)) h1 bel lt1) trodAll_mk0)), rfl, bel.frame _, fun h => by cases h⟩
theorem over : Rows.fnExactFeedPutRow.holds Try.pinned (OpenSpec.ofChange Rows.fnExactFeedPutSpec) :=
  OpenClaim.holds_of_wide 6 Try.f6 rfl rfl rfl rfl rfl rfl rfl ⟨rfl, rfl, rfl, rfl, rfl⟩ rfl rfl rfl rfl rfl (by kernel_rfl) Try.func6 (by kernel_rfl)
    (of_decide_eq_true (by kernel_rfl)) (by unfold Func.isWrapper; first | (rw [if_pos (by decide +kernel)]; kernel_rfl) | (rw [if_neg (by decide +kernel)]; exact ⟨rfl, rfl⟩))
    (fun os started H enc _ => lifted os started H enc)
theorem proved : Rows.FnExactFeedPutSaid := over
end Go.Proofs.Ytnmbinfgcgjfbaa.fnExactFeedPut
namespace Go.Proofs.Ytnmbinfgcgjfbaa
/-- The row, under a short name, for the claim. -/
theorem fnExactFeedPut_holds : Rows.FnExactFeedPutSaid := fnExactFeedPut.proved
#print axioms fnExactFeedPut_holds
end Go.Proofs.Ytnmbinfgcgjfbaa
