/- What the law FnFleet needs, part 7 of 7: the Lean functions of the Go functions that it reaches, with the proofs that the calls come to what they say, and plain facts about them; the last theorem is the law. Conditions: those that each theorem states. Written by a session and by its programs (after the kit's printer). -/
import Derived.Laws.BitsLemmas
import Derived.Test.YthoibokhmkjkdaaRows
import Derived.Carry
import Derived.Handed
import Derived.Test.YthoibokhmkjkdaaXFnFleet4
import Derived.Test.YthoibokhmkjkdaaXFnFleet5
namespace Go.Proofs.YthoibokhmkjkdaaE
open Go
set_option linter.unusedVariables false
theorem u8w (n : Int) : IntKind.wrap .u8 n = n % 256 := by simp [IntKind.wrap, IntKind.bits, IntKind.signed]
theorem u32w (n : Int) : IntKind.wrap .u32 n = n % 4294967296 := by simp [IntKind.wrap, IntKind.bits, IntKind.signed]
theorem u64w (n : Int) : IntKind.wrap .u64 n = n % 18446744073709551616 := by simp [IntKind.wrap, IntKind.bits, IntKind.signed]
theorem bx32 (a b : Nat) (ha : a < 4294967296) (hb : b < 4294967296) : intBits .xor .u32 (a : Int) (b : Int) = ((a ^^^ b : Nat) : Int) := by
  have hx : a ^^^ b < 2 ^ 32 := Nat.xor_lt_two_pow (by omega) (by omega)
  show IntKind.wrap .u32 (((BitVec.ofInt 32 (a : Int)) ^^^ (BitVec.ofInt 32 (b : Int))).toNat : Int) = _
  rw [BitVec.ofInt_natCast, BitVec.ofInt_natCast, BitVec.toNat_xor, BitVec.toNat_ofNat, BitVec.toNat_ofNat, u32w, Nat.mod_eq_of_lt (show a < 2 ^ 32 by omega), Nat.mod_eq_of_lt (show b < 2 ^ 32 by omega)]
  omega
theorem band1 (a : Nat) (ha : a < 4294967296) : intBits .and .u32 (a : Int) 1 = ((a % 2 : Nat) : Int) := by
  have h : a &&& 1 = a % 2 := Nat.and_one_is_mod a
  show IntKind.wrap .u32 (((BitVec.ofInt 32 (a : Int)) &&& (BitVec.ofInt 32 ((1 : Nat) : Int))).toNat : Int) = _
  rw [BitVec.ofInt_natCast, BitVec.ofInt_natCast, BitVec.toNat_and, BitVec.toNat_ofNat, BitVec.toNat_ofNat, u32w, Nat.mod_eq_of_lt (show a < 2 ^ 32 by omega), Nat.mod_eq_of_lt (show 1 < 2 ^ 32 by omega), h]
  omega
theorem band64 (a : Nat) (ha : a < 18446744073709551616) : intBits .and .u64 (a : Int) 1 = ((a % 2 : Nat) : Int) := by
  have h : a &&& 1 = a % 2 := Nat.and_one_is_mod a
  show IntKind.wrap .u64 (((BitVec.ofInt 64 (a : Int)) &&& (BitVec.ofInt 64 ((1 : Nat) : Int))).toNat : Int) = _
  rw [BitVec.ofInt_natCast, BitVec.ofInt_natCast, BitVec.toNat_and, BitVec.toNat_ofNat, BitVec.toNat_ofNat, u64w, Nat.mod_eq_of_lt (show a < 2 ^ 64 by omega), Nat.mod_eq_of_lt (show 1 < 2 ^ 64 by omega), h]
  omega
theorem bor64 (a b : Nat) (ha : a < 18446744073709551616) (hb : b < 18446744073709551616) : intBits .or .u64 (a : Int) (b : Int) = ((a ||| b : Nat) : Int) := by
  show IntKind.wrap .u64 (((BitVec.ofInt 64 (a : Int)) ||| (BitVec.ofInt 64 (b : Int))).toNat : Int) = _
  have hx : a ||| b < 2 ^ 64 := Nat.or_lt_two_pow (by omega) (by omega)
  rw [BitVec.ofInt_natCast, BitVec.ofInt_natCast, BitVec.toNat_or, BitVec.toNat_ofNat, BitVec.toNat_ofNat, u64w, Nat.mod_eq_of_lt (show a < 2 ^ 64 by omega), Nat.mod_eq_of_lt (show b < 2 ^ 64 by omega)]
  omega
theorem and127 : ∀ a : Nat, a < 256 → intBits .and .u8 ((a : Nat) : Int) 127 = ((a % 128 : Nat) : Int) := by decide +kernel
theorem noti64 (a : Nat) (h : a < 9223372036854775808) : intBits .xor .i64 (-1) (a : Int) = -(a : Int) - 1 := by
  show IntKind.wrap .i64 (((BitVec.ofInt 64 (-1)) ^^^ (BitVec.ofInt 64 (a : Int))).toNat : Int) = _
  have e : (BitVec.ofInt 64 (-1)) = BitVec.allOnes 64 := by decide
  rw [BitVec.ofInt_natCast, e, BitVec.allOnes_xor, BitVec.toNat_not, BitVec.toNat_ofNat, IntKind.wrap_i64, Nat.mod_eq_of_lt (show a < 2 ^ 64 by omega)]
  omega
theorem shr_nat (k : IntKind) (r m : Nat) (h : m ≤ k.bits) : shr k (r : Int) (m : Int) = ((r / 2 ^ m : Nat) : Int) := by
  unfold shr
  rw [Int.toNat_natCast, Nat.min_eq_left h, Int.fdiv_eq_ediv_of_nonneg _ (by exact Int.le_of_lt (Int.pow_pos (by omega)))]
  push_cast
  rfl
theorem byte_lt (c : UInt8) : c.toNat < 256 := c.toNat_lt
theorem byte_of (c : UInt8) : UInt8.ofNat ((c.toNat : Nat) : Int).toNat = c := by simp
/-! ### the CRC -/
def crcBit (r : Nat) : Nat := if r % 2 = 1 then (r / 2) ^^^ 3988292384 else r / 2
def crcBits : Nat → Nat → Nat
  | 0, r => r
  | n + 1, r => crcBits n (crcBit r)
def crcRun : Str → Nat → Nat
  | [], r => r
  | c :: l, r => crcRun l (crcBits 8 (r ^^^ c.toNat))
def crcOf (c : Nat) (s : Str) : Nat := (crcRun s (c ^^^ 4294967295)) ^^^ 4294967295
theorem x32 {a b : Nat} (ha : a < 4294967296) (hb : b < 4294967296) : a ^^^ b < 4294967296 := Nat.xor_lt_two_pow (n := 32) ha hb
theorem crcBit_lt {r : Nat} (h : r < 4294967296) : crcBit r < 4294967296 := by
  unfold crcBit
  split
  · exact x32 (by omega) (by omega)
  · omega
theorem crcBits_lt : ∀ (n : Nat) {r : Nat}, r < 4294967296 → crcBits n r < 4294967296
  | 0, _, h => h
  | n + 1, _, h => crcBits_lt n (crcBit_lt h)
theorem crcRun_lt : ∀ (l : Str) {r : Nat}, r < 4294967296 → crcRun l r < 4294967296
  | [], _, h => h
  | c :: l, r, h => crcRun_lt l (crcBits_lt 8 (x32 h (by have := byte_lt c; omega)))
theorem crcOf_lt {c : Nat} (s : Str) (h : c < 4294967296) : crcOf c s < 4294967296 := x32 (crcRun_lt _ (x32 h (by omega))) (by omega)
/-- The four bytes of a CRC. -/
def four (n : Nat) : Str := listByte [((n % 256 : Nat) : Int), ((n / 256 % 256 : Nat) : Int), ((n / 65536 % 256 : Nat) : Int), ((n / 16777216 % 256 : Nat) : Int)]
def sealOf (s : Str) : Str := s ++ four (crcOf 0 s)
theorem four_len (n : Nat) : (four n).length = 4 := rfl
theorem sealOf_len (s : Str) : (sealOf s).length = s.length + 4 := by unfold sealOf; rw [List.length_append, four_len]
/-- What stands ahead of the seal. -/
def bodyOf (s : Str) : Str := s.take (s.length - 4)
theorem body_len (s : Str) : (bodyOf s).length = s.length - 4 := by unfold bodyOf; simp
theorem seal_inj {a b : Str} : sealOf a = sealOf b ↔ a = b := by
  constructor
  · intro h
    exact List.append_inj_left' h (by rw [four_len, four_len])
  · rintro rfl; rfl
theorem tail_iff (s : Str) : (four (crcOf 0 (bodyOf s)) = s.drop (s.length - 4)) ↔ sealOf (bodyOf s) = s := by
  have e : s = bodyOf s ++ s.drop (s.length - 4) := (List.take_append_drop _ _).symm
  unfold sealOf
  constructor
  · intro h; rw [h]; exact e.symm
  · intro h
    exact List.append_cancel_left (h.trans e)
theorem body_seal (s : Str) : bodyOf (sealOf s) = s := by
  unfold bodyOf
  rw [sealOf_len, Nat.add_sub_cancel]
  unfold sealOf
  simp
def unsealI (s : Str) : Str × Int := if s.length < 4 then ([], 4) else if sealOf (bodyOf s) = s then (bodyOf s, 0) else ([], 5)
theorem unseal_ok {s : Str} (h : (unsealI s).2 = 0) : unsealI s = (bodyOf s, 0) ∧ sealOf (bodyOf s) = s ∧ 4 ≤ s.length := by
  unfold unsealI at h ⊢
  by_cases h4 : s.length < 4
  · rw [if_pos h4] at h; simp at h
  · rw [if_neg h4] at h ⊢
    by_cases he : sealOf (bodyOf s) = s
    · rw [if_pos he]; exact ⟨rfl, he, by omega⟩
    · rw [if_neg he] at h; simp at h
theorem unseal_no {s : Str} (h : (unsealI s).2 ≠ 0) : (unsealI s).1 = [] := by
  unfold unsealI at h ⊢
  by_cases h4 : s.length < 4
  · rw [if_pos h4]
  · rw [if_neg h4] at h ⊢
    by_cases he : sealOf (bodyOf s) = s
    · rw [if_pos he] at h; exact absurd rfl h
    · rw [if_neg he]
theorem unseal_len (s : Str) : (unsealI s).1.length ≤ s.length := by
  unfold unsealI
  split
  · simp
  · split
    · rw [body_len]; omega
    · simp
theorem unseal_seal (s : Str) : unsealI (sealOf s) = (s, 0) := by
  unfold unsealI
  rw [body_seal, if_neg (by rw [sealOf_len]; omega), if_pos rfl]
/-! ### numbers as bytes -/
/-- The zigzag number. -/
def zig (n : Int) : Nat := if n < 0 then (-2 * n - 1).toNat else (2 * n).toNat
/-- The groups of seven bits of a number, as bytes; f: a bound on their count. -/
def groups : Nat → Nat → List Int
  | 0, _ => []
  | f + 1, u => if 128 ≤ u then ((u % 128 + 128 : Nat) : Int) :: groups f (u / 128) else [(u : Int)]
def putOf (n : Int) : Str := listByte (groups 10 (zig n))
def Num (n : Int) : Prop := -9223372036854775808 ≤ n ∧ n < 9223372036854775808
theorem zig_lt {n : Int} (h : Num n) : zig n < 18446744073709551616 := by unfold Num at h; unfold zig; split <;> omega
theorem groups_len : ∀ (f u : Nat), (groups f u).length ≤ f
  | 0, _ => by simp [groups]
  | f + 1, u => by
    unfold groups
    split
    · simp only [List.length_cons]; have := groups_len f (u / 128); omega
    · simp
theorem listByte_len (l : List Int) : (listByte l).length = l.length := by simp [listByte]
theorem putOf_len (n : Int) : (putOf n).length ≤ 10 := by
  unfold putOf
  rw [listByte_len]
  exact groups_len 10 _
theorem putOf_pos (n : Int) : 1 ≤ (putOf n).length := by
  unfold putOf
  rw [listByte_len]
  unfold groups
  split <;> simp
def putTextOf (s : Str) : Str := putOf (s.length : Int) ++ s
theorem putTextOf_len (s : Str) : (putTextOf s).length ≤ 10 + s.length := by
  unfold putTextOf
  have := putOf_len (s.length : Int)
  rw [List.length_append]
  omega
/-! ### numbers, read back -/
def unz (u : Nat) : Int := if u % 2 = 1 then -((u / 2 : Nat) : Int) - 1 else ((u / 2 : Nat) : Int)
/-- A number's groups, read: the number, how many bytes, the code. -/
def gn : Nat → Nat → Nat → Str → Int × Nat × Int
  | 0, _, _, _ => (0, 0, 3)
  | _ + 1, _, _, [] => (0, 0, 4)
  | f + 1, i, u, b :: l => if i = 9 ∧ 1 < b.toNat then (0, 0, 3) else if 128 ≤ b.toNat then gn f (i + 1) (u + b.toNat % 128 * 128 ^ i) l else if b.toNat = 0 ∧ 0 < i then (0, 0, 3) else (unz (u + b.toNat % 128 * 128 ^ i), i + 1, 0)
/-- What the readers make of it: the number, the place behind it, the code. -/
def fin (a : Nat) (r : Int × Nat × Int) : Int × Int × Int := if r.2.2 = 0 then (r.1, ((a + r.2.1 : Nat) : Int), 0) else (0, 0, r.2.2)
def getNumZ (s : Str) (a : Nat) : Int × Int × Int := fin a (gn 10 0 0 (s.drop a))
theorem p128 (i : Nat) : (2 : Nat) ^ (7 * i) = 128 ^ i := by rw [Nat.pow_mul]
theorem step_lt {i u b : Nat} (_ : i ≤ 8) (hu : u < 128 ^ i) : u + b % 128 * 128 ^ i < 128 ^ (i + 1) := by
  have h1 : b % 128 ≤ 127 := by omega
  have h2 : b % 128 * 128 ^ i ≤ 127 * 128 ^ i := Nat.mul_le_mul_right _ h1
  rw [Nat.pow_succ]
  omega
theorem pow_le9 {i : Nat} (hi : i ≤ 9) : 128 ^ i ≤ 9223372036854775808 := by
  have : 128 ^ i ≤ 128 ^ 9 := Nat.pow_le_pow_right (by omega) hi
  simpa using this
theorem term_lt {i b : Nat} (hi : i ≤ 9) (h9 : i = 9 → b ≤ 1) : b % 128 * 128 ^ i < 18446744073709551616 := by
  by_cases h : i = 9
  · have := h9 h
    subst h
    have : b % 128 ≤ 1 := by omega
    have := Nat.mul_le_mul_right (128 ^ 9) this
    simp at this ⊢
    omega
  · have h1 : 128 ^ i ≤ 128 ^ 8 := Nat.pow_le_pow_right (by omega) (by omega)
    have h2 : b % 128 ≤ 127 := by omega
    have := Nat.mul_le_mul h2 h1
    simp at this
    omega
theorem sum_lt {i u b : Nat} (hi : i ≤ 9) (hu : u < 128 ^ i) (h9 : i = 9 → b ≤ 1) : u + b % 128 * 128 ^ i < 18446744073709551616 := by
  by_cases h : i = 9
  · have := h9 h
    subst h
    have h1 : b % 128 ≤ 1 := by omega
    have := Nat.mul_le_mul_right (128 ^ 9) h1
    simp at this hu ⊢
    omega
  · have h1 := step_lt (b := b) (show i ≤ 8 by omega) hu
    have h2 := pow_le9 (show i + 1 ≤ 9 by omega)
    omega
theorem shl_eq {i b : Nat} (hi : i ≤ 9) (h9 : i = 9 → b ≤ 1) : shl .u64 ((b % 128 : Nat) : Int) ((7 * i : Nat) : Int) = ((b % 128 * 128 ^ i : Nat) : Int) := by
  unfold shl
  rw [Int.toNat_natCast, Nat.min_eq_left (by simp [IntKind.bits]; omega), u64w]
  have e : ((b % 128 : Nat) : Int) * 2 ^ (7 * i) = ((b % 128 * 128 ^ i : Nat) : Int) := by rw [← p128]; push_cast; rfl
  rw [e]
  have := term_lt hi h9
  omega
theorem or_sum {i u b : Nat} (hu : u < 128 ^ i) : u ||| (b % 128 * 128 ^ i) = u + b % 128 * 128 ^ i := by
  have h := @Nat.shiftLeft_add_eq_or_of_lt (7 * i) u (by rw [p128]; exact hu) (b % 128)
  rw [Nat.shiftLeft_eq, p128] at h
  rw [Nat.or_comm, ← h, Nat.add_comm]
theorem zig_unz (v : Nat) : zig (unz v) = v := by
  unfold unz
  split
  · unfold zig; split <;> omega
  · unfold zig; split <;> omega
theorem unz_zig (n : Int) : unz (zig n) = n := by
  unfold zig
  split
  · unfold unz; split <;> omega
  · unfold unz; split <;> omega
theorem unz_range {v : Nat} (h : v < 18446744073709551616) : Num (unz v) := by
  unfold Num unz
  split <;> omega
theorem gn_canon : ∀ (f i u : Nat) (l : Str), i + f = 10 → i ≤ 9 → u < 128 ^ i → (gn f i u l).2.2 = 0 →
    ∃ v, gn f i u l = (unz (u + v * 128 ^ i), i + (groups f v).length, 0) ∧ l = listByte (groups f v) ++ l.drop (groups f v).length ∧ u + v * 128 ^ i < 18446744073709551616 ∧ (0 < i → v ≠ 0)
  | 0, i, u, l, hf, h9, _, _ => by omega
  | f + 1, i, u, [], hf, h9, hu, h0 => by simp [gn] at h0
  | f + 1, i, u, c :: l, hf, hi9, hu, h0 => by
    have hb := byte_lt c
    have hbc := byte_of c
    simp only [gn] at h0 ⊢
    generalize hcb : c.toNat = b at h0 hb hbc ⊢
    by_cases h9 : i = 9 ∧ 1 < b
    · rw [if_pos h9] at h0; simp at h0
    rw [if_neg h9] at h0 ⊢
    have hb9 : i = 9 → b ≤ 1 := fun h => by
      rcases Nat.lt_or_ge 1 b with h1 | h1
      · exact absurd ⟨h, h1⟩ h9
      · exact h1
    by_cases h128 : 128 ≤ b
    · have hi8 : i ≤ 8 := by
        by_cases h : i = 9
        · have := hb9 h; omega
        · omega
      rw [if_pos h128] at h0 ⊢
      obtain ⟨v, e1, e2, e3, e4⟩ := gn_canon f (i + 1) (u + b % 128 * 128 ^ i) l (by omega) (by omega) (step_lt hi8 hu) h0
      have hv := e4 (by omega)
      have hs : u + b % 128 * 128 ^ i + v * 128 ^ (i + 1) = u + (b % 128 + 128 * v) * 128 ^ i := by
        rw [Nat.pow_succ, Nat.add_mul, Nat.mul_comm (128 ^ i) 128, ← Nat.mul_assoc, Nat.mul_comm v 128, Nat.add_assoc]
      have hg : groups (f + 1) (b % 128 + 128 * v) = (b : Int) :: groups f v := by
        have h1 : 128 ≤ b % 128 + 128 * v := by omega
        have h2 : (b % 128 + 128 * v) / 128 = v := by omega
        have h3 : (b % 128 + 128 * v) % 128 + 128 = b := by omega
        simp only [groups, if_pos h1, h2, h3]
      refine ⟨b % 128 + 128 * v, ?_, ?_, ?_, ?_⟩
      · rw [e1, hs, hg, List.length_cons, Nat.add_assoc, Nat.add_comm 1]
      · rw [hg]
        show c :: l = UInt8.ofNat ((b : Nat) : Int).toNat :: (listByte (groups f v) ++ l.drop (groups f v).length)
        rw [hbc, ← e2]
      · rw [← hs]; exact e3
      · intro _; omega
    · rw [if_neg h128] at h0 ⊢
      by_cases hz : b = 0 ∧ 0 < i
      · rw [if_pos hz] at h0; simp at h0
      rw [if_neg hz] at h0 ⊢
      have hm : b % 128 = b := by omega
      have hsl := sum_lt (b := b) hi9 hu hb9
      rw [hm] at hsl ⊢
      have hg : groups (f + 1) b = [(b : Int)] := by simp only [groups, if_neg h128]
      refine ⟨b, ?_, ?_, hsl, ?_⟩
      · rw [hg]; rfl
      · rw [hg]
        show c :: l = UInt8.ofNat ((b : Nat) : Int).toNat :: l
        rw [hbc]
      · intro hi hb0; exact hz ⟨hb0, hi⟩
/-- At a stands the encoding of n, and it ends at a'. -/
structure Got (s : Str) (a : Nat) (n : Int) (a' : Nat) : Prop where
  at' : a' = a + (putOf n).length
  le : a' ≤ s.length
  eq : s.drop a = putOf n ++ s.drop a'
  range : Num n
theorem num_cases (s : Str) (a : Nat) : (∃ (n : Int) (a' : Nat), getNumZ s a = (n, (a' : Int), 0) ∧ Got s a n a') ∨ ∃ c, c ≠ 0 ∧ getNumZ s a = (0, 0, c) := by
  unfold getNumZ fin
  by_cases h : (gn 10 0 0 (s.drop a)).2.2 = 0
  · left
    obtain ⟨v, e1, e2, e3, _⟩ := gn_canon 10 0 0 (s.drop a) (by omega) (by omega) (by omega) h
    simp only [Nat.pow_zero, Nat.mul_one, Nat.zero_add] at e1 e3
    have hB : putOf (unz v) = listByte (groups 10 v) := by unfold putOf; rw [zig_unz]
    have hsz : (putOf (unz v)).length = (groups 10 v).length := by rw [hB, listByte_len]
    refine ⟨unz v, a + (putOf (unz v)).length, ?_, rfl, ?_, ?_, unz_range e3⟩
    · rw [e1, hsz]
      rfl
    · have := congrArg List.length e2
      simp only [List.length_append, listByte_len, List.length_drop] at this
      have hp : 0 < (groups 10 v).length := by unfold groups; split <;> simp
      omega
    · rw [hsz, ← List.drop_drop, hB]
      exact e2
  · right
    exact ⟨_, h, by rw [if_neg h]⟩
/-- What was encoded is read back, whatever follows. -/
theorem gn_put : ∀ (f i u v : Nat) (l : Str), i + f = 10 → i ≤ 9 → v < 128 ^ f → u + v * 128 ^ i < 18446744073709551616 → (0 < i → v ≠ 0) → gn f i u (listByte (groups f v) ++ l) = (unz (u + v * 128 ^ i), i + (groups f v).length, 0)
  | 0, i, u, v, l, hf, h9, _, _, _ => by omega
  | f + 1, i, u, v, l, hf, hi9, hv, hb, hz => by
    have h9' : i = 9 → v ≤ 1 := fun h => by subst h; simp at hb; omega
    by_cases h128 : 128 ≤ v
    · have hi8 : i ≤ 8 := by
        by_cases h : i = 9
        · have := h9' h; omega
        · omega
      have hg : groups (f + 1) v = ((v % 128 + 128 : Nat) : Int) :: groups f (v / 128) := by simp only [groups, if_pos h128]
      have ht : (UInt8.ofNat (((v % 128 + 128 : Nat) : Int)).toNat).toNat = v % 128 + 128 := by
        rw [Int.toNat_natCast, UInt8.toNat_ofNat']
        omega
      rw [hg]
      show gn (f + 1) i u (UInt8.ofNat (((v % 128 + 128 : Nat) : Int)).toNat :: (listByte (groups f (v / 128)) ++ l)) = _
      simp only [gn]
      rw [ht, if_neg (by omega), if_pos (by omega)]
      have hs : u + (v % 128 + 128) % 128 * 128 ^ i + v / 128 * 128 ^ (i + 1) = u + v * 128 ^ i := by
        have e : (v % 128 + 128) % 128 = v % 128 := by omega
        have e2 : v % 128 * 128 ^ i + v / 128 * (128 * 128 ^ i) = v * 128 ^ i := by
          rw [← Nat.mul_assoc, ← Nat.add_mul]
          congr 1
          omega
        rw [e, Nat.pow_succ, Nat.mul_comm (128 ^ i) 128, Nat.add_assoc, e2]
      rw [gn_put f (i + 1) _ (v / 128) l (by omega) (by omega) (by rw [Nat.pow_succ] at hv; exact Nat.div_lt_of_lt_mul (by rw [Nat.mul_comm]; exact hv)) (by rw [hs]; exact hb) (fun _ => by omega), hs]
      simp only [List.length_cons, Prod.mk.injEq, and_true, true_and]
      omega
    · have hg : groups (f + 1) v = [(v : Int)] := by simp only [groups, if_neg h128]
      have ht : (UInt8.ofNat ((v : Int)).toNat).toNat = v := by
        rw [Int.toNat_natCast, UInt8.toNat_ofNat']
        omega
      rw [hg]
      show gn (f + 1) i u (UInt8.ofNat ((v : Int)).toNat :: l) = _
      simp only [gn]
      rw [ht, if_neg (fun q => by have := h9' q.1; omega), if_neg h128, if_neg (fun q => hz q.2 q.1), Nat.mod_eq_of_lt (by omega)]
      rfl
theorem get_put (n : Int) (h : Num n) (s : Str) (a : Nat) (t : Str) (hs : s.drop a = putOf n ++ t) : getNumZ s a = (n, ((a + (putOf n).length : Nat) : Int), 0) := by
  unfold getNumZ
  have hz := zig_lt h
  rw [hs]
  unfold putOf
  rw [gn_put 10 0 0 (zig n) t rfl (by omega) (by omega) (by omega) (fun q => absurd q (by omega))]
  simp only [Nat.pow_zero, Nat.mul_one, Nat.zero_add, unz_zig, listByte_len]
  rfl
/-! ### texts, read back -/
def getTextZ (s : Str) (a : Nat) : Str × Int × Int :=
  if (getNumZ s a).2.2 = 0 then
    if 0 ≤ (getNumZ s a).1 ∧ (getNumZ s a).1 ≤ 8000 then
      if (getNumZ s a).1 > (s.length : Int) - (getNumZ s a).2.1 then ([], 0, 4)
      else ((s.take ((getNumZ s a).2.1 + (getNumZ s a).1).toNat).drop (getNumZ s a).2.1.toNat, (getNumZ s a).2.1 + (getNumZ s a).1, 0)
    else ([], 0, 3)
  else ([], 0, (getNumZ s a).2.2)
/-- At a stands the encoding of the text t, and it ends at a'. -/
structure GotT (s : Str) (a : Nat) (t : Str) (a' : Nat) : Prop where
  at' : a' = a + (putTextOf t).length
  le : a' ≤ s.length
  eq : s.drop a = putTextOf t ++ s.drop a'
  size : t.length ≤ 8000
theorem text_cases (s : Str) (a : Nat) : (∃ t a', getTextZ s a = (t, ((a' : Nat) : Int), 0) ∧ GotT s a t a') ∨ ∃ c, c ≠ 0 ∧ getTextZ s a = ([], 0, c) := by
  unfold getTextZ
  rcases num_cases s a with ⟨n, a', e, g⟩ | ⟨c, hc, e⟩
  · rw [e]
    simp only [if_true]
    by_cases hn : 0 ≤ n ∧ n ≤ 8000
    · rw [if_pos hn]
      have hle := g.le
      by_cases hs : n > (s.length : Int) - (a' : Int)
      · rw [if_pos hs]
        exact .inr ⟨4, by omega, rfl⟩
      · rw [if_neg hs]
        obtain ⟨m, rfl⟩ : ∃ m : Nat, n = (m : Int) := ⟨n.toNat, by omega⟩
        have e1 : ((a' : Int) + (m : Int)).toNat = a' + m := by omega
        rw [e1, Int.toNat_natCast]
        have hB : (s.take (a' + m)).drop a' = (s.drop a').take m := by
          rw [List.drop_take, Nat.add_sub_cancel_left]
        have hsz : ((s.take (a' + m)).drop a').length = m := by
          rw [hB, List.length_take, List.length_drop]
          omega
        refine .inl ⟨_, a' + m, by push_cast; rfl, ?_, ?_, ?_, ?_⟩
        · unfold putTextOf
          rw [List.length_append, hsz]
          have := g.at'
          omega
        · omega
        · unfold putTextOf
          rw [hsz, hB, g.eq, List.append_assoc, ← List.drop_drop, List.take_append_drop]
        · rw [hsz]; omega
    · rw [if_neg hn]
      exact .inr ⟨3, by omega, rfl⟩
  · rw [e]
    simp only
    rw [if_neg hc]
    exact .inr ⟨c, hc, rfl⟩
/-- One number, read: the number, the place, whether it failed. -/
def numR (s : Str) (a : Nat) : Int × Str × Int × Bool := if (getNumZ s a).2.2 = 0 then ((getNumZ s a).1, s, (getNumZ s a).2.1, false) else (0, s, (a : Int), true)
theorem numR_cases (s : Str) (a : Nat) : (∃ n a', numR s a = (n, s, ((a' : Nat) : Int), false) ∧ Got s a n a') ∨ numR s a = (0, s, (a : Int), true) := by
  unfold numR
  rcases num_cases s a with ⟨n, a', e, g⟩ | ⟨c, hc, e⟩
  · left; exact ⟨n, a', by rw [e]; rfl, g⟩
  · right; rw [e, if_neg hc]
/-- One text, read: the text, the place, whether it failed. -/
def textR (s : Str) (a : Nat) : Str × Str × Int × Bool := if (getTextZ s a).2.2 = 0 then ((getTextZ s a).1, s, (getTextZ s a).2.1, false) else ([], s, (a : Int), true)
theorem textR_cases (s : Str) (a : Nat) : (∃ t a', textR s a = (t, s, ((a' : Nat) : Int), false) ∧ GotT s a t a') ∨ textR s a = ([], s, (a : Int), true) := by
  unfold textR
  rcases text_cases s a with ⟨n, a', e, g⟩ | ⟨c, hc, e⟩
  · left; exact ⟨n, a', by rw [e]; rfl, g⟩
  · right; rw [e, if_neg hc]
end Go.Proofs.YthoibokhmkjkdaaE

namespace Go.Proofs.YthoibokhmkjkdaaE
open Go
set_option linter.unusedVariables false
theorem loop_inv {S R : Type} (L : Nat → S → Option R) (m : S → Nat) (I : S → Prop) (Q : R → Prop) (step : ∀ s, I s → (∃ r, (∀ j, L (j + 1) s = some r) ∧ Q r) ∨ ∃ s', I s' ∧ m s' < m s ∧ ∀ j, L (j + 1) s = L j s') : ∀ (n : Nat) (s : S) (j : Nat), I s → m s ≤ n → n < j → ∃ r, L j s = some r ∧ Q r := by
  intro n
  induction n with
  | zero =>
    intro s j hi hm hj
    obtain ⟨j, rfl⟩ : ∃ q, j = q + 1 := ⟨j - 1, by omega⟩
    rcases step s hi with ⟨r, hr, hq⟩ | ⟨s', _, hm', _⟩
    · exact ⟨r, hr j, hq⟩
    · omega
  | succ n ih =>
    intro s j hi hm hj
    obtain ⟨j, rfl⟩ : ∃ q, j = q + 1 := ⟨j - 1, by omega⟩
    rcases step s hi with ⟨r, hr, hq⟩ | ⟨s', hi', hm', hs⟩
    · exact ⟨r, hr j, hq⟩
    · rw [hs j]
      exact ih s' j hi' (by omega) (by omega)
/-- The same, whatever the fuel. -/
theorem loop_uni {S R : Type} (L : Nat → S → Option R) (m : S → Nat) (I : S → Prop) (Q : R → Prop) (step : ∀ s, I s → (∃ r, (∀ j, L (j + 1) s = some r) ∧ Q r) ∨ ∃ s', I s' ∧ m s' < m s ∧ ∀ j, L (j + 1) s = L j s') : ∀ (n : Nat) (s : S), I s → m s ≤ n → ∃ r, Q r ∧ ∀ j, n < j → L j s = some r := by
  intro n
  induction n with
  | zero =>
    intro s hi hm
    rcases step s hi with ⟨r, hr, hq⟩ | ⟨s', _, hm', _⟩
    · refine ⟨r, hq, fun j hj => ?_⟩
      obtain ⟨j, rfl⟩ : ∃ q, j = q + 1 := ⟨j - 1, by omega⟩
      exact hr j
    · omega
  | succ n ih =>
    intro s hi hm
    rcases step s hi with ⟨r, hr, hq⟩ | ⟨s', hi', hm', hs⟩
    · refine ⟨r, hq, fun j hj => ?_⟩
      obtain ⟨j, rfl⟩ : ∃ q, j = q + 1 := ⟨j - 1, by omega⟩
      exact hr j
    · obtain ⟨r, hq, hr⟩ := ih s' hi' (by omega)
      refine ⟨r, hq, fun j hj => ?_⟩
      obtain ⟨j, rfl⟩ : ∃ q, j = q + 1 := ⟨j - 1, by omega⟩
      rw [hs j]
      exact hr j (by omega)
theorem at_in {α : Type} {l : List α} {i : Int} (h : 0 ≤ i) (h2 : i < (l.length : Int)) : ∃ x, at? l i = some x ∧ x ∈ l := by
  obtain ⟨n, rfl⟩ : ∃ n : Nat, i = (n : Int) := ⟨i.toNat, by omega⟩
  exact ⟨l[n]'(by omega), at_nat (by omega), List.getElem_mem _⟩
theorem wid {n : Int} (h0 : 0 ≤ n) (h1 : n < 9223372036854775808) : IntKind.wrap .i64 n = n := w64 (by omega) h1
theorem wuid {n : Int} (h0 : 0 ≤ n) (h1 : n < 18446744073709551616) : IntKind.wrap .u64 n = n := by rw [u64w]; omega
theorem cut_in {α : Type} {l : List α} {i j : Int} (h0 : 0 ≤ i) (h1 : i ≤ j) (h2 : j ≤ (l.length : Int)) : ∃ t, cut? l i j = some t ∧ (t.length : Int) = j - i := by
  obtain ⟨a, rfl⟩ : ∃ n : Nat, i = (n : Int) := ⟨i.toNat, by omega⟩
  obtain ⟨b, rfl⟩ : ∃ n : Nat, j = (n : Int) := ⟨j.toNat, by omega⟩
  refine ⟨_, cut_ok (by omega) (by omega), ?_⟩
  rw [List.length_drop, List.length_take]
  omega
end Go.Proofs.YthoibokhmkjkdaaE

namespace Go.Proofs.YthoibokhmkjkdaaE
open Go
set_option linter.unusedVariables false
def wAt (l : List Int) (i : Nat) : Bool := (decide (1 ≤ l.getD i 0) && decide (l.getD i 0 ≤ 100)) && (decide (i = 0) || decide (l.getD (i - 1) 0 < l.getD i 0))
def wOk (l : List Int) : Bool := (List.range l.length).all (wAt l)
def sAt (l : List Int) (i : Nat) : Bool := decide (0 ≤ l.getD i 0) && decide (l.getD i 0 ≤ 3)
def sOk (l : List Int) : Bool := (List.range l.length).all (sAt l)
def shareZ (F : G24) : Int := ((F.2.2.2.length : Int) * F.1.getD F.2.1.toNat 0 + 99) / 100
def leftZ (F : G24) : Int := (F.2.2.2.length : Int) - (F.2.2.2.count 0 : Int)
def shapeB (F : G24) : Bool := (decide (1 ≤ F.2.2.2.length) && decide (F.2.2.2.length ≤ 12)) && ((decide (1 ≤ F.1.length) && decide (F.1.length ≤ 10)) && ((decide (0 ≤ F.2.1) && decide (F.2.1 ≤ (F.1.length : Int) - 1)) && (decide (0 ≤ F.2.2.1) && decide (F.2.2.1 ≤ 12))))
def fleetB (F : G24) : Bool := shapeB F && (wOk F.1 && (sOk F.2.2.2 && (decide (F.1.getD (F.1.length - 1) 0 = 100) && decide (leftZ F ≤ shareZ F))))
theorem shapeB_is {F : G24} (h : shapeB F = true) : (1 ≤ F.2.2.2.length ∧ F.2.2.2.length ≤ 12) ∧ (1 ≤ F.1.length ∧ F.1.length ≤ 10) ∧ (0 ≤ F.2.1 ∧ F.2.1 ≤ (F.1.length : Int) - 1) ∧ (0 ≤ F.2.2.1 ∧ F.2.2.1 ≤ 12) := by
  unfold shapeB at h
  simpa only [Bool.and_eq_true, decide_eq_true_eq] using h
theorem fleetB_is {F : G24} (h : fleetB F = true) : shapeB F = true ∧ wOk F.1 = true ∧ sOk F.2.2.2 = true ∧ F.1.getD (F.1.length - 1) 0 = 100 ∧ leftZ F ≤ shareZ F := by
  unfold fleetB at h
  simpa only [Bool.and_eq_true, decide_eq_true_eq] using h
theorem at_getD {l : List Int} {i : Nat} (h : i < l.length) : at? l (i : Int) = some (l.getD i 0) := by
  rw [at_nat h, List.getD_eq_getElem?_getD, List.getElem?_eq_getElem h]
  rfl
theorem count_take {l : List Int} (s : Int) {i : Nat} (h : i < l.length) : ((l.take (i + 1)).count s : Int) = (l.take i).count s + (if l.getD i 0 = s then 1 else 0) := by
  have e : l.getD i 0 = l[i] := by rw [List.getD_eq_getElem?_getD, List.getElem?_eq_getElem h]; rfl
  rw [take_succ' h, List.count_append, e]
  by_cases hs : l[i] = s
  · rw [if_pos hs, hs]; simp
  · rw [if_neg hs]
    simp [hs]
theorem beqi (a b : Int) : (a == b) = decide (a = b) := by rw [Bool.eq_iff_iff]; simp
theorem sMany (F : G24) (s : Int) (h : F.2.2.2.length ≤ 12) (k : Nat) (hk : 20 ≤ k) : spec_l21Many k F s = some ((F.2.2.2.count s : Nat) : Int) := by
  have key := loop_at (fun j i => spec_l21Many.l0 j s F.1 F.2.1 F.2.2.1 F.2.2.2 (((F.2.2.2.take i).count s : Nat) : Int) (i : Int)) F.2.2.2.length (((F.2.2.2.count s : Nat) : Int)) (fun i hi j => by
    conv => lhs; unfold spec_l21Many.l0
    rw [decide_eq_true (by omega : (i : Int) < (F.2.2.2.length : Int)), at_getD hi, wsuc (by omega)]
    simp only [cond_true, Option.bind_some, beqi]
    rw [count_take s hi]
    have hc : (F.2.2.2.take i).count s ≤ i := by have := List.count_le_length (a := s) (l := F.2.2.2.take i); simp at this; omega
    by_cases hs : F.2.2.2.getD i 0 = s
    · rw [if_pos hs, decide_eq_true hs, w64 (by omega) (by omega)]; rfl
    · rw [if_neg hs, decide_eq_false hs, Int.add_zero]; rfl) (fun j => by
    conv => lhs; unfold spec_l21Many.l0
    rw [decide_eq_false (by omega : ¬ ((F.2.2.2.length : Int) < (F.2.2.2.length : Int))), List.take_length]
    rfl) k (by omega)
  have key : spec_l21Many.l0 k s F.1 F.2.1 F.2.2.1 F.2.2.2 0 0 = _ := key
  unfold spec_l21Many
  rw [key]
  rfl
theorem iCount (F : G24) (s : Int) (h : F.2.2.2.length ≤ 12) (k : Nat) (hk : 20 ≤ k) : impl_Fleet_count k F s = some ((F.2.2.2.count s : Nat) : Int) := by
  have key := loop_at (fun j i => impl_Fleet_count.l0 j s (((F.2.2.2.take i).count s : Nat) : Int) F.2.2.2 (F.2.2.2.length : Int) (i : Int)) F.2.2.2.length (((F.2.2.2.count s : Nat) : Int)) (fun i hi j => by
    conv => lhs; unfold impl_Fleet_count.l0
    rw [decide_eq_true (by omega : (i : Int) < (F.2.2.2.length : Int)), at_getD hi, wsuc (by omega)]
    simp only [cond_true, Option.bind_some, beqi]
    rw [count_take s hi]
    have hc : (F.2.2.2.take i).count s ≤ i := by have := List.count_le_length (a := s) (l := F.2.2.2.take i); simp at this; omega
    by_cases hs : F.2.2.2.getD i 0 = s
    · rw [if_pos hs, decide_eq_true hs, w64 (by omega) (by omega)]; rfl
    · rw [if_neg hs, decide_eq_false hs, Int.add_zero]; rfl) (fun j => by
    conv => lhs; unfold impl_Fleet_count.l0
    rw [decide_eq_false (by omega : ¬ ((F.2.2.2.length : Int) < (F.2.2.2.length : Int))), List.take_length]
    rfl) k (by omega)
  have key : impl_Fleet_count.l0 k s 0 F.2.2.2 (F.2.2.2.length : Int) 0 = _ := key
  unfold impl_Fleet_count
  rw [key]
  rfl
theorem wOk_at {l : List Int} (h : wOk l = true) {i : Nat} (hi : i < l.length) : (1 ≤ l.getD i 0 ∧ l.getD i 0 ≤ 100) ∧ (0 < i → l.getD (i - 1) 0 < l.getD i 0) := by
  have := List.all_eq_true.1 h i (List.mem_range.2 hi)
  unfold wAt at this
  simp only [Bool.and_eq_true, Bool.or_eq_true, decide_eq_true_eq] at this
  exact ⟨this.1, fun q => by rcases this.2 with r | r; omega; exact r⟩
theorem share_val {F : G24} (h : shapeB F = true) (hw : wOk F.1 = true) : ∃ w : Int, at? F.1 F.2.1 = some w ∧ F.1.getD F.2.1.toNat 0 = w ∧ 1 ≤ w ∧ w ≤ 100 := by
  obtain ⟨_, hm, hwv, _⟩ := shapeB_is h
  obtain ⟨i, hi⟩ : ∃ i : Nat, F.2.1 = (i : Int) := ⟨F.2.1.toNat, by omega⟩
  have hil : i < F.1.length := by omega
  obtain ⟨h1, _⟩ := wOk_at hw hil
  exact ⟨F.1.getD i 0, by rw [hi]; exact at_getD hil, by rw [hi]; rfl, h1.1, h1.2⟩
theorem mul_le {n : Nat} {w : Int} (hn : n ≤ 12) (h0 : 0 ≤ w) (hw : w ≤ 100) : 0 ≤ (n : Int) * w ∧ (n : Int) * w ≤ 1200 := by
  have h1 : (n : Int) * w ≤ 12 * w := Int.mul_le_mul_of_nonneg_right (by omega) h0
  exact ⟨Int.mul_nonneg (by omega) h0, by omega⟩
theorem sShareZ {F : G24} (h : shapeB F = true) (hw : wOk F.1 = true) : spec_l21Share F = some (shareZ F) := by
  obtain ⟨w, h1, h2, h3, h4⟩ := share_val h hw
  obtain ⟨hn, _⟩ := shapeB_is h
  obtain ⟨m1, m2⟩ := mul_le hn.2 (by omega : 0 ≤ w) h4
  unfold spec_l21Share shareZ
  rw [h1, h2, nz_some (by omega)]
  simp only [Option.bind_some]
  rw [w64 (n := (F.2.2.2.length : Int) * w) (by omega) (by omega), w64 (n := (F.2.2.2.length : Int) * w + 99) (by omega) (by omega), Int.tdiv_eq_ediv_of_nonneg (by omega), w64 (by omega) (by omega)]
theorem iShareZ {F : G24} (h : shapeB F = true) (hw : wOk F.1 = true) : impl_Fleet_share F = some (shareZ F) := by
  obtain ⟨w, h1, h2, h3, h4⟩ := share_val h hw
  obtain ⟨hn, _⟩ := shapeB_is h
  obtain ⟨m1, m2⟩ := mul_le hn.2 (by omega : 0 ≤ w) h4
  unfold impl_Fleet_share impl_size_int64 shareZ
  rw [h1, h2, nz_some (by omega)]
  simp only [Option.bind_some]
  rw [w64 (n := (F.2.2.2.length : Int) * w) (by omega) (by omega), w64 (n := (F.2.2.2.length : Int) * w + 99) (by omega) (by omega), Int.tdiv_eq_ediv_of_nonneg (by omega), w64 (by omega) (by omega)]
theorem share_le {F : G24} (h : shapeB F = true) (hw : wOk F.1 = true) : 0 ≤ shareZ F ∧ shareZ F ≤ (F.2.2.2.length : Int) := by
  obtain ⟨w, h1, h2, h3, h4⟩ := share_val h hw
  obtain ⟨hn, _⟩ := shapeB_is h
  obtain ⟨m1, m2⟩ := mul_le hn.2 (by omega : 0 ≤ w) h4
  have h5 : (F.2.2.2.length : Int) * w ≤ (F.2.2.2.length : Int) * 100 := Int.mul_le_mul_of_nonneg_left h4 (by omega)
  unfold shareZ
  rw [h2]
  omega
theorem iLeft (F : G24) (h : F.2.2.2.length ≤ 12) (k : Nat) (hk : 20 ≤ k) : impl_Fleet_left k F = some (leftZ F) := by
  have hc := List.count_le_length (a := (0 : Int)) (l := F.2.2.2)
  unfold impl_Fleet_left impl_size_int64 leftZ
  rw [iCount F 0 h k hk]
  simp only [Option.bind_some]
  rw [w64 (by omega) (by omega)]
/-- The reference's test of waves. -/
theorem sWavesL (l : List Int) (hl : l.length ≤ 10) (k : Nat) (hk : 20 ≤ k) : spec_l21Waves.l0 k l 0 = some (if wOk l = true then .inl () else .inr false) := by
  have key := loop_test (fun j i => spec_l21Waves.l0 j l (i : Int)) l.length (wAt l) (fun _ => false) (fun i hi hp j => ?_) (fun i hi hp j => ?_) (fun j => ?_)
  · rcases key with ⟨h1, h2⟩ | ⟨h1, i, hi, hp, h2⟩
    · rw [if_pos (show wOk l = true from h1)]; exact h2 k (by omega)
    · rw [if_neg (by unfold wOk; rw [h1]; simp)]; exact h2 k (by omega)
  · unfold wAt at hp
    conv => lhs; unfold spec_l21Waves.l0
    rw [decide_eq_true (by omega : (i : Int) < (l.length : Int)), at_getD hi]
    simp only [cond_true, Option.bind_some]
    unfold spec_l03Is
    obtain ⟨h1, h2⟩ := (Bool.and_eq_true _ _).mp hp
    rw [h1, wsuc (by omega)]
    simp only [Option.bind_some, Bool.not_true, cond_false]
    by_cases hi0 : i = 0
    · rw [decide_eq_false (by omega : ¬ ((0 : Int) < (i : Int)))]; rfl
    · rw [decide_eq_false hi0] at h2
      have h2 := of_decide_eq_true h2
      rw [decide_eq_true (by omega : (0 : Int) < (i : Int)), w64 (by omega) (by omega), show ((i : Int) - 1) = ((i - 1 : Nat) : Int) by omega, at_getD (by omega : i - 1 < l.length)]
      simp only [cond_true, Option.bind_some]
      rw [decide_eq_false (by omega : ¬ (l.getD i 0 ≤ l.getD (i - 1) 0))]
      rfl
  · unfold wAt at hp
    show spec_l21Waves.l0 (j + 1) l (i : Int) = _
    conv => lhs; unfold spec_l21Waves.l0
    rw [decide_eq_true (by omega : (i : Int) < (l.length : Int)), at_getD hi]
    simp only [cond_true, Option.bind_some]
    unfold spec_l03Is
    simp only [Option.bind_some]
    cases h1 : (decide (1 ≤ l.getD i 0) && decide (l.getD i 0 ≤ 100)) with
    | false => rfl
    | true =>
      rw [h1, Bool.true_and] at hp
      obtain ⟨h2, h3⟩ := Bool.or_eq_false_iff.1 hp
      have h2 := of_decide_eq_false h2
      have h3 := of_decide_eq_false h3
      simp only [Bool.not_true, cond_false]
      rw [decide_eq_true (by omega : (0 : Int) < (i : Int)), w64 (n := (i : Int) - 1) (by omega) (by omega), show ((i : Int) - 1) = ((i - 1 : Nat) : Int) by omega, at_getD (by omega : i - 1 < l.length)]
      simp only [cond_true, Option.bind_some]
      rw [decide_eq_true (by omega : l.getD i 0 ≤ l.getD (i - 1) 0)]
      rfl
  · show spec_l21Waves.l0 (j + 1) l (l.length : Int) = _
    conv => lhs; unfold spec_l21Waves.l0
    rw [decide_eq_false (by omega : ¬ ((l.length : Int) < (l.length : Int)))]
    rfl
theorem iWavesL (F : G24) (hl : F.1.length ≤ 10) (k : Nat) (hk : 20 ≤ k) : impl_isFleet.l0 k F.1 F.2.1 F.2.2.1 F.2.2.2 F.1 (F.1.length : Int) 0 = some (if wOk F.1 = true then .inl () else .inr false) := by
  have key := loop_test (fun j i => impl_isFleet.l0 j F.1 F.2.1 F.2.2.1 F.2.2.2 F.1 (F.1.length : Int) (i : Int)) F.1.length (wAt F.1) (fun _ => false) (fun i hi hp j => ?_) (fun i hi hp j => ?_) (fun j => ?_)
  · rcases key with ⟨h1, h2⟩ | ⟨h1, i, hi, hp, h2⟩
    · rw [if_pos (show wOk F.1 = true from h1)]; exact h2 k (by omega)
    · rw [if_neg (by unfold wOk; rw [h1]; simp)]; exact h2 k (by omega)
  · unfold wAt at hp
    conv => lhs; unfold impl_isFleet.l0
    rw [decide_eq_true (by omega : (i : Int) < (F.1.length : Int)), at_getD hi]
    simp only [cond_true, Option.bind_some]
    unfold impl_within
    obtain ⟨h1, h2⟩ := (Bool.and_eq_true _ _).mp hp
    rw [h1, wsuc (by omega)]
    simp only [Option.bind_some, Bool.not_true, cond_false]
    by_cases hi0 : i = 0
    · rw [decide_eq_false (by omega : ¬ ((0 : Int) < (i : Int)))]; rfl
    · rw [decide_eq_false hi0] at h2
      have h2 := of_decide_eq_true h2
      rw [decide_eq_true (by omega : (0 : Int) < (i : Int)), w64 (by omega) (by omega), show ((i : Int) - 1) = ((i - 1 : Nat) : Int) by omega, at_getD (by omega : i - 1 < F.1.length)]
      simp only [cond_true, Option.bind_some]
      rw [decide_eq_false (by omega : ¬ (F.1.getD i 0 ≤ F.1.getD (i - 1) 0))]
      rfl
  · unfold wAt at hp
    show impl_isFleet.l0 (j + 1) F.1 F.2.1 F.2.2.1 F.2.2.2 F.1 (F.1.length : Int) (i : Int) = _
    conv => lhs; unfold impl_isFleet.l0
    rw [decide_eq_true (by omega : (i : Int) < (F.1.length : Int)), at_getD hi]
    simp only [cond_true, Option.bind_some]
    unfold impl_within
    simp only [Option.bind_some]
    cases h1 : (decide (1 ≤ F.1.getD i 0) && decide (F.1.getD i 0 ≤ 100)) with
    | false => rfl
    | true =>
      rw [h1, Bool.true_and] at hp
      obtain ⟨h2, h3⟩ := Bool.or_eq_false_iff.1 hp
      have h2 := of_decide_eq_false h2
      have h3 := of_decide_eq_false h3
      simp only [Bool.not_true, cond_false]
      rw [decide_eq_true (by omega : (0 : Int) < (i : Int)), w64 (n := (i : Int) - 1) (by omega) (by omega), show ((i : Int) - 1) = ((i - 1 : Nat) : Int) by omega, at_getD (by omega : i - 1 < F.1.length)]
      simp only [cond_true, Option.bind_some]
      rw [decide_eq_true (by omega : F.1.getD i 0 ≤ F.1.getD (i - 1) 0)]
      rfl
  · show impl_isFleet.l0 (j + 1) F.1 F.2.1 F.2.2.1 F.2.2.2 F.1 (F.1.length : Int) (F.1.length : Int) = _
    conv => lhs; unfold impl_isFleet.l0
    rw [decide_eq_false (by omega : ¬ ((F.1.length : Int) < (F.1.length : Int)))]
    rfl
theorem sStates (F : G24) (hl : F.2.2.2.length ≤ 12) (k : Nat) (hk : 20 ≤ k) : spec_FleetRight.l0 k F.1 F.2.1 F.2.2.1 F.2.2.2 0 = some (if sOk F.2.2.2 = true then .inl () else .inr false) := by
  have key := loop_test (fun j i => spec_FleetRight.l0 j F.1 F.2.1 F.2.2.1 F.2.2.2 (i : Int)) F.2.2.2.length (sAt F.2.2.2) (fun _ => false) (fun i hi hp j => ?_) (fun i hi hp j => ?_) (fun j => ?_)
  · rcases key with ⟨h1, h2⟩ | ⟨h1, i, hi, hp, h2⟩
    · rw [if_pos (show sOk F.2.2.2 = true from h1)]; exact h2 k (by omega)
    · rw [if_neg (by unfold sOk; rw [h1]; simp)]; exact h2 k (by omega)
  · unfold sAt at hp
    conv => lhs; unfold spec_FleetRight.l0
    rw [decide_eq_true (by omega : (i : Int) < (F.2.2.2.length : Int)), at_getD hi, wsuc (by omega)]
    simp only [cond_true, Option.bind_some]
    unfold spec_l03Is
    rw [hp]
    rfl
  · unfold sAt at hp
    show spec_FleetRight.l0 (j + 1) F.1 F.2.1 F.2.2.1 F.2.2.2 (i : Int) = _
    conv => lhs; unfold spec_FleetRight.l0
    rw [decide_eq_true (by omega : (i : Int) < (F.2.2.2.length : Int)), at_getD hi]
    simp only [cond_true, Option.bind_some]
    unfold spec_l03Is
    rw [hp]
    rfl
  · show spec_FleetRight.l0 (j + 1) F.1 F.2.1 F.2.2.1 F.2.2.2 (F.2.2.2.length : Int) = _
    conv => lhs; unfold spec_FleetRight.l0
    rw [decide_eq_false (by omega : ¬ ((F.2.2.2.length : Int) < (F.2.2.2.length : Int)))]
    rfl
theorem iStates (l : List Int) (hl : l.length ≤ 12) (k : Nat) (hk : 20 ≤ k) : slices_ContainsFunc_int64_130 k l = some (!(sOk l)) := by
  have key := loop_test (fun j i => slices_IndexFunc_int64_130.l0 j l (l.length : Int) (i : Int)) l.length (sAt l) (fun i => (i : Int)) (fun i hi hp j => ?_) (fun i hi hp j => ?_) (fun j => ?_)
  · unfold slices_ContainsFunc_int64_130 slices_IndexFunc_int64_130
    rcases key with ⟨h1, h2⟩ | ⟨h1, i, hi, hp, h2⟩
    · have h2 : slices_IndexFunc_int64_130.l0 k l (l.length : Int) 0 = _ := h2 k (by omega)
      rw [h2, show sOk l = true from h1]
      rfl
    · have h2 : slices_IndexFunc_int64_130.l0 k l (l.length : Int) 0 = _ := h2 k (by omega)
      rw [h2, show sOk l = false from h1]
      simp only [Option.bind_some]
      rw [decide_eq_true (by omega : (0 : Int) ≤ (i : Int))]
      rfl
  · unfold sAt at hp
    conv => lhs; unfold slices_IndexFunc_int64_130.l0
    rw [decide_eq_true (by omega : (i : Int) < (l.length : Int)), at_getD hi, wsuc (by omega)]
    simp only [cond_true, Option.bind_some]
    unfold impl_isFleet_1 impl_within
    rw [hp]
    rfl
  · unfold sAt at hp
    show slices_IndexFunc_int64_130.l0 (j + 1) l (l.length : Int) (i : Int) = _
    conv => lhs; unfold slices_IndexFunc_int64_130.l0
    rw [decide_eq_true (by omega : (i : Int) < (l.length : Int)), at_getD hi]
    simp only [cond_true, Option.bind_some]
    unfold impl_isFleet_1 impl_within
    rw [hp]
    rfl
  · show slices_IndexFunc_int64_130.l0 (j + 1) l (l.length : Int) (l.length : Int) = _
    conv => lhs; unfold slices_IndexFunc_int64_130.l0
    rw [decide_eq_false (by omega : ¬ ((l.length : Int) < (l.length : Int)))]
    rfl
theorem sRight (F : G24) (k : Nat) (hk : 20 ≤ k) : spec_FleetRight k F = some (fleetB F) := by
  unfold spec_FleetRight fleetB shapeB
  dsimp only
  by_cases h1 : 1 ≤ F.2.2.2.length ∧ F.2.2.2.length ≤ 12
  · rw [decide_eq_false (by omega : ¬ ((F.2.2.2.length : Int) < 1)), decide_eq_false (by omega : ¬ (12 < (F.2.2.2.length : Int))), decide_eq_true h1.1, decide_eq_true h1.2]
    simp only [Bool.or_false, cond_false, Bool.true_and]
    unfold spec_l21Waves
    by_cases h2 : 1 ≤ F.1.length ∧ F.1.length ≤ 10
    · rw [decide_eq_false (by omega : ¬ ((F.1.length : Int) < 1)), decide_eq_false (by omega : ¬ (10 < (F.1.length : Int))), decide_eq_true h2.1, decide_eq_true h2.2, w64 (by omega) (by omega), show ((F.1.length : Int) - 1) = ((F.1.length - 1 : Nat) : Int) by omega, at_getD (by omega : F.1.length - 1 < F.1.length)]
      simp only [Bool.or_false, cond_false, Option.bind_some, Bool.true_and]
      by_cases h3 : F.1.getD (F.1.length - 1) 0 = 100
      · rw [show (F.1.getD (F.1.length - 1) 0 != 100) = false by rw [h3]; rfl, decide_eq_true h3, sWavesL F.1 h2.2 k hk]
        simp only [cond_false, Option.bind_some]
        by_cases h4 : wOk F.1 = true
        · rw [if_pos h4, h4]
          simp only [Option.bind_some, Bool.not_true, cond_false, Bool.true_and]
          unfold spec_l03Is
          simp only [Option.bind_some]
          cases h5 : (decide (0 ≤ F.2.1) && decide (F.2.1 ≤ ((F.1.length - 1 : Nat) : Int))) with
          | false => simp
          | true =>
            simp only [Bool.not_true, cond_false, Bool.true_and]
            cases h6 : (decide (0 ≤ F.2.2.1) && decide (F.2.2.1 ≤ 12)) with
            | false => simp
            | true =>
              simp only [Bool.not_true, cond_false, Bool.true_and]
              rw [sStates F h1.2 k hk]
              by_cases h7 : sOk F.2.2.2 = true
              · have hsh : shapeB F = true := by
                  unfold shapeB
                  rw [show ((F.1.length : Int) - 1) = ((F.1.length - 1 : Nat) : Int) by omega, decide_eq_true h1.1, decide_eq_true h1.2, decide_eq_true h2.1, decide_eq_true h2.2, h5, h6]
                  rfl
                have hc := List.count_le_length (a := (0 : Int)) (l := F.2.2.2)
                rw [if_pos h7, h7]
                simp only [Option.bind_some]
                rw [sMany F 0 h1.2 k hk, sShareZ hsh h4]
                simp only [Option.bind_some]
                rw [w64 (by omega) (by omega)]
                rfl
              · rw [if_neg h7, Bool.eq_false_iff.2 h7]
                rfl
        · rw [if_neg h4, Bool.eq_false_iff.2 h4]
          simp
      · rw [show (F.1.getD (F.1.length - 1) 0 != 100) = true by simpa using h3, decide_eq_false h3]
        simp
    · have : (decide ((F.1.length : Int) < 1) || decide (10 < (F.1.length : Int))) = true := by
        rw [Bool.or_eq_true, decide_eq_true_eq, decide_eq_true_eq]; omega
      have e2 : (decide (1 ≤ F.1.length) && decide (F.1.length ≤ 10)) = false := by
        rw [Bool.eq_false_iff, Ne, Bool.and_eq_true, decide_eq_true_eq, decide_eq_true_eq]; exact h2
      rw [this, e2]
      rfl
  · have : (decide ((F.2.2.2.length : Int) < 1) || decide (12 < (F.2.2.2.length : Int))) = true := by
      rw [Bool.or_eq_true, decide_eq_true_eq, decide_eq_true_eq]; omega
    have e2 : (decide (1 ≤ F.2.2.2.length) && decide (F.2.2.2.length ≤ 12)) = false := by
      rw [Bool.eq_false_iff, Ne, Bool.and_eq_true, decide_eq_true_eq, decide_eq_true_eq]; exact h1
    rw [this, e2]
    rfl
theorem iRight (F : G24) (k : Nat) (hk : 20 ≤ k) : impl_isFleet k F = some (fleetB F) := by
  unfold impl_isFleet fleetB impl_size_int64 impl_within
  simp only [Option.bind_some]
  by_cases h1 : 1 ≤ F.2.2.2.length ∧ F.2.2.2.length ≤ 12
  · rw [decide_eq_true (by omega : 1 ≤ (F.2.2.2.length : Int)), decide_eq_true (by omega : (F.2.2.2.length : Int) ≤ 12)]
    by_cases h2 : 1 ≤ F.1.length ∧ F.1.length ≤ 10
    · rw [decide_eq_true (by omega : 1 ≤ (F.1.length : Int)), decide_eq_true (by omega : (F.1.length : Int) ≤ 10), w64 (by omega) (by omega)]
      simp only [Bool.and_true, Bool.not_true, cond_false]
      unfold shapeB
      rw [decide_eq_true h1.1, decide_eq_true h1.2, decide_eq_true h2.1, decide_eq_true h2.2]
      simp only [Bool.true_and]
      cases h5 : (decide (0 ≤ F.2.1) && decide (F.2.1 ≤ (F.1.length : Int) - 1)) with
      | false => simp
      | true =>
        simp only [Bool.not_true, cond_false, Bool.true_and]
        cases h6 : (decide (0 ≤ F.2.2.1) && decide (F.2.2.1 ≤ 12)) with
        | false => simp
        | true =>
          have hsh : shapeB F = true := by
            unfold shapeB
            rw [decide_eq_true h1.1, decide_eq_true h1.2, decide_eq_true h2.1, decide_eq_true h2.2, h5, h6]
            rfl
          simp only [Bool.not_true, cond_false, Bool.true_and]
          rw [iWavesL F h2.2 k hk]
          by_cases h4 : wOk F.1 = true
          · rw [if_pos h4, h4]
            simp only [Option.bind_some, Bool.true_and]
            rw [iStates F.2.2.2 h1.2 k hk]
            by_cases h7 : sOk F.2.2.2 = true
            · rw [h7]
              simp only [Option.bind_some, Bool.not_true, cond_false, Bool.true_and]
              rw [show ((F.1.length : Int) - 1) = ((F.1.length - 1 : Nat) : Int) by omega, at_getD (by omega : F.1.length - 1 < F.1.length), iLeft F h1.2 k hk, iShareZ hsh h4]
              simp only [Option.bind_some, beqi]
              by_cases h3 : F.1.getD (F.1.length - 1) 0 = 100
              · rw [decide_eq_true h3]
                rfl
              · rw [decide_eq_false h3]
                rfl
            · rw [Bool.eq_false_iff.2 h7]
              rfl
          · rw [if_neg h4, Bool.eq_false_iff.2 h4]
            rfl
    · have : (decide (1 ≤ (F.1.length : Int)) && decide ((F.1.length : Int) ≤ 10)) = false := by
        rw [Bool.eq_false_iff, Ne, Bool.and_eq_true, decide_eq_true_eq, decide_eq_true_eq]; omega
      have e2 : (decide (1 ≤ F.1.length) && decide (F.1.length ≤ 10)) = false := by
        rw [Bool.eq_false_iff, Ne, Bool.and_eq_true, decide_eq_true_eq, decide_eq_true_eq]; exact h2
      unfold shapeB
      rw [this, e2]
      simp
  · have : (decide (1 ≤ (F.2.2.2.length : Int)) && decide ((F.2.2.2.length : Int) ≤ 12)) = false := by
      rw [Bool.eq_false_iff, Ne, Bool.and_eq_true, decide_eq_true_eq, decide_eq_true_eq]; omega
    have e2 : (decide (1 ≤ F.2.2.2.length) && decide (F.2.2.2.length ≤ 12)) = false := by
      rw [Bool.eq_false_iff, Ne, Bool.and_eq_true, decide_eq_true_eq, decide_eq_true_eq]; exact h1
    unfold shapeB
    rw [this, e2]
    rfl
end Go.Proofs.YthoibokhmkjkdaaE

namespace Go.Proofs.YthoibokhmkjkdaaE
open Go
set_option linter.unusedVariables false
abbrev FlOut := List Int × Int × Int × List Int × List Int × Int
def ill21 (c : Int) : FlOut := ([], 0, 0, [], [], c)
theorem clone_some (l : List Int) (h : l.length ≤ 1000) : slices_Clone_int64 l = some l := by
  unfold slices_Clone_int64
  rw [app_ok (by simp; omega)]
  rfl
theorem sCopy (F : G24) (h1 : F.1.length ≤ 1000) (h2 : F.2.2.2.length ≤ 1000) : spec_l21Copy F = some F := by
  unfold spec_l21Copy
  rw [app_ok (by simp; omega), app_ok (by simp; omega)]
  rfl
theorem iClone (F : G24) (h1 : F.1.length ≤ 1000) (h2 : F.2.2.2.length ≤ 1000) : impl_cloneFleet F = some F := by
  unfold impl_cloneFleet
  rw [clone_some _ h1, clone_some _ h2]
  rfl
def tellZ (F : G24) (id : Int) (g : Bool) : FlOut := if fleetB F = true then if 0 ≤ id ∧ id ≤ (F.2.2.2.length : Int) - 1 then if F.2.2.2.getD id.toNat 0 = 1 then (F.1, F.2.1, F.2.2.1, F.2.2.2.set id.toNat (bif g then 2 else 3), [], 0) else ill21 10 else ill21 6 else ill21 1
theorem sTell (F : G24) (id : Int) (g : Bool) (k : Nat) (hk : 20 ≤ k) : spec_FleetTell k F id g = some (tellZ F id g) := by
  unfold spec_FleetTell tellZ
  rw [sRight F k hk]
  simp only [Option.bind_some]
  by_cases hf : fleetB F = true
  · obtain ⟨hs, hw, _⟩ := fleetB_is hf
    obtain ⟨hn, hm, _⟩ := shapeB_is hs
    rw [if_pos hf, hf]
    simp only [Bool.not_true, cond_false]
    unfold spec_l03Is
    rw [w64 (by omega) (by omega)]
    simp only [Option.bind_some]
    by_cases hid : 0 ≤ id ∧ id ≤ (F.2.2.2.length : Int) - 1
    · obtain ⟨i, rfl⟩ : ∃ i : Nat, id = (i : Int) := ⟨id.toNat, by omega⟩
      have hi : i < F.2.2.2.length := by omega
      rw [if_pos hid, decide_eq_true hid.1, decide_eq_true hid.2, at_getD hi]
      simp only [Bool.and_true, Bool.not_true, cond_false, Option.bind_some, Int.toNat_natCast]
      by_cases h1 : F.2.2.2.getD i 0 = 1
      · rw [if_pos h1, show (F.2.2.2.getD i 0 != 1) = false by rw [h1]; rfl, sCopy F (by omega) (by omega)]
        simp only [cond_false, Option.bind_some]
        rw [at_getD hi, at_getD (by rw [List.length_set]; exact hi)]
        simp only [Option.bind_some, List.set_set]
        cases g <;> rfl
      · rw [if_neg h1, show (F.2.2.2.getD i 0 != 1) = true by simpa using h1]
        rfl
    · have : (decide (0 ≤ id) && decide (id ≤ (F.2.2.2.length : Int) - 1)) = false := by
        rw [Bool.eq_false_iff, Ne, Bool.and_eq_true, decide_eq_true_eq, decide_eq_true_eq]; exact hid
      rw [if_neg hid, this]
      rfl
  · rw [if_neg hf, Bool.eq_false_iff.2 hf]
    rfl
theorem iTell (F : G24) (id : Int) (g : Bool) (k : Nat) (hk : 20 ≤ k) : impl_FleetTell k F id g = some (tellZ F id g) := by
  unfold impl_FleetTell tellZ
  rw [iRight F k hk]
  simp only [Option.bind_some]
  by_cases hf : fleetB F = true
  · obtain ⟨hs, hw, _⟩ := fleetB_is hf
    obtain ⟨hn, hm, _⟩ := shapeB_is hs
    rw [if_pos hf, hf]
    simp only [Bool.not_true, cond_false]
    unfold impl_within impl_size_int64
    simp only [Option.bind_some]
    rw [w64 (by omega) (by omega)]
    by_cases hid : 0 ≤ id ∧ id ≤ (F.2.2.2.length : Int) - 1
    · obtain ⟨i, rfl⟩ : ∃ i : Nat, id = (i : Int) := ⟨id.toNat, by omega⟩
      have hi : i < F.2.2.2.length := by omega
      rw [if_pos hid, decide_eq_true hid.1, decide_eq_true hid.2, at_getD hi]
      simp only [Bool.and_true, Bool.not_true, cond_false, Option.bind_some, Int.toNat_natCast]
      by_cases h1 : F.2.2.2.getD i 0 = 1
      · rw [if_pos h1, show (F.2.2.2.getD i 0 != 1) = false by rw [h1]; rfl, iClone F (by omega) (by omega)]
        simp only [cond_false, Option.bind_some]
        rw [at_getD hi, at_getD (by rw [List.length_set]; exact hi)]
        simp only [Option.bind_some, List.set_set]
        cases g <;> rfl
      · rw [if_neg h1, show (F.2.2.2.getD i 0 != 1) = true by simpa using h1]
        rfl
    · have : (decide (0 ≤ id) && decide (id ≤ (F.2.2.2.length : Int) - 1)) = false := by
        rw [Bool.eq_false_iff, Ne, Bool.and_eq_true, decide_eq_true_eq, decide_eq_true_eq]; exact hid
      rw [if_neg hid, this]
      rfl
  · rw [if_neg hf, Bool.eq_false_iff.2 hf]
    rfl
def haltB (F : G24) : Bool := fleetB F && decide (F.2.2.1 < ((F.2.2.2.count 3 : Nat) : Int))
theorem sHalt (F : G24) (k : Nat) (hk : 20 ≤ k) : spec_Halted k F = some (haltB F) := by
  unfold spec_Halted haltB
  rw [sRight F k hk]
  simp only [Option.bind_some]
  cases hf : fleetB F with
  | false => rfl
  | true =>
    obtain ⟨hs, _⟩ := fleetB_is hf
    rw [cond_true, sMany F 3 (shapeB_is hs).1.2 k hk]
    rfl
theorem iHalt0 (F : G24) (h : F.2.2.2.length ≤ 12) (k : Nat) (hk : 20 ≤ k) : impl_Fleet_halted k F = some (decide (F.2.2.1 < ((F.2.2.2.count 3 : Nat) : Int))) := by
  unfold impl_Fleet_halted
  rw [iCount F 3 h k hk]
  rfl
theorem iHalt (F : G24) (k : Nat) (hk : 20 ≤ k) : impl_Halted k F = some (haltB F) := by
  unfold impl_Halted haltB
  rw [iRight F k hk]
  simp only [Option.bind_some]
  cases hf : fleetB F with
  | false => rfl
  | true =>
    obtain ⟨hs, _⟩ := fleetB_is hf
    rw [cond_true, iHalt0 F (shapeB_is hs).1.2 k hk]
    rfl
def sharesZ (F : G24) : Int := if fleetB F = true then shareZ F else 0
theorem sShare (F : G24) (k : Nat) (hk : 20 ≤ k) : spec_Share k F = some (sharesZ F) := by
  unfold spec_Share sharesZ
  rw [sRight F k hk]
  simp only [Option.bind_some]
  by_cases hf : fleetB F = true
  · obtain ⟨hs, hw, _⟩ := fleetB_is hf
    rw [if_pos hf, hf, sShareZ hs hw]
    rfl
  · rw [if_neg hf, Bool.eq_false_iff.2 hf]
    rfl
theorem iShare (F : G24) (k : Nat) (hk : 20 ≤ k) : impl_Share k F = some (sharesZ F) := by
  unfold impl_Share sharesZ
  rw [iRight F k hk]
  simp only [Option.bind_some]
  by_cases hf : fleetB F = true
  · obtain ⟨hs, hw, _⟩ := fleetB_is hf
    rw [if_pos hf, hf, iShareZ hs hw]
    rfl
  · rw [if_neg hf, Bool.eq_false_iff.2 hf]
    rfl
def nextZ (F : G24) : FlOut := if fleetB F = true then if haltB F = true then ill21 10 else if 0 < F.2.2.2.count 1 then ill21 10 else if leftZ F < shareZ F then ill21 10 else if F.2.1 = (F.1.length : Int) - 1 then ill21 8 else (F.1, F.2.1 + 1, F.2.2.1, F.2.2.2, [], 0) else ill21 1
theorem sNext (F : G24) (k : Nat) (hk : 20 ≤ k) : spec_FleetNext k F = some (nextZ F) := by
  unfold spec_FleetNext nextZ
  rw [sRight F k hk]
  simp only [Option.bind_some]
  by_cases hf : fleetB F = true
  · obtain ⟨hs, hw, _⟩ := fleetB_is hf
    obtain ⟨hn, hm, hv, _⟩ := shapeB_is hs
    have hc := List.count_le_length (a := (0 : Int)) (l := F.2.2.2)
    rw [if_pos hf, hf, sHalt F k hk]
    simp only [Bool.not_true, cond_false, Option.bind_some]
    by_cases hh : haltB F = true
    · rw [if_pos hh, hh]; rfl
    · rw [if_neg hh, Bool.eq_false_iff.2 hh, sMany F 1 hn.2 k hk]
      simp only [cond_false, Option.bind_some]
      by_cases h1 : 0 < F.2.2.2.count 1
      · rw [if_pos h1, decide_eq_true (by omega : (0 : Int) < ((F.2.2.2.count 1 : Nat) : Int))]; rfl
      · rw [if_neg h1, decide_eq_false (by omega : ¬ ((0 : Int) < ((F.2.2.2.count 1 : Nat) : Int))), sMany F 0 hn.2 k hk, sShareZ hs hw]
        simp only [cond_false, Option.bind_some]
        rw [w64 (n := (F.2.2.2.length : Int) - ((F.2.2.2.count 0 : Nat) : Int)) (by omega) (by omega), show ((F.2.2.2.length : Int) - ((F.2.2.2.count 0 : Nat) : Int)) = leftZ F from rfl]
        by_cases h2 : leftZ F < shareZ F
        · rw [if_pos h2, decide_eq_true h2]; rfl
        · rw [if_neg h2, decide_eq_false h2, w64 (n := (F.1.length : Int) - 1) (by omega) (by omega), beqi]
          simp only [cond_false]
          by_cases h3 : F.2.1 = (F.1.length : Int) - 1
          · rw [if_pos h3, decide_eq_true h3]; rfl
          · rw [if_neg h3, decide_eq_false h3, sCopy F (by omega) (by omega), w64 (by omega) (by omega)]; rfl
  · rw [if_neg hf, Bool.eq_false_iff.2 hf]
    rfl
theorem contains_eq (l : List Int) (s : Int) (hl : l.length ≤ 12) (k : Nat) (hk : 20 ≤ k) : slices_Contains_int64 k l s = some (decide (0 < l.count s)) := by
  have key := loop_test (fun j i => slices_Index_int64.l0 j l s (l.length : Int) (i : Int)) l.length (fun i => !(decide (s = l.getD i 0))) (fun i => (i : Int)) (fun i hi hp j => ?_) (fun i hi hp j => ?_) (fun j => ?_)
  · unfold slices_Contains_int64 slices_Index_int64
    rcases key with ⟨h1, h2⟩ | ⟨h1, i, hi, hp, h2⟩
    · have h2 : slices_Index_int64.l0 k l s (l.length : Int) 0 = _ := h2 k (by omega)
      have h3 : ¬ (0 < l.count s) := fun hc => by
        have hm := List.count_pos_iff.1 hc
        obtain ⟨i, hi, e⟩ := List.getElem_of_mem hm
        have := List.all_eq_true.1 h1 i (List.mem_range.2 hi)
        rw [List.getD_eq_getElem?_getD, List.getElem?_eq_getElem hi, Option.getD_some, e] at this
        simp at this
      rw [h2, decide_eq_false h3]
      rfl
    · have h2 : slices_Index_int64.l0 k l s (l.length : Int) 0 = _ := h2 k (by omega)
      have h3 : 0 < l.count s := by
        have hp : s = l.getD i 0 := by simpa using hp
        rw [List.getD_eq_getElem?_getD, List.getElem?_eq_getElem hi, Option.getD_some] at hp
        rw [hp]
        exact List.count_pos_iff.2 (List.getElem_mem hi)
      rw [h2, decide_eq_true h3]
      simp only [Option.bind_some]
      rw [decide_eq_true (by omega : (0 : Int) ≤ (i : Int))]
  · have hp : ¬ (s = l.getD i 0) := by simpa using hp
    conv => lhs; unfold slices_Index_int64.l0
    rw [decide_eq_true (by omega : (i : Int) < (l.length : Int)), at_getD hi, wsuc (by omega)]
    simp only [cond_true, Option.bind_some, beqi]
    rw [decide_eq_false hp]
    rfl
  · have hp : s = l.getD i 0 := by simpa using hp
    show slices_Index_int64.l0 (j + 1) l s (l.length : Int) (i : Int) = _
    conv => lhs; unfold slices_Index_int64.l0
    rw [decide_eq_true (by omega : (i : Int) < (l.length : Int)), at_getD hi]
    simp only [cond_true, Option.bind_some, beqi]
    rw [decide_eq_true hp]
    rfl
  · show slices_Index_int64.l0 (j + 1) l s (l.length : Int) (l.length : Int) = _
    conv => lhs; unfold slices_Index_int64.l0
    rw [decide_eq_false (by omega : ¬ ((l.length : Int) < (l.length : Int)))]
    rfl
theorem iNext (F : G24) (k : Nat) (hk : 20 ≤ k) : impl_FleetNext k F = some (nextZ F) := by
  unfold impl_FleetNext nextZ
  rw [iRight F k hk]
  simp only [Option.bind_some]
  by_cases hf : fleetB F = true
  · obtain ⟨hs, hw, _⟩ := fleetB_is hf
    obtain ⟨hn, hm, hv, _⟩ := shapeB_is hs
    have hc := List.count_le_length (a := (0 : Int)) (l := F.2.2.2)
    have hh0 : decide (F.2.2.1 < ((F.2.2.2.count 3 : Nat) : Int)) = haltB F := by unfold haltB; rw [hf, Bool.true_and]
    rw [if_pos hf, hf, iHalt0 F hn.2 k hk, hh0]
    simp only [Bool.not_true, cond_false, Option.bind_some]
    by_cases hh : haltB F = true
    · rw [if_pos hh, hh]; rfl
    · rw [if_neg hh, Bool.eq_false_iff.2 hh, contains_eq F.2.2.2 1 hn.2 k hk]
      simp only [cond_false, Option.bind_some]
      by_cases h1 : 0 < F.2.2.2.count 1
      · rw [if_pos h1, decide_eq_true h1]; rfl
      · rw [if_neg h1, decide_eq_false h1, iLeft F hn.2 k hk, iShareZ hs hw]
        simp only [cond_false, Option.bind_some]
        by_cases h2 : leftZ F < shareZ F
        · rw [if_pos h2, decide_eq_true h2]; rfl
        · rw [if_neg h2, decide_eq_false h2]
          unfold impl_size_int64
          simp only [cond_false, Option.bind_some]
          rw [w64 (n := (F.1.length : Int) - 1) (by omega) (by omega), beqi]
          by_cases h3 : F.2.1 = (F.1.length : Int) - 1
          · rw [if_pos h3, decide_eq_true h3]; rfl
          · rw [if_neg h3, decide_eq_false h3, iClone F (by omega) (by omega)]
            simp only [cond_false, Option.bind_some]
            rw [w64 (by omega) (by omega)]
  · rw [if_neg hf, Bool.eq_false_iff.2 hf]
    rfl
def newZ (n : Int) (w : List Int) (most : Int) : FlOut := if 400 < w.length then ill21 2 else if 1 ≤ n ∧ n ≤ 12 then if fleetB (w, (0, (most, List.replicate n.toNat 0))) = true then (w, 0, most, List.replicate n.toNat 0, [], 0) else ill21 1 else ill21 1
theorem sNew (n : Int) (w : List Int) (most : Int) (k : Nat) (hk : 20 ≤ k) : spec_FleetNew k n w most = some (newZ n w most) := by
  unfold spec_FleetNew newZ
  by_cases h1 : 400 < w.length
  · rw [if_pos h1, decide_eq_true (by omega : 400 < (w.length : Int))]; rfl
  · rw [if_neg h1, decide_eq_false (by omega : ¬ (400 < (w.length : Int)))]
    unfold spec_l03Is
    simp only [cond_false, Option.bind_some]
    by_cases h2 : 1 ≤ n ∧ n ≤ 12
    · obtain ⟨m, rfl⟩ : ∃ m : Nat, n = (m : Int) := ⟨n.toNat, by omega⟩
      rw [if_pos h2, decide_eq_true h2.1, decide_eq_true h2.2, app_ok (by simp; omega), make_some (by omega)]
      simp only [Bool.and_true, Bool.not_true, cond_false, Option.bind_some, List.nil_append, Int.toNat_natCast]
      rw [sRight _ k hk]
      simp only [Option.bind_some]
      by_cases hf : fleetB (w, (0, (most, List.replicate m 0))) = true
      · rw [if_pos hf, hf]; rfl
      · rw [if_neg hf, Bool.eq_false_iff.2 hf]; rfl
    · have : (decide (1 ≤ n) && decide (n ≤ 12)) = false := by
        rw [Bool.eq_false_iff, Ne, Bool.and_eq_true, decide_eq_true_eq, decide_eq_true_eq]; exact h2
      rw [if_neg h2, this]; rfl
theorem iNew (n : Int) (w : List Int) (most : Int) (k : Nat) (hk : 20 ≤ k) : impl_FleetNew k n w most = some (newZ n w most) := by
  unfold impl_FleetNew newZ
  by_cases h1 : 400 < w.length
  · rw [if_pos h1, decide_eq_true (by omega : 400 < (w.length : Int))]; rfl
  · rw [if_neg h1, decide_eq_false (by omega : ¬ (400 < (w.length : Int)))]
    unfold impl_within
    simp only [cond_false, Option.bind_some]
    by_cases h2 : 1 ≤ n ∧ n ≤ 12
    · obtain ⟨m, rfl⟩ : ∃ m : Nat, n = (m : Int) := ⟨n.toNat, by omega⟩
      rw [if_pos h2, decide_eq_true h2.1, decide_eq_true h2.2, clone_some w (by omega), make_some (by omega)]
      simp only [Bool.and_true, Bool.not_true, cond_false, Option.bind_some, Int.toNat_natCast]
      rw [iRight _ k hk]
      simp only [Option.bind_some]
      by_cases hf : fleetB (w, (0, (most, List.replicate m 0))) = true
      · rw [if_pos hf, hf]; rfl
      · rw [if_neg hf, Bool.eq_false_iff.2 hf]; rfl
    · have : (decide (1 ≤ n) && decide (n ≤ 12)) = false := by
        rw [Bool.eq_false_iff, Ne, Bool.and_eq_true, decide_eq_true_eq, decide_eq_true_eq]; exact h2
      rw [if_neg h2, this]; rfl
/-! ### asking -/
/-- Who is asked, with so much room, from place i on. -/
def askGo : Int → Nat → List Int → List Int × List Int
  | _, _, [] => ([], [])
  | r, i, s :: l => if s = 0 ∧ 0 < r then (1 :: (askGo (r - 1) (i + 1) l).1, (i : Int) :: (askGo (r - 1) (i + 1) l).2) else (s :: (askGo r (i + 1) l).1, (askGo r (i + 1) l).2)
theorem askGo_none : ∀ (l : List Int) (r : Int) (i : Nat), r ≤ 0 → askGo r i l = (l, [])
  | [], _, _, _ => rfl
  | s :: l, r, i, h => by
    unfold askGo
    rw [if_neg (fun q => by omega), askGo_none l r (i + 1) h]
theorem askGo_len : ∀ (l : List Int) (r : Int) (i : Nat), (askGo r i l).1.length = l.length ∧ (askGo r i l).2.length ≤ l.length
  | [], _, _ => ⟨rfl, Nat.le_refl _⟩
  | s :: l, r, i => by
    unfold askGo
    split
    · have := askGo_len l (r - 1) (i + 1)
      simp only [List.length_cons]
      omega
    · have := askGo_len l r (i + 1)
      simp only [List.length_cons]
      omega
theorem askGo_count0 : ∀ (l : List Int) (r : Int) (i : Nat), (askGo r i l).1.count 0 + (askGo r i l).2.length = l.count 0
  | [], _, _ => rfl
  | s :: l, r, i => by
    unfold askGo
    split
    · rename_i h
      have := askGo_count0 l (r - 1) (i + 1)
      rw [h.1]
      simp only [List.count_cons, List.length_cons]
      simp
      omega
    · have := askGo_count0 l r (i + 1)
      simp only [List.count_cons]
      omega
theorem askGo_count3 : ∀ (l : List Int) (r : Int) (i : Nat), (askGo r i l).1.count 3 = l.count 3
  | [], _, _ => rfl
  | s :: l, r, i => by
    unfold askGo
    split
    · rename_i h
      have := askGo_count3 l (r - 1) (i + 1)
      rw [h.1]
      simp only [List.count_cons]
      simp
      omega
    · have := askGo_count3 l r (i + 1)
      simp only [List.count_cons]
      omega
theorem askGo_ids : ∀ (l : List Int) (r : Int) (i : Nat), 0 ≤ r → r ≤ (l.count 0 : Nat) → ((askGo r i l).2.length : Int) = r
  | [], r, _, h, h2 => by simp at h2; simp [askGo]; omega
  | s :: l, r, i, h, h2 => by
    unfold askGo
    split
    · rename_i hs
      rw [hs.1] at h2
      have := askGo_ids l (r - 1) (i + 1) (by omega) (by simp at h2; omega)
      simp only [List.length_cons]
      omega
    · rename_i hs
      by_cases h0 : r = 0
      · rw [askGo_none l r (i + 1) (by omega)]
        simp; omega
      · have hs : s ≠ 0 := fun e => hs ⟨e, by omega⟩
        exact askGo_ids l r (i + 1) h (by simpa [List.count_cons, hs] using h2)
theorem askGo_mem : ∀ (l : List Int) (r : Int) (i : Nat) (x : Int), x ∈ (askGo r i l).2 → ∃ m : Nat, x = ((i + m : Nat) : Int) ∧ m < l.length ∧ l.getD m 0 = 0 ∧ (askGo r i l).1.getD m 0 = 1
  | [], _, _, _, h => by cases h
  | s :: l, r, i, x, h => by
    unfold askGo at h ⊢
    split at h
    · rename_i hs
      rw [if_pos hs]
      rcases List.mem_cons.1 h with rfl | h
      · exact ⟨0, rfl, by simp, hs.1, rfl⟩
      · obtain ⟨m, e1, e2, e3, e4⟩ := askGo_mem l (r - 1) (i + 1) x h
        exact ⟨m + 1, by rw [e1]; congr 1; omega, by simp; omega, e3, e4⟩
    · rename_i hs
      rw [if_neg hs]
      obtain ⟨m, e1, e2, e3, e4⟩ := askGo_mem l r (i + 1) x h
      exact ⟨m + 1, by rw [e1]; congr 1; omega, by simp; omega, e3, e4⟩
theorem askGo_states : ∀ (l : List Int) (r : Int) (i : Nat), (∀ x ∈ l, 0 ≤ x ∧ x ≤ 3) → ∀ x ∈ (askGo r i l).1, 0 ≤ x ∧ x ≤ 3
  | [], _, _, _, x, h => by cases h
  | s :: l, r, i, hl, x, h => by
    unfold askGo at h
    split at h
    · rcases List.mem_cons.1 h with rfl | h
      · omega
      · exact askGo_states l (r - 1) (i + 1) (fun y hy => hl y (List.mem_cons_of_mem _ hy)) x h
    · rcases List.mem_cons.1 h with rfl | h
      · exact hl _ List.mem_cons_self
      · exact askGo_states l r (i + 1) (fun y hy => hl y (List.mem_cons_of_mem _ hy)) x h
theorem set_mid {α : Type} (a b : List α) (x y : α) : (a ++ x :: b).set a.length y = a ++ y :: b := by
  rw [List.set_append_right _ _ (Nat.le_refl _), Nat.sub_self, List.set_cons_zero]
theorem at_mid {α : Type} (a b : List α) (x : α) : at? (a ++ x :: b) (a.length : Int) = some x := by
  rw [at_nat (by simp)]
  simp
theorem sAskL (F : G24) (hn : F.2.2.2.length ≤ 12) (w : List Int) (v m c : Int) : ∀ (rest : List Int) (done pre : List Int) (r : Int) (ids : List Int) (j : Nat), F.2.2.2 = pre ++ rest → done.length = pre.length → ids.length ≤ pre.length → r ≤ 100 → rest.length < j →
    spec_FleetAsk.l0 j F.1 F.2.1 F.2.2.1 F.2.2.2 r (pre.length : Int) v m c w (done ++ rest) ids = some (v, m, c, w, done ++ (askGo r pre.length rest).1, ids ++ (askGo r pre.length rest).2)
  | rest, done, pre, r, ids, 0, _, _, _, _, h => absurd h (Nat.not_lt_zero _)
  | [], done, pre, r, ids, j + 1, he, hd, hi, hr, hj => by
    rw [List.append_nil] at he
    unfold spec_FleetAsk.l0
    rw [he, decide_eq_false (by omega : ¬ ((pre.length : Int) < (pre.length : Int)))]
    simp [askGo]
  | s :: rest, done, pre, r, ids, j + 1, he, hd, hi, hr, hj => by
    have hlen : pre.length + (rest.length + 1) ≤ 12 := by rw [he] at hn; simpa using hn
    unfold spec_FleetAsk.l0
    by_cases h0 : 0 < r
    · have hl : (pre.length : Int) < (F.2.2.2.length : Int) := by rw [he]; simp; omega
      have ha : at? F.2.2.2 (pre.length : Int) = some s := by rw [he]; exact at_mid pre rest s
      have hb : at? (done ++ s :: rest) (pre.length : Int) = some s := by rw [← hd]; exact at_mid done rest s
      rw [decide_eq_true hl, decide_eq_true h0, ha, wsuc (by omega)]
      simp only [Bool.and_true, cond_true, Option.bind_some, beqi]
      have hp : ((pre.length + 1 : Nat) : Int) = ((pre ++ [s]).length : Int) := by rw [List.length_append]; rfl
      have hp2 : pre.length + 1 = (pre ++ [s]).length := by rw [List.length_append]; rfl
      by_cases hs : s = 0
      · rw [decide_eq_true hs, hb]
        simp only [cond_true, Option.bind_some, Int.toNat_natCast]
        rw [app_ok (by simp; omega), ← hd, set_mid]
        simp only [Option.bind_some]
        rw [w64 (by omega) (by omega), hd, hp, show done ++ 1 :: rest = (done ++ [1]) ++ rest by simp]
        rw [sAskL F hn w v m c rest (done ++ [1]) (pre ++ [s]) (r - 1) (ids ++ [(pre.length : Int)]) j (by rw [he]; simp) (by simp; omega) (by simp; omega) (by omega) (by simp at hj; omega)]
        simp only [askGo, ← hp2]
        rw [if_pos ⟨hs, h0⟩]
        simp
      · rw [decide_eq_false hs]
        simp only [cond_false]
        rw [hp, show done ++ s :: rest = (done ++ [s]) ++ rest by simp]
        rw [sAskL F hn w v m c rest (done ++ [s]) (pre ++ [s]) r ids j (by rw [he]; simp) (by simp; omega) (by simp; omega) hr (by simp at hj; omega)]
        simp only [askGo, ← hp2]
        rw [if_neg (fun q => hs q.1)]
        simp
    · rw [decide_eq_false h0, Bool.and_false, askGo_none _ _ _ (by omega)]
      simp
theorem iAskL (st : List Int) (hn : st.length ≤ 12) (w : List Int) (room v m c : Int) (hroom : -100 ≤ room ∧ room ≤ 100) : ∀ (rest : List Int) (done pre : List Int) (ids : List Int) (j : Nat), st = pre ++ rest → done.length = pre.length → ids.length ≤ pre.length → rest.length < j →
    impl_FleetAsk.l0 j room st (st.length : Int) (pre.length : Int) v m c w (done ++ rest) ids = some (v, m, c, w, done ++ (askGo (room - ids.length) pre.length rest).1, ids ++ (askGo (room - ids.length) pre.length rest).2)
  | rest, done, pre, ids, 0, _, _, _, h => absurd h (Nat.not_lt_zero _)
  | [], done, pre, ids, j + 1, he, hd, hi, hj => by
    rw [List.append_nil] at he
    unfold impl_FleetAsk.l0
    rw [he, decide_eq_false (by omega : ¬ ((pre.length : Int) < (pre.length : Int)))]
    simp [askGo]
  | s :: rest, done, pre, ids, j + 1, he, hd, hi, hj => by
    have hlen : pre.length + (rest.length + 1) ≤ 12 := by rw [he] at hn; simpa using hn
    have hl : (pre.length : Int) < (st.length : Int) := by rw [he]; simp; omega
    have ha : at? st (pre.length : Int) = some s := by rw [he]; exact at_mid pre rest s
    have hb : at? (done ++ s :: rest) (pre.length : Int) = some s := by rw [← hd]; exact at_mid done rest s
    have hp : ((pre.length + 1 : Nat) : Int) = ((pre ++ [s]).length : Int) := by rw [List.length_append]; rfl
    have hp2 : pre.length + 1 = (pre ++ [s]).length := by rw [List.length_append]; rfl
    have keep : ¬ (s = 0 ∧ 0 < room - (ids.length : Int)) → impl_FleetAsk.l0 j room st (st.length : Int) ((pre.length + 1 : Nat) : Int) v m c w (done ++ s :: rest) ids = some (v, m, c, w, done ++ (askGo (room - ids.length) pre.length (s :: rest)).1, ids ++ (askGo (room - ids.length) pre.length (s :: rest)).2) := fun hq => by
      rw [hp, show done ++ s :: rest = (done ++ [s]) ++ rest by simp]
      rw [iAskL st hn w room v m c hroom rest (done ++ [s]) (pre ++ [s]) ids j (by rw [he]; simp) (by simp; omega) (by simp; omega) (by simp at hj; omega)]
      simp only [askGo, ← hp2]
      rw [if_neg hq]
      simp
    unfold impl_FleetAsk.l0
    rw [decide_eq_true hl, ha, wsuc (by omega)]
    simp only [cond_true, Option.bind_some, beqi]
    by_cases hs : s = 0
    · rw [decide_eq_true hs]
      unfold impl_size_int64
      simp only [cond_true, Option.bind_some]
      by_cases hr : (ids.length : Int) < room
      · rw [decide_eq_true hr, hb]
        simp only [cond_true, Option.bind_some, Int.toNat_natCast]
        rw [app_ok (by simp; omega), ← hd, set_mid]
        simp only [Option.bind_some]
        rw [hd, hp, show done ++ 1 :: rest = (done ++ [1]) ++ rest by simp]
        rw [iAskL st hn w room v m c hroom rest (done ++ [1]) (pre ++ [s]) (ids ++ [(pre.length : Int)]) j (by rw [he]; simp) (by simp; omega) (by simp; omega) (by simp at hj; omega)]
        have e : room - ((ids ++ [(pre.length : Int)]).length : Int) = room - (ids.length : Int) - 1 := by rw [List.length_append]; simp; omega
        rw [e]
        simp only [askGo, ← hp2]
        rw [if_pos ⟨hs, by omega⟩]
        simp
      · rw [decide_eq_false hr]
        exact keep (fun q => by omega)
    · rw [decide_eq_false hs]
      exact keep (fun q => hs q.1)
def askZ (F : G24) : FlOut := if fleetB F = true then if haltB F = true then ill21 10 else (F.1, F.2.1, F.2.2.1, (askGo (shareZ F - leftZ F) 0 F.2.2.2).1, (askGo (shareZ F - leftZ F) 0 F.2.2.2).2, 0) else ill21 1
theorem sAsk (F : G24) (k : Nat) (hk : 20 ≤ k) : spec_FleetAsk k F = some (askZ F) := by
  unfold spec_FleetAsk askZ
  rw [sRight F k hk]
  simp only [Option.bind_some]
  by_cases hf : fleetB F = true
  · obtain ⟨hs, hw, _, _, hls⟩ := fleetB_is hf
    obtain ⟨hn, hm, hv, _⟩ := shapeB_is hs
    have hsh := share_le hs hw
    have hc := List.count_le_length (a := (0 : Int)) (l := F.2.2.2)
    rw [if_pos hf, hf, sHalt F k hk]
    simp only [Bool.not_true, cond_false, Option.bind_some]
    by_cases hh : haltB F = true
    · rw [if_pos hh, hh]; rfl
    · rw [if_neg hh, Bool.eq_false_iff.2 hh, sCopy F (by omega) (by omega), sShareZ hs hw, sMany F 0 hn.2 k hk]
      simp only [cond_false, Option.bind_some]
      rw [w64 (n := shareZ F - (F.2.2.2.length : Int)) (by omega) (by omega), w64 (by omega) (by omega)]
      have e : shareZ F - (F.2.2.2.length : Int) + ((F.2.2.2.count 0 : Nat) : Int) = shareZ F - leftZ F := by unfold leftZ; omega
      have h := sAskL F hn.2 F.1 F.2.1 F.2.2.1 0 F.2.2.2 [] [] (shareZ F - leftZ F) [] k rfl rfl (Nat.le_refl _) (by unfold leftZ; omega) (by omega)
      have h : spec_FleetAsk.l0 k F.1 F.2.1 F.2.2.1 F.2.2.2 (shareZ F - leftZ F) 0 F.2.1 F.2.2.1 0 F.1 F.2.2.2 [] = _ := h
      rw [e, h]
      rfl
  · rw [if_neg hf, Bool.eq_false_iff.2 hf]
    rfl
theorem iAsk (F : G24) (k : Nat) (hk : 20 ≤ k) : impl_FleetAsk k F = some (askZ F) := by
  unfold impl_FleetAsk askZ
  rw [iRight F k hk]
  simp only [Option.bind_some]
  by_cases hf : fleetB F = true
  · obtain ⟨hs, hw, _, _, hls⟩ := fleetB_is hf
    obtain ⟨hn, hm, hv, _⟩ := shapeB_is hs
    have hsh := share_le hs hw
    have hc := List.count_le_length (a := (0 : Int)) (l := F.2.2.2)
    have hlz : leftZ F = (F.2.2.2.length : Int) - ((F.2.2.2.count 0 : Nat) : Int) := rfl
    have hh0 : decide (F.2.2.1 < ((F.2.2.2.count 3 : Nat) : Int)) = haltB F := by unfold haltB; rw [hf, Bool.true_and]
    rw [if_pos hf, hf, iHalt0 F hn.2 k hk, hh0]
    simp only [Bool.not_true, cond_false, Option.bind_some]
    by_cases hh : haltB F = true
    · rw [if_pos hh, hh]; rfl
    · rw [if_neg hh, Bool.eq_false_iff.2 hh, iClone F (by omega) (by omega), iShareZ hs hw, iLeft F hn.2 k hk]
      simp only [cond_false, Option.bind_some]
      rw [w64 (by omega) (by omega)]
      have h := iAskL F.2.2.2 hn.2 F.1 (shareZ F - leftZ F) F.2.1 F.2.2.1 0 (by omega) F.2.2.2 [] [] [] k rfl rfl (Nat.le_refl _) (by omega)
      have h : impl_FleetAsk.l0 k (shareZ F - leftZ F) F.2.2.2 (F.2.2.2.length : Int) 0 F.2.1 F.2.2.1 0 F.1 F.2.2.2 [] = some (F.2.1, F.2.2.1, 0, F.1, (askGo (shareZ F - leftZ F - 0) 0 F.2.2.2).1, (askGo (shareZ F - leftZ F - 0) 0 F.2.2.2).2) := h
      rw [Int.sub_zero] at h
      rw [h]
      rfl
  · rw [if_neg hf, Bool.eq_false_iff.2 hf]
    rfl
end Go.Proofs.YthoibokhmkjkdaaE

namespace Go.Proofs.YthoibokhmkjkdaaE
open Go
set_option linter.unusedVariables false
abbrev SrcT := List Int × Int × Int × Int
/-- A source of draws. -/
def Src (s : SrcT) : Prop := 0 ≤ s.2.1 ∧ s.1.length ≤ 140737488351232
theorem n_ok (s : SrcT) (hs : Src s) (m : Int) (hm : m < 9223372036854775807) : ∃ p : Int × SrcT, spec_l01Src_n s m = some p ∧ Src p.2 ∧ 0 ≤ p.1 ∧ (m ≤ 1 → p.1 = 0) ∧ (1 < m → p.1 < m) := by
  unfold spec_l01Src_n
  by_cases h : m ≤ 1
  · rw [decide_eq_true h]
    exact ⟨(0, s), rfl, hs, Int.le_refl _, fun _ => rfl, fun q => by omega⟩
  · have hj : ∃ q : Int × SrcT, spec_l01Src_n.j0 0 s.1 s.2.1 s.2.2.1 s.2.2.2 = some q ∧ Src q.2 := by
      obtain ⟨h0, h1⟩ := hs
      unfold spec_l01Src_n.j0
      by_cases ha : s.2.1 < (s.1.length : Int)
      · obtain ⟨c, ec, _⟩ := at_in h0 ha
        rw [decide_eq_true ha, ec, w64 (by omega) (by omega)]
        exact ⟨(IntKind.wrap .u64 c, s.1, s.2.1 + 1, s.2.2.1, s.2.2.2), rfl, by show 0 ≤ s.2.1 + 1; omega, h1⟩
      · rw [decide_eq_false ha]
        exact ⟨(0, s), rfl, h0, h1⟩
    obtain ⟨q, hq, hq2⟩ := hj
    rw [decide_eq_false h, hq]
    simp only [cond_false, Option.bind_some]
    rw [nneg_some (by omega), nneg_some (by omega), nneg_some (by omega), nneg_some (by omega), wuid (n := m) (by omega) (by omega), nz_some (by omega)]
    simp only [Option.bind_some]
    generalize intBits .xor .u64 (intBits .xor .u64 (intBits .xor .u64 q.2.2.2.1 (shl .u64 q.2.2.2.1 13)) (shr .u64 (intBits .xor .u64 q.2.2.2.1 (shl .u64 q.2.2.2.1 13)) 7)) (shl .u64 (intBits .xor .u64 (intBits .xor .u64 q.2.2.2.1 (shl .u64 q.2.2.2.1 13)) (shr .u64 (intBits .xor .u64 q.2.2.2.1 (shl .u64 q.2.2.2.1 13)) 7)) 17) = e
    generalize hx : IntKind.wrap .u64 (q.1 + shr .u64 e 20) = x
    have hx0 : 0 ≤ x := by rw [← hx, u64w]; omega
    have h1 : Int.tmod x m = x % m := Int.tmod_eq_emod_of_nonneg hx0
    have h2 := Int.emod_nonneg x (by omega : m ≠ 0)
    have h3 := Int.emod_lt_of_pos x (by omega : 0 < m)
    refine ⟨(x % m, q.2.1, q.2.2.1, e, q.2.2.2.2), ?_, hq2, h2, fun q => absurd q h, fun _ => h3⟩
    rw [h1, w64 (by omega) (by omega)]
theorem one_ok (s : SrcT) (hs : Src s) (m : Int) (hm : m < 9223372036854775807) : ∃ p : Bool × SrcT, spec_l01Src_one s m = some p ∧ Src p.2 := by
  obtain ⟨p, h1, h2, _⟩ := n_ok s hs m hm
  unfold spec_l01Src_one
  rw [h1]
  exact ⟨(p.1 == 0, p.2), rfl, h2⟩
theorem edge_ok (s : SrcT) (hs : Src s) : ∃ p : Int × SrcT, spec_l01Src_edge s = some p ∧ Src p.2 ∧ Num p.1 := by
  obtain ⟨p, h1, h2, h3, _, h4⟩ := n_ok s hs 14 (by omega)
  have h4 := h4 (by omega)
  unfold spec_l01Src_edge
  rw [h1]
  simp only [Option.bind_some]
  obtain ⟨x, ex, hx⟩ := at_in (l := [0, 1, (-1), 2, 1000, 1001, 2147483648, 2147483647, (-2147483648), 4611686018427387904, 9223372036854775807, (-9223372036854775808), 1000000, (1000001 : Int)]) h3 h4
  rw [ex]
  refine ⟨(x, p.2), rfl, h2, ?_⟩
  have key : ∀ x ∈ [0, 1, (-1), 2, 1000, 1001, 2147483648, 2147483647, (-2147483648), 4611686018427387904, 9223372036854775807, (-9223372036854775808), 1000000, (1000001 : Int)], -9223372036854775808 ≤ x ∧ x < 9223372036854775808 := by decide
  exact key x hx
theorem source_uni (code : List Int) (hc : code.length ≤ 1048576) : ∃ s : SrcT, Src s ∧ ∀ k, 65 ≤ k → spec_l01Source k code = some s := by
  have hl : ∃ r : SrcT, Src r ∧ ∀ k, 64 < k → spec_l01Source.l0 k code 0 code 0 88172645463325252 0 = some r := by
    refine loop_uni (fun j (s : Int × Int) => spec_l01Source.l0 j code s.1 code 0 s.2 0) (fun s => (64 - s.1).toNat) (fun s => 0 ≤ s.1 ∧ s.1 ≤ 64) Src (fun s ⟨h0, h1⟩ => ?_) 64 (0, 88172645463325252) ⟨by simp, by simp⟩ (by simp)
    obtain ⟨i, mix⟩ := s
    have h0 : 0 ≤ i := h0
    have h1 : i ≤ 64 := h1
    by_cases hi : i < (code.length : Int) ∧ i < 64
    · right
      obtain ⟨c, ec, _⟩ := at_in h0 hi.1
      refine ⟨(i + 1, IntKind.wrap .u64 ((intBits .xor .u64 mix (IntKind.wrap .u64 c)) * 1099511628211)), ⟨by show 0 ≤ i + 1; omega, by show i + 1 ≤ 64; omega⟩, by show (64 - (i + 1)).toNat < (64 - i).toNat; omega, fun j => ?_⟩
      show spec_l01Source.l0 (j + 1) code i code 0 mix 0 = _
      conv => lhs; unfold spec_l01Source.l0
      rw [decide_eq_true hi.1, decide_eq_true hi.2, ec, w64 (n := i + 1) (by omega) (by omega)]
      rfl
    · left
      refine ⟨(code, 0, mix, 0), fun j => ?_, by show (0 : Int) ≤ 0; omega, by show code.length ≤ _; omega⟩
      show spec_l01Source.l0 (j + 1) code i code 0 mix 0 = _
      conv => lhs; unfold spec_l01Source.l0
      rw [show (decide (i < (code.length : Int)) && decide (i < 64)) = false by rw [Bool.eq_false_iff, Ne, Bool.and_eq_true, decide_eq_true_eq, decide_eq_true_eq]; exact hi]
      rfl
  obtain ⟨r, hr, er⟩ := hl
  cases hc : decide (12 < IntKind.wrap .i64 (Int.tdiv (code.length : Int) 20)) with
  | false =>
    refine ⟨(r.1, r.2.1, r.2.2.1, IntKind.wrap .i64 (Int.tdiv (code.length : Int) 20)), hr, fun k hk => ?_⟩
    unfold spec_l01Source
    rw [er k (by omega), nz_some (by omega)]
    simp only [Option.bind_some]
    rw [hc]
    rfl
  | true =>
    refine ⟨(r.1, r.2.1, r.2.2.1, 12), hr, fun k hk => ?_⟩
    unfold spec_l01Source
    rw [er k (by omega), nz_some (by omega)]
    simp only [Option.bind_some]
    rw [hc]
    rfl
theorem source_ok (code : List Int) (hc : code.length ≤ 1048576) (k : Nat) (hk : 65 ≤ k) : ∃ s : SrcT, spec_l01Source k code = some s ∧ Src s := by
  obtain ⟨s, h, e⟩ := source_uni code hc
  exact ⟨s, e k hk, h⟩
end Go.Proofs.YthoibokhmkjkdaaE

namespace Go.Proofs.YthoibokhmkjkdaaE
open Go
set_option linter.unusedVariables false
/-- The fleet of an answer. -/
def flOf (o : FlOut) : G24 := (o.1, (o.2.1, (o.2.2.1, o.2.2.2.1)))
theorem sOk_iff (l : List Int) : sOk l = true ↔ ∀ x ∈ l, 0 ≤ x ∧ x ≤ 3 := by
  unfold sOk
  rw [List.all_eq_true]
  constructor
  · intro h x hx
    obtain ⟨i, hi, rfl⟩ := List.getElem_of_mem hx
    have := h i (List.mem_range.2 hi)
    unfold sAt at this
    rw [List.getD_eq_getElem?_getD, List.getElem?_eq_getElem hi, Option.getD_some] at this
    simpa using this
  · intro h i hi
    have hi := List.mem_range.1 hi
    have := h l[i] (List.getElem_mem hi)
    unfold sAt
    rw [List.getD_eq_getElem?_getD, List.getElem?_eq_getElem hi, Option.getD_some]
    simpa using this
theorem fleetB_mk {F : G24} (h1 : shapeB F = true) (h2 : wOk F.1 = true) (h3 : sOk F.2.2.2 = true) (h4 : F.1.getD (F.1.length - 1) 0 = 100) (h5 : leftZ F ≤ shareZ F) : fleetB F = true := by
  unfold fleetB
  simp only [Bool.and_eq_true, decide_eq_true_eq]
  exact ⟨h1, h2, h3, h4, h5⟩
theorem shapeB_mk {F : G24} (h : (1 ≤ F.2.2.2.length ∧ F.2.2.2.length ≤ 12) ∧ (1 ≤ F.1.length ∧ F.1.length ≤ 10) ∧ (0 ≤ F.2.1 ∧ F.2.1 ≤ (F.1.length : Int) - 1) ∧ (0 ≤ F.2.2.1 ∧ F.2.2.1 ≤ 12)) : shapeB F = true := by
  unfold shapeB
  simpa only [Bool.and_eq_true, decide_eq_true_eq] using h
theorem tell_right (F : G24) (id : Int) (g : Bool) (h0 : (tellZ F id g).2.2.2.2.2 = 0) : fleetB (flOf (tellZ F id g)) = true := by
  unfold tellZ at h0 ⊢
  split at h0
  · rename_i hf
    obtain ⟨hs, hw, hst, h100, hle⟩ := fleetB_is hf
    have sh := shapeB_is hs
    rw [if_pos hf]
    split at h0
    · rename_i hid
      rw [if_pos hid]
      split at h0
      · rename_i h1
        rw [if_pos h1]
        have hi : id.toNat < F.2.2.2.length := by omega
        have hg : F.2.2.2[id.toNat] = 1 := by
          rw [List.getD_eq_getElem?_getD, List.getElem?_eq_getElem hi] at h1
          exact h1
        have hx : (bif g then (2 : Int) else 3) = 2 ∨ (bif g then (2 : Int) else 3) = 3 := by cases g <;> simp
        generalize (bif g then (2 : Int) else 3) = x at hx
        have hc : (F.2.2.2.set id.toNat x).count 0 = F.2.2.2.count 0 := by
          rw [List.count_set hi, hg]
          rcases hx with rfl | rfl <;> simp
        refine fleetB_mk (shapeB_mk ?_) hw ?_ h100 ?_
        · show (1 ≤ (F.2.2.2.set id.toNat x).length ∧ (F.2.2.2.set id.toNat x).length ≤ 12) ∧ (1 ≤ F.1.length ∧ F.1.length ≤ 10) ∧ (0 ≤ F.2.1 ∧ F.2.1 ≤ (F.1.length : Int) - 1) ∧ (0 ≤ F.2.2.1 ∧ F.2.2.1 ≤ 12)
          rw [List.length_set]
          exact sh
        · show sOk (F.2.2.2.set id.toNat x) = true
          rw [sOk_iff] at hst ⊢
          intro y hy
          rcases List.mem_or_eq_of_mem_set hy with hy | rfl
          · exact hst y hy
          · omega
        · show ((F.2.2.2.set id.toNat x).length : Int) - (((F.2.2.2.set id.toNat x).count 0 : Nat) : Int) ≤ (((F.2.2.2.set id.toNat x).length : Int) * F.1.getD F.2.1.toNat 0 + 99) / 100
          rw [List.length_set, hc]
          exact hle
      · cases h0
    · cases h0
  · cases h0
theorem next_right (F : G24) (h0 : (nextZ F).2.2.2.2.2 = 0) : fleetB (flOf (nextZ F)) = true ∧ sharesZ F ≤ sharesZ (flOf (nextZ F)) := by
  unfold nextZ at h0 ⊢
  split at h0
  · rename_i hf
    obtain ⟨hs, hw, hst, h100, hle⟩ := fleetB_is hf
    have sh := shapeB_is hs
    rw [if_pos hf]
    split at h0
    · cases h0
    · rename_i hh
      rw [if_neg hh]
      split at h0
      · cases h0
      · rename_i h1
        rw [if_neg h1]
        split at h0
        · cases h0
        · rename_i h2
          rw [if_neg h2]
          split at h0
          · cases h0
          · rename_i h3
            rw [if_neg h3]
            obtain ⟨i, hi⟩ : ∃ i : Nat, F.2.1 = (i : Int) := ⟨F.2.1.toNat, by omega⟩
            have hwv := wOk_at hw (i := i + 1) (by omega)
            have hwi := wOk_at hw (i := i) (by omega)
            have hlt : F.1.getD i 0 < F.1.getD (i + 1) 0 := hwv.2 (by omega)
            have e1 : (F.2.1 + 1).toNat = i + 1 := by omega
            have e2 : F.2.1.toNat = i := by omega
            have hm : (F.2.2.2.length : Int) * F.1.getD i 0 ≤ (F.2.2.2.length : Int) * F.1.getD (i + 1) 0 := Int.mul_le_mul_of_nonneg_left (by omega) (by omega)
            have hsh : shareZ F ≤ shareZ (F.1, (F.2.1 + 1, (F.2.2.1, F.2.2.2))) := by
              unfold shareZ
              show ((F.2.2.2.length : Int) * F.1.getD F.2.1.toNat 0 + 99) / 100 ≤ ((F.2.2.2.length : Int) * F.1.getD (F.2.1 + 1).toNat 0 + 99) / 100
              rw [e1, e2]
              omega
            have hr : fleetB (F.1, (F.2.1 + 1, (F.2.2.1, F.2.2.2))) = true := by
              refine fleetB_mk (shapeB_mk ?_) hw hst h100 (Int.le_trans hle hsh)
              show (1 ≤ F.2.2.2.length ∧ F.2.2.2.length ≤ 12) ∧ (1 ≤ F.1.length ∧ F.1.length ≤ 10) ∧ (0 ≤ F.2.1 + 1 ∧ F.2.1 + 1 ≤ (F.1.length : Int) - 1) ∧ (0 ≤ F.2.2.1 ∧ F.2.2.1 ≤ 12)
              omega
            refine ⟨hr, ?_⟩
            unfold sharesZ
            rw [if_pos hf]
            show shareZ F ≤ if fleetB (F.1, (F.2.1 + 1, (F.2.2.1, F.2.2.2))) = true then _ else _
            rw [if_pos hr]
            exact hsh
  · cases h0
/-- All that asking makes of a fleet that may be asked. -/
theorem ask_facts (F : G24) (hf : fleetB F = true) (hh : haltB F = false) : ∃ st ids, askZ F = (F.1, F.2.1, F.2.2.1, st, ids, 0) ∧ fleetB (F.1, (F.2.1, (F.2.2.1, st))) = true ∧ st.length = F.2.2.2.length ∧ ids.length ≤ 12 ∧ ((st.length : Int) - ((st.count 0 : Nat) : Int) = shareZ F) ∧
    (∀ x ∈ ids, ∃ m : Nat, x = (m : Int) ∧ m < F.2.2.2.length ∧ F.2.2.2.getD m 0 = 0 ∧ st.getD m 0 = 1) ∧ (askZ (F.1, (F.2.1, (F.2.2.1, st)))).2.2.2.2.1 = [] := by
  obtain ⟨hs, hw, hst, h100, hle⟩ := fleetB_is hf
  have sh := shapeB_is hs
  have hsh := share_le hs hw
  have hc := List.count_le_length (a := (0 : Int)) (l := F.2.2.2)
  have hlz : leftZ F = (F.2.2.2.length : Int) - ((F.2.2.2.count 0 : Nat) : Int) := rfl
  have hlen := askGo_len F.2.2.2 (shareZ F - leftZ F) 0
  have hids := askGo_ids F.2.2.2 (shareZ F - leftZ F) 0 (by omega) (by omega)
  have hc0 := askGo_count0 F.2.2.2 (shareZ F - leftZ F) 0
  have hc3 := askGo_count3 F.2.2.2 (shareZ F - leftZ F) 0
  have hss := askGo_states F.2.2.2 (shareZ F - leftZ F) 0 ((sOk_iff _).1 hst)
  have hmem := askGo_mem F.2.2.2 (shareZ F - leftZ F) 0
  generalize hq : askGo (shareZ F - leftZ F) 0 F.2.2.2 = q at hlen hids hc0 hc3 hss hmem
  have hshare : shareZ (F.1, (F.2.1, (F.2.2.1, q.1))) = shareZ F := by
    unfold shareZ
    show ((q.1.length : Int) * F.1.getD F.2.1.toNat 0 + 99) / 100 = _
    rw [hlen.1]
  have hleft : leftZ (F.1, (F.2.1, (F.2.2.1, q.1))) = shareZ F := by
    unfold leftZ
    show (q.1.length : Int) - ((q.1.count 0 : Nat) : Int) = _
    omega
  have hsp : shapeB (F.1, (F.2.1, (F.2.2.1, q.1))) = true := shapeB_mk (by
    show (1 ≤ q.1.length ∧ q.1.length ≤ 12) ∧ (1 ≤ F.1.length ∧ F.1.length ≤ 10) ∧ (0 ≤ F.2.1 ∧ F.2.1 ≤ (F.1.length : Int) - 1) ∧ (0 ≤ F.2.2.1 ∧ F.2.2.1 ≤ 12)
    rw [hlen.1]
    exact sh)
  have hr : fleetB (F.1, (F.2.1, (F.2.2.1, q.1))) = true := fleetB_mk hsp hw ((sOk_iff _).2 hss) h100 (by rw [hleft, hshare]; exact Int.le_refl _)
  refine ⟨q.1, q.2, ?_, hr, hlen.1, by omega, ?_, ?_, ?_⟩
  · unfold askZ
    rw [if_pos hf, if_neg (by rw [hh]; simp), hq]
  · exact hleft
  · intro x hx
    obtain ⟨m, e1, e2, e3, e4⟩ := hmem x hx
    exact ⟨m, by rw [e1]; congr 1; omega, e2, e3, e4⟩
  · unfold askZ
    rw [if_pos hr]
    split
    · rfl
    · rw [hshare, hleft, askGo_none _ _ _ (by omega)]
theorem ask_right (F : G24) (h0 : (askZ F).2.2.2.2.2 = 0) : fleetB (flOf (askZ F)) = true := by
  by_cases hf : fleetB F = true
  · cases hh : haltB F with
    | true =>
      unfold askZ at h0
      rw [if_pos hf, if_pos hh] at h0
      cases h0
    | false =>
      obtain ⟨st, ids, e, h, _⟩ := ask_facts F hf hh
      rw [e]
      exact h
  · unfold askZ at h0
    rw [if_neg hf] at h0
    cases h0
/-! ### draws -/
theorem l21new_ok (k : Nat) (hk : 20 ≤ k) (s : SrcT) (hs : Src s) : ∃ (F : G24) (s' : SrcT), spec_l01Src_l21New k s = some (F.1, F.2.1, F.2.2.1, F.2.2.2, s') ∧ Src s' ∧ fleetB F = true := by
  obtain ⟨v2, e2, s2, l2, _, u2⟩ := n_ok s hs 4 (by omega)
  have u2 := u2 (by omega)
  obtain ⟨v6, e6, s6, l6, _, u6⟩ := n_ok v2.2 s2 9 (by omega)
  have u6 := u6 (by omega)
  obtain ⟨v7, e7, s7, l7, _, u7⟩ := n_ok v6.2 s6 3 (by omega)
  have u7 := u7 (by omega)
  obtain ⟨w, ew, hw⟩ := at_in (l := ([[100], [10, 50, 100], [1, 100], [25, 50, 75, 100]] : List (List Int))) l2 u2
  have key : (([[100], [10, 50, 100], [1, 100], [25, 50, 75, 100]] : List (List Int)).all fun w => (List.range 9).all fun n => (List.range 3).all fun m => fleetB (w, (0, ((m : Int), List.replicate (n + 1) 0))) && decide (w.length ≤ 4)) = true := by kernel_rfl
  obtain ⟨n, hn⟩ : ∃ n : Nat, v6.1 = (n : Int) := ⟨v6.1.toNat, by omega⟩
  obtain ⟨m, hm⟩ : ∃ m : Nat, v7.1 = (m : Int) := ⟨v7.1.toNat, by omega⟩
  have hf := List.all_eq_true.1 (List.all_eq_true.1 (List.all_eq_true.1 key w hw) n (List.mem_range.2 (by omega))) m (List.mem_range.2 (by omega))
  obtain ⟨hf, hlen⟩ := (Bool.and_eq_true _ _).mp hf
  have hlen := of_decide_eq_true hlen
  refine ⟨(w, (0, ((m : Int), List.replicate (n + 1) 0))), v7.2, ?_, s7, hf⟩
  unfold spec_l01Src_l21New
  rw [e2]
  simp only [Option.bind_some]
  rw [ew]
  simp only [Option.bind_some]
  rw [e6]
  simp only [Option.bind_some]
  rw [e7]
  simp only [Option.bind_some]
  rw [sNew _ _ _ k hk, w64 (by omega) (by omega), hn, hm]
  unfold newZ
  rw [if_neg (by omega), if_pos ⟨by omega, by omega⟩, show ((1 : Int) + (n : Int)).toNat = n + 1 by omega, if_pos hf]
  rfl
theorem fleetB_len {F : G24} (h : fleetB F = true) : 1 ≤ F.2.2.2.length ∧ F.2.2.2.length ≤ 12 ∧ 1 ≤ F.1.length ∧ F.1.length ≤ 10 := by
  have := shapeB_is (fleetB_is h).1
  omega
theorem l21fleet_ok (k : Nat) (hk : 20 ≤ k) (s : SrcT) (hs : Src s) : ∃ (F : G24) (s' : SrcT), spec_l01Src_l21Fleet k s = some (F.1, F.2.1, F.2.2.1, F.2.2.2, s') ∧ Src s' ∧ F.2.2.2.length ≤ 12 := by
  obtain ⟨F0, s0, e0, h0, f0⟩ := l21new_ok k hk s hs
  obtain ⟨v, e1, h1, l1, _, u1⟩ := n_ok s0 h0 16 (by omega)
  have u1 := u1 (by omega)
  have hl : ∃ y : List Int × Int × Int × Int × Int × Int × List Int × List Int, spec_l01Src_l21Fleet.l0 k k v.1 v.2.1 v.2.2.1 v.2.2.2.1 v.2.2.2.2 F0.2.1 F0.2.2.1 F0.1 F0.2.2.2 = some y ∧ (Src (y.1, (y.2.1, (y.2.2.1, y.2.2.2.1))) ∧ fleetB (y.2.2.2.2.2.2.1, (y.2.2.2.2.1, (y.2.2.2.2.2.1, y.2.2.2.2.2.2.2))) = true) := by
    refine loop_inv (fun j (s : Int × SrcT × G24) => spec_l01Src_l21Fleet.l0 k j s.1 s.2.1.1 s.2.1.2.1 s.2.1.2.2.1 s.2.1.2.2.2 s.2.2.2.1 s.2.2.2.2.1 s.2.2.1 s.2.2.2.2.2) (fun s => s.1.toNat) (fun s => 0 ≤ s.1 ∧ s.1 ≤ 15 ∧ Src s.2.1 ∧ fleetB s.2.2 = true) (fun y => Src (y.1, (y.2.1, (y.2.2.1, y.2.2.2.1))) ∧ fleetB (y.2.2.2.2.2.2.1, (y.2.2.2.2.1, (y.2.2.2.2.2.1, y.2.2.2.2.2.2.2))) = true) (fun s ⟨i0, i1, i2, i3⟩ => ?_) 15 (v.1, v.2, F0) k ⟨l1, by show v.1 ≤ 15; omega, h1, f0⟩ (by show v.1.toNat ≤ 15; omega) (by omega)
    obtain ⟨i, r, F⟩ := s
    have i0 : 0 ≤ i := i0
    have i1 : i ≤ 15 := i1
    have i2 : Src r := i2
    have i3 : fleetB F = true := i3
    by_cases hi : 0 < i
    · right
      obtain ⟨_, h12, _⟩ := fleetB_len i3
      obtain ⟨v10, e10, s10, _⟩ := n_ok r i2 (F.2.2.2.length : Int) (by omega)
      obtain ⟨v11, e11, s11⟩ := one_ok v10.2 s10 5 (by omega)
      obtain ⟨v14, e14, s14, _⟩ := n_ok v11.2 s11 4 (by omega)
      have e10 : spec_l01Src_n (r.1, (r.2.1, (r.2.2.1, r.2.2.2))) (F.2.2.2.length : Int) = some v10 := e10
      have eT : spec_FleetTell k (F.1, (F.2.1, (F.2.2.1, F.2.2.2))) v10.1 (!v11.1) = some (tellZ F v10.1 (!v11.1)) := sTell F v10.1 (!v11.1) k hk
      have eA : spec_FleetAsk k (F.1, (F.2.1, (F.2.2.1, F.2.2.2))) = some (askZ F) := sAsk F k hk
      have eN : spec_FleetNext k (F.1, (F.2.1, (F.2.2.1, F.2.2.2))) = some (nextZ F) := sNext F k hk
      have step : ∀ (o : FlOut) (hr : o.2.2.2.2.2 = 0 → fleetB (flOf o) = true), ∃ F' : G24, fleetB F' = true ∧ ∀ j, (bif o.2.2.2.2.2 == 0 then spec_l01Src_l21Fleet.l0 k j (i - 1) v14.2.1 v14.2.2.1 v14.2.2.2.1 v14.2.2.2.2 o.2.1 o.2.2.1 o.1 o.2.2.2.1 else spec_l01Src_l21Fleet.l0 k j (i - 1) v14.2.1 v14.2.2.1 v14.2.2.2.1 v14.2.2.2.2 F.2.1 F.2.2.1 F.1 F.2.2.2) = spec_l01Src_l21Fleet.l0 k j (i - 1) v14.2.1 v14.2.2.1 v14.2.2.2.1 v14.2.2.2.2 F'.2.1 F'.2.2.1 F'.1 F'.2.2.2 := fun o hr => by
        by_cases h : o.2.2.2.2.2 = 0
        · refine ⟨flOf o, hr h, fun j => ?_⟩
          rw [h]; rfl
        · refine ⟨F, i3, fun j => ?_⟩
          rw [show (o.2.2.2.2.2 == 0) = false by simpa using h]; rfl
      have fin : ∀ F' : G24, fleetB F' = true → (∀ j, spec_l01Src_l21Fleet.l0 k (j + 1) i r.1 r.2.1 r.2.2.1 r.2.2.2 F.2.1 F.2.2.1 F.1 F.2.2.2 = spec_l01Src_l21Fleet.l0 k j (i - 1) v14.2.1 v14.2.2.1 v14.2.2.2.1 v14.2.2.2.2 F'.2.1 F'.2.2.1 F'.1 F'.2.2.2) → ∃ s' : Int × SrcT × G24, (0 ≤ s'.1 ∧ s'.1 ≤ 15 ∧ Src s'.2.1 ∧ fleetB s'.2.2 = true) ∧ s'.1.toNat < i.toNat ∧ ∀ j, spec_l01Src_l21Fleet.l0 k (j + 1) i r.1 r.2.1 r.2.2.1 r.2.2.2 F.2.1 F.2.2.1 F.1 F.2.2.2 = spec_l01Src_l21Fleet.l0 k j s'.1 s'.2.1.1 s'.2.1.2.1 s'.2.1.2.2.1 s'.2.1.2.2.2 s'.2.2.2.1 s'.2.2.2.2.1 s'.2.2.1 s'.2.2.2.2.2 :=
        fun F' hF' h => ⟨(i - 1, v14.2, F'), ⟨by show 0 ≤ i - 1; omega, by show i - 1 ≤ 15; omega, s14, hF'⟩, by show (i - 1).toNat < i.toNat; omega, h⟩
      by_cases c0 : v14.1 = 0
      · obtain ⟨F', hF', hstep⟩ := step (askZ F) (ask_right F)
        refine fin F' hF' fun j => ?_
        conv => lhs; unfold spec_l01Src_l21Fleet.l0
        rw [decide_eq_true hi, w64 (n := i - 1) (by omega) (by omega), e10]
        simp only [cond_true, Option.bind_some]
        rw [e11]
        simp only [Option.bind_some]
        rw [eT]
        simp only [Option.bind_some]
        rw [e14]
        simp only [Option.bind_some]
        rw [c0, eA]
        exact hstep j
      · by_cases c1 : v14.1 = 1
        · obtain ⟨F', hF', hstep⟩ := step (nextZ F) (fun h => (next_right F h).1)
          refine fin F' hF' fun j => ?_
          conv => lhs; unfold spec_l01Src_l21Fleet.l0
          rw [decide_eq_true hi, w64 (n := i - 1) (by omega) (by omega), e10]
          simp only [cond_true, Option.bind_some]
          rw [e11]
          simp only [Option.bind_some]
          rw [eT]
          simp only [Option.bind_some]
          rw [e14]
          simp only [Option.bind_some]
          rw [c1, eN]
          exact hstep j
        · obtain ⟨F', hF', hstep⟩ := step (tellZ F v10.1 (!v11.1)) (tell_right F v10.1 (!v11.1))
          refine fin F' hF' fun j => ?_
          conv => lhs; unfold spec_l01Src_l21Fleet.l0
          rw [decide_eq_true hi, w64 (n := i - 1) (by omega) (by omega), e10]
          simp only [cond_true, Option.bind_some]
          rw [e11]
          simp only [Option.bind_some]
          rw [eT]
          simp only [Option.bind_some]
          rw [e14]
          simp only [Option.bind_some]
          rw [show (v14.1 == 0) = false by simpa using c0, show (v14.1 == 1) = false by simpa using c1]
          exact hstep j
    · left
      refine ⟨(r.1, r.2.1, r.2.2.1, r.2.2.2, F.2.1, F.2.2.1, F.1, F.2.2.2), fun j => ?_, i2, i3⟩
      show spec_l01Src_l21Fleet.l0 k (j + 1) i r.1 r.2.1 r.2.2.1 r.2.2.2 F.2.1 F.2.2.1 F.1 F.2.2.2 = _
      conv => lhs; unfold spec_l01Src_l21Fleet.l0
      rw [decide_eq_false hi]
      rfl
  obtain ⟨y, ey, sy, fy⟩ := hl
  obtain ⟨p1, p2, p3, p4⟩ := fleetB_len fy
  have p1 : 1 ≤ y.2.2.2.2.2.2.2.length := p1
  have p2 : y.2.2.2.2.2.2.2.length ≤ 12 := p2
  have p3 : 1 ≤ y.2.2.2.2.2.2.1.length := p3
  obtain ⟨b, e5, h5⟩ := one_ok _ sy 12 (by omega)
  unfold spec_l01Src_l21Fleet
  rw [e0]
  simp only [Option.bind_some]
  rw [e1]
  simp only [Option.bind_some]
  rw [ey]
  simp only [Option.bind_some]
  rw [e5]
  simp only [Option.bind_some]
  cases b.1 with
  | false => exact ⟨(y.2.2.2.2.2.2.1, (y.2.2.2.2.1, (y.2.2.2.2.2.1, y.2.2.2.2.2.2.2))), b.2, rfl, h5, p2⟩
  | true =>
    obtain ⟨c, e6, h6, _⟩ := n_ok b.2 h5 4 (by omega)
    obtain ⟨d5, f5, g5, _⟩ := n_ok c.2 h6 5 (by omega)
    obtain ⟨d3, f3, g3, l3, _, u3⟩ := n_ok c.2 h6 3 (by omega)
    have u3 := u3 (by omega)
    obtain ⟨dz, fz, gz, _⟩ := n_ok c.2 h6 102 (by omega)
    obtain ⟨a0, ea0, _⟩ := at_in (l := y.2.2.2.2.2.2.2) (i := 0) (by omega) (by omega)
    obtain ⟨b0, eb0, _⟩ := at_in (l := y.2.2.2.2.2.2.1) (i := 0) (by omega) (by omega)
    obtain ⟨x, ex, _⟩ := at_in (l := [(-1), 12, (13 : Int)]) l3 u3
    simp only [cond_true]
    rw [e6]
    simp only [Option.bind_some]
    rw [f5, f3, fz]
    simp only [Option.bind_some]
    rw [ea0, eb0, ex]
    simp only [Option.bind_some]
    cases c.1 == 0 with
    | true => exact ⟨(y.2.2.2.2.2.2.1, (IntKind.wrap .i64 (d5.1 - 1), (y.2.2.2.2.2.1, y.2.2.2.2.2.2.2))), d5.2, rfl, g5, p2⟩
    | false =>
      cases c.1 == 1 with
      | true => exact ⟨(y.2.2.2.2.2.2.1, (y.2.2.2.2.1, (y.2.2.2.2.2.1, List.set y.2.2.2.2.2.2.2 (Int.toNat 0) (IntKind.wrap .i64 (d5.1 - 1))))), d5.2, rfl, g5, by show (List.set _ _ _).length ≤ 12; rw [List.length_set]; exact p2⟩
      | false =>
        cases c.1 == 2 with
        | true => exact ⟨(y.2.2.2.2.2.2.1, (y.2.2.2.2.1, (x, y.2.2.2.2.2.2.2))), d3.2, rfl, g3, p2⟩
        | false => exact ⟨(List.set y.2.2.2.2.2.2.1 (Int.toNat 0) dz.1, (y.2.2.2.2.1, (y.2.2.2.2.2.1, y.2.2.2.2.2.2.2))), dz.2, rfl, gz, p2⟩
theorem drawAsk_ok (k : Nat) (hk : 65 ≤ k) (code : List Int) (hc : code.length ≤ 1048576) : ∃ F : G24, spec_DrawFleetAsk k code = some F ∧ F.2.2.2.length ≤ 12 := by
  obtain ⟨s, e0, h0⟩ := source_ok code hc k hk
  obtain ⟨F, s', e1, _, h⟩ := l21fleet_ok k (by omega) s h0
  unfold spec_DrawFleetAsk
  rw [e0]
  simp only [Option.bind_some]
  rw [e1]
  exact ⟨F, rfl, h⟩
theorem drawNext_ok (k : Nat) (hk : 65 ≤ k) (code : List Int) (hc : code.length ≤ 1048576) : ∃ F : G24, spec_DrawFleetNext k code = some F := by
  obtain ⟨s, e0, h0⟩ := source_ok code hc k hk
  obtain ⟨F, s', e1, _, h⟩ := l21fleet_ok k (by omega) s h0
  unfold spec_DrawFleetNext
  rw [e0]
  simp only [Option.bind_some]
  rw [e1]
  exact ⟨F, rfl⟩
theorem drawTell_ok (k : Nat) (hk : 65 ≤ k) (code : List Int) (hc : code.length ≤ 1048576) : ∃ p : List Int × Int × Int × List Int × Int × Bool, spec_DrawFleetTell k code = some p := by
  obtain ⟨s, e0, h0⟩ := source_ok code hc k hk
  obtain ⟨F, s', e1, h1, hF⟩ := l21fleet_ok k (by omega) s h0
  obtain ⟨b, e2, h2⟩ := one_ok s' h1 10 (by omega)
  have hl : ∃ X, spec_DrawFleetTell.l0 k 0 0 0 b.2.1 b.2.2.1 b.2.2.2.1 b.2.2.2.2 F.2.1 F.2.2.1 [] [] F.1 F.2.2.2 = some X ∧ (match X with
      | .inl y => Src (y.2.2.1, (y.2.2.2.1, (y.2.2.2.2.1, y.2.2.2.2.2.1))) ∧ y.2.2.2.2.2.2.2.2.2.2.2.length ≤ 12
      | .inr _ => True) := by
    refine loop_inv (fun j (s : Int × SrcT) => spec_DrawFleetTell.l0 j s.1 0 0 s.2.1 s.2.2.1 s.2.2.2.1 s.2.2.2.2 F.2.1 F.2.2.1 [] [] F.1 F.2.2.2) (fun s => ((F.2.2.2.length : Int) - s.1).toNat) (fun s => 0 ≤ s.1 ∧ s.1 ≤ (F.2.2.2.length : Int) ∧ Src s.2) (fun X => match X with
      | .inl y => Src (y.2.2.1, (y.2.2.2.1, (y.2.2.2.2.1, y.2.2.2.2.2.1))) ∧ y.2.2.2.2.2.2.2.2.2.2.2.length ≤ 12
      | .inr _ => True) (fun s ⟨i0, i1, i2⟩ => ?_) 12 (0, b.2) k ⟨by simp, by simp, h2⟩ (by show ((F.2.2.2.length : Int) - 0).toNat ≤ 12; omega) (by omega)
    obtain ⟨i, r⟩ := s
    have i0 : 0 ≤ i := i0
    have i1 : i ≤ (F.2.2.2.length : Int) := i1
    have i2 : Src r := i2
    by_cases hi : i < (F.2.2.2.length : Int)
    · obtain ⟨v14, e14, s14⟩ := one_ok r i2 2 (by omega)
      have e14 : spec_l01Src_one (r.1, (r.2.1, (r.2.2.1, r.2.2.2))) 2 = some v14 := e14
      obtain ⟨x, ex, _⟩ := at_in (l := F.2.2.2) i0 hi
      obtain ⟨v17, e17, s17⟩ := one_ok v14.2 s14 2 (by omega)
      cases hv : v14.1 with
      | false =>
        left
        refine ⟨.inl (0, 0, v14.2.1, v14.2.2.1, v14.2.2.2.1, v14.2.2.2.2, F.2.1, F.2.2.1, [], [], F.1, F.2.2.2), fun j => ?_, s14, hF⟩
        show spec_DrawFleetTell.l0 (j + 1) i 0 0 r.1 r.2.1 r.2.2.1 r.2.2.2 F.2.1 F.2.2.1 [] [] F.1 F.2.2.2 = _
        conv => lhs; unfold spec_DrawFleetTell.l0
        rw [decide_eq_true hi, e14]
        simp only [cond_true, Option.bind_some]
        rw [hv]
        rfl
      | true =>
        by_cases hx : x = 1
        · left
          refine ⟨.inr (i, v17.1, F.2.1, F.2.2.1, v17.2.1, v17.2.2.1, v17.2.2.2.1, v17.2.2.2.2, F.2.1, F.2.2.1, F.1, F.2.2.2), fun j => ?_, trivial⟩
          show spec_DrawFleetTell.l0 (j + 1) i 0 0 r.1 r.2.1 r.2.2.1 r.2.2.2 F.2.1 F.2.2.1 [] [] F.1 F.2.2.2 = _
          conv => lhs; unfold spec_DrawFleetTell.l0
          rw [decide_eq_true hi, e14]
          simp only [cond_true, Option.bind_some]
          rw [hv, ex]
          simp only [cond_true, Option.bind_some]
          rw [hx, e17]
          rfl
        · right
          refine ⟨(i + 1, v14.2), ⟨by show 0 ≤ i + 1; omega, by show i + 1 ≤ _; omega, s14⟩, by show ((F.2.2.2.length : Int) - (i + 1)).toNat < ((F.2.2.2.length : Int) - i).toNat; omega, fun j => ?_⟩
          show spec_DrawFleetTell.l0 (j + 1) i 0 0 r.1 r.2.1 r.2.2.1 r.2.2.2 F.2.1 F.2.2.1 [] [] F.1 F.2.2.2 = _
          conv => lhs; unfold spec_DrawFleetTell.l0
          rw [decide_eq_true hi, e14]
          simp only [cond_true, Option.bind_some]
          rw [hv, ex]
          simp only [cond_true, Option.bind_some]
          rw [show (x == 1) = false by simpa using hx, w64 (n := i + 1) (by omega) (by omega)]
          rfl
    · left
      refine ⟨.inl (0, 0, r.1, r.2.1, r.2.2.1, r.2.2.2, F.2.1, F.2.2.1, [], [], F.1, F.2.2.2), fun j => ?_, i2, hF⟩
      show spec_DrawFleetTell.l0 (j + 1) i 0 0 r.1 r.2.1 r.2.2.1 r.2.2.2 F.2.1 F.2.2.1 [] [] F.1 F.2.2.2 = _
      conv => lhs; unfold spec_DrawFleetTell.l0
      rw [decide_eq_false hi]
      rfl
  unfold spec_DrawFleetTell
  rw [e0]
  simp only [Option.bind_some]
  rw [e1]
  simp only [Option.bind_some]
  rw [e2]
  simp only [Option.bind_some]
  cases b.1 with
  | true =>
    obtain ⟨p, e3, _⟩ := edge_ok b.2 h2
    simp only [cond_true]
    rw [e3]
    exact ⟨_, rfl⟩
  | false =>
    obtain ⟨X, eX, hX⟩ := hl
    simp only [cond_false]
    rw [eX]
    cases X with
    | inr y => exact ⟨_, rfl⟩
    | inl y =>
      obtain ⟨sy, ly⟩ := hX
      obtain ⟨n, en, hn, _⟩ := n_ok _ sy (y.2.2.2.2.2.2.2.2.2.2.2.length : Int) (by omega)
      obtain ⟨g, eg, _⟩ := one_ok n.2 hn 2 (by omega)
      simp only [Option.bind_some]
      rw [en]
      simp only [Option.bind_some]
      rw [eg]
      exact ⟨_, rfl⟩
theorem drawNew_ok (k : Nat) (hk : 65 ≤ k) (code : List Int) (hc : code.length ≤ 1048576) : ∃ p : Int × List Int × Int, spec_DrawFleetNew k code = some p := by
  obtain ⟨s, e0, h0⟩ := source_ok code hc k hk
  obtain ⟨F, s', e1, h1, hF⟩ := l21new_ok k (by omega) s h0
  obtain ⟨b, e2, h2⟩ := one_ok s' h1 4 (by omega)
  unfold spec_DrawFleetNew
  rw [e0]
  simp only [Option.bind_some]
  rw [e1]
  simp only [Option.bind_some]
  rw [e2]
  simp only [Option.bind_some]
  cases b.1 with
  | false =>
    obtain ⟨v9, e9, s9, _⟩ := n_ok b.2 h2 15 (by omega)
    obtain ⟨v10, e10, s10, _⟩ := n_ok v9.2 s9 16 (by omega)
    simp only [cond_false]
    rw [e9]
    simp only [Option.bind_some]
    rw [e10]
    exact ⟨_, rfl⟩
  | true =>
    obtain ⟨v5, e5, s5, l5, _, u5⟩ := n_ok b.2 h2 4 (by omega)
    have u5 := u5 (by omega)
    have hl : ∃ y : List Int × SrcT, spec_l01Src_list k v5.2 (1 + v5.1) 0 101 = some y ∧ Src y.2 := by
      have hl : ∃ y : List Int × Int × Int × Int × List Int, spec_l01Src_list.l0 k (1 + v5.1) 0 101 v5.2.1 v5.2.2.1 v5.2.2.2.1 v5.2.2.2.2 [] = some y ∧ Src (y.1, (y.2.1, (y.2.2.1, y.2.2.2.1))) := by
        refine loop_inv (fun j (s : Int × SrcT × List Int) => spec_l01Src_list.l0 j s.1 0 101 s.2.1.1 s.2.1.2.1 s.2.1.2.2.1 s.2.1.2.2.2 s.2.2) (fun s => s.1.toNat) (fun s => 0 ≤ s.1 ∧ s.1 + (s.2.2.length : Int) ≤ 4 ∧ Src s.2.1) (fun y => Src (y.1, (y.2.1, (y.2.2.1, y.2.2.2.1)))) (fun s ⟨i0, i1, i2⟩ => ?_) 4 (1 + v5.1, v5.2, []) k ⟨by show 0 ≤ 1 + v5.1; omega, by show 1 + v5.1 + 0 ≤ 4; omega, s5⟩ (by show (1 + v5.1).toNat ≤ 4; omega) (by omega)
        obtain ⟨i, r, l⟩ := s
        have i0 : 0 ≤ i := i0
        have i1 : i + (l.length : Int) ≤ 4 := i1
        have i2 : Src r := i2
        by_cases hi : 0 < i
        · right
          obtain ⟨v, ev, sv, _⟩ := n_ok r i2 102 (by omega)
          have ev : spec_l01Src_n (r.1, (r.2.1, (r.2.2.1, r.2.2.2))) 102 = some v := ev
          refine ⟨(i - 1, v.2, l ++ [IntKind.wrap .i64 (0 + v.1)]), ⟨by show 0 ≤ i - 1; omega, by show i - 1 + ((l ++ [_]).length : Int) ≤ 4; rw [List.length_append]; simp only [List.length_cons, List.length_nil]; omega, sv⟩, by show (i - 1).toNat < i.toNat; omega, fun j => ?_⟩
          show spec_l01Src_list.l0 (j + 1) i 0 101 r.1 r.2.1 r.2.2.1 r.2.2.2 l = _
          conv => lhs; unfold spec_l01Src_list.l0
          unfold spec_l01Src_between
          rw [decide_eq_true hi, w64 (n := i - 1) (by omega) (by omega), show IntKind.wrap .i64 (IntKind.wrap .i64 (101 - 0) + 1) = 102 from rfl, ev]
          simp only [cond_true, Option.bind_some]
          rw [app_ok (by simp; omega)]
          rfl
        · left
          refine ⟨(r.1, r.2.1, r.2.2.1, r.2.2.2, l), fun j => ?_, i2⟩
          show spec_l01Src_list.l0 (j + 1) i 0 101 r.1 r.2.1 r.2.2.1 r.2.2.2 l = _
          conv => lhs; unfold spec_l01Src_list.l0
          rw [decide_eq_false hi]
          rfl
      obtain ⟨y, ey, hy⟩ := hl
      unfold spec_l01Src_list
      rw [ey]
      exact ⟨(y.2.2.2.2, (y.1, (y.2.1, (y.2.2.1, y.2.2.2.1)))), rfl, hy⟩
    obtain ⟨y, ey, sy⟩ := hl
    obtain ⟨v7, e7, s7, _⟩ := n_ok y.2 sy 15 (by omega)
    obtain ⟨v8, e8, s8, _⟩ := n_ok v7.2 s7 16 (by omega)
    simp only [cond_true]
    rw [e5]
    simp only [Option.bind_some]
    rw [w64 (n := 1 + v5.1) (by omega) (by omega), ey]
    simp only [Option.bind_some]
    rw [e7]
    simp only [Option.bind_some]
    rw [e8]
    exact ⟨_, rfl⟩
end Go.Proofs.YthoibokhmkjkdaaE

namespace Go.Proofs.YthoibokhmkjkdaaE
open Go
def laws_FnFleet.Pure : Prop := ∀ (y0 : List Int) (y1 : List Int), Bnd (.sl (.int .u8)) y0 → Bnd (.sl (.int .u8)) y1 → ∃ k : Nat, laws_FnFleet k y0 y1 = some true
end Go.Proofs.YthoibokhmkjkdaaE

namespace Go.Proofs.YthoibokhmkjkdaaE
open Go
set_option linter.unusedVariables false
namespace Flt
theorem nums_self (l : List Int) (h : l.length ≤ 12) (k : Nat) (hk : 20 ≤ k) : laws_lwNums k l l = some true := by
  have key := loop_at (fun j i => laws_lwNums.l0 j l l (i : Int)) l.length (.inl ()) (fun i hi j => by
    conv => lhs; unfold laws_lwNums.l0
    rw [decide_eq_true (by omega : (i : Int) < (l.length : Int)), at_getD hi, wsuc (by omega)]
    simp only [cond_true, Option.bind_some, bne_self_eq_false, cond_false]) (fun j => by
    conv => lhs; unfold laws_lwNums.l0
    rw [decide_eq_false (by omega : ¬ ((l.length : Int) < (l.length : Int)))]
    rfl) k (by omega)
  have key : laws_lwNums.l0 k l l 0 = some (.inl ()) := key
  unfold laws_lwNums
  rw [key]
  simp
def small (o : FlOut) : Prop := o.1.length ≤ 12 ∧ o.2.2.2.1.length ≤ 12 ∧ o.2.2.2.2.1.length ≤ 12
theorem fleet_self (o : FlOut) (h : small o) (k : Nat) (hk : 20 ≤ k) : laws_lwFleet k ((o.1, (o.2.1, (o.2.2.1, o.2.2.2.1))), (o.2.2.2.2.1, o.2.2.2.2.2)) ((o.1, (o.2.1, (o.2.2.1, o.2.2.2.1))), (o.2.2.2.2.1, o.2.2.2.2.2)) = some true := by
  unfold laws_lwFleet
  simp only [nums_self _ h.1 k hk, nums_self _ h.2.1 k hk, nums_self _ h.2.2 k hk, Option.bind_some, beq_self_eq_true, cond_true, Bool.and_self]
theorem small_ill (c : Int) : small (ill21 c) := ⟨Nat.zero_le _, Nat.zero_le _, Nat.zero_le _⟩
theorem tell_small (F : G24) (id : Int) (g : Bool) : small (tellZ F id g) := by
  unfold tellZ
  split
  · rename_i hf
    have := fleetB_len hf
    split
    · split
      · exact ⟨by show F.1.length ≤ 12; omega, by show (F.2.2.2.set _ _).length ≤ 12; rw [List.length_set]; omega, Nat.zero_le _⟩
      · exact small_ill _
    · exact small_ill _
  · exact small_ill _
theorem next_small (F : G24) : small (nextZ F) := by
  unfold nextZ
  split
  · rename_i hf
    have := fleetB_len hf
    split
    · exact small_ill _
    · split
      · exact small_ill _
      · split
        · exact small_ill _
        · split
          · exact small_ill _
          · exact ⟨by show F.1.length ≤ 12; omega, by show F.2.2.2.length ≤ 12; omega, Nat.zero_le _⟩
  · exact small_ill _
theorem new_small (n : Int) (w : List Int) (m : Int) : small (newZ n w m) := by
  unfold newZ
  split
  · exact small_ill _
  · split
    · split
      · rename_i hf
        have h := fleetB_len hf
        exact ⟨by show w.length ≤ 12; exact Nat.le_trans h.2.2.2 (by omega), h.2.1, Nat.zero_le _⟩
      · exact small_ill _
    · exact small_ill _
theorem ask_small (F : G24) : small (askZ F) := by
  by_cases hf : fleetB F = true
  · cases hh : haltB F with
    | true =>
      unfold askZ
      rw [if_pos hf, if_pos hh]
      exact small_ill _
    | false =>
      obtain ⟨st, ids, e, _, h1, h2, _⟩ := ask_facts F hf hh
      have := fleetB_len hf
      rw [e]
      exact ⟨by show F.1.length ≤ 12; omega, by show st.length ≤ 12; omega, h2⟩
  · unfold askZ
    rw [if_neg hf]
    exact small_ill _
/-- Who is not waiting, counted. -/
theorem asked_loop (a b c : Int) (w st ids : List Int) (h : st.length ≤ 12) (k : Nat) (hk : 20 ≤ k) : laws_FnFleet.l0 k 0 0 a b c w st ids = some ((st.length : Int) - ((st.count 0 : Nat) : Int), a, b, c, w, st, ids) := by
  have key := loop_at (fun j i => laws_FnFleet.l0 j ((i : Int) - (((st.take i).count 0 : Nat) : Int)) (i : Int) a b c w st ids) st.length ((st.length : Int) - ((st.count 0 : Nat) : Int), a, b, c, w, st, ids) (fun i hi j => by
    have hc : (st.take i).count 0 ≤ i := by have := List.count_le_length (a := (0 : Int)) (l := st.take i); simp at this; omega
    have ht := count_take 0 hi
    conv => lhs; unfold laws_FnFleet.l0
    rw [decide_eq_true (by omega : (i : Int) < (st.length : Int)), at_getD hi, wsuc (by omega)]
    simp only [cond_true, Option.bind_some]
    rw [ht]
    by_cases hs : st.getD i 0 = 0
    · rw [if_pos hs, show (st.getD i 0 != 0) = false by rw [hs]; rfl, show ((i + 1 : Nat) : Int) - ((((st.take i).count 0 : Nat) : Int) + 1) = (i : Int) - (((st.take i).count 0 : Nat) : Int) by omega]
      rfl
    · rw [if_neg hs, show (st.getD i 0 != 0) = true by simpa using hs, w64 (by omega) (by omega), show (i : Int) - (((st.take i).count 0 : Nat) : Int) + 1 = ((i + 1 : Nat) : Int) - ((((st.take i).count 0 : Nat) : Int) + 0) by omega]
      rfl) (fun j => by
    conv => lhs; unfold laws_FnFleet.l0
    rw [decide_eq_false (by omega : ¬ ((st.length : Int) < (st.length : Int))), List.take_length]
    rfl) k (by omega)
  exact key
theorem ids_loop (a b c d e : Int) (w st w' st' ids : List Int) (h : ids.length ≤ 12) (hids : ∀ x ∈ ids, ∃ m : Nat, x = (m : Int) ∧ m < st.length ∧ m < st'.length ∧ st.getD m 0 = 0 ∧ st'.getD m 0 = 1) (k : Nat) (hk : 20 ≤ k) :
    laws_FnFleet.l1 k 0 a b c d e w st w' st' ids = some (.inl (a, b, c, d, e, w, st, w', st', ids)) := by
  have key := loop_at (fun j i => laws_FnFleet.l1 j (i : Int) a b c d e w st w' st' ids) ids.length (.inl (a, b, c, d, e, w, st, w', st', ids)) (fun i hi j => by
    obtain ⟨m, e1, e2, e3, e4, e5⟩ := hids ids[i] (List.getElem_mem hi)
    have ha : at? ids (i : Int) = some (m : Int) := by rw [at_nat hi, e1]
    conv => lhs; unfold laws_FnFleet.l1
    rw [decide_eq_true (by omega : (i : Int) < (ids.length : Int)), ha, wsuc (by omega)]
    simp only [cond_true, Option.bind_some]
    rw [at_getD e2, at_getD e3, e4, e5]
    rfl) (fun j => by
    conv => lhs; unfold laws_FnFleet.l1
    rw [decide_eq_false (by omega : ¬ ((ids.length : Int) < (ids.length : Int)))]
    rfl) k (by omega)
  exact key
end Flt
open Flt in
theorem laws_FnFleet.proved : laws_FnFleet.Pure := by
  intro c1 c2 _ _
  by_cases hb : 1048576 < c1.length ∨ 1048576 < c2.length
  · refine ⟨0, ?_⟩
    unfold laws_FnFleet
    rcases hb with hb | hb
    · rw [decide_eq_true (by omega : 1048576 < (c1.length : Int))]; rfl
    · rw [decide_eq_true (by omega : 1048576 < (c2.length : Int)), Bool.or_true]; rfl
  refine ⟨100, ?_⟩
  generalize hk : 100 = k
  have hk : 65 ≤ k := by omega
  obtain ⟨F, e1, hF⟩ := drawAsk_ok k hk c1 (by omega)
  obtain ⟨T, e2⟩ := drawTell_ok k hk c2 (by omega)
  obtain ⟨H, e3⟩ := drawNext_ok k hk c2 (by omega)
  obtain ⟨N, e4⟩ := drawNew_ok k hk c2 (by omega)
  have a1 := iAsk F k (by omega)
  have a2 := sAsk F k (by omega)
  have t1 := iTell (T.1, (T.2.1, (T.2.2.1, T.2.2.2.1))) T.2.2.2.2.1 T.2.2.2.2.2 k (by omega)
  have t2 := sTell (T.1, (T.2.1, (T.2.2.1, T.2.2.2.1))) T.2.2.2.2.1 T.2.2.2.2.2 k (by omega)
  have n1 := iNext H k (by omega)
  have n2 := sNext H k (by omega)
  have w1 := iNew N.1 N.2.1 N.2.2 k (by omega)
  have w2 := sNew N.1 N.2.1 N.2.2 k (by omega)
  have ta := fleet_self _ (ask_small F) k (by omega)
  have tt := fleet_self _ (tell_small (T.1, (T.2.1, (T.2.2.1, T.2.2.2.1))) T.2.2.2.2.1 T.2.2.2.2.2) k (by omega)
  have tn := fleet_self _ (next_small H) k (by omega)
  have tw := fleet_self _ (new_small N.1 N.2.1 N.2.2) k (by omega)
  have rt := tell_right (T.1, (T.2.1, (T.2.2.1, T.2.2.2.1))) T.2.2.2.2.1 T.2.2.2.2.2
  have rn := next_right H
  generalize tellZ (T.1, (T.2.1, (T.2.2.1, T.2.2.2.1))) T.2.2.2.2.1 T.2.2.2.2.2 = Y at t1 t2 tt rt
  generalize nextZ H = Z at n1 n2 tn rn
  generalize newZ N.1 N.2.1 N.2.2 = W at w1 w2 tw
  have r1 := iShare F k (by omega)
  have r2 := sShare F k (by omega)
  have r3 := iHalt F k (by omega)
  have r4 := sHalt F k (by omega)
  have right : ∀ G : G24, impl_FleetRight k G = some (fleetB G) := fun G => by
    unfold impl_FleetRight
    rw [iRight G k (by omega)]
    rfl
  have r6 := sRight F k (by omega)
  have ry : Y.2.2.2.2.2 = 0 → impl_FleetRight k (Y.1, (Y.2.1, (Y.2.2.1, Y.2.2.2.1))) = some true := fun h => by rw [right]; exact congrArg some (rt h)
  have rz : Z.2.2.2.2.2 = 0 → impl_FleetRight k (Z.1, (Z.2.1, (Z.2.2.1, Z.2.2.2.1))) = some true := fun h => by rw [right]; exact congrArg some (rn h).1
  have s1 := iShare (Z.1, (Z.2.1, (Z.2.2.1, Z.2.2.2.1))) k (by omega)
  have s2 := iShare H k (by omega)
  have sle : Z.2.2.2.2.2 = 0 → decide (sharesZ (Z.1, (Z.2.1, (Z.2.2.1, Z.2.2.2.1))) < sharesZ H) = false := fun h => by
    have : sharesZ H ≤ sharesZ (Z.1, (Z.2.1, (Z.2.2.1, Z.2.2.2.1))) := (rn h).2
    exact decide_eq_false (by omega)
  have x1 := iNext F k (by omega)
  unfold laws_FnFleet
  rw [decide_eq_false (by omega : ¬ (1048576 < (c1.length : Int))), decide_eq_false (by omega : ¬ (1048576 < (c2.length : Int))), e1]
  simp only [Bool.or_false, cond_false, Option.bind_some]
  rw [a1, e2]
  simp only [Option.bind_some]
  rw [t1, e3]
  simp only [Option.bind_some]
  rw [n1, e4, a2]
  simp only [Option.bind_some]
  rw [ta, t2]
  simp only [Option.bind_some, Bool.not_true, cond_false]
  rw [tt, n2]
  simp only [Option.bind_some, Bool.not_true, cond_false]
  rw [tn, w1, w2]
  simp only [Option.bind_some, Bool.not_true, cond_false]
  rw [tw, r1, r2, r3, r4, right F, r6]
  simp only [Option.bind_some, Bool.not_true, cond_false, bne_self_eq_false, beq_self_eq_true]
  by_cases hf : fleetB F = true
  · cases hh : haltB F with
    | true =>
      have ea : askZ F = ill21 10 := by unfold askZ; rw [if_pos hf, if_pos hh]
      have en : nextZ F = ill21 10 := by unfold nextZ; rw [if_pos hf, if_pos hh]
      have x1 : impl_FleetNext k F = some (ill21 10) := by rw [x1, en]
      rw [ea]
      simp only [ill21]
      by_cases y0 : Y.2.2.2.2.2 = 0
      · rw [y0, ry y0]
        by_cases z0 : Z.2.2.2.2.2 = 0
        · rw [z0, rz z0, s1, s2]
          simp only [Option.bind_some, beq_self_eq_true, cond_true, Bool.not_true, cond_false]
          rw [sle z0, x1]
          rfl
        · rw [show (Z.2.2.2.2.2 == 0) = false by simpa using z0, x1]
          rfl
      · rw [show (Y.2.2.2.2.2 == 0) = false by simpa using y0]
        by_cases z0 : Z.2.2.2.2.2 = 0
        · rw [z0, rz z0, s1, s2]
          simp only [Option.bind_some, beq_self_eq_true, cond_true, Bool.not_true, cond_false]
          rw [sle z0, x1]
          rfl
        · rw [show (Z.2.2.2.2.2 == 0) = false by simpa using z0, x1]
          rfl
    | false =>
      obtain ⟨st, ids, ea, hr, hlen, hids, hcnt, hmem, hnone⟩ := ask_facts F hf hh
      have fl := fleetB_len hf
      have l0 := asked_loop F.2.1 F.2.2.1 0 F.1 st ids (by omega) k (by omega)
      rw [hcnt] at l0
      have l1 := ids_loop F.2.1 F.2.2.1 F.2.1 F.2.2.1 0 F.1 F.2.2.2 F.1 st ids hids (fun x hx => by
        obtain ⟨m, q1, q2, q3, q4⟩ := hmem x hx
        exact ⟨m, q1, q2, by omega, q3, q4⟩) k (by omega)
      have hr : impl_FleetRight k (F.1, (F.2.1, (F.2.2.1, st))) = some true := by rw [right, hr]
      have hs : impl_Share k (F.1, (F.2.1, (F.2.2.1, F.2.2.2))) = some (shareZ F) := by
        have : impl_Share k F = some (sharesZ F) := iShare F k (by omega)
        unfold sharesZ at this
        rw [if_pos hf] at this
        exact this
      have ha := iAsk (F.1, (F.2.1, (F.2.2.1, st))) k (by omega)
      generalize askZ (F.1, (F.2.1, (F.2.2.1, st))) = A at hnone ha
      rw [ea]
      simp only [show ((0 : Int) != 0) = false from rfl, show ((0 : Int) != 10) = true from rfl, cond_false]
      by_cases y0 : Y.2.2.2.2.2 = 0
      · rw [y0, ry y0]
        by_cases z0 : Z.2.2.2.2.2 = 0
        · rw [z0, rz z0, s1, s2]
          simp only [Option.bind_some, beq_self_eq_true, cond_true, Bool.not_true, cond_false]
          rw [sle z0]
          simp only [l0, l1, hr, hs, ha, hnone, Option.bind_some, beq_self_eq_true, cond_true, cond_false]
          rfl
        · rw [show (Z.2.2.2.2.2 == 0) = false by simpa using z0]
          simp only [l0, l1, hr, hs, ha, hnone, Option.bind_some, beq_self_eq_true, cond_true, cond_false, Bool.not_true]
          rfl
      · rw [show (Y.2.2.2.2.2 == 0) = false by simpa using y0]
        by_cases z0 : Z.2.2.2.2.2 = 0
        · rw [z0, rz z0, s1, s2]
          simp only [Option.bind_some, beq_self_eq_true, cond_true, Bool.not_true, cond_false]
          rw [sle z0]
          simp only [l0, l1, hr, hs, ha, hnone, Option.bind_some, beq_self_eq_true, cond_true, cond_false]
          rfl
        · rw [show (Z.2.2.2.2.2 == 0) = false by simpa using z0]
          simp only [l0, l1, hr, hs, ha, hnone, Option.bind_some, beq_self_eq_true, cond_true, cond_false]
          rfl
  · have ea : askZ F = ill21 1 := by unfold askZ; rw [if_neg hf]
    have hh : haltB F = false := by unfold haltB; rw [Bool.eq_false_iff.2 hf]; rfl
    rw [ea, hh]
    simp only [ill21]
    by_cases y0 : Y.2.2.2.2.2 = 0
    · rw [y0, ry y0]
      by_cases z0 : Z.2.2.2.2.2 = 0
      · rw [z0, rz z0, s1, s2]
        simp only [Option.bind_some, beq_self_eq_true, cond_true, Bool.not_true, cond_false]
        rw [sle z0]
        rfl
      · rw [show (Z.2.2.2.2.2 == 0) = false by simpa using z0]
        rfl
    · rw [show (Y.2.2.2.2.2 == 0) = false by simpa using y0]
      by_cases z0 : Z.2.2.2.2.2 = 0
      · rw [z0, rz z0, s1, s2]
        simp only [Option.bind_some, beq_self_eq_true, cond_true, Bool.not_true, cond_false]
        rw [sle z0]
        rfl
      · rw [show (Z.2.2.2.2.2 == 0) = false by simpa using z0]
        rfl
end Go.Proofs.YthoibokhmkjkdaaE

namespace Go.Proofs.Ythoibokhmkjkdaa.fnFleet
open Go Go.ChangeShapes Go.WideShapes Go.ChangeAt Go.RowKit Go.Proofs.YthoibokhmkjkdaaE
set_option linter.unusedVariables false
theorem own : ownKnob Try.prog.godebug = none := by kernel_rfl
theorem laidOut : laidOutB Try.prog = true := by kernel_rfl
theorem go (k : Nat) (y0 : List Int) (y1 : List Int) : (laws_FnFleet.con k).f [argC false (.sl (.int .u8)) y0, argC false (.sl (.int .u8)) y1] = .opt (Prod' laws_FnFleet.sig.outs) (laws_FnFleet k y0 y1) laws_FnFleet.sig.enc := by kernel_rfl
set_option maxRecDepth 100000 in
theorem lifted (os : Os) (started : os.Started) (H : Type) (enc : TypeId × Value → H) :
    ReturnsInHanded {} Try.checked os 12 .any (Rows.fnFleetSpec.pre6 enc Try.prog Try.f12 Rows.fnFleetRow.domain false) (Rows.fnFleetSpec.post enc Try.prog Try.f12 false true false false) := by
  refine returnsInHanded_of_change_sized (C := Try.checked) own started (by kernel_rfl) Try.func12
    (ChangeSpec.witness6 (enc := enc) (C := Try.checked) false ⟨#[], #[.slice none 0 0, .slice none 0 0], []⟩ 8 (by kernel_rfl) (by kernel_rfl) (by kernel_rfl) (by kernel_rfl)) ?_
  intro W base args ds gs before hval0 hW hcnd hsz0 _
  have hsz : (DataW.weightsEach Try.prog (Try.f12.params.toList ++ Rows.fnFleetSpec.plain.varTypes Try.prog) (ds ++ gs)).all (· ≤ reachBytes) = true := hsz0
  have hval : ∀ (j : Nat) t v, Try.f12.params[j]? = some t → args[j]? = some v → Value.okWide Try.prog W .any base t v := hval0
  have hW' := hW
  obtain ⟨p, q, hA0, hV, rfl, hfz, hnd⟩ := hW
  have hA : DataW.TrodAll enc Try.prog W 0 (fun _ => true) true Try.f12.params.toList args.toList ds p := hA0
  rw [Try.params12] at hA hval hsz
  obtain ⟨v0, vs0, d0, ds0, p0, q0, hargs, rfl, rfl, h0, r0⟩ := trodAll_cons hA
  obtain ⟨v1, vs1, d1, ds1, p1, q1, rfl, rfl, rfl, h1, r1⟩ := trodAll_cons r0
  obtain ⟨rfl, rfl, rfl⟩ := trodAll_nil r1
  obtain rfl : args = #[v0, v1] := by cases args; simp_all
  obtain ⟨rfl, rfl⟩ := trodVars_none hV
  have lt0 := trod_lt_all h0
  have z0 := weights_arg hsz (j := 0) (t := 79) rfl rfl
  obtain ⟨y0, b0, c0⟩ := arg_rep (ty := (.sl (.int .u8))) (n := 20) (ag := false) (by kernel_rfl) (by kernel_rfl) (hval 0 79 v0 rfl rfl) h0 z0
  have lt1 := trod_lt_all h1
  have z1 := weights_arg hsz (j := 1) (t := 79) rfl rfl
  obtain ⟨y1, b1, c1⟩ := arg_rep (ty := (.sl (.int .u8))) (n := 20) (ag := false) (by kernel_rfl) (by kernel_rfl) (hval 1 79 v1 rfl rfl) h1 z1
  obtain ⟨k, hp⟩ := laws_FnFleet.proved y0 y1 b0 b1
  have hrr : ((laws_FnFleet.con k).f [argC false (.sl (.int .u8)) y0, argC false (.sl (.int .u8)) y1]).val = some ⟨[.val false [.leaf (.bool true)]], []⟩ := by
    refine (congrArg CR.val (go k y0 y1)).trans ?_
    rw [hp]
    kernel_rfl
  refine (law_true (laws_FnFleet.ok k) hrr (vs := [v0, v1]) (cargs_cons (c0 _) (cargs_cons (c1 _) cargs_nil))).mono fun e W' ⟨he, bel0⟩ => ?_
  have bel : Below W.heap.size W W' := bel0
  subst he
  exact ⟨_, rfl, _, _, _, [], _, [], hW', trodAll_mk1 (shutB Try.underlying4 _), (trodAll_cons_mk (Below.trod laidOut (by kernel_rfl) (of_decide_eq_true (by kernel_rfl)) h0 bel lt0) (trodAll_cons_mk (Below.trod laidOut (by kernel_rfl) (of_decide_eq_true (by kernel_rfl)) h1 bel lt1) trodAll_mk0)), rfl, bel.frame _, fun h => by cases h⟩
theorem over : Rows.fnFleetRow.holds Try.pinned (OpenSpec.ofChange Rows.fnFleetSpec) :=
  OpenClaim.holds_of_wide 12 Try.f12 rfl rfl rfl rfl rfl rfl rfl ⟨rfl, rfl, rfl, rfl, rfl⟩ rfl rfl rfl rfl rfl (by kernel_rfl) Try.func12 (by kernel_rfl)
    (of_decide_eq_true (by kernel_rfl)) (by unfold Func.isWrapper; first | (rw [if_pos (by decide +kernel)]; kernel_rfl) | (rw [if_neg (by decide +kernel)]; exact ⟨rfl, rfl⟩))
    (fun os started H enc _ => lifted os started H enc)
theorem proved : Rows.FnFleetSaid := over
end Go.Proofs.Ythoibokhmkjkdaa.fnFleet
namespace Go.Proofs.Ythoibokhmkjkdaa
/-- The row, under a short name, for the claim. -/
theorem fnFleet_holds : Rows.FnFleetSaid := fnFleet.proved
#print axioms fnFleet_holds
end Go.Proofs.Ythoibokhmkjkdaa
