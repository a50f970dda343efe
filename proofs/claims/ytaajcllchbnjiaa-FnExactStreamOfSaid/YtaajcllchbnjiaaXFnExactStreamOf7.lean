/- What the law FnExactStreamOf needs, part 8 of 9: the Lean functions of the Go functions that it reaches, with the proofs that the calls come to what they say, and plain facts about them. Conditions: those that each theorem states. Written by a session and by its programs (after the kit's printer). -/
import Derived.Laws.BitsLemmas
import Derived.Test.YtaajcllchbnjiaaXFnExactStreamOf6
namespace Go.Proofs.YtaajcllchbnjiaaE
open Go
set_option linter.unusedVariables false
theorem u8w (n : Int) : IntKind.wrap .u8 n = n % 256 := by simp [IntKind.wrap, IntKind.bits, IntKind.signed]
theorem u32w (n : Int) : IntKind.wrap .u32 n = n % 4294967296 := by simp [IntKind.wrap, IntKind.bits, IntKind.signed]
theorem u64w (n : Int) : IntKind.wrap .u64 n = n % 18446744073709551616 := by simp [IntKind.wrap, IntKind.bits, IntKind.signed]
theorem bx32 (a b : Nat) (ha : a < 4294967296) (hb : b < 4294967296) : intBits .xor .u32 (a : Int) (b : Int) = ((a ^^^ b : Nat) : Int) := by
  have hx : a ^^^ b < 2 ^ 32 := Nat.xor_lt_two_pow (by omega) (by omega)
  show IntKind.wrap .u32 (((BitVec.ofInt 32 (a : Int)) ^^^ (BitVec.ofInt 32 (b : Int))).toNat : Int) = _
  rw [BitVec.ofInt_natCast, BitVec.ofInt_natCast, BitVec.toNat_xor, BitVec.toNat_ofNat, BitVec.toNat_ofNat, u32w, Nat.mod_eq_of_lt (show a < 2 ^ 32 by omega), Nat.mod_eq_of_lt (show b < 2 ^ 32 by omega)]
  omega
theorem band1 (a : Nat) (ha : a < 4294967296) : intBits .and .u32 (a : Int) 1 = ((a % 2 : Nat) : Int) := by
  have h : a &&& 1 = a % 2 := Nat.and_one_is_mod a
  show IntKind.wrap .u32 (((BitVec.ofInt 32 (a : Int)) &&& (BitVec.ofInt 32 ((1 : Nat) : Int))).toNat : Int) = _
  rw [BitVec.ofInt_natCast, BitVec.ofInt_natCast, BitVec.toNat_and, BitVec.toNat_ofNat, BitVec.toNat_ofNat, u32w, Nat.mod_eq_of_lt (show a < 2 ^ 32 by omega), Nat.mod_eq_of_lt (show 1 < 2 ^ 32 by omega), h]
  omega
theorem band64 (a : Nat) (ha : a < 18446744073709551616) : intBits .and .u64 (a : Int) 1 = ((a % 2 : Nat) : Int) := by
  have h : a &&& 1 = a % 2 := Nat.and_one_is_mod a
  show IntKind.wrap .u64 (((BitVec.ofInt 64 (a : Int)) &&& (BitVec.ofInt 64 ((1 : Nat) : Int))).toNat : Int) = _
  rw [BitVec.ofInt_natCast, BitVec.ofInt_natCast, BitVec.toNat_and, BitVec.toNat_ofNat, BitVec.toNat_ofNat, u64w, Nat.mod_eq_of_lt (show a < 2 ^ 64 by omega), Nat.mod_eq_of_lt (show 1 < 2 ^ 64 by omega), h]
  omega
theorem bor64 (a b : Nat) (ha : a < 18446744073709551616) (hb : b < 18446744073709551616) : intBits .or .u64 (a : Int) (b : Int) = ((a ||| b : Nat) : Int) := by
  show IntKind.wrap .u64 (((BitVec.ofInt 64 (a : Int)) ||| (BitVec.ofInt 64 (b : Int))).toNat : Int) = _
  have hx : a ||| b < 2 ^ 64 := Nat.or_lt_two_pow (by omega) (by omega)
  rw [BitVec.ofInt_natCast, BitVec.ofInt_natCast, BitVec.toNat_or, BitVec.toNat_ofNat, BitVec.toNat_ofNat, u64w, Nat.mod_eq_of_lt (show a < 2 ^ 64 by omega), Nat.mod_eq_of_lt (show b < 2 ^ 64 by omega)]
  omega
theorem and127 : ∀ a : Nat, a < 256 → intBits .and .u8 ((a : Nat) : Int) 127 = ((a % 128 : Nat) : Int) := by decide +kernel
theorem noti64 (a : Nat) (h : a < 9223372036854775808) : intBits .xor .i64 (-1) (a : Int) = -(a : Int) - 1 := by
  show IntKind.wrap .i64 (((BitVec.ofInt 64 (-1)) ^^^ (BitVec.ofInt 64 (a : Int))).toNat : Int) = _
  have e : (BitVec.ofInt 64 (-1)) = BitVec.allOnes 64 := by decide
  rw [BitVec.ofInt_natCast, e, BitVec.allOnes_xor, BitVec.toNat_not, BitVec.toNat_ofNat, IntKind.wrap_i64, Nat.mod_eq_of_lt (show a < 2 ^ 64 by omega)]
  omega
theorem shr_nat (k : IntKind) (r m : Nat) (h : m ≤ k.bits) : shr k (r : Int) (m : Int) = ((r / 2 ^ m : Nat) : Int) := by
  unfold shr
  rw [Int.toNat_natCast, Nat.min_eq_left h, Int.fdiv_eq_ediv_of_nonneg _ (by exact Int.le_of_lt (Int.pow_pos (by omega)))]
  push_cast
  rfl
theorem byte_lt (c : UInt8) : c.toNat < 256 := c.toNat_lt
theorem byte_of (c : UInt8) : UInt8.ofNat ((c.toNat : Nat) : Int).toNat = c := by simp
/-! ### the CRC -/
def crcBit (r : Nat) : Nat := if r % 2 = 1 then (r / 2) ^^^ 3988292384 else r / 2
def crcBits : Nat → Nat → Nat
  | 0, r => r
  | n + 1, r => crcBits n (crcBit r)
def crcRun : Str → Nat → Nat
  | [], r => r
  | c :: l, r => crcRun l (crcBits 8 (r ^^^ c.toNat))
def crcOf (c : Nat) (s : Str) : Nat := (crcRun s (c ^^^ 4294967295)) ^^^ 4294967295
theorem x32 {a b : Nat} (ha : a < 4294967296) (hb : b < 4294967296) : a ^^^ b < 4294967296 := Nat.xor_lt_two_pow (n := 32) ha hb
theorem crcBit_lt {r : Nat} (h : r < 4294967296) : crcBit r < 4294967296 := by
  unfold crcBit
  split
  · exact x32 (by omega) (by omega)
  · omega
theorem crcBits_lt : ∀ (n : Nat) {r : Nat}, r < 4294967296 → crcBits n r < 4294967296
  | 0, _, h => h
  | n + 1, _, h => crcBits_lt n (crcBit_lt h)
theorem crcRun_lt : ∀ (l : Str) {r : Nat}, r < 4294967296 → crcRun l r < 4294967296
  | [], _, h => h
  | c :: l, r, h => crcRun_lt l (crcBits_lt 8 (x32 h (by have := byte_lt c; omega)))
theorem crcOf_lt {c : Nat} (s : Str) (h : c < 4294967296) : crcOf c s < 4294967296 := x32 (crcRun_lt _ (x32 h (by omega))) (by omega)
/-- The four bytes of a CRC. -/
def four (n : Nat) : Str := listByte [((n % 256 : Nat) : Int), ((n / 256 % 256 : Nat) : Int), ((n / 65536 % 256 : Nat) : Int), ((n / 16777216 % 256 : Nat) : Int)]
def sealOf (s : Str) : Str := s ++ four (crcOf 0 s)
theorem four_len (n : Nat) : (four n).length = 4 := rfl
theorem sealOf_len (s : Str) : (sealOf s).length = s.length + 4 := by unfold sealOf; rw [List.length_append, four_len]
/-- What stands ahead of the seal. -/
def bodyOf (s : Str) : Str := s.take (s.length - 4)
theorem body_len (s : Str) : (bodyOf s).length = s.length - 4 := by unfold bodyOf; simp
theorem seal_inj {a b : Str} : sealOf a = sealOf b ↔ a = b := by
  constructor
  · intro h
    exact List.append_inj_left' h (by rw [four_len, four_len])
  · rintro rfl; rfl
theorem tail_iff (s : Str) : (four (crcOf 0 (bodyOf s)) = s.drop (s.length - 4)) ↔ sealOf (bodyOf s) = s := by
  have e : s = bodyOf s ++ s.drop (s.length - 4) := (List.take_append_drop _ _).symm
  unfold sealOf
  constructor
  · intro h; rw [h]; exact e.symm
  · intro h
    exact List.append_cancel_left (h.trans e)
theorem body_seal (s : Str) : bodyOf (sealOf s) = s := by
  unfold bodyOf
  rw [sealOf_len, Nat.add_sub_cancel]
  unfold sealOf
  simp
def unsealI (s : Str) : Str × Int := if s.length < 4 then ([], 4) else if sealOf (bodyOf s) = s then (bodyOf s, 0) else ([], 5)
theorem unseal_ok {s : Str} (h : (unsealI s).2 = 0) : unsealI s = (bodyOf s, 0) ∧ sealOf (bodyOf s) = s ∧ 4 ≤ s.length := by
  unfold unsealI at h ⊢
  by_cases h4 : s.length < 4
  · rw [if_pos h4] at h; simp at h
  · rw [if_neg h4] at h ⊢
    by_cases he : sealOf (bodyOf s) = s
    · rw [if_pos he]; exact ⟨rfl, he, by omega⟩
    · rw [if_neg he] at h; simp at h
theorem unseal_no {s : Str} (h : (unsealI s).2 ≠ 0) : (unsealI s).1 = [] := by
  unfold unsealI at h ⊢
  by_cases h4 : s.length < 4
  · rw [if_pos h4]
  · rw [if_neg h4] at h ⊢
    by_cases he : sealOf (bodyOf s) = s
    · rw [if_pos he] at h; exact absurd rfl h
    · rw [if_neg he]
theorem unseal_len (s : Str) : (unsealI s).1.length ≤ s.length := by
  unfold unsealI
  split
  · simp
  · split
    · rw [body_len]; omega
    · simp
theorem unseal_seal (s : Str) : unsealI (sealOf s) = (s, 0) := by
  unfold unsealI
  rw [body_seal, if_neg (by rw [sealOf_len]; omega), if_pos rfl]
/-! ### numbers as bytes -/
/-- The zigzag number. -/
def zig (n : Int) : Nat := if n < 0 then (-2 * n - 1).toNat else (2 * n).toNat
/-- The groups of seven bits of a number, as bytes; f: a bound on their count. -/
def groups : Nat → Nat → List Int
  | 0, _ => []
  | f + 1, u => if 128 ≤ u then ((u % 128 + 128 : Nat) : Int) :: groups f (u / 128) else [(u : Int)]
def putOf (n : Int) : Str := listByte (groups 10 (zig n))
def Num (n : Int) : Prop := -9223372036854775808 ≤ n ∧ n < 9223372036854775808
theorem zig_lt {n : Int} (h : Num n) : zig n < 18446744073709551616 := by unfold Num at h; unfold zig; split <;> omega
theorem groups_len : ∀ (f u : Nat), (groups f u).length ≤ f
  | 0, _ => by simp [groups]
  | f + 1, u => by
    unfold groups
    split
    · simp only [List.length_cons]; have := groups_len f (u / 128); omega
    · simp
theorem listByte_len (l : List Int) : (listByte l).length = l.length := by simp [listByte]
theorem putOf_len (n : Int) : (putOf n).length ≤ 10 := by
  unfold putOf
  rw [listByte_len]
  exact groups_len 10 _
theorem putOf_pos (n : Int) : 1 ≤ (putOf n).length := by
  unfold putOf
  rw [listByte_len]
  unfold groups
  split <;> simp
def putTextOf (s : Str) : Str := putOf (s.length : Int) ++ s
theorem putTextOf_len (s : Str) : (putTextOf s).length ≤ 10 + s.length := by
  unfold putTextOf
  have := putOf_len (s.length : Int)
  rw [List.length_append]
  omega
/-! ### numbers, read back -/
def unz (u : Nat) : Int := if u % 2 = 1 then -((u / 2 : Nat) : Int) - 1 else ((u / 2 : Nat) : Int)
/-- A number's groups, read: the number, how many bytes, the code. -/
def gn : Nat → Nat → Nat → Str → Int × Nat × Int
  | 0, _, _, _ => (0, 0, 3)
  | _ + 1, _, _, [] => (0, 0, 4)
  | f + 1, i, u, b :: l => if i = 9 ∧ 1 < b.toNat then (0, 0, 3) else if 128 ≤ b.toNat then gn f (i + 1) (u + b.toNat % 128 * 128 ^ i) l else if b.toNat = 0 ∧ 0 < i then (0, 0, 3) else (unz (u + b.toNat % 128 * 128 ^ i), i + 1, 0)
/-- What the readers make of it: the number, the place behind it, the code. -/
def fin (a : Nat) (r : Int × Nat × Int) : Int × Int × Int := if r.2.2 = 0 then (r.1, ((a + r.2.1 : Nat) : Int), 0) else (0, 0, r.2.2)
def getNumZ (s : Str) (a : Nat) : Int × Int × Int := fin a (gn 10 0 0 (s.drop a))
theorem p128 (i : Nat) : (2 : Nat) ^ (7 * i) = 128 ^ i := by rw [Nat.pow_mul]
theorem step_lt {i u b : Nat} (_ : i ≤ 8) (hu : u < 128 ^ i) : u + b % 128 * 128 ^ i < 128 ^ (i + 1) := by
  have h1 : b % 128 ≤ 127 := by omega
  have h2 : b % 128 * 128 ^ i ≤ 127 * 128 ^ i := Nat.mul_le_mul_right _ h1
  rw [Nat.pow_succ]
  omega
theorem pow_le9 {i : Nat} (hi : i ≤ 9) : 128 ^ i ≤ 9223372036854775808 := by
  have : 128 ^ i ≤ 128 ^ 9 := Nat.pow_le_pow_right (by omega) hi
  simpa using this
theorem term_lt {i b : Nat} (hi : i ≤ 9) (h9 : i = 9 → b ≤ 1) : b % 128 * 128 ^ i < 18446744073709551616 := by
  by_cases h : i = 9
  · have := h9 h
    subst h
    have : b % 128 ≤ 1 := by omega
    have := Nat.mul_le_mul_right (128 ^ 9) this
    simp at this ⊢
    omega
  · have h1 : 128 ^ i ≤ 128 ^ 8 := Nat.pow_le_pow_right (by omega) (by omega)
    have h2 : b % 128 ≤ 127 := by omega
    have := Nat.mul_le_mul h2 h1
    simp at this
    omega
theorem sum_lt {i u b : Nat} (hi : i ≤ 9) (hu : u < 128 ^ i) (h9 : i = 9 → b ≤ 1) : u + b % 128 * 128 ^ i < 18446744073709551616 := by
  by_cases h : i = 9
  · have := h9 h
    subst h
    have h1 : b % 128 ≤ 1 := by omega
    have := Nat.mul_le_mul_right (128 ^ 9) h1
    simp at this hu ⊢
    omega
  · have h1 := step_lt (b := b) (show i ≤ 8 by omega) hu
    have h2 := pow_le9 (show i + 1 ≤ 9 by omega)
    omega
theorem shl_eq {i b : Nat} (hi : i ≤ 9) (h9 : i = 9 → b ≤ 1) : shl .u64 ((b % 128 : Nat) : Int) ((7 * i : Nat) : Int) = ((b % 128 * 128 ^ i : Nat) : Int) := by
  unfold shl
  rw [Int.toNat_natCast, Nat.min_eq_left (by simp [IntKind.bits]; omega), u64w]
  have e : ((b % 128 : Nat) : Int) * 2 ^ (7 * i) = ((b % 128 * 128 ^ i : Nat) : Int) := by rw [← p128]; push_cast; rfl
  rw [e]
  have := term_lt hi h9
  omega
theorem or_sum {i u b : Nat} (hu : u < 128 ^ i) : u ||| (b % 128 * 128 ^ i) = u + b % 128 * 128 ^ i := by
  have h := @Nat.shiftLeft_add_eq_or_of_lt (7 * i) u (by rw [p128]; exact hu) (b % 128)
  rw [Nat.shiftLeft_eq, p128] at h
  rw [Nat.or_comm, ← h, Nat.add_comm]
theorem zig_unz (v : Nat) : zig (unz v) = v := by
  unfold unz
  split
  · unfold zig; split <;> omega
  · unfold zig; split <;> omega
theorem unz_zig (n : Int) : unz (zig n) = n := by
  unfold zig
  split
  · unfold unz; split <;> omega
  · unfold unz; split <;> omega
theorem unz_range {v : Nat} (h : v < 18446744073709551616) : Num (unz v) := by
  unfold Num unz
  split <;> omega
theorem gn_canon : ∀ (f i u : Nat) (l : Str), i + f = 10 → i ≤ 9 → u < 128 ^ i → (gn f i u l).2.2 = 0 →
    ∃ v, gn f i u l = (unz (u + v * 128 ^ i), i + (groups f v).length, 0) ∧ l = listByte (groups f v) ++ l.drop (groups f v).length ∧ u + v * 128 ^ i < 18446744073709551616 ∧ (0 < i → v ≠ 0)
  | 0, i, u, l, hf, h9, _, _ => by omega
  | f + 1, i, u, [], hf, h9, hu, h0 => by simp [gn] at h0
  | f + 1, i, u, c :: l, hf, hi9, hu, h0 => by
    have hb := byte_lt c
    have hbc := byte_of c
    simp only [gn] at h0 ⊢
    generalize hcb : c.toNat = b at h0 hb hbc ⊢
    by_cases h9 : i = 9 ∧ 1 < b
    · rw [if_pos h9] at h0; simp at h0
    rw [if_neg h9] at h0 ⊢
    have hb9 : i = 9 → b ≤ 1 := fun h => by
      rcases Nat.lt_or_ge 1 b with h1 | h1
      · exact absurd ⟨h, h1⟩ h9
      · exact h1
    by_cases h128 : 128 ≤ b
    · have hi8 : i ≤ 8 := by
        by_cases h : i = 9
        · have := hb9 h; omega
        · omega
      rw [if_pos h128] at h0 ⊢
      obtain ⟨v, e1, e2, e3, e4⟩ := gn_canon f (i + 1) (u + b % 128 * 128 ^ i) l (by omega) (by omega) (step_lt hi8 hu) h0
      have hv := e4 (by omega)
      have hs : u + b % 128 * 128 ^ i + v * 128 ^ (i + 1) = u + (b % 128 + 128 * v) * 128 ^ i := by
        rw [Nat.pow_succ, Nat.add_mul, Nat.mul_comm (128 ^ i) 128, ← Nat.mul_assoc, Nat.mul_comm v 128, Nat.add_assoc]
      have hg : groups (f + 1) (b % 128 + 128 * v) = (b : Int) :: groups f v := by
        have h1 : 128 ≤ b % 128 + 128 * v := by omega
        have h2 : (b % 128 + 128 * v) / 128 = v := by omega
        have h3 : (b % 128 + 128 * v) % 128 + 128 = b := by omega
        simp only [groups, if_pos h1, h2, h3]
      refine ⟨b % 128 + 128 * v, ?_, ?_, ?_, ?_⟩
      · rw [e1, hs, hg, List.length_cons, Nat.add_assoc, Nat.add_comm 1]
      · rw [hg]
        show c :: l = UInt8.ofNat ((b : Nat) : Int).toNat :: (listByte (groups f v) ++ l.drop (groups f v).length)
        rw [hbc, ← e2]
      · rw [← hs]; exact e3
      · intro _; omega
    · rw [if_neg h128] at h0 ⊢
      by_cases hz : b = 0 ∧ 0 < i
      · rw [if_pos hz] at h0; simp at h0
      rw [if_neg hz] at h0 ⊢
      have hm : b % 128 = b := by omega
      have hsl := sum_lt (b := b) hi9 hu hb9
      rw [hm] at hsl ⊢
      have hg : groups (f + 1) b = [(b : Int)] := by simp only [groups, if_neg h128]
      refine ⟨b, ?_, ?_, hsl, ?_⟩
      · rw [hg]; rfl
      · rw [hg]
        show c :: l = UInt8.ofNat ((b : Nat) : Int).toNat :: l
        rw [hbc]
      · intro hi hb0; exact hz ⟨hb0, hi⟩
/-- At a stands the encoding of n, and it ends at a'. -/
structure Got (s : Str) (a : Nat) (n : Int) (a' : Nat) : Prop where
  at' : a' = a + (putOf n).length
  le : a' ≤ s.length
  eq : s.drop a = putOf n ++ s.drop a'
  range : Num n
theorem num_cases (s : Str) (a : Nat) : (∃ (n : Int) (a' : Nat), getNumZ s a = (n, (a' : Int), 0) ∧ Got s a n a') ∨ ∃ c, c ≠ 0 ∧ getNumZ s a = (0, 0, c) := by
  unfold getNumZ fin
  by_cases h : (gn 10 0 0 (s.drop a)).2.2 = 0
  · left
    obtain ⟨v, e1, e2, e3, _⟩ := gn_canon 10 0 0 (s.drop a) (by omega) (by omega) (by omega) h
    simp only [Nat.pow_zero, Nat.mul_one, Nat.zero_add] at e1 e3
    have hB : putOf (unz v) = listByte (groups 10 v) := by unfold putOf; rw [zig_unz]
    have hsz : (putOf (unz v)).length = (groups 10 v).length := by rw [hB, listByte_len]
    refine ⟨unz v, a + (putOf (unz v)).length, ?_, rfl, ?_, ?_, unz_range e3⟩
    · rw [e1, hsz]
      rfl
    · have := congrArg List.length e2
      simp only [List.length_append, listByte_len, List.length_drop] at this
      have hp : 0 < (groups 10 v).length := by unfold groups; split <;> simp
      omega
    · rw [hsz, ← List.drop_drop, hB]
      exact e2
  · right
    exact ⟨_, h, by rw [if_neg h]⟩
/-- What was encoded is read back, whatever follows. -/
theorem gn_put : ∀ (f i u v : Nat) (l : Str), i + f = 10 → i ≤ 9 → v < 128 ^ f → u + v * 128 ^ i < 18446744073709551616 → (0 < i → v ≠ 0) → gn f i u (listByte (groups f v) ++ l) = (unz (u + v * 128 ^ i), i + (groups f v).length, 0)
  | 0, i, u, v, l, hf, h9, _, _, _ => by omega
  | f + 1, i, u, v, l, hf, hi9, hv, hb, hz => by
    have h9' : i = 9 → v ≤ 1 := fun h => by subst h; simp at hb; omega
    by_cases h128 : 128 ≤ v
    · have hi8 : i ≤ 8 := by
        by_cases h : i = 9
        · have := h9' h; omega
        · omega
      have hg : groups (f + 1) v = ((v % 128 + 128 : Nat) : Int) :: groups f (v / 128) := by simp only [groups, if_pos h128]
      have ht : (UInt8.ofNat (((v % 128 + 128 : Nat) : Int)).toNat).toNat = v % 128 + 128 := by
        rw [Int.toNat_natCast, UInt8.toNat_ofNat']
        omega
      rw [hg]
      show gn (f + 1) i u (UInt8.ofNat (((v % 128 + 128 : Nat) : Int)).toNat :: (listByte (groups f (v / 128)) ++ l)) = _
      simp only [gn]
      rw [ht, if_neg (by omega), if_pos (by omega)]
      have hs : u + (v % 128 + 128) % 128 * 128 ^ i + v / 128 * 128 ^ (i + 1) = u + v * 128 ^ i := by
        have e : (v % 128 + 128) % 128 = v % 128 := by omega
        have e2 : v % 128 * 128 ^ i + v / 128 * (128 * 128 ^ i) = v * 128 ^ i := by
          rw [← Nat.mul_assoc, ← Nat.add_mul]
          congr 1
          omega
        rw [e, Nat.pow_succ, Nat.mul_comm (128 ^ i) 128, Nat.add_assoc, e2]
      rw [gn_put f (i + 1) _ (v / 128) l (by omega) (by omega) (by rw [Nat.pow_succ] at hv; exact Nat.div_lt_of_lt_mul (by rw [Nat.mul_comm]; exact hv)) (by rw [hs]; exact hb) (fun _ => by omega), hs]
      simp only [List.length_cons, Prod.mk.injEq, and_true, true_and]
      omega
    · have hg : groups (f + 1) v = [(v : Int)] := by simp only [groups, if_neg h128]
      have ht : (UInt8.ofNat ((v : Int)).toNat).toNat = v := by
        rw [Int.toNat_natCast, UInt8.toNat_ofNat']
        omega
      rw [hg]
      show gn (f + 1) i u (UInt8.ofNat ((v : Int)).toNat :: l) = _
      simp only [gn]
      rw [ht, if_neg (fun q => by have := h9' q.1; omega), if_neg h128, if_neg (fun q => hz q.2 q.1), Nat.mod_eq_of_lt (by omega)]
      rfl
theorem get_put (n : Int) (h : Num n) (s : Str) (a : Nat) (t : Str) (hs : s.drop a = putOf n ++ t) : getNumZ s a = (n, ((a + (putOf n).length : Nat) : Int), 0) := by
  unfold getNumZ
  have hz := zig_lt h
  rw [hs]
  unfold putOf
  rw [gn_put 10 0 0 (zig n) t rfl (by omega) (by omega) (by omega) (fun q => absurd q (by omega))]
  simp only [Nat.pow_zero, Nat.mul_one, Nat.zero_add, unz_zig, listByte_len]
  rfl
/-! ### texts, read back -/
def getTextZ (s : Str) (a : Nat) : Str × Int × Int :=
  if (getNumZ s a).2.2 = 0 then
    if 0 ≤ (getNumZ s a).1 ∧ (getNumZ s a).1 ≤ 8000 then
      if (getNumZ s a).1 > (s.length : Int) - (getNumZ s a).2.1 then ([], 0, 4)
      else ((s.take ((getNumZ s a).2.1 + (getNumZ s a).1).toNat).drop (getNumZ s a).2.1.toNat, (getNumZ s a).2.1 + (getNumZ s a).1, 0)
    else ([], 0, 3)
  else ([], 0, (getNumZ s a).2.2)
/-- At a stands the encoding of the text t, and it ends at a'. -/
structure GotT (s : Str) (a : Nat) (t : Str) (a' : Nat) : Prop where
  at' : a' = a + (putTextOf t).length
  le : a' ≤ s.length
  eq : s.drop a = putTextOf t ++ s.drop a'
  size : t.length ≤ 8000
theorem text_cases (s : Str) (a : Nat) : (∃ t a', getTextZ s a = (t, ((a' : Nat) : Int), 0) ∧ GotT s a t a') ∨ ∃ c, c ≠ 0 ∧ getTextZ s a = ([], 0, c) := by
  unfold getTextZ
  rcases num_cases s a with ⟨n, a', e, g⟩ | ⟨c, hc, e⟩
  · rw [e]
    simp only [if_true]
    by_cases hn : 0 ≤ n ∧ n ≤ 8000
    · rw [if_pos hn]
      have hle := g.le
      by_cases hs : n > (s.length : Int) - (a' : Int)
      · rw [if_pos hs]
        exact .inr ⟨4, by omega, rfl⟩
      · rw [if_neg hs]
        obtain ⟨m, rfl⟩ : ∃ m : Nat, n = (m : Int) := ⟨n.toNat, by omega⟩
        have e1 : ((a' : Int) + (m : Int)).toNat = a' + m := by omega
        rw [e1, Int.toNat_natCast]
        have hB : (s.take (a' + m)).drop a' = (s.drop a').take m := by
          rw [List.drop_take, Nat.add_sub_cancel_left]
        have hsz : ((s.take (a' + m)).drop a').length = m := by
          rw [hB, List.length_take, List.length_drop]
          omega
        refine .inl ⟨_, a' + m, by push_cast; rfl, ?_, ?_, ?_, ?_⟩
        · unfold putTextOf
          rw [List.length_append, hsz]
          have := g.at'
          omega
        · omega
        · unfold putTextOf
          rw [hsz, hB, g.eq, List.append_assoc, ← List.drop_drop, List.take_append_drop]
        · rw [hsz]; omega
    · rw [if_neg hn]
      exact .inr ⟨3, by omega, rfl⟩
  · rw [e]
    simp only
    rw [if_neg hc]
    exact .inr ⟨c, hc, rfl⟩
/-- One number, read: the number, the place, whether it failed. -/
def numR (s : Str) (a : Nat) : Int × Str × Int × Bool := if (getNumZ s a).2.2 = 0 then ((getNumZ s a).1, s, (getNumZ s a).2.1, false) else (0, s, (a : Int), true)
theorem numR_cases (s : Str) (a : Nat) : (∃ n a', numR s a = (n, s, ((a' : Nat) : Int), false) ∧ Got s a n a') ∨ numR s a = (0, s, (a : Int), true) := by
  unfold numR
  rcases num_cases s a with ⟨n, a', e, g⟩ | ⟨c, hc, e⟩
  · left; exact ⟨n, a', by rw [e]; rfl, g⟩
  · right; rw [e, if_neg hc]
/-- One text, read: the text, the place, whether it failed. -/
def textR (s : Str) (a : Nat) : Str × Str × Int × Bool := if (getTextZ s a).2.2 = 0 then ((getTextZ s a).1, s, (getTextZ s a).2.1, false) else ([], s, (a : Int), true)
theorem textR_cases (s : Str) (a : Nat) : (∃ t a', textR s a = (t, s, ((a' : Nat) : Int), false) ∧ GotT s a t a') ∨ textR s a = ([], s, (a : Int), true) := by
  unfold textR
  rcases text_cases s a with ⟨n, a', e, g⟩ | ⟨c, hc, e⟩
  · left; exact ⟨n, a', by rw [e]; rfl, g⟩
  · right; rw [e, if_neg hc]
end Go.Proofs.YtaajcllchbnjiaaE

namespace Go.Proofs.YtaajcllchbnjiaaE
open Go
set_option linter.unusedVariables false
theorem beqd (a b : Int) : (a == b) = decide (a = b) := by rw [Bool.eq_iff_iff]; simp
theorem w8u (i : Nat) (h : i < 9223372036854775807) : IntKind.wrap .i64 ((i : Int) + 1) = ((i + 1 : Nat) : Int) := wsuc h
theorem half32 (r : Nat) : shr .u32 (r : Int) 1 = ((r / 2 : Nat) : Int) := shr_nat .u32 r 1 (by decide)
theorem sl0 : ∀ (n r j : Nat), n ≤ 8 → r < 4294967296 → n < j → spec_l01Crc.l0 j (r : Int) ((8 - n : Nat) : Int) = some ((crcBits n r : Nat) : Int)
  | n, r, 0, _, _, h => absurd h (Nat.not_lt_zero n)
  | 0, r, j + 1, _, _, _ => by
    unfold spec_l01Crc.l0
    rfl
  | n + 1, r, j + 1, hn, hr, hj => by
    have e : IntKind.wrap .i64 (((8 - (n + 1) : Nat) : Int) + 1) = ((8 - n : Nat) : Int) := by rw [w64] <;> omega
    unfold spec_l01Crc.l0
    rw [decide_eq_true (by omega : (((8 - (n + 1) : Nat) : Int)) < 8), band1 _ hr, half32, e, nneg_some (by omega), beqd]
    simp only [cond_true, Option.bind_some]
    by_cases hp : r % 2 = 1
    · rw [decide_eq_true (by omega : ((r % 2 : Nat) : Int) = 1), show (3988292384 : Int) = ((3988292384 : Nat) : Int) from rfl, bx32 _ _ (by omega) (by omega)]
      have e2 : crcBit r = r / 2 ^^^ 3988292384 := by unfold crcBit; rw [if_pos hp]
      rw [cond_true, ← e2]
      exact sl0 n (crcBit r) j (by omega) (crcBit_lt hr) (by omega)
    · rw [decide_eq_false (by omega : ¬ (((r % 2 : Nat) : Int) = 1))]
      have e2 : crcBit r = r / 2 := by unfold crcBit; rw [if_neg hp]
      rw [cond_false, ← e2]
      exact sl0 n (crcBit r) j (by omega) (crcBit_lt hr) (by omega)
theorem sl1 (x : Str) (hx : x.length ≤ 140737488351232) (k : Nat) (hk : 9 ≤ k) : ∀ (d i r j : Nat), x.length - i = d → i ≤ x.length → r < 4294967296 → d < j → spec_l01Crc.l1 k j x (r : Int) (i : Int) = some ((crcRun (x.drop i) r : Nat) : Int)
  | d, i, r, 0, _, _, _, h => absurd h (Nat.not_lt_zero d)
  | 0, i, r, j + 1, hd, hi, hr, _ => by
    unfold spec_l01Crc.l1
    rw [decide_eq_false (by omega : ¬ ((i : Int) < (x.length : Int))), List.drop_eq_nil_of_le (by omega)]
    rfl
  | d + 1, i, r, j + 1, hd, hi, hr, hj => by
    have hlt : i < x.length := by omega
    have hc := byte_lt x[i]
    unfold spec_l01Crc.l1
    rw [decide_eq_true (by omega : (i : Int) < (x.length : Int)), at_nat hlt]
    simp only [cond_true, Option.bind_some]
    have hxr := x32 hr (show x[i].toNat < 4294967296 by omega)
    rw [u32w, show (((x[i].toNat : Nat) : Int) % 4294967296) = ((x[i].toNat : Nat) : Int) by omega, bx32 _ _ hr (by omega), wsuc (by omega)]
    have h8 := sl0 8 (r ^^^ x[i].toNat) k (Nat.le_refl _) hxr (by omega)
    have h8 : spec_l01Crc.l0 k ((r ^^^ x[i].toNat : Nat) : Int) 0 = some ((crcBits 8 (r ^^^ x[i].toNat) : Nat) : Int) := h8
    rw [h8, List.drop_eq_getElem_cons hlt]
    simp only [Option.bind_some]
    exact sl1 x hx k hk d (i + 1) _ j (by omega) (by omega) (crcBits_lt 8 hxr) (by omega)
theorem sCrc (c : Nat) (s : Str) (hc : c < 4294967296) (hs : s.length ≤ 140737488351232) : Ever fun k => spec_l01Crc k (c : Int) s = some ((crcOf c s : Nat) : Int) := by
  refine Ever.ge (s.length + 9) fun k hk => ?_
  have h := sl1 s hs k (by omega) s.length 0 (c ^^^ 4294967295) k (by omega) (by omega) (x32 hc (by omega)) (by omega)
  have h : spec_l01Crc.l1 k k s ((c ^^^ 4294967295 : Nat) : Int) 0 = some ((crcRun s (c ^^^ 4294967295) : Nat) : Int) := h
  unfold spec_l01Crc
  rw [u32w, show ((c : Int) % 4294967296) = (c : Int) by omega, show (4294967295 : Int) = ((4294967295 : Nat) : Int) from rfl, bx32 _ _ hc (by omega), h]
  simp only [Option.bind_some]
  have hl := crcRun_lt s (x32 hc (show 4294967295 < 4294967296 by omega))
  have hl2 := x32 hl (show 4294967295 < 4294967296 by omega)
  rw [bx32 _ _ hl (by omega), w64 (by omega) (by omega)]
  rfl
theorem il0 (x : Str) (i : Nat) (hi : i < x.length) : ∀ (n s r j : Nat), n ≤ 8 → s < 4294967296 → r = s ^^^ (x[i].toNat / 2 ^ (8 - n)) → n < j → impl_crcMore.l0 j x (r : Int) (i : Int) ((8 - n : Nat) : Int) = some ((crcBits n s : Nat) : Int)
  | n, s, r, 0, _, _, _, h => absurd h (Nat.not_lt_zero n)
  | 0, s, r, j + 1, _, _, hr, _ => by
    have hc := byte_lt x[i]
    have : x[i].toNat / 2 ^ (8 - 0) = 0 := Nat.div_eq_of_lt (by simpa using hc)
    rw [this, Nat.xor_zero] at hr
    subst hr
    unfold impl_crcMore.l0
    rfl
  | n + 1, s, r, j + 1, hn, hs, hr, hj => by
    have hc := byte_lt x[i]
    have e : IntKind.wrap .i64 (((8 - (n + 1) : Nat) : Int) + 1) = ((8 - n : Nat) : Int) := by rw [w64] <;> omega
    have ih := il0 x i hi n (crcBit s)
    unfold impl_crcMore.l0
    rw [decide_eq_true (by omega : (((8 - (n + 1) : Nat) : Int)) < 8), at_nat hi]
    simp only [cond_true, Option.bind_some]
    generalize x[i].toNat = c at hc hr ih ⊢
    have hcd : c / 2 ^ (8 - (n + 1)) < 256 := Nat.lt_of_le_of_lt (Nat.div_le_self _ _) hc
    have hrl : r < 4294967296 := by rw [hr]; exact x32 hs (by omega)
    have hsr : r ^^^ (c / 2 ^ (8 - (n + 1))) = s := by rw [hr, Nat.xor_assoc, Nat.xor_self, Nat.xor_zero]
    have hhalf : r / 2 = s / 2 ^^^ (c / 2 ^ (8 - n)) := by
      have e1 : c / 2 ^ (8 - n) = (c / 2 ^ (8 - (n + 1))) / 2 := by rw [Nat.div_div_eq_div_mul, ← Nat.pow_succ]; congr 2; omega
      rw [hr, e1]
      have := @Nat.shiftRight_xor_distrib 1 s (c / 2 ^ (8 - (n + 1)))
      simpa [Nat.shiftRight_eq_div_pow] using this
    rw [u32w, show ((c : Int) % 4294967296) = (c : Int) by omega, shr_nat .u32 c (8 - (n + 1)) (by show 8 - (n + 1) ≤ 32; omega), bx32 _ _ hrl (by omega), hsr, band1 _ hs, half32, e, nneg_some (by omega), nneg_some (by omega), beqd]
    simp only [Option.bind_some]
    by_cases hp : s % 2 = 1
    · rw [decide_eq_true (by omega : ((s % 2 : Nat) : Int) = 1), show (3988292384 : Int) = ((3988292384 : Nat) : Int) from rfl, bx32 _ _ (by omega) (by omega), cond_true]
      refine ih _ j (by omega) (crcBit_lt hs) ?_ (by omega)
      unfold crcBit
      rw [if_pos hp, hhalf, Nat.xor_assoc, Nat.xor_assoc, Nat.xor_comm (c / 2 ^ (8 - n))]
    · rw [decide_eq_false (by omega : ¬ (((s % 2 : Nat) : Int) = 1)), cond_false]
      refine ih _ j (by omega) (crcBit_lt hs) ?_ (by omega)
      unfold crcBit
      rw [if_neg hp, hhalf]
theorem il1 (x : Str) (hx : x.length ≤ 140737488351232) (k : Nat) (hk : 9 ≤ k) : ∀ (d i r j : Nat), x.length - i = d → i ≤ x.length → r < 4294967296 → d < j → impl_crcMore.l1 k j x (r : Int) (x.length : Int) (i : Int) = some ((crcRun (x.drop i) r : Nat) : Int)
  | d, i, r, 0, _, _, _, h => absurd h (Nat.not_lt_zero d)
  | 0, i, r, j + 1, hd, hi, hr, _ => by
    unfold impl_crcMore.l1
    rw [decide_eq_false (by omega : ¬ ((i : Int) < (x.length : Int))), List.drop_eq_nil_of_le (by omega)]
    rfl
  | d + 1, i, r, j + 1, hd, hi, hr, hj => by
    have hlt : i < x.length := by omega
    have hc := byte_lt x[i]
    unfold impl_crcMore.l1
    rw [decide_eq_true (by omega : (i : Int) < (x.length : Int))]
    have hxr := x32 hr (show x[i].toNat < 4294967296 by omega)
    have h8 := il0 x i hlt 8 (r ^^^ x[i].toNat) r k (Nat.le_refl _) hxr (by simp [Nat.xor_assoc]) (by omega)
    have h8 : impl_crcMore.l0 k x (r : Int) (i : Int) 0 = some ((crcBits 8 (r ^^^ x[i].toNat) : Nat) : Int) := h8
    rw [h8, List.drop_eq_getElem_cons hlt]
    simp only [cond_true, Option.bind_some]
    rw [wsuc (by omega)]
    exact il1 x hx k hk d (i + 1) _ j (by omega) (by omega) (crcBits_lt 8 hxr) (by omega)
theorem iCrc (c : Nat) (s : Str) (hc : c < 4294967296) (hs : s.length ≤ 140737488351232) : Ever fun k => impl_crcMore k (c : Int) s = some ((crcOf c s : Nat) : Int) := by
  refine Ever.ge (s.length + 9) fun k hk => ?_
  have h := il1 s hs k (by omega) s.length 0 (c ^^^ 4294967295) k (by omega) (by omega) (x32 hc (by omega)) (by omega)
  have h : impl_crcMore.l1 k k s ((c ^^^ 4294967295 : Nat) : Int) (s.length : Int) 0 = some ((crcRun s (c ^^^ 4294967295) : Nat) : Int) := h
  unfold impl_crcMore
  rw [show (IntKind.max .u32 : Int) = ((4294967295 : Nat) : Int) from rfl, bx32 _ _ (by omega) hc, Nat.xor_comm, h]
  simp only [Option.bind_some]
  have hl := crcRun_lt s (x32 hc (show 4294967295 < 4294967296 by omega))
  rw [bx32 _ _ (by omega) hl, Nat.xor_comm]
  rfl
theorem sFour (n : Nat) : spec_l01Four (n : Int) = some (four n) := by
  unfold spec_l01Four four
  have h8 := shr_nat .i64 n 8 (by decide)
  have h16 := shr_nat .i64 n 16 (by decide)
  have h24 := shr_nat .i64 n 24 (by decide)
  have h8 : shr .i64 (n : Int) 8 = ((n / 256 : Nat) : Int) := h8
  have h16 : shr .i64 (n : Int) 16 = ((n / 65536 : Nat) : Int) := h16
  have h24 : shr .i64 (n : Int) 24 = ((n / 16777216 : Nat) : Int) := h24
  rw [nneg_some (by omega), nneg_some (by omega), nneg_some (by omega)]
  simp only [Option.bind_some]
  rw [h8, h16, h24, u8w, u8w, u8w, u8w]
  rfl
theorem sSeal (s : Str) (hs : s.length ≤ 7996) : Ever fun k => spec_Seal k s = some (sealOf s) := by
  refine (sCrc 0 s (by omega) (by omega)).mono fun k h => ?_
  have h : spec_l01Crc k 0 s = some ((crcOf 0 s : Nat) : Int) := h
  unfold spec_Seal
  rw [decide_eq_false (by omega : ¬ (7996 < (s.length : Int))), h]
  simp only [cond_false, Option.bind_some]
  rw [sFour]
  simp only [Option.bind_some]
  rw [cat_some (by rw [four_len]; omega)]
  rfl
theorem iSeal (s : Str) (hs : s.length ≤ 140737488351232) : Ever fun k => impl_seal k s = some (sealOf s) := by
  refine (iCrc 0 s (by omega) (by omega)).mono fun k h => ?_
  have h : impl_crcMore k 0 s = some ((crcOf 0 s : Nat) : Int) := h
  have h8 := shr_nat .u32 (crcOf 0 s) 8 (by decide)
  have h16 := shr_nat .u32 (crcOf 0 s) 16 (by decide)
  have h24 := shr_nat .u32 (crcOf 0 s) 24 (by decide)
  have h8 : shr .u32 ((crcOf 0 s : Nat) : Int) 8 = ((crcOf 0 s / 256 : Nat) : Int) := h8
  have h16 : shr .u32 ((crcOf 0 s : Nat) : Int) 16 = ((crcOf 0 s / 65536 : Nat) : Int) := h16
  have h24 : shr .u32 ((crcOf 0 s : Nat) : Int) 24 = ((crcOf 0 s / 16777216 : Nat) : Int) := h24
  unfold impl_seal
  rw [h, nneg_some (by omega), nneg_some (by omega), nneg_some (by omega)]
  simp only [Option.bind_some]
  rw [h8, h16, h24, u8w, u8w, u8w, u8w]
  have e : listByte [((crcOf 0 s : Nat) : Int) % 256, ((crcOf 0 s / 256 : Nat) : Int) % 256, ((crcOf 0 s / 65536 : Nat) : Int) % 256, ((crcOf 0 s / 16777216 : Nat) : Int) % 256] = four (crcOf 0 s) := rfl
  rw [e, cat_some (by rw [four_len]; omega)]
  rfl
theorem beq_str (s t : Str) : (s == t) = decide (s = t) := by rw [Bool.eq_iff_iff]; simp
end Go.Proofs.YtaajcllchbnjiaaE

namespace Go.Proofs.YtaajcllchbnjiaaE
open Go
set_option linter.unusedVariables false
theorem sFold (n : Int) (h : Num n) : spec_l01Fold n = some ((zig n : Nat) : Int) := by
  unfold Num at h
  unfold spec_l01Fold zig
  simp only [u64w]
  by_cases hn : n < 0
  · rw [decide_eq_true hn, if_pos hn, w64 (n := n + 1) (by omega) (by omega), w64 (by omega) (by omega)]
    rw [cond_true]
    congr 1
    omega
  · rw [decide_eq_false hn, if_neg hn, cond_false]
    congr 1
    omega
theorem sput : ∀ (f u : Nat) (acc : List Int) (j : Nat), u < 128 ^ f → u < 18446744073709551616 → acc.length + f ≤ 100 → 0 < f → f < j + 1 → ∃ p : Int × List Int, spec_PutNum.l0 j (u : Int) acc = some p ∧ p.2.length ≤ 100 ∧ p.2 ++ [IntKind.wrap .u8 p.1] = acc ++ groups f u
  | 0, _, _, _, _, _, _, h, _ => absurd h (by omega)
  | f + 1, u, acc, 0, hu, hb, hl, _, hj => by omega
  | f + 1, u, acc, j + 1, hu, hb, hl, _, hj => by
    unfold spec_PutNum.l0
    by_cases h : 128 ≤ u
    · have hf : 0 < f := by
        rcases Nat.eq_zero_or_pos f with rfl | h'
        · simp at hu; omega
        · exact h'
      obtain ⟨p, e, e1, e2⟩ := sput f (u / 128) (acc ++ [((u % 128 + 128 : Nat) : Int)]) j (by rw [Nat.pow_succ] at hu; exact Nat.div_lt_of_lt_mul (by rw [Nat.mul_comm]; exact hu)) (by omega) (by simp; omega) hf (by omega)
      refine ⟨p, ?_, e1, ?_⟩
      · rw [decide_eq_true (by omega : (128 : Int) ≤ (u : Int)), nz_some (by omega : (128 : Int) ≠ 0)]
        simp only [cond_true, Option.bind_some]
        rw [app_ok (by simp; omega), u8w, u64w, u64w, Int.tmod_eq_emod_of_nonneg (by omega), Int.tdiv_eq_ediv_of_nonneg (by omega)]
        simp only [Option.bind_some]
        rw [show (((u : Int) / 128) % 18446744073709551616) = ((u / 128 : Nat) : Int) by omega, show ((((u : Int) % 128 + 128) % 18446744073709551616) % 256) = ((u % 128 + 128 : Nat) : Int) by omega]
        exact e
      · rw [e2, List.append_assoc]
        simp [groups, h]
    · refine ⟨((u : Int), acc), ?_, by show acc.length ≤ 100; omega, ?_⟩
      · rw [decide_eq_false (by omega : ¬ ((128 : Int) ≤ (u : Int)))]
        rfl
      · show acc ++ [IntKind.wrap .u8 (u : Int)] = _
        rw [u8w, show ((u : Int) % 256) = (u : Int) by omega]
        simp [groups, h]
theorem sPutNum (n : Int) (h : Num n) : Ever fun k => spec_PutNum k n = some (putOf n) := by
  refine Ever.ge 10 fun k hk => ?_
  have hz := zig_lt h
  obtain ⟨p, e, e1, e2⟩ := sput 10 (zig n) [] k (by omega) hz (by simp) (by omega) (by omega)
  unfold spec_PutNum
  rw [sFold n h]
  simp only [Option.bind_some]
  rw [e]
  simp only [Option.bind_some]
  rw [app_ok (by simp; omega), e2]
  rfl
theorem drop_cases (s : Str) (j : Nat) : (s.drop j = [] ∧ s.length ≤ j) ∨ ∃ h : j < s.length, s.drop j = s[j] :: s.drop (j + 1) := by
  by_cases h : j < s.length
  · exact .inr ⟨h, List.drop_eq_getElem_cons h⟩
  · exact .inl ⟨List.drop_eq_nil_of_le (by omega), by omega⟩
section
variable (s : Str) (a : Nat) (ha : a < 9223372036854775000)
include ha
end
end Go.Proofs.YtaajcllchbnjiaaE

namespace Go.Proofs.YtaajcllchbnjiaaE
open Go
set_option linter.unusedVariables false
theorem sPutText (s : Str) (h : s.length ≤ 8000) : Ever fun k => spec_PutText k s = some (putTextOf s) := by
  refine (sPutNum (s.length : Int) ⟨by omega, by omega⟩).mono fun k hk => ?_
  have := putOf_len (s.length : Int)
  unfold spec_PutText
  rw [decide_eq_false (by omega : ¬ (8000 < (s.length : Int))), hk]
  simp only [cond_false, Option.bind_some]
  rw [cat_some (by omega)]
  rfl
section
variable (s : Str) (a : Nat) (ha : a < 9223372036854775000)
include ha
end
end Go.Proofs.YtaajcllchbnjiaaE

namespace Go.Proofs.YtaajcllchbnjiaaE
open Go
set_option linter.unusedVariables false
/-- Three numbers and a text from the start of s, and where they end. -/
def quadZ (s : Str) : Option (Int × Int × Int × Str × Nat) :=
  if (numR s 0).2.2.2 = true then none else
  if (numR s (numR s 0).2.2.1.toNat).2.2.2 = true then none else
  if (numR s (numR s (numR s 0).2.2.1.toNat).2.2.1.toNat).2.2.2 = true then none else
  if (textR s (numR s (numR s (numR s 0).2.2.1.toNat).2.2.1.toNat).2.2.1.toNat).2.2.2 = true then none else
  some ((numR s 0).1, (numR s (numR s 0).2.2.1.toNat).1, (numR s (numR s (numR s 0).2.2.1.toNat).2.2.1.toNat).1, (textR s (numR s (numR s (numR s 0).2.2.1.toNat).2.2.1.toNat).2.2.1.toNat).1, (textR s (numR s (numR s (numR s 0).2.2.1.toNat).2.2.1.toNat).2.2.1.toNat).2.2.1.toNat)
theorem head_whole {s : Str} {x y z : Int} {t : Str} {a b c d : Nat} (g1 : Got s 0 x a) (g2 : Got s a y b) (g3 : Got s b z c) (g4 : GotT s c t d) : putOf x ++ putOf y ++ putOf z ++ putTextOf t = s ↔ d = s.length := by
  have e1 := g1.eq
  have e2 := g2.eq
  have e3 := g3.eq
  have e4 := g4.eq
  rw [List.drop_zero] at e1
  constructor
  · intro h
    have h1 := congrArg List.length h
    rw [List.length_append, List.length_append, List.length_append] at h1
    have := g1.at'; have := g2.at'; have := g3.at'; have := g4.at'
    omega
  · rintro rfl
    rw [List.drop_of_length_le (l := s) (i := s.length) (Nat.le_refl _), List.append_nil] at e4
    rw [← e4, List.append_assoc, ← e3, List.append_assoc, ← e2, ← e1]
/-- What was found stands there. -/
theorem quad_got {s : Str} {x y z : Int} {t : Str} {d : Nat} (h : quadZ s = some (x, y, z, t, d)) : ∃ a b c, Got s 0 x a ∧ Got s a y b ∧ Got s b z c ∧ GotT s c t d := by
  unfold quadZ at h
  rcases numR_cases s 0 with ⟨x', a, e1, g1⟩ | e1
  · rw [e1] at h
    simp only [Int.toNat_natCast, Bool.false_eq_true, if_false] at h
    rcases numR_cases s a with ⟨y', b, e2, g2⟩ | e2
    · rw [e2] at h
      simp only [Int.toNat_natCast, Bool.false_eq_true, if_false] at h
      rcases numR_cases s b with ⟨z', c, e3, g3⟩ | e3
      · rw [e3] at h
        simp only [Int.toNat_natCast, Bool.false_eq_true, if_false] at h
        rcases textR_cases s c with ⟨t', d', e4, g4⟩ | e4
        · rw [e4] at h
          simp only [Int.toNat_natCast, Bool.false_eq_true, if_false, Option.some.injEq, Prod.mk.injEq] at h
          obtain ⟨rfl, rfl, rfl, rfl, rfl⟩ := h
          exact ⟨a, b, c, g1, g2, g3, g4⟩
        · rw [e4] at h; simp at h
      · rw [e3] at h; simp at h
    · rw [e2] at h; simp at h
  · rw [e1] at h; simp at h
end Go.Proofs.YtaajcllchbnjiaaE

namespace Go.Proofs.YtaajcllchbnjiaaE
open Go
set_option linter.unusedVariables false
/-- A step is right, for so many blocks. -/
def stepB (k t f : Int) (d : Str) (n : Int) : Bool :=
  if k = 1 then decide (0 ≤ t) && decide (t ≤ n - 1) && decide (f = 0) && (d == [])
  else if k = 2 then decide (0 ≤ t) && decide (t ≤ n - 1) && decide (f = 0) && decide ((d.length : Int) = 8)
  else if k = 3 then decide (0 ≤ t) && decide (t ≤ n - 1) && (decide (0 ≤ f) && decide (f ≤ n - 1)) && (d == [])
  else if k = 4 then decide (0 ≤ t) && decide (t ≤ n - 1) && (decide (0 ≤ f) && decide (f ≤ n - 1)) && decide ((d.length : Int) = 8)
  else if k = 5 then decide (t = 0) && (decide (0 ≤ f) && decide (f ≤ 1000000)) && (d == [])
  else false
theorem sStep (k t f : Int) (d : Str) (n : Int) (h1 : 1 ≤ n) (h2 : n ≤ 8) : spec_StepRight (k, (t, (f, d))) n = some (stepB k t f d n) := by
  unfold spec_StepRight spec_l03Is stepB
  simp only [Option.bind_some]
  rw [w64 (n := n - 1) (by omega) (by omega), decide_eq_true h1, decide_eq_true h2]
  simp only [beqd]
  generalize (decide (0 ≤ t) && decide (t ≤ n - 1)) = P
  generalize (decide (0 ≤ f) && decide (f ≤ n - 1)) = Q
  generalize (decide (0 ≤ f) && decide (f ≤ 1000000)) = R
  generalize (d == ([] : Str)) = E
  generalize decide ((d.length : Int) = 8) = Z
  by_cases c1 : k = 1
  · subst c1; cases P <;> by_cases h : f = 0 <;> simp [h]
  by_cases c2 : k = 2
  · subst c2; cases P <;> by_cases h : f = 0 <;> simp [h]
  by_cases c3 : k = 3
  · subst c3; cases P <;> cases Q <;> simp
  by_cases c4 : k = 4
  · subst c4; cases P <;> cases Q <;> simp
  by_cases c5 : k = 5
  · subst c5; cases R <;> by_cases h : t = 0 <;> simp [h]
  simp [c1, c2, c3, c4, c5]
theorem sStepNo (k t f : Int) (d : Str) (n : Int) (h : ¬ (1 ≤ n ∧ n ≤ 8)) : spec_StepRight (k, (t, (f, d))) n = some false := by
  unfold spec_StepRight spec_l03Is
  simp only [Option.bind_some]
  rw [show (decide (1 ≤ n) && decide (n ≤ 8)) = false by rw [Bool.eq_false_iff, Ne, Bool.and_eq_true, decide_eq_true_eq, decide_eq_true_eq]; exact h]
  rfl
theorem iStep (k t f : Int) (d : Str) (n : Int) (h1 : 1 ≤ n) (h2 : n ≤ 8) : impl_isStep (k, (t, (f, d))) n = some (stepB k t f d n) := by
  have hw : IntKind.wrap .i64 (n - 1) = n - 1 := w64 (by omega) (by omega)
  unfold impl_isStep
  simp only [impl_within, impl_isTime, Option.bind_some, hw, impl_isStep.j0, impl_isStep.j1, stepB, beqd]
  generalize (decide (0 ≤ t) && decide (t ≤ n - 1)) = P
  generalize (decide (0 ≤ f) && decide (f ≤ n - 1)) = Q
  generalize (d == ([] : Str)) = E
  by_cases c1 : k = 1
  · subst c1; cases P <;> by_cases h : f = 0 <;> simp [h]
  by_cases c2 : k = 2
  · subst c2; cases P <;> by_cases h : f = 0 <;> simp [h]
  by_cases c3 : k = 3
  · subst c3; cases P <;> cases Q <;> simp
  by_cases c4 : k = 4
  · subst c4; cases P <;> cases Q <;> simp
  by_cases c5 : k = 5
  · subst c5; cases E <;> by_cases h : t = 0 <;> simp [h]
  have hk : (decide (1 ≤ k) && decide (k ≤ 5)) = false := by
    rw [Bool.eq_false_iff, Ne, Bool.and_eq_true, decide_eq_true_eq, decide_eq_true_eq]; omega
  simp [c1, c2, c3, c4, c5, hk]
theorem stepB_data {k t f : Int} {d : Str} {n : Int} (h : stepB k t f d n = true) : d.length ≤ 8 := by
  unfold stepB at h
  have e : (d == ([] : Str)) = true → d.length ≤ 8 := fun q => by
    rw [beq_str] at q
    rw [of_decide_eq_true q]; simp
  have e8 : decide ((d.length : Int) = 8) = true → d.length ≤ 8 := fun q => by
    have := of_decide_eq_true q; omega
  split at h
  · exact e ((Bool.and_eq_true _ _).mp h).2
  split at h
  · exact e8 ((Bool.and_eq_true _ _).mp h).2
  split at h
  · exact e ((Bool.and_eq_true _ _).mp h).2
  split at h
  · exact e8 ((Bool.and_eq_true _ _).mp h).2
  split at h
  · exact e ((Bool.and_eq_true _ _).mp h).2
  · cases h
/-- A step, read from the body of a text. -/
def stepOf (s : Str) : Option (Int × Int × Int × Str) := match quadZ s with
  | some (x, y, z, t, d) => if d = s.length ∧ stepB x y z t 8 = true then some (x, y, z, t) else none
  | none => none
theorem stepOf_right {s : Str} {x y z : Int} {t : Str} (h : stepOf s = some (x, y, z, t)) : stepB x y z t 8 = true := by
  unfold stepOf at h
  split at h
  · split at h
    · rename_i hq
      cases h
      exact hq.2
    · cases h
  · cases h
theorem puts4 (x y z : Int) (t : Str) (hx : Num x) (hy : Num y) (hz : Num z) (ht : t.length ≤ 8000) : Ever fun k => spec_PutNum k x = some (putOf x) ∧ spec_PutNum k y = some (putOf y) ∧ spec_PutNum k z = some (putOf z) ∧ spec_PutText k t = some (putTextOf t) :=
  ((sPutNum x hx).and ((sPutNum y hy).and ((sPutNum z hz).and (sPutText t ht))))
theorem empty_ne {s : Str} (h : 1 ≤ s.length) : (([] : Str) == s) = false := by
  cases s with
  | nil => exact absurd h (by simp)
  | cons _ _ => rfl
/-! ### heads -/
def headB (x y z : Int) (t : Str) : Bool := (decide (1 ≤ x) && decide (x ≤ 8)) && ((decide (1 ≤ y) && decide (y ≤ 20)) && ((decide (0 ≤ z) && decide (z ≤ 4)) && decide ((t.length : Int) = 32)))
theorem sHead (x y z : Int) (t : Str) : spec_HeadRight (x, (y, (z, t))) = some (headB x y z t) := by
  unfold spec_HeadRight spec_l03Is headB
  simp only [Option.bind_some, beqd]
  cases (decide (1 ≤ x) && decide (x ≤ 8)) <;> cases (decide (1 ≤ y) && decide (y ≤ 20)) <;> rfl
theorem headB_is {x y z : Int} {t : Str} (h : headB x y z t = true) : (1 ≤ x ∧ x ≤ 8) ∧ (1 ≤ y ∧ y ≤ 20) ∧ (0 ≤ z ∧ z ≤ 4) ∧ t.length = 32 := by
  unfold headB at h
  simp only [Bool.and_eq_true, decide_eq_true_eq] at h
  omega
/-- A head, read from the body of a text: the head, or none. -/
def headOf (s : Str) : Option (Int × Int × Int × Str) := match quadZ s with
  | some (x, y, z, t, d) => if d = s.length ∧ headB x y z t = true then some (x, y, z, t) else none
  | none => none
def headR (s : Str) : Int × Int × Int × Str × Int := if (unsealI s).2 = 0 then match headOf (bodyOf s) with
    | some (x, y, z, t) => (x, y, z, t, 0)
    | none => (0, 0, 0, [], 3) else (0, 0, 0, [], (unsealI s).2)
theorem sHeadBytes (x y z : Int) (t : Str) (hx : Num x) (hy : Num y) (hz : Num z) (ht : t.length ≤ 8000) : Ever fun k => spec_HeadBytes k (x, (y, (z, t))) = some (if headB x y z t = true then sealOf (putOf x ++ putOf y ++ putOf z ++ putTextOf t) else []) := by
  by_cases hb : headB x y z t = true
  · have hl := headB_is hb
    have l1 := putOf_len x
    have l2 := putOf_len y
    have l3 := putOf_len z
    have l4 := putTextOf_len t
    refine ((puts4 x y z t hx hy hz ht).and (sSeal (putOf x ++ putOf y ++ putOf z ++ putTextOf t) (by simp; omega))).mono fun k ⟨⟨h1, h2, h3, h4⟩, h5⟩ => ?_
    unfold spec_HeadBytes
    rw [sHead, hb, if_pos rfl]
    simp only [Option.bind_some, Bool.not_true, cond_false]
    rw [h1, h2, h3, h4]
    simp only [Option.bind_some]
    rw [cat_some (by omega)]
    simp only [Option.bind_some]
    rw [cat_some (by simp; omega)]
    simp only [Option.bind_some]
    rw [cat_some (by simp; omega)]
    simp only [Option.bind_some]
    rw [h5]
    rfl
  · refine Ever.of fun k => ?_
    unfold spec_HeadBytes
    rw [sHead, if_neg hb, Bool.eq_false_iff.2 hb]
    rfl
end Go.Proofs.YtaajcllchbnjiaaE

namespace Go.Proofs.YtaajcllchbnjiaaE
open Go
set_option linter.unusedVariables false
abbrev StepT := Int × Int × Int × Str
def szF (s : Int) (x : StepT) : Int ⊕ (Int ⊕ Int) := if s < (x.2.2.2.length : Int) then .inr (.inr (-1)) else .inl (s - (x.2.2.2.length : Int))
theorem szRun : ∀ (l : List StepT) (s : Int), 0 ≤ s → (∃ v, runL szF (fun s => .inl s) l s = .inl v ∧ 0 ≤ v ∧ v ≤ s ∧ ∀ x ∈ l, (x.2.2.2.length : Int) ≤ s) ∨ runL szF (fun s => .inl s) l s = .inr (-1)
  | [], s, h => .inl ⟨s, rfl, h, Int.le_refl _, fun x hx => nomatch hx⟩
  | x :: l, s, h => by
    by_cases hx : s < (x.2.2.2.length : Int)
    · exact .inr (runL_inr (by unfold szF; rw [if_pos hx]))
    · rw [runL_inl (by unfold szF; rw [if_neg hx])]
      rcases szRun l (s - (x.2.2.2.length : Int)) (by omega) with ⟨v, h1, h2, h3, h4⟩ | h1
      · refine .inl ⟨v, h1, h2, by omega, fun y hy => ?_⟩
        rcases List.mem_cons.1 hy with rfl | hy
        · omega
        · have := h4 y hy; omega
      · exact .inr h1
theorem szStep_eq (x : StepT) (n : Int) (hx : x.2.2.2.length ≤ 140737488351232) (h0 : 0 ≤ n) (h1 : n ≤ 1048576) : laws_szStep x n = some (if n < (x.2.2.2.length : Int) then -1 else n - (x.2.2.2.length : Int)) := by
  unfold laws_szStep
  rw [w64 (by omega) (by omega)]
  by_cases h : n < (x.2.2.2.length : Int)
  · rw [if_pos h]
    dsimp only
    rw [decide_eq_true (by omega : n - (x.2.2.2.length : Int) < 0)]
    rfl
  · rw [if_neg h]
    dsimp only
    rw [decide_eq_false (by omega : ¬ (n - (x.2.2.2.length : Int) < 0))]
    rfl
theorem szStepS_ok (l : List StepT) (n : Int) (hl : l.length ≤ 140737488351232) (hx : ∀ x ∈ l, x.2.2.2.length ≤ 140737488351232) (h0 : 0 ≤ n) (h1 : n ≤ 1048576) :
    ∃ v, (Ever fun k => laws_szStepS k l n = some v) ∧ v ≤ n ∧ (0 ≤ v → (l.length : Int) ≤ n ∧ ∀ x ∈ l, (x.2.2.2.length : Int) ≤ n) := by
  by_cases hn : n < (l.length : Int)
  · refine ⟨-1, Ever.of fun k => ?_, by omega, fun h => by omega⟩
    unfold laws_szStepS
    rw [w64 (by omega) (by omega)]
    dsimp only
    rw [decide_eq_true (by omega : n - (l.length : Int) < 0)]
    rfl
  · have run : ∀ k, l.length < k → laws_szStepS.l0 k l (n - (l.length : Int)) 0 = some (runL szF (fun s => .inl s) l (n - (l.length : Int))) := fun k hk =>
      loop_fold (fun j s i => laws_szStepS.l0 j l s i) l szF (fun s => .inl s) (fun _ s => 0 ≤ s ∧ s ≤ 1048576) (fun i hi s hs => by
        have e := szStep_eq l[i] s (hx _ (List.getElem_mem hi)) hs.1 hs.2
        by_cases hb : s < ((l[i]).2.2.2.length : Int)
        · refine .inr ⟨.inr (-1), by unfold szF; rw [if_pos hb], fun j => ?_⟩
          show laws_szStepS.l0 (j + 1) l s (i : Int) = _
          unfold laws_szStepS.l0
          rw [dlt hi, at_nat hi]
          simp only [cond_true, Option.bind_some]
          rw [e, if_pos hb]
          rfl
        · refine .inl ⟨s - ((l[i]).2.2.2.length : Int), by unfold szF; rw [if_neg hb], by omega, fun j => ?_⟩
          show laws_szStepS.l0 (j + 1) l s (i : Int) = laws_szStepS.l0 j l (s - ((l[i]).2.2.2.length : Int)) ((i + 1 : Nat) : Int)
          rw [laws_szStepS.l0]
          rw [dlt hi, at_nat hi]
          simp only [cond_true, Option.bind_some]
          rw [e, if_neg hb]
          simp only [Option.bind_some]
          rw [decide_eq_false (by omega : ¬ (s - ((l[i]).2.2.2.length : Int) < 0)), wsuc (by omega)]
          rfl) (fun s hs j => by
        show laws_szStepS.l0 (j + 1) l s (l.length : Int) = _
        unfold laws_szStepS.l0
        rw [dnlt (Nat.le_refl _)]
        rfl) ⟨by omega, by omega⟩ hk
    have body : ∀ k, laws_szStepS k l n = Option.bind (laws_szStepS.l0 k l (n - (l.length : Int)) 0) fun y => match y with | .inl y4 => some y4 | .inr y5 => some y5 := fun k => by
      unfold laws_szStepS
      rw [w64 (by omega) (by omega)]
      dsimp only
      rw [decide_eq_false (by omega : ¬ (n - (l.length : Int) < 0))]
      rfl
    rcases szRun l (n - (l.length : Int)) (by omega) with ⟨v, h2, h3, h4, h5⟩ | h2
    · refine ⟨v, Ever.ge (l.length + 1) fun k hk => ?_, by omega, fun _ => ⟨by omega, fun x hxl => by have := h5 x hxl; omega⟩⟩
      rw [body, run k (by omega), h2]
      rfl
    · refine ⟨-1, Ever.ge (l.length + 1) fun k hk => ?_, by omega, fun h => by omega⟩
      rw [body, run k (by omega), h2]
      rfl
theorem toStepS_eq (l : List StepT) (hl : l.length ≤ 1048576) : Ever fun k => laws_toStepS k l = some l := by
  refine Ever.ge (l.length + 1) fun k hk => ?_
  have run := copy_loop (fun j i c => laws_toStepS.l0 j l i c) l ((0, (0, (0, []))) : StepT) (fun i hi c hc j => by
    show laws_toStepS.l0 (j + 1) l (i : Int) c = laws_toStepS.l0 j l ((i + 1 : Nat) : Int) (c.set i l[i])
    rw [laws_toStepS.l0]
    rw [dlt hi, at_nat hi, at_nat (by omega : i < c.length), wsuc (by omega), Int.toNat_natCast]
    rfl) (fun c j => by
    show laws_toStepS.l0 (j + 1) l (l.length : Int) c = some c
    unfold laws_toStepS.l0
    rw [dnlt (Nat.le_refl _)]
    rfl) (k := k) (by omega)
  unfold laws_toStepS
  rw [make_some (by omega)]
  simp only [Option.bind_some]
  have run : laws_toStepS.l0 k l 0 (List.replicate l.length (0, (0, (0, [])))) = some l := run
  rw [run]
  rfl
theorem eqStep_refl (x : StepT) : laws_eqStep x x = some true := by
  unfold laws_eqStep
  simp only [bne_self_eq_false, beq_self_eq_true, Bool.not_true, cond_false]
theorem eqStepS_refl (l : List StepT) (hl : l.length ≤ 1048576) : Ever fun k => laws_eqStepS k l l = some true := by
  refine Ever.ge (l.length + 1) fun k hk => ?_
  have run := loop_at (fun j (i : Nat) => laws_eqStepS.l0 j l l (i : Int)) l.length (.inl ()) (fun i hi j => by
    show laws_eqStepS.l0 (j + 1) l l (i : Int) = laws_eqStepS.l0 j l l ((i + 1 : Nat) : Int)
    rw [laws_eqStepS.l0]
    rw [dlt hi, at_nat hi, wsuc (by omega)]
    simp only [cond_true, Option.bind_some, eqStep_refl]
    rfl) (fun j => by
    show laws_eqStepS.l0 (j + 1) l l (l.length : Int) = _
    unfold laws_eqStepS.l0
    rw [dnlt (Nat.le_refl _)]
    rfl) k (by omega)
  unfold laws_eqStepS
  rw [bne_self_eq_false]
  simp only [cond_false]
  have run : laws_eqStepS.l0 k l l 0 = some (.inl ()) := run
  rw [run]
  rfl
abbrev PkgT := Int × Str × List StepT
theorem szPackage_ok (p : PkgT) (n : Int) (hb : Bnd (.pair (.int .i64) (.pair .str (.sl (.pair (.int .i64) (.pair (.int .i64) (.pair (.int .i64) .str)))))) p) (h0 : 0 ≤ n) (h1 : n ≤ 1048576) :
    ∃ v, (Ever fun k => laws_szPackage k p n = some v) ∧ v ≤ n ∧ (0 ≤ v → (p.2.1.length : Int) ≤ n ∧ (p.2.2.length : Int) ≤ n ∧ ∀ x ∈ p.2.2, (x.2.2.2.length : Int) ≤ n) := by
  have hd : p.2.1.length ≤ 140737488351232 := hb.2.1
  by_cases hn : n < (p.2.1.length : Int)
  · refine ⟨-1, Ever.of fun k => ?_, by omega, fun h => by omega⟩
    unfold laws_szPackage
    rw [w64 (by omega) (by omega)]
    dsimp only
    rw [decide_eq_true (by omega : n - (p.2.1.length : Int) < 0)]
    rfl
  · obtain ⟨v, h2, h3, h4⟩ := szStepS_ok p.2.2 (n - (p.2.1.length : Int)) hb.2.2.1 (fun x hx => (hb.2.2.2 x hx).2.2.2) (by omega) (by omega)
    have body : ∀ k, laws_szPackage k p n = Option.bind (laws_szStepS k p.2.2 (n - (p.2.1.length : Int))) fun v4 => bif decide (v4 < 0) then some (-1) else some v4 := fun k => by
      unfold laws_szPackage
      rw [w64 (by omega) (by omega)]
      dsimp only
      rw [decide_eq_false (by omega : ¬ (n - (p.2.1.length : Int) < 0))]
      rfl
    by_cases hv : v < 0
    · refine ⟨-1, h2.mono fun k e => ?_, by omega, fun h => by omega⟩
      rw [body, e]
      simp only [Option.bind_some]
      rw [decide_eq_true hv]
      rfl
    · refine ⟨v, h2.mono fun k e => ?_, by omega, fun h => ⟨by omega, by have := (h4 (by omega)).1; omega, fun x hx => by have := (h4 (by omega)).2 x hx; omega⟩⟩
      rw [body, e]
      simp only [Option.bind_some]
      rw [decide_eq_false hv]
      rfl
theorem toPackage_eq (p : PkgT) (hl : p.2.2.length ≤ 1048576) : Ever fun k => laws_toPackage k p = some p := by
  refine (toStepS_eq p.2.2 hl).mono fun k e => ?_
  unfold laws_toPackage
  rw [e]
  rfl
theorem eqPackage_refl (p : PkgT) (hl : p.2.2.length ≤ 1048576) : Ever fun k => laws_eqPackage k p p = some true := by
  refine (eqStepS_refl p.2.2 hl).mono fun k e => ?_
  unfold laws_eqPackage
  rw [e]
  simp only [bne_self_eq_false, beq_self_eq_true, Bool.not_true, cond_false, Option.bind_some]
end Go.Proofs.YtaajcllchbnjiaaE

namespace Go.Proofs.YtaajcllchbnjiaaE
open Go
set_option linter.unusedVariables false
theorem loop_inv {S R : Type} (L : Nat → S → Option R) (m : S → Nat) (I : S → Prop) (Q : R → Prop) (step : ∀ s, I s → (∃ r, (∀ j, L (j + 1) s = some r) ∧ Q r) ∨ ∃ s', I s' ∧ m s' < m s ∧ ∀ j, L (j + 1) s = L j s') : ∀ (n : Nat) (s : S) (j : Nat), I s → m s ≤ n → n < j → ∃ r, L j s = some r ∧ Q r := by
  intro n
  induction n with
  | zero =>
    intro s j hi hm hj
    obtain ⟨j, rfl⟩ : ∃ q, j = q + 1 := ⟨j - 1, by omega⟩
    rcases step s hi with ⟨r, hr, hq⟩ | ⟨s', _, hm', _⟩
    · exact ⟨r, hr j, hq⟩
    · omega
  | succ n ih =>
    intro s j hi hm hj
    obtain ⟨j, rfl⟩ : ∃ q, j = q + 1 := ⟨j - 1, by omega⟩
    rcases step s hi with ⟨r, hr, hq⟩ | ⟨s', hi', hm', hs⟩
    · exact ⟨r, hr j, hq⟩
    · rw [hs j]
      exact ih s' j hi' (by omega) (by omega)
/-- The same, whatever the fuel. -/
theorem loop_uni {S R : Type} (L : Nat → S → Option R) (m : S → Nat) (I : S → Prop) (Q : R → Prop) (step : ∀ s, I s → (∃ r, (∀ j, L (j + 1) s = some r) ∧ Q r) ∨ ∃ s', I s' ∧ m s' < m s ∧ ∀ j, L (j + 1) s = L j s') : ∀ (n : Nat) (s : S), I s → m s ≤ n → ∃ r, Q r ∧ ∀ j, n < j → L j s = some r := by
  intro n
  induction n with
  | zero =>
    intro s hi hm
    rcases step s hi with ⟨r, hr, hq⟩ | ⟨s', _, hm', _⟩
    · refine ⟨r, hq, fun j hj => ?_⟩
      obtain ⟨j, rfl⟩ : ∃ q, j = q + 1 := ⟨j - 1, by omega⟩
      exact hr j
    · omega
  | succ n ih =>
    intro s hi hm
    rcases step s hi with ⟨r, hr, hq⟩ | ⟨s', hi', hm', hs⟩
    · refine ⟨r, hq, fun j hj => ?_⟩
      obtain ⟨j, rfl⟩ : ∃ q, j = q + 1 := ⟨j - 1, by omega⟩
      exact hr j
    · obtain ⟨r, hq, hr⟩ := ih s' hi' (by omega)
      refine ⟨r, hq, fun j hj => ?_⟩
      obtain ⟨j, rfl⟩ : ∃ q, j = q + 1 := ⟨j - 1, by omega⟩
      rw [hs j]
      exact hr j (by omega)
theorem at_in {α : Type} {l : List α} {i : Int} (h : 0 ≤ i) (h2 : i < (l.length : Int)) : ∃ x, at? l i = some x ∧ x ∈ l := by
  obtain ⟨n, rfl⟩ : ∃ n : Nat, i = (n : Int) := ⟨i.toNat, by omega⟩
  exact ⟨l[n]'(by omega), at_nat (by omega), List.getElem_mem _⟩
theorem wid {n : Int} (h0 : 0 ≤ n) (h1 : n < 9223372036854775808) : IntKind.wrap .i64 n = n := w64 (by omega) h1
theorem wuid {n : Int} (h0 : 0 ≤ n) (h1 : n < 18446744073709551616) : IntKind.wrap .u64 n = n := by rw [u64w]; omega
theorem cut_in {α : Type} {l : List α} {i j : Int} (h0 : 0 ≤ i) (h1 : i ≤ j) (h2 : j ≤ (l.length : Int)) : ∃ t, cut? l i j = some t ∧ (t.length : Int) = j - i := by
  obtain ⟨a, rfl⟩ : ∃ n : Nat, i = (n : Int) := ⟨i.toNat, by omega⟩
  obtain ⟨b, rfl⟩ : ∃ n : Nat, j = (n : Int) := ⟨j.toNat, by omega⟩
  refine ⟨_, cut_ok (by omega) (by omega), ?_⟩
  rw [List.length_drop, List.length_take]
  omega
end Go.Proofs.YtaajcllchbnjiaaE

namespace Go.Proofs.YtaajcllchbnjiaaE
open Go
set_option linter.unusedVariables false
def stepT (n : Int) (x : StepT) : Bool := stepB x.1 x.2.1 x.2.2.1 x.2.2.2 n
theorem iStepT (x : StepT) (n : Int) (h1 : 1 ≤ n) (h2 : n ≤ 8) : impl_isStep x n = some (stepT n x) := iStep x.1 x.2.1 x.2.2.1 x.2.2.2 n h1 h2
theorem sStepT (x : StepT) (n : Int) (h1 : 1 ≤ n) (h2 : n ≤ 8) : spec_StepRight x n = some (stepT n x) := sStep x.1 x.2.1 x.2.2.1 x.2.2.2 n h1 h2
def isW (x : StepT) : Bool := x.1 != 5
/-- The steps that write, and which blocks they write. -/
def writesM (l : List StepT) : List StepT := l.filter isW
def tosM (l : List StepT) : List Int := (writesM l).map fun x => x.2.1
/-- Do the labels rise? -/
def rises : Int → List StepT → Bool
  | _, [] => true
  | a, x :: l => if x.1 = 5 then decide (a < x.2.2.1) && rises x.2.2.1 l else rises a l
def codeM (l : List StepT) (n : Int) : Int :=
  if 20 < l.length ∨ ¬ (1 ≤ n ∧ n ≤ 8) ∨ l.all (stepT n) = false then 1 else if ¬ (tosM l).Nodup then 12 else if rises (-1) l then 0 else 8
theorem tosM_take {l : List StepT} {i : Nat} (h : i < l.length) : tosM (l.take (i + 1)) = if isW l[i] then tosM (l.take i) ++ [(l[i]).2.1] else tosM (l.take i) := by
  unfold tosM writesM
  rw [take_succ' h, List.filter_append, List.map_append]
  split
  · rename_i hw; simp [hw]
  · rename_i hw; simp [hw]
theorem isW_of {x : StepT} (h : x.1 ≠ 5) : isW x = true := by unfold isW; simpa using h
theorem isW_not {x : StepT} (h : x.1 = 5) : isW x = false := by unfold isW; simp [h]
theorem tosM_sub {l : List StepT} (i : Nat) : (tosM (l.take i)).Sublist (tosM l) := by
  unfold tosM writesM
  exact (((List.take_sublist i l).filter _).map _)
theorem mem_tos {l : List StepT} {b : Int} : b ∈ tosM l ↔ ∃ x ∈ l, isW x = true ∧ x.2.1 = b := by
  unfold tosM writesM
  rw [List.mem_map]
  constructor
  · rintro ⟨x, hx, e⟩
    rw [List.mem_filter] at hx
    exact ⟨x, hx.1, hx.2, e⟩
  · rintro ⟨x, h1, h2, e⟩
    exact ⟨x, List.mem_filter.2 ⟨h1, h2⟩, e⟩
theorem mem_tos_take {l : List StepT} {b : Int} {i : Nat} : b ∈ tosM (l.take i) ↔ ∃ j, ∃ h : j < l.length, j < i ∧ isW l[j] = true ∧ (l[j]).2.1 = b := by
  rw [mem_tos]
  constructor
  · rintro ⟨x, hx, h1, h2⟩
    obtain ⟨j, hj, rfl⟩ := List.getElem_of_mem hx
    rw [List.getElem_take] at h1 h2
    rw [List.length_take] at hj
    exact ⟨j, by omega, by omega, h1, h2⟩
  · rintro ⟨j, h, hji, h1, h2⟩
    refine ⟨l[j], ?_, h1, h2⟩
    rw [List.mem_take_iff_getElem]
    exact ⟨j, by omega, rfl⟩
/-! ### which step touches a block -/
def touchP (b : Int) (x : StepT) : Bool := isW x && (x.2.1 == b)
def touchM (l : List StepT) (b : Int) : Int := match firstI (touchP b) l 0 with
  | some i => (i : Int)
  | none => -1
theorem iTouches (l : List StepT) (b : Int) (hl : l.length ≤ 1048576) : ∀ k, l.length < k → impl_touches k l b = some (touchM l b) := by
  intro k hk
  have run := loop_find (fun j i => slices_IndexFunc_impl_Step_touches_1.l0 j l (l.length : Int) i b) l (touchP b) (.inl b) (fun i => .inr ((i : Int), b)) (fun i hi => by
    have e : impl_touches_1 l[i] b = some (touchP b l[i]) := rfl
    constructor
    · intro hp j
      show slices_IndexFunc_impl_Step_touches_1.l0 (j + 1) l (l.length : Int) (i : Int) b = slices_IndexFunc_impl_Step_touches_1.l0 j l (l.length : Int) ((i + 1 : Nat) : Int) b
      rw [slices_IndexFunc_impl_Step_touches_1.l0]
      rw [dlt hi, at_nat hi, wsuc (by omega)]
      simp only [cond_true, Option.bind_some, e, hp, cond_false]
    · intro hp j
      show slices_IndexFunc_impl_Step_touches_1.l0 (j + 1) l (l.length : Int) (i : Int) b = _
      unfold slices_IndexFunc_impl_Step_touches_1.l0
      rw [dlt hi, at_nat hi]
      simp only [cond_true, Option.bind_some, e, hp]) (fun j => by
    show slices_IndexFunc_impl_Step_touches_1.l0 (j + 1) l (l.length : Int) (l.length : Int) b = _
    unfold slices_IndexFunc_impl_Step_touches_1.l0
    rw [dnlt (Nat.le_refl _)]
    rfl) hk
  have run : slices_IndexFunc_impl_Step_touches_1.l0 k l (l.length : Int) 0 b = _ := run
  unfold impl_touches slices_IndexFunc_impl_Step_touches_1 touchM
  rw [run]
  cases firstI (touchP b) l 0 <;> rfl
theorem touch_lt {l : List StepT} {i : Nat} (h : i < l.length) (hw : isW l[i] = true) : touchM l (l[i]).2.1 < (i : Int) ↔ (l[i]).2.1 ∈ tosM (l.take i) := by
  unfold touchM
  rw [mem_tos_take]
  cases hf : firstI (touchP (l[i]).2.1) l 0 with
  | none =>
    have := firstI_none.1 hf l[i] (List.getElem_mem h)
    unfold touchP at this
    rw [hw] at this
    simp at this
  | some m =>
    obtain ⟨_, h2, h3, h4⟩ := firstI_some hf
    have h4 : ∀ j, (hj : j < m) → touchP (l[i]).2.1 (l[j]'(by omega)) = false := h4
    unfold touchP at h3
    simp only [Bool.and_eq_true, beq_iff_eq] at h3
    constructor
    · intro hm
      have hm : (m : Int) < (i : Int) := hm
      exact ⟨m, h2, by omega, h3.1, h3.2⟩
    · rintro ⟨j, hj, hji, h5, h6⟩
      show (m : Int) < (i : Int)
      rcases Nat.lt_or_ge m i with h | h
      · omega
      · have := h4 j (by omega)
        unfold touchP at this
        rw [h5, h6] at this
        simp at this
theorem iAllRight (l : List StepT) (n : Int) (h1 : 1 ≤ n) (h2 : n ≤ 8) (hl : l.length ≤ 1048576) : ∀ k, l.length < k → slices_ContainsFunc_impl_Step_stepsCode_1 k l n = some (!(l.all (stepT n)), n) := by
  intro k hk
  have run := loop_find (fun j i => slices_IndexFunc_impl_Step_stepsCode_1.l0 j l (l.length : Int) i n) l (fun x => !(stepT n x)) (.inl n) (fun i => .inr ((i : Int), n)) (fun i hi => by
    have e : impl_stepsCode_1 l[i] n = some (!(stepT n l[i])) := by
      unfold impl_stepsCode_1
      rw [iStepT _ _ h1 h2]
      rfl
    constructor
    · intro hp j
      show slices_IndexFunc_impl_Step_stepsCode_1.l0 (j + 1) l (l.length : Int) (i : Int) n = slices_IndexFunc_impl_Step_stepsCode_1.l0 j l (l.length : Int) ((i + 1 : Nat) : Int) n
      rw [slices_IndexFunc_impl_Step_stepsCode_1.l0]
      rw [dlt hi, at_nat hi, wsuc (by omega)]
      simp only [cond_true, Option.bind_some, e, hp, cond_false]
    · intro hp j
      show slices_IndexFunc_impl_Step_stepsCode_1.l0 (j + 1) l (l.length : Int) (i : Int) n = _
      unfold slices_IndexFunc_impl_Step_stepsCode_1.l0
      rw [dlt hi, at_nat hi]
      simp only [cond_true, Option.bind_some, e, hp]) (fun j => by
    show slices_IndexFunc_impl_Step_stepsCode_1.l0 (j + 1) l (l.length : Int) (l.length : Int) n = _
    unfold slices_IndexFunc_impl_Step_stepsCode_1.l0
    rw [dnlt (Nat.le_refl _)]
    rfl) hk
  have run : slices_IndexFunc_impl_Step_stepsCode_1.l0 k l (l.length : Int) 0 n = _ := run
  have hany := firstI_any (p := fun x => !(stepT n x)) (l := l) (n := 0)
  rw [← List.not_all_eq_any_not] at hany
  unfold slices_ContainsFunc_impl_Step_stepsCode_1 slices_IndexFunc_impl_Step_stepsCode_1
  rw [run, ← hany]
  cases firstI (fun x => !(stepT n x)) l 0 with
  | none => rfl
  | some m =>
    simp only [Option.bind_some, Option.isSome_some]
    rw [decide_eq_true (by omega : (0 : Int) ≤ (m : Int))]
theorem loop_any {R : Type} {L : Nat → Option R} {n : Nat} {P : R → Prop} (h : ∃ r, P r ∧ ∀ j, n < j → L j = some r) : ∃ r, P r ∧ ∀ j, n < j → L j = some r := h
theorem iCodeLoop (l : List StepT) (hl : l.length ≤ 20) (k : Nat) (hk : 20 < k) : ∀ (d i : Nat) (a : Int) (b : Bool), i + d = l.length → (tosM (l.take i)).Nodup → ∀ j, d < j →
    impl_stepsCode.l0 k j l a b l (l.length : Int) (i : Int) = some (if (tosM l).Nodup then .inl (b && rises a (l.drop i)) else .inr 12) := by
  intro d
  induction d with
  | zero =>
    intro i a b hi hn j hj
    obtain ⟨j, rfl⟩ : ∃ q, j = q + 1 := ⟨j - 1, by omega⟩
    obtain rfl : i = l.length := by omega
    rw [List.take_length] at hn
    unfold impl_stepsCode.l0
    rw [dnlt (Nat.le_refl _), if_pos hn, List.drop_length]
    simp [rises]
  | succ d ih =>
    intro i a b hi hn j hj
    obtain ⟨j, rfl⟩ : ∃ q, j = q + 1 := ⟨j - 1, by omega⟩
    have hlt : i < l.length := by omega
    rw [impl_stepsCode.l0, dlt hlt, at_nat hlt, wsuc (by omega)]
    simp only [cond_true, Option.bind_some]
    rw [List.drop_eq_getElem_cons hlt]
    by_cases h5 : (l[i]).1 = 5
    · have hw := isW_not h5
      have hn2 : (tosM (l.take (i + 1))).Nodup := by rw [tosM_take hlt, hw]; exact hn
      have e : ((l[i]).1 != 5) = false := by simp [h5]
      rw [e]
      simp only [cond_false]
      rw [ih (i + 1) _ _ (by omega) hn2 j (by omega)]
      simp only [rises, if_pos h5, Bool.and_assoc]
    · have hw := isW_of h5
      have e : ((l[i]).1 != 5) = true := by simpa using h5
      rw [e]
      simp only [cond_true]
      rw [iTouches l (l[i]).2.1 (by omega) k (by omega)]
      simp only [Option.bind_some]
      by_cases ht : touchM l (l[i]).2.1 < (i : Int)
      · rw [decide_eq_true ht]
        have hin := (touch_lt hlt hw).1 ht
        have hnd : ¬ (tosM l).Nodup := by
          intro hnd
          have h3 := (tosM_sub (l := l) (i + 1)).nodup hnd
          rw [tosM_take hlt, hw] at h3
          simp only [if_true] at h3
          exact (List.nodup_append.1 h3).2.2 _ hin _ (List.mem_singleton.2 rfl) rfl
        rw [if_neg hnd]
        rfl
      · rw [decide_eq_false ht]
        have hn2 : (tosM (l.take (i + 1))).Nodup := by
          rw [tosM_take hlt, hw]
          refine List.nodup_append.2 ⟨hn, List.nodup_cons.2 ⟨(fun h => nomatch h), List.nodup_nil⟩, fun x hx y hy e => ?_⟩
          rw [List.mem_singleton.1 hy] at e
          subst e
          exact ht ((touch_lt hlt hw).2 hx)
        simp only [cond_false]
        rw [ih (i + 1) _ _ (by omega) hn2 j (by omega)]
        simp only [rises, if_neg h5]
theorem iStepsCode (l : List StepT) (n : Int) (hl : l.length ≤ 1048576) : Ever fun k => impl_stepsCode k l n = some (codeM l n) := by
  refine Ever.ge (l.length + 30) fun k hk => ?_
  unfold impl_stepsCode impl_isBlocks impl_within codeM
  simp only [Option.bind_some]
  by_cases hb : 1 ≤ n ∧ n ≤ 8
  · rw [decide_eq_true hb.1, decide_eq_true hb.2]
    by_cases h20 : 20 < l.length
    · rw [decide_eq_true (by omega : (20 : Int) < (l.length : Int)), if_pos (.inl h20)]
      rfl
    · rw [decide_eq_false (by omega : ¬ ((20 : Int) < (l.length : Int))), iAllRight l n hb.1 hb.2 hl k (by omega)]
      simp only [Bool.and_self, Bool.not_true, Bool.or_false, cond_false, Option.bind_some]
      cases ha : l.all (stepT n) with
      | false => rw [if_pos (.inr (.inr rfl))]; rfl
      | true =>
        rw [if_neg (by rintro (h | h | h); exact h20 h; exact h hb; cases h)]
        simp only [Bool.not_true, cond_false]
        have run := iCodeLoop l (by omega) k (by omega) l.length 0 (-1) true (Nat.zero_add _) List.nodup_nil k (by omega)
        rw [List.drop_zero, Bool.true_and] at run
        have run : impl_stepsCode.l0 k k l (-1) true l (l.length : Int) 0 = _ := run
        rw [run]
        by_cases hd : (tosM l).Nodup
        · rw [if_pos hd, if_neg (not_not_intro hd)]
          cases rises (-1) l <;> rfl
        · rw [if_neg hd, if_pos hd]
          rfl
  · have e : (!(decide (1 ≤ n) && decide (n ≤ 8)) || decide ((20 : Int) < (l.length : Int))) = true := by
      rw [show (decide (1 ≤ n) && decide (n ≤ 8)) = false by rw [Bool.eq_false_iff, Ne, Bool.and_eq_true, decide_eq_true_eq, decide_eq_true_eq]; exact hb]
      rfl
    rw [e, if_pos (.inr (.inl hb))]
    rfl
/-! ### the reference -/
theorem sCode1 (l : List StepT) (i : Nat) (hi : i < l.length) (hl : l.length ≤ 1048576) : ∀ (d c j : Nat), (hc : c + d = i) → d < j → (∀ q, (hq : q < c) → isW l[i] = true → isW (l[q]'(by omega)) = true → (l[q]'(by omega)).2.1 ≠ (l[i]).2.1) →
    spec_StepsCode.l1 j l (i : Int) (c : Int) = some (if isW l[i] = true ∧ (l[i]).2.1 ∈ tosM (l.take i) then .inr 12 else .inl ()) := by
  intro d
  induction d with
  | zero =>
    intro c j hc hj hq
    obtain ⟨j, rfl⟩ : ∃ q, j = q + 1 := ⟨j - 1, by omega⟩
    obtain rfl : c = i := by omega
    unfold spec_StepsCode.l1
    rw [dnlt (Nat.le_refl _), if_neg]
    · rfl
    · rintro ⟨h1, h2⟩
      obtain ⟨q, hq1, hq2, hq3, hq4⟩ := mem_tos_take.1 h2
      exact hq q hq2 h1 hq3 hq4
  | succ d ih =>
    intro c j hc hj hq
    obtain ⟨j, rfl⟩ : ∃ q, j = q + 1 := ⟨j - 1, by omega⟩
    have hcl : c < l.length := by omega
    rw [spec_StepsCode.l1, dlt (by omega : c < i), at_nat hi, at_nat hcl, wsuc (by omega)]
    simp only [cond_true, Option.bind_some]
    have go : (isW l[i] = true → isW l[c] = true → (l[c]).2.1 ≠ (l[i]).2.1) → spec_StepsCode.l1 j l (i : Int) ((c + 1 : Nat) : Int) = some (if isW l[i] = true ∧ (l[i]).2.1 ∈ tosM (l.take i) then .inr 12 else .inl ()) := fun h => by
      refine ih (c + 1) j (by omega) (by omega) fun q hqc h1 h2 => ?_
      rcases Nat.lt_or_ge q c with h3 | h3
      · exact hq q h3 h1 h2
      · obtain rfl : q = c := by omega
        exact h h1 h2
    by_cases h5 : (l[i]).1 = 5
    · rw [show ((l[i]).1 != 5) = false by simp [h5]]
      simp only [cond_false]
      exact go fun h1 => by rw [isW_not h5] at h1; cases h1
    · rw [show ((l[i]).1 != 5) = true by simpa using h5]
      simp only [cond_true]
      by_cases h6 : (l[c]).1 = 5
      · rw [show ((l[c]).1 != 5) = false by simp [h6]]
        simp only [cond_false]
        exact go fun _ h1 => by rw [isW_not h6] at h1; cases h1
      · rw [show ((l[c]).1 != 5) = true by simpa using h6]
        simp only [cond_true]
        by_cases h7 : (l[i]).2.1 = (l[c]).2.1
        · rw [show ((l[i]).2.1 == (l[c]).2.1) = true by simpa using h7, if_pos ⟨isW_of h5, mem_tos_take.2 ⟨c, hcl, by omega, isW_of h6, h7.symm⟩⟩]
          rfl
        · rw [show ((l[i]).2.1 == (l[c]).2.1) = false by simpa using h7]
          simp only [cond_false]
          exact go fun _ _ e => h7 e.symm
theorem sCode2 (l : List StepT) (hl : l.length ≤ 20) (k : Nat) (hk : 20 < k) : ∀ (d i : Nat), i + d = l.length → (tosM (l.take i)).Nodup → ∀ j, d < j →
    spec_StepsCode.l2 k j l (i : Int) = some (if (tosM l).Nodup then .inl () else .inr 12) := by
  intro d
  induction d with
  | zero =>
    intro i hi hn j hj
    obtain ⟨j, rfl⟩ : ∃ q, j = q + 1 := ⟨j - 1, by omega⟩
    obtain rfl : i = l.length := by omega
    rw [List.take_length] at hn
    unfold spec_StepsCode.l2
    rw [dnlt (Nat.le_refl _), if_pos hn]
    rfl
  | succ d ih =>
    intro i hi hn j hj
    obtain ⟨j, rfl⟩ : ∃ q, j = q + 1 := ⟨j - 1, by omega⟩
    have hlt : i < l.length := by omega
    rw [spec_StepsCode.l2, dlt hlt, wsuc (by omega)]
    have run := sCode1 l i hlt (by omega) i 0 k (Nat.zero_add _) (by omega) (fun q hq => by omega)
    have run : spec_StepsCode.l1 k l (i : Int) 0 = _ := run
    simp only [cond_true]
    rw [run]
    by_cases h : isW l[i] = true ∧ (l[i]).2.1 ∈ tosM (l.take i)
    · rw [if_pos h]
      have hnd : ¬ (tosM l).Nodup := by
        intro hnd
        have h3 := (tosM_sub (l := l) (i + 1)).nodup hnd
        rw [tosM_take hlt, h.1] at h3
        simp only [if_true] at h3
        exact (List.nodup_append.1 h3).2.2 _ h.2 _ (List.mem_singleton.2 rfl) rfl
      rw [if_neg hnd]
      rfl
    · rw [if_neg h]
      simp only [Option.bind_some]
      refine ih (i + 1) (by omega) ?_ j (by omega)
      rw [tosM_take hlt]
      split
      · rename_i hw
        refine List.nodup_append.2 ⟨hn, List.nodup_cons.2 ⟨(fun h => nomatch h), List.nodup_nil⟩, fun x hx y hy e => ?_⟩
        rw [List.mem_singleton.1 hy] at e
        subst e
        exact h ⟨hw, hx⟩
      · exact hn
theorem sCode3 (l : List StepT) (hl : l.length ≤ 20) : ∀ (d i : Nat) (a : Int), i + d = l.length → ∀ j, d < j →
    spec_StepsCode.l3 j l a (i : Int) = some (if rises a (l.drop i) then .inl () else .inr 8) := by
  intro d
  induction d with
  | zero =>
    intro i a hi j hj
    obtain ⟨j, rfl⟩ : ∃ q, j = q + 1 := ⟨j - 1, by omega⟩
    obtain rfl : i = l.length := by omega
    unfold spec_StepsCode.l3
    rw [dnlt (Nat.le_refl _), List.drop_length]
    rfl
  | succ d ih =>
    intro i a hi j hj
    obtain ⟨j, rfl⟩ : ∃ q, j = q + 1 := ⟨j - 1, by omega⟩
    have hlt : i < l.length := by omega
    rw [spec_StepsCode.l3, dlt hlt, at_nat hlt, wsuc (by omega)]
    simp only [cond_true, Option.bind_some]
    rw [List.drop_eq_getElem_cons hlt]
    by_cases h5 : (l[i]).1 = 5
    · rw [show ((l[i]).1 != 5) = false by simp [h5]]
      simp only [cond_false, rises, if_pos h5]
      by_cases h6 : a < (l[i]).2.2.1
      · rw [decide_eq_false (by omega : ¬ ((l[i]).2.2.1 ≤ a)), decide_eq_true h6, Bool.true_and]
        exact ih (i + 1) _ (by omega) j (by omega)
      · rw [decide_eq_true (by omega : (l[i]).2.2.1 ≤ a), decide_eq_false h6]
        rfl
    · rw [show ((l[i]).1 != 5) = true by simpa using h5]
      simp only [cond_true, rises, if_neg h5]
      exact ih (i + 1) _ (by omega) j (by omega)
theorem sCode0 (l : List StepT) (n : Int) (h1 : 1 ≤ n) (h2 : n ≤ 8) (hl : l.length ≤ 20) : ∀ k, 20 < k → spec_StepsCode.l0 k l n 0 = some (if l.all (stepT n) then .inl () else .inr 1) := by
  intro k hk
  have run := loop_find (fun j i => spec_StepsCode.l0 j l n i) l (fun x => !(stepT n x)) (.inl ()) (fun i => .inr 1) (fun i hi => by
    constructor
    · intro hp j
      show spec_StepsCode.l0 (j + 1) l n (i : Int) = spec_StepsCode.l0 j l n ((i + 1 : Nat) : Int)
      rw [spec_StepsCode.l0, dlt hi, at_nat hi, wsuc (by omega)]
      simp only [cond_true, Option.bind_some]
      rw [sStepT _ _ h1 h2]
      simp only [Option.bind_some, hp, cond_false]
    · intro hp j
      show spec_StepsCode.l0 (j + 1) l n (i : Int) = _
      unfold spec_StepsCode.l0
      rw [dlt hi, at_nat hi]
      simp only [cond_true, Option.bind_some]
      rw [sStepT _ _ h1 h2]
      simp only [Option.bind_some, hp, cond_true]) (fun j => by
    show spec_StepsCode.l0 (j + 1) l n (l.length : Int) = _
    unfold spec_StepsCode.l0
    rw [dnlt (Nat.le_refl _)]
    rfl) (by omega : l.length < k)
  have run : spec_StepsCode.l0 k l n 0 = _ := run
  have hany := firstI_any (p := fun x => !(stepT n x)) (l := l) (n := 0)
  rw [← List.not_all_eq_any_not] at hany
  rw [run]
  cases hf : firstI (fun x => !(stepT n x)) l 0 with
  | none =>
    rw [hf] at hany
    have : l.all (stepT n) = true := by simpa using hany.symm
    rw [this]
    rfl
  | some m =>
    rw [hf] at hany
    have : l.all (stepT n) = false := by simpa using hany.symm
    rw [this]
    rfl
theorem sStepsCode (l : List StepT) (n : Int) (hl : l.length ≤ 1048576) : Ever fun k => spec_StepsCode k l n = some (codeM l n) := by
  refine Ever.ge 30 fun k hk => ?_
  unfold spec_StepsCode spec_l03Is codeM
  simp only [Option.bind_some]
  by_cases h20 : 20 < l.length
  · rw [decide_eq_true (by omega : (20 : Int) < (l.length : Int)), if_pos (.inl h20)]
    rfl
  rw [decide_eq_false (by omega : ¬ ((20 : Int) < (l.length : Int)))]
  simp only [cond_false]
  by_cases hb : 1 ≤ n ∧ n ≤ 8
  · rw [decide_eq_true hb.1, decide_eq_true hb.2, sCode0 l n hb.1 hb.2 (by omega) k (by omega)]
    simp only [Bool.and_self, Bool.not_true, cond_false]
    cases ha : l.all (stepT n) with
    | false => simp only [Bool.false_eq_true, if_false]; rw [if_pos (.inr (.inr True.intro))]; rfl
    | true =>
      simp only [if_true, Option.bind_some]
      rw [if_neg (by rintro (h | h | h); exact h20 h; exact h hb; cases h)]
      have r2 := sCode2 l (by omega) k (by omega) l.length 0 (Nat.zero_add _) List.nodup_nil k (by omega)
      have r2 : spec_StepsCode.l2 k k l 0 = _ := r2
      have r3 := sCode3 l (by omega) l.length 0 (-1) (Nat.zero_add _) k (by omega)
      rw [List.drop_zero] at r3
      have r3 : spec_StepsCode.l3 k l (-1) 0 = _ := r3
      rw [r2]
      by_cases hd : (tosM l).Nodup
      · rw [if_pos hd, if_neg (not_not_intro hd)]
        simp only [Option.bind_some]
        rw [r3]
        cases rises (-1) l <;> rfl
      · rw [if_neg hd, if_pos hd]
        rfl
  · have e : (decide (1 ≤ n) && decide (n ≤ 8)) = false := by rw [Bool.eq_false_iff, Ne, Bool.and_eq_true, decide_eq_true_eq, decide_eq_true_eq]; exact hb
    rw [e, if_pos (.inr (.inl hb))]
    rfl
theorem codeM_ok {l : List StepT} {n : Int} (h : codeM l n = 0) : l.length ≤ 20 ∧ 1 ≤ n ∧ n ≤ 8 ∧ (∀ x ∈ l, stepT n x = true) ∧ (tosM l).Nodup ∧ rises (-1) l = true := by
  unfold codeM at h
  split at h
  · cases h
  · rename_i h1
    split at h
    · cases h
    · rename_i h2
      split at h
      · rename_i h3
        have h1a : ¬ 20 < l.length := fun q => h1 (.inl q)
        have h1b : 1 ≤ n ∧ n ≤ 8 := Decidable.not_not.1 fun q => h1 (.inr (.inl q))
        have h1c : l.all (stepT n) = true := by
          cases ha : l.all (stepT n) with
          | true => rfl
          | false => exact absurd (.inr (.inr ha)) h1
        exact ⟨by omega, h1b.1, h1b.2, fun x hx => List.all_eq_true.1 h1c x hx, Decidable.not_not.1 h2, h3⟩
      · cases h
end Go.Proofs.YtaajcllchbnjiaaE

namespace Go.Proofs.YtaajcllchbnjiaaE
open Go
set_option linter.unusedVariables false
abbrev MoveT := Int × Int × Int × Int
/-! ### writes -/
theorem sWrites (l : List StepT) (hl : l.length ≤ 20) : ∀ k, 20 < k → spec_Writes k l = some (writesM l) := by
  intro k hk
  have run := loop_fold (fun j (s : List StepT) i => spec_Writes.l0 j l i s) l (fun s x => .inl (if isW x then s ++ [x] else s)) (fun s => s) (fun i s => s = writesM (l.take i)) (fun i hi s hs => by
    refine .inl ⟨_, rfl, ?_, fun j => ?_⟩
    · unfold writesM at hs ⊢
      rw [take_succ' hi, List.filter_append, hs]
      by_cases hw : isW l[i] = true
      · rw [if_pos hw]; simp [hw]
      · rw [if_neg hw]; simp [hw]
    · show spec_Writes.l0 (j + 1) l (i : Int) s = spec_Writes.l0 j l ((i + 1 : Nat) : Int) (if isW l[i] then s ++ [l[i]] else s)
      have hsl : s.length ≤ 20 := by
        rw [hs]
        refine Nat.le_trans (List.length_filter_le _ _) ?_
        rw [List.length_take]; omega
      rw [spec_Writes.l0, dlt hi, decide_eq_true (by omega : (l.length : Int) ≤ 20), at_nat hi, wsuc (by omega)]
      simp only [Bool.and_self, cond_true, Option.bind_some]
      by_cases h5 : (l[i]).1 = 5
      · rw [show ((l[i]).1 != 5) = false by simp [h5], isW_not h5]
        rfl
      · rw [show ((l[i]).1 != 5) = true by simpa using h5, isW_of h5, app_ok (by simp; omega)]
        rfl) (fun s hs j => by
    show spec_Writes.l0 (j + 1) l (l.length : Int) s = some s
    unfold spec_Writes.l0
    rw [dnlt (Nat.le_refl _)]
    rfl) (s := []) rfl (by omega : l.length < k)
  have fold : ∀ (m s : List StepT), runL (fun s x => .inl (if isW x then s ++ [x] else s)) (fun s => s) m s = s ++ writesM m := by
    intro m
    induction m with
    | nil => intro s; simp [runL, writesM]
    | cons x m ih =>
      intro s
      rw [runL_inl rfl, ih]
      unfold writesM
      by_cases hw : isW x = true
      · rw [if_pos hw, List.filter_cons_of_pos hw]; simp
      · rw [if_neg hw, List.filter_cons_of_neg hw]
  rw [fold, List.nil_append] at run
  have run : spec_Writes.l0 k l 0 [] = some (writesM l) := run
  unfold spec_Writes
  rw [run]
  rfl
theorem iDelLoop (l : List StepT) (hl : l.length ≤ 1048576) : ∀ (d j0 : Nat) (c : List StepT), j0 + d = l.length → c.length = l.length → c.drop j0 = l.drop j0 → (writesM (l.take j0)).length ≤ j0 → c.take (writesM (l.take j0)).length = writesM (l.take j0) → (writesM (l.take j0)).length < j0 →
    ∀ j, d < j → ∃ c', slices_DeleteFunc_impl_Step_writes_1.l0 j ((writesM (l.take j0)).length : Int) (j0 : Int) c = some ((((writesM l).length : Nat) : Int), c') ∧ c'.length = l.length ∧ c'.take (writesM l).length = writesM l := by
  intro d
  induction d with
  | zero =>
    intro j0 c hj hc hd hle ht hlt j hjj
    obtain ⟨j, rfl⟩ : ∃ q, j = q + 1 := ⟨j - 1, by omega⟩
    obtain rfl : j0 = l.length := by omega
    rw [List.take_length] at ht ⊢
    refine ⟨c, ?_, hc, ht⟩
    unfold slices_DeleteFunc_impl_Step_writes_1.l0
    rw [dnlt (by omega : c.length ≤ l.length)]
    rfl
  | succ d ih =>
    intro j0 c hj hc hd hle ht hlt j hjj
    obtain ⟨j, rfl⟩ : ∃ q, j = q + 1 := ⟨j - 1, by omega⟩
    have h1 : j0 < l.length := by omega
    have h2 : j0 < c.length := by omega
    have hcj : c[j0] = l[j0] := by
      have := congrArg (fun z => z[0]?) hd
      simp only [List.getElem?_drop, Nat.add_zero] at this
      rw [List.getElem?_eq_getElem h2, List.getElem?_eq_getElem h1] at this
      exact Option.some.inj this
    have hdrop : c.drop (j0 + 1) = l.drop (j0 + 1) := by
      have := congrArg (fun z => z.drop 1) hd
      simpa [List.drop_drop, Nat.add_comm] using this
    rw [slices_DeleteFunc_impl_Step_writes_1.l0, dlt h2, at_nat h2, wsuc (by omega)]
    simp only [cond_true, Option.bind_some, impl_writes_1, hcj]
    have htake : writesM (l.take (j0 + 1)) = if isW l[j0] then writesM (l.take j0) ++ [l[j0]] else writesM (l.take j0) := by
      unfold writesM
      rw [take_succ' h1, List.filter_append]
      by_cases hw : isW l[j0] = true
      · rw [if_pos hw]; simp [hw]
      · rw [if_neg hw]; simp [hw]
    generalize hW : writesM (l.take j0) = W at ht hle hlt htake ⊢
    by_cases h5 : (l[j0]).1 = 5
    · rw [show ((l[j0]).1 == 5) = true by simpa using h5]
      simp only [Bool.not_true, cond_false]
      rw [isW_not h5] at htake
      have htake : writesM (l.take (j0 + 1)) = W := htake
      have := ih (j0 + 1) c (by omega) hc hdrop (by rw [htake]; omega) (by rw [htake]; exact ht) (by rw [htake]; omega) j (by omega)
      rw [htake] at this
      exact this
    · rw [show ((l[j0]).1 == 5) = false by simpa using h5]
      have hwl : W.length < c.length := by omega
      rw [at_nat hwl, wsuc (by omega), Int.toNat_natCast]
      simp only [Bool.not_false, cond_true, Option.bind_some]
      rw [isW_of h5] at htake
      have htake : writesM (l.take (j0 + 1)) = W ++ [l[j0]] := htake
      have hlen : (writesM (l.take (j0 + 1))).length = W.length + 1 := by rw [htake]; simp
      have := ih (j0 + 1) (c.set W.length l[j0]) (by omega) (by simpa using hc) (by
        rw [List.drop_set_of_lt (by omega)]
        exact hdrop) (by omega) (by
        rw [hlen, htake, List.take_add_one, List.take_set_of_le (Nat.le_refl _), ht, List.getElem?_set_self (by omega)]
        rfl) (by omega) j (by omega)
      rw [hlen] at this
      exact this
theorem iWrites (l : List StepT) (hl : l.length ≤ 1048576) : ∀ k, l.length < k → impl_writes k l = some (writesM l) := by
  intro k hk
  have clone : slices_Clone_impl_Step l = some l := by
    unfold slices_Clone_impl_Step
    rw [app_ok (by simp; omega)]
    rfl
  have run := loop_find (fun j i => slices_IndexFunc_impl_Step_writes_1.l0 j l (l.length : Int) i) l (fun x => !(isW x)) (.inl ()) (fun i => .inr (i : Int)) (fun i hi => by
    have e : impl_writes_1 l[i] = some (!(isW l[i])) := by unfold impl_writes_1 isW; simp [bne]
    constructor
    · intro hp j
      show slices_IndexFunc_impl_Step_writes_1.l0 (j + 1) l (l.length : Int) (i : Int) = slices_IndexFunc_impl_Step_writes_1.l0 j l (l.length : Int) ((i + 1 : Nat) : Int)
      rw [slices_IndexFunc_impl_Step_writes_1.l0, dlt hi, at_nat hi, wsuc (by omega)]
      simp only [cond_true, Option.bind_some, e, hp, cond_false]
    · intro hp j
      show slices_IndexFunc_impl_Step_writes_1.l0 (j + 1) l (l.length : Int) (i : Int) = _
      unfold slices_IndexFunc_impl_Step_writes_1.l0
      rw [dlt hi, at_nat hi]
      simp only [cond_true, Option.bind_some, e, hp]) (fun j => by
    show slices_IndexFunc_impl_Step_writes_1.l0 (j + 1) l (l.length : Int) (l.length : Int) = _
    unfold slices_IndexFunc_impl_Step_writes_1.l0
    rw [dnlt (Nat.le_refl _)]
    rfl) hk
  have run : slices_IndexFunc_impl_Step_writes_1.l0 k l (l.length : Int) 0 = _ := run
  unfold impl_writes
  rw [clone]
  simp only [Option.bind_some]
  unfold slices_DeleteFunc_impl_Step_writes_1 slices_IndexFunc_impl_Step_writes_1
  rw [run]
  cases hf : firstI (fun x => !(isW x)) l 0 with
  | none =>
    have hall := firstI_none.1 hf
    have : writesM l = l := by
      unfold writesM
      exact List.filter_eq_self.2 fun x hx => by simpa using hall x hx
    rw [this]
    rfl
  | some m =>
    obtain ⟨_, h2, h3, h4⟩ := firstI_some hf
    have h2 : m < l.length := h2
    have h3 : (!(isW l[m])) = true := h3
    have h4 : ∀ j, (hj : j < m) → (!(isW (l[j]'(by omega)))) = false := h4
    have hW : writesM (l.take m) = l.take m := by
      unfold writesM
      refine List.filter_eq_self.2 fun x hx => ?_
      obtain ⟨j, hj, rfl⟩ := List.getElem_of_mem hx
      rw [List.length_take] at hj
      rw [List.getElem_take]
      simpa using h4 j (by omega)
    have hW2 : writesM (l.take (m + 1)) = l.take m := by
      have : writesM (l.take (m + 1)) = writesM (l.take m) := by
        unfold writesM
        rw [take_succ' h2, List.filter_append]
        have : isW l[m] = false := by simpa using h3
        simp [this]
      rw [this, hW]
    have hlen : (writesM (l.take (m + 1))).length = m := by rw [hW2, List.length_take]; omega
    obtain ⟨c', e1, e2, e3⟩ := iDelLoop l hl (l.length - (m + 1)) (m + 1) l (by omega) rfl rfl (by omega) (by rw [hlen, hW2]) (by omega) k (by omega)
    rw [hlen] at e1
    have hne : (((m : Nat) : Int) == -1) = false := by rw [beqd]; exact decide_eq_false (by omega)
    simp only [Option.bind_some, hne, cond_false]
    rw [wsuc (by omega), e1]
    simp only [Option.bind_some]
    have hwl : (writesM l).length ≤ l.length := List.length_filter_le _ _
    have ht : tail? (((writesM l).length : Nat) : Int) c'.length = some () := by
      unfold tail?
      rw [if_pos ⟨by omega, by omega⟩]
    rw [ht]
    simp only [Option.bind_some, Int.toNat_natCast]
    have hcut : cut? (List.take (writesM l).length c' ++ List.replicate (c'.length - (writesM l).length) ((0, (0, (0, []))) : StepT)) 0 (((writesM l).length : Nat) : Int) = some (writesM l) := by
      have hc : (List.take (writesM l).length c').length = (writesM l).length := by rw [e3]
      have := cut_ok (l := List.take (writesM l).length c' ++ List.replicate (c'.length - (writesM l).length) ((0, (0, (0, []))) : StepT)) (i := 0) (j := (writesM l).length) (Nat.zero_le _) (by rw [List.length_append, hc]; omega)
      rw [List.drop_zero, List.take_append_of_le_length (by rw [hc]; omega)] at this
      rw [e3] at this ⊢
      rw [List.take_length] at this
      exact this
    rw [hcut]
    rfl
/-! ### the plan, as a model -/
def readsB (x : StepT) (b : Int) : Bool := ((x.1 == 3) || (x.1 == 4)) && (x.2.2.1 == b)
def wAt (w : List StepT) (i : Nat) : StepT := w.getD i (0, (0, (0, [])))
theorem wAt_eq {w : List StepT} {i : Nat} (h : i < w.length) : wAt w i = w[i] := by
  unfold wAt
  rw [List.getD_eq_getElem?_getD, List.getElem?_eq_getElem h]
  rfl
/-- A write that is left may be done: no other one that is left is made from its block, or that is stashed. -/
def freeM (w : List StepT) (left : List Nat) (st : List Int) (i : Nat) : Bool := hasK (wAt w i).2.1 st || !(left.any fun k => (k != i) && readsB (wAt w k) (wAt w i).2.1)
def planS (w : List StepT) : Nat → List Nat → List Int → List MoveT
  | 0, _, _ => []
  | _ + 1, [], _ => []
  | n + 1, i0 :: rest, st => match (i0 :: rest).find? (freeM w (i0 :: rest) st) with
    | some i => (2, ((i : Int), ((wAt w i).2.1, 0))) :: planS w n ((i0 :: rest).erase i) st
    | none => (1, ((i0 : Int), ((wAt w i0).2.1, (st.length : Int)))) :: planS w n (i0 :: rest) (addK (wAt w i0).2.1 st)
def planM (l : List StepT) : List MoveT := planS (writesM l) 40 (List.range (writesM l).length) []
theorem nodup_bound : ∀ (n : Nat) (l : List Nat), l.Nodup → (∀ x ∈ l, x < n) → l.length ≤ n
  | 0, l, _, h => by
    cases l with
    | nil => exact Nat.le_refl _
    | cons x l => exact absurd (h x List.mem_cons_self) (Nat.not_lt_zero _)
  | n + 1, l, hn, h => by
    by_cases hm : n ∈ l
    · have h1 := nodup_bound n (l.erase n) (hn.erase n) (fun x hx => by
        have h2 := h x (List.mem_of_mem_erase hx)
        have h3 := (hn.mem_erase_iff.1 hx).1
        omega)
      rw [List.length_erase_of_mem hm] at h1
      omega
    · have := nodup_bound n l hn (fun x hx => by
        have h2 := h x hx
        rcases Nat.lt_or_ge x n with h3 | h3
        · exact h3
        · have : x = n := by omega
          exact absurd (this ▸ hx) hm)
      omega
theorem nodup_bound8 {l : List Int} (hn : l.Nodup) (h : ∀ x ∈ l, 0 ≤ x ∧ x ≤ 7) : l.length ≤ 8 := by
  have := nodup_bound 8 (l.map Int.toNat) (by
    refine List.pairwise_map.2 (hn.imp_of_mem fun {a b} ha hb hab e => hab ?_)
    have := h a ha
    have := h b hb
    omega) (fun x hx => by
    obtain ⟨y, hy, rfl⟩ := List.mem_map.1 hx
    have := h y hy
    omega)
  simpa using this
/-- What holds of a plan that is under way. -/
structure PlanI (w : List StepT) (left : List Nat) (st : List Int) : Prop where
  nd : left.Nodup
  lt : ∀ i ∈ left, i < w.length
  sd : st.Nodup
  sb : ∀ b ∈ st, 0 ≤ b ∧ b ≤ 7
theorem hasK_iff {k : Int} {l : List Int} : hasK k l = true ↔ k ∈ l := by
  unfold hasK
  rw [List.any_eq_true]
  constructor
  · rintro ⟨x, hx, e⟩
    have : k = x := by simpa using e
    subst this; exact hx
  · exact fun h => ⟨k, h, by simp⟩
theorem addK_new {k : Int} {l : List Int} (h : hasK k l = false) : addK k l = l ++ [k] := by unfold addK; rw [h]; rfl
theorem freeM_no {w : List StepT} {left : List Nat} {st : List Int} {i : Nat} (h : freeM w left st i = false) : hasK (wAt w i).2.1 st = false := by
  unfold freeM at h
  exact ((Bool.or_eq_false_iff).1 h).1
/-- Each round makes less of what is left. -/
theorem PlanI.stash {w : List StepT} {i0 : Nat} {rest : List Nat} {st : List Int} (h : PlanI w (i0 :: rest) st) (hw : ∀ x ∈ w, 0 ≤ x.2.1 ∧ x.2.1 ≤ 7) (hf : (i0 :: rest).find? (freeM w (i0 :: rest) st) = none) :
    PlanI w (i0 :: rest) (addK (wAt w i0).2.1 st) ∧ (addK (wAt w i0).2.1 st).length = st.length + 1 ∧ addK (wAt w i0).2.1 st = st ++ [(wAt w i0).2.1] := by
  have h0 := List.find?_eq_none.1 hf i0 List.mem_cons_self
  have h1 := freeM_no (Bool.eq_false_iff.2 h0)
  have hi := h.lt i0 List.mem_cons_self
  rw [addK_new h1]
  refine ⟨⟨h.nd, h.lt, ?_, ?_⟩, by simp, rfl⟩
  · refine List.nodup_append.2 ⟨h.sd, List.nodup_cons.2 ⟨(fun h => nomatch h), List.nodup_nil⟩, fun x hx y hy e => ?_⟩
    rw [List.mem_singleton.1 hy] at e
    subst e
    rw [hasK_iff.2 hx] at h1
    cases h1
  · intro b hb
    rcases List.mem_append.1 hb with hb | hb
    · exact h.sb b hb
    · rw [List.mem_singleton.1 hb, wAt_eq hi]
      exact hw _ (List.getElem_mem hi)
theorem PlanI.done {w : List StepT} {left : List Nat} {st : List Int} (h : PlanI w left st) (i : Nat) : PlanI w (left.erase i) st :=
  ⟨h.nd.erase i, fun j hj => h.lt j (List.mem_of_mem_erase hj), h.sd, h.sb⟩
/-! ### the program's plan -/
def ints (l : List Nat) : List Int := List.map (fun (n : Nat) => (n : Int)) l
theorem ints_get {l : List Nat} {i : Nat} (h : i < l.length) : (ints l)[i]'(by simpa [ints] using h) = ((l[i] : Nat) : Int) := by simp [ints]
theorem ints_len (l : List Nat) : (ints l).length = l.length := by simp [ints]
theorem iContains (w : List StepT) (left : List Nat) (i : Nat) (b : Int) (hw : w.length ≤ 1000) (hl : left.length ≤ 1000) (hlt : ∀ q ∈ left, q < w.length) : ∀ k, left.length < k →
    slices_ContainsFunc_int_planOf_1_1 k (ints left) (i : Int) w b = some (left.any fun k => (k != i) && readsB (wAt w k) b, (i : Int), b) := by
  intro k hk
  have run := loop_find (fun j q => slices_IndexFunc_int_planOf_1_1.l0 j (ints left) w ((ints left).length : Int) q (i : Int) b) left (fun k => (k != i) && readsB (wAt w k) b) (.inl ((i : Int), b)) (fun q => .inr ((q : Int), ((i : Int), b))) (fun q hq => by
    have hql : left[q] < w.length := hlt _ (List.getElem_mem hq)
    have hq' : q < (ints left).length := by rw [ints_len]; exact hq
    have e : impl_planOf_1_1 ((left[q] : Nat) : Int) (i : Int) w b = some ((left[q] != i) && readsB (wAt w left[q]) b) := by
      unfold impl_planOf_1_1
      by_cases hne : left[q] = i
      · rw [show (((left[q] : Nat) : Int) != (i : Int)) = false by simp [hne], show (left[q] != i) = false by simp [hne]]
        rfl
      · rw [show (((left[q] : Nat) : Int) != (i : Int)) = true by simp; omega, show (left[q] != i) = true by simpa using hne, at_nat hql, wAt_eq hql]
        rfl
    constructor
    · intro hp j
      show slices_IndexFunc_int_planOf_1_1.l0 (j + 1) (ints left) w ((ints left).length : Int) (q : Int) (i : Int) b = slices_IndexFunc_int_planOf_1_1.l0 j (ints left) w ((ints left).length : Int) ((q + 1 : Nat) : Int) (i : Int) b
      rw [slices_IndexFunc_int_planOf_1_1.l0, dlt hq', at_nat hq', wsuc (by omega), ints_get hq]
      simp only [cond_true, Option.bind_some, e, hp, cond_false]
    · intro hp j
      show slices_IndexFunc_int_planOf_1_1.l0 (j + 1) (ints left) w ((ints left).length : Int) (q : Int) (i : Int) b = _
      rw [slices_IndexFunc_int_planOf_1_1.l0, dlt hq', at_nat hq', ints_get hq]
      simp only [cond_true, Option.bind_some, e, hp]) (fun j => by
    show slices_IndexFunc_int_planOf_1_1.l0 (j + 1) (ints left) w ((ints left).length : Int) (left.length : Int) (i : Int) b = _
    unfold slices_IndexFunc_int_planOf_1_1.l0
    rw [dnlt (by rw [ints_len]; exact Nat.le_refl _)]
    rfl) hk
  have run : slices_IndexFunc_int_planOf_1_1.l0 k (ints left) w ((ints left).length : Int) 0 (i : Int) b = _ := run
  have hany := firstI_any (p := fun k => (k != i) && readsB (wAt w k) b) (l := left) (n := 0)
  unfold slices_ContainsFunc_int_planOf_1_1 slices_IndexFunc_int_planOf_1_1
  rw [run, ← hany]
  cases firstI (fun k => (k != i) && readsB (wAt w k) b) left 0 with
  | none => rfl
  | some m =>
    simp only [Option.bind_some, Option.isSome_some]
    rw [decide_eq_true (by omega : (0 : Int) ≤ (m : Int))]
theorem iFree (w : List StepT) (left : List Nat) (st : List Int) (i : Nat) (hw : w.length ≤ 1000) (hl : left.length ≤ 1000) (hlt : ∀ q ∈ left, q < w.length) (hi : i < w.length) : ∀ k, left.length < k →
    impl_planOf_1 k (i : Int) w st (ints left) = some (freeM w left st i, st) := by
  intro k hk
  unfold impl_planOf_1 freeM
  rw [at_nat hi, wAt_eq hi]
  simp only [Option.bind_some]
  cases hasK (w[i]).2.1 st with
  | true => rfl
  | false =>
    rw [iContains w left i _ hw hl hlt k hk]
    rfl
theorem iNext (w : List StepT) (left : List Nat) (st : List Int) (hw : w.length ≤ 1000) (hl : left.length ≤ 1000) (hlt : ∀ q ∈ left, q < w.length) : ∀ k, left.length < k →
    slices_IndexFunc_int_planOf_1 k (ints left) w st (ints left) = some (match firstI (freeM w left st) left 0 with | some p => (p : Int) | none => -1, w, st) := by
  intro k hk
  have run := loop_find (fun j q => slices_IndexFunc_int_planOf_1.l0 k j (ints left) (ints left) ((ints left).length : Int) q w st) left (freeM w left st) (.inl (w, st)) (fun q => .inr ((q : Int), (w, st))) (fun q hq => by
    have hql : left[q] < w.length := hlt _ (List.getElem_mem hq)
    have hq' : q < (ints left).length := by rw [ints_len]; exact hq
    have e := iFree w left st left[q] hw hl hlt hql k hk
    constructor
    · intro hp j
      show slices_IndexFunc_int_planOf_1.l0 k (j + 1) (ints left) (ints left) ((ints left).length : Int) (q : Int) w st = slices_IndexFunc_int_planOf_1.l0 k j (ints left) (ints left) ((ints left).length : Int) ((q + 1 : Nat) : Int) w st
      rw [slices_IndexFunc_int_planOf_1.l0, dlt hq', at_nat hq', wsuc (by omega), ints_get hq]
      simp only [cond_true, Option.bind_some, e, hp, cond_false]
    · intro hp j
      show slices_IndexFunc_int_planOf_1.l0 k (j + 1) (ints left) (ints left) ((ints left).length : Int) (q : Int) w st = _
      rw [slices_IndexFunc_int_planOf_1.l0, dlt hq', at_nat hq', ints_get hq]
      simp only [cond_true, Option.bind_some, e, hp]) (fun j => by
    show slices_IndexFunc_int_planOf_1.l0 k (j + 1) (ints left) (ints left) ((ints left).length : Int) (left.length : Int) w st = _
    unfold slices_IndexFunc_int_planOf_1.l0
    rw [dnlt (by rw [ints_len]; exact Nat.le_refl _)]
    rfl) hk
  have run : slices_IndexFunc_int_planOf_1.l0 k k (ints left) (ints left) ((ints left).length : Int) 0 w st = _ := run
  unfold slices_IndexFunc_int_planOf_1
  rw [run]
  cases firstI (freeM w left st) left 0 <;> rfl
theorem firstI_find {α : Type} {p : α → Bool} : ∀ {l : List α} {n : Nat}, (firstI p l n = none ∧ l.find? p = none) ∨ ∃ i, ∃ h : i < l.length, firstI p l n = some (n + i) ∧ l.find? p = some l[i] ∧ ∀ j, (hj : j < i) → p (l[j]'(by omega)) = false
  | [], n => .inl ⟨rfl, rfl⟩
  | x :: l, n => by
    cases hp : p x with
    | true => exact .inr ⟨0, by simp, by simp [firstI, hp], by simp [List.find?, hp], fun j hj => absurd hj (Nat.not_lt_zero _)⟩
    | false =>
      have e1 : firstI p (x :: l) n = firstI p l (n + 1) := by simp [firstI, hp]
      have e2 : (x :: l).find? p = l.find? p := by simp [List.find?, hp]
      rw [e1, e2]
      rcases firstI_find (p := p) (l := l) (n := n + 1) with ⟨h1, h2⟩ | ⟨i, hi, h1, h2, h3⟩
      · exact .inl ⟨h1, h2⟩
      · refine .inr ⟨i + 1, by simpa using hi, by rw [h1]; congr 1; omega, by rw [h2]; rfl, fun j hj => ?_⟩
        cases j with
        | zero => exact hp
        | succ j => exact h3 j (by omega)
theorem erase_at : ∀ {l : List Nat} {i : Nat} (h : i < l.length), l.Nodup → l.erase l[i] = l.take i ++ l.drop (i + 1)
  | x :: l, 0, h, hn => by simp
  | x :: l, i + 1, h, hn => by
    have hi : i < l.length := by simpa using h
    have hne : x ≠ l[i] := fun e => (List.nodup_cons.1 hn).1 (e ▸ List.getElem_mem hi)
    rw [List.getElem_cons_succ, List.erase_cons_tail (by simpa using hne), erase_at hi (List.nodup_cons.1 hn).2]
    rfl
theorem iPlanLoop (w : List StepT) (hw : w.length ≤ 20) (hwb : ∀ x ∈ w, 0 ≤ x.2.1 ∧ x.2.1 ≤ 7) (k : Nat) (hk : 20 < k) : ∀ (d : Nat) (left : List Nat) (st : List Int) (out : List MoveT), PlanI w left st → left.length + (8 - st.length) ≤ d → out.length + d ≤ 100 → ∀ n j, d < n → d < j →
    ∃ f, impl_planOf.l1 k j w out (ints left) st = some (w, out ++ planS w n left st, f) := by
  intro d
  induction d with
  | zero =>
    intro left st out hI hd ho n j hn hj
    obtain ⟨j, rfl⟩ : ∃ q, j = q + 1 := ⟨j - 1, by omega⟩
    obtain ⟨n, rfl⟩ : ∃ q, n = q + 1 := ⟨n - 1, by omega⟩
    obtain rfl : left = [] := List.eq_nil_of_length_eq_zero (by omega)
    refine ⟨(ints [], st), ?_⟩
    unfold impl_planOf.l1
    rw [decide_eq_false (by simp [ints] : ¬ ((0 : Int) < ((ints ([] : List Nat)).length : Int)))]
    simp only [cond_false, planS, List.append_nil]
  | succ d ih =>
    intro left st out hI hd ho n j hn hj
    obtain ⟨j, rfl⟩ : ∃ q, j = q + 1 := ⟨j - 1, by omega⟩
    obtain ⟨n, rfl⟩ : ∃ q, n = q + 1 := ⟨n - 1, by omega⟩
    have hll : left.length ≤ 20 := Nat.le_trans (nodup_bound w.length left hI.nd hI.lt) hw
    have hsl := nodup_bound8 hI.sd hI.sb
    cases left with
    | nil =>
      refine ⟨(ints [], st), ?_⟩
      unfold impl_planOf.l1
      rw [decide_eq_false (by simp [ints] : ¬ ((0 : Int) < ((ints ([] : List Nat)).length : Int)))]
      simp only [cond_false, planS, List.append_nil]
    | cons i0 rest =>
      have hi0 := hI.lt i0 List.mem_cons_self
      rw [impl_planOf.l1, decide_eq_true (by rw [ints_len, List.length_cons]; omega : (0 : Int) < ((ints (i0 :: rest)).length : Int)), iNext w (i0 :: rest) st (by omega) (by omega) hI.lt k (by omega)]
      simp only [cond_true, Option.bind_some]
      rcases firstI_find (p := freeM w (i0 :: rest) st) (l := i0 :: rest) (n := 0) with ⟨h1, h2⟩ | ⟨p, hp, h1, h2, h3⟩
      · obtain ⟨g1, g2, g3⟩ := hI.stash hwb h2
        have hst := nodup_bound8 g1.sd g1.sb
        rw [g2] at hst
        rw [h1]
        have e0 : at? (ints (i0 :: rest)) 0 = some (i0 : Int) := rfl
        rw [decide_eq_true (by decide : (-1 : Int) < 0), e0]
        simp only [cond_true, Option.bind_some]
        rw [at_nat hi0]
        simp only [Option.bind_some]
        rw [app_ok (by simp; omega)]
        simp only [Option.bind_some]
        have hp2 : planS w (n + 1) (i0 :: rest) st = (1, ((i0 : Int), ((wAt w i0).2.1, (st.length : Int)))) :: planS w n (i0 :: rest) (addK (wAt w i0).2.1 st) := by
          simp only [planS, h2]
        rw [hp2, wAt_eq hi0]
        rw [wAt_eq hi0] at g1 g2
        obtain ⟨f, hf⟩ := ih (i0 :: rest) (addK (w[i0]).2.1 st) (out ++ [(1, ((i0 : Int), ((w[i0]).2.1, (st.length : Int))))]) g1 (by omega) (by simp; omega) n j (by omega) (by omega)
        exact ⟨f, by rw [hf, List.append_assoc]; rfl⟩
      · rw [h1, Nat.zero_add]
        have hpi : p < (ints (i0 :: rest)).length := by rw [ints_len]; exact hp
        have hpl := hI.lt _ (List.getElem_mem hp)
        rw [decide_eq_false (by omega : ¬ ((p : Int) < 0)), at_nat hpi, ints_get hp, wsuc (by omega)]
        simp only [cond_false, Option.bind_some]
        rw [at_nat hpl]
        simp only [Option.bind_some]
        rw [app_ok (by simp; omega)]
        have hdel : slices_Delete_int (ints (i0 :: rest)) (p : Int) ((p + 1 : Nat) : Int) = some (ints ((i0 :: rest).erase (i0 :: rest)[p])) := by
          unfold slices_Delete_int
          rw [if_pos ⟨by omega, by omega, by omega⟩, Int.toNat_natCast, Int.toNat_natCast, erase_at hp hI.nd]
          simp [ints, List.map_take, List.map_drop]
        rw [hdel]
        simp only [Option.bind_some]
        have hp2 : planS w (n + 1) (i0 :: rest) st = (2, (((i0 :: rest)[p] : Nat) : Int), (wAt w (i0 :: rest)[p]).2.1, 0) :: planS w n ((i0 :: rest).erase (i0 :: rest)[p]) st := by
          simp only [planS, h2]
        have hle : ((i0 :: rest).erase (i0 :: rest)[p]).length = (i0 :: rest).length - 1 := List.length_erase_of_mem (List.getElem_mem hp)
        rw [hp2, wAt_eq hpl]
        obtain ⟨f, hf⟩ := ih ((i0 :: rest).erase (i0 :: rest)[p]) st (out ++ [(2, ((((i0 :: rest)[p] : Nat) : Int), ((w[(i0 :: rest)[p]]).2.1, 0)))]) (hI.done _) (by
          rw [hle]
          have : (i0 :: rest).length = rest.length + 1 := rfl
          omega) (by simp; omega) n j (by omega) (by omega)
        exact ⟨f, by rw [hf, List.append_assoc]; rfl⟩
theorem iFill (n : Nat) (hn : n ≤ 20) : ∀ k, n < k → impl_planOf.l0 k (n : Int) 0 (List.replicate n 0) = some (ints (List.range n)) := by
  intro k hk
  have run := copy_loop (fun j i c => impl_planOf.l0 j (n : Int) i c) (ints (List.range n)) (0 : Int) (fun i hi c hc j => by
    have hin : i < n := by simpa [ints] using hi
    have hl : (ints (List.range n)).length = n := by simp [ints]
    show impl_planOf.l0 (j + 1) (n : Int) (i : Int) c = impl_planOf.l0 j (n : Int) ((i + 1 : Nat) : Int) (c.set i (ints (List.range n))[i])
    rw [impl_planOf.l0, dlt hin, at_nat (by omega : i < c.length), wsuc (by omega), Int.toNat_natCast]
    simp [ints]) (fun c j => by
    show impl_planOf.l0 (j + 1) (n : Int) ((ints (List.range n)).length : Int) c = some c
    have hl : (ints (List.range n)).length = n := by simp [ints]
    unfold impl_planOf.l0
    rw [hl, dnlt (Nat.le_refl _)]
    rfl) (k := k) (by simp [ints]; omega)
  have hl : (ints (List.range n)).length = n := by simp [ints]
  rw [hl] at run
  exact run
theorem start_ok (w : List StepT) : PlanI w (List.range w.length) [] := ⟨List.nodup_range, fun i hi => List.mem_range.1 hi, List.nodup_nil, fun b hb => nomatch hb⟩
theorem iPlanOf (l : List StepT) (hl : l.length ≤ 20) (hb : ∀ x ∈ writesM l, 0 ≤ x.2.1 ∧ x.2.1 ≤ 7) : Ever fun k => impl_planOf k l = some (planM l) := by
  refine Ever.ge 60 fun k hk => ?_
  have hwl : (writesM l).length ≤ l.length := List.length_filter_le _ _
  unfold impl_planOf
  rw [iWrites l (by omega) k (by omega)]
  simp only [Option.bind_some]
  rw [make_some (by omega)]
  simp only [Option.bind_some, List.length_replicate]
  rw [iFill _ (by omega) k (by omega)]
  simp only [Option.bind_some]
  obtain ⟨f, hf⟩ := iPlanLoop (writesM l) (by omega) hb k (by omega) 30 (List.range (writesM l).length) [] [] (start_ok _) (by simp; omega) (by simp) 40 k (by omega) (by omega)
  rw [hf]
  rfl
end Go.Proofs.YtaajcllchbnjiaaE

namespace Go.Proofs.YtaajcllchbnjiaaE
open Go
set_option linter.unusedVariables false
theorem loop_findN {R : Type} (L : Nat → Int → Option R) (n : Nat) (p : Nat → Bool) (a : R) (b : Nat → R)
    (hs : ∀ (i : Nat), i < n → (p i = false → ∀ j, L (j + 1) (i : Int) = L j ((i + 1 : Nat) : Int)) ∧ (p i = true → ∀ j, L (j + 1) (i : Int) = some (b i)))
    (he : ∀ j, L (j + 1) (n : Int) = some a) {k : Nat} (hk : n < k) : L k 0 = some (match (List.range n).find? p with | some i => b i | none => a) := by
  have hl : (List.range n).length = n := List.length_range
  have run := loop_find L (List.range n) p a b (fun i hi => by rw [List.getElem_range]; exact hs i (by omega)) (by rw [hl]; exact he) (k := k) (by rw [hl]; exact hk)
  rw [run]
  rcases firstI_find (p := p) (l := List.range n) (n := 0) with ⟨h1, h2⟩ | ⟨q, hq, h1, h2, h3⟩
  · rw [h1, h2]
  · rw [h1, h2, Nat.zero_add, List.getElem_range]
def optI : Option Nat → Int
  | some i => (i : Int)
  | none => -1
theorem optI_some (i : Nat) : decide (optI (some i) < 0) = false := decide_eq_false (by show ¬ ((i : Int) < 0); omega)
theorem optI_none : decide (optI none < 0) = true := rfl
/-- What the reference keeps of a plan that is under way: a bit for each write, a bit for each block. -/
structure PlanR (w : List StepT) (left : List Nat) (st : List Int) (lB sB : List Bool) : Prop where
  pi : PlanI w left st
  so : left.Pairwise (· < ·)
  ll : lB.length = w.length
  lm : ∀ i, (h : i < lB.length) → lB[i] = decide (i ∈ left)
  sl : sB.length = 8
  sm : ∀ b : Nat, (h : b < sB.length) → sB[b] = hasK (b : Int) st
section
variable {w : List StepT} {left : List Nat} {st : List Int} {lB sB : List Bool}
theorem PlanR.done (h : PlanR w left st lB sB) (i : Nat) : PlanR w (left.erase i) st (lB.set i false) sB := by
  refine ⟨h.pi.done i, h.so.sublist List.erase_sublist, by rw [List.length_set]; exact h.ll, fun q hq => ?_, h.sl, h.sm⟩
  rw [List.length_set] at hq
  rw [List.getElem_set]
  by_cases hi : i = q
  · subst hi
    rw [if_pos rfl, decide_eq_false]
    intro hm
    exact (h.pi.nd.mem_erase_iff.1 hm).1 rfl
  · rw [if_neg hi, h.lm q hq, Bool.eq_iff_iff, decide_eq_true_eq, decide_eq_true_eq, h.pi.nd.mem_erase_iff]
    exact ⟨fun g => ⟨fun e => hi e.symm, g⟩, fun g => g.2⟩
theorem PlanR.stash (h : PlanR w left st lB sB) {b : Nat} {st' : List Int} (hp : PlanI w left st') (e : st' = st ++ [(b : Int)]) : PlanR w left st' lB (sB.set b true) := by
  refine ⟨hp, h.so, h.ll, h.lm, by rw [List.length_set]; exact h.sl, fun q hq => ?_⟩
  rw [List.length_set] at hq
  rw [List.getElem_set, e]
  have ha : hasK (q : Int) (st ++ [(b : Int)]) = (hasK (q : Int) st || ((b : Int) == (q : Int) || (q : Int) == (b : Int))) := by
    rw [Bool.eq_iff_iff, hasK_iff, Bool.or_eq_true, hasK_iff, List.mem_append, List.mem_singleton, Bool.or_eq_true, beq_iff_eq, beq_iff_eq]
    constructor
    · rintro (g | g)
      · exact .inl g
      · exact .inr (.inr g)
    · rintro (g | g | g)
      · exact .inl g
      · exact .inr g.symm
      · exact .inr g
  rw [ha]
  by_cases hb : b = q
  · subst hb
    rw [if_pos rfl]
    simp
  · rw [if_neg hb, h.sm q hq]
    have e1 : ((b : Int) == (q : Int)) = false := by rw [beqd]; exact decide_eq_false (by omega)
    have e2 : ((q : Int) == (b : Int)) = false := by rw [beqd]; exact decide_eq_false (by omega)
    rw [e1, e2]
    simp
theorem sBlocked (h : PlanR w left st lB sB) (hw : w.length ≤ 20) (hwb : ∀ x ∈ w, 0 ≤ x.2.1 ∧ x.2.1 ≤ 7) (i : Nat) (hi : i < w.length) : ∀ k, 20 < k → spec_l11Blocked k w lB sB (i : Int) = some (!(freeM w left st i)) := by
  intro k hk
  obtain ⟨h0, h7⟩ := hwb _ (List.getElem_mem hi)
  obtain ⟨b, hb⟩ := Int.eq_ofNat_of_zero_le h0
  have hbs : b < sB.length := by have := h.sl; omega
  have run := loop_findN (fun j q => spec_l11Blocked.l0 j w lB (i : Int) q) w.length (fun q => (q != i) && (decide (q ∈ left) && readsB (wAt w q) (wAt w i).2.1)) (.inl ()) (fun _ => .inr true) (fun q hq => by
    have hql : q < lB.length := by have := h.ll; omega
    have e0 : spec_l11Reads w[q] (w[i]).2.1 = some (readsB (wAt w q) (wAt w i).2.1) := by rw [wAt_eq hq, wAt_eq hi]; rfl
    have key : ∀ j, spec_l11Blocked.l0 (j + 1) w lB (i : Int) (q : Int) = if ((q != i) && (decide (q ∈ left) && readsB (wAt w q) (wAt w i).2.1)) = true then some (.inr true) else spec_l11Blocked.l0 j w lB (i : Int) ((q + 1 : Nat) : Int) := by
      intro j
      rw [spec_l11Blocked.l0, dlt hq, at_nat hql, at_nat hq, at_nat hi, wsuc (by omega), h.lm q hql]
      simp only [cond_true, Option.bind_some, e0]
      by_cases hne : q = i
      · rw [show ((q : Int) != (i : Int)) = false by simp [hne], show (q != i) = false by simp [hne]]
        rfl
      · rw [show ((q : Int) != (i : Int)) = true by simp; omega, show (q != i) = true by simpa using hne]
        cases decide (q ∈ left) with
        | false => rfl
        | true => cases readsB (wAt w q) (wAt w i).2.1 <;> rfl
    constructor
    · intro hp j
      show spec_l11Blocked.l0 (j + 1) w lB (i : Int) (q : Int) = spec_l11Blocked.l0 j w lB (i : Int) ((q + 1 : Nat) : Int)
      rw [key, if_neg (by rw [hp]; exact Bool.false_ne_true)]
    · intro hp j
      show spec_l11Blocked.l0 (j + 1) w lB (i : Int) (q : Int) = _
      rw [key, if_pos hp]) (fun j => by
    show spec_l11Blocked.l0 (j + 1) w lB (i : Int) (w.length : Int) = _
    unfold spec_l11Blocked.l0
    rw [dnlt (Nat.le_refl _)]
    rfl) (by omega : w.length < k)
  have run : spec_l11Blocked.l0 k w lB (i : Int) 0 = _ := run
  unfold spec_l11Blocked freeM
  rw [at_nat hi, wAt_eq hi]
  simp only [Option.bind_some]
  have hat : at? sB (w[i]).2.1 = some (hasK (w[i]).2.1 st) := by
    rw [hb, at_nat hbs, h.sm b hbs]
  rw [hat]
  simp only [Option.bind_some]
  cases hasK (w[i]).2.1 st with
  | true => rfl
  | false =>
    simp only [cond_false, Bool.false_or, Bool.not_not]
    rw [run]
    rw [wAt_eq hi]
    cases hf : (List.range w.length).find? (fun q => (q != i) && (decide (q ∈ left) && readsB (wAt w q) (w[i]).2.1)) with
    | none =>
      have := List.find?_eq_none.1 hf
      have : (left.any fun k => (k != i) && readsB (wAt w k) (w[i]).2.1) = false := by
        rw [List.any_eq_false]
        intro x hx hc
        refine this x (List.mem_range.2 (h.pi.lt x hx)) ?_
        rw [decide_eq_true hx, Bool.true_and]
        exact hc
      rw [this]
      rfl
    | some q =>
      have h1 := List.find?_some hf
      have : (left.any fun k => (k != i) && readsB (wAt w k) (w[i]).2.1) = true := by
        rw [List.any_eq_true]
        simp only [Bool.and_eq_true, decide_eq_true_eq] at h1
        exact ⟨q, h1.2.1, by rw [Bool.and_eq_true]; exact ⟨h1.1, h1.2.2⟩⟩
      rw [this]
      rfl
theorem sNextLoop (h : PlanR w left st lB sB) (hw : w.length ≤ 20) (hwb : ∀ x ∈ w, 0 ≤ x.2.1 ∧ x.2.1 ≤ 7) (k : Nat) (hk : 20 < k) : ∀ (d i : Nat) (dn todo : List Nat), i + d = w.length → left = dn ++ todo → (∀ x ∈ dn, x < i) → (∀ x ∈ todo, i ≤ x) → ∀ j, d < j →
    spec_l11Next.l0 k j w lB sB (optI (dn.find? (freeM w left st))) (optI dn.head?) (i : Int) = some (optI (left.find? (freeM w left st)), optI left.head?) := by
  intro d
  induction d with
  | zero =>
    intro i dn todo hi hl h1 h2 j hj
    obtain ⟨j, rfl⟩ : ∃ q, j = q + 1 := ⟨j - 1, by omega⟩
    obtain rfl : i = w.length := by omega
    have ht : todo = [] := by
      cases todo with
      | nil => rfl
      | cons y t =>
        have := h2 y List.mem_cons_self
        have := h.pi.lt y (by rw [hl]; exact List.mem_append_right _ List.mem_cons_self)
        omega
    subst ht
    rw [List.append_nil] at hl
    rw [← hl]
    unfold spec_l11Next.l0
    rw [dnlt (Nat.le_refl _)]
    rfl
  | succ d ih =>
    intro i dn todo hi hl h1 h2 j hj
    obtain ⟨j, rfl⟩ : ∃ q, j = q + 1 := ⟨j - 1, by omega⟩
    have hiw : i < w.length := by omega
    have hil : i < lB.length := by have := h.ll; omega
    rw [spec_l11Next.l0, dlt hiw, at_nat hil, wsuc (by omega), h.lm i hil, sBlocked h hw hwb i hiw k hk]
    simp only [cond_true, Option.bind_some]
    by_cases hm : i ∈ left
    · rw [decide_eq_true hm]
      have hit : i ∈ todo := by
        rw [hl] at hm
        rcases List.mem_append.1 hm with g | g
        · exact absurd (h1 i g) (Nat.lt_irrefl _)
        · exact g
      have hso := h.so
      rw [hl] at hso
      have hst := (List.pairwise_append.1 hso).2.1
      cases todo with
      | nil => exact nomatch hit
      | cons y t =>
        have hyt := List.pairwise_cons.1 hst
        have hyi : y = i := by
          rcases List.mem_cons.1 hit with g | g
          · exact g.symm
          · have := hyt.1 i g
            have := h2 y List.mem_cons_self
            omega
        subst hyi
        have ih' := ih (y + 1) (dn ++ [y]) t (by omega) (by rw [hl, List.append_assoc]; rfl) (fun x hx => by
          rcases List.mem_append.1 hx with g | g
          · have := h1 x g; omega
          · rw [List.mem_singleton.1 g]; omega) (fun x hx => hyt.1 x hx) j (by omega)
        have eA : (dn ++ [y]).find? (freeM w left st) = (dn.find? (freeM w left st)).or (if freeM w left st y then some y else none) := by
          rw [List.find?_append]
          congr 1
          unfold List.find?
          cases freeM w left st y <;> rfl
        have eB : (dn ++ [y]).head? = (dn.head?).or (some y) := by cases dn <;> rfl
        rw [eA, eB] at ih'
        simp only [Bool.not_true, cond_false]
        cases hB : dn.head? with
        | none =>
          have hdn : dn = [] := by cases dn with | nil => rfl | cons a b => cases hB
          subst hdn
          rw [hB] at ih'
          have e1 : (([] : List Nat).find? (freeM w left st)) = none := rfl
          rw [e1] at ih' ⊢
          rw [optI_none]
          simp only [cond_true]
          cases hf : freeM w left st y with
          | true => rw [hf] at ih'; exact ih'
          | false => rw [hf] at ih'; exact ih'
        | some a =>
          rw [hB] at ih'
          rw [optI_some]
          simp only [cond_false]
          cases hA : dn.find? (freeM w left st) with
          | none =>
            rw [hA] at ih'
            rw [optI_none]
            simp only [cond_true]
            cases hf : freeM w left st y with
            | true => rw [hf] at ih'; exact ih'
            | false => rw [hf] at ih'; exact ih'
          | some c =>
            rw [hA] at ih'
            rw [optI_some]
            exact ih'
    · rw [decide_eq_false hm]
      exact ih (i + 1) dn todo (by omega) hl (fun x hx => by have := h1 x hx; omega) (fun x hx => by
        have := h2 x hx
        rcases Nat.lt_or_ge i x with g | g
        · exact g
        · have : x = i := by omega
          subst this
          exact absurd (by rw [hl]; exact List.mem_append_right _ hx) hm) j (by omega)
theorem sNext (h : PlanR w left st lB sB) (hw : w.length ≤ 20) (hwb : ∀ x ∈ w, 0 ≤ x.2.1 ∧ x.2.1 ≤ 7) (k : Nat) (hk : 21 < k) : spec_l11Next k w lB sB = some (optI (left.find? (freeM w left st)), optI left.head?) := by
  have run := sNextLoop h hw hwb k (by omega) w.length 0 [] left (Nat.zero_add _) rfl (fun x hx => nomatch hx) (fun x _ => Nat.zero_le x) k (by omega)
  have run : spec_l11Next.l0 k k w lB sB (-1) (-1) 0 = _ := run
  unfold spec_l11Next
  rw [run]
  rfl
end
theorem sPlanLoop (w : List StepT) (hw : w.length ≤ 20) (hwb : ∀ x ∈ w, 0 ≤ x.2.1 ∧ x.2.1 ≤ 7) (k : Nat) (hk : 21 < k) : ∀ (d : Nat) (left : List Nat) (st : List Int) (lB sB : List Bool) (out : List MoveT), PlanR w left st lB sB → left.length + (8 - st.length) ≤ d → out.length + d ≤ 100 → ∀ n j, d < n → d < j →
    spec_l11Plan.l1 k j (st.length : Int) w lB sB out = some (out ++ planS w n left st) := by
  intro d
  induction d with
  | zero =>
    intro left st lB sB out hI hd ho n j hn hj
    obtain ⟨j, rfl⟩ : ∃ q, j = q + 1 := ⟨j - 1, by omega⟩
    obtain ⟨n, rfl⟩ : ∃ q, n = q + 1 := ⟨n - 1, by omega⟩
    obtain rfl : left = [] := List.eq_nil_of_length_eq_zero (by omega)
    unfold spec_l11Plan.l1
    rw [sNext hI hw hwb k hk]
    simp only [planS, List.append_nil]
    rfl
  | succ d ih =>
    intro left st lB sB out hI hd ho n j hn hj
    obtain ⟨j, rfl⟩ : ∃ q, j = q + 1 := ⟨j - 1, by omega⟩
    obtain ⟨n, rfl⟩ : ∃ q, n = q + 1 := ⟨n - 1, by omega⟩
    have hsl := nodup_bound8 hI.pi.sd hI.pi.sb
    cases left with
    | nil =>
      unfold spec_l11Plan.l1
      rw [sNext hI hw hwb k hk]
      simp only [planS, List.append_nil]
      rfl
    | cons i0 rest =>
      have hi0 := hI.pi.lt i0 List.mem_cons_self
      rw [spec_l11Plan.l1, sNext hI hw hwb k hk]
      simp only [Option.bind_some]
      rw [show (i0 :: rest).head? = some i0 from rfl, optI_some]
      simp only [cond_false]
      rcases firstI_find (p := freeM w (i0 :: rest) st) (l := i0 :: rest) (n := 0) with ⟨h1, h2⟩ | ⟨p, hp, h1, h2, h3⟩
      · obtain ⟨g1, g2, g3⟩ := hI.pi.stash hwb h2
        have hst := nodup_bound8 g1.sd g1.sb
        rw [g2] at hst
        rw [h2]
        have hp2 : planS w (n + 1) (i0 :: rest) st = (1, ((i0 : Int), ((wAt w i0).2.1, (st.length : Int)))) :: planS w n (i0 :: rest) (addK (wAt w i0).2.1 st) := by
          simp only [planS, h2]
        rw [hp2, wAt_eq hi0]
        rw [wAt_eq hi0] at g1 g2 g3
        obtain ⟨q0, q7⟩ := hwb _ (List.getElem_mem hi0)
        obtain ⟨b, hb⟩ := Int.eq_ofNat_of_zero_le q0
        have hb : (w[i0]).2.1 = (b : Int) := hb
        have hbs : b < sB.length := by have := hI.sl; omega
        rw [show decide (0 ≤ optI none) = false from rfl, show optI (some i0) = (i0 : Int) from rfl, at_nat hi0, wsuc (by omega)]
        simp only [cond_false, Option.bind_some]
        rw [app_ok (by simp; omega), hb, at_nat hbs]
        simp only [Option.bind_some, Int.toNat_natCast]
        rw [hb] at g1 g2 g3
        have := ih (i0 :: rest) (addK (b : Int) st) lB (sB.set b true) (out ++ [(1, ((i0 : Int), ((b : Int), (st.length : Int))))]) (hI.stash g1 g3) (by omega) (by simp; omega) n j (by omega) (by omega)
        rw [g2] at this
        rw [this, List.append_assoc]
        rfl
      · rw [h2]
        have hpl := hI.pi.lt _ (List.getElem_mem hp)
        have hll : (i0 :: rest)[p] < lB.length := by have := hI.ll; omega
        have hp2 : planS w (n + 1) (i0 :: rest) st = (2, (((i0 :: rest)[p] : Nat) : Int), (wAt w (i0 :: rest)[p]).2.1, 0) :: planS w n ((i0 :: rest).erase (i0 :: rest)[p]) st := by
          simp only [planS, h2]
        have hle : ((i0 :: rest).erase (i0 :: rest)[p]).length = (i0 :: rest).length - 1 := List.length_erase_of_mem (List.getElem_mem hp)
        rw [hp2, wAt_eq hpl]
        rw [show decide (0 ≤ optI (some (i0 :: rest)[p])) = true from decide_eq_true (Int.natCast_nonneg _), show optI (some (i0 :: rest)[p]) = (((i0 :: rest)[p] : Nat) : Int) from rfl, at_nat hpl, at_nat hll]
        simp only [cond_true, Option.bind_some, Int.toNat_natCast]
        rw [app_ok (by simp; omega)]
        simp only [Option.bind_some]
        rw [ih ((i0 :: rest).erase (i0 :: rest)[p]) st (lB.set (i0 :: rest)[p] false) sB (out ++ [(2, ((((i0 :: rest)[p] : Nat) : Int), ((w[(i0 :: rest)[p]]).2.1, 0)))]) (hI.done _) (by
          rw [hle]
          have : (i0 :: rest).length = rest.length + 1 := rfl
          omega) (by simp; omega) n j (by omega) (by omega), List.append_assoc]
        rfl
theorem sFill (w : List StepT) (hw : w.length ≤ 20) : ∀ k, w.length < k → spec_l11Plan.l0 k 0 w (List.replicate w.length false) = some (w, List.replicate w.length true) := by
  intro k hk
  have run := copy_loop (fun j i c => (spec_l11Plan.l0 j i w c).map fun p => p.2) (List.replicate w.length true) false (fun i hi c hc j => by
    have hiw : i < w.length := by simpa using hi
    have hic : i < c.length := by rw [hc]; exact hi
    show (spec_l11Plan.l0 (j + 1) (i : Int) w c).map _ = (spec_l11Plan.l0 j ((i + 1 : Nat) : Int) w (c.set i (List.replicate w.length true)[i])).map _
    rw [spec_l11Plan.l0, dlt hiw, at_nat hic, wsuc (by omega), Int.toNat_natCast, List.getElem_replicate]
    rfl) (fun c j => by
    show (spec_l11Plan.l0 (j + 1) ((List.replicate w.length true).length : Int) w c).map _ = some c
    unfold spec_l11Plan.l0
    rw [dnlt (by simp)]
    rfl) (k := k) (by simpa using hk)
  have fst : ∀ (d i : Nat) (c : List Bool) (r : List StepT × List Bool), i + d = w.length → ∀ j, spec_l11Plan.l0 j (i : Int) w c = some r → r.1 = w := by
    intro d
    induction d with
    | zero =>
      intro i c r hi j h
      cases j with
      | zero => cases h
      | succ j =>
        unfold spec_l11Plan.l0 at h
        rw [dnlt (by omega : w.length ≤ i)] at h
        cases h
        rfl
    | succ d ih =>
      intro i c r hi j h
      cases j with
      | zero => cases h
      | succ j =>
        rw [spec_l11Plan.l0, dlt (by omega : i < w.length), wsuc (by omega)] at h
        simp only [cond_true] at h
        cases ha : at? c (i : Int) with
        | none => rw [ha] at h; cases h
        | some v =>
          rw [ha] at h
          exact ih (i + 1) _ r (by omega) j h
  rw [List.length_replicate] at run
  have run : (spec_l11Plan.l0 k 0 w (List.replicate w.length false)).map (fun p => p.2) = some (List.replicate w.length true) := run
  cases hr : spec_l11Plan.l0 k 0 w (List.replicate w.length false) with
  | none => rw [hr] at run; cases run
  | some r =>
    rw [hr] at run
    have h1 := fst w.length 0 _ r (Nat.zero_add _) k hr
    have h2 : r.2 = List.replicate w.length true := Option.some.inj run
    obtain ⟨r1, r2⟩ := r
    have h1 : r1 = w := h1
    have h2 : r2 = List.replicate w.length true := h2
    rw [h1, h2]
theorem startR (w : List StepT) : PlanR w (List.range w.length) [] (List.replicate w.length true) (List.replicate 8 false) := by
  refine ⟨start_ok w, List.pairwise_lt_range, List.length_replicate, fun i hi => ?_, List.length_replicate, fun b hb => ?_⟩
  · rw [List.length_replicate] at hi
    rw [List.getElem_replicate, decide_eq_true (List.mem_range.2 hi)]
  · rw [List.getElem_replicate]
    rfl
theorem planM_len (l : List StepT) (hl : l.length ≤ 20) (hb : ∀ x ∈ writesM l, 0 ≤ x.2.1 ∧ x.2.1 ≤ 7) : (planM l).length ≤ 28 := by
  have hwl : (writesM l).length ≤ l.length := List.length_filter_le _ _
  have key : ∀ (n : Nat) (left : List Nat) (st : List Int), PlanI (writesM l) left st → (planS (writesM l) n left st).length ≤ left.length + (8 - st.length) := by
    intro n
    induction n with
    | zero => intro left st h; exact Nat.zero_le _
    | succ n ih =>
      intro left st h
      cases left with
      | nil => exact Nat.zero_le _
      | cons i0 rest =>
        rcases firstI_find (p := freeM (writesM l) (i0 :: rest) st) (l := i0 :: rest) (n := 0) with ⟨h1, h2⟩ | ⟨p, hp, h1, h2, h3⟩
        · obtain ⟨g1, g2, g3⟩ := h.stash hb h2
          have hst := nodup_bound8 g1.sd g1.sb
          have := ih _ _ g1
          simp only [planS, h2, List.length_cons] at this ⊢
          omega
        · have := ih _ _ (h.done (i0 :: rest)[p])
          have hle : ((i0 :: rest).erase (i0 :: rest)[p]).length = (i0 :: rest).length - 1 := List.length_erase_of_mem (List.getElem_mem hp)
          rw [hle] at this
          simp only [planS, h2, List.length_cons] at this ⊢
          omega
  have := key 40 _ _ (start_ok (writesM l))
  rw [List.length_range, List.length_nil] at this
  unfold planM
  omega
theorem sPlan (l : List StepT) (hl : l.length ≤ 20) (hb : ∀ x ∈ writesM l, 0 ≤ x.2.1 ∧ x.2.1 ≤ 7) : ∀ k, 60 ≤ k → spec_l11Plan k l = some (planM l) := by
  intro k hk
  have hwl : (writesM l).length ≤ l.length := List.length_filter_le _ _
  unfold spec_l11Plan
  rw [sWrites l hl k (by omega)]
  simp only [Option.bind_some]
  rw [make_some (by omega)]
  simp only [Option.bind_some]
  rw [sFill _ (by omega) k (by omega)]
  simp only [Option.bind_some]
  rw [show make? 1 8 8 false = some (List.replicate 8 false) from make_some (n := 8) (by omega)]
  simp only [Option.bind_some]
  have run := sPlanLoop (writesM l) (by omega) hb k (by omega) 30 _ [] _ _ [] (startR _) (by simp; omega) (by simp) 40 k (by omega) (by omega)
  have run : spec_l11Plan.l1 k k 0 (writesM l) (List.replicate (writesM l).length true) (List.replicate 8 false) [] = _ := run
  rw [run]
  rfl
/-! ### the slots -/
def slotsM (l : List MoveT) : Int := (((l.filter fun m => m.1 == 1).length : Nat) : Int)
theorem slots_take {l : List MoveT} {i : Nat} (h : i < l.length) : slotsM (l.take (i + 1)) = if (l[i]).1 = 1 then slotsM (l.take i) + 1 else slotsM (l.take i) := by
  unfold slotsM
  rw [take_succ' h, List.filter_append]
  split
  · rename_i hw; simp [hw]
  · rename_i hw; simp [hw]
theorem slots_le (l : List MoveT) : 0 ≤ slotsM l ∧ slotsM l ≤ (l.length : Int) := by
  unfold slotsM
  have := List.length_filter_le (fun m : MoveT => m.1 == 1) l
  omega
theorem sSlots (l : List MoveT) (hl : l.length ≤ 40) : ∀ k, 41 ≤ k → spec_SlotsOf k l = some (slotsM l) := by
  intro k hk
  have key : ∀ (d i : Nat), i + d = l.length → ∀ j, d < j → spec_SlotsOf.l0 j l (slotsM (l.take i)) (i : Int) = some (slotsM l) := by
    intro d
    induction d with
    | zero =>
      intro i hi j hj
      obtain ⟨j, rfl⟩ : ∃ q, j = q + 1 := ⟨j - 1, by omega⟩
      obtain rfl : i = l.length := by omega
      unfold spec_SlotsOf.l0
      rw [dnlt (Nat.le_refl _), List.take_length]
      rfl
    | succ d ih =>
      intro i hi j hj
      obtain ⟨j, rfl⟩ : ∃ q, j = q + 1 := ⟨j - 1, by omega⟩
      have h : i < l.length := by omega
      have hb := slots_le (l.take i)
      have hbl : (l.take i).length ≤ 40 := by rw [List.length_take]; omega
      have := ih (i + 1) (by omega) j (by omega)
      rw [slots_take h] at this
      rw [spec_SlotsOf.l0, dlt h, decide_eq_true (by omega : (l.length : Int) ≤ 40), at_nat h, wsuc (by omega), w64 (n := slotsM (l.take i) + 1) (by omega) (by omega)]
      simp only [Bool.and_self, cond_true, Option.bind_some]
      by_cases h1 : (l[i]).1 = 1
      · rw [if_pos h1] at this
        rw [show ((l[i]).1 == 1) = true by simpa using h1]
        exact this
      · rw [if_neg h1] at this
        rw [show ((l[i]).1 == 1) = false by simpa using h1]
        exact this
  have run := key l.length 0 (Nat.zero_add _) k (by omega)
  have run : spec_SlotsOf.l0 k l 0 0 = _ := run
  unfold spec_SlotsOf
  rw [run]
  rfl
theorem iSlots (l : List MoveT) (hl : l.length ≤ 40) : ∀ k, 41 ≤ k → impl_slotsOf k l = some (slotsM l) := by
  intro k hk
  have key : ∀ (d i : Nat), i + d = l.length → ∀ j, d < j → impl_slotsOf.l0 j (slotsM (l.take i)) l (l.length : Int) (i : Int) = some (slotsM l) := by
    intro d
    induction d with
    | zero =>
      intro i hi j hj
      obtain ⟨j, rfl⟩ : ∃ q, j = q + 1 := ⟨j - 1, by omega⟩
      obtain rfl : i = l.length := by omega
      unfold impl_slotsOf.l0
      rw [dnlt (Nat.le_refl _), List.take_length]
      rfl
    | succ d ih =>
      intro i hi j hj
      obtain ⟨j, rfl⟩ : ∃ q, j = q + 1 := ⟨j - 1, by omega⟩
      have h : i < l.length := by omega
      have hb := slots_le (l.take i)
      have hbl : (l.take i).length ≤ 40 := by rw [List.length_take]; omega
      have := ih (i + 1) (by omega) j (by omega)
      rw [slots_take h] at this
      rw [impl_slotsOf.l0, dlt h, at_nat h, wsuc (by omega), w64 (n := slotsM (l.take i) + 1) (by omega) (by omega)]
      simp only [cond_true, Option.bind_some]
      by_cases h1 : (l[i]).1 = 1
      · rw [if_pos h1] at this
        rw [show ((l[i]).1 == 1) = true by simpa using h1]
        exact this
      · rw [if_neg h1] at this
        rw [show ((l[i]).1 == 1) = false by simpa using h1]
        exact this
  have run := key l.length 0 (Nat.zero_add _) k (by omega)
  have run : impl_slotsOf.l0 k 0 l (l.length : Int) 0 = _ := run
  unfold impl_slotsOf
  rw [run]
  rfl
/-! ### packages -/
theorem codeM_to {l : List StepT} {n : Int} (h : codeM l n = 0) : ∀ x ∈ writesM l, 0 ≤ x.2.1 ∧ x.2.1 ≤ 7 := by
  obtain ⟨_, h1, h2, h3, _, _⟩ := codeM_ok h
  intro x hx
  unfold writesM at hx
  rw [List.mem_filter] at hx
  have hs := h3 x hx.1
  have hw := hx.2
  unfold isW at hw
  have h5 : x.1 ≠ 5 := by simpa using hw
  unfold stepT stepB at hs
  rw [if_neg h5] at hs
  split at hs
  · simp only [Bool.and_eq_true, decide_eq_true_eq] at hs; omega
  · split at hs
    · simp only [Bool.and_eq_true, decide_eq_true_eq] at hs; omega
    · split at hs
      · simp only [Bool.and_eq_true, decide_eq_true_eq] at hs; omega
      · split at hs
        · simp only [Bool.and_eq_true, decide_eq_true_eq] at hs; omega
        · cases hs
theorem sPlanOf (l : List StepT) (n : Int) (h : codeM l n = 0) : Ever fun k => spec_PlanOf k l n = some (planM l, 0) := by
  have hl := (codeM_ok h).1
  refine ((sStepsCode l n (by omega)).and (Ever.ge 60 fun k hk => hk)).mono fun k hk => ?_
  unfold spec_PlanOf
  rw [decide_eq_false (by omega : ¬ ((400 : Int) < (l.length : Int))), hk.1, h, sPlan l hl (codeM_to h) k hk.2]
  rfl
def packB (p : PkgT) : Bool := decide (codeM p.2.2 p.1 = 0) && decide (p.2.1.length = 32)
theorem sPackage (p : PkgT) (hl : p.2.2.length ≤ 1048576) : Ever fun k => spec_PackageRight k p = some (packB p) := by
  refine (sStepsCode p.2.2 p.1 hl).mono fun k hk => ?_
  unfold spec_PackageRight packB
  rw [hk]
  simp only [Option.bind_some]
  rw [beqd, beqd]
  congr 2
  rw [Bool.eq_iff_iff, decide_eq_true_eq, decide_eq_true_eq]
  omega
theorem iPackage (p : PkgT) (hl : p.2.2.length ≤ 1048576) : Ever fun k => impl_isPackage k p = some (packB p) := by
  refine (iStepsCode p.2.2 p.1 hl).mono fun k hk => ?_
  unfold impl_isPackage packB
  rw [hk]
  simp only [Option.bind_some]
  rw [beqd, beqd]
  congr 2
  rw [Bool.eq_iff_iff, decide_eq_true_eq, decide_eq_true_eq]
  omega
theorem packB_ok {p : PkgT} (h : packB p = true) : codeM p.2.2 p.1 = 0 ∧ p.2.1.length = 32 := by
  unfold packB at h
  rw [Bool.and_eq_true, decide_eq_true_eq, decide_eq_true_eq] at h
  exact h
def headP (p : PkgT) : Int × Int × Int × Str := (p.1, ((p.2.2.length : Int), (slotsM (planM p.2.2), p.2.1)))
theorem sHeadOf (p : PkgT) (h : packB p = true) : Ever fun k => spec_l18Head k p = some (headP p) := by
  have hc := (packB_ok h).1
  refine ((sPlanOf p.2.2 p.1 hc).and (Ever.ge 60 fun k hk => hk)).mono fun k hk => ?_
  unfold spec_l18Head
  rw [hk.1]
  simp only [Option.bind_some]
  rw [sSlots _ (Nat.le_trans (planM_len _ (codeM_ok hc).1 (codeM_to hc)) (by omega)) k (by omega)]
  rfl
/-- Is it a package of at least one step that takes at most four slots? -/
def agentB (p : PkgT) : Bool := packB p && (decide (0 < p.2.2.length) && decide (slotsM (planM p.2.2) ≤ 4))
theorem headP_right (p : PkgT) (h : packB p = true) : spec_HeadRight (headP p) = some (decide (0 < p.2.2.length) && decide (slotsM (planM p.2.2) ≤ 4)) := by
  obtain ⟨hc, h32⟩ := packB_ok h
  obtain ⟨h20, h1, h8, _⟩ := codeM_ok hc
  have hs := slots_le (planM p.2.2)
  unfold headP
  rw [sHead]
  unfold headB
  rw [decide_eq_true h1, decide_eq_true h8, decide_eq_true (by omega : (p.2.2.length : Int) ≤ 20), decide_eq_true hs.1, decide_eq_true (by omega : ((p.2.1.length : Int) = 32))]
  simp only [Bool.and_self, Bool.true_and, Bool.and_true]
  congr 2
  rw [Bool.eq_iff_iff, decide_eq_true_eq, decide_eq_true_eq]
  omega
end Go.Proofs.YtaajcllchbnjiaaE

namespace Go.Proofs.YtaajcllchbnjiaaE
open Go
set_option linter.unusedVariables false
theorem or128 : ∀ a : Nat, a < 256 → intBits .or .u8 ((a : Nat) : Int) 128 = ((a % 128 + 128 : Nat) : Int) := by decide +kernel
theorem iput : ∀ (f u : Nat) (acc : List Int) (j : Nat), u < 128 ^ f → u < 18446744073709551616 → acc.length + f ≤ 100 → 0 < f → f < j + 1 → ∃ p : Int × List Int, impl_putNum.l1 j (u : Int) acc = some p ∧ p.2.length ≤ 100 ∧ p.2 ++ [IntKind.wrap .u8 p.1] = acc ++ groups f u
  | 0, _, _, _, _, _, _, h, _ => absurd h (by omega)
  | f + 1, u, acc, 0, hu, hb, hl, _, hj => by omega
  | f + 1, u, acc, j + 1, hu, hb, hl, _, hj => by
    unfold impl_putNum.l1
    by_cases h : 128 ≤ u
    · have hf : 0 < f := by
        rcases Nat.eq_zero_or_pos f with rfl | h'
        · simp at hu; omega
        · exact h'
      obtain ⟨p, e, e1, e2⟩ := iput f (u / 128) (acc ++ [((u % 128 + 128 : Nat) : Int)]) j (by rw [Nat.pow_succ] at hu; exact Nat.div_lt_of_lt_mul (by rw [Nat.mul_comm]; exact hu)) (by omega) (by simp; omega) hf (by omega)
      refine ⟨p, ?_, e1, ?_⟩
      · have e3 : intBits .or .u8 (IntKind.wrap .u8 (u : Int)) 128 = ((u % 128 + 128 : Nat) : Int) := by
          rw [u8w, show (u : Int) % 256 = ((u % 256 : Nat) : Int) by omega, or128 _ (by omega)]
          congr 1
          omega
        have e4 : shr .u64 (u : Int) 7 = ((u / 128 : Nat) : Int) := shr_nat .u64 u 7 (by decide)
        rw [decide_eq_true (by omega : (127 : Int) < (u : Int)), e3, e4]
        simp only [cond_true]
        rw [app_ok (by simp; omega), nneg_some (by omega)]
        exact e
      · rw [e2, List.append_assoc]
        simp [groups, h]
    · refine ⟨((u : Int), acc), ?_, by show acc.length ≤ 100; omega, ?_⟩
      · rw [decide_eq_false (by omega : ¬ ((127 : Int) < (u : Int)))]
        rfl
      · show acc ++ [IntKind.wrap .u8 (u : Int)] = _
        rw [u8w, show ((u : Int) % 256) = (u : Int) by omega]
        simp [groups, h]
theorem not64 (a : Nat) (h : a < 18446744073709551616) : intBits .xor .u64 (IntKind.max .u64) (a : Int) = ((18446744073709551615 - a : Nat) : Int) := by
  show IntKind.wrap .u64 (((BitVec.ofInt 64 ((18446744073709551615 : Nat) : Int)) ^^^ (BitVec.ofInt 64 (a : Int))).toNat : Int) = _
  have e : (BitVec.ofNat 64 18446744073709551615) = BitVec.allOnes 64 := by decide
  rw [BitVec.ofInt_natCast, BitVec.ofInt_natCast, e, BitVec.allOnes_xor, BitVec.toNat_not, BitVec.toNat_ofNat, u64w, Nat.mod_eq_of_lt (show a < 2 ^ 64 by omega)]
  omega
theorem iPutNum (n : Int) (h : Num n) : Ever fun k => impl_putNum k n = some (putOf n) := by
  refine Ever.ge 10 fun k hk => ?_
  have hz := zig_lt h
  obtain ⟨p, e, e1, e2⟩ := iput 10 (zig n) [] k (by omega) hz (by simp) (by omega) (by omega)
  have hs : impl_putNum.j0 n (shl .u64 (IntKind.wrap .u64 n) 1) = some ((zig n : Nat) : Int) := by
    unfold Num at h
    have e0 : shl .u64 (IntKind.wrap .u64 n) 1 = (2 * n) % 18446744073709551616 := by
      have : shl .u64 (IntKind.wrap .u64 n) 1 = IntKind.wrap .u64 (IntKind.wrap .u64 n * 2) := rfl
      rw [this, u64w, u64w]
      omega
    unfold impl_putNum.j0
    rw [e0]
    by_cases hn : n < 0
    · rw [decide_eq_true hn, show (2 * n) % 18446744073709551616 = ((18446744073709551616 + 2 * n).toNat : Int) by omega, cond_true, not64 _ (by omega)]
      congr 1
      unfold zig
      rw [if_pos hn]
      omega
    · rw [decide_eq_false hn, cond_false]
      congr 1
      unfold zig
      rw [if_neg hn]
      omega
  unfold impl_putNum
  rw [nneg_some (by omega), hs]
  simp only [Option.bind_some]
  rw [e]
  simp only [Option.bind_some]
  rw [app_ok (by simp; omega), e2]
  rfl
/-- Several numbers' encodings. -/
def putsOf : List Int → Str
  | [] => []
  | n :: l => putOf n ++ putsOf l
theorem putsOf_len : ∀ l : List Int, (putsOf l).length ≤ 10 * l.length
  | [] => Nat.zero_le _
  | n :: l => by
    have := putOf_len n
    have := putsOf_len l
    simp only [putsOf, List.length_append, List.length_cons]
    omega
theorem iPutNums (l : List Int) (hw : ∀ n ∈ l, Num n) (hl : l.length ≤ 1000000) : Ever fun k => impl_putNums k l = some (putsOf l) := by
  have hp : Ever fun k => ∀ i, i < l.length → ∀ n, l[i]? = some n → impl_putNum k n = some (putOf n) := Ever.all fun i hi => (iPutNum l[i] (hw _ (List.getElem_mem hi))).mono fun k h n hn => by
    rw [List.getElem?_eq_getElem hi] at hn
    cases hn
    exact h
  have key : ∀ (d i : Nat) (acc : Str), l.length - i = d → i ≤ l.length → acc.length ≤ 10 * i → Ever fun k => ∀ j, d < j → impl_putNums.l0 k j acc l (l.length : Int) (i : Int) = some (acc ++ putsOf (l.drop i)) := by
    intro d
    induction d with
    | zero =>
      intro i acc hd hi ha
      refine Ever.of fun k j hj => ?_
      obtain ⟨j, rfl⟩ : ∃ m, j = m + 1 := ⟨j - 1, by omega⟩
      unfold impl_putNums.l0
      rw [decide_eq_false (by omega : ¬ ((i : Int) < (l.length : Int))), List.drop_eq_nil_of_le (by omega)]
      simp only [cond_false, putsOf, List.append_nil]
    | succ d ih =>
      intro i acc hd hi ha
      have hlt : i < l.length := by omega
      have := putOf_len l[i]
      refine (hp.and (ih (i + 1) (acc ++ putOf l[i]) (by omega) (by omega) (by rw [List.length_append]; omega))).mono fun k ⟨h1, h2⟩ j hj => ?_
      obtain ⟨j, rfl⟩ : ∃ m, j = m + 1 := ⟨j - 1, by omega⟩
      unfold impl_putNums.l0
      rw [decide_eq_true (by omega : (i : Int) < (l.length : Int)), at_nat hlt]
      simp only [cond_true, Option.bind_some]
      rw [h1 i hlt _ (List.getElem?_eq_getElem hlt)]
      simp only [Option.bind_some]
      rw [cat_some (by omega)]
      simp only [Option.bind_some]
      rw [wsuc (by omega), h2 j (by omega), List.drop_eq_getElem_cons hlt, putsOf, List.append_assoc]
  obtain ⟨K, h⟩ := key l.length 0 [] (by omega) (by omega) (by simp)
  refine Ever.ge (K + l.length + 1) fun k hk => ?_
  have h := h k (by omega) k (by omega)
  have h : impl_putNums.l0 k k [] l (l.length : Int) 0 = some (putsOf l) := h
  unfold impl_putNums
  rw [h]
  rfl
end Go.Proofs.YtaajcllchbnjiaaE
