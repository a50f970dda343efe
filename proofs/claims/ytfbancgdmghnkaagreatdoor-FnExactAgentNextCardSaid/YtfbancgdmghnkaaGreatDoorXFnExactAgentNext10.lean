/- What the law FnExactAgentNext needs, part 11 of 13: the Lean functions of the Go functions that it reaches, with the proofs that the calls come to what they say, and plain facts about them. Conditions: those that each theorem states. Written by a session and by its programs (after the kit's printer). -/
import Derived.Laws.BitsLemmas
import Derived.Lib.ItoaNum
import Derived.Test.YtfbancgdmghnkaaGreatDoorXFnExactAgentNext9
namespace Go.Proofs.YtfbancgdmghnkaaGreatDoorE
open Go
set_option linter.unusedVariables false
theorem u8w (n : Int) : IntKind.wrap .u8 n = n % 256 := by simp [IntKind.wrap, IntKind.bits, IntKind.signed]
theorem Zhn (n : Int) : IntKind.wrap .u32 n = n % 4294967296 := by simp [IntKind.wrap, IntKind.bits, IntKind.signed]
theorem Zwi (n : Int) : IntKind.wrap .u64 n = n % 18446744073709551616 := by simp [IntKind.wrap, IntKind.bits, IntKind.signed]
theorem Zcm (a b : Nat) (ha : a < 4294967296) (hb : b < 4294967296) : intBits .xor .u32 (a : Int) (b : Int) = ((a ^^^ b : Nat) : Int) := by
 have hx : a ^^^ b < 2 ^ 32 := Nat.xor_lt_two_pow (by omega) (by omega)
 show IntKind.wrap .u32 (((BitVec.ofInt 32 (a : Int)) ^^^ (BitVec.ofInt 32 (b : Int))).toNat : Int) = _
 rw [BitVec.ofInt_natCast, BitVec.ofInt_natCast, BitVec.toNat_xor, BitVec.toNat_ofNat, BitVec.toNat_ofNat, Zhn, Nat.mod_eq_of_lt (show a < 2 ^ 32 by omega), Nat.mod_eq_of_lt (show b < 2 ^ 32 by omega)]
 omega
theorem Z65 (a : Nat) (ha : a < 4294967296) : intBits .and .u32 (a : Int) 1 = ((a % 2 : Nat) : Int) := by
 have h : a &&& 1 = a % 2 := Nat.and_one_is_mod a
 show IntKind.wrap .u32 (((BitVec.ofInt 32 (a : Int)) &&& (BitVec.ofInt 32 ((1 : Nat) : Int))).toNat : Int) = _
 rw [BitVec.ofInt_natCast, BitVec.ofInt_natCast, BitVec.toNat_and, BitVec.toNat_ofNat, BitVec.toNat_ofNat, Zhn, Nat.mod_eq_of_lt (show a < 2 ^ 32 by omega), Nat.mod_eq_of_lt (show 1 < 2 ^ 32 by omega), h]
 omega
theorem Zf8 (a : Nat) (ha : a < 18446744073709551616) : intBits .and .u64 (a : Int) 1 = ((a % 2 : Nat) : Int) := by
 have h : a &&& 1 = a % 2 := Nat.and_one_is_mod a
 show IntKind.wrap .u64 (((BitVec.ofInt 64 (a : Int)) &&& (BitVec.ofInt 64 ((1 : Nat) : Int))).toNat : Int) = _
 rw [BitVec.ofInt_natCast, BitVec.ofInt_natCast, BitVec.toNat_and, BitVec.toNat_ofNat, BitVec.toNat_ofNat, Zwi, Nat.mod_eq_of_lt (show a < 2 ^ 64 by omega), Nat.mod_eq_of_lt (show 1 < 2 ^ 64 by omega), h]
 omega
theorem Z57 (a b : Nat) (ha : a < 18446744073709551616) (hb : b < 18446744073709551616) : intBits .or .u64 (a : Int) (b : Int) = ((a ||| b : Nat) : Int) := by
 show IntKind.wrap .u64 (((BitVec.ofInt 64 (a : Int)) ||| (BitVec.ofInt 64 (b : Int))).toNat : Int) = _
 have hx : a ||| b < 2 ^ 64 := Nat.or_lt_two_pow (by omega) (by omega)
 rw [BitVec.ofInt_natCast, BitVec.ofInt_natCast, BitVec.toNat_or, BitVec.toNat_ofNat, BitVec.toNat_ofNat, Zwi, Nat.mod_eq_of_lt (show a < 2 ^ 64 by omega), Nat.mod_eq_of_lt (show b < 2 ^ 64 by omega)]
 omega
theorem Zneb : ∀ a : Nat, a < 256 → intBits .and .u8 ((a : Nat) : Int) 127 = ((a % 128 : Nat) : Int) := by decide +kernel
theorem Zseb (a : Nat) (h : a < 9223372036854775808) : intBits .xor .i64 (-1) (a : Int) = -(a : Int) - 1 := by
 show IntKind.wrap .i64 (((BitVec.ofInt 64 (-1)) ^^^ (BitVec.ofInt 64 (a : Int))).toNat : Int) = _
 have e : (BitVec.ofInt 64 (-1)) = BitVec.allOnes 64 := by decide
 rw [BitVec.ofInt_natCast, e, BitVec.allOnes_xor, BitVec.toNat_not, BitVec.toNat_ofNat, IntKind.wrap_i64, Nat.mod_eq_of_lt (show a < 2 ^ 64 by omega)]
 omega
theorem Z4i (k : IntKind) (r m : Nat) (h : m ≤ k.bits) : shr k (r : Int) (m : Int) = ((r / 2 ^ m : Nat) : Int) := by
 unfold shr
 rw [Int.toNat_natCast, Nat.min_eq_left h, Int.fdiv_eq_ediv_of_nonneg _ (by exact Int.le_of_lt (Int.pow_pos (by omega)))]
 push_cast
 rfl
theorem Zam (c : UInt8) : c.toNat < 256 := c.toNat_lt
theorem Z38 (c : UInt8) : UInt8.ofNat ((c.toNat : Nat) : Int).toNat = c := by simp
def Zfk (r : Nat) : Nat := if r % 2 = 1 then (r / 2) ^^^ 3988292384 else r / 2
def Zdn : Nat → Nat → Nat
 | 0, r => r
 | n + 1, r => Zdn n (Zfk r)
def Zbn : Str → Nat → Nat
 | [], r => r
 | c :: l, r => Zbn l (Zdn 8 (r ^^^ c.toNat))
def Zcg (c : Nat) (s : Str) : Nat := (Zbn s (c ^^^ 4294967295)) ^^^ 4294967295
theorem x32 {a b : Nat} (ha : a < 4294967296) (hb : b < 4294967296) : a ^^^ b < 4294967296 := Nat.xor_lt_two_pow (n := 32) ha hb
theorem Znq {r : Nat} (h : r < 4294967296) : Zfk r < 4294967296 := by
 unfold Zfk
 split
 ·exact x32 (by omega) (by omega)
 ·omega
theorem Z4r : ∀ (n : Nat) {r : Nat}, r < 4294967296 → Zdn n r < 4294967296
 | 0, _, h => h
 | n + 1, _, h => Z4r n (Znq h)
theorem Zgx : ∀ (l : Str) {r : Nat}, r < 4294967296 → Zbn l r < 4294967296
 | [], _, h => h
 | c :: l, r, h => Zgx l (Z4r 8 (x32 h (by have := Zam c; omega)))
def Z4o (n : Nat) : Str := Zbd [((n % 256 : Nat) : Int), ((n / 256 % 256 : Nat) : Int), ((n / 65536 % 256 : Nat) : Int), ((n / 16777216 % 256 : Nat) : Int)]
def Zhj (s : Str) : Str := s ++ Z4o (Zcg 0 s)
theorem Zvt (n : Nat) : (Z4o n).length = 4 := rfl
def Zq (s : Str) : Str := s.take (s.length - 4)
theorem Z3o (s : Str) : (Zq s).length = s.length - 4 := by unfold Zq; simp
theorem Zwab {a b : Str} : Zhj a = Zhj b ↔ a = b := by
 constructor
 ·intro h
  exact List.append_inj_left' h (by rw [Zvt, Zvt])
 ·rintro rfl; rfl
theorem Z71 (s : Str) : (Z4o (Zcg 0 (Zq s)) = s.drop (s.length - 4)) ↔ Zhj (Zq s) = s := by
 have e : s = Zq s ++ s.drop (s.length - 4) := (List.take_append_drop _ _).symm
 unfold Zhj
 constructor
 ·intro h; rw [h]; exact e.symm
 ·intro h
  exact List.append_cancel_left (h.trans e)
def Zth (s : Str) : Str × Int := if s.length < 4 then ([], 4) else if Zhj (Zq s) = s then (Zq s, 0) else ([], 5)
theorem Zzr {s : Str} (h : (Zth s).2 = 0) : Zth s = (Zq s, 0) ∧ Zhj (Zq s) = s ∧ 4 ≤ s.length := by
 unfold Zth at h ⊢
 by_cases h4 : s.length < 4
 ·rw [if_pos h4] at h; simp at h
 ·rw [if_neg h4] at h ⊢
  by_cases he : Zhj (Zq s) = s
  ·rw [if_pos he]; exact ⟨rfl, he, by omega⟩
  ·rw [if_neg he] at h; simp at h
def zig (n : Int) : Nat := if n < 0 then (-2 * n - 1).toNat else (2 * n).toNat
def Zrd : Nat → Nat → List Int
 | 0, _ => []
 | f + 1, u => if 128 ≤ u then ((u % 128 + 128 : Nat) : Int) :: Zrd f (u / 128) else [(u : Int)]
def Zw (n : Int) : Str := Zbd (Zrd 10 (zig n))
def Num (n : Int) : Prop := -9223372036854775808 ≤ n ∧ n < 9223372036854775808
theorem Zz2 {n : Int} (h : Num n) : zig n < 18446744073709551616 := by unfold Num at h; unfold zig; split <;> omega
theorem Zg0 : ∀ (f u : Nat), (Zrd f u).length ≤ f
 | 0, _ => by simp [Zrd]
 | f + 1, u => by
  unfold Zrd
  split
  ·simp only [List.length_cons]; have := Zg0 f (u / 128); omega
  ·simp
theorem Z2l (l : List Int) : (Zbd l).length = l.length := by simp [Zbd]
theorem Zgh (n : Int) : (Zw n).length ≤ 10 := by
 unfold Zw
 rw [Z2l]
 exact Zg0 10 _
theorem Zly (n : Int) : 1 ≤ (Zw n).length := by
 unfold Zw
 rw [Z2l]
 unfold Zrd
 split <;> simp
def Zgd (s : Str) : Str := Zw (s.length : Int) ++ s
theorem Z2q (s : Str) : (Zgd s).length ≤ 10 + s.length := by
 unfold Zgd
 have := Zgh (s.length : Int)
 rw [List.length_append]
 omega
def unz (u : Nat) : Int := if u % 2 = 1 then -((u / 2 : Nat) : Int) - 1 else ((u / 2 : Nat) : Int)
def gn : Nat → Nat → Nat → Str → Int × Nat × Int
 | 0, _, _, _ => (0, 0, 3)
 | _ + 1, _, _, [] => (0, 0, 4)
 | f + 1, i, u, b :: l => if i = 9 ∧ 1 < b.toNat then (0, 0, 3) else if 128 ≤ b.toNat then gn f (i + 1) (u + b.toNat % 128 * 128 ^ i) l else if b.toNat = 0 ∧ 0 < i then (0, 0, 3) else (unz (u + b.toNat % 128 * 128 ^ i), i + 1, 0)
def fin (a : Nat) (r : Int × Nat × Int) : Int × Int × Int := if r.2.2 = 0 then (r.1, ((a + r.2.1 : Nat) : Int), 0) else (0, 0, r.2.2)
def Zsd (s : Str) (a : Nat) : Int × Int × Int := fin a (gn 10 0 0 (s.drop a))
theorem Zty (i : Nat) : (2 : Nat) ^ (7 * i) = 128 ^ i := by rw [Nat.pow_mul]
theorem Zcu {i u b : Nat} (_ : i ≤ 8) (hu : u < 128 ^ i) : u + b % 128 * 128 ^ i < 128 ^ (i + 1) := by
 have h1 : b % 128 ≤ 127 := by omega
 have h2 : b % 128 * 128 ^ i ≤ 127 * 128 ^ i := Nat.mul_le_mul_right _ h1
 rw [Nat.pow_succ]
 omega
theorem Z00 {i : Nat} (hi : i ≤ 9) : 128 ^ i ≤ 9223372036854775808 := by
 have : 128 ^ i ≤ 128 ^ 9 := Nat.pow_le_pow_right (by omega) hi
 simpa using this
theorem Z40 {i b : Nat} (hi : i ≤ 9) (h9 : i = 9 → b ≤ 1) : b % 128 * 128 ^ i < 18446744073709551616 := by
 by_cases h : i = 9
 ·have := h9 h
  subst h
  have : b % 128 ≤ 1 := by omega
  have := Nat.mul_le_mul_right (128 ^ 9) this
  simp at this ⊢
  omega
 ·have h1 : 128 ^ i ≤ 128 ^ 8 := Nat.pow_le_pow_right (by omega) (by omega)
  have h2 : b % 128 ≤ 127 := by omega
  have := Nat.mul_le_mul h2 h1
  simp at this
  omega
theorem Znw {i u b : Nat} (hi : i ≤ 9) (hu : u < 128 ^ i) (h9 : i = 9 → b ≤ 1) : u + b % 128 * 128 ^ i < 18446744073709551616 := by
 by_cases h : i = 9
 ·have := h9 h
  subst h
  have h1 : b % 128 ≤ 1 := by omega
  have := Nat.mul_le_mul_right (128 ^ 9) h1
  simp at this hu ⊢
  omega
 ·have h1 := Zcu (b := b) (show i ≤ 8 by omega) hu
  have h2 := Z00 (show i + 1 ≤ 9 by omega)
  omega
theorem Z46 {i b : Nat} (hi : i ≤ 9) (h9 : i = 9 → b ≤ 1) : shl .u64 ((b % 128 : Nat) : Int) ((7 * i : Nat) : Int) = ((b % 128 * 128 ^ i : Nat) : Int) := by
 unfold shl
 rw [Int.toNat_natCast, Nat.min_eq_left (by simp [IntKind.bits]; omega), Zwi]
 have e : ((b % 128 : Nat) : Int) * 2 ^ (7 * i) = ((b % 128 * 128 ^ i : Nat) : Int) := by rw [← Zty]; push_cast; rfl
 rw [e]
 have := Z40 hi h9
 omega
theorem Zaeb {i u b : Nat} (hu : u < 128 ^ i) : u ||| (b % 128 * 128 ^ i) = u + b % 128 * 128 ^ i := by
 have h := @Nat.shiftLeft_add_eq_or_of_lt (7 * i) u (by rw [Zty]; exact hu) (b % 128)
 rw [Nat.shiftLeft_eq, Zty] at h
 rw [Nat.or_comm, ← h, Nat.add_comm]
theorem Zj7 (v : Nat) : zig (unz v) = v := by
 unfold unz
 split
 ·unfold zig; split <;> omega
 ·unfold zig; split <;> omega
theorem Zqdb (n : Int) : unz (zig n) = n := by
 unfold zig
 split
 ·unfold unz; split <;> omega
 ·unfold unz; split <;> omega
theorem Zrbb {v : Nat} (h : v < 18446744073709551616) : Num (unz v) := by
 unfold Num unz
 split <;> omega
theorem Z31 : ∀ (f i u : Nat) (l : Str), i + f = 10 → i ≤ 9 → u < 128 ^ i → (gn f i u l).2.2 = 0 →
  ∃ v, gn f i u l = (unz (u + v * 128 ^ i), i + (Zrd f v).length, 0) ∧ l = Zbd (Zrd f v) ++ l.drop (Zrd f v).length ∧ u + v * 128 ^ i < 18446744073709551616 ∧ (0 < i → v ≠ 0)
 | 0, i, u, l, hf, h9, _, _ => by omega
 | f + 1, i, u, [], hf, h9, hu, h0 => by simp [gn] at h0
 | f + 1, i, u, c :: l, hf, hi9, hu, h0 => by
  have hb := Zam c
  have hbc := Z38 c
  simp only [gn] at h0 ⊢
  generalize hcb : c.toNat = b at h0 hb hbc ⊢
  by_cases h9 : i = 9 ∧ 1 < b
  ·rw [if_pos h9] at h0; simp at h0
  rw [if_neg h9] at h0 ⊢
  have hb9 : i = 9 → b ≤ 1 := fun h => by
   rcases Nat.lt_or_ge 1 b with h1 | h1
   ·exact absurd ⟨h, h1⟩ h9
   ·exact h1
  by_cases h128 : 128 ≤ b
  ·have hi8 : i ≤ 8 := by
    by_cases h : i = 9
    ·have := hb9 h; omega
    ·omega
   rw [if_pos h128] at h0 ⊢
   obtain ⟨v, e1, e2, e3, e4⟩ := Z31 f (i + 1) (u + b % 128 * 128 ^ i) l (by omega) (by omega) (Zcu hi8 hu) h0
   have hv := e4 (by omega)
   have hs : u + b % 128 * 128 ^ i + v * 128 ^ (i + 1) = u + (b % 128 + 128 * v) * 128 ^ i := by
    rw [Nat.pow_succ, Nat.add_mul, Nat.mul_comm (128 ^ i) 128, ← Nat.mul_assoc, Nat.mul_comm v 128, Nat.add_assoc]
   have hg : Zrd (f + 1) (b % 128 + 128 * v) = (b : Int) :: Zrd f v := by
    have h1 : 128 ≤ b % 128 + 128 * v := by omega
    have h2 : (b % 128 + 128 * v) / 128 = v := by omega
    have h3 : (b % 128 + 128 * v) % 128 + 128 = b := by omega
    simp only [Zrd, if_pos h1, h2, h3]
   refine ⟨b % 128 + 128 * v, ?_, ?_, ?_, ?_⟩
   ·rw [e1, hs, hg, List.length_cons, Nat.add_assoc, Nat.add_comm 1]
   ·rw [hg]
    show c :: l = UInt8.ofNat ((b : Nat) : Int).toNat :: (Zbd (Zrd f v) ++ l.drop (Zrd f v).length)
    rw [hbc, ← e2]
   ·rw [← hs]; exact e3
   ·intro _; omega
  ·rw [if_neg h128] at h0 ⊢
   by_cases hz : b = 0 ∧ 0 < i
   ·rw [if_pos hz] at h0; simp at h0
   rw [if_neg hz] at h0 ⊢
   have hm : b % 128 = b := by omega
   have hsl := Znw (b := b) hi9 hu hb9
   rw [hm] at hsl ⊢
   have hg : Zrd (f + 1) b = [(b : Int)] := by simp only [Zrd, if_neg h128]
   refine ⟨b, ?_, ?_, hsl, ?_⟩
   ·rw [hg]; rfl
   ·rw [hg]
    show c :: l = UInt8.ofNat ((b : Nat) : Int).toNat :: l
    rw [hbc]
   ·intro hi hb0; exact hz ⟨hb0, hi⟩
structure Got (s : Str) (a : Nat) (n : Int) (a' : Nat) : Prop where
 at' : a' = a + (Zw n).length
 le : a' ≤ s.length
 eq : s.drop a = Zw n ++ s.drop a'
 range : Num n
theorem Zek (s : Str) (a : Nat) : (∃ (n : Int) (a' : Nat), Zsd s a = (n, (a' : Int), 0) ∧ Got s a n a') ∨ ∃ c, c ≠ 0 ∧ Zsd s a = (0, 0, c) := by
 unfold Zsd fin
 by_cases h : (gn 10 0 0 (s.drop a)).2.2 = 0
 ·left
  obtain ⟨v, e1, e2, e3, _⟩ := Z31 10 0 0 (s.drop a) (by omega) (by omega) (by omega) h
  simp only [Nat.pow_zero, Nat.mul_one, Nat.zero_add] at e1 e3
  have hB : Zw (unz v) = Zbd (Zrd 10 v) := by unfold Zw; rw [Zj7]
  have hsz : (Zw (unz v)).length = (Zrd 10 v).length := by rw [hB, Z2l]
  refine ⟨unz v, a + (Zw (unz v)).length, ?_, rfl, ?_, ?_, Zrbb e3⟩
  ·rw [e1, hsz]
   rfl
  ·have := congrArg List.length e2
   simp only [List.length_append, Z2l, List.length_drop] at this
   have hp : 0 < (Zrd 10 v).length := by unfold Zrd; split <;> simp
   omega
  ·rw [hsz, ← List.drop_drop, hB]
   exact e2
 ·right
  exact ⟨_, h, by rw [if_neg h]⟩
theorem Z21 : ∀ (f i u v : Nat) (l : Str), i + f = 10 → i ≤ 9 → v < 128 ^ f → u + v * 128 ^ i < 18446744073709551616 → (0 < i → v ≠ 0) → gn f i u (Zbd (Zrd f v) ++ l) = (unz (u + v * 128 ^ i), i + (Zrd f v).length, 0)
 | 0, i, u, v, l, hf, h9, _, _, _ => by omega
 | f + 1, i, u, v, l, hf, hi9, hv, hb, hz => by
  have h9' : i = 9 → v ≤ 1 := fun h => by subst h; simp at hb; omega
  by_cases h128 : 128 ≤ v
  ·have hi8 : i ≤ 8 := by
    by_cases h : i = 9
    ·have := h9' h; omega
    ·omega
   have hg : Zrd (f + 1) v = ((v % 128 + 128 : Nat) : Int) :: Zrd f (v / 128) := by simp only [Zrd, if_pos h128]
   have ht : (UInt8.ofNat (((v % 128 + 128 : Nat) : Int)).toNat).toNat = v % 128 + 128 := by
    rw [Int.toNat_natCast, UInt8.toNat_ofNat']
    omega
   rw [hg]
   show gn (f + 1) i u (UInt8.ofNat (((v % 128 + 128 : Nat) : Int)).toNat :: (Zbd (Zrd f (v / 128)) ++ l)) = _
   simp only [gn]
   rw [ht, if_neg (by omega), if_pos (by omega)]
   have hs : u + (v % 128 + 128) % 128 * 128 ^ i + v / 128 * 128 ^ (i + 1) = u + v * 128 ^ i := by
    have e : (v % 128 + 128) % 128 = v % 128 := by omega
    have e2 : v % 128 * 128 ^ i + v / 128 * (128 * 128 ^ i) = v * 128 ^ i := by
     rw [← Nat.mul_assoc, ← Nat.add_mul]
     congr 1
     omega
    rw [e, Nat.pow_succ, Nat.mul_comm (128 ^ i) 128, Nat.add_assoc, e2]
   rw [Z21 f (i + 1) _ (v / 128) l (by omega) (by omega) (by rw [Nat.pow_succ] at hv; exact Nat.div_lt_of_lt_mul (by rw [Nat.mul_comm]; exact hv)) (by rw [hs]; exact hb) (fun _ => by omega), hs]
   simp only [List.length_cons, Prod.mk.injEq, and_true, true_and]
   omega
  ·have hg : Zrd (f + 1) v = [(v : Int)] := by simp only [Zrd, if_neg h128]
   have ht : (UInt8.ofNat ((v : Int)).toNat).toNat = v := by
    rw [Int.toNat_natCast, UInt8.toNat_ofNat']
    omega
   rw [hg]
   show gn (f + 1) i u (UInt8.ofNat ((v : Int)).toNat :: l) = _
   simp only [gn]
   rw [ht, if_neg (fun q => by have := h9' q.1; omega), if_neg h128, if_neg (fun q => hz q.2 q.1), Nat.mod_eq_of_lt (by omega)]
   rfl
theorem Zdq (n : Int) (h : Num n) (s : Str) (a : Nat) (t : Str) (hs : s.drop a = Zw n ++ t) : Zsd s a = (n, ((a + (Zw n).length : Nat) : Int), 0) := by
 unfold Zsd
 have hz := Zz2 h
 rw [hs]
 unfold Zw
 rw [Z21 10 0 0 (zig n) t rfl (by omega) (by omega) (by omega) (fun q => absurd q (by omega))]
 simp only [Nat.pow_zero, Nat.mul_one, Nat.zero_add, Zqdb, Z2l]
 rfl
def Zei (s : Str) (a : Nat) : Str × Int × Int :=
 if (Zsd s a).2.2 = 0 then
  if 0 ≤ (Zsd s a).1 ∧ (Zsd s a).1 ≤ 8000 then
   if (Zsd s a).1 > (s.length : Int) - (Zsd s a).2.1 then ([], 0, 4)
   else ((s.take ((Zsd s a).2.1 + (Zsd s a).1).toNat).drop (Zsd s a).2.1.toNat, (Zsd s a).2.1 + (Zsd s a).1, 0)
  else ([], 0, 3)
 else ([], 0, (Zsd s a).2.2)
structure GotT (s : Str) (a : Nat) (t : Str) (a' : Nat) : Prop where
 at' : a' = a + (Zgd t).length
 le : a' ≤ s.length
 eq : s.drop a = Zgd t ++ s.drop a'
 size : t.length ≤ 8000
theorem Z3l (s : Str) (a : Nat) : (∃ t a', Zei s a = (t, ((a' : Nat) : Int), 0) ∧ GotT s a t a') ∨ ∃ c, c ≠ 0 ∧ Zei s a = ([], 0, c) := by
 unfold Zei
 rcases Zek s a with ⟨n, a', e, g⟩ | ⟨c, hc, e⟩
 ·rw [e]
  simp only [if_true]
  by_cases hn : 0 ≤ n ∧ n ≤ 8000
  ·rw [if_pos hn]
   have hle := g.le
   by_cases hs : n > (s.length : Int) - (a' : Int)
   ·rw [if_pos hs]
    exact .inr ⟨4, by omega, rfl⟩
   ·rw [if_neg hs]
    obtain ⟨m, rfl⟩ : ∃ m : Nat, n = (m : Int) := ⟨n.toNat, by omega⟩
    have e1 : ((a' : Int) + (m : Int)).toNat = a' + m := by omega
    rw [e1, Int.toNat_natCast]
    have hB : (s.take (a' + m)).drop a' = (s.drop a').take m := by
     rw [List.drop_take, Nat.add_sub_cancel_left]
    have hsz : ((s.take (a' + m)).drop a').length = m := by
     rw [hB, List.length_take, List.length_drop]
     omega
    refine .inl ⟨_, a' + m, by push_cast; rfl, ?_, ?_, ?_, ?_⟩
    ·unfold Zgd
     rw [List.length_append, hsz]
     have := g.at'
     omega
    ·omega
    ·unfold Zgd
     rw [hsz, hB, g.eq, List.append_assoc, ← List.drop_drop, List.take_append_drop]
    ·rw [hsz]; omega
  ·rw [if_neg hn]
   exact .inr ⟨3, by omega, rfl⟩
 ·rw [e]
  simp only
  rw [if_neg hc]
  exact .inr ⟨c, hc, rfl⟩
def Zoc (s : Str) (a : Nat) : Int × Str × Int × Bool := if (Zsd s a).2.2 = 0 then ((Zsd s a).1, s, (Zsd s a).2.1, false) else (0, s, (a : Int), true)
theorem Zfo (s : Str) (a : Nat) : (∃ n a', Zoc s a = (n, s, ((a' : Nat) : Int), false) ∧ Got s a n a') ∨ Zoc s a = (0, s, (a : Int), true) := by
 unfold Zoc
 rcases Zek s a with ⟨n, a', e, g⟩ | ⟨c, hc, e⟩
 ·left; exact ⟨n, a', by rw [e]; rfl, g⟩
 ·right; rw [e, if_neg hc]
def Zqe (s : Str) (a : Nat) : Str × Str × Int × Bool := if (Zei s a).2.2 = 0 then ((Zei s a).1, s, (Zei s a).2.1, false) else ([], s, (a : Int), true)
theorem Z70 (s : Str) (a : Nat) : (∃ t a', Zqe s a = (t, s, ((a' : Nat) : Int), false) ∧ GotT s a t a') ∨ Zqe s a = ([], s, (a : Int), true) := by
 unfold Zqe
 rcases Z3l s a with ⟨n, a', e, g⟩ | ⟨c, hc, e⟩
 ·left; exact ⟨n, a', by rw [e]; rfl, g⟩
 ·right; rw [e, if_neg hc]
end Go.Proofs.YtfbancgdmghnkaaGreatDoorE
namespace Go.Proofs.YtfbancgdmghnkaaGreatDoorE
open Go
set_option linter.unusedVariables false
theorem Z0y {n : Int} (h0 : 0 ≤ n) (h1 : n < 18446744073709551616) : IntKind.wrap .u64 n = n := by rw [Zwi]; omega
end Go.Proofs.YtfbancgdmghnkaaGreatDoorE
namespace Go.Proofs.YtfbancgdmghnkaaGreatDoorE
open Go
set_option linter.unusedVariables false
def Ev {α : Type} (f : Nat → Option α) (Q : α → Prop) : Prop := ∃ p, Q p ∧ Ze fun k => f k = some p
theorem Ev.bind {α β : Type} {f : Nat → Option α} {g : Nat → α → Option β} {Q : α → Prop} {R : β → Prop} (h : Ev f Q) (k : ∀ p, Q p → Ev (fun k => g k p) R) : Ev (fun k => (f k).bind (g k)) R := by
 obtain ⟨p, hp, e⟩ := h
 obtain ⟨q, hq, e2⟩ := k p hp
 exact ⟨q, hq, (e.and e2).mono fun k h => (congrArg (fun z => Option.bind z (g k)) h.1).trans h.2⟩
theorem Ev.ret {α : Type} {p : α} {Q : α → Prop} (h : Q p) : Ev (fun _ => some p) Q := ⟨p, h, Ze.of fun _ => rfl⟩
theorem Ev.of {α : Type} {x : Option α} {Q : α → Prop} (h : ∃ p, x = some p ∧ Q p) : Ev (fun _ => x) Q := by
 obtain ⟨p, e, h⟩ := h
 exact ⟨p, h, Ze.of fun _ => e⟩
theorem Ev.mono {α : Type} {f : Nat → Option α} {Q R : α → Prop} (h : Ev f Q) (k : ∀ p, Q p → R p) : Ev f R := by
 obtain ⟨p, hp, e⟩ := h
 exact ⟨p, k p hp, e⟩
theorem Ev.cond {α : Type} {b : Bool} {f g : Nat → Option α} {Q : α → Prop} (h1 : b = true → Ev f Q) (h2 : b = false → Ev g Q) : Ev (fun k => bif b then f k else g k) Q := by
 cases b with
 | true => exact h1 rfl
 | false => exact h2 rfl
theorem Zecb {S R : Type} (L : Nat → Nat → S → Option R) (m : S → Nat) (I : S → Prop) (Q : R → Prop) (step : ∀ s, I s → (∃ r, (Ze fun k => ∀ j, L k (j + 1) s = some r) ∧ Q r) ∨ ∃ s', I s' ∧ m s' < m s ∧ Ze fun k => ∀ j, L k (j + 1) s = L k j s') : ∀ (n : Nat) (s : S), I s → m s ≤ n → ∃ r, Q r ∧ Ze fun k => ∀ j, n < j → L k j s = some r := by
 intro n
 induction n with
 | zero =>
  intro s hi hm
  rcases step s hi with ⟨r, hr, hq⟩ | ⟨s', _, hm', _⟩
  ·refine ⟨r, hq, hr.mono fun k hr j hj => ?_⟩
   obtain ⟨j, rfl⟩ : ∃ q, j = q + 1 := ⟨j - 1, by omega⟩
   exact hr j
  ·omega
 | succ n ih =>
  intro s hi hm
  rcases step s hi with ⟨r, hr, hq⟩ | ⟨s', hi', hm', hs⟩
  ·refine ⟨r, hq, hr.mono fun k hr j hj => ?_⟩
   obtain ⟨j, rfl⟩ : ∃ q, j = q + 1 := ⟨j - 1, by omega⟩
   exact hr j
  ·obtain ⟨r, hq, hr⟩ := ih s' hi' (by omega)
   refine ⟨r, hq, (hr.and hs).mono fun k h j hj => ?_⟩
   obtain ⟨j, rfl⟩ : ∃ q, j = q + 1 := ⟨j - 1, by omega⟩
   rw [h.2 j]
   exact h.1 j (by omega)
theorem Ev.loop {S R : Type} (L : Nat → Nat → S → Option R) (m : S → Nat) (I : S → Prop) (Q : R → Prop) (s : S) (hs : I s) (step : ∀ s, I s → (∃ r, (Ze fun k => ∀ j, L k (j + 1) s = some r) ∧ Q r) ∨ ∃ s', I s' ∧ m s' < m s ∧ Ze fun k => ∀ j, L k (j + 1) s = L k j s') : Ev (fun k => L k k s) Q := by
 obtain ⟨r, hq, K, h⟩ := Zecb L m I Q step (m s) s hs (Nat.le_refl _)
 exact ⟨r, hq, K + m s + 1, fun k hk => h k (by omega) k (by omega)⟩
end Go.Proofs.YtfbancgdmghnkaaGreatDoorE
namespace Go.Proofs.YtfbancgdmghnkaaGreatDoorE
open Go
set_option linter.unusedVariables false
abbrev Zni := Int × Str
abbrev Zrg := List Str × List Zni
abbrev Zxd := Int × Zrg
theorem Zb0 {α : Type} (L : Nat → Int → Int → Option (Int ⊕ Int)) (l : List α) (len : α → Nat) (n : Int) (h0 : 0 ≤ n)
  (hs : ∀ i, (h : i < l.length) → ∀ s, 0 ≤ s → s ≤ n → ∀ j, L (j + 1) s (i : Int) = if s < (len l[i] : Int) then some (.inr (-1)) else L j (s - (len l[i] : Int)) ((i + 1 : Nat) : Int))
  (he : ∀ s j, L (j + 1) s (l.length : Int) = some (.inl s)) : Ev (fun k => L k n 0) fun r => (∃ v, r = .inl v ∧ 0 ≤ v ∧ v ≤ n ∧ ∀ x ∈ l, (len x : Int) ≤ n) ∨ r = .inr (-1) := by
 refine Ev.loop (fun k j (z : Int × Nat) => L j z.1 (z.2 : Int)) (fun z => l.length - z.2) (fun z => 0 ≤ z.1 ∧ z.1 ≤ n ∧ z.2 ≤ l.length ∧ ∀ x ∈ l.take z.2, (len x : Int) ≤ n) _ (n, 0) ⟨h0, Int.le_refl _, Nat.zero_le _, fun x hx => by simp at hx⟩ ?_
 rintro ⟨s, i⟩ ⟨q0, q1, q2, q3⟩
 have q0 : 0 ≤ s := q0
 have q1 : s ≤ n := q1
 have q2 : i ≤ l.length := q2
 by_cases hi : i < l.length
 ·by_cases hb : s < (len l[i] : Int)
  ·left
   refine ⟨.inr (-1), Ze.of fun k j => ?_, .inr rfl⟩
   show L (j + 1) s (i : Int) = _
   rw [hs i hi s q0 q1, if_pos hb]
  ·right
   refine ⟨(s - (len l[i] : Int), i + 1), ⟨by show 0 ≤ s - _; omega, by show s - _ ≤ n; omega, hi, fun x hx => ?_⟩, by show l.length - (i + 1) < l.length - i; omega, Ze.of fun k j => ?_⟩
   ·have hx : x ∈ l.take (i + 1) := hx
    rw [Zkk hi] at hx
    rcases List.mem_append.1 hx with hx | hx
    ·exact q3 x hx
    ·rw [List.mem_singleton.1 hx]; omega
   ·show L (j + 1) s (i : Int) = L j (s - (len l[i] : Int)) ((i + 1 : Nat) : Int)
    rw [hs i hi s q0 q1, if_neg hb]
 ·left
  obtain rfl : i = l.length := by omega
  refine ⟨.inl s, Ze.of fun k j => he s j, .inl ⟨s, rfl, q0, q1, fun x hx => q3 x (by rw [List.take_length]; exact hx)⟩⟩
theorem Zgdb (l : List Str) (n : Int) (hl : l.length ≤ 140737488351232) (hx : ∀ x ∈ l, x.length ≤ 140737488351232) (h0 : 0 ≤ n) (h1 : n ≤ 1048576) : Ev (fun k => Zpc k l n) fun v => v ≤ n ∧ (0 ≤ v → (l.length : Int) ≤ n ∧ ∀ x ∈ l, (x.length : Int) ≤ n) := by
 unfold Zpc
 rw [w64 (n := n - (l.length : Int)) (by omega) (by omega)]
 refine Ev.cond (fun h => Ev.ret ⟨by omega, fun h => by omega⟩) fun h => ?_
 have h : 0 ≤ n - (l.length : Int) := by simpa using h
 refine Ev.bind (Zb0 (fun j s i => Zpc.l0 j l s i) l List.length (n - (l.length : Int)) h (fun i hi s s0 s1 j => ?_) fun s j => ?_) fun r hr => ?_
 ·show Zpc.l0 (j + 1) l s (i : Int) = _
  have hb := hx _ (List.getElem_mem hi)
  rw [Zpc.l0, dlt hi, Zu hi, Zbb (by omega), ]
  simp only [cond_true, Option.bind_some]
  rw [w64 (n := s - ((l[i]).length : Int)) (by omega) (by omega)]
  by_cases hc : s < ((l[i]).length : Int)
  ·rw [if_pos hc, decide_eq_true (by omega : s - ((l[i]).length : Int) < 0)]; rfl
  ·rw [if_neg hc, decide_eq_false (by omega : ¬ (s - ((l[i]).length : Int) < 0))]; rfl
 ·show Zpc.l0 (j + 1) l s (l.length : Int) = _
  unfold Zpc.l0
  rw [Z2c (Nat.le_refl _)]
  rfl
 ·rcases hr with ⟨v, rfl, v0, v1, v2⟩ | rfl
  ·exact Ev.ret ⟨by omega, fun _ => ⟨by omega, fun x hx => by have := v2 x hx; omega⟩⟩
  ·exact Ev.ret ⟨by omega, fun h => by omega⟩
theorem Z7ab (l : List Zni) (n : Int) (hl : l.length ≤ 140737488351232) (hx : ∀ x ∈ l, x.2.length ≤ 140737488351232) (h0 : 0 ≤ n) (h1 : n ≤ 1048576) : Ev (fun k => Zmc k l n) fun v => v ≤ n ∧ (0 ≤ v → (l.length : Int) ≤ n ∧ ∀ x ∈ l, (x.2.length : Int) ≤ n) := by
 unfold Zmc
 rw [w64 (n := n - (l.length : Int)) (by omega) (by omega)]
 refine Ev.cond (fun h => Ev.ret ⟨by omega, fun h => by omega⟩) fun h => ?_
 have h : 0 ≤ n - (l.length : Int) := by simpa using h
 refine Ev.bind (Zb0 (fun j s i => Zmc.l0 j l s i) l (fun x => x.2.length) (n - (l.length : Int)) h (fun i hi s s0 s1 j => ?_) fun s j => ?_) fun r hr => ?_
 ·show Zmc.l0 (j + 1) l s (i : Int) = _
  have hb := hx _ (List.getElem_mem hi)
  have e : Zpg l[i] s = some (if s < ((l[i]).2.length : Int) then -1 else s - ((l[i]).2.length : Int)) := by
   unfold Zpg
   rw [w64 (n := s - ((l[i]).2.length : Int)) (by omega) (by omega)]
   dsimp only
   by_cases hc : s < ((l[i]).2.length : Int)
   ·rw [if_pos hc, decide_eq_true (by omega : s - ((l[i]).2.length : Int) < 0)]; rfl
   ·rw [if_neg hc, decide_eq_false (by omega : ¬ (s - ((l[i]).2.length : Int) < 0))]; rfl
  rw [Zmc.l0, dlt hi, Zu hi, Zbb (by omega)]
  simp only [cond_true, Option.bind_some]
  rw [e]
  simp only [Option.bind_some]
  by_cases hc : s < ((l[i]).2.length : Int)
  ·rw [if_pos hc, if_pos hc]; rfl
  ·rw [if_neg hc, if_neg hc, decide_eq_false (by omega : ¬ (s - ((l[i]).2.length : Int) < 0))]; rfl
 ·show Zmc.l0 (j + 1) l s (l.length : Int) = _
  unfold Zmc.l0
  rw [Z2c (Nat.le_refl _)]
  rfl
 ·rcases hr with ⟨v, rfl, v0, v1, v2⟩ | rfl
  ·exact Ev.ret ⟨by omega, fun _ => ⟨by omega, fun x hx => by have := v2 x hx; omega⟩⟩
  ·exact Ev.ret ⟨by omega, fun h => by omega⟩
def Z9v (f : Zrg) : Prop := (f.1.length ≤ 140737488351232 ∧ ∀ x ∈ f.1, x.length ≤ 140737488351232) ∧ f.2.length ≤ 140737488351232 ∧ ∀ x ∈ f.2, x.2.length ≤ 140737488351232
def Zwp (f : Zrg) (n : Int) : Prop := ((f.1.length : Int) ≤ n ∧ ∀ x ∈ f.1, (x.length : Int) ≤ n) ∧ (f.2.length : Int) ≤ n ∧ ∀ x ∈ f.2, (x.2.length : Int) ≤ n
theorem Zn7 (f : Zrg) (n : Int) (hb : Z9v f) (h0 : 0 ≤ n) (h1 : n ≤ 1048576) : Ev (fun k => Zlg k f n) fun v => v ≤ n ∧ (0 ≤ v → Zwp f n) := by
 unfold Zlg
 refine Ev.bind (Zgdb f.1 n hb.1.1 hb.1.2 h0 h1) fun v hv => Ev.cond (fun _ => Ev.ret ⟨by omega, fun h => by omega⟩) fun hc => ?_
 have hc : 0 ≤ v := by simpa using hc
 refine Ev.bind (Z7ab f.2 v hb.2.1 hb.2.2 hc (by omega)) fun u hu => Ev.cond (fun _ => Ev.ret ⟨by omega, fun h => by omega⟩) fun hd => Ev.ret ⟨by omega, fun hu0 => ?_⟩
 obtain ⟨a1, a2⟩ := hv.2 hc
 obtain ⟨b1, b2⟩ := hu.2 hu0
 exact ⟨⟨a1, a2⟩, by omega, fun x hx => by have := b2 x hx; omega⟩
theorem Zhcb (m : Zxd) (n : Int) (hb : Z9v m.2) (h0 : 0 ≤ n) (h1 : n ≤ 1048576) : Ev (fun k => Zvg k m n) fun v => v ≤ n ∧ (0 ≤ v → Zwp m.2 n) := by
 unfold Zvg
 exact Ev.bind (Zn7 m.2 n hb h0 h1) fun v hv => Ev.cond (fun _ => Ev.ret ⟨by omega, fun h => by omega⟩) fun _ => Ev.ret hv
theorem Z6bb (l : List Str) (hl : l.length ≤ 1048576) : Ze fun k => Zrc k l = some l := by
 refine Ze.ge (l.length + 1) fun k hk => ?_
 unfold Zrc
 rw [Z2o (by omega)]
 simp only [Option.bind_some]
 rw [Zyp (fun j i c => Zrc.l0 j l i c) l ([] : Str) (fun i hi c hc j => by
  show Zrc.l0 (j + 1) l (i : Int) c = _
  rw [Zrc.l0, dlt hi, Zu hi, Zu (by omega : i < c.length), Zbb (by omega)]
  rfl) (fun c j => by
  show Zrc.l0 (j + 1) l (l.length : Int) c = _
  unfold Zrc.l0
  rw [Z2c (Nat.le_refl _)]
  rfl) (k := k) (by omega)]
 rfl
theorem Zkeb (l : List Zni) (hl : l.length ≤ 1048576) : Ze fun k => Zlc k l = some l := by
 refine Ze.ge (l.length + 1) fun k hk => ?_
 unfold Zlc
 rw [Z2o (by omega)]
 simp only [Option.bind_some]
 rw [Zyp (fun j i c => Zlc.l0 j l i c) l ((0, []) : Zni) (fun i hi c hc j => by
  show Zlc.l0 (j + 1) l (i : Int) c = _
  rw [Zlc.l0, dlt hi, Zu hi, Zu (by omega : i < c.length), Zbb (by omega)]
  rfl) (fun c j => by
  show Zlc.l0 (j + 1) l (l.length : Int) c = _
  unfold Zlc.l0
  rw [Z2c (Nat.le_refl _)]
  rfl) (k := k) (by omega)]
 rfl
theorem Zhdb (f : Zrg) (n : Int) (hf : Zwp f n) (hn : n ≤ 1048576) : Ze fun k => Z8f k f = some f := by
 have h1 := hf.1.1
 have h2 := hf.2.1
 refine ((Z6bb f.1 (by omega)).and (Zkeb f.2 (by omega))).mono fun k ⟨e1, e2⟩ => ?_
 unfold Z8f
 rw [e1, e2]
 rfl
theorem Zucb (m : Zxd) (n : Int) (hf : Zwp m.2 n) (hn : n ≤ 1048576) : Ze fun k => Zlf k m = some m := by
 refine (Zhdb m.2 n hf hn).mono fun k e => ?_
 unfold Zlf
 rw [e]
 rfl
theorem Zleb (l : List Str) (hl : l.length ≤ 1048576) : Ze fun k => Ztc k l l = some true := by
 have key : Ze fun k => Ztc.l0 k l l 0 = some (.inl ()) := by
  refine Zh4 (fun j i => Ztc.l0 j l l (i : Int)) l.length _ (fun i hi j => ?_) fun j => ?_
  ·conv => lhs; unfold Ztc.l0
   rw [dlt hi, Zu hi, Zbb (by omega)]
   simp only [cond_true, Option.bind_some, beq_self_eq_true, Bool.not_true, cond_false]
  ·conv => lhs; unfold Ztc.l0
   rw [Z2c (Nat.le_refl _)]
   rfl
 refine key.mono fun k hk => ?_
 unfold Ztc
 rw [hk]
 simp
theorem Zvbb (l : List Zni) (hl : l.length ≤ 1048576) : Ze fun k => Zuc k l l = some true := by
 have hd : ∀ x : Zni, Zfg x x = some true := fun x => by
  unfold Zfg
  simp only [bne_self_eq_false, beq_self_eq_true, Bool.not_true, cond_false]
 have key : Ze fun k => Zuc.l0 k l l 0 = some (.inl ()) := by
  refine Zh4 (fun j i => Zuc.l0 j l l (i : Int)) l.length _ (fun i hi j => ?_) fun j => ?_
  ·conv => lhs; unfold Zuc.l0
   rw [dlt hi, Zu hi, Zbb (by omega)]
   simp only [cond_true, Option.bind_some, hd, Bool.not_true, cond_false]
  ·conv => lhs; unfold Zuc.l0
   rw [Z2c (Nat.le_refl _)]
   rfl
 refine key.mono fun k hk => ?_
 unfold Zuc
 rw [hk]
 simp
theorem Zl7 (m : Zxd) (n : Int) (hf : Zwp m.2 n) (hn : n ≤ 1048576) : Ze fun k => Zag k m m = some true := by
 have h1 := hf.1.1
 have h2 := hf.2.1
 refine ((Zleb m.2.1 (by omega)).and (Zvbb m.2.2 (by omega))).mono fun k ⟨e1, e2⟩ => ?_
 unfold Zag Zeh
 rw [e1, e2]
 simp only [bne_self_eq_false, Option.bind_some, Bool.not_true, cond_false]
end Go.Proofs.YtfbancgdmghnkaaGreatDoorE
namespace Go.Proofs.YtfbancgdmghnkaaGreatDoorE
open Go
set_option linter.unusedVariables false
theorem Z4h (a b : Int) : (a == b) = decide (a = b) := by rw [Bool.eq_iff_iff]; simp
theorem Zk5 (r : Nat) : shr .u32 (r : Int) 1 = ((r / 2 : Nat) : Int) := Z4i .u32 r 1 (by decide)
theorem sl0 : ∀ (n r j : Nat), n ≤ 8 → r < 4294967296 → n < j → Zv.l0 j (r : Int) ((8 - n : Nat) : Int) = some ((Zdn n r : Nat) : Int)
 | n, r, 0, _, _, h => absurd h (Nat.not_lt_zero n)
 | 0, r, j + 1, _, _, _ => by
  unfold Zv.l0
  rfl
 | n + 1, r, j + 1, hn, hr, hj => by
  have e : IntKind.wrap .i64 (((8 - (n + 1) : Nat) : Int) + 1) = ((8 - n : Nat) : Int) := by rw [w64] <;> omega
  unfold Zv.l0
  rw [decide_eq_true (by omega : (((8 - (n + 1) : Nat) : Int)) < 8), Z65 _ hr, Zk5, e, Ztd (by omega), Z4h]
  simp only [cond_true, Option.bind_some]
  by_cases hp : r % 2 = 1
  ·rw [decide_eq_true (by omega : ((r % 2 : Nat) : Int) = 1), show (3988292384 : Int) = ((3988292384 : Nat) : Int) from rfl, Zcm _ _ (by omega) (by omega)]
   have e2 : Zfk r = r / 2 ^^^ 3988292384 := by unfold Zfk; rw [if_pos hp]
   rw [cond_true, ← e2]
   exact sl0 n (Zfk r) j (by omega) (Znq hr) (by omega)
  ·rw [decide_eq_false (by omega : ¬ (((r % 2 : Nat) : Int) = 1))]
   have e2 : Zfk r = r / 2 := by unfold Zfk; rw [if_neg hp]
   rw [cond_false, ← e2]
   exact sl0 n (Zfk r) j (by omega) (Znq hr) (by omega)
theorem sl1 (x : Str) (hx : x.length ≤ 140737488351232) (k : Nat) (hk : 9 ≤ k) : ∀ (d i r j : Nat), x.length - i = d → i ≤ x.length → r < 4294967296 → d < j → Zv.l1 k j x (r : Int) (i : Int) = some ((Zbn (x.drop i) r : Nat) : Int)
 | d, i, r, 0, _, _, _, h => absurd h (Nat.not_lt_zero d)
 | 0, i, r, j + 1, hd, hi, hr, _ => by
  unfold Zv.l1
  rw [decide_eq_false (by omega : ¬ ((i : Int) < (x.length : Int))), List.drop_eq_nil_of_le (by omega)]
  rfl
 | d + 1, i, r, j + 1, hd, hi, hr, hj => by
  have hlt : i < x.length := by omega
  have hc := Zam x[i]
  unfold Zv.l1
  rw [decide_eq_true (by omega : (i : Int) < (x.length : Int)), Zu hlt]
  simp only [cond_true, Option.bind_some]
  have hxr := x32 hr (show x[i].toNat < 4294967296 by omega)
  rw [Zhn, show (((x[i].toNat : Nat) : Int) % 4294967296) = ((x[i].toNat : Nat) : Int) by omega, Zcm _ _ hr (by omega), Zbb (by omega)]
  have h8 := sl0 8 (r ^^^ x[i].toNat) k (Nat.le_refl _) hxr (by omega)
  have h8 : Zv.l0 k ((r ^^^ x[i].toNat : Nat) : Int) 0 = some ((Zdn 8 (r ^^^ x[i].toNat) : Nat) : Int) := h8
  rw [h8, List.drop_eq_getElem_cons hlt]
  simp only [Option.bind_some]
  exact sl1 x hx k hk d (i + 1) _ j (by omega) (by omega) (Z4r 8 hxr) (by omega)
theorem Z74 (c : Nat) (s : Str) (hc : c < 4294967296) (hs : s.length ≤ 140737488351232) : Ze fun k => Zv k (c : Int) s = some ((Zcg c s : Nat) : Int) := by
 refine Ze.ge (s.length + 9) fun k hk => ?_
 have h := sl1 s hs k (by omega) s.length 0 (c ^^^ 4294967295) k (by omega) (by omega) (x32 hc (by omega)) (by omega)
 have h : Zv.l1 k k s ((c ^^^ 4294967295 : Nat) : Int) 0 = some ((Zbn s (c ^^^ 4294967295) : Nat) : Int) := h
 unfold Zv
 rw [Zhn, show ((c : Int) % 4294967296) = (c : Int) by omega, show (4294967295 : Int) = ((4294967295 : Nat) : Int) from rfl, Zcm _ _ hc (by omega), h]
 simp only [Option.bind_some]
 have hl := Zgx s (x32 hc (show 4294967295 < 4294967296 by omega))
 have hl2 := x32 hl (show 4294967295 < 4294967296 by omega)
 rw [Zcm _ _ hl (by omega), w64 (by omega) (by omega)]
 rfl
theorem il0 (x : Str) (i : Nat) (hi : i < x.length) : ∀ (n s r j : Nat), n ≤ 8 → s < 4294967296 → r = s ^^^ (x[i].toNat / 2 ^ (8 - n)) → n < j → Zx.l0 j x (r : Int) (i : Int) ((8 - n : Nat) : Int) = some ((Zdn n s : Nat) : Int)
 | n, s, r, 0, _, _, _, h => absurd h (Nat.not_lt_zero n)
 | 0, s, r, j + 1, _, _, hr, _ => by
  have hc := Zam x[i]
  have : x[i].toNat / 2 ^ (8 - 0) = 0 := Nat.div_eq_of_lt (by simpa using hc)
  rw [this, Nat.xor_zero] at hr
  subst hr
  unfold Zx.l0
  rfl
 | n + 1, s, r, j + 1, hn, hs, hr, hj => by
  have hc := Zam x[i]
  have e : IntKind.wrap .i64 (((8 - (n + 1) : Nat) : Int) + 1) = ((8 - n : Nat) : Int) := by rw [w64] <;> omega
  have ih := il0 x i hi n (Zfk s)
  unfold Zx.l0
  rw [decide_eq_true (by omega : (((8 - (n + 1) : Nat) : Int)) < 8), Zu hi]
  simp only [cond_true, Option.bind_some]
  generalize x[i].toNat = c at hc hr ih ⊢
  have hcd : c / 2 ^ (8 - (n + 1)) < 256 := Nat.lt_of_le_of_lt (Nat.div_le_self _ _) hc
  have hrl : r < 4294967296 := by rw [hr]; exact x32 hs (by omega)
  have hsr : r ^^^ (c / 2 ^ (8 - (n + 1))) = s := by rw [hr, Nat.xor_assoc, Nat.xor_self, Nat.xor_zero]
  have hhalf : r / 2 = s / 2 ^^^ (c / 2 ^ (8 - n)) := by
   have e1 : c / 2 ^ (8 - n) = (c / 2 ^ (8 - (n + 1))) / 2 := by rw [Nat.div_div_eq_div_mul, ← Nat.pow_succ]; congr 2; omega
   rw [hr, e1]
   have := @Nat.shiftRight_xor_distrib 1 s (c / 2 ^ (8 - (n + 1)))
   simpa [Nat.shiftRight_eq_div_pow] using this
  rw [Zhn, show ((c : Int) % 4294967296) = (c : Int) by omega, Z4i .u32 c (8 - (n + 1)) (by show 8 - (n + 1) ≤ 32; omega), Zcm _ _ hrl (by omega), hsr, Z65 _ hs, Zk5, e, Ztd (by omega), Ztd (by omega), Z4h]
  simp only [Option.bind_some]
  by_cases hp : s % 2 = 1
  ·rw [decide_eq_true (by omega : ((s % 2 : Nat) : Int) = 1), show (3988292384 : Int) = ((3988292384 : Nat) : Int) from rfl, Zcm _ _ (by omega) (by omega), cond_true]
   refine ih _ j (by omega) (Znq hs) ?_ (by omega)
   unfold Zfk
   rw [if_pos hp, hhalf, Nat.xor_assoc, Nat.xor_assoc, Nat.xor_comm (c / 2 ^ (8 - n))]
  ·rw [decide_eq_false (by omega : ¬ (((s % 2 : Nat) : Int) = 1)), cond_false]
   refine ih _ j (by omega) (Znq hs) ?_ (by omega)
   unfold Zfk
   rw [if_neg hp, hhalf]
theorem il1 (x : Str) (hx : x.length ≤ 140737488351232) (k : Nat) (hk : 9 ≤ k) : ∀ (d i r j : Nat), x.length - i = d → i ≤ x.length → r < 4294967296 → d < j → Zx.l1 k j x (r : Int) (x.length : Int) (i : Int) = some ((Zbn (x.drop i) r : Nat) : Int)
 | d, i, r, 0, _, _, _, h => absurd h (Nat.not_lt_zero d)
 | 0, i, r, j + 1, hd, hi, hr, _ => by
  unfold Zx.l1
  rw [decide_eq_false (by omega : ¬ ((i : Int) < (x.length : Int))), List.drop_eq_nil_of_le (by omega)]
  rfl
 | d + 1, i, r, j + 1, hd, hi, hr, hj => by
  have hlt : i < x.length := by omega
  have hc := Zam x[i]
  unfold Zx.l1
  rw [decide_eq_true (by omega : (i : Int) < (x.length : Int))]
  have hxr := x32 hr (show x[i].toNat < 4294967296 by omega)
  have h8 := il0 x i hlt 8 (r ^^^ x[i].toNat) r k (Nat.le_refl _) hxr (by simp [Nat.xor_assoc]) (by omega)
  have h8 : Zx.l0 k x (r : Int) (i : Int) 0 = some ((Zdn 8 (r ^^^ x[i].toNat) : Nat) : Int) := h8
  rw [h8, List.drop_eq_getElem_cons hlt]
  simp only [cond_true, Option.bind_some]
  rw [Zbb (by omega)]
  exact il1 x hx k hk d (i + 1) _ j (by omega) (by omega) (Z4r 8 hxr) (by omega)
theorem iCrc (c : Nat) (s : Str) (hc : c < 4294967296) (hs : s.length ≤ 140737488351232) : Ze fun k => Zx k (c : Int) s = some ((Zcg c s : Nat) : Int) := by
 refine Ze.ge (s.length + 9) fun k hk => ?_
 have h := il1 s hs k (by omega) s.length 0 (c ^^^ 4294967295) k (by omega) (by omega) (x32 hc (by omega)) (by omega)
 have h : Zx.l1 k k s ((c ^^^ 4294967295 : Nat) : Int) (s.length : Int) 0 = some ((Zbn s (c ^^^ 4294967295) : Nat) : Int) := h
 unfold Zx
 rw [show (IntKind.max .u32 : Int) = ((4294967295 : Nat) : Int) from rfl, Zcm _ _ (by omega) hc, Nat.xor_comm, h]
 simp only [Option.bind_some]
 have hl := Zgx s (x32 hc (show 4294967295 < 4294967296 by omega))
 rw [Zcm _ _ (by omega) hl, Nat.xor_comm]
 rfl
theorem Zu1 (n : Nat) : Zve (n : Int) = some (Z4o n) := by
 unfold Zve Z4o
 have h8 := Z4i .i64 n 8 (by decide)
 have h16 := Z4i .i64 n 16 (by decide)
 have h24 := Z4i .i64 n 24 (by decide)
 have h8 : shr .i64 (n : Int) 8 = ((n / 256 : Nat) : Int) := h8
 have h16 : shr .i64 (n : Int) 16 = ((n / 65536 : Nat) : Int) := h16
 have h24 : shr .i64 (n : Int) 24 = ((n / 16777216 : Nat) : Int) := h24
 rw [Ztd (by omega), Ztd (by omega), Ztd (by omega)]
 simp only [Option.bind_some]
 rw [h8, h16, h24, u8w, u8w, u8w, u8w]
 rfl
theorem Z54 (s : Str) (hs : s.length ≤ 7996) : Ze fun k => Zre k s = some (Zhj s) := by
 refine (Z74 0 s (by omega) (by omega)).mono fun k h => ?_
 have h : Zv k 0 s = some ((Zcg 0 s : Nat) : Int) := h
 unfold Zre
 rw [decide_eq_false (by omega : ¬ (7996 < (s.length : Int))), h]
 simp only [cond_false, Option.bind_some]
 rw [Zu1]
 simp only [Option.bind_some]
 rw [Zkf (by rw [Zvt]; omega)]
 rfl
theorem Z7eb (s : Str) (hs : s.length ≤ 140737488351232) : Ze fun k => Zug k s = some (Zhj s) := by
 refine (iCrc 0 s (by omega) (by omega)).mono fun k h => ?_
 have h : Zx k 0 s = some ((Zcg 0 s : Nat) : Int) := h
 have h8 := Z4i .u32 (Zcg 0 s) 8 (by decide)
 have h16 := Z4i .u32 (Zcg 0 s) 16 (by decide)
 have h24 := Z4i .u32 (Zcg 0 s) 24 (by decide)
 have h8 : shr .u32 ((Zcg 0 s : Nat) : Int) 8 = ((Zcg 0 s / 256 : Nat) : Int) := h8
 have h16 : shr .u32 ((Zcg 0 s : Nat) : Int) 16 = ((Zcg 0 s / 65536 : Nat) : Int) := h16
 have h24 : shr .u32 ((Zcg 0 s : Nat) : Int) 24 = ((Zcg 0 s / 16777216 : Nat) : Int) := h24
 unfold Zug
 rw [h, Ztd (by omega), Ztd (by omega), Ztd (by omega)]
 simp only [Option.bind_some]
 rw [h8, h16, h24, u8w, u8w, u8w, u8w]
 have e : Zbd [((Zcg 0 s : Nat) : Int) % 256, ((Zcg 0 s / 256 : Nat) : Int) % 256, ((Zcg 0 s / 65536 : Nat) : Int) % 256, ((Zcg 0 s / 16777216 : Nat) : Int) % 256] = Z4o (Zcg 0 s) := rfl
 rw [e, Zkf (by rw [Zvt]; omega)]
 rfl
theorem Zym (s t : Str) : (s == t) = decide (s = t) := by rw [Bool.eq_iff_iff]; simp
theorem Zcr (s : Str) (hs : s.length ≤ 140737488351232) : Ze fun k => Z4e k s = some (Zth s) := by
 refine (Z7eb (Zq s) (by rw [Z3o]; omega)).mono fun k h => ?_
 unfold Z4e Zth
 by_cases h4 : s.length < 4
 ·rw [decide_eq_true (by omega : (s.length : Int) < 4), if_pos h4]
  rfl
 ·rw [decide_eq_false (by omega : ¬ ((s.length : Int) < 4)), if_neg h4, w64 (by omega) (by omega), show ((s.length : Int) - 4) = ((s.length - 4 : Nat) : Int) by omega]
  have hc := Zzi (l := s) (i := 0) (j := s.length - 4) (by omega) (by omega)
  have hc : Zkd s 0 ((s.length - 4 : Nat) : Int) = some (Zq s) := hc
  rw [hc]
  simp only [cond_false, Option.bind_some]
  rw [h]
  simp only [Option.bind_some, Zym]
  by_cases he : Zhj (Zq s) = s
  ·rw [if_pos he, decide_eq_true he]; rfl
  ·rw [if_neg he, decide_eq_false he]; rfl
theorem Zrm (s : Str) (hs : s.length ≤ 8000) : Ze fun k => Z2e k s = some ((Zth s).1, 0, (Zth s).2) := by
 refine (Z74 0 (Zq s) (by omega) (by rw [Z3o]; omega)).mono fun k h => ?_
 have h : Zv k 0 (Zq s) = some ((Zcg 0 (Zq s) : Nat) : Int) := h
 unfold Z2e Zth
 rw [decide_eq_false (by omega : ¬ (8000 < (s.length : Int)))]
 by_cases h4 : s.length < 4
 ·rw [decide_eq_true (by omega : (s.length : Int) < 4), if_pos h4]
  rfl
 ·rw [decide_eq_false (by omega : ¬ ((s.length : Int) < 4)), if_neg h4, w64 (by omega) (by omega), show ((s.length : Int) - 4) = ((s.length - 4 : Nat) : Int) by omega]
  have hc := Zzi (l := s) (i := 0) (j := s.length - 4) (by omega) (by omega)
  have hc : Zkd s 0 ((s.length - 4 : Nat) : Int) = some (Zq s) := hc
  have hd := Zzi (l := s) (i := s.length - 4) (j := s.length) (by omega) (by omega)
  rw [List.take_length] at hd
  simp only [cond_false]
  rw [hc]
  simp only [cond_false, Option.bind_some]
  rw [h]
  simp only [Option.bind_some]
  rw [Zu1, hd]
  simp only [Option.bind_some, Zym]
  by_cases he : Zhj (Zq s) = s
  ·rw [if_pos he, decide_eq_true ((Z71 s).2 he)]; rfl
  ·rw [if_neg he, decide_eq_false (fun q => he ((Z71 s).1 q))]; rfl
end Go.Proofs.YtfbancgdmghnkaaGreatDoorE
namespace Go.Proofs.YtfbancgdmghnkaaGreatDoorE
open Go
set_option linter.unusedVariables false
theorem Zxdb (s : Str) : Zbd (Zad s) = s := by
 unfold Zbd Zad
 rw [List.map_map]
 have : ((fun n : Int => UInt8.ofNat n.toNat) ∘ fun b : UInt8 => (b.toNat : Int)) = id := by
  funext b
  simp
 rw [this, List.map_id]
theorem Z87 (a b : List Int) : Zbd (a ++ b) = Zbd a ++ Zbd b := by simp [Zbd]
theorem Zyy (a b : Str) : Zad (a ++ b) = Zad a ++ Zad b := by simp [Zad]
theorem Z41 (s : Str) : (Zad s).length = s.length := by simp [Zad]
end Go.Proofs.YtfbancgdmghnkaaGreatDoorE
namespace Go.Proofs.YtfbancgdmghnkaaGreatDoorE
open Go
set_option linter.unusedVariables false
theorem Z3u (n : Nat) (p : Nat → Bool) : (∀ i, i < n → p i = true) ∨ ∃ m, m < n ∧ p m = false ∧ ∀ i, i < m → p i = true := by
 induction n with
 | zero => exact .inl fun i hi => absurd hi (Nat.not_lt_zero i)
 | succ n ih =>
  rcases ih with h | ⟨m, h1, h2, h3⟩
  ·cases hp : p n with
   | true =>
    refine .inl fun i hi => ?_
    rcases Nat.eq_or_lt_of_le (Nat.le_of_lt_succ hi) with rfl | hi
    ·exact hp
    ·exact h i hi
   | false => exact .inr ⟨n, Nat.lt_succ_self n, hp, h⟩
  ·exact .inr ⟨m, Nat.lt_succ_of_lt h1, h2, h3⟩
theorem Z96 {α : Type} {l : List α} {q : α → Bool} : (∀ x ∈ l, q x = true) ↔ ∀ i, (h : i < l.length) → q l[i] = true := by
 constructor
 ·exact fun h i hi => h _ (List.getElem_mem hi)
 ·intro h x hx
  obtain ⟨i, hi, rfl⟩ := List.getElem_of_mem hx
  exact h i hi
theorem Zt0 {α : Type} (l : List α) (q : α → Bool) : (l.all q = true) ∨ (l.all q = false ∧ ∃ m, ∃ h : m < l.length, q l[m] = false ∧ ∀ i, (hi : i < m) → q (l[i]'(by omega)) = true) := by
 rcases Z3u l.length (fun i => match l[i]? with | some x => q x | none => true) with h | ⟨m, h1, h2, h3⟩
 ·refine .inl (List.all_eq_true.2 (Z96.2 fun i hi => ?_))
  have := h i hi
  rwa [List.getElem?_eq_getElem hi] at this
 ·rw [List.getElem?_eq_getElem h1] at h2
  replace h2 : q l[m] = false := h2
  refine .inr ⟨?_, m, h1, h2, fun i hi => ?_⟩
  ·cases ha : l.all q with
   | false => rfl
   | true => rw [List.all_eq_true.1 ha _ (List.getElem_mem h1)] at h2; cases h2
  ·have := h3 i hi
   rwa [List.getElem?_eq_getElem (by omega)] at this
theorem Z0t {R : Type} (L : Nat → Nat → Option (Unit ⊕ R)) (n : Nat) (p : Nat → Bool) (q : Nat → R) (hs : ∀ i, i < n → p i = true → ∀ j, L (j + 1) i = L j (i + 1)) (hf : ∀ i, i < n → p i = false → ∀ j, L (j + 1) i = some (.inr (q i))) (he : ∀ j, L (j + 1) n = some (.inl ())) :
  ((List.range n).all p = true ∧ ∀ k, n < k → L k 0 = some (.inl ())) ∨ ((List.range n).all p = false ∧ ∃ i, i < n ∧ p i = false ∧ ∀ k, n < k → L k 0 = some (.inr (q i))) := by
 rcases Z3u n p with h | ⟨m, h1, h2, h3⟩
 ·refine .inl ⟨List.all_eq_true.2 fun i hi => h i (List.mem_range.1 hi), Zod L n _ (fun i hi => hs i hi (h i hi)) he⟩
 ·refine .inr ⟨?_, m, h1, h2, fun k hk => Zod L m _ (fun i hi => hs i (by omega) (h3 i hi)) (hf m h1 h2) k (by omega)⟩
  cases ha : (List.range n).all p with
  | false => rfl
  | true => rw [List.all_eq_true.1 ha m (List.mem_range.2 h1)] at h2; cases h2
end Go.Proofs.YtfbancgdmghnkaaGreatDoorE
namespace Go.Proofs.YtfbancgdmghnkaaGreatDoorE
open Go
set_option linter.unusedVariables false
def Zjl (f : Zrg) (n : Int) : Option Nat := Zhd (fun x => x.1 == n) f.2 0
def Zed (f : Zrg) (n : Int) : Str := match Zjl f n with
 | some i => (f.2.getD i (0, [])).2
 | none => f.1.getD n.toNat []
theorem Zg2 {f : Zrg} {n : Int} {i : Nat} (h : Zjl f n = some i) : i < f.2.length := by
 obtain ⟨_, h2, _⟩ := Z0m h
 simpa using h2
theorem Zrx (f : Zrg) (n : Int) (hl : f.2.length ≤ 1048576) {k : Nat} (hk : f.2.length < k) : Zse k f n = some (match Zjl f n with | some i => (i : Int) | none => -1) := by
 have run := Zhk (fun j i => Z1b.l0 j f.2 (f.2.length : Int) i n) f.2 (fun x => x.1 == n) (.inl n) (fun i => .inr ((i : Int), n)) (fun i hi => by
  have e : Zuh f.2[i] n = some (f.2[i].1 == n) := rfl
  constructor
  ·intro hp j
   show Z1b.l0 (j + 1) f.2 (f.2.length : Int) (i : Int) n = Z1b.l0 j f.2 (f.2.length : Int) ((i + 1 : Nat) : Int) n
   rw [Z1b.l0]
   rw [dlt hi, Zu hi, Zbb (by omega)]
   simp only [cond_true, Option.bind_some, e, hp, cond_false]
  ·intro hp j
   show Z1b.l0 (j + 1) f.2 (f.2.length : Int) (i : Int) n = _
   unfold Z1b.l0
   rw [dlt hi, Zu hi]
   simp only [cond_true, Option.bind_some, e, hp]) (fun j => by
  show Z1b.l0 (j + 1) f.2 (f.2.length : Int) (f.2.length : Int) n = _
  unfold Z1b.l0
  rw [Z2c (Nat.le_refl _)]
  rfl) hk
 have run : Z1b.l0 k f.2 (f.2.length : Int) 0 n = _ := run
 unfold Zse Z1b Zjl
 rw [run]
 cases Zhd (fun x : Zni => x.1 == n) f.2 0 <;> rfl
theorem Zht {α : Type} {l : List α} {i : Nat} (d : α) (h : i < l.length) : at? l (i : Int) = some (l.getD i d) := by
 rw [Zu h, List.getD_eq_getElem?_getD, List.getElem?_eq_getElem h]
 rfl
theorem Zj2 {α : Type} {l : List α} {n : Int} (d : α) (h0 : 0 ≤ n) (h : n < (l.length : Int)) : at? l n = some (l.getD n.toNat d) := by
 have := Zht (l := l) (i := n.toNat) d (by omega)
 rwa [Int.toNat_of_nonneg h0] at this
theorem Zws (f : Zrg) (n : Int) (hl : f.2.length ≤ 1048576) (h0 : 0 ≤ n) (h1 : n < (f.1.length : Int)) {k : Nat} (hk : f.2.length < k) : Zvd k f n = some (Zed f n) := by
 unfold Zvd Zed
 rw [Zrx f n hl hk]
 cases h : Zjl f n with
 | some i =>
  simp only [Option.bind_some]
  rw [decide_eq_true (by omega : (0 : Int) ≤ (i : Int)), Zht (0, []) (Zg2 h)]
  rfl
 | none =>
  simp only [Option.bind_some]
  rw [show decide ((0 : Int) ≤ -1) = false from rfl, Zj2 [] h0 h1]
  rfl
theorem Zgs (f : Zrg) (n : Int) (hl : f.2.length ≤ 1048576) (h0 : 0 ≤ n) (h1 : n < (f.1.length : Int)) {k : Nat} (hk : f.2.length < k) : Zab k f n = some (Zed f n) := by
 have run := Zhk (fun j i => Zab.l0 j n f.1 f.2 i) f.2 (fun x => x.1 == n) (.inl ()) (fun i => .inr (f.2.getD i (0, [])).2) (fun i hi => by
  constructor
  ·intro hp j
   show Zab.l0 (j + 1) n f.1 f.2 (i : Int) = Zab.l0 j n f.1 f.2 ((i + 1 : Nat) : Int)
   rw [Zab.l0]
   rw [dlt hi, Zu hi, Zbb (by omega)]
   simp only [cond_true, Option.bind_some, hp, cond_false]
  ·intro hp j
   show Zab.l0 (j + 1) n f.1 f.2 (i : Int) = _
   unfold Zab.l0
   rw [dlt hi, Zu hi]
   simp only [cond_true, Option.bind_some, hp]
   rw [List.getD_eq_getElem?_getD, List.getElem?_eq_getElem hi]
   rfl) (fun j => by
  show Zab.l0 (j + 1) n f.1 f.2 (f.2.length : Int) = _
  unfold Zab.l0
  rw [Z2c (Nat.le_refl _)]
  rfl) hk
 have run : Zab.l0 k n f.1 f.2 0 = _ := run
 unfold Zab Zed Zjl
 rw [run]
 cases Zhd (fun x : Zni => x.1 == n) f.2 0 with
 | some i => rfl
 | none =>
  simp only [Option.bind_some]
  rw [Zj2 [] h0 h1]
  rfl
def okD (m : Nat) (l : List Zni) (i : Nat) : Bool := decide (0 ≤ (l.getD i (0, [])).1) && decide ((l.getD i (0, [])).1 ≤ (m : Int) - 1) && decide ((l.getD i (0, [])).2.length ≤ 96) && !((l.take i).any fun x => x.1 == (l.getD i (0, [])).1)
def okS (s : Str) : Bool := decide (s.length ≤ 96)
def Zgj (f : Zrg) : Bool := decide (1 ≤ f.1.length ∧ f.1.length ≤ 40 ∧ f.2.length ≤ f.1.length) && (f.1.all okS && (List.range f.2.length).all (okD f.1.length f.2))
theorem Z10 {l : List Zni} {i : Nat} (h : i < l.length) : ∃ m, Zhd (fun x : Zni => x.1 == (l.getD i (0, [])).1) l 0 = some m ∧ m ≤ i ∧ (m < i ↔ (l.take i).any (fun x => x.1 == (l.getD i (0, [])).1) = true) := by
 have hg : l.getD i (0, []) = l[i] := by rw [List.getD_eq_getElem?_getD, List.getElem?_eq_getElem h]; rfl
 rw [hg]
 cases hf : Zhd (fun x : Zni => x.1 == l[i].1) l 0 with
 | none =>
  have := Z8n.1 hf l[i] (List.getElem_mem h)
  simp at this
 | some m =>
  obtain ⟨_, h2, h3, h4⟩ := Z0m hf
  have h2 : m < l.length := by simpa using h2
  have h3 : (l[m].1 == l[i].1) = true := by simpa using h3
  have h4 : ∀ j, (hj : j < m) → (l[j].1 == l[i].1) = false := fun j hj => by simpa using h4 j (by omega)
  have hle : m ≤ i := by
   refine Nat.not_lt.1 fun q => ?_
   have := h4 i q
   simp at this
  refine ⟨m, rfl, hle, fun q => ?_, fun q => ?_⟩
  ·refine List.any_eq_true.2 ⟨l[m], ?_, h3⟩
   exact List.mem_iff_getElem.2 ⟨m, by simp; omega, by simp⟩
  ·obtain ⟨x, hx, hx2⟩ := List.any_eq_true.1 q
   obtain ⟨j, hj, e⟩ := List.mem_iff_getElem.1 hx
   rw [List.length_take] at hj
   have hji : j < i := by omega
   rw [List.getElem_take] at e
   refine Nat.lt_of_le_of_lt (Nat.not_lt.1 fun q2 => ?_) hji
   have := h4 j q2
   rw [e, hx2] at this
   cases this
theorem Zt4 {s : List Str} (hl : s.length ≤ 1048576) (d : List Zni) (n : Int) : Z9f (s, d) n = some (decide (0 ≤ n) && decide (n ≤ (s.length : Int) - 1)) := by
 unfold Z9f Zqd Zgb
 simp only [Option.bind_some]
 rw [w64 (by omega) (by omega)]
theorem Z3x (f : Zrg) (hl : f.1.length ≤ 1048576) (hl2 : f.2.length ≤ 1048576) {k : Nat} (hk : 1048577 ≤ k) : Zic k f = some (Zgj f) := by
 obtain ⟨s, d⟩ := f
 have hl : s.length ≤ 1048576 := hl
 have hl2 : d.length ≤ 1048576 := hl2
 have hs : Zng k s = some (!(s.all okS)) := by
  have run := Zhk (fun j i => Zzb.l0 j s (s.length : Int) i) s (fun x => !(okS x)) (.inl ()) (fun i => .inr (i : Int)) (fun i hi => by
   have e : Z8g s[i] = some (!(okS s[i])) := by
    unfold Z8g okS
    by_cases q : s[i].length ≤ 96
    ·rw [decide_eq_true q, decide_eq_false (by omega)]; rfl
    ·rw [decide_eq_false q, decide_eq_true (by omega)]; rfl
   constructor
   ·intro hp j
    show Zzb.l0 (j + 1) s (s.length : Int) (i : Int) = Zzb.l0 j s (s.length : Int) ((i + 1 : Nat) : Int)
    rw [Zzb.l0]
    rw [dlt hi, Zu hi, Zbb (by omega)]
    simp only [cond_true, Option.bind_some, e, hp, cond_false]
   ·intro hp j
    show Zzb.l0 (j + 1) s (s.length : Int) (i : Int) = _
    unfold Zzb.l0
    rw [dlt hi, Zu hi]
    simp only [cond_true, Option.bind_some, e, hp]) (fun j => by
   show Zzb.l0 (j + 1) s (s.length : Int) (s.length : Int) = _
   unfold Zzb.l0
   rw [Z2c (Nat.le_refl _)]
   rfl) (show s.length < k by have : s.length ≤ 1048576 := hl; omega)
  have run : Zzb.l0 k s (s.length : Int) 0 = _ := run
  unfold Zng Zzb
  rw [run]
  cases hf : Zhd (fun x => !(okS x)) s 0 with
  | none =>
   have : s.all okS = true := List.all_eq_true.2 fun x hx => by
    have := Z8n.1 hf x hx
    simpa using this
   rw [this]
   rfl
  | some i =>
   obtain ⟨_, h2, h3, _⟩ := Z0m hf
   have : s.all okS = false := by
    cases q : s.all okS with
    | false => rfl
    | true =>
     have := List.all_eq_true.1 q _ (List.getElem_mem h2)
     rw [this] at h3
     cases h3
   rw [this]
   simp only [Option.bind_some]
   rw [decide_eq_true (by omega : (0 : Int) ≤ (i : Int))]
   rfl
 have hd := Z0t (fun j i => Zic.l0 k j s d d (d.length : Int) (i : Int)) d.length (okD s.length d) (fun _ => false) (fun i hi hp j => ?_) (fun i hi hp j => ?_) (fun j => ?_)
 ·unfold Zic Zgj
  have h40 : Zgb (s.length : Int) 1 40 = some (decide (1 ≤ s.length) && decide (s.length ≤ 40)) := by
   unfold Zgb
   congr 2 <;> exact decide_eq_decide.2 (by omega)
  have hz : Zqd s = some (s.length : Int) := rfl
  dsimp only
  rw [hz]
  simp only [Option.bind_some]
  rw [h40]
  simp only [Option.bind_some]
  by_cases c : 1 ≤ s.length ∧ s.length ≤ 40 ∧ d.length ≤ s.length
  ·rw [decide_eq_true c.1, decide_eq_true c.2.1, decide_eq_false (by omega : ¬ (s.length : Int) < (d.length : Int)), decide_eq_true c, hs]
   simp only [Bool.and_self, Bool.not_true, Bool.or_self, cond_false, Option.bind_some, Bool.true_and]
   cases ha : s.all okS with
   | false => rfl
   | true =>
    simp only [Bool.not_true, cond_false, Bool.true_and]
    rcases hd with ⟨h1, h2⟩ | ⟨h1, i, _, _, h2⟩
    ·have h2 : Zic.l0 k k s d d (d.length : Int) 0 = some (.inl ()) := h2 k (by have : d.length ≤ 1048576 := hl2; omega)
     rw [h2, h1]
     rfl
    ·have h2 : Zic.l0 k k s d d (d.length : Int) 0 = some (.inr false) := h2 k (by have : d.length ≤ 1048576 := hl2; omega)
     rw [h2, h1]
     rfl
  ·rw [decide_eq_false c]
   have : ((!(decide (1 ≤ s.length) && decide (s.length ≤ 40))) || decide ((s.length : Int) < (d.length : Int))) = true := by
    rw [Bool.or_eq_true, Bool.not_eq_true', Bool.and_eq_false_iff, decide_eq_false_iff_not, decide_eq_false_iff_not, decide_eq_true_iff]
    omega
   rw [this]
   rfl
 all_goals skip
 ·have hg : d.getD i (0, []) = d[i] := by rw [List.getD_eq_getElem?_getD, List.getElem?_eq_getElem hi]; rfl
  have hp2 := hp
  unfold okD at hp2
  rw [Bool.and_eq_true, Bool.and_eq_true, Bool.and_eq_true, hg] at hp2
  obtain ⟨⟨⟨p1, p2⟩, p3⟩, p4⟩ := hp2
  obtain ⟨m, m1, m2, m3⟩ := Z10 hi
  rw [hg] at m1 m3
  conv => lhs; unfold Zic.l0
  rw [dlt hi, Zu hi, Zbb (by omega)]
  simp only [cond_true, Option.bind_some]
  rw [Zt4 hl, p1, p2]
  simp only [Option.bind_some, Bool.and_self, Bool.not_true, Bool.false_or]
  rw [decide_eq_false (by have := of_decide_eq_true p3; omega : ¬ (96 : Int) < (d[i].2.length : Int)), Zrx (s, d) _ hl2 (by show d.length < k; omega)]
  unfold Zjl
  dsimp only
  rw [m1]
  simp only [cond_false, Option.bind_some]
  have hno : ¬ (m : Int) < (i : Int) := fun q => by
   have := m3.1 (by omega)
   rw [this] at p4
   cases p4
  rw [decide_eq_false hno]
  rfl
 ·have hg : d.getD i (0, []) = d[i] := by rw [List.getD_eq_getElem?_getD, List.getElem?_eq_getElem hi]; rfl
  obtain ⟨m, m1, m2, m3⟩ := Z10 hi
  rw [hg] at m1 m3
  have hp2 := hp
  unfold okD at hp2
  rw [hg] at hp2
  conv => lhs; unfold Zic.l0
  rw [dlt hi, Zu hi]
  simp only [cond_true, Option.bind_some]
  rw [Zt4 hl, Zrx (s, d) _ hl2 (by show d.length < k; omega)]
  unfold Zjl
  dsimp only
  rw [m1]
  simp only [Option.bind_some]
  cases q1 : (decide (0 ≤ d[i].1) && decide (d[i].1 ≤ (s.length : Int) - 1)) with
  | false => rfl
  | true =>
   rw [q1, Bool.true_and] at hp2
   by_cases q2 : d[i].2.length ≤ 96
   ·rw [decide_eq_true q2, Bool.true_and, Bool.not_eq_false'] at hp2
    rw [decide_eq_false (by omega : ¬ (96 : Int) < (d[i].2.length : Int))]
    simp only [Bool.not_true, Bool.or_self, cond_false]
    rw [decide_eq_true (by have := m3.2 hp2; omega : (m : Int) < (i : Int))]
    rfl
   ·rw [decide_eq_true (by omega : (96 : Int) < (d[i].2.length : Int))]
    rfl
 ·conv => lhs; unfold Zic.l0
  rw [Z2c (Nat.le_refl _)]
  rfl
theorem Zx6 (d : List Zni) (i : Nat) (hi : i < d.length) (k : Nat) (hk : i < k) (hl2 : d.length ≤ 1048576 := by omega) : ((d.take i).any (fun x => x.1 == (d.getD i (0, [])).1) = true ∧ ∀ s, Zn.l1 k s d (i : Int) 0 = some (.inr false)) ∨ ((d.take i).any (fun x => x.1 == (d.getD i (0, [])).1) = false ∧ ∀ s, Zn.l1 k s d (i : Int) 0 = some (.inl ())) := by
 have hg : d.getD i (0, []) = d[i] := by rw [List.getD_eq_getElem?_getD, List.getElem?_eq_getElem hi]; rfl
 rw [hg]
 have run : ∀ s, Zn.l1 k s d (i : Int) 0 = some (match Zhd (fun x : Zni => x.1 == d[i].1) (d.take i) 0 with | some _ => .inr false | none => .inl ()) := fun s =>
  Zhk (fun j q => Zn.l1 j s d (i : Int) q) (d.take i) (fun x => x.1 == d[i].1) (.inl ()) (fun _ => .inr false) (fun q hq => by
   rw [List.length_take] at hq
   have hq2 : q < i := by omega
   rw [List.getElem_take]
   constructor
   ·intro hp j
    show Zn.l1 (j + 1) s d (i : Int) (q : Int) = Zn.l1 j s d (i : Int) ((q + 1 : Nat) : Int)
    rw [Zn.l1]
    rw [dlt hq2, Zu (by omega : q < d.length), Zu hi, Zbb (by omega)]
    simp only [cond_true, Option.bind_some, hp, cond_false]
   ·intro hp j
    show Zn.l1 (j + 1) s d (i : Int) (q : Int) = _
    rw [Zn.l1]
    rw [dlt hq2, Zu (by omega : q < d.length), Zu hi]
    simp only [cond_true, Option.bind_some, hp]) (fun j => by
   show Zn.l1 (j + 1) s d (i : Int) ((d.take i).length : Int) = _
   rw [List.length_take, Nat.min_eq_left (by omega), Zn.l1, Z2c (Nat.le_refl _)]
   rfl) (by rw [List.length_take]; omega)
 have ha := Ztp (p := fun x : Zni => x.1 == d[i].1) (l := d.take i) (n := 0)
 cases hf : Zhd (fun x : Zni => x.1 == d[i].1) (d.take i) 0 with
 | some m =>
  rw [hf] at ha
  exact .inl ⟨ha.symm, fun s => by rw [run s, hf]⟩
 | none =>
  rw [hf] at ha
  exact .inr ⟨ha.symm, fun s => by rw [run s, hf]⟩
theorem Z7u (f : Zrg) (hl : f.1.length ≤ 1048576) (hl2 : f.2.length ≤ 1048576) {k : Nat} (hk : 1048577 ≤ k) : Zn k f = some (Zgj f) := by
 obtain ⟨s, d⟩ := f
 have hl : s.length ≤ 1048576 := hl
 have hl2 : d.length ≤ 1048576 := hl2
 have hs := Z0t (fun j i => Zn.l0 j s d (i : Int)) s.length (fun i => okS (s.getD i [])) (fun _ => false) (fun i hi hp j => ?_) (fun i hi hp j => ?_) (fun j => ?_)
 have hd := Z0t (fun j i => Zn.l2 k j s d (i : Int)) d.length (okD s.length d) (fun _ => false) (fun i hi hp j => ?_) (fun i hi hp j => ?_) (fun j => ?_)
 ·unfold Zn Zgj
  dsimp only
  by_cases c : 1 ≤ s.length ∧ s.length ≤ 40 ∧ d.length ≤ s.length
  ·rw [decide_eq_false (by omega : ¬ (s.length : Int) < 1), decide_eq_false (by omega : ¬ (40 : Int) < (s.length : Int)), decide_eq_false (by omega : ¬ (s.length : Int) < (d.length : Int)), decide_eq_true c]
   simp only [Bool.or_self, cond_false, Bool.true_and]
   have hall : (List.range s.length).all (fun i => okS (s.getD i [])) = s.all okS := by
    rw [Bool.eq_iff_iff, List.all_eq_true, List.all_eq_true]
    constructor
    ·intro h x hx
     obtain ⟨i, hi, rfl⟩ := List.mem_iff_getElem.1 hx
     have := h i (List.mem_range.2 hi)
     rwa [List.getD_eq_getElem?_getD, List.getElem?_eq_getElem hi] at this
    ·intro h i hi
     have hi := List.mem_range.1 hi
     rw [List.getD_eq_getElem?_getD, List.getElem?_eq_getElem hi]
     exact h _ (List.getElem_mem hi)
   rcases hs with ⟨h1, h2⟩ | ⟨h1, i, _, _, h2⟩
   ·have h2 : Zn.l0 k s d 0 = some (.inl ()) := h2 k (by omega)
    rw [h2, ← hall, h1]
    simp only [Option.bind_some, Bool.true_and]
    rcases hd with ⟨h3, h4⟩ | ⟨h3, i, _, _, h4⟩
    ·have h4 : Zn.l2 k k s d 0 = some (.inl ()) := h4 k (by omega)
     rw [h4, h3]
     rfl
    ·have h4 : Zn.l2 k k s d 0 = some (.inr false) := h4 k (by omega)
     rw [h4, h3]
     rfl
   ·have h2 : Zn.l0 k s d 0 = some (.inr false) := h2 k (by omega)
    rw [h2, ← hall, h1]
    rfl
  ·rw [decide_eq_false c]
   have : ((decide ((s.length : Int) < 1) || decide (40 < (s.length : Int))) || decide ((s.length : Int) < (d.length : Int))) = true := by
    rw [Bool.or_eq_true, Bool.or_eq_true, decide_eq_true_iff, decide_eq_true_iff, decide_eq_true_iff]
    omega
   rw [this]
   rfl
 ·
  have hg : d.getD i (0, []) = d[i] := by rw [List.getD_eq_getElem?_getD, List.getElem?_eq_getElem hi]; rfl
  have hp2 := hp
  unfold okD at hp2
  rw [Bool.and_eq_true, Bool.and_eq_true, Bool.and_eq_true, hg] at hp2
  obtain ⟨⟨⟨p1, p2⟩, p3⟩, p4⟩ := hp2
  have hin := Zx6 d i hi k (by omega)
  rw [hg] at hin
  rcases hin with ⟨q, _⟩ | ⟨_, q⟩
  ·rw [q] at p4; cases p4
  conv => lhs; unfold Zn.l2
  rw [dlt hi, Zu hi, Zbb (by omega), w64 (by omega) (by omega)]
  simp only [cond_true, Option.bind_some]
  unfold Znb
  rw [p1, p2, q s]
  simp only [Option.bind_some, Bool.and_self, Bool.not_true, cond_false]
  rw [decide_eq_false (by have := of_decide_eq_true p3; omega : ¬ (96 : Int) < (d[i].2.length : Int))]
  rfl
 ·have hg : d.getD i (0, []) = d[i] := by rw [List.getD_eq_getElem?_getD, List.getElem?_eq_getElem hi]; rfl
  have hp2 := hp
  unfold okD at hp2
  rw [hg] at hp2
  have hin := Zx6 d i hi k (by omega)
  rw [hg] at hin
  conv => lhs; unfold Zn.l2
  rw [dlt hi, Zu hi, w64 (by omega) (by omega)]
  simp only [cond_true, Option.bind_some]
  unfold Znb
  simp only [Option.bind_some]
  cases q1 : (decide (0 ≤ d[i].1) && decide (d[i].1 ≤ (s.length : Int) - 1)) with
  | false => rfl
  | true =>
   rw [q1, Bool.true_and] at hp2
   simp only [Bool.not_true, cond_false]
   by_cases q2 : d[i].2.length ≤ 96
   ·rw [decide_eq_true q2, Bool.true_and, Bool.not_eq_false'] at hp2
    rw [decide_eq_false (by omega : ¬ (96 : Int) < (d[i].2.length : Int))]
    rcases hin with ⟨_, q⟩ | ⟨q, _⟩
    ·rw [q s]
     rfl
    ·rw [q] at hp2; cases hp2
   ·rw [decide_eq_true (by omega : (96 : Int) < (d[i].2.length : Int))]
    rfl
 ·conv => lhs; unfold Zn.l2
  rw [Z2c (Nat.le_refl _)]
  rfl
 ·have hg : s.getD i [] = s[i] := by rw [List.getD_eq_getElem?_getD, List.getElem?_eq_getElem hi]; rfl
  have hp : okS (s.getD i []) = true := hp
  rw [hg] at hp
  have hp := of_decide_eq_true hp
  conv => lhs; unfold Zn.l0
  rw [dlt hi, Zu hi, Zbb (by omega)]
  simp only [cond_true, Option.bind_some]
  rw [decide_eq_false (by omega : ¬ (96 : Int) < (s[i].length : Int))]
  rfl
 ·have hg : s.getD i [] = s[i] := by rw [List.getD_eq_getElem?_getD, List.getElem?_eq_getElem hi]; rfl
  have hp : okS (s.getD i []) = false := hp
  rw [hg] at hp
  have hp := of_decide_eq_false hp
  conv => lhs; unfold Zn.l0
  rw [dlt hi, Zu hi]
  simp only [cond_true, Option.bind_some]
  rw [decide_eq_true (by omega : (96 : Int) < (s[i].length : Int))]
  rfl
 ·conv => lhs; unfold Zn.l0
  rw [Z2c (Nat.le_refl _)]
  rfl
end Go.Proofs.YtfbancgdmghnkaaGreatDoorE
namespace Go.Proofs.YtfbancgdmghnkaaGreatDoorE
open Go
set_option linter.unusedVariables false
theorem Z78 (n : Int) (h : Num n) : Z0g n = some ((zig n : Nat) : Int) := by
 unfold Num at h
 unfold Z0g zig
 simp only [Zwi]
 by_cases hn : n < 0
 ·rw [decide_eq_true hn, if_pos hn, w64 (n := n + 1) (by omega) (by omega), w64 (by omega) (by omega)]
  rw [cond_true]
  congr 1
  omega
 ·rw [decide_eq_false hn, if_neg hn, cond_false]
  congr 1
  omega
theorem Zt5 : ∀ (f u : Nat) (acc : List Int) (j : Nat), u < 128 ^ f → u < 18446744073709551616 → acc.length + f ≤ 100 → 0 < f → f < j + 1 → ∃ p : Int × List Int, Z7.l0 j (u : Int) acc = some p ∧ p.2.length ≤ 100 ∧ p.2 ++ [IntKind.wrap .u8 p.1] = acc ++ Zrd f u
 | 0, _, _, _, _, _, _, h, _ => absurd h (by omega)
 | f + 1, u, acc, 0, hu, hb, hl, _, hj => by omega
 | f + 1, u, acc, j + 1, hu, hb, hl, _, hj => by
  unfold Z7.l0
  by_cases h : 128 ≤ u
  ·have hf : 0 < f := by
    rcases Nat.eq_zero_or_pos f with rfl | h'
    ·simp at hu; omega
    ·exact h'
   obtain ⟨p, e, e1, e2⟩ := Zt5 f (u / 128) (acc ++ [((u % 128 + 128 : Nat) : Int)]) j (by rw [Nat.pow_succ] at hu; exact Nat.div_lt_of_lt_mul (by rw [Nat.mul_comm]; exact hu)) (by omega) (by simp; omega) hf (by omega)
   refine ⟨p, ?_, e1, ?_⟩
   ·rw [decide_eq_true (by omega : (128 : Int) ≤ (u : Int)), Zmn (by omega : (128 : Int) ≠ 0)]
    simp only [cond_true, Option.bind_some]
    rw [Zfh (by simp; omega), u8w, Zwi, Zwi, Int.tmod_eq_emod_of_nonneg (by omega), Int.tdiv_eq_ediv_of_nonneg (by omega)]
    simp only [Option.bind_some]
    rw [show (((u : Int) / 128) % 18446744073709551616) = ((u / 128 : Nat) : Int) by omega, show ((((u : Int) % 128 + 128) % 18446744073709551616) % 256) = ((u % 128 + 128 : Nat) : Int) by omega]
    exact e
   ·rw [e2, List.append_assoc]
    simp [Zrd, h]
  ·refine ⟨((u : Int), acc), ?_, by show acc.length ≤ 100; omega, ?_⟩
   ·rw [decide_eq_false (by omega : ¬ ((128 : Int) ≤ (u : Int)))]
    rfl
   ·show acc ++ [IntKind.wrap .u8 (u : Int)] = _
    rw [u8w, show ((u : Int) % 256) = (u : Int) by omega]
    simp [Zrd, h]
theorem Zoj (n : Int) (h : Num n) : Ze fun k => Z7 k n = some (Zw n) := by
 refine Ze.ge 10 fun k hk => ?_
 have hz := Zz2 h
 obtain ⟨p, e, e1, e2⟩ := Zt5 10 (zig n) [] k (by omega) hz (by simp) (by omega) (by omega)
 unfold Z7
 rw [Z78 n h]
 simp only [Option.bind_some]
 rw [e]
 simp only [Option.bind_some]
 rw [Zfh (by simp; omega), e2]
 rfl
theorem Zr0 (s : Str) (j : Nat) : (s.drop j = [] ∧ s.length ≤ j) ∨ ∃ h : j < s.length, s.drop j = s[j] :: s.drop (j + 1) := by
 by_cases h : j < s.length
 ·exact .inr ⟨h, List.drop_eq_getElem_cons h⟩
 ·exact .inl ⟨List.drop_eq_nil_of_le (by omega), by omega⟩
theorem sgn (s : Str) (hs : s.length ≤ 140737488351232) (a : Nat) (ha : a < 9223372036854775000) : ∀ (f i u j : Nat), i + f = 10 → i ≤ 9 → u < 128 ^ i → (0 < i → a + i ≤ s.length) → f < j → Zkb.l0 j s (a : Int) (u : Int) (i : Int) 0 0 0 = some (.inr (fin a (gn f i u (s.drop (a + i)))))
 | f, i, u, 0, _, _, _, _, h => absurd h (Nat.not_lt_zero f)
 | 0, i, u, j + 1, hf, h9, hu, hz, _ => by omega
 | f + 1, i, u, j + 1, hf, hi9, hu, hz, hj => by
  unfold Zkb.l0
  rw [decide_eq_true (by omega : (i : Int) < 10), w64 (n := (s.length : Int) - (i : Int)) (by omega) (by omega), cond_true]
  rcases Zr0 s (a + i) with ⟨hd, hlen⟩ | ⟨hlt, hd⟩
  ·rw [decide_eq_true (by omega : (s.length : Int) - (i : Int) ≤ (a : Int)), hd]
   rfl
  ·rw [decide_eq_false (by omega : ¬ ((s.length : Int) - (i : Int) ≤ (a : Int))), w64 (n := (a : Int) + (i : Int)) (by omega) (by omega), show ((a : Int) + (i : Int)) = ((a + i : Nat) : Int) by omega]
   simp only [cond_false]
   rw [Zu hlt, hd]
   simp only [Option.bind_some, gn]
   have hb := Zam s[a + i]
   have ih := fun u' => sgn s hs a ha f (i + 1) u' j
   generalize s[a + i].toNat = b at hb ⊢
   rw [Zwi (b : Int), show ((b : Int) % 18446744073709551616) = (b : Int) by omega, Z4h, Zmn (by omega : (128 : Int) ≠ 0)]
   by_cases h9 : i = 9 ∧ 1 < b
   ·rw [decide_eq_true (by omega : (i : Int) = 9), decide_eq_true (by omega : (1 : Int) < (b : Int)), if_pos h9]
    rfl
   ·rw [if_neg h9, show (decide ((i : Int) = 9) && decide ((1 : Int) < (b : Int))) = false by
     by_cases h : i = 9
     ·rw [decide_eq_false (by omega : ¬ ((1 : Int) < (b : Int))), Bool.and_false]
     ·rw [decide_eq_false (by omega : ¬ ((i : Int) = 9))]; rfl]
    have hb9 : i = 9 → b ≤ 1 := fun h => by
     rcases Nat.lt_or_ge 1 b with h1 | h1
     ·exact absurd ⟨h, h1⟩ h9
     ·exact h1
    have hsl := Znw (b := b) (show i ≤ 9 by omega) hu hb9
    have hv : IntKind.wrap .u64 ((u : Int) + shl .u64 (Int.tmod (b : Int) 128) (IntKind.wrap .u64 (IntKind.wrap .i64 (7 * (i : Int))))) = ((u + b % 128 * 128 ^ i : Nat) : Int) := by
     rw [w64 (by omega) (by omega), Zwi (7 * (i : Int)), show (7 * (i : Int)) % 18446744073709551616 = ((7 * i : Nat) : Int) by omega, Int.tmod_eq_emod_of_nonneg (by omega), show (b : Int) % 128 = ((b % 128 : Nat) : Int) by omega, Z46 (by omega) hb9, Zwi]
     omega
    have hn : Z6c (IntKind.wrap .u64 (IntKind.wrap .i64 (7 * (i : Int)))) = some () := Ztd (by rw [Zwi]; omega)
    simp only [cond_false, Option.bind_some]
    rw [hn]
    simp only [Option.bind_some]
    rw [hv]
    by_cases h128 : 128 ≤ b
    ·have hi8 : i ≤ 8 := by
      by_cases h : i = 9
      ·have := hb9 h; omega
      ·omega
     rw [decide_eq_false (by omega : ¬ ((b : Int) < 128)), if_pos h128, cond_false, Zbb (by omega), show a + i + 1 = a + (i + 1) by omega]
     exact ih _ (by omega) (by omega) (Zcu hi8 hu) (fun _ => by omega) (by omega)
    ·rw [decide_eq_true (by omega : ((b : Int) < 128)), if_neg h128, cond_true, Z4h]
     by_cases h0 : b = 0 ∧ 0 < i
     ·rw [decide_eq_true (by omega : (b : Int) = 0), decide_eq_true (by omega : (0 : Int) < (i : Int)), if_pos h0]
      rfl
     ·rw [if_neg h0, show (decide ((b : Int) = 0) && decide ((0 : Int) < (i : Int))) = false by
       by_cases h : b = 0
       ·rw [decide_eq_false (by omega : ¬ ((0 : Int) < (i : Int))), Bool.and_false]
       ·rw [decide_eq_false (by omega : ¬ ((b : Int) = 0))]; rfl]
      generalize u + b % 128 * 128 ^ i = v at hsl
      have e2 : IntKind.wrap .i64 (IntKind.wrap .u64 (Int.tdiv (v : Int) 2)) = ((v / 2 : Nat) : Int) := by
       rw [Int.tdiv_eq_ediv_of_nonneg (by omega), Zwi, w64 (by omega) (by omega)]
       omega
      rw [cond_false, Zmn (by omega : (2 : Int) ≠ 0)]
      simp only [Option.bind_some]
      rw [Zbb (by omega), e2, Int.tmod_eq_emod_of_nonneg (by omega), Z4h]
      unfold fin unz
      by_cases hp : v % 2 = 1
      ·rw [decide_eq_true (by omega : (v : Int) % 2 = 1), if_pos hp, w64 (n := 0 - ((v / 2 : Nat) : Int)) (by omega) (by omega), w64 (by omega) (by omega), cond_true, show (0 - ((v / 2 : Nat) : Int) - 1) = -((v / 2 : Nat) : Int) - 1 by omega]
       rfl
      ·rw [decide_eq_false (by omega : ¬ ((v : Int) % 2 = 1)), if_neg hp]
       rfl
theorem ign (s : Str) (hs : s.length ≤ 140737488351232) (a : Nat) (ha : a < 9223372036854775000) : ∀ (f i u j : Nat), i + f = 10 → i ≤ 9 → u < 128 ^ i → (0 < i → a + i ≤ s.length) → f < j → Zfc.l0 j s (a : Int) (u : Int) (i : Int) = some (fin a (gn f i u (s.drop (a + i))))
 | f, i, u, 0, _, _, _, _, h => absurd h (Nat.not_lt_zero f)
 | 0, i, u, j + 1, hf, h9, hu, hz, _ => by omega
 | f + 1, i, u, j + 1, hf, hi9, hu, hz, hj => by
  unfold Zfc.l0
  rw [w64 (n := (s.length : Int) - (i : Int)) (by omega) (by omega)]
  rcases Zr0 s (a + i) with ⟨hd, hlen⟩ | ⟨hlt, hd⟩
  ·rw [decide_eq_true (by omega : (s.length : Int) - (i : Int) ≤ (a : Int)), hd]
   rfl
  ·rw [decide_eq_false (by omega : ¬ ((s.length : Int) - (i : Int) ≤ (a : Int))), w64 (n := (a : Int) + (i : Int)) (by omega) (by omega), show ((a : Int) + (i : Int)) = ((a + i : Nat) : Int) by omega]
   simp only [cond_false]
   rw [Zu hlt, hd]
   simp only [Option.bind_some, gn]
   have hb := Zam s[a + i]
   have ih := fun u' => ign s hs a ha f (i + 1) u' j
   generalize s[a + i].toNat = b at hb ⊢
   rw [Z4h]
   by_cases h9 : i = 9 ∧ 1 < b
   ·rw [decide_eq_true (by omega : (i : Int) = 9), decide_eq_true (by omega : (1 : Int) < (b : Int)), if_pos h9]
    rfl
   ·rw [if_neg h9, show (decide ((i : Int) = 9) && decide ((1 : Int) < (b : Int))) = false by
     by_cases h : i = 9
     ·rw [decide_eq_false (by omega : ¬ ((1 : Int) < (b : Int))), Bool.and_false]
     ·rw [decide_eq_false (by omega : ¬ ((i : Int) = 9))]; rfl]
    have hb9 : i = 9 → b ≤ 1 := fun h => by
     rcases Nat.lt_or_ge 1 b with h1 | h1
     ·exact absurd ⟨h, h1⟩ h9
     ·exact h1
    have hsl := Znw (b := b) (show i ≤ 9 by omega) hu hb9
    have hv : intBits .or .u64 (u : Int) (shl .u64 (IntKind.wrap .u64 (intBits .and .u8 (b : Int) 127)) (IntKind.wrap .i64 (7 * (i : Int)))) = ((u + b % 128 * 128 ^ i : Nat) : Int) := by
     rw [Zneb b hb, Zwi, show ((b % 128 : Nat) : Int) % 18446744073709551616 = ((b % 128 : Nat) : Int) by omega, w64 (by omega) (by omega), show (7 * (i : Int)) = ((7 * i : Nat) : Int) by omega, Z46 (by omega) hb9, Z57 _ _ (by have := Z00 (show i ≤ 9 by omega); omega) (Z40 (by omega) hb9), Zaeb hu]
    have hn : Z6c (IntKind.wrap .i64 (7 * (i : Int))) = some () := Ztd (by rw [w64 (by omega) (by omega)]; omega)
    simp only [cond_false, Option.bind_some]
    rw [hn]
    simp only [Option.bind_some]
    rw [hv]
    by_cases h128 : 128 ≤ b
    ·have hi8 : i ≤ 8 := by
      by_cases h : i = 9
      ·have := hb9 h; omega
      ·omega
     rw [decide_eq_true (by omega : ((127 : Int) < (b : Int))), if_pos h128, cond_true, Zbb (by omega), show a + i + 1 = a + (i + 1) by omega]
     exact ih _ (by omega) (by omega) (Zcu hi8 hu) (fun _ => by omega) (by omega)
    ·rw [decide_eq_false (by omega : ¬ ((127 : Int) < (b : Int))), if_neg h128, cond_false, Z4h]
     by_cases h0 : b = 0 ∧ 0 < i
     ·rw [decide_eq_true (by omega : (b : Int) = 0), decide_eq_true (by omega : (0 : Int) < (i : Int)), if_pos h0]
      rfl
     ·rw [if_neg h0, show (decide ((b : Int) = 0) && decide ((0 : Int) < (i : Int))) = false by
       by_cases h : b = 0
       ·rw [decide_eq_false (by omega : ¬ ((0 : Int) < (i : Int))), Bool.and_false]
       ·rw [decide_eq_false (by omega : ¬ ((b : Int) = 0))]; rfl]
      generalize u + b % 128 * 128 ^ i = v at hsl
      have e2 : shr .u64 (v : Int) 1 = ((v / 2 : Nat) : Int) := Z4i .u64 v 1 (by decide)
      rw [cond_false, Ztd (by omega : (0 : Int) ≤ 1)]
      simp only [Option.bind_some]
      rw [Zbb (by omega), e2, Zf8 v hsl, w64 (n := ((v / 2 : Nat) : Int)) (by omega) (by omega), Z4h]
      unfold fin unz
      by_cases hp : v % 2 = 1
      ·rw [decide_eq_true (by omega : ((v % 2 : Nat) : Int) = 1), if_pos hp, Zseb _ (by omega)]
       rfl
      ·rw [decide_eq_false (by omega : ¬ (((v % 2 : Nat) : Int) = 1)), if_neg hp]
       rfl
section
variable (s : Str) (a : Nat) (ha : a < 9223372036854775000)
include ha
theorem Znu (hs : s.length ≤ 140737488351232) : Ze fun k => Zfc k s (a : Int) = some (Zsd s a) := by
 refine Ze.ge 11 fun k hk => ?_
 have h := ign s hs a ha 10 0 0 k rfl (by omega) (by omega) (fun h => absurd h (by omega)) (by omega)
 have h : Zfc.l0 k s (a : Int) 0 0 = some (Zsd s a) := h
 unfold Zfc
 rw [decide_eq_false (by omega : ¬ ((a : Int) < 0)), h]
 rfl
theorem Z5n (hs : s.length ≤ 8000) : Ze fun k => Zkb k s (a : Int) = some (Zsd s a) := by
 refine Ze.ge 11 fun k hk => ?_
 have h := sgn s (by omega) a ha 10 0 0 k rfl (by omega) (by omega) (fun h => absurd h (by omega)) (by omega)
 have h : Zkb.l0 k s (a : Int) 0 0 0 0 0 = some (.inr (Zsd s a)) := h
 unfold Zkb
 rw [decide_eq_false (by omega : ¬ (8000 < (s.length : Int))), decide_eq_false (by omega : ¬ ((a : Int) < 0)), h]
 rfl
theorem Zbx (hs : s.length ≤ 140737488351232) : Ze fun k => Z0c k (s, ((a : Int), false)) = some (Zoc s a) := by
 refine (Znu s a ha hs).mono fun k h => ?_
 unfold Z0c Zoc
 rw [h]
 rcases Zek s a with ⟨n, a', e, g⟩ | ⟨c, hc, e⟩
 ·rw [e]; rfl
 ·rw [e, if_neg hc]
  simp only [Option.bind_some]
  rw [show (c != 0) = true by simpa using hc]
  rfl
theorem Zao (hs : s.length ≤ 8000) : Ze fun k => Z1c k (s, ((a : Int), false)) = some (Zoc s a) := by
 refine (Z5n s a ha hs).mono fun k h => ?_
 unfold Z1c Zoc
 rw [h]
 rcases Zek s a with ⟨n, a', e, g⟩ | ⟨c, hc, e⟩
 ·rw [e]; rfl
 ·rw [e, if_neg hc]
  simp only [Option.bind_some]
  rw [show (c != 0) = true by simpa using hc]
  rfl
theorem Zsu (hs : s.length ≤ 8000) : Ze fun k => Z1c k (s, ((a : Int), true)) = some (0, s, (a : Int), true) := by
 refine (Z5n s a ha hs).mono fun k h => ?_
 unfold Z1c
 rw [h]
 rfl
theorem Zmdb (hs : s.length ≤ 140737488351232) : ∃ (n : Int) (a' : Nat), (Ze fun k => Z0c k (s, ((a : Int), true)) = some (n, s, (a' : Int), true)) ∧ a' ≤ max a s.length := by
 rcases Zek s a with ⟨n, a', e, g⟩ | ⟨c, hc, e⟩
 ·refine ⟨n, a', (Znu s a ha hs).mono fun k h => ?_, ?_⟩
  ·unfold Z0c
   rw [h, e]
   rfl
  ·have := g.le; omega
 ·refine ⟨0, a, (Znu s a ha hs).mono fun k h => ?_, by omega⟩
  unfold Z0c
  rw [h, e]
  simp only [Option.bind_some]
  rw [show (c != 0) = true by simpa using hc]
  rfl
end
end Go.Proofs.YtfbancgdmghnkaaGreatDoorE
namespace Go.Proofs.YtfbancgdmghnkaaGreatDoorE
open Go
set_option linter.unusedVariables false
theorem Zxv (s : Str) (h : s.length ≤ 8000) : Ze fun k => Z6d k s = some (Zgd s) := by
 refine (Zoj (s.length : Int) ⟨by omega, by omega⟩).mono fun k hk => ?_
 have := Zgh (s.length : Int)
 unfold Z6d
 rw [decide_eq_false (by omega : ¬ (8000 < (s.length : Int))), hk]
 simp only [cond_false, Option.bind_some]
 rw [Zkf (by omega)]
 rfl
section
variable (s : Str) (a : Nat) (ha : a < 9223372036854775000)
include ha
theorem Zjq (hs : s.length ≤ 8000) : Ze fun k => Zne k s (a : Int) = some (Zei s a) := by
 refine (Z5n s a ha hs).mono fun k h => ?_
 unfold Zne Zei
 rw [h]
 rcases Zek s a with ⟨n, a', e, g⟩ | ⟨c, hc, e⟩
 ·rw [e]
  simp only [if_true, Option.bind_some]
  have hle := g.le
  rw [show ((0 : Int) != 0) = false from rfl, cond_false]
  by_cases hn : 0 ≤ n ∧ n ≤ 8000
  ·rw [decide_eq_false (by omega : ¬ (n < 0)), decide_eq_false (by omega : ¬ (8000 < n)), if_pos hn, w64 (n := (s.length : Int) - n) (by omega) (by omega), w64 (n := (a' : Int) + n) (by omega) (by omega)]
   by_cases hq : n > (s.length : Int) - (a' : Int)
   ·rw [decide_eq_true (by omega : (s.length : Int) - n < (a' : Int)), if_pos hq]
    rfl
   ·rw [decide_eq_false (by omega : ¬ ((s.length : Int) - n < (a' : Int))), if_neg hq]
    obtain ⟨m, rfl⟩ : ∃ m : Nat, n = (m : Int) := ⟨n.toNat, by omega⟩
    rw [show ((a' : Int) + (m : Int)) = ((a' + m : Nat) : Int) by omega]
    have hc := Zzi (l := s) (i := a') (j := a' + m) (by omega) (by omega)
    simp only [Bool.or_false, cond_false]
    rw [hc]
    rfl
  ·rw [if_neg hn, show (decide (n < 0) || decide (8000 < n)) = true by
    by_cases h0 : n < 0
    ·rw [decide_eq_true h0]; rfl
    ·rw [decide_eq_true (by omega : 8000 < n), Bool.or_true]]
   rfl
 ·rw [e]
  simp only [Option.bind_some]
  rw [if_neg hc, show (c != 0) = true by simpa using hc]
  rfl
theorem Zwv (hs : s.length ≤ 140737488351232) : Ze fun k => Z6f k s (a : Int) = some (Zei s a) := by
 refine (Znu s a ha hs).mono fun k h => ?_
 unfold Z6f Zei
 rw [h]
 rcases Zek s a with ⟨n, a', e, g⟩ | ⟨c, hc, e⟩
 ·rw [e]
  simp only [if_true, Option.bind_some]
  have hle := g.le
  rw [show ((0 : Int) != 0) = false from rfl, cond_false]
  unfold Zgb
  simp only [Option.bind_some]
  by_cases hn : 0 ≤ n ∧ n ≤ 8000
  ·rw [decide_eq_true (by omega : 0 ≤ n), decide_eq_true (by omega : n ≤ 8000), if_pos hn, w64 (n := (s.length : Int) - (a' : Int)) (by omega) (by omega), w64 (n := (a' : Int) + n) (by omega) (by omega)]
   by_cases hq : n > (s.length : Int) - (a' : Int)
   ·rw [decide_eq_true (by omega : (s.length : Int) - (a' : Int) < n), if_pos hq]
    rfl
   ·rw [decide_eq_false (by omega : ¬ ((s.length : Int) - (a' : Int) < n)), if_neg hq]
    obtain ⟨m, rfl⟩ : ∃ m : Nat, n = (m : Int) := ⟨n.toNat, by omega⟩
    rw [show ((a' : Int) + (m : Int)) = ((a' + m : Nat) : Int) by omega]
    have hc := Zzi (l := s) (i := a') (j := a' + m) (by omega) (by omega)
    simp only [Bool.and_true, Bool.not_true, cond_false]
    rw [hc]
    rfl
  ·rw [if_neg hn, show (decide (0 ≤ n) && decide (n ≤ 8000)) = false by
    by_cases h0 : 0 ≤ n
    ·rw [decide_eq_false (by omega : ¬ (n ≤ 8000)), Bool.and_false]
    ·rw [decide_eq_false h0]; rfl]
   rfl
 ·rw [e]
  simp only [Option.bind_some]
  rw [if_neg hc, show (c != 0) = true by simpa using hc]
  rfl
theorem Zq3 (hs : s.length ≤ 140737488351232) : Ze fun k => Zpd k (s, ((a : Int), false)) = some (Zqe s a) := by
 refine (Zwv s a ha hs).mono fun k h => ?_
 unfold Zpd Zqe
 rw [h]
 rcases Z3l s a with ⟨n, a', e, g⟩ | ⟨c, hc, e⟩
 ·rw [e]; rfl
 ·rw [e, if_neg hc]
  simp only [Option.bind_some]
  rw [show (c != 0) = true by simpa using hc]
  rfl
theorem Zv4 (hs : s.length ≤ 8000) : Ze fun k => Z5d k (s, ((a : Int), false)) = some (Zqe s a) := by
 refine (Zjq s a ha hs).mono fun k h => ?_
 unfold Z5d Zqe
 rw [h]
 rcases Z3l s a with ⟨n, a', e, g⟩ | ⟨c, hc, e⟩
 ·rw [e]; rfl
 ·rw [e, if_neg hc]
  simp only [Option.bind_some]
  rw [show (c != 0) = true by simpa using hc]
  rfl
theorem Z1r (hs : s.length ≤ 8000) : Ze fun k => Z5d k (s, ((a : Int), true)) = some ([], s, (a : Int), true) := by
 refine (Zjq s a ha hs).mono fun k h => ?_
 unfold Z5d
 rw [h]
 rfl
theorem Zo1 (hs : s.length ≤ 140737488351232) : ∃ (t : Str) (a' : Nat), (Ze fun k => Zpd k (s, ((a : Int), true)) = some (t, s, (a' : Int), true)) ∧ a' ≤ max a s.length := by
 rcases Z3l s a with ⟨n, a', e, g⟩ | ⟨c, hc, e⟩
 ·refine ⟨n, a', (Zwv s a ha hs).mono fun k h => ?_, ?_⟩
  ·unfold Zpd
   rw [h, e]
   rfl
  ·have := g.le; omega
 ·refine ⟨[], a, (Zwv s a ha hs).mono fun k h => ?_, by omega⟩
  unfold Zpd
  rw [h, e]
  simp only [Option.bind_some]
  rw [show (c != 0) = true by simpa using hc]
  rfl
end
end Go.Proofs.YtfbancgdmghnkaaGreatDoorE
namespace Go.Proofs.YtfbancgdmghnkaaGreatDoorE
open Go
set_option linter.unusedVariables false
def Zfj (s : Str) : Option (Int × Int × Int × Str × Nat) :=
 if (Zoc s 0).2.2.2 = true then none else
 if (Zoc s (Zoc s 0).2.2.1.toNat).2.2.2 = true then none else
 if (Zoc s (Zoc s (Zoc s 0).2.2.1.toNat).2.2.1.toNat).2.2.2 = true then none else
 if (Zqe s (Zoc s (Zoc s (Zoc s 0).2.2.1.toNat).2.2.1.toNat).2.2.1.toNat).2.2.2 = true then none else
 some ((Zoc s 0).1, (Zoc s (Zoc s 0).2.2.1.toNat).1, (Zoc s (Zoc s (Zoc s 0).2.2.1.toNat).2.2.1.toNat).1, (Zqe s (Zoc s (Zoc s (Zoc s 0).2.2.1.toNat).2.2.1.toNat).2.2.1.toNat).1, (Zqe s (Zoc s (Zoc s (Zoc s 0).2.2.1.toNat).2.2.1.toNat).2.2.1.toNat).2.2.1.toNat)
theorem Znz {s : Str} {x y z : Int} {t : Str} {a b c d : Nat} (g1 : Got s 0 x a) (g2 : Got s a y b) (g3 : Got s b z c) (g4 : GotT s c t d) : Zw x ++ Zw y ++ Zw z ++ Zgd t = s ↔ d = s.length := by
 have e1 := g1.eq
 have e2 := g2.eq
 have e3 := g3.eq
 have e4 := g4.eq
 rw [List.drop_zero] at e1
 constructor
 ·intro h
  have h1 := congrArg List.length h
  rw [List.length_append, List.length_append, List.length_append] at h1
  have := g1.at'; have := g2.at'; have := g3.at'; have := g4.at'
  omega
 ·rintro rfl
  rw [List.drop_of_length_le (l := s) (i := s.length) (Nat.le_refl _), List.append_nil] at e4
  rw [← e4, List.append_assoc, ← e3, List.append_assoc, ← e2, ← e1]
theorem Zv2 {s : Str} {x y z : Int} {t : Str} {d : Nat} (h : Zfj s = some (x, y, z, t, d)) : ∃ a b c, Got s 0 x a ∧ Got s a y b ∧ Got s b z c ∧ GotT s c t d := by
 unfold Zfj at h
 rcases Zfo s 0 with ⟨x', a, e1, g1⟩ | e1
 ·rw [e1] at h
  simp only [Int.toNat_natCast, Bool.false_eq_true, if_false] at h
  rcases Zfo s a with ⟨y', b, e2, g2⟩ | e2
  ·rw [e2] at h
   simp only [Int.toNat_natCast, Bool.false_eq_true, if_false] at h
   rcases Zfo s b with ⟨z', c, e3, g3⟩ | e3
   ·rw [e3] at h
    simp only [Int.toNat_natCast, Bool.false_eq_true, if_false] at h
    rcases Z70 s c with ⟨t', d', e4, g4⟩ | e4
    ·rw [e4] at h
     simp only [Int.toNat_natCast, Bool.false_eq_true, if_false, Option.some.injEq, Prod.mk.injEq] at h
     obtain ⟨rfl, rfl, rfl, rfl, rfl⟩ := h
     exact ⟨a, b, c, g1, g2, g3, g4⟩
    ·rw [e4] at h; simp at h
   ·rw [e3] at h; simp at h
  ·rw [e2] at h; simp at h
 ·rw [e1] at h; simp at h
def Z2bb (k : Nat) (s : Str) : Prop := ∃ v3 v4 v5 : Int × Str × Int × Bool, ∃ v6 : Str × Str × Int × Bool, Z1c k (s, (0, false)) = some v3 ∧ Z1c k v3.2 = some v4 ∧ Z1c k v4.2 = some v5 ∧ Z5d k v5.2 = some v6 ∧
 ((∃ x y z t d, Zfj s = some (x, y, z, t, d) ∧ v3.1 = x ∧ v4.1 = y ∧ v5.1 = z ∧ v6 = (t, s, ((d : Nat) : Int), false)) ∨ (Zfj s = none ∧ v6.2.2.2 = true))
theorem Z56 (s : Str) (hs : s.length ≤ 8000) : Ze fun k => Z2bb k s := by
 have f0 := Zao s 0 (by omega) hs
 rcases Zfo s 0 with ⟨x, a, e1, g1⟩ | e1
 ·have l1 := g1.le
  have f1 := Zao s a (by omega) hs
  rcases Zfo s a with ⟨y, b, e2, g2⟩ | e2
  ·have l2 := g2.le
   have f2 := Zao s b (by omega) hs
   rcases Zfo s b with ⟨z, c, e3, g3⟩ | e3
   ·have l3 := g3.le
    have f3 := Zv4 s c (by omega) hs
    refine (((f0.and f1).and f2).and f3).mono fun k ⟨⟨⟨h0, h1⟩, h2⟩, h3⟩ => ⟨Zoc s 0, Zoc s a, Zoc s b, Zqe s c, h0, ?_, ?_, ?_, ?_⟩
    ·rw [e1]; exact h1
    ·rw [e2]; exact h2
    ·rw [e3]; exact h3
    ·rcases Z70 s c with ⟨t, d, e4, g4⟩ | e4
     ·refine .inl ⟨x, y, z, t, d, ?_, by rw [e1], by rw [e2], by rw [e3], e4⟩
      unfold Zfj
      simp [e1, e2, e3, e4]
     ·refine .inr ⟨?_, by rw [e4]⟩
      unfold Zfj
      simp [e1, e2, e3, e4]
   ·have f3 := Z1r s b (by omega) hs
    refine (((f0.and f1).and f2).and f3).mono fun k ⟨⟨⟨h0, h1⟩, h2⟩, h3⟩ => ⟨Zoc s 0, Zoc s a, Zoc s b, ([], s, (b : Int), true), h0, ?_, ?_, ?_, .inr ⟨?_, ?_⟩⟩
    ·rw [e1]; exact h1
    ·rw [e2]; exact h2
    ·rw [e3]; exact h3
    ·unfold Zfj
     simp [e1, e2, e3]
    ·rfl
  ·have f2 := Zsu s a (by omega) hs
   have f3 := Z1r s a (by omega) hs
   refine (((f0.and f1).and f2).and f3).mono fun k ⟨⟨⟨h0, h1⟩, h2⟩, h3⟩ => ⟨Zoc s 0, Zoc s a, (0, s, (a : Int), true), ([], s, (a : Int), true), h0, ?_, ?_, h3, .inr ⟨?_, rfl⟩⟩
   ·rw [e1]; exact h1
   ·rw [e2]; exact h2
   ·unfold Zfj
    simp [e1, e2]
 ·have f1 := Zsu s 0 (by omega) hs
  have f3 := Z1r s 0 (by omega) hs
  refine ((f0.and f1).and f3).mono fun k ⟨⟨h0, h1⟩, h3⟩ => ⟨Zoc s 0, (0, s, ((0 : Nat) : Int), true), (0, s, ((0 : Nat) : Int), true), ([], s, ((0 : Nat) : Int), true), h0, ?_, h1, h3, .inr ⟨?_, rfl⟩⟩
  ·rw [e1]; exact h1
  ·unfold Zfj
   simp [e1]
end Go.Proofs.YtfbancgdmghnkaaGreatDoorE
namespace Go.Proofs.YtfbancgdmghnkaaGreatDoorE
open Go
set_option linter.unusedVariables false
def Zli (k t f : Int) (d : Str) (n : Int) : Bool :=
 if k = 1 then decide (0 ≤ t) && decide (t ≤ n - 1) && decide (f = 0) && (d == [])
 else if k = 2 then decide (0 ≤ t) && decide (t ≤ n - 1) && decide (f = 0) && decide ((d.length : Int) = 8)
 else if k = 3 then decide (0 ≤ t) && decide (t ≤ n - 1) && (decide (0 ≤ f) && decide (f ≤ n - 1)) && (d == [])
 else if k = 4 then decide (0 ≤ t) && decide (t ≤ n - 1) && (decide (0 ≤ f) && decide (f ≤ n - 1)) && decide ((d.length : Int) = 8)
 else if k = 5 then decide (t = 0) && (decide (0 ≤ f) && decide (f ≤ 1000000)) && (d == [])
 else false
theorem Z4v (k t f : Int) (d : Str) (n : Int) (h1 : 1 ≤ n) (h2 : n ≤ 8) : Z8d (k, (t, (f, d))) n = some (Zli k t f d n) := by
 unfold Z8d Znb Zli
 simp only [Option.bind_some]
 rw [w64 (n := n - 1) (by omega) (by omega), decide_eq_true h1, decide_eq_true h2]
 simp only [Z4h]
 generalize (decide (0 ≤ t) && decide (t ≤ n - 1)) = P
 generalize (decide (0 ≤ f) && decide (f ≤ n - 1)) = Q
 generalize (decide (0 ≤ f) && decide (f ≤ 1000000)) = R
 generalize (d == ([] : Str)) = E
 generalize decide ((d.length : Int) = 8) = Z
 by_cases c1 : k = 1
 ·subst c1; cases P <;> by_cases h : f = 0 <;> simp [h]
 by_cases c2 : k = 2
 ·subst c2; cases P <;> by_cases h : f = 0 <;> simp [h]
 by_cases c3 : k = 3
 ·subst c3; cases P <;> cases Q <;> simp
 by_cases c4 : k = 4
 ·subst c4; cases P <;> cases Q <;> simp
 by_cases c5 : k = 5
 ·subst c5; cases R <;> by_cases h : t = 0 <;> simp [h]
 simp [c1, c2, c3, c4, c5]
theorem Z5w (k t f : Int) (d : Str) (n : Int) (h1 : 1 ≤ n) (h2 : n ≤ 8) : Z3 (k, (t, (f, d))) n = some (Zli k t f d n) := by
 have hw : IntKind.wrap .i64 (n - 1) = n - 1 := w64 (by omega) (by omega)
 unfold Z3
 simp only [Zgb, Z7e, Option.bind_some, hw, Z3.j0, Z3.j1, Zli, Z4h]
 generalize (decide (0 ≤ t) && decide (t ≤ n - 1)) = P
 generalize (decide (0 ≤ f) && decide (f ≤ n - 1)) = Q
 generalize (d == ([] : Str)) = E
 by_cases c1 : k = 1
 ·subst c1; cases P <;> by_cases h : f = 0 <;> simp [h]
 by_cases c2 : k = 2
 ·subst c2; cases P <;> by_cases h : f = 0 <;> simp [h]
 by_cases c3 : k = 3
 ·subst c3; cases P <;> cases Q <;> simp
 by_cases c4 : k = 4
 ·subst c4; cases P <;> cases Q <;> simp
 by_cases c5 : k = 5
 ·subst c5; cases E <;> by_cases h : t = 0 <;> simp [h]
 have hk : (decide (1 ≤ k) && decide (k ≤ 5)) = false := by
  rw [Bool.eq_false_iff, Ne, Bool.and_eq_true, decide_eq_true_eq, decide_eq_true_eq]; omega
 simp [c1, c2, c3, c4, c5, hk]
theorem Zi8 {k t f : Int} {d : Str} {n : Int} (h : Zli k t f d n = true) : d.length ≤ 8 := by
 unfold Zli at h
 have e : (d == ([] : Str)) = true → d.length ≤ 8 := fun q => by
  rw [Zym] at q
  rw [of_decide_eq_true q]; simp
 have e8 : decide ((d.length : Int) = 8) = true → d.length ≤ 8 := fun q => by
  have := of_decide_eq_true q; omega
 split at h
 ·exact e ((Bool.and_eq_true _ _).mp h).2
 split at h
 ·exact e8 ((Bool.and_eq_true _ _).mp h).2
 split at h
 ·exact e ((Bool.and_eq_true _ _).mp h).2
 split at h
 ·exact e8 ((Bool.and_eq_true _ _).mp h).2
 split at h
 ·exact e ((Bool.and_eq_true _ _).mp h).2
 ·cases h
def Zui (s : Str) : Option (Int × Int × Int × Str) := match Zfj s with
 | some (x, y, z, t, d) => if d = s.length ∧ Zli x y z t 8 = true then some (x, y, z, t) else none
 | none => none
theorem Zu8 {s : Str} {x y z : Int} {t : Str} (h : Zui s = some (x, y, z, t)) : Zli x y z t 8 = true := by
 unfold Zui at h
 split at h
 ·split at h
  ·rename_i hq
   cases h
   exact hq.2
  ·cases h
 ·cases h
theorem Zy4 (x y z : Int) (t : Str) (hx : Num x) (hy : Num y) (hz : Num z) (ht : t.length ≤ 8000) : Ze fun k => Z7 k x = some (Zw x) ∧ Z7 k y = some (Zw y) ∧ Z7 k z = some (Zw z) ∧ Z6d k t = some (Zgd t) :=
 ((Zoj x hx).and ((Zoj y hy).and ((Zoj z hz).and (Zxv t ht))))
theorem Zlab (x y z : Int) (t : Str) (hx : Num x) (hy : Num y) (hz : Num z) (ht : t.length ≤ 8000) : Ze fun k => Zjg k (x, (y, (z, t))) = some (if Zli x y z t 8 = true then Zw x ++ Zw y ++ Zw z ++ Zgd t else []) := by
 refine (Zy4 x y z t hx hy hz ht).mono fun k ⟨h1, h2, h3, h4⟩ => ?_
 have l1 := Zgh x
 have l2 := Zgh y
 have l3 := Zgh z
 have l4 := Z2q t
 unfold Zjg
 rw [Z4v x y z t 8 (by omega) (by omega)]
 simp only [Option.bind_some]
 by_cases hb : Zli x y z t 8 = true
 ·rw [hb, if_pos rfl]
  unfold Zhe
  simp only [Bool.not_true, cond_false]
  rw [h1, h2, h3, h4]
  simp only [Option.bind_some]
  rw [Zkf (by omega)]
  simp only [Option.bind_some]
  rw [Zkf (by simp; omega)]
  simp only [Option.bind_some]
  rw [Zkf (by simp; omega)]
  rfl
 ·rw [if_neg hb, (Bool.eq_false_iff.2 hb : Zli x y z t 8 = false)]
  rfl
theorem Zt1 {s : Str} (h : 1 ≤ s.length) : (([] : Str) == s) = false := by
 cases s with
 | nil => exact absurd h (by simp)
 | cons _ _ => rfl
theorem Zqy (s : Str) (hs : s.length ≤ 8000) : Ze fun k => Zze k s = some (match Zui s with
  | some (x, y, z, t) => (x, y, z, t, 0)
  | none => (0, 0, 0, [], 3)) := by
 cases hq : Zfj s with
 | none =>
  refine (Z56 s hs).mono fun k ⟨v3, v4, v5, v6, h3, h4, h5, h6, h⟩ => ?_
  have h7 : v6.2.2.2 = true := by
   rcases h with ⟨x, y, z, t, d, e, _⟩ | ⟨_, h⟩
   ·rw [hq] at e; cases e
   ·exact h
  unfold Zze Zui
  rw [hq, decide_eq_false (by omega : ¬ (8000 < (s.length : Int)))]
  simp only [cond_false]
  rw [h3]
  simp only [Option.bind_some]
  rw [h4]
  simp only [Option.bind_some]
  rw [h5]
  simp only [Option.bind_some]
  rw [h6]
  simp only [Option.bind_some]
  rw [h7]
  rfl
 | some q =>
  obtain ⟨x, y, z, t, d⟩ := q
  obtain ⟨a, b, c, g1, g2, g3, g4⟩ := Zv2 hq
  refine ((Z56 s hs).and (Zlab x y z t g1.range g2.range g3.range g4.size)).mono fun k ⟨⟨v3, v4, v5, v6, h3, h4, h5, h6, h⟩, hb⟩ => ?_
  have h7 : v3.1 = x ∧ v4.1 = y ∧ v5.1 = z ∧ v6 = (t, s, ((d : Nat) : Int), false) := by
   rcases h with ⟨x', y', z', t', d', e, h⟩ | ⟨e, _⟩
   ·rw [hq] at e; cases e; exact h
   ·rw [hq] at e; cases e
  obtain ⟨i1, i2, i3, i4⟩ := h7
  unfold Zze Zui
  rw [hq, decide_eq_false (by omega : ¬ (8000 < (s.length : Int)))]
  simp only [cond_false]
  rw [h3]
  simp only [Option.bind_some]
  rw [h4]
  simp only [Option.bind_some]
  rw [h5]
  simp only [Option.bind_some]
  rw [h6]
  simp only [Option.bind_some]
  rw [i1, i2, i3, i4]
  simp only [cond_false]
  rw [hb]
  simp only [Option.bind_some]
  by_cases hr : Zli x y z t 8 = true
  ·rw [if_pos hr, Zym]
   by_cases hd : d = s.length
   ·rw [decide_eq_true ((Znz g1 g2 g3 g4).2 hd), if_pos ⟨hd, hr⟩]
    rfl
   ·rw [decide_eq_false (fun q => hd ((Znz g1 g2 g3 g4).1 q)), if_neg (fun q => hd q.1)]
    rfl
  ·have := g1.le
   have := g1.at'
   have := Zly x
   rw [if_neg hr, if_neg (fun q => hr q.2), Zt1 (by omega)]
   rfl
def Z6x (x y z : Int) (t : Str) : Bool := (decide (1 ≤ x) && decide (x ≤ 8)) && ((decide (1 ≤ y) && decide (y ≤ 20)) && ((decide (0 ≤ z) && decide (z ≤ 4)) && decide ((t.length : Int) = 32)))
theorem Zkcb (x y z : Int) (t : Str) : Zyf (x, (y, (z, t))) = some (Z6x x y z t) := by
 unfold Zyf Znb Z6x
 simp only [Option.bind_some, Z4h]
 cases (decide (1 ≤ x) && decide (x ≤ 8)) <;> cases (decide (1 ≤ y) && decide (y ≤ 20)) <;> rfl
end Go.Proofs.YtfbancgdmghnkaaGreatDoorE
namespace Go.Proofs.YtfbancgdmghnkaaGreatDoorE
open Go
set_option linter.unusedVariables false
def Zzo (s : Str) : Option (Int × Str × Nat) :=
 if (Zsd s 0).2.2 = 0 then
  if (Zei s (Zsd s 0).2.1.toNat).2.2 = 0 then some ((Zsd s 0).1, (Zei s (Zsd s 0).2.1.toNat).1, (Zei s (Zsd s 0).2.1.toNat).2.1.toNat) else none
 else none
theorem Zs2 {s : Str} {x : Int} {t : Str} {a d : Nat} (g1 : Got s 0 x a) (g4 : GotT s a t d) : Zw x ++ Zgd t = s ↔ d = s.length := by
 have e0 : s = Zw x ++ (Zgd t ++ s.drop d) := by
  have h1 := g1.eq
  rw [List.drop_zero, g4.eq] at h1
  exact h1
 constructor
 ·intro h
  have := g4.at'
  have := g1.at'
  have hl := congrArg List.length h
  rw [List.length_append] at hl
  omega
 ·intro h
  rw [h, List.drop_length, List.append_nil] at e0
  exact e0.symm
def Zqo (n : Int) (t : Str) : Bool := (decide (1 ≤ n) && decide (n ≤ 1000000)) && decide (t.length ≤ 80)
def Zbe (s : Str) : Int × Str × Int := if (Zth s).2 = 0 then match Zzo (Zq s) with
  | some (n, t, d) => if d = (Zq s).length ∧ Zqo n t = true then (n, t, 0) else (0, [], 3)
  | none => (0, [], 3) else (0, [], (Zth s).2)
theorem Z1bb (n : Int) (t : Str) (hn : Num n) (ht : t.length ≤ 8000) : Ze fun k => Zjf k n t = some (if Zqo n t = true then Zhj (Zw n ++ Zgd t) else []) := by
 have is : Znb n 1 1000000 = some (decide (1 ≤ n) && decide (n ≤ 1000000)) := rfl
 unfold Zqo
 by_cases h1 : (decide (1 ≤ n) && decide (n ≤ 1000000)) = true
 ·by_cases h2 : t.length ≤ 80
  ·have l1 := Zgh n
   have l4 := Z2q t
   refine (((Zoj n hn).and (Zxv t ht)).and (Z54 (Zw n ++ Zgd t) (by simp; omega))).mono fun k ⟨⟨a, b⟩, c⟩ => ?_
   unfold Zjf
   rw [is, h1, decide_eq_false (by omega : ¬ (80 : Int) < (t.length : Int)), decide_eq_true h2]
   simp only [Option.bind_some, Bool.not_true, Bool.or_self, cond_false, Bool.and_self, if_true]
   rw [a, b]
   simp only [Option.bind_some]
   rw [Zkf (by omega)]
   simp only [Option.bind_some]
   rw [c]
   rfl
  ·refine Ze.of fun k => ?_
   unfold Zjf
   rw [is, h1, decide_eq_true (by omega : (80 : Int) < (t.length : Int)), decide_eq_false h2]
   rfl
 ·refine Ze.of fun k => ?_
  unfold Zjf
  rw [is, Bool.eq_false_iff.2 h1]
  rfl
theorem Z60 (s : Str) (hs : s.length ≤ 8000) : Ze fun k => Zle k s = some (Zbe s) := by
 by_cases hu : (Zth s).2 = 0
 ·obtain ⟨e1, e2, e3⟩ := Zzr hu
  have hbl : (Zq s).length ≤ 8000 := by rw [Z3o]; omega
  rcases Zek (Zq s) 0 with ⟨n, a, en, gn⟩ | ⟨c, hc, en⟩
  ·have hla := gn.le
   rcases Z3l (Zq s) a with ⟨t, d, et, gt⟩ | ⟨c, hc, et⟩
   ·refine ((((Zrm s hs).and (Z5n (Zq s) 0 (by omega) hbl)).and (Zjq (Zq s) a (by omega) hbl)).and (Z1bb n t gn.range gt.size)).mono fun k ⟨⟨⟨h0, h1⟩, h2⟩, h3⟩ => ?_
    have h1 : Zkb k (Zq s) 0 = _ := h1
    unfold Zle Zbe Zzo
    rw [if_pos hu, h0, e1, en]
    simp only [Option.bind_some]
    rw [show ((0 : Int) != 0) = false from rfl, cond_false, h1, en]
    simp only [Option.bind_some, Int.toNat_natCast]
    rw [h2, et]
    simp only [Option.bind_some, if_true, Int.toNat_natCast]
    rw [show ((0 : Int) != 0) = false from rfl, Bool.or_self, cond_false, h3]
    simp only [Option.bind_some]
    by_cases hr : Zqo n t = true
    ·rw [if_pos hr, Zym]
     by_cases hd : d = (Zq s).length
     ·have : Zhj (Zw n ++ Zgd t) = s := by rw [(Zs2 gn gt).2 hd, e2]
      rw [decide_eq_true this, if_pos ⟨hd, hr⟩]
      rfl
     ·rw [decide_eq_false (fun q => hd ((Zs2 gn gt).1 (Zwab.1 (q.trans e2.symm)))), if_neg (fun q => hd q.1)]
      rfl
    ·rw [if_neg hr, if_neg (fun q => hr q.2), Zt1 (by omega)]
     rfl
   ·refine (((Zrm s hs).and (Z5n (Zq s) 0 (by omega) hbl)).and (Zjq (Zq s) a (by omega) hbl)).mono fun k ⟨⟨h0, h1⟩, h2⟩ => ?_
    have h1 : Zkb k (Zq s) 0 = _ := h1
    unfold Zle Zbe Zzo
    rw [if_pos hu, h0, e1, en]
    simp only [Option.bind_some]
    rw [show ((0 : Int) != 0) = false from rfl, cond_false, h1, en]
    simp only [Option.bind_some, Int.toNat_natCast]
    rw [h2, et]
    simp only [Option.bind_some, if_true]
    rw [if_neg hc, show ((0 : Int) != 0) = false from rfl, Bool.false_or, show (c != 0) = true by simpa using hc]
    rfl
  ·refine (((Zrm s hs).and (Z5n (Zq s) 0 (by omega) hbl)).and (Zjq (Zq s) 0 (by omega) hbl)).mono fun k ⟨⟨h0, h1⟩, h2⟩ => ?_
   have h1 : Zkb k (Zq s) 0 = _ := h1
   have h2 : Zne k (Zq s) 0 = _ := h2
   unfold Zle Zbe Zzo
   rw [if_pos hu, h0, e1, en]
   simp only [Option.bind_some]
   rw [show ((0 : Int) != 0) = false from rfl, cond_false, h1, en]
   simp only [Option.bind_some]
   rw [h2]
   simp only [Option.bind_some]
   rw [if_neg hc, show (c != 0) = true by simpa using hc]
   rfl
 ·refine (Zrm s hs).mono fun k h0 => ?_
  unfold Zle Zbe
  rw [if_neg hu, h0]
  simp only [Option.bind_some]
  rw [show ((Zth s).2 != 0) = true by simpa using hu]
  rfl
theorem Z22 (s : Str) (hs : s.length ≤ 8000) : Ze fun k => Zgf k s = some (Zbe s) := by
 by_cases hu : (Zth s).2 = 0
 ·obtain ⟨e1, e2, e3⟩ := Zzr hu
  have hbl : (Zq s).length ≤ 8000 := by rw [Z3o]; omega
  rcases Zek (Zq s) 0 with ⟨n, a, en, gn⟩ | ⟨c, hc, en⟩
  ·have hla := gn.le
   have hn : Zoc (Zq s) 0 = (n, Zq s, ((a : Nat) : Int), false) := by unfold Zoc; rw [en]; rfl
   refine (((Zcr s (by omega)).and (Zbx (Zq s) 0 (by omega) (by omega))).and (Zq3 (Zq s) a (by omega) (by omega))).mono fun k ⟨⟨h0, h1⟩, h2⟩ => ?_
   have h1 : Z0c k (Zq s, (0, false)) = _ := h1
   unfold Zgf Zbe Zzo
   rw [if_pos hu, h0, e1, en]
   simp only [Option.bind_some]
   rw [show ((0 : Int) != 0) = false from rfl, cond_false, h1, hn]
   simp only [Option.bind_some, Int.toNat_natCast]
   rw [h2]
   simp only [Option.bind_some, if_true]
   rcases Z3l (Zq s) a with ⟨t, d, et, gt⟩ | ⟨c, hc, et⟩
   ·have ht : Zqe (Zq s) a = (t, Zq s, ((d : Nat) : Int), false) := by unfold Zqe; rw [et]; rfl
    rw [ht, et]
    simp only [Bool.false_or, if_true, Int.toNat_natCast]
    by_cases hd : d = (Zq s).length
    ·rw [show (((d : Nat) : Int) != ((Zq s).length : Int)) = false by rw [hd]; simp]
     simp only [cond_false]
     have is : Zgb n 1 1000000 = some (decide (1 ≤ n) && decide (n ≤ 1000000)) := rfl
     rw [is]
     simp only [Option.bind_some]
     unfold Zqo
     by_cases q1 : (decide (1 ≤ n) && decide (n ≤ 1000000)) = true
     ·by_cases q2 : t.length ≤ 80
      ·rw [q1, decide_eq_true q2, decide_eq_false (by omega : ¬ (80 : Int) < (t.length : Int)), if_pos ⟨hd, rfl⟩]
       rfl
      ·rw [q1, decide_eq_false q2, decide_eq_true (by omega : (80 : Int) < (t.length : Int)), if_neg (fun q => by cases q.2)]
       rfl
     ·rw [Bool.eq_false_iff.2 q1, if_neg (fun q => by cases q.2)]
      rfl
    ·rw [show (((d : Nat) : Int) != ((Zq s).length : Int)) = true by simp; omega, if_neg (fun q => hd q.1)]
     rfl
   ·have ht : Zqe (Zq s) a = ([], Zq s, ((a : Nat) : Int), true) := by unfold Zqe; rw [et, if_neg hc]
    rw [ht, et, if_neg hc]
    rfl
  ·have hn : Zoc (Zq s) 0 = (0, Zq s, ((0 : Nat) : Int), true) := by unfold Zoc; rw [en, if_neg hc]
   obtain ⟨t, a', hw, _⟩ := Zo1 (Zq s) 0 (by omega) (by omega)
   refine (((Zcr s (by omega)).and (Zbx (Zq s) 0 (by omega) (by omega))).and hw).mono fun k ⟨⟨h0, h1⟩, h2⟩ => ?_
   have h1 : Z0c k (Zq s, (0, false)) = _ := h1
   unfold Zgf Zbe Zzo
   rw [if_pos hu, h0, e1, en, if_neg hc]
   simp only [Option.bind_some]
   rw [show ((0 : Int) != 0) = false from rfl, cond_false, h1, hn]
   simp only [Option.bind_some]
   rw [h2]
   rfl
 ·refine (Zcr s (by omega)).mono fun k h0 => ?_
  unfold Zgf Zbe
  rw [if_neg hu, h0]
  simp only [Option.bind_some]
  rw [show ((Zth s).2 != 0) = true by simpa using hu]
  rfl
theorem Zg4 (s : Str) : (Zbe s).2.1.length ≤ 80 := by
 unfold Zbe
 split
 ·split
  ·split
   ·rename_i h
    have := h.2
    unfold Zqo at this
    rw [Bool.and_eq_true] at this
    exact of_decide_eq_true this.2
   ·simp
  ·simp
 ·simp
def Z2h (f : Zrg) : Int × Str × Int × Int :=
 if (Zbe (Zed f 0)).2.2 = 0 ∧ ((Zbe (Zed f 1)).2.2 ≠ 0 ∨ (Zbe (Zed f 1)).1 ≤ (Zbe (Zed f 0)).1) then ((Zbe (Zed f 0)).1, (Zbe (Zed f 0)).2.1, (Zbe (Zed f 0)).2.2, 0)
 else if (Zbe (Zed f 1)).2.2 = 0 then ((Zbe (Zed f 1)).1, (Zbe (Zed f 1)).2.1, (Zbe (Zed f 1)).2.2, 1) else (0, [], 6, -1)
end Go.Proofs.YtfbancgdmghnkaaGreatDoorE
namespace Go.Proofs.YtfbancgdmghnkaaGreatDoorE
open Go
set_option linter.unusedVariables false
theorem Zpu {f : Zrg} (h : Zgj f = true) : (1 ≤ f.1.length ∧ f.1.length ≤ 40 ∧ f.2.length ≤ f.1.length) ∧ (∀ x ∈ f.1, x.length ≤ 96) ∧ ∀ i, i < f.2.length → (f.2.getD i (0, [])).2.length ≤ 96 := by
 unfold Zgj at h
 rw [Bool.and_eq_true, Bool.and_eq_true] at h
 obtain ⟨h1, h2, h3⟩ := h
 refine ⟨of_decide_eq_true h1, fun x hx => of_decide_eq_true (List.all_eq_true.1 h2 x hx), fun i hi => ?_⟩
 have := List.all_eq_true.1 h3 i (List.mem_range.2 hi)
 unfold okD at this
 rw [Bool.and_eq_true, Bool.and_eq_true] at this
 exact of_decide_eq_true this.1.2
theorem Zcp {f : Zrg} (h : Zgj f = true) (n : Int) : (Zed f n).length ≤ 96 := by
 obtain ⟨_, h1, h2⟩ := Zpu h
 unfold Zed
 cases hd : Zjl f n with
 | some i => exact h2 i (Zg2 hd)
 | none =>
  by_cases q : n.toNat < f.1.length
  ·show (f.1.getD n.toNat []).length ≤ 96
   rw [List.getD_eq_getElem?_getD, List.getElem?_eq_getElem q]
   exact h1 _ (List.getElem_mem q)
  ·show (f.1.getD n.toNat []).length ≤ 96
   rw [List.getD_eq_getElem?_getD, List.getElem?_eq_none (by omega)]
   simp
theorem Zhab {f : Zrg} (h : Zgj f = true) (h2 : 2 ≤ f.1.length) : Ze fun k => Zxb k f = some (Z2h f) := by
 obtain ⟨⟨b1, b2, b3⟩, _⟩ := Zpu h
 refine (((Z22 (Zed f 0) (by have := Zcp h 0; omega)).and (Z22 (Zed f 1) (by have := Zcp h 1; omega))).and (Ze.ge 100 fun k hk => hk)).mono fun k ⟨⟨m0, m1⟩, hk⟩ => ?_
 obtain ⟨j, rfl⟩ : ∃ j, k = j + 3 := ⟨k - 3, by omega⟩
 have r0 : Zvd (j + 3) (f.1, f.2) 0 = some (Zed f 0) := Zws f 0 (by omega) (by omega) (by omega) (by omega)
 have r1 : Zvd (j + 3) (f.1, f.2) 1 = some (Zed f 1) := Zws f 1 (by omega) (by omega) (by omega) (by omega)
 have w1 : IntKind.wrap .i64 ((0 : Int) + 1) = 1 := by decide
 have w2 : IntKind.wrap .i64 ((1 : Int) + 1) = 2 := by decide
 unfold Z2h
 generalize Zbe (Zed f 0) = a at m0
 generalize Zbe (Zed f 1) = b at m1
 obtain ⟨an, at', ac⟩ := a
 obtain ⟨bn, bt, bc⟩ := b
 have s0 : ∀ j2, Zxb.l0 (j + 3) (j2 + 1) f.1 f.2 (-1) 0 0 [] 6 = if ac = 0 then Zxb.l0 (j + 3) j2 f.1 f.2 0 1 an at' ac else Zxb.l0 (j + 3) j2 f.1 f.2 (-1) 1 0 [] 6 := fun j2 => by
  conv => lhs; unfold Zxb.l0
  rw [show decide ((0 : Int) < 2) = true from rfl, cond_true, r0]
  simp only [Option.bind_some]
  rw [m0]
  simp only [Option.bind_some, w1]
  by_cases q : ac = 0
  ·rw [if_pos q, q]
   rfl
  ·rw [if_neg q, show (ac == 0) = false by simpa using q]
   rfl
 have s1 : ∀ j2 (p n c : Int) (t : Str), Zxb.l0 (j + 3) (j2 + 2) f.1 f.2 p 1 n t c = if bc = 0 ∧ (p < 0 ∨ n < bn) then some (1, bn, bt, bc) else some (p, n, t, c) := fun j2 p n c t => by
  have fin : ∀ (p n c : Int) (t : Str), Zxb.l0 (j + 3) (j2 + 1) f.1 f.2 p 2 n t c = some (p, n, t, c) := fun p n c t => by
   conv => lhs; unfold Zxb.l0
   rfl
  conv => lhs; unfold Zxb.l0
  rw [show decide ((1 : Int) < 2) = true from rfl, cond_true, r1]
  simp only [Option.bind_some]
  rw [m1]
  simp only [Option.bind_some, w2, fin]
  by_cases q : bc = 0
  ·subst q
   by_cases q2 : p < 0
   ·rw [decide_eq_true q2, if_pos ⟨rfl, .inl q2⟩]
    rfl
   ·rw [decide_eq_false q2]
    by_cases q3 : n < bn
    ·rw [decide_eq_true q3, if_pos ⟨rfl, .inr q3⟩]
     rfl
    ·rw [decide_eq_false q3, if_neg (by omega)]
     rfl
  ·rw [show (bc == 0) = false by simpa using q, if_neg (fun w => q w.1)]
   rfl
 unfold Zxb
 rw [show j + 3 = (j + 2) + 1 from rfl]
 rw [s0 (j + 2)]
 by_cases q : ac = 0
 ·rw [if_pos q, s1 j]
  by_cases q2 : bc = 0
  ·by_cases q3 : an < bn
   ·rw [if_pos ⟨q2, .inr q3⟩, if_neg (by simp only [not_and]; intro _ ; omega), if_pos q2]
    rfl
   ·rw [if_neg (by omega), if_pos ⟨q, .inr (by omega)⟩]
    rfl
  ·rw [if_neg (fun w => q2 w.1), if_pos ⟨q, .inl q2⟩]
   rfl
 ·rw [if_neg q, s1 j, if_neg (c := ac = 0 ∧ _) (fun w => q w.1)]
  by_cases q2 : bc = 0
  ·rw [if_pos ⟨q2, .inl (by decide)⟩, if_pos q2]
   rfl
  ·rw [if_neg (fun w => q2 w.1), if_neg q2]
   rfl
theorem Z8bb {f : Zrg} (h : Zgj f = true) (h2 : 2 ≤ f.1.length) : Ze fun k => Z4g k f = some (Z2h f) := by
 obtain ⟨⟨b1, b2, b3⟩, _⟩ := Zpu h
 refine (((Z60 (Zed f 0) (by have := Zcp h 0; omega)).and (Z60 (Zed f 1) (by have := Zcp h 1; omega))).and (Ze.ge 100 fun k hk => hk)).mono fun k ⟨⟨m0, m1⟩, hk⟩ => ?_
 have r0 : Zab k f 0 = some (Zed f 0) := Zgs f 0 (by omega) (by omega) (by omega) (by omega)
 have r1 : Zab k f 1 = some (Zed f 1) := Zgs f 1 (by omega) (by omega) (by omega) (by omega)
 unfold Z4g Z2h
 rw [r0]
 simp only [Option.bind_some]
 rw [m0]
 simp only [Option.bind_some]
 rw [r1]
 simp only [Option.bind_some]
 rw [m1]
 simp only [Option.bind_some]
 generalize Zbe (Zed f 0) = a
 generalize Zbe (Zed f 1) = b
 obtain ⟨an, at', ac⟩ := a
 obtain ⟨bn, bt, bc⟩ := b
 dsimp only
 by_cases q : ac = 0
 ·rw [show (ac == 0) = true by simpa using q, Bool.true_and]
  by_cases q2 : bc = 0
  ·rw [show (bc != 0) = false by simpa using q2, Bool.false_or, show (bc == 0) = true by simpa using q2]
   by_cases q3 : bn ≤ an
   ·rw [decide_eq_true q3, if_pos ⟨q, .inr q3⟩]
    rfl
   ·rw [decide_eq_false q3, if_neg (by omega), if_pos q2]
    rfl
  ·rw [show (bc != 0) = true by simpa using q2, if_pos ⟨q, .inl q2⟩]
   rfl
 ·rw [show (ac == 0) = false by simpa using q, if_neg (fun w => q w.1)]
  by_cases q2 : bc = 0
  ·rw [show (bc == 0) = true by simpa using q2, if_pos q2]
   rfl
  ·rw [show (bc == 0) = false by simpa using q2, if_neg q2]
   rfl
end Go.Proofs.YtfbancgdmghnkaaGreatDoorE
