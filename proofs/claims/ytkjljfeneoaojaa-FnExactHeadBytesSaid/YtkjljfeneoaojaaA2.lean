/- The CRC and the number encoding of the program and of the reference come to the same plain functions. Conditions: as each theorem states. -/
import Derived.Test.YtkjljfeneoaojaaP64
import Derived.Test.YtkjljfeneoaojaaP66
import Derived.Test.YtkjljfeneoaojaaP88
import Derived.Test.YtkjljfeneoaojaaP89
import Derived.Test.YtkjljfeneoaojaaP91
import Derived.Test.YtkjljfeneoaojaaB0
import Derived.Test.YtkjljfeneoaojaaA1
namespace Go.Proofs.Ytkjljfeneoaojaa.Pure
open Go Go.RowKit Go.Proofs.YtkjljfeneoaojaaW.PrintWords Go.Proofs.YtkjljfeneoaojaaW.PrintLast Go.Proofs.YtkjljfeneoaojaaW.PrintMore Go.Proofs.Ytkjljfeneoaojaa.P
def crcBit (r : Nat) : Nat := if r % 2 = 1 then (r / 2) ^^^ 3988292384 else r / 2
def crcBits : Nat → Nat → Nat
  | 0, r => r
  | n + 1, r => crcBits n (crcBit r)
def crcRun : List Nat → Nat → Nat
  | [], r => r
  | c :: l, r => crcRun l (crcBits 8 (r ^^^ c))
def crcOf (c : Nat) (s : ByteArray) : Nat := (crcRun (B s) (c ^^^ 4294967295)) ^^^ 4294967295
theorem x32 {a b : Nat} (ha : a < 4294967296) (hb : b < 4294967296) : a ^^^ b < 4294967296 := Nat.xor_lt_two_pow (n := 32) ha hb
theorem crcBit_lt {r : Nat} (h : r < 4294967296) : crcBit r < 4294967296 := by
  unfold crcBit
  split
  · exact x32 (by omega) (by omega)
  · omega
theorem crcBits_lt : ∀ (n : Nat) {r : Nat}, r < 4294967296 → crcBits n r < 4294967296
  | 0, _, h => h
  | n + 1, _, h => crcBits_lt n (crcBit_lt h)
theorem crcRun_lt : ∀ (l : List Nat) {r : Nat}, (∀ x ∈ l, x < 256) → r < 4294967296 → crcRun l r < 4294967296
  | [], _, _, h => h
  | c :: l, r, hl, h => crcRun_lt l (fun x hx => hl x (by simp [hx])) (crcBits_lt 8 (x32 h (by have := hl c (by simp); omega)))
theorem crcOf_lt {c : Nat} (s : ByteArray) (h : c < 4294967296) : crcOf c s < 4294967296 := x32 (crcRun_lt _ (B_lt s) (x32 h (by omega))) (by omega)

theorem sl1 {x : ByteArray} {i : Int} {res : Int} : ∀ (n : Nat) (r : Nat), n ≤ 8 → r < 4294967296 → Ev (fun k => spec_l01Crc.l0 k x ((crcBits n r : Nat) : Int) (wrap64 (i + 1))) res → Ev (fun k => spec_l01Crc.l1 k x (r : Int) i ((8 - n : Nat) : Int)) res
  | 0, r, _, _, h => Ev.step (fun k => by simp only [spec_l01Crc.l1]; rw [if_neg (by omega)]; rfl) h
  | n + 1, r, hn, hr, h => by
    refine Ev.step (f := fun k => spec_l01Crc.l1 k x ((crcBit r : Nat) : Int) i ((8 - n : Nat) : Int)) (fun k => ?_) (sl1 n (crcBit r) (by omega) (crcBit_lt hr) h)
    simp only [spec_l01Crc.l1]
    rw [if_pos (by omega), band1 _ hr, show wrap64 (((8 - (n + 1) : Nat) : Int) + 1) = ((8 - n : Nat) : Int) by rw [w64] <;> omega, show ((r : Int) / 2) = ((r / 2 : Nat) : Int) by omega]
    by_cases hp : r % 2 = 1
    · rw [if_pos (by omega), show (3988292384 : Int) = ((3988292384 : Nat) : Int) from rfl, bx32 _ _ (by omega) (by omega)]
      simp [crcBit, hp]
    · rw [if_neg (by omega)]
      simp [crcBit, hp]
theorem sl0 {x : ByteArray} (hx : x.size ≤ 140737488351232) : ∀ (d i r : Nat), x.size - i = d → i ≤ x.size → r < 4294967296 → Ev (fun k => spec_l01Crc.l0 k x (r : Int) (i : Int)) ((crcRun ((B x).drop i) r ^^^ 4294967295 : Nat) : Int)
  | 0, i, r, hd, hi, hr => by
    refine Ev.now' fun k => ?_
    simp only [spec_l01Crc.l0]
    have hb : (B x).drop i = [] := List.drop_eq_nil_of_le (by rw [B_len]; omega)
    rw [if_neg (by omega), show (4294967295 : Int) = ((4294967295 : Nat) : Int) from rfl, bx32 _ _ hr (by omega), hb]
    have := x32 hr (show 4294967295 < 4294967296 by omega)
    rw [w64 (by omega) (by omega)]
    rfl
  | d + 1, i, r, hd, hi, hr => by
    have hlt : i < (B x).length := by rw [B_len]; omega
    have hc : (B x)[i] < 256 := B_lt x _ (List.getElem_mem hlt)
    have hg : bt x (i : Int) = (((B x)[i] : Nat) : Int) := by rw [bt_B, List.getD_eq_getElem?_getD, List.getElem?_eq_getElem hlt, Option.getD_some]
    have hdr : (B x).drop i = (B x)[i] :: (B x).drop (i + 1) := List.drop_eq_getElem_cons hlt
    have hxr := x32 hr (show (B x)[i] < 4294967296 by omega)
    refine Ev.step (f := fun k => spec_l01Crc.l1 k x ((r ^^^ (B x)[i] : Nat) : Int) (i : Int) ((8 - 8 : Nat) : Int)) (fun k => ?_) (sl1 8 _ (Nat.le_refl _) hxr ?_)
    · simp only [spec_l01Crc.l0]
      rw [if_pos (by omega), if_pos (by omega), hg, show (((B x)[i] : Nat) : Int) % 4294967296 = (((B x)[i] : Nat) : Int) by omega, bx32 _ _ hr (by omega)]
      rfl
    · rw [hdr, show wrap64 ((i : Int) + 1) = ((i + 1 : Nat) : Int) by rw [w64] <;> omega]
      exact sl0 hx d (i + 1) _ (by omega) (by omega) (crcBits_lt 8 hxr)
theorem sCrc (c : Nat) (s : ByteArray) (hc : c < 4294967296) (hs : s.size ≤ 140737488351232) : Ev (fun k => spec_l01Crc.f k (c : Int) s) ((crcOf c s : Nat) : Int) := by
  have h := sl0 hs s.size 0 (c ^^^ 4294967295) (by omega) (by omega) (x32 hc (by omega))
  refine Ev.congr (fun k => ?_) h
  unfold spec_l01Crc.f
  rw [show (c : Int) % 4294967296 = (c : Int) by omega, show (4294967295 : Int) = ((4294967295 : Nat) : Int) from rfl, bx32 _ _ hc (by omega)]
  rfl

theorem il1 {x : ByteArray} {i n0 : Int} {res : Int} (c : Nat) (hc : c < 256) (hg : bt x i = (c : Int)) (hi : 0 ≤ i) (hi2 : i < (x.size : Int)) : ∀ (n : Nat) (s r : Nat), n ≤ 8 → s < 4294967296 → r = s ^^^ (c / 2 ^ (8 - n)) → Ev (fun k => impl_crcMore.l0 k x ((crcBits n s : Nat) : Int) n0 (wrap64 (i + 1))) res →
    Ev (fun k => impl_crcMore.l1 k x (r : Int) i n0 i ((8 - n : Nat) : Int)) res
  | 0, s, r, _, _, hr, h => by
    have : c / 2 ^ (8 - 0) = 0 := Nat.div_eq_of_lt (by simpa using hc)
    rw [this, Nat.xor_zero] at hr
    subst hr
    exact Ev.step (fun k => by simp only [impl_crcMore.l1]; rw [if_neg (by omega)]; rfl) h
  | n + 1, s, r, hn, hs, hr, h => by
    have hcd : c / 2 ^ (8 - (n + 1)) < 256 := Nat.lt_of_le_of_lt (Nat.div_le_self _ _) hc
    have hrl : r < 4294967296 := by rw [hr]; exact x32 hs (by omega)
    have hsr : r ^^^ (c / 2 ^ (8 - (n + 1))) = s := by rw [hr, Nat.xor_assoc, Nat.xor_self, Nat.xor_zero]
    have hhalf : r / 2 = s / 2 ^^^ (c / 2 ^ (8 - n)) := by
      have e1 : c / 2 ^ (8 - n) = (c / 2 ^ (8 - (n + 1))) / 2 := by rw [Nat.div_div_eq_div_mul, ← Nat.pow_succ]; congr 2; omega
      rw [hr, e1]
      have := @Nat.shiftRight_xor_distrib 1 s (c / 2 ^ (8 - (n + 1)))
      simpa [Nat.shiftRight_eq_div_pow] using this
    have hsh : shr .u32 ((c : Int) % 4294967296) ((8 - (n + 1) : Nat) : Int) = ((c / 2 ^ (8 - (n + 1)) : Nat) : Int) := by
      unfold shr
      rw [show (c : Int) % 4294967296 = (c : Int) by omega, Int.toNat_natCast, Nat.min_eq_left (by simp [IntKind.bits]; omega)]
      push_cast
      rfl
    by_cases hp : s % 2 = 1
    · refine Ev.step (f := fun k => impl_crcMore.l1 k x (((r / 2) ^^^ 3988292384 : Nat) : Int) i n0 i ((8 - n : Nat) : Int)) (fun k => ?_) (il1 c hc hg hi hi2 n (crcBit s) _ (by omega) (crcBit_lt hs) ?_ h)
      · simp only [impl_crcMore.l1]
        rw [if_pos (by omega), if_pos hi, if_pos hi2, if_pos (by omega), hg, hsh, bx32 _ _ hrl (by omega), hsr, band1 _ hs, if_pos (by omega), show ((r : Int) / 2) = ((r / 2 : Nat) : Int) by omega, show (3988292384 : Int) = ((3988292384 : Nat) : Int) from rfl, bx32 _ _ (by omega) (by omega),
          show wrap64 (((8 - (n + 1) : Nat) : Int) + 1) = ((8 - n : Nat) : Int) by rw [w64] <;> omega]
      · simp only [crcBit, hp, if_true]
        rw [hhalf, Nat.xor_assoc, Nat.xor_assoc, Nat.xor_comm (c / 2 ^ (8 - n))]
    · refine Ev.step (f := fun k => impl_crcMore.l1 k x ((r / 2 : Nat) : Int) i n0 i ((8 - n : Nat) : Int)) (fun k => ?_) (il1 c hc hg hi hi2 n (crcBit s) _ (by omega) (crcBit_lt hs) ?_ h)
      · simp only [impl_crcMore.l1]
        rw [if_pos (by omega), if_pos hi, if_pos hi2, if_pos (by omega), hg, hsh, bx32 _ _ hrl (by omega), hsr, band1 _ hs, if_neg (by omega), show ((r : Int) / 2) = ((r / 2 : Nat) : Int) by omega,
          show wrap64 (((8 - (n + 1) : Nat) : Int) + 1) = ((8 - n : Nat) : Int) by rw [w64] <;> omega]
      · simp only [crcBit, hp, if_false]
        exact hhalf
theorem il0 {x : ByteArray} (hx : x.size ≤ 140737488351232) : ∀ (d i r : Nat), x.size - i = d → i ≤ x.size → r < 4294967296 → Ev (fun k => impl_crcMore.l0 k x (r : Int) (x.size : Int) (i : Int)) ((crcRun ((B x).drop i) r ^^^ 4294967295 : Nat) : Int)
  | 0, i, r, hd, hi, hr => by
    refine Ev.now' fun k => ?_
    simp only [impl_crcMore.l0]
    have hb : (B x).drop i = [] := List.drop_eq_nil_of_le (by rw [B_len]; omega)
    rw [if_neg (by omega), show (4294967295 : Int) = ((4294967295 : Nat) : Int) from rfl, bx32 _ _ (by omega) hr, hb, Nat.xor_comm]
    rfl
  | d + 1, i, r, hd, hi, hr => by
    have hlt : i < (B x).length := by rw [B_len]; omega
    have hc : (B x)[i] < 256 := B_lt x _ (List.getElem_mem hlt)
    have hg : bt x (i : Int) = (((B x)[i] : Nat) : Int) := by rw [bt_B, List.getD_eq_getElem?_getD, List.getElem?_eq_getElem hlt, Option.getD_some]
    have hdr : (B x).drop i = (B x)[i] :: (B x).drop (i + 1) := List.drop_eq_getElem_cons hlt
    have hxr := x32 hr (show (B x)[i] < 4294967296 by omega)
    refine Ev.step (f := fun k => impl_crcMore.l1 k x (r : Int) (i : Int) (x.size : Int) (i : Int) ((8 - 8 : Nat) : Int)) (fun k => ?_) (il1 _ hc hg (by omega) (by omega) 8 (r ^^^ (B x)[i]) r (Nat.le_refl _) hxr ?_ ?_)
    · simp only [impl_crcMore.l0]
      rw [if_pos (by omega)]
      rfl
    · simp [Nat.xor_assoc]
    · rw [hdr, show wrap64 ((i : Int) + 1) = ((i + 1 : Nat) : Int) by rw [w64] <;> omega]
      exact il0 hx d (i + 1) _ (by omega) (by omega) (crcBits_lt 8 hxr)
theorem iCrc (c : Nat) (s : ByteArray) (hc : c < 4294967296) (hs : s.size ≤ 140737488351232) : Ev (fun k => impl_crcMore.f k (c : Int) s) ((crcOf c s : Nat) : Int) := by
  have h := il0 hs s.size 0 (c ^^^ 4294967295) (by omega) (by omega) (x32 hc (by omega))
  refine Ev.congr (fun k => ?_) h
  unfold impl_crcMore.f
  rw [show (4294967295 : Int) = ((4294967295 : Nat) : Int) from rfl, bx32 _ _ (by omega) hc, Nat.xor_comm]
  rfl
/-- The four bytes of a CRC. -/
def four (n : Nat) : ByteArray := strOfNums [(n : Int) % 256, (n : Int) / 256 % 256, (n : Int) / 65536 % 256, (n : Int) / 16777216 % 256]
def sealOf (s : ByteArray) : ByteArray := s ++ four (crcOf 0 s)
theorem four_size (n : Nat) : (four n).size = 4 := by
  rw [← B_len]
  unfold four
  rw [B_nums _ (by intro x hx; simp at hx; omega)]
  rfl
theorem sSeal (s : ByteArray) (hs : s.size ≤ 7996) : Ev (fun k => spec_Seal.f k s) (sealOf s) := by
  have h := sCrc 0 s (by omega) (by omega)
  have hf := four_size (crcOf 0 s)
  refine Ev.congr (f := fun k => (spec_l01Crc.f k ((0 : Nat) : Int) s).bind fun t269 => (spec_l01Four.f t269).bind fun t270 => (if s.size + t270.size ≤ 9223372036854775807 then (some (s ++ t270)) else (none))) (fun k => ?_) (Ev.bind h (Ev.all fun k => ?_))
  · unfold spec_Seal.f
    rw [if_neg (by omega)]
    rfl
  · have e : spec_l01Four.f ((crcOf 0 s : Nat) : Int) = some (four (crcOf 0 s)) := rfl
    rw [e]
    simp only [Option.bind_some]
    rw [if_pos (by omega)]
    rfl
theorem iSeal (s : ByteArray) (hs : s.size ≤ 140737488351232) : Ev (fun k => impl_seal.f k s) (sealOf s) := by
  have h := iCrc 0 s (by omega) (by omega)
  refine Ev.bind h ?_
  refine Ev.all fun k => ?_
  have := four_size (crcOf 0 s)
  have e : strOfNums [(((crcOf 0 s : Nat) : Int)) % 256, (((crcOf 0 s : Nat) : Int)) / 256 % 256, (((crcOf 0 s : Nat) : Int)) / 65536 % 256, (((crcOf 0 s : Nat) : Int)) / 16777216 % 256] = four (crcOf 0 s) := rfl
  simp only [Option.bind_some]
  rw [e, if_pos (by omega)]
  rfl
end Go.Proofs.Ytkjljfeneoaojaa.Pure
