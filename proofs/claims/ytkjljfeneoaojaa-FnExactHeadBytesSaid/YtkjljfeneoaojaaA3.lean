/- The number encoding of the program and of the reference come to the same plain function. Conditions: as each theorem states. -/
import Derived.Test.YtkjljfeneoaojaaP65
import Derived.Test.YtkjljfeneoaojaaP67
import Derived.Test.YtkjljfeneoaojaaP68
import Derived.Test.YtkjljfeneoaojaaP92
import Derived.Test.YtkjljfeneoaojaaP93
import Derived.Test.YtkjljfeneoaojaaB0
import Derived.Test.YtkjljfeneoaojaaA1
namespace Go.Proofs.Ytkjljfeneoaojaa.Pure
open Go Go.RowKit Go.Proofs.YtkjljfeneoaojaaW.PrintWords Go.Proofs.YtkjljfeneoaojaaW.PrintLast Go.Proofs.YtkjljfeneoaojaaW.PrintMore Go.Proofs.Ytkjljfeneoaojaa.P
/-- The zigzag number. -/
def zig (n : Int) : Nat := if n < 0 then (-2 * n - 1).toNat else (2 * n).toNat
/-- The groups of seven bits of a number, as bytes; f: a bound on their count. -/
def groups : Nat → Nat → List Int
  | 0, _ => []
  | f + 1, u => if 128 ≤ u then ((u % 128 + 128 : Nat) : Int) :: groups f (u / 128) else [(u : Int)]
def putOf (n : Int) : ByteArray := strOfNums (groups 10 (zig n))
theorem zig_lt {n : Int} (h : -9223372036854775808 ≤ n ∧ n ≤ 9223372036854775807) : zig n < 18446744073709551616 := by unfold zig; split <;> omega
theorem groups_len : ∀ (f u : Nat), (groups f u).length ≤ f
  | 0, _ => by simp [groups]
  | f + 1, u => by
    unfold groups
    split
    · simp only [List.length_cons]; have := groups_len f (u / 128); omega
    · simp
theorem groups_byte : ∀ (f u : Nat), ∀ x ∈ groups f u, 0 ≤ x ∧ x < 256
  | 0, _ => by simp [groups]
  | f + 1, u => by
    unfold groups
    split
    · intro x hx
      rcases List.mem_cons.1 hx with rfl | hx
      · omega
      · exact groups_byte f _ x hx
    · intro x hx
      rw [List.mem_singleton.1 hx]
      omega
theorem putOf_size (n : Int) : (putOf n).size ≤ 10 := by
  rw [← B_len]
  unfold putOf
  rw [B_nums _ (groups_byte _ _), List.length_map]
  exact groups_len 10 _
theorem sput : ∀ (f u : Nat) (acc : List Int), u < 128 ^ f → u < 18446744073709551616 → acc.length + f ≤ 100 → 0 < f → Ev (fun k => spec_PutNum.l0 k (u : Int) acc) (strOfNums (acc ++ groups f u))
  | 0, _, _, _, _, _, h => absurd h (by omega)
  | f + 1, u, acc, hu, hb, hl, _ => by
    by_cases h : 128 ≤ u
    · have hf : 0 < f := by
        rcases Nat.eq_zero_or_pos f with rfl | h'
        · simp at hu; omega
        · exact h'
      have ih := sput f (u / 128) (acc ++ [((u % 128 + 128 : Nat) : Int)]) (by rw [Nat.pow_succ] at hu; exact Nat.div_lt_of_lt_mul (by rw [Nat.mul_comm]; exact hu)) (by omega) (by simp; omega) hf
      rw [List.append_assoc, show [((u % 128 + 128 : Nat) : Int)] ++ groups f (u / 128) = groups (f + 1) u by simp [groups, h]] at ih
      refine Ev.step (fun k => ?_) ih
      simp only [spec_PutNum.l0]
      rw [if_pos (by omega), if_pos (by omega)]
      have e1 : IntKind.u64.wrap (Int.tdiv (u : Int) 128) = ((u / 128 : Nat) : Int) := by
        rw [u64w, Int.tdiv_eq_ediv_of_nonneg (by omega)]; omega
      have e2 : (IntKind.u64.wrap ((Int.tmod (u : Int) 128) + 128)) % 256 = ((u % 128 + 128 : Nat) : Int) := by
        rw [u64w, Int.tmod_eq_emod_of_nonneg (by omega)]; omega
      rw [e1, e2]
    · refine Ev.now' fun k => ?_
      simp only [spec_PutNum.l0]
      rw [if_neg (by omega), if_pos (by omega)]
      have e : (u : Int) % 256 = (u : Int) := by omega
      rw [e]
      simp [groups, h]
theorem sPutNum (n : Int) (h : -9223372036854775808 ≤ n ∧ n ≤ 9223372036854775807) : Ev (fun k => spec_PutNum.f k n) (putOf n) := by
  have hz := zig_lt h
  have e : spec_l01Fold.f n = some ((zig n : Nat) : Int) := by
    unfold spec_l01Fold.f zig
    simp only [u64w]
    split
    · rw [w64 (n := n + 1) (by omega) (by omega), w64 (by omega) (by omega)]
      congr 1
      omega
    · congr 1
      omega
  have h0 := sput 10 (zig n) [] (by omega) hz (by simp) (by omega)
  refine Ev.congr (fun k => ?_) h0
  unfold spec_PutNum.f
  rw [e]
  rfl
theorem or128 : ∀ a : Nat, a < 256 → Go.bits .or .u8 ((a : Nat) : Int) 128 = ((a % 128 + 128 : Nat) : Int) := by
  decide +kernel
theorem iput : ∀ (f u : Nat) (acc : List Int), u < 128 ^ f → u < 18446744073709551616 → acc.length + f ≤ 100 → 0 < f → Ev (fun k => impl_putNum.l0 k (u : Int) acc) (strOfNums (acc ++ groups f u))
  | 0, _, _, _, _, _, h => absurd h (by omega)
  | f + 1, u, acc, hu, hb, hl, _ => by
    by_cases h : 128 ≤ u
    · have hf : 0 < f := by
        rcases Nat.eq_zero_or_pos f with rfl | h'
        · simp at hu; omega
        · exact h'
      have ih := iput f (u / 128) (acc ++ [((u % 128 + 128 : Nat) : Int)]) (by rw [Nat.pow_succ] at hu; exact Nat.div_lt_of_lt_mul (by rw [Nat.mul_comm]; exact hu)) (by omega) (by simp; omega) hf
      rw [List.append_assoc, show [((u % 128 + 128 : Nat) : Int)] ++ groups f (u / 128) = groups (f + 1) u by simp [groups, h]] at ih
      refine Ev.step (fun k => ?_) ih
      simp only [impl_putNum.l0]
      rw [if_pos (by omega), if_pos (by omega)]
      have e1 : (u : Int) / 128 = ((u / 128 : Nat) : Int) := by omega
      have e2 : Go.bits .or .u8 ((u : Int) % 256) 128 = ((u % 128 + 128 : Nat) : Int) := by
        rw [show (u : Int) % 256 = ((u % 256 : Nat) : Int) by omega, or128 _ (by omega)]; omega
      rw [e1, e2]
    · refine Ev.now' fun k => ?_
      simp only [impl_putNum.l0]
      rw [if_neg (by omega), if_pos (by omega)]
      have e : (u : Int) % 256 = (u : Int) := by omega
      rw [e]
      simp [groups, h]
theorem not64 (a : Nat) (h : a < 18446744073709551616) : Go.bits .xor .u64 18446744073709551615 (a : Int) = ((18446744073709551615 - a : Nat) : Int) := by
  show IntKind.u64.wrap (((BitVec.ofInt 64 ((18446744073709551615 : Nat) : Int)) ^^^ (BitVec.ofInt 64 (a : Int))).toNat : Int) = _
  have e : (BitVec.ofNat 64 18446744073709551615) = BitVec.allOnes 64 := by decide
  rw [BitVec.ofInt_natCast, BitVec.ofInt_natCast, e, BitVec.allOnes_xor, BitVec.toNat_not, BitVec.toNat_ofNat, u64w, Nat.mod_eq_of_lt (show a < 2 ^ 64 by omega)]
  omega
theorem iPutNum (n : Int) (h : -9223372036854775808 ≤ n ∧ n ≤ 9223372036854775807) : Ev (fun k => impl_putNum.f k n) (putOf n) := by
  have hz := zig_lt h
  have h0 := iput 10 (zig n) [] (by omega) hz (by simp) (by omega)
  have h1 : Ev (fun k => impl_putNum.j0 k ((zig n : Nat) : Int)) (putOf n) := Ev.step (fun k => by simp only [impl_putNum.j0]) h0
  refine Ev.congr (fun k => ?_) h1
  unfold impl_putNum.f
  simp only [u64w]
  split
  · rw [show (n % 18446744073709551616 * 2) % 18446744073709551616 = ((18446744073709551616 + 2 * n).toNat : Int) by omega, not64 _ (by omega)]
    congr 1
    unfold zig
    rw [if_pos (by omega)]
    omega
  · congr 1
    unfold zig
    rw [if_neg (by omega)]
    omega
theorem B_empty : B (⟨#[]⟩ : ByteArray) = [] := rfl
theorem empty_append (s : ByteArray) : (⟨#[]⟩ : ByteArray) ++ s = s := B_ext (by rw [B_append, B_empty, List.nil_append])
theorem append_assoc' (a b c : ByteArray) : a ++ b ++ c = a ++ (b ++ c) := B_ext (by simp only [B_append, List.append_assoc])
theorem size_append' (a b : ByteArray) : (a ++ b).size = a.size + b.size := by rw [← B_len, B_append, List.length_append, B_len, B_len]
/-- Several numbers' encodings. -/
def putsOf : List Int → ByteArray
  | [] => ⟨#[]⟩
  | n :: l => putOf n ++ putsOf l
theorem putsOf_size : ∀ l : List Int, (putsOf l).size ≤ 10 * l.length
  | [] => by show (0 : Nat) ≤ _; omega
  | n :: l => by
    have := putOf_size n
    have := putsOf_size l
    simp only [putsOf, size_append', List.length_cons]
    omega
theorem iputs (l : List Int) (hw : ∀ n ∈ l, -9223372036854775808 ≤ n ∧ n ≤ 9223372036854775807) (hl : l.length ≤ 1000000) : ∀ (d i : Nat) (acc : ByteArray), l.length - i = d → i ≤ l.length → acc.size ≤ 100000000 * (i + 1) → Ev (fun k => impl_putNums.l0 k acc l (l.length : Int) (i : Int)) (acc ++ putsOf (l.drop i))
  | 0, i, acc, hd, hi, ha => by
    have hb : l.drop i = [] := List.drop_eq_nil_of_le (by omega)
    rw [hb]
    refine Ev.now' fun k => ?_
    simp only [impl_putNums.l0]
    rw [if_neg (by omega)]
    congr 1
    exact (B_ext (by rw [putsOf, B_append, B_empty, List.append_nil])).symm
  | d + 1, i, acc, hd, hi, ha => by
    have hlt : i < l.length := by omega
    have hrd : rd l (i : Int) = l[i] := by simp [rd, List.getD_eq_getElem?_getD, List.getElem?_eq_getElem hlt]
    have hdr : l.drop i = l[i] :: l.drop (i + 1) := List.drop_eq_getElem_cons hlt
    have hp := iPutNum l[i] (hw _ (List.getElem_mem hlt))
    have hs := putOf_size l[i]
    have ih := iputs l hw hl d (i + 1) (acc ++ putOf l[i]) (by omega) (by omega) (by rw [size_append']; omega)
    rw [hdr, putsOf, ← append_assoc']
    refine Ev.step (f := fun k => (impl_putNum.f k l[i]).bind fun t297 => (if acc.size + t297.size ≤ 9223372036854775807 then (impl_putNums.l0 k (acc ++ t297) l (l.length : Int) ((i + 1 : Nat) : Int)) else (none))) (fun k => ?_) (Ev.bind hp (Ev.congr (fun k => ?_) ih))
    · simp only [impl_putNums.l0]
      rw [if_pos (by omega), if_pos (by omega), if_pos (by omega), hrd, show wrap64 ((i : Int) + 1) = ((i + 1 : Nat) : Int) by rw [w64] <;> omega]
    · rw [if_pos (by omega)]
theorem iPutNums (l : List Int) (hw : ∀ n ∈ l, -9223372036854775808 ≤ n ∧ n ≤ 9223372036854775807) (hl : l.length ≤ 1000000) : Ev (fun k => impl_putNums.f k l) (putsOf l) := by
  have h := iputs l hw hl l.length 0 ⟨#[]⟩ (by omega) (by omega) (by show (0 : Nat) ≤ _; omega)
  rw [List.drop_zero, empty_append] at h
  exact Ev.congr (fun k => by unfold impl_putNums.f; rfl) h
def putTextOf (s : ByteArray) : ByteArray := putOf (s.size : Int) ++ s
theorem iPutText (s : ByteArray) (h : s.size ≤ 140737488351232) : Ev (fun k => impl_putText.f k s) (putTextOf s) := by
  have hp := iPutNum (s.size : Int) (by omega)
  have := putOf_size (s.size : Int)
  refine Ev.bind hp (Ev.all fun k => ?_)
  rw [if_pos (by omega)]
  rfl
theorem sPutText (s : ByteArray) (h : s.size ≤ 8000) : Ev (fun k => spec_PutText.f k s) (putTextOf s) := by
  have hp := sPutNum (s.size : Int) (by omega)
  have := putOf_size (s.size : Int)
  refine Ev.congr (f := fun k => (spec_PutNum.f k (s.size : Int)).bind fun t => if t.size + s.size ≤ 9223372036854775807 then some (t ++ s) else none) (fun k => ?_) (Ev.bind hp (Ev.all fun k => ?_))
  · unfold spec_PutText.f
    rw [if_neg (by omega)]
  · rw [if_pos (by omega)]
    rfl
end Go.Proofs.Ytkjljfeneoaojaa.Pure
