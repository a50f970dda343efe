/- What the law FnExactDeedText needs, part 8 of 8: the Lean functions of the Go functions that it reaches, with the proofs that the calls come to what they say, and plain facts about them; the last theorem is the law. Conditions: those that each theorem states. Written by a session and by its programs (after the kit's printer). -/
import Derived.Lib.ItoaNum
import Derived.Lib.Join
import Derived.Test.YtaajcllchbnjiaaDoorRows
import Derived.Test.YtaajcllchbnjiaaDoorCards
import Derived.Test.YtaajcllchbnjiaaDoorTie
import Derived.Carry
import Derived.Handed
import Derived.LaidMore
import Derived.OpenVars
import Derived.OpenShut
import Derived.ProofKit
import Derived.SevenTiedAt
import Derived.MakeChecks
import Derived.Test.YtaajcllchbnjiaaDoorXFnExactDeedText5
import Derived.Test.YtaajcllchbnjiaaDoorXFnExactDeedText6
namespace Go.Proofs.YtaajcllchbnjiaaDoorE
open Go
set_option linter.unusedVariables false
/-- From some fuel on it comes to one value, of which Q is known. -/
def Ev {α : Type} (f : Nat → Option α) (Q : α → Prop) : Prop := ∃ p, Q p ∧ Ever fun k => f k = some p
theorem Ev.bind {α β : Type} {f : Nat → Option α} {g : Nat → α → Option β} {Q : α → Prop} {R : β → Prop} (h : Ev f Q) (k : ∀ p, Q p → Ev (fun k => g k p) R) : Ev (fun k => (f k).bind (g k)) R := by
  obtain ⟨p, hp, e⟩ := h
  obtain ⟨q, hq, e2⟩ := k p hp
  exact ⟨q, hq, (e.and e2).mono fun k h => (congrArg (fun z => Option.bind z (g k)) h.1).trans h.2⟩
theorem Ev.ret {α : Type} {p : α} {Q : α → Prop} (h : Q p) : Ev (fun _ => some p) Q := ⟨p, h, Ever.of fun _ => rfl⟩
theorem Ev.of {α : Type} {x : Option α} {Q : α → Prop} (h : ∃ p, x = some p ∧ Q p) : Ev (fun _ => x) Q := by
  obtain ⟨p, e, h⟩ := h
  exact ⟨p, h, Ever.of fun _ => e⟩
theorem Ev.ever {α : Type} {f : Nat → Option α} {p : α} {Q : α → Prop} (h : Ever fun k => f k = some p) (q : Q p) : Ev f Q := ⟨p, q, h⟩
theorem Ev.mono {α : Type} {f : Nat → Option α} {Q R : α → Prop} (h : Ev f Q) (k : ∀ p, Q p → R p) : Ev f R := by
  obtain ⟨p, hp, e⟩ := h
  exact ⟨p, k p hp, e⟩
theorem Ev.cond {α : Type} {b : Bool} {f g : Nat → Option α} {Q : α → Prop} (h1 : b = true → Ev f Q) (h2 : b = false → Ev g Q) : Ev (fun k => bif b then f k else g k) Q := by
  cases b with
  | true => exact h1 rfl
  | false => exact h2 rfl
/-- A bind that surely has its value. -/
theorem Ev.bnd {α β : Type} {x : Option α} {g : Nat → α → Option β} {R : β → Prop} {p : α} (h : x = some p) (k : Ev (fun k => g k p) R) : Ev (fun k => x.bind (g k)) R := by
  rw [h]
  exact k
theorem loop_ev {S R : Type} (L : Nat → Nat → S → Option R) (m : S → Nat) (I : S → Prop) (Q : R → Prop) (step : ∀ s, I s → (∃ r, (Ever fun k => ∀ j, L k (j + 1) s = some r) ∧ Q r) ∨ ∃ s', I s' ∧ m s' < m s ∧ Ever fun k => ∀ j, L k (j + 1) s = L k j s') : ∀ (n : Nat) (s : S), I s → m s ≤ n → ∃ r, Q r ∧ Ever fun k => ∀ j, n < j → L k j s = some r := by
  intro n
  induction n with
  | zero =>
    intro s hi hm
    rcases step s hi with ⟨r, hr, hq⟩ | ⟨s', _, hm', _⟩
    · refine ⟨r, hq, hr.mono fun k hr j hj => ?_⟩
      obtain ⟨j, rfl⟩ : ∃ q, j = q + 1 := ⟨j - 1, by omega⟩
      exact hr j
    · omega
  | succ n ih =>
    intro s hi hm
    rcases step s hi with ⟨r, hr, hq⟩ | ⟨s', hi', hm', hs⟩
    · refine ⟨r, hq, hr.mono fun k hr j hj => ?_⟩
      obtain ⟨j, rfl⟩ : ∃ q, j = q + 1 := ⟨j - 1, by omega⟩
      exact hr j
    · obtain ⟨r, hq, hr⟩ := ih s' hi' (by omega)
      refine ⟨r, hq, (hr.and hs).mono fun k h j hj => ?_⟩
      obtain ⟨j, rfl⟩ : ∃ q, j = q + 1 := ⟨j - 1, by omega⟩
      rw [h.2 j]
      exact h.1 j (by omega)
theorem Ev.loop {S R : Type} (L : Nat → Nat → S → Option R) (m : S → Nat) (I : S → Prop) (Q : R → Prop) (s : S) (hs : I s) (step : ∀ s, I s → (∃ r, (Ever fun k => ∀ j, L k (j + 1) s = some r) ∧ Q r) ∨ ∃ s', I s' ∧ m s' < m s ∧ Ever fun k => ∀ j, L k (j + 1) s = L k j s') : Ev (fun k => L k k s) Q := by
  obtain ⟨r, hq, K, h⟩ := loop_ev L m I Q step (m s) s hs (Nat.le_refl _)
  exact ⟨r, hq, K + m s + 1, fun k hk => h k (by omega) k (by omega)⟩
end Go.Proofs.YtaajcllchbnjiaaDoorE

namespace Go.Proofs.YtaajcllchbnjiaaDoorE
open Go
set_option linter.unusedVariables false
abbrev DirtyT := Int × Str
abbrev FlashT := List Str × List DirtyT
abbrev MachT := Int × FlashT
theorem szLoop_ev {α : Type} (L : Nat → Int → Int → Option (Int ⊕ Int)) (l : List α) (len : α → Nat) (n : Int) (h0 : 0 ≤ n)
    (hs : ∀ i, (h : i < l.length) → ∀ s, 0 ≤ s → s ≤ n → ∀ j, L (j + 1) s (i : Int) = if s < (len l[i] : Int) then some (.inr (-1)) else L j (s - (len l[i] : Int)) ((i + 1 : Nat) : Int))
    (he : ∀ s j, L (j + 1) s (l.length : Int) = some (.inl s)) : Ev (fun k => L k n 0) fun r => (∃ v, r = .inl v ∧ 0 ≤ v ∧ v ≤ n ∧ ∀ x ∈ l, (len x : Int) ≤ n) ∨ r = .inr (-1) := by
  refine Ev.loop (fun k j (z : Int × Nat) => L j z.1 (z.2 : Int)) (fun z => l.length - z.2) (fun z => 0 ≤ z.1 ∧ z.1 ≤ n ∧ z.2 ≤ l.length ∧ ∀ x ∈ l.take z.2, (len x : Int) ≤ n) _ (n, 0) ⟨h0, Int.le_refl _, Nat.zero_le _, fun x hx => by simp at hx⟩ ?_
  rintro ⟨s, i⟩ ⟨q0, q1, q2, q3⟩
  have q0 : 0 ≤ s := q0
  have q1 : s ≤ n := q1
  have q2 : i ≤ l.length := q2
  by_cases hi : i < l.length
  · by_cases hb : s < (len l[i] : Int)
    · left
      refine ⟨.inr (-1), Ever.of fun k j => ?_, .inr rfl⟩
      show L (j + 1) s (i : Int) = _
      rw [hs i hi s q0 q1, if_pos hb]
    · right
      refine ⟨(s - (len l[i] : Int), i + 1), ⟨by show 0 ≤ s - _; omega, by show s - _ ≤ n; omega, hi, fun x hx => ?_⟩, by show l.length - (i + 1) < l.length - i; omega, Ever.of fun k j => ?_⟩
      · have hx : x ∈ l.take (i + 1) := hx
        rw [take_succ' hi] at hx
        rcases List.mem_append.1 hx with hx | hx
        · exact q3 x hx
        · rw [List.mem_singleton.1 hx]; omega
      · show L (j + 1) s (i : Int) = L j (s - (len l[i] : Int)) ((i + 1 : Nat) : Int)
        rw [hs i hi s q0 q1, if_neg hb]
  · left
    obtain rfl : i = l.length := by omega
    refine ⟨.inl s, Ever.of fun k j => he s j, .inl ⟨s, rfl, q0, q1, fun x hx => q3 x (by rw [List.take_length]; exact hx)⟩⟩
def FlashBig (f : FlashT) : Prop := (f.1.length ≤ 140737488351232 ∧ ∀ x ∈ f.1, x.length ≤ 140737488351232) ∧ f.2.length ≤ 140737488351232 ∧ ∀ x ∈ f.2, x.2.length ≤ 140737488351232
def FlashFit (f : FlashT) (n : Int) : Prop := ((f.1.length : Int) ≤ n ∧ ∀ x ∈ f.1, (x.length : Int) ≤ n) ∧ (f.2.length : Int) ≤ n ∧ ∀ x ∈ f.2, (x.2.length : Int) ≤ n
theorem szInt64S_eq (l : List Int) (n : Int) (hl : l.length ≤ 140737488351232) (h0 : 0 ≤ n) (h1 : n ≤ 1048576) : ∃ v, laws_szInt64S l n = some v ∧ v ≤ n ∧ (0 ≤ v → (l.length : Int) ≤ n) := by
  unfold laws_szInt64S
  rw [w64 (n := n - (l.length : Int)) (by omega) (by omega)]
  dsimp only
  by_cases hc : n - (l.length : Int) < 0
  · rw [decide_eq_true hc]; exact ⟨-1, rfl, by omega, fun h => by omega⟩
  · rw [decide_eq_false hc]; exact ⟨_, rfl, by omega, fun h => by omega⟩
/-! ### copies -/
theorem toInt64S_eq (l : List Int) (hl : l.length ≤ 1048576) : Ever fun k => laws_toInt64S k l = some l := by
  refine Ever.ge (l.length + 1) fun k hk => ?_
  unfold laws_toInt64S
  rw [make_some (by omega)]
  simp only [Option.bind_some]
  rw [copy_loop (fun j i c => laws_toInt64S.l0 j l i c) l (0 : Int) (fun i hi c hc j => by
    show laws_toInt64S.l0 (j + 1) l (i : Int) c = _
    rw [laws_toInt64S.l0, dlt hi, at_nat hi, at_nat (by omega : i < c.length), wsuc (by omega)]
    rfl) (fun c j => by
    show laws_toInt64S.l0 (j + 1) l (l.length : Int) c = _
    unfold laws_toInt64S.l0
    rw [dnlt (Nat.le_refl _)]
    rfl) (k := k) (by omega)]
  rfl
/-! ### comparisons -/
theorem eqInt64S_refl (l : List Int) (hl : l.length ≤ 1048576) : Ever fun k => laws_eqInt64S k l l = some true := by
  have key : Ever fun k => laws_eqInt64S.l0 k l l 0 = some (.inl ()) := by
    refine loop_of (fun j i => laws_eqInt64S.l0 j l l (i : Int)) l.length _ (fun i hi j => ?_) fun j => ?_
    · conv => lhs; unfold laws_eqInt64S.l0
      rw [dlt hi, at_nat hi, wsuc (by omega)]
      simp only [cond_true, Option.bind_some, bne_self_eq_false, cond_false]
    · conv => lhs; unfold laws_eqInt64S.l0
      rw [dnlt (Nat.le_refl _)]
      rfl
  refine key.mono fun k hk => ?_
  unfold laws_eqInt64S
  rw [hk]
  simp
end Go.Proofs.YtaajcllchbnjiaaDoorE

namespace Go.Proofs.YtaajcllchbnjiaaDoorE
open Go
set_option linter.unusedVariables false
theorem beqd (a b : Int) : (a == b) = decide (a = b) := by rw [Bool.eq_iff_iff]; simp
theorem w8u (i : Nat) (h : i < 9223372036854775807) : IntKind.wrap .i64 ((i : Int) + 1) = ((i + 1 : Nat) : Int) := wsuc h
theorem half32 (r : Nat) : shr .u32 (r : Int) 1 = ((r / 2 : Nat) : Int) := shr_nat .u32 r 1 (by decide)
theorem beq_str (s t : Str) : (s == t) = decide (s = t) := by rw [Bool.eq_iff_iff]; simp
end Go.Proofs.YtaajcllchbnjiaaDoorE

namespace Go.Proofs.YtaajcllchbnjiaaDoorE
open Go
set_option linter.unusedVariables false
theorem listByte_byteList (s : Str) : listByte (byteList s) = s := by
  unfold listByte byteList
  rw [List.map_map]
  have : ((fun n : Int => UInt8.ofNat n.toNat) ∘ fun b : UInt8 => (b.toNat : Int)) = id := by
    funext b
    simp
  rw [this, List.map_id]
theorem listByte_app (a b : List Int) : listByte (a ++ b) = listByte a ++ listByte b := by simp [listByte]
theorem byteList_app (a b : Str) : byteList (a ++ b) = byteList a ++ byteList b := by simp [byteList]
theorem byteList_len (s : Str) : (byteList s).length = s.length := by simp [byteList]
/-! ### decimal -/
theorem dec_small {u : Nat} (h : u < 10) : Lib.decDigits u = [UInt8.ofNat (48 + u)] := by
  rw [Lib.decDigits, dif_pos h]
theorem dec_big {u : Nat} (h : ¬ u < 10) : Lib.decDigits u = Lib.decDigits (u / 10) ++ [UInt8.ofNat (48 + u % 10)] := by
  rw [Lib.decDigits, dif_neg h]
theorem dec_len : ∀ (d u : Nat), u < 10 ^ (d + 1) → (Lib.decDigits u).length ≤ d + 1
  | 0, u, h => by
    rw [dec_small (by simpa using h)]
    simp
  | d + 1, u, h => by
    by_cases hu : u < 10
    · rw [dec_small hu]; simp
    · rw [dec_big hu, List.length_append]
      have := dec_len d (u / 10) (by rw [Nat.pow_succ] at h; omega)
      simp
      omega
/-- A number, as it is written: what is below nothing is nothing. -/
def decM (n : Int) : Str := Lib.decDigits n.toNat
theorem decM_len {n : Int} (h : n < 9223372036854775808) : (decM n).length ≤ 20 := dec_len 19 n.toNat (by omega)
theorem iDec (n : Int) (h : n < 9223372036854775808) : impl_decimal n = some (decM n) := by
  have hm : imax 0 n = ((n.toNat : Nat) : Int) := by
    unfold imax
    by_cases h0 : n > 0
    · rw [if_pos h0]; omega
    · rw [if_neg h0]; omega
  unfold impl_decimal strconv_FormatInt int_strconv_FormatInt decM
  rw [hm, if_pos ⟨rfl, by omega, by omega⟩]
  simp only [Option.bind_some]
  unfold Lib.itoa
  rw [if_neg (by omega), Int.toNat_natCast]
theorem sDecL : ∀ (d u : Nat) (acc : Str) (j : Nat), u < 10 ^ d → u < 9223372036854775808 → acc.length + d ≤ 100 → d < j → spec_l01Dec.l0 j (u : Int) acc = some ((if u = 0 then [] else Lib.decDigits u) ++ acc)
  | d, 0, acc, j, _, _, _, hj => by
    obtain ⟨j, rfl⟩ : ∃ q, j = q + 1 := ⟨j - 1, by omega⟩
    unfold spec_l01Dec.l0
    rfl
  | 0, u + 1, acc, j, h, _, _, _ => by simp at h
  | d + 1, u + 1, acc, j, h, h63, ha, hj => by
    obtain ⟨j, rfl⟩ : ∃ q, j = q + 1 := ⟨j - 1, by omega⟩
    generalize hu : u + 1 = v at h h63 ⊢
    have hv : v ≠ 0 := by omega
    have e1 : Int.tmod (v : Int) 10 = ((v % 10 : Nat) : Int) := by rw [Int.tmod_eq_emod_of_nonneg (by omega)]; omega
    have e2 : Int.tdiv (v : Int) 10 = ((v / 10 : Nat) : Int) := by rw [Int.tdiv_eq_ediv_of_nonneg (by omega)]; omega
    have e3 : IntKind.wrap .i64 (48 + ((v % 10 : Nat) : Int)) = ((48 + v % 10 : Nat) : Int) := by rw [w64 (by omega) (by omega)]; omega
    have e4 : IntKind.wrap .u8 ((48 + v % 10 : Nat) : Int) = ((48 + v % 10 : Nat) : Int) := by
      simp [IntKind.wrap, IntKind.bits, IntKind.signed]
      omega
    have e5 : listByte [((48 + v % 10 : Nat) : Int)] = [UInt8.ofNat (48 + v % 10)] := rfl
    rw [spec_l01Dec.l0, show ((v : Int) != 0) = true by simp; omega, e1, e2, e3, e4, e5, decide_eq_false (by omega : ¬ (((v % 10 : Nat) : Int) < 0)), nz_some (by omega), w64 (n := ((v / 10 : Nat) : Int)) (by omega) (by omega)]
    simp only [cond_true, cond_false, Option.bind_some]
    rw [cat_some (by simp; omega)]
    simp only [Option.bind_some]
    rw [sDecL d (v / 10) _ j (by rw [Nat.pow_succ] at h; omega) (by omega) (by simp; omega) (by omega), if_neg hv]
    congr 1
    by_cases h10 : v < 10
    · rw [dec_small h10, if_pos (by omega)]
      rw [Nat.mod_eq_of_lt h10]
      simp
    · rw [dec_big h10, if_neg (by omega)]
      simp
/-! ### hexadecimal -/
def hexD : Str := [48, 49, 50, 51, 52, 53, 54, 55, 56, 57, 97, 98, 99, 100, 101, 102]
def hexP (b : UInt8) : List Int := [((hexD.getD (b.toNat / 16) 0).toNat : Int), ((hexD.getD (b.toNat % 16) 0).toNat : Int)]
theorem hex_hi : ∀ n : Nat, n < 256 → at? hexD (shr .u8 ((n : Nat) : Int) 4) = some (hexD.getD (n / 16) 0) := by decide +kernel
theorem hex_lo : ∀ n : Nat, n < 256 → at? hexD (intBits .and .u8 ((n : Nat) : Int) 15) = some (hexD.getD (n % 16) 0) := by decide +kernel
def hexL (s : Str) : List Int := s.flatMap hexP
theorem hexL_len (s : Str) : (hexL s).length = 2 * s.length := by
  unfold hexL
  induction s with
  | nil => rfl
  | cons b s ih => rw [List.flatMap_cons, List.length_append, ih, List.length_cons]; show 2 + _ = _; omega
def hexM (s : Str) : Str := listByte (hexL s)
theorem hex_loop (L : Nat → Int → List Int → Option (List Int)) (s : Str) (hl : s.length ≤ 1048576)
    (hs : ∀ i, (h : i < s.length) → ∀ acc j, acc.length ≤ 4000000 → L (j + 1) (i : Int) acc = L j ((i + 1 : Nat) : Int) (acc ++ hexP s[i]))
    (he : ∀ acc j, L (j + 1) (s.length : Int) acc = some acc) : ∀ k, s.length < k → L k 0 [] = some (hexL s) := by
  intro k hk
  have key : ∀ (d i : Nat), i + d = s.length → ∀ j, d < j → L j (i : Int) (hexL (s.take i)) = some (hexL s) := by
    intro d
    induction d with
    | zero =>
      intro i hi j hj
      obtain ⟨j, rfl⟩ : ∃ q, j = q + 1 := ⟨j - 1, by omega⟩
      obtain rfl : i = s.length := by omega
      rw [he, List.take_length]
    | succ d ih =>
      intro i hi j hj
      obtain ⟨j, rfl⟩ : ∃ q, j = q + 1 := ⟨j - 1, by omega⟩
      have h : i < s.length := by omega
      rw [hs i h _ j (by rw [hexL_len, List.length_take]; omega)]
      have := ih (i + 1) (by omega) j (by omega)
      rw [take_succ' h] at this
      unfold hexL at this ⊢
      rw [List.flatMap_append] at this
      simpa using this
  exact key s.length 0 (Nat.zero_add _) k hk
theorem byte_lt' (b : UInt8) : b.toNat < 256 := b.toNat_lt
theorem sHex (s : Str) (hl : s.length ≤ 1048576) : ∀ k, s.length < k → spec_l16Hex k s = some (hexM s) := by
  intro k hk
  have run := hex_loop (fun j i acc => spec_l16Hex.l0 j s hexD i acc) s hl (fun i h acc j ha => by
    show spec_l16Hex.l0 (j + 1) s hexD (i : Int) acc = _
    rw [spec_l16Hex.l0, dlt h, at_nat h, nneg_some (by omega), wsuc (by omega)]
    simp only [cond_true, Option.bind_some]
    rw [hex_hi _ (byte_lt' _), hex_lo _ (byte_lt' _)]
    simp only [Option.bind_some]
    rw [app_ok (by simp; omega)]
    rfl) (fun acc j => by
    show spec_l16Hex.l0 (j + 1) s hexD (s.length : Int) acc = _
    unfold spec_l16Hex.l0
    rw [dnlt (Nat.le_refl _)]
    rfl) k hk
  unfold spec_l16Hex
  have run : spec_l16Hex.l0 k s [48, 49, 50, 51, 52, 53, 54, 55, 56, 57, 97, 98, 99, 100, 101, 102] 0 [] = some (hexL s) := run
  rw [run]
  rfl
theorem iHex (s : Str) (hl : s.length ≤ 1048576) : ∀ k, s.length < k → impl_hexText k s = some (hexM s) := by
  intro k hk
  have run := hex_loop (fun j i acc => impl_hexText.l0 j s (s.length : Int) i acc) s hl (fun i h acc j ha => by
    show impl_hexText.l0 (j + 1) s (s.length : Int) (i : Int) acc = _
    rw [impl_hexText.l0, dlt h, at_nat h, nneg_some (by omega), wsuc (by omega)]
    simp only [cond_true, Option.bind_some]
    have e1 := hex_hi _ (byte_lt' s[i])
    have e2 := hex_lo _ (byte_lt' s[i])
    unfold hexD at e1 e2
    rw [e1, e2]
    simp only [Option.bind_some]
    rw [app_ok (by simp; omega)]
    rfl) (fun acc j => by
    show impl_hexText.l0 (j + 1) s (s.length : Int) (s.length : Int) acc = _
    unfold impl_hexText.l0
    rw [dnlt (Nat.le_refl _)]
    rfl) k hk
  unfold impl_hexText
  have run : impl_hexText.l0 k s (s.length : Int) 0 [] = some (hexL s) := run
  rw [run]
  rfl
theorem hexM_len (s : Str) : (hexM s).length = 2 * s.length := by
  unfold hexM
  rw [show (listByte (hexL s)).length = (hexL s).length by simp [listByte], hexL_len]
end Go.Proofs.YtaajcllchbnjiaaDoorE

namespace Go.Proofs.YtaajcllchbnjiaaDoorE
open Go
set_option linter.unusedVariables false
theorem drop_cases (s : Str) (j : Nat) : (s.drop j = [] ∧ s.length ≤ j) ∨ ∃ h : j < s.length, s.drop j = s[j] :: s.drop (j + 1) := by
  by_cases h : j < s.length
  · exact .inr ⟨h, List.drop_eq_getElem_cons h⟩
  · exact .inl ⟨List.drop_eq_nil_of_le (by omega), by omega⟩
section
variable (s : Str) (a : Nat) (ha : a < 9223372036854775000)
include ha
end
end Go.Proofs.YtaajcllchbnjiaaDoorE

namespace Go.Proofs.YtaajcllchbnjiaaDoorE
open Go
set_option linter.unusedVariables false
section
variable (s : Str) (a : Nat) (ha : a < 9223372036854775000)
include ha
end
end Go.Proofs.YtaajcllchbnjiaaDoorE

namespace Go.Proofs.YtaajcllchbnjiaaDoorE
open Go
set_option linter.unusedVariables false
/-- Three numbers and a text from the start of s, and where they end. -/
def quadZ (s : Str) : Option (Int × Int × Int × Str × Nat) :=
  if (numR s 0).2.2.2 = true then none else
  if (numR s (numR s 0).2.2.1.toNat).2.2.2 = true then none else
  if (numR s (numR s (numR s 0).2.2.1.toNat).2.2.1.toNat).2.2.2 = true then none else
  if (textR s (numR s (numR s (numR s 0).2.2.1.toNat).2.2.1.toNat).2.2.1.toNat).2.2.2 = true then none else
  some ((numR s 0).1, (numR s (numR s 0).2.2.1.toNat).1, (numR s (numR s (numR s 0).2.2.1.toNat).2.2.1.toNat).1, (textR s (numR s (numR s (numR s 0).2.2.1.toNat).2.2.1.toNat).2.2.1.toNat).1, (textR s (numR s (numR s (numR s 0).2.2.1.toNat).2.2.1.toNat).2.2.1.toNat).2.2.1.toNat)
theorem head_whole {s : Str} {x y z : Int} {t : Str} {a b c d : Nat} (g1 : Got s 0 x a) (g2 : Got s a y b) (g3 : Got s b z c) (g4 : GotT s c t d) : putOf x ++ putOf y ++ putOf z ++ putTextOf t = s ↔ d = s.length := by
  have e1 := g1.eq
  have e2 := g2.eq
  have e3 := g3.eq
  have e4 := g4.eq
  rw [List.drop_zero] at e1
  constructor
  · intro h
    have h1 := congrArg List.length h
    rw [List.length_append, List.length_append, List.length_append] at h1
    have := g1.at'; have := g2.at'; have := g3.at'; have := g4.at'
    omega
  · rintro rfl
    rw [List.drop_of_length_le (l := s) (i := s.length) (Nat.le_refl _), List.append_nil] at e4
    rw [← e4, List.append_assoc, ← e3, List.append_assoc, ← e2, ← e1]
/-- What was found stands there. -/
theorem quad_got {s : Str} {x y z : Int} {t : Str} {d : Nat} (h : quadZ s = some (x, y, z, t, d)) : ∃ a b c, Got s 0 x a ∧ Got s a y b ∧ Got s b z c ∧ GotT s c t d := by
  unfold quadZ at h
  rcases numR_cases s 0 with ⟨x', a, e1, g1⟩ | e1
  · rw [e1] at h
    simp only [Int.toNat_natCast, Bool.false_eq_true, if_false] at h
    rcases numR_cases s a with ⟨y', b, e2, g2⟩ | e2
    · rw [e2] at h
      simp only [Int.toNat_natCast, Bool.false_eq_true, if_false] at h
      rcases numR_cases s b with ⟨z', c, e3, g3⟩ | e3
      · rw [e3] at h
        simp only [Int.toNat_natCast, Bool.false_eq_true, if_false] at h
        rcases textR_cases s c with ⟨t', d', e4, g4⟩ | e4
        · rw [e4] at h
          simp only [Int.toNat_natCast, Bool.false_eq_true, if_false, Option.some.injEq, Prod.mk.injEq] at h
          obtain ⟨rfl, rfl, rfl, rfl, rfl⟩ := h
          exact ⟨a, b, c, g1, g2, g3, g4⟩
        · rw [e4] at h; simp at h
      · rw [e3] at h; simp at h
    · rw [e2] at h; simp at h
  · rw [e1] at h; simp at h
end Go.Proofs.YtaajcllchbnjiaaDoorE

namespace Go.Proofs.YtaajcllchbnjiaaDoorE
open Go
set_option linter.unusedVariables false
/-- A step is right, for so many blocks. -/
def stepB (k t f : Int) (d : Str) (n : Int) : Bool :=
  if k = 1 then decide (0 ≤ t) && decide (t ≤ n - 1) && decide (f = 0) && (d == [])
  else if k = 2 then decide (0 ≤ t) && decide (t ≤ n - 1) && decide (f = 0) && decide ((d.length : Int) = 8)
  else if k = 3 then decide (0 ≤ t) && decide (t ≤ n - 1) && (decide (0 ≤ f) && decide (f ≤ n - 1)) && (d == [])
  else if k = 4 then decide (0 ≤ t) && decide (t ≤ n - 1) && (decide (0 ≤ f) && decide (f ≤ n - 1)) && decide ((d.length : Int) = 8)
  else if k = 5 then decide (t = 0) && (decide (0 ≤ f) && decide (f ≤ 1000000)) && (d == [])
  else false
theorem sStep (k t f : Int) (d : Str) (n : Int) (h1 : 1 ≤ n) (h2 : n ≤ 8) : spec_StepRight (k, (t, (f, d))) n = some (stepB k t f d n) := by
  unfold spec_StepRight spec_l03Is stepB
  simp only [Option.bind_some]
  rw [w64 (n := n - 1) (by omega) (by omega), decide_eq_true h1, decide_eq_true h2]
  simp only [beqd]
  generalize (decide (0 ≤ t) && decide (t ≤ n - 1)) = P
  generalize (decide (0 ≤ f) && decide (f ≤ n - 1)) = Q
  generalize (decide (0 ≤ f) && decide (f ≤ 1000000)) = R
  generalize (d == ([] : Str)) = E
  generalize decide ((d.length : Int) = 8) = Z
  by_cases c1 : k = 1
  · subst c1; cases P <;> by_cases h : f = 0 <;> simp [h]
  by_cases c2 : k = 2
  · subst c2; cases P <;> by_cases h : f = 0 <;> simp [h]
  by_cases c3 : k = 3
  · subst c3; cases P <;> cases Q <;> simp
  by_cases c4 : k = 4
  · subst c4; cases P <;> cases Q <;> simp
  by_cases c5 : k = 5
  · subst c5; cases R <;> by_cases h : t = 0 <;> simp [h]
  simp [c1, c2, c3, c4, c5]
theorem sStepNo (k t f : Int) (d : Str) (n : Int) (h : ¬ (1 ≤ n ∧ n ≤ 8)) : spec_StepRight (k, (t, (f, d))) n = some false := by
  unfold spec_StepRight spec_l03Is
  simp only [Option.bind_some]
  rw [show (decide (1 ≤ n) && decide (n ≤ 8)) = false by rw [Bool.eq_false_iff, Ne, Bool.and_eq_true, decide_eq_true_eq, decide_eq_true_eq]; exact h]
  rfl
theorem iStep (k t f : Int) (d : Str) (n : Int) (h1 : 1 ≤ n) (h2 : n ≤ 8) : impl_isStep (k, (t, (f, d))) n = some (stepB k t f d n) := by
  have hw : IntKind.wrap .i64 (n - 1) = n - 1 := w64 (by omega) (by omega)
  unfold impl_isStep
  simp only [impl_within, impl_isTime, Option.bind_some, hw, impl_isStep.j0, impl_isStep.j1, stepB, beqd]
  generalize (decide (0 ≤ t) && decide (t ≤ n - 1)) = P
  generalize (decide (0 ≤ f) && decide (f ≤ n - 1)) = Q
  generalize (d == ([] : Str)) = E
  by_cases c1 : k = 1
  · subst c1; cases P <;> by_cases h : f = 0 <;> simp [h]
  by_cases c2 : k = 2
  · subst c2; cases P <;> by_cases h : f = 0 <;> simp [h]
  by_cases c3 : k = 3
  · subst c3; cases P <;> cases Q <;> simp
  by_cases c4 : k = 4
  · subst c4; cases P <;> cases Q <;> simp
  by_cases c5 : k = 5
  · subst c5; cases E <;> by_cases h : t = 0 <;> simp [h]
  have hk : (decide (1 ≤ k) && decide (k ≤ 5)) = false := by
    rw [Bool.eq_false_iff, Ne, Bool.and_eq_true, decide_eq_true_eq, decide_eq_true_eq]; omega
  simp [c1, c2, c3, c4, c5, hk]
theorem stepB_data {k t f : Int} {d : Str} {n : Int} (h : stepB k t f d n = true) : d.length ≤ 8 := by
  unfold stepB at h
  have e : (d == ([] : Str)) = true → d.length ≤ 8 := fun q => by
    rw [beq_str] at q
    rw [of_decide_eq_true q]; simp
  have e8 : decide ((d.length : Int) = 8) = true → d.length ≤ 8 := fun q => by
    have := of_decide_eq_true q; omega
  split at h
  · exact e ((Bool.and_eq_true _ _).mp h).2
  split at h
  · exact e8 ((Bool.and_eq_true _ _).mp h).2
  split at h
  · exact e ((Bool.and_eq_true _ _).mp h).2
  split at h
  · exact e8 ((Bool.and_eq_true _ _).mp h).2
  split at h
  · exact e ((Bool.and_eq_true _ _).mp h).2
  · cases h
/-- A step, read from the body of a text. -/
def stepOf (s : Str) : Option (Int × Int × Int × Str) := match quadZ s with
  | some (x, y, z, t, d) => if d = s.length ∧ stepB x y z t 8 = true then some (x, y, z, t) else none
  | none => none
theorem stepOf_right {s : Str} {x y z : Int} {t : Str} (h : stepOf s = some (x, y, z, t)) : stepB x y z t 8 = true := by
  unfold stepOf at h
  split at h
  · split at h
    · rename_i hq
      cases h
      exact hq.2
    · cases h
  · cases h
theorem empty_ne {s : Str} (h : 1 ≤ s.length) : (([] : Str) == s) = false := by
  cases s with
  | nil => exact absurd h (by simp)
  | cons _ _ => rfl
/-! ### heads -/
def headB (x y z : Int) (t : Str) : Bool := (decide (1 ≤ x) && decide (x ≤ 8)) && ((decide (1 ≤ y) && decide (y ≤ 20)) && ((decide (0 ≤ z) && decide (z ≤ 4)) && decide ((t.length : Int) = 32)))
theorem headB_is {x y z : Int} {t : Str} (h : headB x y z t = true) : (1 ≤ x ∧ x ≤ 8) ∧ (1 ≤ y ∧ y ≤ 20) ∧ (0 ≤ z ∧ z ≤ 4) ∧ t.length = 32 := by
  unfold headB at h
  simp only [Bool.and_eq_true, decide_eq_true_eq] at h
  omega
/-- A head, read from the body of a text: the head, or none. -/
def headOf (s : Str) : Option (Int × Int × Int × Str) := match quadZ s with
  | some (x, y, z, t, d) => if d = s.length ∧ headB x y z t = true then some (x, y, z, t) else none
  | none => none
def headR (s : Str) : Int × Int × Int × Str × Int := if (unsealI s).2 = 0 then match headOf (bodyOf s) with
    | some (x, y, z, t) => (x, y, z, t, 0)
    | none => (0, 0, 0, [], 3) else (0, 0, 0, [], (unsealI s).2)
end Go.Proofs.YtaajcllchbnjiaaDoorE

namespace Go.Proofs.YtaajcllchbnjiaaDoorE
open Go
set_option linter.unusedVariables false
abbrev StepT := Int × Int × Int × Str
def szF (s : Int) (x : StepT) : Int ⊕ (Int ⊕ Int) := if s < (x.2.2.2.length : Int) then .inr (.inr (-1)) else .inl (s - (x.2.2.2.length : Int))
theorem szRun : ∀ (l : List StepT) (s : Int), 0 ≤ s → (∃ v, runL szF (fun s => .inl s) l s = .inl v ∧ 0 ≤ v ∧ v ≤ s ∧ ∀ x ∈ l, (x.2.2.2.length : Int) ≤ s) ∨ runL szF (fun s => .inl s) l s = .inr (-1)
  | [], s, h => .inl ⟨s, rfl, h, Int.le_refl _, fun x hx => nomatch hx⟩
  | x :: l, s, h => by
    by_cases hx : s < (x.2.2.2.length : Int)
    · exact .inr (runL_inr (by unfold szF; rw [if_pos hx]))
    · rw [runL_inl (by unfold szF; rw [if_neg hx])]
      rcases szRun l (s - (x.2.2.2.length : Int)) (by omega) with ⟨v, h1, h2, h3, h4⟩ | h1
      · refine .inl ⟨v, h1, h2, by omega, fun y hy => ?_⟩
        rcases List.mem_cons.1 hy with rfl | hy
        · omega
        · have := h4 y hy; omega
      · exact .inr h1
theorem szStep_eq (x : StepT) (n : Int) (hx : x.2.2.2.length ≤ 140737488351232) (h0 : 0 ≤ n) (h1 : n ≤ 1048576) : laws_szStep x n = some (if n < (x.2.2.2.length : Int) then -1 else n - (x.2.2.2.length : Int)) := by
  unfold laws_szStep
  rw [w64 (by omega) (by omega)]
  by_cases h : n < (x.2.2.2.length : Int)
  · rw [if_pos h]
    dsimp only
    rw [decide_eq_true (by omega : n - (x.2.2.2.length : Int) < 0)]
    rfl
  · rw [if_neg h]
    dsimp only
    rw [decide_eq_false (by omega : ¬ (n - (x.2.2.2.length : Int) < 0))]
    rfl
theorem eqStep_refl (x : StepT) : laws_eqStep x x = some true := by
  unfold laws_eqStep
  simp only [bne_self_eq_false, beq_self_eq_true, Bool.not_true, cond_false]
abbrev PkgT := Int × Str × List StepT
end Go.Proofs.YtaajcllchbnjiaaDoorE

namespace Go.Proofs.YtaajcllchbnjiaaDoorE
open Go
set_option linter.unusedVariables false
/-- A loop that ends at the first place where a test fails. -/
theorem ever_stop {R : Type} (L : Nat → Nat → Nat → Option R) (n : Nat) (p : Nat → Bool) (m : Nat) (r : R) (hm : m ≤ n) (hall : ∀ i, i < m → p i = true) (hs : Ever fun k => ∀ i, i < n → p i = true → ∀ j, L k (j + 1) i = L k j (i + 1))
    (hl : Ever fun k => ∀ j, L k (j + 1) m = some r) : Ever fun k => L k k 0 = some r :=
  ever_loop L m r (hs.mono fun k h i hi => h i (by omega) (hall i hi)) hl
/-- Either all places pass, or there is a first that does not. -/
theorem all_or_first (n : Nat) (p : Nat → Bool) : (∀ i, i < n → p i = true) ∨ ∃ m, m < n ∧ p m = false ∧ ∀ i, i < m → p i = true := by
  induction n with
  | zero => exact .inl fun i hi => absurd hi (Nat.not_lt_zero i)
  | succ n ih =>
    rcases ih with h | ⟨m, h1, h2, h3⟩
    · cases hp : p n with
      | true =>
        refine .inl fun i hi => ?_
        rcases Nat.eq_or_lt_of_le (Nat.le_of_lt_succ hi) with rfl | hi
        · exact hp
        · exact h i hi
      | false => exact .inr ⟨n, Nat.lt_succ_self n, hp, h⟩
    · exact .inr ⟨m, Nat.lt_succ_of_lt h1, h2, h3⟩
theorem all_get {α : Type} {l : List α} {q : α → Bool} : (∀ x ∈ l, q x = true) ↔ ∀ i, (h : i < l.length) → q l[i] = true := by
  constructor
  · exact fun h i hi => h _ (List.getElem_mem hi)
  · intro h x hx
    obtain ⟨i, hi, rfl⟩ := List.getElem_of_mem hx
    exact h i hi
/-- All elements pass, or there is a first that does not. -/
theorem list_first {α : Type} (l : List α) (q : α → Bool) : (l.all q = true) ∨ (l.all q = false ∧ ∃ m, ∃ h : m < l.length, q l[m] = false ∧ ∀ i, (hi : i < m) → q (l[i]'(by omega)) = true) := by
  rcases all_or_first l.length (fun i => match l[i]? with | some x => q x | none => true) with h | ⟨m, h1, h2, h3⟩
  · refine .inl (List.all_eq_true.2 (all_get.2 fun i hi => ?_))
    have := h i hi
    rwa [List.getElem?_eq_getElem hi] at this
  · rw [List.getElem?_eq_getElem h1] at h2
    replace h2 : q l[m] = false := h2
    refine .inr ⟨?_, m, h1, h2, fun i hi => ?_⟩
    · cases ha : l.all q with
      | false => rfl
      | true => rw [List.all_eq_true.1 ha _ (List.getElem_mem h1)] at h2; cases h2
    · have := h3 i hi
      rwa [List.getElem?_eq_getElem (by omega)] at this
/-- A loop that tests all places; where a test fails it leaves with what q says. -/
theorem loop_test {R : Type} (L : Nat → Nat → Option (Unit ⊕ R)) (n : Nat) (p : Nat → Bool) (q : Nat → R) (hs : ∀ i, i < n → p i = true → ∀ j, L (j + 1) i = L j (i + 1)) (hf : ∀ i, i < n → p i = false → ∀ j, L (j + 1) i = some (.inr (q i))) (he : ∀ j, L (j + 1) n = some (.inl ())) :
    ((List.range n).all p = true ∧ ∀ k, n < k → L k 0 = some (.inl ())) ∨ ((List.range n).all p = false ∧ ∃ i, i < n ∧ p i = false ∧ ∀ k, n < k → L k 0 = some (.inr (q i))) := by
  rcases all_or_first n p with h | ⟨m, h1, h2, h3⟩
  · refine .inl ⟨List.all_eq_true.2 fun i hi => h i (List.mem_range.1 hi), loop_at L n _ (fun i hi => hs i hi (h i hi)) he⟩
  · refine .inr ⟨?_, m, h1, h2, fun k hk => loop_at L m _ (fun i hi => hs i (by omega) (h3 i hi)) (hf m h1 h2) k (by omega)⟩
    cases ha : (List.range n).all p with
    | false => rfl
    | true => rw [List.all_eq_true.1 ha m (List.mem_range.2 h1)] at h2; cases h2
end Go.Proofs.YtaajcllchbnjiaaDoorE

namespace Go.Proofs.YtaajcllchbnjiaaDoorE
open Go
set_option linter.unusedVariables false
abbrev CmdT := Int × Int × Int × Str × StepT
abbrev DeedT := CmdT × Int × List Int × List Int
/-! ### tests -/
def zeroStep (s : StepT) : Bool := decide (s.1 = 0) && (decide (s.2.1 = 0) && (decide (s.2.2.1 = 0) && (s.2.2.2 == [])))
def cmdB (c : CmdT) : Bool :=
  if c.1 = 1 then (decide (1 ≤ c.2.1) && decide (c.2.1 ≤ 20)) && (decide (0 ≤ c.2.2.1) && decide (c.2.2.1 ≤ 4)) && decide ((c.2.2.2.1.length : Int) = 32) && zeroStep c.2.2.2.2
  else if c.1 = 2 then decide (c.2.1 = 0) && decide (c.2.2.1 = 0) && (c.2.2.2.1 == []) && stepB c.2.2.2.2.1 c.2.2.2.2.2.1 c.2.2.2.2.2.2.1 c.2.2.2.2.2.2.2 8
  else if c.1 = 9 then (decide (1 ≤ c.2.1) && decide (c.2.1 ≤ 24)) && decide (c.2.2.1 = 0) && (c.2.2.2.1 == []) && zeroStep c.2.2.2.2
  else if c.1 = 7 then (decide (0 ≤ c.2.1) && decide (c.2.1 ≤ 1000000)) && decide (c.2.2.1 = 0) && (c.2.2.2.1 == []) && zeroStep c.2.2.2.2
  else (decide (1 ≤ c.1) && decide (c.1 ≤ 11)) && decide (c.2.1 = 0) && decide (c.2.2.1 = 0) && (c.2.2.2.1 == []) && zeroStep c.2.2.2.2
theorem iCmd (c : CmdT) : impl_isCmd c = some (cmdB c) := by
  obtain ⟨o, a, b, t, s⟩ := c
  have hs : impl_isStep s 8 = some (stepB s.1 s.2.1 s.2.2.1 s.2.2.2 8) := iStep s.1 s.2.1 s.2.2.1 s.2.2.2 8 (by decide) (by decide)
  unfold impl_isCmd cmdB zeroStep
  simp only [impl_within, impl_isTime, Option.bind_some, hs, beqd]
  generalize (decide (s.1 = 0) && (decide (s.2.1 = 0) && (decide (s.2.2.1 = 0) && (s.2.2.2 == [])))) = Z
  generalize (t == ([] : Str)) = E
  generalize stepB s.1 s.2.1 s.2.2.1 s.2.2.2 8 = S
  by_cases c1 : o = 1
  · subst c1; simp
  by_cases c2 : o = 2
  · subst c2; simp
  by_cases c9 : o = 9
  · subst c9; simp
  by_cases c7 : o = 7
  · subst c7; simp
  simp [c1, c2, c9, c7]
theorem sCmd (c : CmdT) : spec_CmdRight c = some (cmdB c) := by
  obtain ⟨o, a, b, t, s⟩ := c
  have hs : spec_StepRight s 8 = some (stepB s.1 s.2.1 s.2.2.1 s.2.2.2 8) := sStep s.1 s.2.1 s.2.2.1 s.2.2.2 8 (by decide) (by decide)
  unfold spec_CmdRight cmdB zeroStep
  simp only [spec_l03Is, Option.bind_some, hs, bne, beqd]
  generalize (decide (s.1 = 0) && (decide (s.2.1 = 0) && (decide (s.2.2.1 = 0) && (s.2.2.2 == [])))) = Z
  generalize (t == ([] : Str)) = E
  generalize stepB s.1 s.2.1 s.2.2.1 s.2.2.2 8 = S
  generalize decide ((t.length : Int) = 32) = W
  by_cases c1 : o = 1
  · subst c1
    generalize (decide (1 ≤ a) && decide (a ≤ 20)) = P
    generalize (decide (0 ≤ b) && decide (b ≤ 4)) = Q
    cases P <;> cases Q <;> cases W <;> cases Z <;> simp
  by_cases c2 : o = 2
  · subst c2
    generalize decide (a = 0) = P
    generalize decide (b = 0) = Q
    cases P <;> cases Q <;> cases E <;> cases S <;> simp
  by_cases c9 : o = 9
  · subst c9
    generalize (decide (1 ≤ a) && decide (a ≤ 24)) = P
    generalize decide (b = 0) = Q
    cases P <;> cases Q <;> cases E <;> cases Z <;> simp
  by_cases c7 : o = 7
  · subst c7
    generalize (decide (0 ≤ a) && decide (a ≤ 1000000)) = P
    generalize decide (b = 0) = Q
    cases P <;> cases Q <;> cases E <;> cases Z <;> simp
  simp only [decide_eq_false c1, decide_eq_false c2, decide_eq_false c9, decide_eq_false c7, if_neg c1, if_neg c2, if_neg c9, if_neg c7]
  generalize decide (a = 0) = P
  generalize decide (b = 0) = Q
  generalize (decide (1 ≤ o) && decide (o ≤ 11)) = R
  cases P <;> cases Q <;> cases E <;> cases Z <;> cases R <;> simp
def numsB (l : List Int) (m : Nat) (h : Int) : Bool := decide (l.length ≤ m) && !(l.any fun x => !(decide (0 ≤ x) && decide (x ≤ h)))
theorem sNums (l : List Int) (m : Nat) (h : Int) {k : Nat} (hk : l.length < k) (hm : m ≤ 1000) : spec_l16Nums k l (m : Int) h = some (numsB l m h) := by
  unfold spec_l16Nums numsB
  by_cases c : m < l.length
  · rw [dlt c, decide_eq_false (by omega : ¬ l.length ≤ m)]
    rfl
  · rw [dnlt (by omega), decide_eq_true (by omega : l.length ≤ m)]
    have run := loop_find (fun j i => spec_l16Nums.l0 j l h i) l (fun x => !(decide (0 ≤ x) && decide (x ≤ h))) (.inl ()) (fun _ => .inr false) (fun i hi => by
      refine ⟨fun hp j => ?_, fun hp j => ?_⟩
      · show spec_l16Nums.l0 (j + 1) l h (i : Int) = spec_l16Nums.l0 j l h ((i + 1 : Nat) : Int)
        rw [spec_l16Nums.l0, dlt hi, at_nat hi, wsuc (by omega)]
        simp only [cond_true, Option.bind_some, spec_l03Is]
        rw [hp]
        rfl
      · show spec_l16Nums.l0 (j + 1) l h (i : Int) = some (.inr false)
        rw [spec_l16Nums.l0, dlt hi, at_nat hi]
        simp only [cond_true, Option.bind_some, spec_l03Is]
        rw [hp]
        rfl) (fun j => by
      show spec_l16Nums.l0 (j + 1) l h (l.length : Int) = some (.inl ())
      rw [spec_l16Nums.l0, dnlt (Nat.le_refl _)]
      rfl) hk
    have run : spec_l16Nums.l0 k l h 0 = _ := run
    rw [run, ← firstI_any (n := 0)]
    cases firstI (fun x => !(decide (0 ≤ x) && decide (x ≤ h))) l 0 <;> rfl
theorem iNums1 (l : List Int) {k : Nat} (hk : l.length < k) (hl : l.length ≤ 1000) : slices_ContainsFunc_int64_isDeed_1 k l = some (l.any fun x => !(decide (0 ≤ x) && decide (x ≤ 200))) := by
  unfold slices_ContainsFunc_int64_isDeed_1 slices_IndexFunc_int64_isDeed_1
  have run := loop_find (fun j i => slices_IndexFunc_int64_isDeed_1.l0 j l (l.length : Int) i) l (fun x => !(decide (0 ≤ x) && decide (x ≤ 200))) (.inl ()) (fun i => .inr (i : Int)) (fun i hi => by
    refine ⟨fun hp j => ?_, fun hp j => ?_⟩
    · show slices_IndexFunc_int64_isDeed_1.l0 (j + 1) l (l.length : Int) (i : Int) = slices_IndexFunc_int64_isDeed_1.l0 j l (l.length : Int) ((i + 1 : Nat) : Int)
      rw [slices_IndexFunc_int64_isDeed_1.l0, dlt hi, at_nat hi, wsuc (by omega)]
      simp only [cond_true, Option.bind_some, impl_isDeed_1, impl_within]
      rw [hp]
      rfl
    · show slices_IndexFunc_int64_isDeed_1.l0 (j + 1) l (l.length : Int) (i : Int) = some (.inr (i : Int))
      rw [slices_IndexFunc_int64_isDeed_1.l0, dlt hi, at_nat hi]
      simp only [cond_true, Option.bind_some, impl_isDeed_1, impl_within]
      rw [hp]
      rfl) (fun j => by
    show slices_IndexFunc_int64_isDeed_1.l0 (j + 1) l (l.length : Int) (l.length : Int) = some (.inl ())
    rw [slices_IndexFunc_int64_isDeed_1.l0, dnlt (Nat.le_refl _)]
    rfl) hk
  have run : slices_IndexFunc_int64_isDeed_1.l0 k l (l.length : Int) 0 = _ := run
  rw [run, ← firstI_any (n := 0)]
  cases firstI (fun x => !(decide (0 ≤ x) && decide (x ≤ 200))) l 0 with
  | none => rfl
  | some i =>
    simp only [Option.bind_some]
    rw [decide_eq_true (by omega : (0 : Int) ≤ (i : Int))]
    rfl
theorem iNums2 (l : List Int) {k : Nat} (hk : l.length < k) (hl : l.length ≤ 1000) : slices_ContainsFunc_int64_isDeed_2 k l = some (l.any fun x => !(decide (0 ≤ x) && decide (x ≤ 50))) := by
  unfold slices_ContainsFunc_int64_isDeed_2 slices_IndexFunc_int64_isDeed_2
  have run := loop_find (fun j i => slices_IndexFunc_int64_isDeed_2.l0 j l (l.length : Int) i) l (fun x => !(decide (0 ≤ x) && decide (x ≤ 50))) (.inl ()) (fun i => .inr (i : Int)) (fun i hi => by
    refine ⟨fun hp j => ?_, fun hp j => ?_⟩
    · show slices_IndexFunc_int64_isDeed_2.l0 (j + 1) l (l.length : Int) (i : Int) = slices_IndexFunc_int64_isDeed_2.l0 j l (l.length : Int) ((i + 1 : Nat) : Int)
      rw [slices_IndexFunc_int64_isDeed_2.l0, dlt hi, at_nat hi, wsuc (by omega)]
      simp only [cond_true, Option.bind_some, impl_isDeed_2, impl_within]
      rw [hp]
      rfl
    · show slices_IndexFunc_int64_isDeed_2.l0 (j + 1) l (l.length : Int) (i : Int) = some (.inr (i : Int))
      rw [slices_IndexFunc_int64_isDeed_2.l0, dlt hi, at_nat hi]
      simp only [cond_true, Option.bind_some, impl_isDeed_2, impl_within]
      rw [hp]
      rfl) (fun j => by
    show slices_IndexFunc_int64_isDeed_2.l0 (j + 1) l (l.length : Int) (l.length : Int) = some (.inl ())
    rw [slices_IndexFunc_int64_isDeed_2.l0, dnlt (Nat.le_refl _)]
    rfl) hk
  have run : slices_IndexFunc_int64_isDeed_2.l0 k l (l.length : Int) 0 = _ := run
  rw [run, ← firstI_any (n := 0)]
  cases firstI (fun x => !(decide (0 ≤ x) && decide (x ≤ 50))) l 0 with
  | none => rfl
  | some i =>
    simp only [Option.bind_some]
    rw [decide_eq_true (by omega : (0 : Int) ≤ (i : Int))]
    rfl
def deedB (d : DeedT) : Bool := cmdB d.1 && (decide (-1 ≤ d.2.1) && decide (d.2.1 ≤ 50)) && numsB d.2.2.1 40 200 && numsB d.2.2.2 5 50 && (decide (0 ≤ d.2.1) || (decide (d.2.2.1.length = 0) && decide (d.2.2.2.length = 0)))
theorem sDeed (d : DeedT) {k : Nat} (h1 : d.2.2.1.length < k) (h2 : d.2.2.2.length < k) : spec_DeedRight k d = some (deedB d) := by
  unfold spec_DeedRight deedB
  have e1 : spec_l16Nums k d.2.2.1 40 200 = some (numsB d.2.2.1 40 200) := sNums d.2.2.1 40 200 h1 (by omega)
  have e2 : spec_l16Nums k d.2.2.2 5 50 = some (numsB d.2.2.2 5 50) := sNums d.2.2.2 5 50 h2 (by omega)
  rw [sCmd, e1, e2]
  simp only [Option.bind_some, spec_l03Is, beqd]
  rw [show decide ((d.2.2.1.length : Int) = 0) = decide (d.2.2.1.length = 0) from decide_eq_decide.2 (by omega), show decide ((d.2.2.2.length : Int) = 0) = decide (d.2.2.2.length = 0) from decide_eq_decide.2 (by omega)]
  cases cmdB d.1 <;> cases (decide (-1 ≤ d.2.1) && decide (d.2.1 ≤ 50)) <;> cases numsB d.2.2.1 40 200 <;> cases numsB d.2.2.2 5 50 <;> rfl
theorem iDeed (d : DeedT) {k : Nat} (h1 : d.2.2.1.length < k) (h2 : d.2.2.2.length < k) (hb1 : d.2.2.1.length ≤ 1048576) (hb2 : d.2.2.2.length ≤ 1048576) : impl_isDeed k d = some (deedB d) := by
  unfold impl_isDeed deedB
  rw [iCmd]
  simp only [Option.bind_some, impl_within]
  rw [show IntKind.wrap .i64 ((d.2.2.1.length : Int) + (d.2.2.2.length : Int)) = (d.2.2.1.length : Int) + (d.2.2.2.length : Int) from w64 (by omega) (by omega)]
  cases cmdB d.1 with
  | false => rfl
  | true =>
  simp only [Bool.not_true, cond_false]
  unfold numsB
  cases (decide (-1 ≤ d.2.1) && decide (d.2.1 ≤ 50)) with
  | false => rfl
  | true =>
  by_cases c1 : d.2.2.1.length ≤ 40
  · by_cases c2 : d.2.2.2.length ≤ 5
    · rw [decide_eq_false (by omega : ¬ (40 : Int) < (d.2.2.1.length : Int)), decide_eq_false (by omega : ¬ (5 : Int) < (d.2.2.2.length : Int)), decide_eq_true c1, decide_eq_true c2, iNums1 _ h1 (by omega), iNums2 _ h2 (by omega)]
      simp only [Option.bind_some]
      have e : (decide (0 ≤ d.2.1) || (decide (d.2.2.1.length = 0) && decide (d.2.2.2.length = 0))) = !(decide (d.2.1 < 0) && decide (0 < (d.2.2.1.length : Int) + (d.2.2.2.length : Int))) := by
        rw [Bool.eq_iff_iff]
        simp only [Bool.or_eq_true, Bool.and_eq_true, decide_eq_true_eq, Bool.not_eq_true', Bool.and_eq_false_iff, decide_eq_false_iff_not]
        omega
      rw [e]
      cases (decide (d.2.1 < 0) && decide (0 < (d.2.2.1.length : Int) + (d.2.2.2.length : Int))) <;> cases (d.2.2.1.any fun x => !(decide (0 ≤ x) && decide (x ≤ 200))) <;> cases (d.2.2.2.any fun x => !(decide (0 ≤ x) && decide (x ≤ 50))) <;> rfl
    · rw [decide_eq_true (by omega : (5 : Int) < (d.2.2.2.length : Int)), decide_eq_false c2]
      simp
  · rw [decide_eq_true (by omega : (40 : Int) < (d.2.2.1.length : Int)), decide_eq_false c1]
    simp
/-! ### numbers -/
theorem sDec1 (n : Int) (h0 : 0 ≤ n) (h : n < 9223372036854775808) {k : Nat} (hk : 30 ≤ k) : spec_l01Dec k n = some (decM n) := by
  unfold decM
  obtain ⟨u, rfl⟩ : ∃ u : Nat, n = (u : Int) := ⟨n.toNat, by omega⟩
  rw [Int.toNat_natCast]
  have hu2 : u < 9223372036854775808 := by omega
  unfold spec_l01Dec
  by_cases h0 : u = 0
  · subst h0
    rw [dec_small (by omega : 0 < 10)]
    rfl
  · rw [show ((u : Int) == 0) = false by rw [beqd]; exact decide_eq_false (by omega)]
    simp only [cond_false]
    rw [sDecL 20 u [] k (by omega) hu2 (by simp) (by omega), if_neg h0]
    simp only [Option.bind_some, List.append_nil]
    rw [decide_eq_false (by omega : ¬ ((u : Int) < 0))]
    rfl
theorem decM_ne (n : Int) : decM n ≠ [] := by
  unfold decM
  by_cases h : n.toNat < 10
  · rw [dec_small h]; simp
  · rw [dec_big h]; simp
theorem flatB (B : Nat) : ∀ (l : List Str), (∀ x ∈ l, x.length ≤ B) → l.flatten.length ≤ B * l.length
  | [], _ => Nat.le_refl _
  | x :: l, h => by
    have := h x List.mem_cons_self
    have := flatB B l fun y hy => h y (List.mem_cons_of_mem _ hy)
    rw [List.flatten_cons, List.length_append, List.length_cons, Nat.mul_succ]
    omega
def numsM (l : List Int) : Str := if l = [] then [45] else Lib.join (l.map decM) [44]
theorem join_len (l : List Int) (h : ∀ n ∈ l, n < 9223372036854775808) : (Lib.join (l.map decM) [44]).length ≤ 21 * l.length := by
  cases l with
  | nil => exact Nat.le_refl _
  | cons x r =>
    rw [List.map_cons, Lib.join_cons]
    unfold Lib.joinTail
    have h1 := decM_len (h x List.mem_cons_self)
    have h2 := flatB 21 ((r.map decM).map ([44] ++ ·)) (fun y hy => by
      obtain ⟨z, hz, rfl⟩ := List.mem_map.1 hy
      obtain ⟨n, hn, rfl⟩ := List.mem_map.1 hz
      have := decM_len (h n (List.mem_cons_of_mem _ hn))
      simp
      omega)
    rw [List.length_map, List.length_map] at h2
    rw [List.length_append, List.length_cons]
    refine Nat.le_trans (Nat.add_le_add h1 h2) ?_
    omega
theorem numsM_len (l : List Int) (h : ∀ n ∈ l, n < 9223372036854775808) : (numsM l).length ≤ 21 * l.length + 1 := by
  unfold numsM
  split
  · simp
  · have := join_len l h; omega
theorem iCommas (l : List Int) (h : ∀ n ∈ l, n < 9223372036854775808) (hl : l.length ≤ 1000) {k : Nat} (hk : l.length < k) : impl_commas k l = some (numsM l) := by
  unfold impl_commas numsM
  by_cases c : l = []
  · subst c; rfl
  · have hlen : l.length ≠ 0 := fun e => c (List.eq_nil_of_length_eq_zero e)
    rw [if_neg c, beqd, decide_eq_false (by omega : ¬ (l.length : Int) = 0), make_some (by omega)]
    simp only [cond_false, Option.bind_some]
    have run : impl_commas.l0 k l (l.length : Int) 0 (List.replicate l.length []) = some (l.map decM) := by
      have := loop_at (fun j i => impl_commas.l0 j l (l.length : Int) (i : Int) ((l.take i).map decM ++ List.replicate (l.length - i) [])) l.length (l.map decM) (fun i hi j => by
        show impl_commas.l0 (j + 1) l (l.length : Int) (i : Int) _ = impl_commas.l0 j l (l.length : Int) ((i + 1 : Nat) : Int) _
        have hlen := fill_len (l := l) (f := decM) (z := ([] : Str)) (i := i) (by omega)
        rw [impl_commas.l0, dlt hi, at_nat hi, wsuc (by omega)]
        simp only [cond_true, Option.bind_some]
        rw [iDec _ (h _ (List.getElem_mem hi)), at_nat (by rw [hlen]; exact hi)]
        simp only [Option.bind_some]
        rw [Int.toNat_natCast, fill_set hi]) (fun j => by
        show impl_commas.l0 (j + 1) l (l.length : Int) (l.length : Int) _ = _
        rw [impl_commas.l0, dnlt (Nat.le_refl _), List.take_length, Nat.sub_self]
        simp) k hk
      simpa using this
    rw [run]
    simp only [Option.bind_some]
    unfold strings_Join
    have := join_len l h
    rw [if_pos ⟨by rw [List.length_map]; omega, by omega⟩]
    rfl
theorem sCommas (l : List Int) (h : ∀ n ∈ l, 0 ≤ n ∧ n < 9223372036854775808) (hl : l.length ≤ 1000) {k : Nat} (hk : l.length + 30 < k) : spec_l17Nums k l = some (numsM l) := by
  unfold spec_l17Nums numsM
  cases l with
  | nil =>
    obtain ⟨k, rfl⟩ : ∃ q, k = q + 1 := ⟨k - 1, by omega⟩
    rfl
  | cons x r =>
    have hx := h x List.mem_cons_self
    have key : ∀ (d i : Nat) (acc : Str), i + d = r.length → acc.length + 21 * d ≤ 100000 → ∀ j, d < j → spec_l17Nums.l0 k j (x :: r) acc ((i + 1 : Nat) : Int) = some (acc ++ Lib.joinTail [44] ((r.drop i).map decM)) := by
      intro d
      induction d with
      | zero =>
        intro i acc hi hacc j hj
        obtain ⟨j, rfl⟩ : ∃ q, j = q + 1 := ⟨j - 1, by omega⟩
        obtain rfl : i = r.length := by omega
        rw [spec_l17Nums.l0, dnlt (by simp), List.drop_length]
        simp [Lib.joinTail]
      | succ d ih =>
        intro i acc hi hacc j hj
        obtain ⟨j, rfl⟩ : ∃ q, j = q + 1 := ⟨j - 1, by omega⟩
        have hir : i < r.length := by omega
        have hil : i + 1 < (x :: r).length := by simp; omega
        have hy := h r[i] (List.mem_cons_of_mem _ (List.getElem_mem hir))
        have hd := decM_len hy.2
        rw [Nat.mul_succ] at hacc
        rw [spec_l17Nums.l0, dlt hil, decide_eq_true (by omega : (0 : Int) < ((i + 1 : Nat) : Int)), at_nat hil, wsuc (by simp at hl; omega)]
        simp only [cond_true]
        rw [cat_some (by simp; omega)]
        simp only [Option.bind_some, List.getElem_cons_succ]
        rw [sDec1 _ hy.1 hy.2 (by omega)]
        simp only [Option.bind_some]
        rw [cat_some (by simp; omega)]
        simp only [Option.bind_some]
        rw [ih (i + 1) _ (by omega) (by simp; omega) j (by omega), List.drop_eq_getElem_cons hir]
        simp only [Lib.joinTail, List.map_cons, List.flatten_cons, List.append_assoc]
    have run : spec_l17Nums.l0 k k (x :: r) [] 0 = some (Lib.join ((x :: r).map decM) [44]) := by
      obtain ⟨j, hj⟩ : ∃ q, k = q + 1 := ⟨k - 1, by omega⟩
      have hlen : (x :: r).length = r.length + 1 := rfl
      have := key r.length 0 (decM x) (by omega) (by have := decM_len hx.2; omega) j (by omega)
      rw [List.map_cons, Lib.join_cons]
      rw [List.drop_zero] at this
      rw [← this]
      conv => lhs; rw [show spec_l17Nums.l0 k k (x :: r) [] 0 = spec_l17Nums.l0 k (j + 1) (x :: r) [] ((0 : Nat) : Int) by rw [← hj]; rfl]
      rw [spec_l17Nums.l0, dlt (by simp), decide_eq_false (by omega : ¬ (0 : Int) < ((0 : Nat) : Int)), at_nat (by simp), wsuc (by omega)]
      simp only [cond_true, cond_false, Option.bind_some, List.getElem_cons_zero]
      rw [sDec1 _ hx.1 hx.2 (by omega)]
      simp only [Option.bind_some]
      rw [cat_some (by have := decM_len hx.2; simp; omega)]
      simp only [Option.bind_some, List.nil_append]
    rw [run, if_neg (by simp)]
    simp only [Option.bind_some]
    have hne : (Lib.join ((x :: r).map decM) [44] == []) = false := by
      rw [List.map_cons, Lib.join_cons]
      have := decM_ne x
      cases h : decM x with
      | nil => exact absurd h this
      | cons _ _ => rfl
    rw [hne]
    rfl
end Go.Proofs.YtaajcllchbnjiaaDoorE

namespace Go.Proofs.YtaajcllchbnjiaaDoorE
open Go
def laws_FnExactDeedText.Pure : Prop := ∀ (y0 : G48), Bnd T48 y0 → ∃ k : Nat, laws_FnExactDeedText k y0 = some true
end Go.Proofs.YtaajcllchbnjiaaDoorE

namespace Go.Proofs.YtaajcllchbnjiaaDoorE
open Go
set_option linter.unusedVariables false
/-! ### letters -/
def letM (t : Str) : Str := match t with
  | [] => []
  | c :: r => if (c :: r).length = 8 ∧ 97 ≤ c.toNat ∧ c.toNat ≤ 122 ∧ (c :: r).count c = 8 then [c] else []
theorem letM_len (t : Str) : (letM t).length ≤ 1 := by
  unfold letM
  split
  · simp
  · split <;> simp
theorem bneF {a b : Int} (h : a = b) : (a != b) = false := by rw [bne, beqd, decide_eq_true h]; rfl
theorem bneT {a b : Int} (h : ¬ a = b) : (a != b) = true := by rw [bne, beqd, decide_eq_false h]; rfl
theorem cons_of {t : Str} (h : t.length = 8) : ∃ c r, t = c :: r := by
  cases t with
  | nil => simp at h
  | cons c r => exact ⟨c, r, rfl⟩
theorem cut01 (c : UInt8) (r : Str) : cut? (c :: r) 0 1 = some [c] := by
  have := cut_ok (l := c :: r) (i := 0) (j := 1) (by omega) (by simp)
  simpa using this
theorem at0 (c : UInt8) (r : Str) : at? (c :: r) 0 = some c := at_nat (l := c :: r) (i := 0) (by simp)
theorem iLetter (t : Str) : impl_letterOf t = some (letM t) := by
  unfold impl_letterOf
  by_cases h8 : t.length = 8
  · obtain ⟨c, r, rfl⟩ := cons_of h8
    have hl : letM (c :: r) = if (c :: r).length = 8 ∧ 97 ≤ c.toNat ∧ c.toNat ≤ 122 ∧ (c :: r).count c = 8 then [c] else [] := rfl
    rw [bneF (by rw [h8]; rfl), at0, cut01, hl]
    simp only [cond_false, Option.bind_some]
    by_cases a1 : (c.toNat : Int) < 97
    · rw [decide_eq_true a1, if_neg (by omega)]; rfl
    · by_cases a2 : (122 : Int) < (c.toNat : Int)
      · rw [decide_eq_false a1, decide_eq_true a2, if_neg (by omega)]; rfl
      · rw [decide_eq_false a1, decide_eq_false a2]
        have hc : strings_Count (c :: r) [c] = some (((c :: r).count c : Nat) : Int) := rfl
        rw [hc]
        simp only [cond_false, Option.bind_some]
        by_cases a3 : (c :: r).count c = 8
        · rw [bneF (by omega), if_pos ⟨h8, by omega, by omega, a3⟩]; rfl
        · rw [bneT (by omega), if_neg (fun h => a3 h.2.2.2)]; rfl
  · rw [bneT (by omega)]
    simp only [cond_true]
    cases t with
    | nil => rfl
    | cons c r =>
      have hl : letM (c :: r) = if (c :: r).length = 8 ∧ 97 ≤ c.toNat ∧ c.toNat ≤ 122 ∧ (c :: r).count c = 8 then [c] else [] := rfl
      rw [hl, if_neg (fun h => h8 h.1)]
def letN (t : Str) : Int := match letM t with
  | [] => 0
  | c :: _ => (c.toNat : Int)
theorem sLetter (t : Str) {k : Nat} (hk : 10 ≤ k) : spec_l17Letter k t = some (letN t) := by
  unfold spec_l17Letter letN
  by_cases h8 : t.length = 8
  · obtain ⟨c, r, rfl⟩ := cons_of h8
    have hl : letM (c :: r) = if (c :: r).length = 8 ∧ 97 ≤ c.toNat ∧ c.toNat ≤ 122 ∧ (c :: r).count c = 8 then [c] else [] := rfl
    have key : ∀ (d i : Nat), i + d = 8 → ∀ j, d < j → spec_l17Letter.l0 j (c :: r) (i : Int) = some (if ((c :: r).drop i).all (fun x => x == c) = true then .inl () else .inr 0) := by
      intro d
      induction d with
      | zero =>
        intro i hi j hj
        obtain ⟨j, rfl⟩ : ∃ q, j = q + 1 := ⟨j - 1, by omega⟩
        obtain rfl : i = 8 := by omega
        rw [spec_l17Letter.l0, List.drop_eq_nil_of_le (by omega)]
        rfl
      | succ d ih =>
        intro i hi j hj
        obtain ⟨j, rfl⟩ : ∃ q, j = q + 1 := ⟨j - 1, by omega⟩
        have hil : i < (c :: r).length := by omega
        rw [spec_l17Letter.l0, decide_eq_true (by omega : (i : Int) < 8), at_nat hil, at0, wsuc (by omega), List.drop_eq_getElem_cons hil, List.all_cons]
        simp only [cond_true, Option.bind_some]
        by_cases e : (c :: r)[i] = c
        · rw [bneF (by rw [e]), show ((c :: r)[i] == c) = true by simpa using e]
          simp only [cond_false, Bool.true_and]
          exact ih (i + 1) (by omega) j (by omega)
        · rw [bneT (fun q => e (UInt8.toNat_inj.1 (by omega))), show ((c :: r)[i] == c) = false by simpa using e]
          rfl
    have run := key 7 1 (by omega) k (by omega)
    rw [bneF (by rw [h8]; rfl), at0, hl]
    simp only [cond_false, Option.bind_some]
    by_cases a1 : (c.toNat : Int) < 97
    · rw [decide_eq_true a1, if_neg (by omega)]; rfl
    · by_cases a2 : (122 : Int) < (c.toNat : Int)
      · rw [decide_eq_false a1, decide_eq_true a2, if_neg (by omega)]; rfl
      · rw [decide_eq_false a1, decide_eq_false a2]
        simp only [cond_false]
        have run : spec_l17Letter.l0 k (c :: r) 1 = _ := run
        rw [run]
        have hiff : (((c :: r).drop 1).all (fun x => x == c) = true) ↔ (c :: r).count c = 8 := by
          rw [← h8, List.count_eq_length, List.all_eq_true]
          constructor
          · intro h b hb
            rcases List.mem_cons.1 hb with rfl | hb
            · rfl
            · exact (by simpa using h b hb : b = c).symm
          · intro h x hx
            have := h x (List.mem_cons_of_mem _ hx)
            simp [this]
        by_cases a3 : (c :: r).count c = 8
        · rw [if_pos (hiff.2 a3), if_pos ⟨h8, by omega, by omega, a3⟩]; rfl
        · rw [if_neg (fun h => a3 (hiff.1 h)), if_neg (fun h => a3 h.2.2.2)]; rfl
  · rw [bneT (by omega)]
    simp only [cond_true]
    cases t with
    | nil => rfl
    | cons c r =>
      have hl : letM (c :: r) = if (c :: r).length = 8 ∧ 97 ≤ c.toNat ∧ c.toNat ≤ 122 ∧ (c :: r).count c = 8 then [c] else [] := rfl
      rw [hl, if_neg (fun h => h8 h.1)]
theorem letM_some {t : Str} (h : letM t ≠ []) : cut? t 0 1 = some (letM t) ∧ ¬ letN t = 0 := by
  cases t with
  | nil => exact absurd rfl h
  | cons c r =>
    have hl : letM (c :: r) = if (c :: r).length = 8 ∧ 97 ≤ c.toNat ∧ c.toNat ≤ 122 ∧ (c :: r).count c = 8 then [c] else [] := rfl
    unfold letN
    rw [hl] at h ⊢
    by_cases q : (c :: r).length = 8 ∧ 97 ≤ c.toNat ∧ c.toNat ≤ 122 ∧ (c :: r).count c = 8
    · rw [if_pos q]
      exact ⟨cut01 c r, by show ¬ (c.toNat : Int) = 0; omega⟩
    · rw [if_neg q] at h
      exact absurd rfl h
theorem letM_none {t : Str} (h : letM t = []) : letN t = 0 := by
  unfold letN
  rw [h]
/-! ### words -/
theorem at_getD {l : List Str} {i : Int} (h0 : 0 ≤ i) (h1 : i < (l.length : Int)) : at? l i = some (l.getD i.toNat []) := by
  obtain ⟨n, rfl⟩ : ∃ n : Nat, i = (n : Int) := ⟨i.toNat, by omega⟩
  rw [at_nat (by omega), Int.toNat_natCast, List.getD_eq_getElem?_getD, List.getElem?_eq_getElem (by omega)]
  rfl
theorem getD_len (l : List Str) (h : ∀ x ∈ l, x.length ≤ 6) (n : Nat) : (l.getD n []).length ≤ 6 := by
  rw [List.getD_eq_getElem?_getD]
  cases e : l[n]? with
  | none => simp
  | some x => exact h x (List.mem_of_getElem? e)
def word0 (o : Int) : Str := tab0.getD o.toNat []
def word1 (o : Int) : Str := tab1.getD o.toNat []
theorem word0_len (o : Int) : (word0 o).length ≤ 6 := getD_len tab0 (by decide) _
theorem word1_len (o : Int) : (word1 o).length ≤ 6 := getD_len tab1 (by decide) _
theorem at_word0 {o : Int} (h0 : 0 ≤ o) (h1 : o ≤ 11) : at? tab0 o = some (word0 o) := at_getD h0 (by have : tab0.length = 12 := rfl; omega)
theorem at_word1 {o : Int} (h0 : 0 ≤ o) (h1 : o ≤ 5) : at? tab1 o = some (word1 o) := at_getD h0 (by have : tab1.length = 6 := rfl; omega)
theorem sWords1 {a b : Int} (ha : a = 2) (h0 : 0 ≤ b) (h1 : b ≤ 5) : spec_l17Words a b = some (word1 b) := by
  have e := at_word1 h0 h1
  unfold tab1 at e
  unfold spec_l17Words
  rw [beqd, decide_eq_true ha]
  simp only [cond_true]
  rw [e]
  rfl
theorem sWords0 {a b : Int} (ha : ¬ a = 2) (h0 : 0 ≤ a) (h1 : a ≤ 11) : spec_l17Words a b = some (word0 a) := by
  have e := at_word0 h0 h1
  unfold tab0 at e
  unfold spec_l17Words
  rw [beqd, decide_eq_false ha]
  simp only [cond_false]
  rw [e]
  rfl
/-! ### steps -/
structure StepFit (s : StepT) : Prop where
  k0 : 1 ≤ s.1
  k1 : s.1 ≤ 5
  a0 : 0 ≤ s.2.1
  a1 : s.2.1 ≤ 1000000
  b0 : 0 ≤ s.2.2.1
  b1 : s.2.2.1 ≤ 1000000
  t : if s.1 = 2 ∨ s.1 = 4 then s.2.2.2.length = 8 else s.2.2.2 = []
theorem stepFit {s : StepT} (h : stepB s.1 s.2.1 s.2.2.1 s.2.2.2 8 = true) : StepFit s := by
  obtain ⟨k, a, b, t⟩ := s
  unfold stepB at h
  dsimp only at h
  split at h
  · rename_i q
    subst q
    simp only [Bool.and_eq_true, decide_eq_true_eq, beq_iff_eq] at h
    exact ⟨by dsimp only; decide, by dsimp only; decide, by show 0 ≤ a; omega, by show a ≤ _; omega, by show 0 ≤ b; omega, by show b ≤ _; omega, by rw [if_neg (by dsimp only; decide)]; exact h.2⟩
  split at h
  · rename_i q
    subst q
    simp only [Bool.and_eq_true, decide_eq_true_eq, beq_iff_eq] at h
    exact ⟨by dsimp only; decide, by dsimp only; decide, by show 0 ≤ a; omega, by show a ≤ _; omega, by show 0 ≤ b; omega, by show b ≤ _; omega, by rw [if_pos (by dsimp only; decide)]; show t.length = 8; omega⟩
  split at h
  · rename_i q
    subst q
    simp only [Bool.and_eq_true, decide_eq_true_eq, beq_iff_eq] at h
    exact ⟨by dsimp only; decide, by dsimp only; decide, by show 0 ≤ a; omega, by show a ≤ _; omega, by show 0 ≤ b; omega, by show b ≤ _; omega, by rw [if_neg (by dsimp only; decide)]; exact h.2⟩
  split at h
  · rename_i q
    subst q
    simp only [Bool.and_eq_true, decide_eq_true_eq, beq_iff_eq] at h
    exact ⟨by dsimp only; decide, by dsimp only; decide, by show 0 ≤ a; omega, by show a ≤ _; omega, by show 0 ≤ b; omega, by show b ≤ _; omega, by rw [if_pos (by dsimp only; decide)]; show t.length = 8; omega⟩
  split at h
  · rename_i q
    subst q
    simp only [Bool.and_eq_true, decide_eq_true_eq, beq_iff_eq] at h
    exact ⟨by dsimp only; decide, by dsimp only; decide, by show 0 ≤ a; omega, by show a ≤ _; omega, by show 0 ≤ b; omega, by show b ≤ _; omega, by rw [if_neg (by dsimp only; decide)]; exact h.2⟩
  · cases h
def stepW1 (s : StepT) : Str := if s.1 = 5 then word1 s.1 else word1 s.1 ++ ([32] ++ decM s.2.1)
def stepW (s : StepT) : Str := if 3 ≤ s.1 then stepW1 s ++ ([32] ++ decM s.2.2.1) else stepW1 s
def stepM (s : StepT) : Str := if s.1 = 2 ∨ s.1 = 4 then (if letM s.2.2.2 = [] then [] else stepW s ++ ([32] ++ letM s.2.2.2)) else stepW s
theorem stepW1_len {s : StepT} (h : StepFit s) : (stepW1 s).length ≤ 27 := by
  have h1 := word1_len s.1
  have h2 := decM_len (n := s.2.1) (by have := h.a1; omega)
  unfold stepW1
  split
  · omega
  · simp; omega
theorem stepW_len {s : StepT} (h : StepFit s) : (stepW s).length ≤ 48 := by
  have h1 := stepW1_len h
  have h2 := decM_len (n := s.2.2.1) (by have := h.b1; omega)
  unfold stepW
  split
  · simp; omega
  · omega
theorem stepM_len {s : StepT} (h : StepFit s) : (stepM s).length ≤ 50 := by
  have h1 := stepW_len h
  have h2 := letM_len s.2.2.2
  unfold stepM
  split
  · split
    · simp
    · simp; omega
  · omega
theorem iStepText {s : StepT} (h : StepFit s) : impl_stepText s = some (stepM s) := by
  have h1 := word1_len s.1
  have hd1 := decM_len (n := s.2.1) (by have := h.a1; omega)
  have hd2 := decM_len (n := s.2.2.1) (by have := h.b1; omega)
  have hw1 := stepW1_len h
  have hw := stepW_len h
  have hk0 := h.k0
  have hk1 := h.k1
  have e0 : impl_stepText.j0 (word1 s.1) s.1 s.2.1 s.2.2.1 s.2.2.2 = some (stepW1 s, s.1, s.2.1, s.2.2.1, s.2.2.2) := by
    unfold impl_stepText.j0 stepW1
    by_cases q : s.1 = 5
    · rw [bneF q, if_pos q]; rfl
    · rw [bneT q, if_neg q, iDec _ (by have := h.a1; omega)]
      simp only [cond_true, Option.bind_some]
      rw [cat_some (by simp; omega)]
      simp only [Option.bind_some]
      rw [cat_some (by simp; omega)]
      rfl
  have e1 : impl_stepText.j1 (stepW1 s) s.1 s.2.1 s.2.2.1 s.2.2.2 = some (stepW s, s.1, s.2.1, s.2.2.1, s.2.2.2) := by
    unfold impl_stepText.j1 stepW
    simp only [beqd]
    have hq : ((decide (s.1 = 3) || decide (s.1 = 4)) || decide (s.1 = 5)) = decide (3 ≤ s.1) := by
      rw [Bool.eq_iff_iff]
      simp only [Bool.or_eq_true, decide_eq_true_eq]
      omega
    rw [hq]
    by_cases q : 3 ≤ s.1
    · rw [decide_eq_true q, if_pos q, iDec _ (by have := h.b1; omega)]
      simp only [cond_true, Option.bind_some]
      rw [cat_some (by simp; omega)]
      simp only [Option.bind_some]
      rw [cat_some (by simp; omega)]
      rfl
    · rw [decide_eq_false q, if_neg q]; rfl
  unfold impl_stepText stepM
  rw [at_word1 (by omega) (by omega)]
  simp only [Option.bind_some]
  rw [e0]
  simp only [Option.bind_some]
  rw [e1]
  simp only [Option.bind_some]
  have ht := h.t
  have hll := letM_len s.2.2.2
  by_cases q : s.1 = 2 ∨ s.1 = 4
  · rw [if_pos q] at ht ⊢
    have hne : (s.2.2.2 == []) = false := by
      cases e : s.2.2.2 with
      | nil => rw [e] at ht; cases ht
      | cons _ _ => rfl
    rw [hne, iLetter]
    simp only [Bool.not_false, cond_true, Option.bind_some]
    by_cases e : letM s.2.2.2 = []
    · rw [e]; rfl
    · rw [if_neg e, show (letM s.2.2.2 == []) = false by simpa using e]
      simp only [cond_false]
      rw [cat_some (by simp; omega)]
      simp only [Option.bind_some]
      rw [cat_some (by simp; omega)]
      rfl
  · rw [if_neg q] at ht ⊢
    rw [ht]
    rfl
/-! ### commands -/
def cmdM (c : CmdT) : Str :=
  if c.1 = 2 then stepM c.2.2.2.2
  else if c.1 = 1 then [98, 101, 103, 105, 110, 32] ++ (decM c.2.1 ++ ([32] ++ (decM c.2.2.1 ++ ([32] ++ hexM c.2.2.2.1))))
  else if c.1 = 7 ∨ c.1 = 9 then word0 c.1 ++ ([32] ++ decM c.2.1)
  else word0 c.1
structure CmdFit (c : CmdT) : Prop where
  o0 : 1 ≤ c.1
  o1 : c.1 ≤ 11
  a0 : 0 ≤ c.2.1
  a1 : c.2.1 ≤ 1000000
  b0 : 0 ≤ c.2.2.1
  b1 : c.2.2.1 ≤ 4
  t : c.2.2.2.1.length ≤ 32
  s : c.1 = 2 → StepFit c.2.2.2.2
theorem cmdFit {c : CmdT} (h : cmdB c = true) : CmdFit c := by
  obtain ⟨o, a, b, t, s⟩ := c
  unfold cmdB at h
  dsimp only at h
  have ht : t = [] → t.length ≤ 32 := fun e => by rw [e]; simp
  split at h
  · rename_i q
    subst q
    simp only [Bool.and_eq_true, decide_eq_true_eq] at h
    exact ⟨by dsimp only; decide, by dsimp only; decide, by show 0 ≤ a; omega, by show a ≤ _; omega, by show 0 ≤ b; omega, by show b ≤ _; omega, by show t.length ≤ 32; omega, fun e => absurd e (by dsimp only; decide)⟩
  split at h
  · rename_i q
    subst q
    simp only [Bool.and_eq_true, decide_eq_true_eq, beq_iff_eq] at h
    exact ⟨by dsimp only; decide, by dsimp only; decide, by show 0 ≤ a; omega, by show a ≤ _; omega, by show 0 ≤ b; omega, by show b ≤ _; omega, ht h.1.2, fun _ => stepFit h.2⟩
  split at h
  · rename_i q
    subst q
    simp only [Bool.and_eq_true, decide_eq_true_eq, beq_iff_eq] at h
    exact ⟨by dsimp only; decide, by dsimp only; decide, by show 0 ≤ a; omega, by show a ≤ _; omega, by show 0 ≤ b; omega, by show b ≤ _; omega, ht h.1.2, fun e => absurd e (by dsimp only; decide)⟩
  split at h
  · rename_i q
    subst q
    simp only [Bool.and_eq_true, decide_eq_true_eq, beq_iff_eq] at h
    exact ⟨by dsimp only; decide, by dsimp only; decide, by show 0 ≤ a; omega, by show a ≤ _; omega, by show 0 ≤ b; omega, by show b ≤ _; omega, ht h.1.2, fun e => absurd e (by dsimp only; decide)⟩
  · rename_i q2 _ _
    simp only [Bool.and_eq_true, decide_eq_true_eq, beq_iff_eq] at h
    exact ⟨by show 1 ≤ o; omega, by show o ≤ _; omega, by show 0 ≤ a; omega, by show a ≤ _; omega, by show 0 ≤ b; omega, by show b ≤ _; omega, ht h.1.2, fun e => absurd e q2⟩
theorem cmdM_len {c : CmdT} (h : CmdFit c) : (cmdM c).length ≤ 200 := by
  have h0 := word0_len c.1
  have h1 := decM_len (n := c.2.1) (by have := h.a1; omega)
  have h2 := decM_len (n := c.2.2.1) (by have := h.b1; omega)
  have h3 := hexM_len c.2.2.2.1
  have h4 := h.t
  unfold cmdM
  split
  · rename_i q
    have := stepM_len (h.s q)
    omega
  split
  · simp; omega
  split
  · simp; omega
  · omega
theorem iCmdText {c : CmdT} (h : CmdFit c) {k : Nat} (hk : 100 ≤ k) : impl_cmdText k c = some (cmdM c) := by
  have h0 := word0_len c.1
  have h1 := decM_len (n := c.2.1) (by have := h.a1; omega)
  have h2 := decM_len (n := c.2.2.1) (by have := h.b1; omega)
  have h3 := hexM_len c.2.2.2.1
  have h4 := h.t
  have o0 := h.o0
  have o1 := h.o1
  unfold impl_cmdText cmdM
  simp only [beqd]
  by_cases c2 : c.1 = 2
  · rw [decide_eq_true c2, if_pos c2, iStepText (h.s c2)]
    rfl
  rw [decide_eq_false c2, if_neg c2]
  simp only [cond_false]
  have d1 := iDec c.2.1 (by have := h.a1; omega)
  by_cases c1 : c.1 = 1
  · rw [decide_eq_true c1, if_pos c1, d1, iDec c.2.2.1 (by have := h.b1; omega), iHex c.2.2.2.1 (by omega) k (by omega)]
    simp only [cond_true, Option.bind_some]
    rw [cat_some (by simp; omega)]
    simp only [Option.bind_some]
    rw [cat_some (by simp; omega)]
    simp only [Option.bind_some]
    rw [cat_some (by simp; omega)]
    simp only [Option.bind_some]
    rw [cat_some (by simp; omega)]
    simp only [Option.bind_some]
    rw [cat_some (by simp; omega)]
    simp only [Option.bind_some, List.append_assoc]
  rw [decide_eq_false c1, if_neg c1, at_word0 (by omega) o1]
  simp only [cond_false, Option.bind_some]
  by_cases c7 : c.1 = 7
  · rw [decide_eq_true c7, if_pos (.inl c7), d1, cat_some (by simp; omega)]
    simp only [cond_true, Option.bind_some]
    rw [cat_some (by simp; omega)]
    simp only [Option.bind_some, List.append_assoc]
  rw [decide_eq_false c7]
  simp only [cond_false]
  by_cases c9 : c.1 = 9
  · rw [decide_eq_true c9, if_pos (.inr c9), d1, cat_some (by simp; omega)]
    simp only [cond_true, Option.bind_some]
    rw [cat_some (by simp; omega)]
    simp only [Option.bind_some, List.append_assoc]
  rw [decide_eq_false c9, if_neg (fun q => q.elim c7 c9)]
  rfl
theorem sCmdText {c : CmdT} (h : CmdFit c) {k : Nat} (hk : 100 ≤ k) : spec_l17Cmd k c = some (cmdM c) := by
  have h0 := word0_len c.1
  have h1 := decM_len (n := c.2.1) (by have := h.a1; omega)
  have h2 := decM_len (n := c.2.2.1) (by have := h.b1; omega)
  have h3 := hexM_len c.2.2.2.1
  have h4 := h.t
  have o0 := h.o0
  have o1 := h.o1
  have d1 : spec_l01Dec k c.2.1 = some (decM c.2.1) := sDec1 _ h.a0 (by have := h.a1; omega) (by omega)
  have d2 : spec_l01Dec k c.2.2.1 = some (decM c.2.2.1) := sDec1 _ h.b0 (by have := h.b1; omega) (by omega)
  unfold spec_l17Cmd cmdM spec_l17Cmd.j0
  simp only [beqd]
  by_cases c2 : c.1 = 2
  · have hs := h.s c2
    generalize hsg : c.2.2.2.2 = s at hs ⊢
    have w0 := word1_len s.1
    have s1 := decM_len (n := s.2.1) (by have := hs.a1; omega)
    have s2 := decM_len (n := s.2.2.1) (by have := hs.b1; omega)
    have hw1 := stepW1_len hs
    have hw := stepW_len hs
    have hk0 := hs.k0
    have hk1 := hs.k1
    have e1 : spec_l17Cmd.j1 k (word1 s.1) s.1 s.2.1 s.2.2.1 s.2.2.2 = some (stepW1 s, s.1, s.2.1, s.2.2.1, s.2.2.2) := by
      unfold spec_l17Cmd.j1 stepW1
      by_cases q : s.1 = 5
      · rw [bneF q, if_pos q]; rfl
      · rw [bneT q, if_neg q, sDec1 _ hs.a0 (by have := hs.a1; omega) (by omega), cat_some (by simp; omega)]
        simp only [cond_true, Option.bind_some]
        rw [cat_some (by simp; omega)]
        simp only [Option.bind_some, List.append_assoc]
    have e2 : spec_l17Cmd.j2 k (stepW1 s) s.1 s.2.1 s.2.2.1 s.2.2.2 = some (stepW s, s.1, s.2.1, s.2.2.1, s.2.2.2) := by
      unfold spec_l17Cmd.j2 stepW
      by_cases q : 3 ≤ s.1
      · rw [decide_eq_true q, if_pos q, sDec1 _ hs.b0 (by have := hs.b1; omega) (by omega), cat_some (by simp; omega)]
        simp only [cond_true, Option.bind_some]
        rw [cat_some (by simp; omega)]
        simp only [Option.bind_some, List.append_assoc]
      · rw [decide_eq_false q, if_neg q]; rfl
    rw [if_pos c2, sWords1 c2 (by omega) hk1]
    simp only [Option.bind_some]
    rw [decide_eq_false (by omega : ¬ c.1 = 1), decide_eq_false (by omega : ¬ c.1 = 7), decide_eq_false (by omega : ¬ c.1 = 9), decide_eq_true c2]
    simp only [cond_false, cond_true, Option.bind_some]
    rw [e1]
    simp only [Option.bind_some]
    rw [e2]
    simp only [Option.bind_some]
    have hll := letM_len s.2.2.2
    unfold stepM
    by_cases q : s.1 = 2 ∨ s.1 = 4
    · rw [if_pos q, show (decide (s.1 = 2) || decide (s.1 = 4)) = true by simpa using q, sLetter _ (by omega)]
      simp only [cond_true, Option.bind_some]
      by_cases e : letM s.2.2.2 = []
      · rw [if_pos e, letM_none e]; rfl
      · obtain ⟨q1, q2⟩ := letM_some e
        rw [if_neg e, decide_eq_false q2, q1, cat_some (by simp; omega)]
        simp only [cond_false, Option.bind_some]
        rw [cat_some (by simp; omega)]
        simp only [Option.bind_some, List.append_assoc]
    · rw [if_neg q, show (decide (s.1 = 2) || decide (s.1 = 4)) = false by simpa using q]
      rfl
  rw [if_neg c2, sWords0 c2 (by omega) o1]
  simp only [Option.bind_some]
  by_cases c1 : c.1 = 1
  · have hb : word0 c.1 = [98, 101, 103, 105, 110] := by rw [c1]; rfl
    rw [decide_eq_true c1, if_pos c1, d1, d2, sHex c.2.2.2.1 (by omega) k (by omega), hb]
    simp only [cond_true, Option.bind_some]
    rw [cat_some (by simp)]
    simp only [Option.bind_some]
    rw [cat_some (by simp; omega)]
    simp only [Option.bind_some]
    rw [cat_some (by simp; omega)]
    simp only [Option.bind_some]
    rw [cat_some (by simp; omega)]
    simp only [Option.bind_some]
    rw [cat_some (by simp; omega)]
    simp only [Option.bind_some]
    rw [cat_some (by simp; omega)]
    simp only [Option.bind_some, List.append_assoc]
    rfl
  rw [decide_eq_false c1, if_neg c1]
  simp only [cond_false]
  by_cases c7 : c.1 = 7
  · rw [decide_eq_true c7, if_pos (.inl c7), d1]
    simp only [cond_true, Option.bind_some]
    rw [cat_some (by simp; omega)]
    simp only [Option.bind_some]
    rw [cat_some (by simp; omega)]
    simp only [Option.bind_some, List.append_assoc]
  rw [decide_eq_false c7]
  simp only [cond_false]
  by_cases c9 : c.1 = 9
  · rw [decide_eq_true c9, if_pos (.inr c9), d1]
    simp only [cond_true, Option.bind_some]
    rw [cat_some (by simp; omega)]
    simp only [Option.bind_some]
    rw [cat_some (by simp; omega)]
    simp only [Option.bind_some, List.append_assoc]
  rw [decide_eq_false c9, if_neg (fun q => q.elim c7 c9), decide_eq_false c2]
  rfl
/-! ### deeds -/
def deedM (d : DeedT) : Str := if deedB d = true then (if cmdM d.1 = [] ∨ d.2.1 < 0 then cmdM d.1 else [99, 117, 116, 32] ++ (decM d.2.1 ++ ([32] ++ (numsM d.2.2.1 ++ ([32] ++ (numsM d.2.2.2 ++ ([32] ++ cmdM d.1))))))) else []
theorem numsFit {l : List Int} {m : Nat} {h : Int} (q : numsB l m h = true) (hh : h ≤ 200) : l.length ≤ m ∧ ∀ n ∈ l, 0 ≤ n ∧ n < 9223372036854775808 := by
  unfold numsB at q
  rw [Bool.and_eq_true, decide_eq_true_eq, Bool.not_eq_true', List.any_eq_false] at q
  refine ⟨q.1, fun n hn => ?_⟩
  have := q.2 n hn
  simp only [Bool.not_eq_true', Bool.and_eq_false_iff, decide_eq_false_iff_not] at this
  omega
theorem bothDeed (d : DeedT) (h1 : d.2.2.1.length ≤ 1048576) (h2 : d.2.2.2.length ≤ 1048576) {k : Nat} (hk : 2000000 ≤ k) : impl_DeedText k d = some (deedM d) ∧ spec_DeedText k d = some (deedM d) := by
  unfold impl_DeedText spec_DeedText deedM
  rw [iDeed d (by omega) (by omega) h1 h2, sDeed d (by omega) (by omega)]
  simp only [Option.bind_some]
  cases hb : deedB d with
  | false => exact ⟨rfl, rfl⟩
  | true =>
  rw [if_pos rfl]
  simp only [Bool.not_true, cond_false]
  unfold deedB at hb
  simp only [Bool.and_eq_true, decide_eq_true_eq] at hb
  obtain ⟨⟨⟨⟨hc, hr1, hr2⟩, hn1⟩, hn2⟩, _⟩ := hb
  have hf := cmdFit hc
  obtain ⟨l1, m1⟩ := numsFit hn1 (by omega)
  obtain ⟨l2, m2⟩ := numsFit hn2 (by omega)
  have q1 := numsM_len d.2.2.1 fun n hn => (m1 n hn).2
  have q2 := numsM_len d.2.2.2 fun n hn => (m2 n hn).2
  have q3 := cmdM_len hf
  have q4 := decM_len (n := d.2.1) (by omega)
  unfold impl_deedText
  rw [iCmdText hf (by omega), sCmdText hf (by omega)]
  simp only [Option.bind_some]
  by_cases e : cmdM d.1 = []
  · rw [if_pos (.inl e), e]
    exact ⟨rfl, rfl⟩
  by_cases z : d.2.1 < 0
  · rw [if_pos (.inr z), show (cmdM d.1 == []) = false by simpa using e, decide_eq_true z, decide_eq_false (by omega : ¬ 0 ≤ d.2.1)]
    exact ⟨rfl, rfl⟩
  rw [if_neg (fun q => q.elim e z), show (cmdM d.1 == []) = false by simpa using e, decide_eq_false z, decide_eq_true (by omega : 0 ≤ d.2.1), iDec _ (by omega), sDec1 _ (by omega) (by omega) (by omega), iCommas _ (fun n hn => (m1 n hn).2) (by omega) (by omega), iCommas _ (fun n hn => (m2 n hn).2) (by omega) (by omega),
    sCommas _ m1 (by omega) (by omega), sCommas _ m2 (by omega) (by omega)]
  simp only [Bool.not_false, Bool.true_and, Bool.false_or, cond_true, cond_false, Option.bind_some]
  rw [cat_some (by simp; omega)]
  simp only [Option.bind_some]
  rw [cat_some (by simp; omega)]
  simp only [Option.bind_some]
  rw [cat_some (by simp; omega)]
  simp only [Option.bind_some]
  rw [cat_some (by simp; omega)]
  simp only [Option.bind_some]
  rw [cat_some (by simp; omega)]
  simp only [Option.bind_some]
  rw [cat_some (by simp; omega)]
  simp only [Option.bind_some]
  rw [cat_some (by simp; omega)]
  simp only [Option.bind_some, List.append_assoc]
  refine ⟨?_, ?_⟩ <;> first | trivial | rfl
theorem szDeed_eq (d : DeedT) (hd : Bnd (.pair (.pair (.int .i64) (.pair (.int .i64) (.pair (.int .i64) (.pair .str (.pair (.int .i64) (.pair (.int .i64) (.pair (.int .i64) .str))))))) (.pair (.int .i64) (.pair (.sl (.int .i64)) (.sl (.int .i64))))) d) :
    ∃ v, laws_szDeed d 1048576 = some v ∧ (0 ≤ v → d.2.2.1.length ≤ 1048576 ∧ d.2.2.2.length ≤ 1048576) := by
  have ht : d.1.2.2.2.1.length ≤ 140737488351232 := hd.1.2.2.2.1
  have hs : d.1.2.2.2.2.2.2.2.length ≤ 140737488351232 := hd.1.2.2.2.2.2.2.2
  have hl1 : d.2.2.1.length ≤ 140737488351232 := hd.2.2.1.1
  have hl2 : d.2.2.2.length ≤ 140737488351232 := hd.2.2.2.1
  have hcmd : ∃ v, laws_szCmd d.1 1048576 = some v ∧ v ≤ 1048576 := by
    unfold laws_szCmd
    dsimp only
    rw [w64 (by omega) (by omega)]
    by_cases c : (1048576 - (d.1.2.2.2.1.length : Int)) < 0
    · rw [decide_eq_true c]; exact ⟨-1, rfl, by omega⟩
    · rw [decide_eq_false c, szStep_eq d.1.2.2.2.2 _ hs (by omega) (by omega)]
      simp only [cond_false, Option.bind_some]
      split
      · exact ⟨-1, rfl, by omega⟩
      · rename_i q
        rw [decide_eq_false (by omega)]
        exact ⟨_, rfl, by omega⟩
  obtain ⟨v, hv, hv1⟩ := hcmd
  unfold laws_szDeed
  rw [hv]
  simp only [Option.bind_some]
  by_cases c : v < 0
  · rw [decide_eq_true c]; exact ⟨-1, rfl, fun h => by omega⟩
  rw [decide_eq_false c]
  obtain ⟨u, hu, hu1, hu2⟩ := szInt64S_eq d.2.2.1 v hl1 (by omega) (by omega)
  rw [hu]
  simp only [cond_false, Option.bind_some]
  by_cases c1 : u < 0
  · rw [decide_eq_true c1]; exact ⟨-1, rfl, fun h => by omega⟩
  rw [decide_eq_false c1]
  obtain ⟨x, hx, hx1, hx2⟩ := szInt64S_eq d.2.2.2 u hl2 (by omega) (by omega)
  rw [hx]
  simp only [cond_false, Option.bind_some]
  by_cases c2 : x < 0
  · rw [decide_eq_true c2]; exact ⟨-1, rfl, fun h => by omega⟩
  rw [decide_eq_false c2]
  have := hu2 (by omega)
  have := hx2 (by omega)
  exact ⟨x, rfl, fun h => ⟨by omega, by omega⟩⟩
theorem laws_FnExactDeedText.proved : laws_FnExactDeedText.Pure := by
  intro d hd
  obtain ⟨v, hv, hv0⟩ := szDeed_eq d hd
  by_cases c : v < 0
  · refine ⟨0, ?_⟩
    unfold laws_FnExactDeedText
    rw [hv]
    simp only [Option.bind_some]
    rw [decide_eq_true c]
    rfl
  · obtain ⟨h1, h2⟩ := hv0 (by omega)
    obtain ⟨k, ⟨⟨⟨⟨g1, g2⟩, g3⟩, g4⟩, g5⟩⟩ := (((((toInt64S_eq d.2.2.1 h1).and (toInt64S_eq d.2.2.2 h2)).and (eqInt64S_refl d.2.2.1 h1)).and (eqInt64S_refl d.2.2.2 h2)).and (Ever.ge 2000000 fun k hk => hk)).ex
    refine ⟨k, ?_⟩
    obtain ⟨b1, b2⟩ := bothDeed d h1 h2 g5
    have e2 : laws_toDeed k d = some (d.1.1, d.1.2.1, d.1.2.2.1, d.1.2.2.2.1, d.1.2.2.2.2.1, d.1.2.2.2.2.2.1, d.1.2.2.2.2.2.2.1, d.1.2.2.2.2.2.2.2, d.2.1, d.2.2.1, d.2.2.2) := by
      unfold laws_toDeed laws_toCmd laws_toStep
      rw [g1, g2]
      rfl
    have e3 : laws_eqDeed k d d = some true := by
      unfold laws_eqDeed laws_eqCmd
      rw [g3, g4, eqStep_refl]
      simp only [bne_self_eq_false, beq_self_eq_true, Option.bind_some, Bool.not_true, cond_false]
    unfold laws_FnExactDeedText
    rw [hv]
    simp only [Option.bind_some]
    rw [decide_eq_false c, e2]
    simp only [cond_false, Option.bind_some]
    rw [show (((d.1.1, (d.1.2.1, (d.1.2.2.1, (d.1.2.2.2.1, (d.1.2.2.2.2.1, (d.1.2.2.2.2.2.1, (d.1.2.2.2.2.2.2.1, d.1.2.2.2.2.2.2.2))))))), (d.2.1, (d.2.2.1, d.2.2.2))) : DeedT) = d from rfl]
    rw [b2, b1]
    simp only [Option.bind_some, beq_self_eq_true, Bool.not_true, cond_false]
    rw [e3]
    rfl
end Go.Proofs.YtaajcllchbnjiaaDoorE

namespace Go.Proofs.YtaajcllchbnjiaaDoor.fnExactDeedText
open Go Go.ChangeShapes Go.WideShapes Go.ChangeAt Go.RowKit Go.Proofs.YtaajcllchbnjiaaDoorE
set_option linter.unusedVariables false
theorem own : ownKnob Tryd.prog.godebug = none := by kernel_rfl
theorem laidOut : laidOutB Tryd.prog = true := by kernel_rfl
theorem go (k : Nat) (y0 : G48) : (laws_FnExactDeedText.con k).f [argC true T48 y0] = .opt (Prod' laws_FnExactDeedText.sig.outs) (laws_FnExactDeedText k y0) laws_FnExactDeedText.sig.enc := by kernel_rfl
abbrev laidL : List (String × DataW Unit) := [("math/bits.deBruijn32tab", Rows.laid_math_bits_deBruijn32tab), ("math/bits.deBruijn64tab", Rows.laid_math_bits_deBruijn64tab), ("internal/strconv.uint64pow10", Rows.laid_internal_strconv_uint64pow10), ("loop.example/g00668/impl.deedWords", Rows.laid_loop_example_g00668_impl_deedWords), ("loop.example/g00668/impl.stepWords", Rows.laid_loop_example_g00668_impl_stepWords)]
theorem door_met (os : Os) (args : Array Value) : laidMetH Tryd.prog laidL ((World.doorLaid Tryd.prog 34 os).forCall (fun _ _ => 0) ⟨#[], args, []⟩).memory :=
  laidMetH_of_parts3 (fuel := 8) (laidMet_of_run' 8 (by kernel_rfl) (by kernel_rfl)) (by kernel_rfl) (by kernel_rfl)
theorem globals {W : World} (h : laidMetH Tryd.prog laidL W) : GlW W := by
  rw [MakeChecks.laidMetH_plain _ _ _ (by kernel_rfl)] at h
  intro n r l e
  unfold GL at e
  split at e
  · cases e; exact laid_strs h (name := "loop.example/g00668/impl.deedWords") (ss := tab0) (List.mem_of_getElem? (i := 3) (by kernel_rfl)) (n := 12) (t := 99) (e := 9) (by kernel_rfl) (by kernel_rfl) (by kernel_rfl) (by kernel_rfl) (by kernel_rfl) (by kernel_rfl)
  · cases e; exact laid_strs h (name := "loop.example/g00668/impl.stepWords") (ss := tab1) (List.mem_of_getElem? (i := 4) (by kernel_rfl)) (n := 6) (t := 107) (e := 9) (by kernel_rfl) (by kernel_rfl) (by kernel_rfl) (by kernel_rfl) (by kernel_rfl) (by kernel_rfl)
  · cases e; exact laid_ints h (name := "internal/strconv.uint64pow10") (k := .u64) (zs := tab2) (List.mem_of_getElem? (i := 2) (by kernel_rfl)) (n := 20) (t := 128) (e := 119) (by kernel_rfl) (by kernel_rfl) (by kernel_rfl) (by kernel_rfl) (by kernel_rfl) (by kernel_rfl)
  · cases e; exact laid_ints h (name := "math/bits.deBruijn32tab") (k := .u8) (zs := tab4) (List.mem_of_getElem? (i := 0) (by kernel_rfl)) (n := 32) (t := 139) (e := 5) (by kernel_rfl) (by kernel_rfl) (by kernel_rfl) (by kernel_rfl) (by kernel_rfl) (by kernel_rfl)
  · cases e; exact laid_ints h (name := "math/bits.deBruijn64tab") (k := .u8) (zs := tab5) (List.mem_of_getElem? (i := 1) (by kernel_rfl)) (n := 64) (t := 140) (e := 5) (by kernel_rfl) (by kernel_rfl) (by kernel_rfl) (by kernel_rfl) (by kernel_rfl) (by kernel_rfl)
  · cases e
set_option maxRecDepth 100000 in
theorem lifted (os : Os) (started : os.Started) (H : Type) (enc : TypeId × Value → H) :
    ReturnsInHanded {} Tryd.checked os 4 .any (fun w args => (Rows.fnExactDeedTextSpec.pre enc Tryd.prog Tryd.f4 [] false w args ∧ laidMetH Tryd.prog laidL w) ∧ sizedMet enc Tryd.prog Tryd.f4 (OpenSpec.ofChange Rows.fnExactDeedTextSpec) false w args) (Rows.fnExactDeedTextSpec.post enc Tryd.prog Tryd.f4 false true false false) := by
  refine returnsInHanded_of_change_and (C := Tryd.checked) (X := fun w _ => laidMetH Tryd.prog laidL w) (fun _ _ _ hh h => h.of_heap hh) own started (by kernel_rfl) Tryd.func4
    (ChangeSpec.witness_shaped (enc := enc) (C := Tryd.checked) (os := os) (X := fun w _ => laidMetH Tryd.prog laidL w) false (World.doorLaid Tryd.prog 34 os) #[.agg #[.int .i64 0, .int .i64 0, .int .i64 0, .string ByteArray.empty, .int .i64 0, .int .i64 0, .int .i64 0, .string ByteArray.empty, .int .i64 0, .slice none 0 0, .slice none 0 0]] 8 rfl (World.shaped_of_RefB (by kernel_rfl) (by kernel_rfl)) (by kernel_rfl) (by kernel_rfl) (by kernel_rfl) (door_met os _)) ?_
  intro W base args ds gs before hval0 hW hcnd hsz0 hL _
  have hsz : (DataW.weightsEach Tryd.prog (Tryd.f4.params.toList ++ Rows.fnExactDeedTextSpec.plain.varTypes Tryd.prog) (ds ++ gs)).all (· ≤ reachBytes) = true := hsz0
  have hval : ∀ (j : Nat) t v, Tryd.f4.params[j]? = some t → args[j]? = some v → Value.okWide Tryd.prog W .any base t v := hval0
  have hW' := hW
  obtain ⟨p, q, hA0, hV, rfl, hfz, hnd⟩ := hW
  have hA : DataW.TrodAll enc Tryd.prog W 0 (fun _ => true) true Tryd.f4.params.toList args.toList ds p := hA0
  rw [Tryd.params4] at hA hval hsz
  obtain ⟨v0, vs0, d0, ds0, p0, q0, hargs, rfl, rfl, h0, r0⟩ := trodAll_cons hA
  obtain ⟨rfl, rfl, rfl⟩ := trodAll_nil r0
  obtain rfl : args = #[v0] := by cases args; simp_all
  obtain ⟨_, _, _, _, gd0, _, _, _, _, _, gd1, _, rfl, _⟩ := trodVars_two hV
  have lt0 := trod_lt_all h0
  have z0 := weights_arg hsz (j := 0) (t := 48) rfl rfl
  obtain ⟨y0, b0, c0⟩ := arg_rep (ty := T48) (n := 20) (ag := true) (by kernel_rfl) (by kernel_rfl) (hval 0 48 v0 rfl rfl) h0 z0
  obtain ⟨k, hp⟩ := laws_FnExactDeedText.proved y0 b0
  have hrr : ((laws_FnExactDeedText.con k).f [argC true T48 y0]).val = some ⟨[.val false [.leaf (.bool true)]], []⟩ := by
    refine (congrArg CR.val (go k y0)).trans ?_
    rw [hp]
    kernel_rfl
  refine (law_true (laws_FnExactDeedText.ok k) hrr (globals hL) (vs := [v0]) (cargs_cons (c0 _) cargs_nil)).mono fun e W' ⟨he, bel0⟩ => ?_
  have bel : Below W.heap.size W W' := bel0
  subst he
  exact ⟨_, rfl, _, _, _, [], _, _, hW', trodAll_mk1 (shutB Tryd.underlying4 _), (trodAll_cons_mk (Below.trod laidOut (by kernel_rfl) (of_decide_eq_true (by kernel_rfl)) h0 bel lt0) trodAll_mk0), Below.trodVars laidOut bel (by kernel_rfl) hV, bel.frame _, fun h => by cases h⟩
theorem over : Rows.fnExactDeedTextRow.holds Tryd.pinned (OpenSpec.ofChange Rows.fnExactDeedTextSpec) :=
  OpenClaim.holds_of_wide 4 Tryd.f4 rfl rfl rfl rfl rfl rfl rfl ⟨rfl, rfl, rfl, rfl, rfl⟩ rfl rfl rfl rfl rfl (by kernel_rfl) Tryd.func4 (by kernel_rfl)
    (of_decide_eq_true (by kernel_rfl)) (by unfold Func.isWrapper; first | (rw [if_pos (by decide +kernel)]; kernel_rfl) | (rw [if_neg (by decide +kernel)]; exact ⟨rfl, rfl⟩))
    (fun os started H enc _ => lifted os started H enc)
theorem proved : Rows.FnExactDeedTextSaid := over
theorem tied : Rows.FnExactDeedTextCardSaid :=
  Claim7.holds_tied_plain_at .later [] [.data, .data, .data, .widerDeep, .widerDeep] true (true, "3b76345b23212d0e64de17c58e15c19faf894a4004afb61a50491fbd74a4d1f6") false
    proved (fun _ h => by cases h) (by kernel_rfl) (fun _ h => by cases h) fnExactDeedText_row_tie rfl ⟨rfl, rfl⟩ (by kernel_rfl) rfl
    (fun f fn hf hfn => by
      obtain rfl : f = 4 := Option.some.inj ((show Tryd.prog.funcNamed "loop.example/g00668/laws.FnExactDeedText" = some 4 by kernel_rfl).symm.trans hf) |>.symm
      obtain rfl : fn = Tryd.f4 := (Option.some.inj (Tryd.func4.symm.trans hfn)).symm
      exact ⟨by kernel_rfl, fun j t ht => by
        rw [Tryd.params4] at ht
        have hm : t ∈ [48] := by simpa using Array.mem_of_getElem? ht
        have hall : ([48].all fun u => !Tryd.prog.wantsStandIn u) = true := by kernel_rfl
        exact (show Tryd.prog.wantsStandIn t = false by simpa using List.all_eq_true.1 hall t hm)⟩)
    (by kernel_rfl)
end Go.Proofs.YtaajcllchbnjiaaDoor.fnExactDeedText
namespace Go.Proofs.YtaajcllchbnjiaaDoor
/-- The tied card, under a short name, for the claim. -/
theorem fnExactDeedText_card : Rows.FnExactDeedTextCardSaid := fnExactDeedText.tied
#print axioms fnExactDeedText_card
end Go.Proofs.YtaajcllchbnjiaaDoor
