/- What the law FnExactDeedRead needs, part 10 of 10: the Lean functions of the Go functions that it reaches, with the proofs that the calls come to what they say, and plain facts about them; the last theorem is the law. Conditions: those that each theorem states. Written by a session and by its programs (after the kit's printer). -/
import Derived.Test.YtcnkbllbpimaiaaGreatDoorRows
import Derived.Test.YtcnkbllbpimaiaaGreatDoorCards
import Derived.Test.YtcnkbllbpimaiaaGreatDoorTie
import Derived.Carry
import Derived.Handed
import Derived.LaidMore
import Derived.OpenVars
import Derived.Lay
import Derived.OpenShut
import Derived.ProofKit
import Derived.SevenTiedAt
import Derived.MakeChecks
import Derived.Test.YtcnkbllbpimaiaaGreatDoorXFnExactDeedRead5
import Derived.Test.YtcnkbllbpimaiaaGreatDoorXFnExactDeedRead7
import Derived.Test.YtcnkbllbpimaiaaGreatDoorXFnExactDeedRead8
namespace Go.Proofs.YtcnkbllbpimaiaaGreatDoorE
open Go
set_option linter.unusedVariables false
/-! ### lists of numbers -/
theorem decM_no {c : UInt8} (h : c.toNat < 48) (n : Int) : c ∉ decM n := fun hm => by
  have := decM_digs n c hm
  omega
theorem join_split : ∀ (l : List Int), l ≠ [] → splitM 44 (Lib.join (l.map decM) [44]) = l.map decM
  | [], h => absurd rfl h
  | [n], _ => by
    rw [List.map_cons, Lib.join_cons]
    show splitM 44 (decM n ++ []) = _
    rw [List.append_nil, splitM_free (decM_no (by decide) n)]
    rfl
  | n :: m :: l, _ => by
    rw [List.map_cons, Lib.join_cons]
    have e : Lib.joinTail [44] ((m :: l).map decM) = 44 :: Lib.join ((m :: l).map decM) [44] := by
      rw [List.map_cons, Lib.join_cons]
      unfold Lib.joinTail
      simp
    rw [e, splitM_app _ (decM_no (by decide) n), join_split (m :: l) (by simp)]
theorem numsM_text {w : Str} {l : List Int} (h : w = numsM l) : (w = [45] → l = []) ∧ (w ≠ [45] → l ≠ [] ∧ splitM 44 w = l.map decM) := by
  subst h
  unfold numsM
  by_cases c : l = []
  · rw [if_pos c]
    exact ⟨fun _ => c, fun q => absurd rfl q⟩
  · rw [if_neg c]
    refine ⟨fun q => ?_, fun _ => ⟨c, join_split l c⟩⟩
    exfalso
    cases l with
    | nil => exact c rfl
    | cons n r =>
      rw [List.map_cons, Lib.join_cons] at q
      have hne := decM_ne n
      cases e : decM n with
      | nil => exact hne e
      | cons x s =>
        rw [e] at q
        have hx : x = 45 := by
          have := congrArg List.head? q
          simpa using this
        have := decM_digs n x (by rw [e]; exact List.mem_cons_self)
        rw [hx] at this
        have h45 : (45 : UInt8).toNat = 45 := rfl
        omega
/-- A loop that reads the words one by one. -/
theorem read_loop (L : Nat → Int → List Int → Option (List Int)) (ws : List Str) (f : Str → Int) (n : Nat) (hn : n ≤ ws.length)
    (hs : ∀ i, (h : i < n) → ∀ (acc : List Int) (j : Nat), acc.length = i → L (j + 1) (i : Int) acc = L j ((i + 1 : Nat) : Int) (acc ++ [f (ws[i]'(by omega))]))
    (he : ∀ (acc : List Int) (j : Nat), L (j + 1) (n : Int) acc = some acc) : ∀ k, n < k → L k 0 [] = some ((ws.take n).map f) := by
  have key : ∀ (d i : Nat), i + d = n → ∀ j, d < j → L j (i : Int) ((ws.take i).map f) = some ((ws.take n).map f) := by
    intro d
    induction d with
    | zero =>
      intro i hi j hj
      obtain ⟨j, rfl⟩ : ∃ q, j = q + 1 := ⟨j - 1, by omega⟩
      obtain rfl : i = n := by omega
      exact he _ j
    | succ d ih =>
      intro i hi j hj
      obtain ⟨j, rfl⟩ : ∃ q, j = q + 1 := ⟨j - 1, by omega⟩
      rw [hs i (by omega) _ j (by simp; omega)]
      have := ih (i + 1) (by omega) j (by omega)
      rwa [take_map_succ f (by omega)] at this
  intro k hk
  exact key n 0 (Nat.zero_add _) k hk
theorem map_back {f : Str → Int} {l : List Int} (h : ∀ n ∈ l, f (decM n) = n) : (l.map decM).map f = l := by
  rw [List.map_map]
  conv => rhs; rw [← List.map_id l]
  exact List.map_congr_left fun n hn => h n hn
def Nums (l : List Int) (m : Nat) : Prop := l.length ≤ m ∧ ∀ n ∈ l, 0 ≤ n ∧ n ≤ 1000000
theorem iNumsW {w : Str} (hw : w.length ≤ 8000) : ∃ v, (∀ k, 8002 ≤ k → impl_wordNumbers k w = some v) ∧ v.length ≤ 8001 ∧ ∀ l, Nums l 40 → w = numsM l → v = l := by
  by_cases c : w = [45]
  · refine ⟨[], fun k _ => ?_, by simp, fun l hl e => ((numsM_text e).1 c).symm⟩
    unfold impl_wordNumbers
    rw [show (w == ([45] : Str)) = true by simpa using c]
    rfl
  · have hl := splitM_len 44 w
    have hm : ∀ x ∈ splitM 44 w, ∃ v, impl_wordNumber x = some v ∧ ∀ n : Int, 0 ≤ n → n < 9223372036854775808 → x = decM n → v = n := fun x hx => iNumW (by have := (splitM_mem hx).2; omega)
    let f : Str → Int := wordNum
    have hf : ∀ x ∈ splitM 44 w, impl_wordNumber x = some (f x) := fun x hx => by
      unfold impl_wordNumber
      rw [if_pos (by have := (splitM_mem hx).2; omega)]
    refine ⟨(splitM 44 w).map f, fun k hk => ?_, by simp; omega, fun l hl e => ?_⟩
    · unfold impl_wordNumbers
      rw [show (w == ([45] : Str)) = false by simpa using c, iSplit (by omega)]
      simp only [cond_false, Option.bind_some]
      have run := read_loop (fun j i acc => impl_wordNumbers.l0 j ((splitM 44 w).length : Int) i acc (splitM 44 w)) (splitM 44 w) f (splitM 44 w).length (Nat.le_refl _) (fun i hi acc j ha => by
        show impl_wordNumbers.l0 (j + 1) _ (i : Int) acc _ = impl_wordNumbers.l0 j _ ((i + 1 : Nat) : Int) (acc ++ [f _]) _
        rw [impl_wordNumbers.l0, dlt hi, at_nat hi, wsuc (by omega)]
        simp only [cond_true, Option.bind_some]
        rw [hf _ (List.getElem_mem hi)]
        simp only [Option.bind_some]
        rw [app_ok (by simp; omega)]
        rfl) (fun acc j => by
        show impl_wordNumbers.l0 (j + 1) _ ((splitM 44 w).length : Int) acc _ = _
        rw [impl_wordNumbers.l0, dnlt (Nat.le_refl _)]
        rfl) k (by omega)
      have run : impl_wordNumbers.l0 k ((splitM 44 w).length : Int) 0 [] (splitM 44 w) = _ := run
      rw [run, List.take_length]
      rfl
    · obtain ⟨hne, hsp⟩ := (numsM_text e).2 c
      rw [hsp]
      refine map_back fun n hn => ?_
      obtain ⟨v, hv, hv2⟩ := hm (decM n) (by rw [hsp]; exact List.mem_map_of_mem hn)
      have := hf (decM n) (by rw [hsp]; exact List.mem_map_of_mem hn)
      rw [hv] at this
      have h0 := hl.2 n hn
      rw [← Option.some.inj this]
      exact hv2 n h0.1 (by omega) rfl
theorem sNumsW {w : Str} (hw : w.length ≤ 8000) : ∃ v, (∀ k, 8002 ≤ k → spec_l17List k w = some v) ∧ v.length ≤ 8001 ∧ ∀ l, Nums l 40 → w = numsM l → v = l := by
  by_cases c : w = [45]
  · refine ⟨[], fun k _ => ?_, by simp, fun l hl e => ((numsM_text e).1 c).symm⟩
    unfold spec_l17List
    rw [show (w == ([45] : Str)) = true by simpa using c]
    rfl
  · have hl := splitM_len 44 w
    let f : Str → Int := fun x => (sNumW x).choose
    have hf : ∀ x, (∀ k, 20 ≤ k → spec_l17Num k x = some (f x)) ∧ ∀ n : Int, 0 ≤ n → n ≤ 1000000 → x = decM n → f x = n := fun x => (sNumW x).choose_spec
    refine ⟨((splitM 44 w).take (min (splitM 44 w).length 41)).map f, fun k hk => ?_, by simp; omega, fun l hl e => ?_⟩
    · unfold spec_l17List
      have hsp : spec_l01Split k w 44 = some (splitM 44 w) := sSplit (c := 44) (by omega) (by omega)
      rw [show (w == ([45] : Str)) = false by simpa using c, hsp]
      simp only [cond_false, Option.bind_some]
      have run := read_loop (fun j i acc => spec_l17List.l0 k j i acc (splitM 44 w)) (splitM 44 w) f (min (splitM 44 w).length 41) (Nat.min_le_left _ _) (fun i hi acc j ha => by
        have hi2 : i < (splitM 44 w).length := by omega
        show spec_l17List.l0 k (j + 1) (i : Int) acc _ = spec_l17List.l0 k j ((i + 1 : Nat) : Int) (acc ++ [f _]) _
        rw [spec_l17List.l0, dlt hi2, decide_eq_true (by omega : (i : Int) ≤ 40), at_nat hi2, wsuc (by omega)]
        simp only [Bool.and_self, cond_true, Option.bind_some]
        rw [(hf _).1 k (by omega)]
        simp only [Option.bind_some]
        rw [app_ok (by simp; omega)]
        rfl) (fun acc j => by
        show spec_l17List.l0 k (j + 1) ((min (splitM 44 w).length 41 : Nat) : Int) acc _ = _
        rw [spec_l17List.l0]
        have : (decide (((min (splitM 44 w).length 41 : Nat) : Int) < ((splitM 44 w).length : Int)) && decide (((min (splitM 44 w).length 41 : Nat) : Int) ≤ 40)) = false := by
          rw [Bool.and_eq_false_iff]
          by_cases q : (splitM 44 w).length ≤ 41
          · left; exact decide_eq_false (by omega)
          · right; exact decide_eq_false (by omega)
        rw [this]
        rfl) k (by omega)
      have run : spec_l17List.l0 k k 0 [] (splitM 44 w) = _ := run
      rw [run]
      rfl
    · obtain ⟨hne, hsp⟩ := (numsM_text e).2 c
      rw [hsp, List.length_map, Nat.min_eq_left (by have := hl.1; omega), List.take_of_length_le (by simp)]
      exact map_back fun n hn => (hf (decM n)).2 n (hl.2 n hn).1 (hl.2 n hn).2 rfl
/-! ### hexadecimal digits -/
/-- A loop that reads two letters at a time. -/
theorem hex_back (b : UInt8) : hexNum 0 (listByte (hexP b)) = some b.toNat := by
  have h : ∀ n : Nat, n < 256 → hexNum 0 (listByte [((hexD.getD (n / 16) 0).toNat : Int), ((hexD.getD (n % 16) 0).toNat : Int)]) = some n := by decide +kernel
  exact h b.toNat b.toNat_lt
theorem hexDig_le {c : UInt8} {d : Nat} (h : hexDig c = some d) : d ≤ 15 := by
  unfold hexDig at h
  split at h
  · cases h; omega
  · split at h
    · cases h; omega
    · cases h
theorem hexNum_le {a b : UInt8} {n : Nat} (h : hexNum 0 [a, b] = some n) : n ≤ 255 := by
  unfold hexNum at h
  split at h
  · rename_i d hd
    have := hexDig_le hd
    unfold hexNum at h
    split at h
    · rename_i e he
      have := hexDig_le he
      unfold hexNum at h
      cases h
      omega
    · cases h
  · cases h
/-- What the digits of a text are worth, two by two. -/
def unhexM : Str → List Int
  | a :: b :: s => (((hexNum 0 [a, b]).getD 0 : Nat) : Int) :: unhexM s
  | _ => []
theorem unhexM_len : ∀ s : Str, 2 * (unhexM s).length ≤ s.length
  | [] => by simp [unhexM]
  | [_] => by simp [unhexM]
  | a :: b :: s => by have := unhexM_len s; simp [unhexM]; omega
theorem unhex_hex : ∀ t : Str, listByte (unhexM (hexM t)) = t
  | [] => rfl
  | b :: t => by
    have e : hexM (b :: t) = listByte (hexP b) ++ hexM t := by
      unfold hexM hexL
      rw [List.flatMap_cons, listByte_app]
    have h := hex_back b
    unfold hexP at e h
    rw [e]
    show listByte (unhexM (_ :: _ :: hexM t)) = _
    rw [unhexM]
    have h : hexNum 0 [UInt8.ofNat ((hexD.getD (b.toNat / 16) 0).toNat : Int).toNat, UInt8.ofNat ((hexD.getD (b.toNat % 16) 0).toNat : Int).toNat] = some b.toNat := h
    rw [h]
    show UInt8.ofNat _ :: listByte (unhexM (hexM t)) = _
    rw [unhex_hex t]
    simp
theorem iUnhexL : ∀ (n : Nat) (t : Str) (acc : List Int) (j : Nat), t.length ≤ n → acc.length + t.length ≤ 1000000 → n < j → impl_unhex.l0 j t acc = some (acc ++ unhexM t) := by
  intro n
  induction n with
  | zero =>
    intro t acc j ht ha hj
    obtain ⟨j, rfl⟩ : ∃ q, j = q + 1 := ⟨j - 1, by omega⟩
    have : t = [] := List.eq_nil_of_length_eq_zero (by omega)
    subst this
    rw [impl_unhex.l0]
    simp [unhexM]
  | succ n ih =>
    intro t acc j ht ha hj
    obtain ⟨j, rfl⟩ : ∃ q, j = q + 1 := ⟨j - 1, by omega⟩
    match t, ht, ha with
    | [], _, _ => rw [impl_unhex.l0]; simp [unhexM]
    | [_], _, _ => rw [impl_unhex.l0]; simp [unhexM]
    | a :: b :: s, ht, ha =>
      rw [impl_unhex.l0]
      have hl : (a :: b :: s).length = s.length + 2 := rfl
      rw [decide_eq_true (by rw [hl]; omega : (2 : Int) ≤ ((a :: b :: s).length : Int))]
      have c1 : cut? (a :: b :: s) 0 2 = some [a, b] := cut_ok (l := a :: b :: s) (i := 0) (j := 2) (by omega) (by rw [hl]; omega)
      have c2 : cut? (a :: b :: s) 2 ((a :: b :: s).length : Int) = some s := by
        have := cut_ok (l := a :: b :: s) (i := 2) (j := (a :: b :: s).length) (by rw [hl]; omega) (Nat.le_refl _)
        rw [List.take_length] at this
        exact this
      rw [c1, c2]
      simp only [cond_true, Option.bind_some]
      unfold strconv_ParseUint
      rw [if_pos ⟨rfl, rfl, rfl⟩]
      simp only [Option.bind_some]
      have hw : IntKind.wrap .u8 (((hexNum 0 [a, b]).getD 0 : Nat) : Int) = (((hexNum 0 [a, b]).getD 0 : Nat) : Int) := by
        have : (hexNum 0 [a, b]).getD 0 ≤ 255 := by
          cases e : hexNum 0 [a, b] with
          | none => simp
          | some n => exact hexNum_le e
        simp [IntKind.wrap, IntKind.bits, IntKind.signed]
        omega
      rw [hw, app_ok (by rw [hl] at ha; simp; omega)]
      simp only [Option.bind_some]
      rw [ih s _ j (by rw [hl] at ht; omega) (by rw [hl] at ha; simp; omega) (by omega), List.append_assoc]
      rfl
theorem iUnhex {t : Str} (ht : t.length ≤ 8000) {k : Nat} (hk : 8002 ≤ k) : impl_unhex k t = some (listByte (unhexM t)) := by
  unfold impl_unhex
  rw [iUnhexL t.length t [] k (Nat.le_refl _) (by simp; omega) (by omega)]
  rfl
/-- What a letter does to a number of hexadecimal digits, as the reference reads it. -/
def digS (n : Int) (c : UInt8) : Int := if 48 ≤ c.toNat ∧ c.toNat ≤ 57 then 16 * n + (c.toNat - 48 : Nat) else if 97 ≤ c.toNat ∧ c.toNat ≤ 102 then 16 * n + (c.toNat - 97 : Nat) + 10 else n
theorem digS_bd {n : Int} (h0 : 0 ≤ n) {m : Int} (h1 : n ≤ m) (c : UInt8) : 0 ≤ digS n c ∧ digS n c ≤ 16 * m + 15 := by
  unfold digS
  split
  · omega
  · split <;> omega
theorem sDigS (t : Str) (a i : Nat) (ha : a ≤ 8000) (hi : i < t.length) (hlt : i < a + 2) (n : Int) (h0 : 0 ≤ n) (h1 : n ≤ 1000) (j : Nat) : spec_l17Unhex.l0 (j + 1) t (a : Int) n (i : Int) = spec_l17Unhex.l0 j t (a : Int) (digS n t[i]) ((i + 1 : Nat) : Int) := by
  have h256 := t[i].toNat_lt
  rw [spec_l17Unhex.l0, at_nat hi, w64 (n := (a : Int) + 2) (by omega) (by omega), decide_eq_true (by omega : (i : Int) < (a : Int) + 2), wsuc (by omega), w64 (n := 16 * n) (by omega) (by omega)]
  simp only [cond_true, Option.bind_some]
  unfold digS
  by_cases c1 : 48 ≤ t[i].toNat
  · rw [decide_eq_true (by omega : (48 : Int) ≤ (t[i].toNat : Int))]
    simp only [cond_true]
    by_cases c2 : t[i].toNat ≤ 57
    · rw [decide_eq_true (by omega : (t[i].toNat : Int) ≤ 57), if_pos ⟨c1, c2⟩]
      have e1 : IntKind.wrap .u8 ((t[i].toNat : Int) - 48) = ((t[i].toNat - 48 : Nat) : Int) := by
        simp [IntKind.wrap, IntKind.bits, IntKind.signed]
        omega
      simp only [cond_true]
      rw [e1, w64 (n := ((t[i].toNat - 48 : Nat) : Int)) (by omega) (by omega), w64 (by omega) (by omega)]
    · rw [decide_eq_false (by omega : ¬ (t[i].toNat : Int) ≤ 57), if_neg (fun q => c2 q.2)]
      simp only [cond_false]
      by_cases c3 : 97 ≤ t[i].toNat
      · rw [decide_eq_true (by omega : (97 : Int) ≤ (t[i].toNat : Int))]
        simp only [cond_true]
        by_cases c4 : t[i].toNat ≤ 102
        · rw [decide_eq_true (by omega : (t[i].toNat : Int) ≤ 102), if_pos ⟨c3, c4⟩]
          have e1 : IntKind.wrap .u8 ((t[i].toNat : Int) - 97) = ((t[i].toNat - 97 : Nat) : Int) := by
            simp [IntKind.wrap, IntKind.bits, IntKind.signed]
            omega
          simp only [cond_true]
          rw [e1, w64 (n := ((t[i].toNat - 97 : Nat) : Int)) (by omega) (by omega), w64 (n := 16 * n + _) (by omega) (by omega), w64 (by omega) (by omega)]
        · rw [decide_eq_false (by omega : ¬ (t[i].toNat : Int) ≤ 102), if_neg (fun q => c4 q.2)]
          rfl
      · rw [decide_eq_false (by omega : ¬ (97 : Int) ≤ (t[i].toNat : Int)), if_neg (fun q => c3 q.1)]
        rfl
  · rw [decide_eq_false (by omega : ¬ (48 : Int) ≤ (t[i].toNat : Int)), if_neg (fun q => c1 q.1), decide_eq_false (by omega : ¬ (97 : Int) ≤ (t[i].toNat : Int)), if_neg (fun q => by omega)]
    rfl
/-- What the digits of a text are worth, two by two, as the reference reads them. -/
def unhexS : Str → List Int
  | a :: b :: s => digS (digS 0 a) b :: unhexS s
  | _ => []
theorem unhexS_len : ∀ s : Str, 2 * (unhexS s).length ≤ s.length
  | [] => by simp [unhexS]
  | [_] => by simp [unhexS]
  | a :: b :: s => by have := unhexS_len s; simp [unhexS]; omega
theorem hex_backS (b : UInt8) : digS (digS 0 (UInt8.ofNat ((hexD.getD (b.toNat / 16) 0).toNat : Int).toNat)) (UInt8.ofNat ((hexD.getD (b.toNat % 16) 0).toNat : Int).toNat) = (b.toNat : Int) := by
  have h : ∀ n : Nat, n < 256 → digS (digS 0 (UInt8.ofNat ((hexD.getD (n / 16) 0).toNat : Int).toNat)) (UInt8.ofNat ((hexD.getD (n % 16) 0).toNat : Int).toNat) = (n : Int) := by decide +kernel
  exact h b.toNat b.toNat_lt
theorem unhexS_hex : ∀ t : Str, listByte (unhexS (hexM t)) = t
  | [] => rfl
  | b :: t => by
    have e : hexM (b :: t) = UInt8.ofNat ((hexD.getD (b.toNat / 16) 0).toNat : Int).toNat :: UInt8.ofNat ((hexD.getD (b.toNat % 16) 0).toNat : Int).toNat :: hexM t := by
      unfold hexM hexL
      rw [List.flatMap_cons, listByte_app]
      rfl
    rw [e, unhexS, hex_backS]
    show UInt8.ofNat _ :: listByte (unhexS (hexM t)) = _
    rw [unhexS_hex t]
    simp
theorem sUnhexL (t : Str) (ht : t.length ≤ 8000) {k : Nat} (hk : 8002 ≤ k) : ∀ (n i : Nat) (acc : List Int) (j : Nat), t.length - i ≤ n → i ≤ t.length → acc.length ≤ i → n < j → spec_l17Unhex.l1 k j t (i : Int) acc = some (acc ++ unhexS (t.drop i)) := by
  intro n
  induction n with
  | zero =>
    intro i acc j hn hi ha hj
    obtain ⟨j, rfl⟩ : ∃ q, j = q + 1 := ⟨j - 1, by omega⟩
    rw [spec_l17Unhex.l1, wsuc (by omega), dnlt (by omega), List.drop_eq_nil_of_le (by omega)]
    simp [unhexS]
  | succ n ih =>
    intro i acc j hn hi ha hj
    obtain ⟨j, rfl⟩ : ∃ q, j = q + 1 := ⟨j - 1, by omega⟩
    by_cases c : i + 1 < t.length
    · have d1 : t.drop i = t[i] :: t[i + 1] :: t.drop (i + 2) := by
        rw [List.drop_eq_getElem_cons (by omega : i < t.length), List.drop_eq_getElem_cons c]
      obtain ⟨k, rfl⟩ : ∃ q, k = q + 3 := ⟨k - 3, by omega⟩
      have hb1 := digS_bd (n := 0) (m := 0) (by omega) (by omega) t[i]
      have hb2 := digS_bd (m := 15) hb1.1 (by omega) t[i + 1]
      have hin : spec_l17Unhex.l0 (k + 3) t (i : Int) 0 (i : Int) = some (digS (digS 0 t[i]) t[i + 1]) := by
        rw [sDigS t i i (by omega) (by omega) (by omega) 0 (by omega) (by omega) (k + 2), sDigS t i (i + 1) (by omega) c (by omega) _ hb1.1 (by omega) (k + 1), spec_l17Unhex.l0, w64 (n := (i : Int) + 2) (by omega) (by omega), decide_eq_false (by omega)]
        rfl
      rw [spec_l17Unhex.l1, wsuc (by omega), dlt c, hin]
      simp only [cond_true, Option.bind_some]
      have hw : IntKind.wrap .u8 (digS (digS 0 t[i]) t[i + 1]) = digS (digS 0 t[i]) t[i + 1] := by
        simp [IntKind.wrap, IntKind.bits, IntKind.signed]
        omega
      rw [hw, app_ok (by simp; omega), show IntKind.wrap .i64 ((i : Int) + 2) = ((i + 2 : Nat) : Int) by rw [w64 (by omega) (by omega)]; omega]
      simp only [Option.bind_some]
      rw [ih (i + 2) _ j (by omega) (by omega) (by simp; omega) (by omega), d1, unhexS, List.append_assoc]
      rfl
    · rw [spec_l17Unhex.l1, wsuc (by omega), dnlt (by omega)]
      have : unhexS (t.drop i) = [] := by
        have hl : (t.drop i).length ≤ 1 := by rw [List.length_drop]; omega
        match t.drop i, hl with
        | [], _ => rfl
        | [_], _ => rfl
      rw [this]
      simp
theorem sUnhex {t : Str} (ht : t.length ≤ 8000) {k : Nat} (hk : 8002 ≤ k) : spec_l17Unhex k t = some (listByte (unhexS t)) := by
  unfold spec_l17Unhex
  have := sUnhexL t ht hk t.length 0 [] k (by omega) (Nat.zero_le _) (by simp) (by omega)
  have this : spec_l17Unhex.l1 k k t 0 [] = _ := this
  rw [this]
  rfl
end Go.Proofs.YtcnkbllbpimaiaaGreatDoorE

namespace Go.Proofs.YtcnkbllbpimaiaaGreatDoorE
open Go
set_option linter.unusedVariables false
/-! ### the words of a command -/
theorem letM_form {t : Str} (h : letM t ≠ []) : ∃ c, letM t = [c] ∧ 97 ≤ c.toNat ∧ c.toNat ≤ 122 ∧ t = List.replicate 8 c := by
  unfold letM at h ⊢
  match t, h with
  | [], h => exact absurd rfl h
  | c :: r, h =>
    dsimp only at h ⊢
    split at h
    · rename_i q
      rw [if_pos q]
      refine ⟨c, rfl, q.2.1, q.2.2.1, ?_⟩
      have : (c :: r).count c = (c :: r).length := by rw [q.2.2.2, q.1]
      rw [List.eq_replicate_iff]
      exact ⟨q.1, fun b hb => (List.count_eq_length.1 this b hb).symm⟩
    · exact absurd rfl h
theorem word1_no (o : Int) : (32 : UInt8) ∉ word1 o := by
  unfold word1
  rw [List.getD_eq_getElem?_getD]
  cases e : tab0[o.toNat]? with
  | none => simp
  | some x => exact (show ∀ x ∈ tab0, (32 : UInt8) ∉ x by decide) x (List.mem_of_getElem? e)
theorem word0_no (o : Int) : (32 : UInt8) ∉ word0 o := by
  unfold word0
  rw [List.getD_eq_getElem?_getD]
  cases e : tab1[o.toNat]? with
  | none => simp
  | some x => exact (show ∀ x ∈ tab1, (32 : UInt8) ∉ x by decide) x (List.mem_of_getElem? e)
theorem letM_no (t : Str) : (32 : UInt8) ∉ letM t := by
  by_cases h : letM t = []
  · rw [h]; simp
  · obtain ⟨c, e, h1, _⟩ := letM_form h
    rw [e]
    intro q
    have := List.mem_singleton.1 q
    rw [← this] at h1
    exact absurd h1 (by decide)
theorem dec_no (n : Int) : (32 : UInt8) ∉ decM n := decM_no (by decide) n
theorem hexM_no (t : Str) : (32 : UInt8) ∉ hexM t := by
  unfold hexM hexL listByte
  intro h
  obtain ⟨n, hn, e⟩ := List.mem_map.1 h
  obtain ⟨b, _, hb⟩ := List.mem_flatMap.1 hn
  have key : ∀ m : Nat, m < 256 → ∀ n ∈ [((hexD.getD (m / 16) 0).toNat : Int), ((hexD.getD (m % 16) 0).toNat : Int)], ¬ UInt8.ofNat n.toNat = 32 := by decide +kernel
  exact key b.toNat b.toNat_lt n hb e
theorem split2 {a : Str} (ha : (32 : UInt8) ∉ a) (s : Str) : splitM 32 (a ++ ([32] ++ s)) = a :: splitM 32 s := splitM_app s ha
def stepL (s : StepT) : List Str :=
  if s.1 = 1 then [word1 1, decM s.2.1]
  else if s.1 = 2 then [word1 2, decM s.2.1, letM s.2.2.2]
  else if s.1 = 3 then [word1 3, decM s.2.1, decM s.2.2.1]
  else if s.1 = 4 then [word1 4, decM s.2.1, decM s.2.2.1, letM s.2.2.2]
  else [word1 5, decM s.2.2.1]
theorem split_step {s : StepT} (h : StepFit s) (hne : stepM s ≠ []) : splitM 32 (stepM s) = stepL s := by
  obtain ⟨k, a, b, t⟩ := s
  have hk0 : 1 ≤ k := h.k0
  have hk1 : k ≤ 5 := h.k1
  have hl : (k = 2 ∨ k = 4) → letM t ≠ [] := fun q e => hne (by unfold stepM; rw [if_pos q, if_pos e])
  have cases5 : k = 1 ∨ k = 2 ∨ k = 3 ∨ k = 4 ∨ k = 5 := by omega
  rcases cases5 with rfl | rfl | rfl | rfl | rfl
  · show splitM 32 (word1 1 ++ ([32] ++ decM a)) = [word1 1, decM a]
    rw [split2 (word1_no 1), splitM_free (dec_no a)]
  · have e : stepM ((2 : Int), a, b, t) = (word1 2 ++ ([32] ++ decM a)) ++ ([32] ++ letM t) := by
      unfold stepM
      rw [if_pos (.inl rfl), if_neg (hl (.inl rfl))]
      rfl
    rw [e, List.append_assoc, List.append_assoc, split2 (word1_no 2), split2 (dec_no a), splitM_free (letM_no t)]
    rfl
  · show splitM 32 ((word1 3 ++ ([32] ++ decM a)) ++ ([32] ++ decM b)) = [word1 3, decM a, decM b]
    rw [List.append_assoc, List.append_assoc, split2 (word1_no 3), split2 (dec_no a), splitM_free (dec_no b)]
  · have e : stepM ((4 : Int), a, b, t) = ((word1 4 ++ ([32] ++ decM a)) ++ ([32] ++ decM b)) ++ ([32] ++ letM t) := by
      unfold stepM
      rw [if_pos (.inr rfl), if_neg (hl (.inr rfl))]
      rfl
    rw [e, List.append_assoc, List.append_assoc, List.append_assoc, List.append_assoc, split2 (word1_no 4), split2 (dec_no a), split2 (dec_no b), splitM_free (letM_no t)]
    rfl
  · show splitM 32 (word1 5 ++ ([32] ++ decM b)) = [word1 5, decM b]
    rw [split2 (word1_no 5), splitM_free (dec_no b)]
def cmdL (c : CmdT) : List Str :=
  if c.1 = 2 then stepL c.2.2.2.2
  else if c.1 = 1 then [word0 1, decM c.2.1, decM c.2.2.1, hexM c.2.2.2.1]
  else if c.1 = 7 ∨ c.1 = 9 then [word0 c.1, decM c.2.1]
  else [word0 c.1]
theorem split_cmd {c : CmdT} (h : CmdFit c) (hne : cmdM c ≠ []) : splitM 32 (cmdM c) = cmdL c := by
  unfold cmdM at hne ⊢
  unfold cmdL
  split
  · rename_i q
    rw [if_pos q] at hne
    exact split_step (h.s q) hne
  split
  · show splitM 32 (word0 1 ++ ([32] ++ (decM c.2.1 ++ ([32] ++ (decM c.2.2.1 ++ ([32] ++ hexM c.2.2.2.1)))))) = _
    rw [split2 (word0_no 1), split2 (dec_no _), split2 (dec_no _), splitM_free (hexM_no _)]
  split
  · rw [split2 (word0_no _), splitM_free (dec_no _)]
  · rw [splitM_free (word0_no _)]
/-! ### which word it is -/
def idxM (tab : List Str) (w : Str) : Int := match firstI (fun x => w == x) tab 0 with
  | some i => (i : Int)
  | none => -1
theorem idx_run (tab : List Str) (w : Str) (ht : tab.length ≤ 100) {k : Nat} (hk : 200 ≤ k) : slices_Index_string k tab w = some (idxM tab w) := by
  unfold slices_Index_string idxM
  have run := loop_find (fun j i => slices_Index_string.l0 j tab w (tab.length : Int) i) tab (fun x => w == x) (.inl ()) (fun i => .inr (i : Int)) (fun i hi => by
    refine ⟨fun hp j => ?_, fun hp j => ?_⟩
    · show slices_Index_string.l0 (j + 1) tab w (tab.length : Int) (i : Int) = slices_Index_string.l0 j tab w (tab.length : Int) ((i + 1 : Nat) : Int)
      rw [slices_Index_string.l0, dlt hi, at_nat hi, wsuc (by omega)]
      simp only [cond_true, Option.bind_some]
      rw [hp]
      rfl
    · show slices_Index_string.l0 (j + 1) tab w (tab.length : Int) (i : Int) = some (.inr (i : Int))
      rw [slices_Index_string.l0, dlt hi, at_nat hi]
      simp only [cond_true, Option.bind_some]
      rw [hp]
      rfl) (fun j => by
    show slices_Index_string.l0 (j + 1) tab w (tab.length : Int) (tab.length : Int) = some (.inl ())
    rw [slices_Index_string.l0, dnlt (Nat.le_refl _)]
    rfl) (by omega : tab.length < k)
  have run : slices_Index_string.l0 k tab w (tab.length : Int) 0 = _ := run
  rw [run]
  cases firstI (fun x => w == x) tab 0 <;> rfl
def kindS (w : Str) : Int × Int :=
  if w = word1 1 then (2, 1) else if w = word1 2 then (2, 2) else if w = word1 3 then (2, 3) else if w = word1 4 then (2, 4) else if w = word1 5 then (2, 5)
  else if w = word0 1 then (1, 0) else if w = word0 3 then (3, 0) else if w = word0 4 then (4, 0) else if w = word0 5 then (5, 0) else if w = word0 6 then (6, 0) else if w = word0 7 then (7, 0)
  else if w = word0 8 then (8, 0) else if w = word0 9 then (9, 0) else if w = word0 10 then (10, 0) else if w = word0 11 then (11, 0) else (0, 0)
theorem kinds0 (w : Str) (a : Nat) (h1 : 1 ≤ a) (h5 : a ≤ 5) (j : Nat) : spec_l17Kinds.l0 (j + 1) w (a : Int) = if w = word1 (a : Int) then some (.inr (2, (a : Int))) else spec_l17Kinds.l0 j w ((a + 1 : Nat) : Int) := by
  rw [spec_l17Kinds.l0, decide_eq_true (by omega : (a : Int) ≤ 5), sWords1 rfl (by omega) (by omega), wsuc (by omega)]
  simp only [cond_true, Option.bind_some]
  by_cases e : w = word1 (a : Int)
  · rw [if_pos e, show (w == word1 (a : Int)) = true by simpa using e]; rfl
  · rw [if_neg e, show (w == word1 (a : Int)) = false by simpa using e]; rfl
theorem kinds1 (w : Str) (a : Nat) (h1 : 1 ≤ a) (h5 : a ≤ 11) (j : Nat) : spec_l17Kinds.l1 (j + 1) w (a : Int) = if a ≠ 2 ∧ w = word0 (a : Int) then some (.inr ((a : Int), 0)) else spec_l17Kinds.l1 j w ((a + 1 : Nat) : Int) := by
  rw [spec_l17Kinds.l1, decide_eq_true (by omega : (a : Int) ≤ 11), wsuc (by omega)]
  simp only [cond_true]
  by_cases e2 : a = 2
  · subst e2
    rw [if_neg (fun q => q.1 rfl)]
    rfl
  · rw [bneT (by omega : ¬ (a : Int) = 2), sWords0 (by omega) (by omega) (by omega)]
    simp only [cond_true, Option.bind_some]
    by_cases e : w = word0 (a : Int)
    · rw [if_pos ⟨e2, e⟩, show (w == word0 (a : Int)) = true by simpa using e]; rfl
    · rw [if_neg (fun q => e q.2), show (w == word0 (a : Int)) = false by simpa using e]; rfl
theorem sKinds (w : Str) {k : Nat} (hk : 20 ≤ k) : spec_l17Kinds k w = some (kindS w) := by
  obtain ⟨k, rfl⟩ : ∃ q, k = q + 12 := ⟨k - 12, by omega⟩
  have a0 : spec_l17Kinds.l0 (k + 12) w 1 = if w = word1 1 then some (.inr (2, 1)) else spec_l17Kinds.l0 (k + 11) w 2 := kinds0 w 1 (by omega) (by omega) (k + 11)
  have a1 : spec_l17Kinds.l0 (k + 11) w 2 = if w = word1 2 then some (.inr (2, 2)) else spec_l17Kinds.l0 (k + 10) w 3 := kinds0 w 2 (by omega) (by omega) (k + 10)
  have a2 : spec_l17Kinds.l0 (k + 10) w 3 = if w = word1 3 then some (.inr (2, 3)) else spec_l17Kinds.l0 (k + 9) w 4 := kinds0 w 3 (by omega) (by omega) (k + 9)
  have a3 : spec_l17Kinds.l0 (k + 9) w 4 = if w = word1 4 then some (.inr (2, 4)) else spec_l17Kinds.l0 (k + 8) w 5 := kinds0 w 4 (by omega) (by omega) (k + 8)
  have a4 : spec_l17Kinds.l0 (k + 8) w 5 = if w = word1 5 then some (.inr (2, 5)) else spec_l17Kinds.l0 (k + 7) w 6 := kinds0 w 5 (by omega) (by omega) (k + 7)
  have a5 : spec_l17Kinds.l0 (k + 7) w 6 = some (.inl ()) := by rw [spec_l17Kinds.l0]; rfl
  have b0 : spec_l17Kinds.l1 (k + 12) w 1 = if (1 : Nat) ≠ 2 ∧ w = word0 1 then some (.inr (1, 0)) else spec_l17Kinds.l1 (k + 11) w 2 := kinds1 w 1 (by omega) (by omega) (k + 11)
  have b1 : spec_l17Kinds.l1 (k + 11) w 2 = if (2 : Nat) ≠ 2 ∧ w = word0 2 then some (.inr (2, 0)) else spec_l17Kinds.l1 (k + 10) w 3 := kinds1 w 2 (by omega) (by omega) (k + 10)
  have b2 : spec_l17Kinds.l1 (k + 10) w 3 = if (3 : Nat) ≠ 2 ∧ w = word0 3 then some (.inr (3, 0)) else spec_l17Kinds.l1 (k + 9) w 4 := kinds1 w 3 (by omega) (by omega) (k + 9)
  have b3 : spec_l17Kinds.l1 (k + 9) w 4 = if (4 : Nat) ≠ 2 ∧ w = word0 4 then some (.inr (4, 0)) else spec_l17Kinds.l1 (k + 8) w 5 := kinds1 w 4 (by omega) (by omega) (k + 8)
  have b4 : spec_l17Kinds.l1 (k + 8) w 5 = if (5 : Nat) ≠ 2 ∧ w = word0 5 then some (.inr (5, 0)) else spec_l17Kinds.l1 (k + 7) w 6 := kinds1 w 5 (by omega) (by omega) (k + 7)
  have b5 : spec_l17Kinds.l1 (k + 7) w 6 = if (6 : Nat) ≠ 2 ∧ w = word0 6 then some (.inr (6, 0)) else spec_l17Kinds.l1 (k + 6) w 7 := kinds1 w 6 (by omega) (by omega) (k + 6)
  have b6 : spec_l17Kinds.l1 (k + 6) w 7 = if (7 : Nat) ≠ 2 ∧ w = word0 7 then some (.inr (7, 0)) else spec_l17Kinds.l1 (k + 5) w 8 := kinds1 w 7 (by omega) (by omega) (k + 5)
  have b7 : spec_l17Kinds.l1 (k + 5) w 8 = if (8 : Nat) ≠ 2 ∧ w = word0 8 then some (.inr (8, 0)) else spec_l17Kinds.l1 (k + 4) w 9 := kinds1 w 8 (by omega) (by omega) (k + 4)
  have b8 : spec_l17Kinds.l1 (k + 4) w 9 = if (9 : Nat) ≠ 2 ∧ w = word0 9 then some (.inr (9, 0)) else spec_l17Kinds.l1 (k + 3) w 10 := kinds1 w 9 (by omega) (by omega) (k + 3)
  have b9 : spec_l17Kinds.l1 (k + 3) w 10 = if (10 : Nat) ≠ 2 ∧ w = word0 10 then some (.inr (10, 0)) else spec_l17Kinds.l1 (k + 2) w 11 := kinds1 w 10 (by omega) (by omega) (k + 2)
  have b10 : spec_l17Kinds.l1 (k + 2) w 11 = if (11 : Nat) ≠ 2 ∧ w = word0 11 then some (.inr (11, 0)) else spec_l17Kinds.l1 (k + 1) w 12 := kinds1 w 11 (by omega) (by omega) (k + 1)
  have bb : spec_l17Kinds.l1 (k + 1) w 12 = some (.inl ()) := by rw [spec_l17Kinds.l1]; rfl
  unfold spec_l17Kinds kindS
  rw [a0, a1, a2, a3, a4, a5]
  by_cases c1 : w = word1 1
  · simp only [if_pos c1]; rfl
  simp only [if_neg c1]
  by_cases c2 : w = word1 2
  · simp only [if_pos c2]; rfl
  simp only [if_neg c2]
  by_cases c3 : w = word1 3
  · simp only [if_pos c3]; rfl
  simp only [if_neg c3]
  by_cases c4 : w = word1 4
  · simp only [if_pos c4]; rfl
  simp only [if_neg c4]
  by_cases c5 : w = word1 5
  · simp only [if_pos c5]; rfl
  simp only [if_neg c5]
  simp only [Option.bind_some]
  rw [b0, b1, b2, b3, b4, b5, b6, b7, b8, b9, b10, bb]
  rw [if_neg (fun q => q.1 rfl : ¬ ((2 : Nat) ≠ 2 ∧ w = word0 2))]
  by_cases d1 : w = word0 1
  · rw [if_pos (⟨by omega, d1⟩ : (1 : Nat) ≠ 2 ∧ w = word0 1), if_pos d1]; rfl
  rw [if_neg (fun q => d1 q.2 : ¬ ((1 : Nat) ≠ 2 ∧ w = word0 1)), if_neg d1]
  by_cases d3 : w = word0 3
  · rw [if_pos (⟨by omega, d3⟩ : (3 : Nat) ≠ 2 ∧ w = word0 3), if_pos d3]; rfl
  rw [if_neg (fun q => d3 q.2 : ¬ ((3 : Nat) ≠ 2 ∧ w = word0 3)), if_neg d3]
  by_cases d4 : w = word0 4
  · rw [if_pos (⟨by omega, d4⟩ : (4 : Nat) ≠ 2 ∧ w = word0 4), if_pos d4]; rfl
  rw [if_neg (fun q => d4 q.2 : ¬ ((4 : Nat) ≠ 2 ∧ w = word0 4)), if_neg d4]
  by_cases d5 : w = word0 5
  · rw [if_pos (⟨by omega, d5⟩ : (5 : Nat) ≠ 2 ∧ w = word0 5), if_pos d5]; rfl
  rw [if_neg (fun q => d5 q.2 : ¬ ((5 : Nat) ≠ 2 ∧ w = word0 5)), if_neg d5]
  by_cases d6 : w = word0 6
  · rw [if_pos (⟨by omega, d6⟩ : (6 : Nat) ≠ 2 ∧ w = word0 6), if_pos d6]; rfl
  rw [if_neg (fun q => d6 q.2 : ¬ ((6 : Nat) ≠ 2 ∧ w = word0 6)), if_neg d6]
  by_cases d7 : w = word0 7
  · rw [if_pos (⟨by omega, d7⟩ : (7 : Nat) ≠ 2 ∧ w = word0 7), if_pos d7]; rfl
  rw [if_neg (fun q => d7 q.2 : ¬ ((7 : Nat) ≠ 2 ∧ w = word0 7)), if_neg d7]
  by_cases d8 : w = word0 8
  · rw [if_pos (⟨by omega, d8⟩ : (8 : Nat) ≠ 2 ∧ w = word0 8), if_pos d8]; rfl
  rw [if_neg (fun q => d8 q.2 : ¬ ((8 : Nat) ≠ 2 ∧ w = word0 8)), if_neg d8]
  by_cases d9 : w = word0 9
  · rw [if_pos (⟨by omega, d9⟩ : (9 : Nat) ≠ 2 ∧ w = word0 9), if_pos d9]; rfl
  rw [if_neg (fun q => d9 q.2 : ¬ ((9 : Nat) ≠ 2 ∧ w = word0 9)), if_neg d9]
  by_cases d10 : w = word0 10
  · rw [if_pos (⟨by omega, d10⟩ : (10 : Nat) ≠ 2 ∧ w = word0 10), if_pos d10]; rfl
  rw [if_neg (fun q => d10 q.2 : ¬ ((10 : Nat) ≠ 2 ∧ w = word0 10)), if_neg d10]
  by_cases d11 : w = word0 11
  · rw [if_pos (⟨by omega, d11⟩ : (11 : Nat) ≠ 2 ∧ w = word0 11), if_pos d11]; rfl
  rw [if_neg (fun q => d11 q.2 : ¬ ((11 : Nat) ≠ 2 ∧ w = word0 11)), if_neg d11]
  rfl
end Go.Proofs.YtcnkbllbpimaiaaGreatDoorE

namespace Go.Proofs.YtcnkbllbpimaiaaGreatDoorE
open Go
set_option linter.unusedVariables false
/-! ### the command of words, in the program -/
def blkI (y : Str) (d : Str) : Str := if y.length = 1 then Lib.repeatL y 8 else d
def stepI (i : Int) (q0 q1 q2 : Str) : StepT :=
  if i = 1 then (i, wordNum q0, 0, blkI [] [])
  else if i = 3 then (i, wordNum q0, wordNum q1, blkI [] [])
  else if i = 4 then (i, wordNum q0, wordNum q1, blkI q2 [])
  else if i = 5 then (i, 0, wordNum q0, blkI [] [])
  else (i, wordNum q0, 0, blkI q1 [])
def cmdI (w q0 q1 q2 : Str) : CmdT :=
  if 0 < idxM tab0 w then (2, 0, 0, [], stepI (idxM tab0 w) q0 q1 q2)
  else if imax 0 (idxM tab1 w) = 1 then (1, wordNum q0, wordNum q1, listByte (unhexM q2), 0, 0, 0, [])
  else if imax 0 (idxM tab1 w) = 7 ∨ imax 0 (idxM tab1 w) = 9 then (imax 0 (idxM tab1 w), wordNum q0, 0, [], 0, 0, 0, [])
  else (imax 0 (idxM tab1 w), 0, 0, [], 0, 0, 0, [])
theorem num_run {w : Str} (h : w.length ≤ 8000) : impl_wordNumber w = some (wordNum w) := by
  unfold impl_wordNumber
  rw [if_pos (by omega)]
theorem rest_at (r : List Str) (hr : ∀ x ∈ r, x.length ≤ 8000) (i : Nat) (hi : i < 3) : at? (r ++ [[], [], []]) (i : Int) = some (r.getD i []) ∧ (r.getD i []).length ≤ 8000 := by
  have hl : i < (r ++ [[], [], []]).length := by simp; omega
  rw [at_nat hl]
  by_cases h : i < r.length
  · rw [List.getElem_append_left h, List.getD_eq_getElem?_getD, List.getElem?_eq_getElem h]
    exact ⟨rfl, hr _ (List.getElem_mem h)⟩
  · rw [List.getD_eq_getElem?_getD, List.getElem?_eq_none (by omega)]
    refine ⟨?_, Nat.zero_le _⟩
    congr 1
    have : (r ++ [[], [], []])[i] ∈ ([[], [], []] : List Str) := by
      rw [List.getElem_append_right (by omega)]
      exact List.getElem_mem _
    rcases List.mem_cons.1 this with e | e
    · exact e
    · rcases List.mem_cons.1 e with e | e
      · exact e
      · exact List.mem_singleton.1 e
theorem iCmdRead (w : Str) (r : List Str) (hr : ∀ x ∈ r, x.length ≤ 8000) (hl : r.length ≤ 8001) {k : Nat} (hk : 8002 ≤ k) : impl_cmdRead k (w :: r) = some (cmdI w (r.getD 0 []) (r.getD 1 []) (r.getD 2 [])) := by
  obtain ⟨a0, b0⟩ := rest_at r hr 0 (by omega)
  obtain ⟨a1, b1⟩ := rest_at r hr 1 (by omega)
  obtain ⟨a2, b2⟩ := rest_at r hr 2 (by omega)
  have a0 : at? (r ++ [[], [], []]) 0 = some (r.getD 0 []) := a0
  have a1 : at? (r ++ [[], [], []]) 1 = some (r.getD 1 []) := a1
  have a2 : at? (r ++ [[], [], []]) 2 = some (r.getD 2 []) := a2
  have c3 : cut3? (w :: r) 1 ((w :: r).length : Int) ((w :: r).length : Int) = some r := by
    unfold cut3?
    rw [if_pos ⟨by omega, by rw [List.length_cons]; omega, rfl, Int.le_refl _⟩, Int.toNat_natCast, List.take_length]
    rfl
  have w0 : at? (w :: r) 0 = some w := at_nat (l := w :: r) (i := 0) (by simp)
  have i0 := idx_run tab0 w (by decide) (by omega : 200 ≤ k)
  have i1 := idx_run tab1 w (by decide) (by omega : 200 ≤ k)
  unfold impl_cmdRead cmdI
  rw [c3]
  simp only [Option.bind_some]
  rw [app_ok (by simp; omega)]
  simp only [Option.bind_some]
  rw [w0]
  simp only [Option.bind_some]
  rw [i0, i1]
  simp only [Option.bind_some]
  rw [a0, a1, a2]
  simp only [Option.bind_some]
  rw [num_run b0, num_run b1, iUnhex b2 hk]
  generalize r.getD 0 [] = q0 at *
  generalize r.getD 1 [] = q1 at *
  generalize r.getD 2 [] = q2 at *
  simp only [Option.bind_some]
  by_cases c : 0 < idxM tab0 w
  · rw [decide_eq_true c, if_pos c]
    simp only [cond_true]
    generalize idxM tab0 w = i
    have rep : ∀ y : Str, y.length ≤ 8000 → strings_Repeat y 8 = some (Lib.repeatL y 8) := fun y hy => by
      unfold strings_Repeat
      rw [if_pos ⟨by omega, by omega, by omega⟩]
      rfl
    unfold impl_cmdRead.j0 stepI
    rw [a0, a1, a2]
    simp only [Option.bind_some]
    rw [num_run b0, num_run b1]
    simp only [Option.bind_some, beqd]
    have fin : ∀ (y : Str) (p q s : Int) (d : Str), y.length ≤ 8000 → (bif decide ((y.length : Int) = 1) then Option.bind (strings_Repeat y 8) fun v => some ((2, 0, 0, [], p, q, s, v) : CmdT) else some (2, 0, 0, [], p, q, s, d)) = some (2, 0, 0, [], p, q, s, blkI y d) := fun y p q s d hy => by
      unfold blkI
      by_cases e : y.length = 1
      · rw [decide_eq_true (by omega : (y.length : Int) = 1), if_pos e, rep y hy]; rfl
      · rw [decide_eq_false (by omega : ¬ (y.length : Int) = 1), if_neg e]; rfl
    by_cases e1 : i = 1
    · rw [decide_eq_true e1, if_pos e1]; exact fin [] i _ _ _ (by simp)
    rw [decide_eq_false e1, if_neg e1]
    by_cases e3 : i = 3
    · rw [decide_eq_true e3, if_pos e3]; exact fin [] i _ _ _ (by simp)
    rw [decide_eq_false e3, if_neg e3]
    by_cases e4 : i = 4
    · rw [decide_eq_true e4, if_pos e4]; exact fin q2 i _ _ _ b2
    rw [decide_eq_false e4, if_neg e4]
    by_cases e5 : i = 5
    · rw [decide_eq_true e5, if_pos e5]; exact fin [] i _ _ _ (by simp)
    rw [decide_eq_false e5, if_neg e5]
    exact fin q1 i _ _ _ b1
  · rw [decide_eq_false c, if_neg c]
    simp only [cond_false, beqd]
    generalize imax 0 (idxM tab1 w) = j
    by_cases e1 : j = 1
    · rw [decide_eq_true e1, if_pos e1, e1]; rfl
    rw [decide_eq_false e1, if_neg e1]
    by_cases e7 : j = 7
    · rw [decide_eq_true e7, if_pos (.inl e7)]; rfl
    rw [decide_eq_false e7]
    by_cases e9 : j = 9
    · rw [decide_eq_true e9, if_pos (.inr e9)]; rfl
    rw [decide_eq_false e9, if_neg (fun q => q.elim e7 e9)]
    rfl
/-! ### the command of words, in the reference -/
noncomputable def numS (w : Str) : Int := (sNumW w).choose
theorem numS_run (w : Str) {k : Nat} (hk : 20 ≤ k) : spec_l17Num k w = some (numS w) := (sNumW w).choose_spec.1 k hk
theorem numS_dec {n : Int} (h0 : 0 ≤ n) (h1 : n ≤ 1000000) : numS (decM n) = n := (sNumW (decM n)).choose_spec.2 n h0 h1 rfl
theorem wordNum_dec {n : Int} (h0 : 0 ≤ n) (h1 : n ≤ 1000000) : wordNum (decM n) = n := by
  have hl := decM_len (n := n) (by omega)
  obtain ⟨v, hv, hv2⟩ := iNumW (w := decM n) (by omega)
  rw [num_run (by omega)] at hv
  rw [Option.some.inj hv]
  exact hv2 n h0 (by omega) rfl
theorem sAt (ws : List Str) (i : Nat) : spec_l17At ws (i : Int) = some (ws.getD i []) := by
  unfold spec_l17At
  by_cases h : i < ws.length
  · rw [dlt h, at_nat h, List.getD_eq_getElem?_getD, List.getElem?_eq_getElem h]
    rfl
  · rw [dnlt (by omega), List.getD_eq_getElem?_getD, List.getElem?_eq_none (by omega)]
    rfl
theorem sBlock (c : UInt8) {k : Nat} (hk : 20 ≤ k) : spec_l17Block k (c.toNat : Int) = some (List.replicate 8 c) := by
  have run := loop_of (fun j i => spec_l17Block.l0 j (c.toNat : Int) (i : Int) (List.replicate i (c.toNat : Int))) 8 (List.replicate 8 (c.toNat : Int)) (fun i hi j => by
    show spec_l17Block.l0 (j + 1) _ (i : Int) _ = spec_l17Block.l0 j _ ((i + 1 : Nat) : Int) _
    rw [spec_l17Block.l0, decide_eq_true (by omega : (i : Int) < 8), app_ok (by simp; omega), wsuc (by omega)]
    simp only [cond_true, Option.bind_some]
    rw [List.replicate_succ']) (fun j => by
    show spec_l17Block.l0 (j + 1) _ 8 _ = _
    rw [spec_l17Block.l0]
    rfl)
  have run2 := loop_at (fun j i => spec_l17Block.l0 j (c.toNat : Int) (i : Int) (List.replicate i (c.toNat : Int))) 8 (List.replicate 8 (c.toNat : Int)) (fun i hi j => by
    show spec_l17Block.l0 (j + 1) _ (i : Int) _ = spec_l17Block.l0 j _ ((i + 1 : Nat) : Int) _
    rw [spec_l17Block.l0, decide_eq_true (by omega : (i : Int) < 8), app_ok (by simp; omega), wsuc (by omega)]
    simp only [cond_true, Option.bind_some]
    rw [List.replicate_succ']) (fun j => by
    show spec_l17Block.l0 (j + 1) _ 8 _ = _
    rw [spec_l17Block.l0]
    rfl) k (by omega)
  have run3 : spec_l17Block.l0 k (c.toNat : Int) 0 [] = some (List.replicate 8 (c.toNat : Int)) := run2
  unfold spec_l17Block
  rw [run3]
  simp [listByte]
def blkS (y : Str) : Str := match y with
  | [c] => List.replicate 8 c
  | _ => []
noncomputable def stepS (i : Int) (q0 q1 q2 : Str) : StepT :=
  if i = 5 then (i, 0, numS q0, [])
  else if 3 ≤ i then (i, numS q0, numS q1, if i = 4 then blkS q2 else [])
  else (i, numS q0, 0, if i = 2 then blkS q1 else [])
theorem len1 {y : Str} (h : y.length = 1) : ∃ c, y = [c] := by
  match y, h with
  | [c], _ => exact ⟨c, rfl⟩
theorem sPut (i : Int) (w : Str) (r : List Str) {k : Nat} (hk : 20 ≤ k) : spec_l17Put k i (w :: r) = some (stepS i (r.getD 0 []) (r.getD 1 []) (r.getD 2 [])) := by
  have a1 : spec_l17At (w :: r) 1 = some (r.getD 0 []) := sAt (w :: r) 1
  have a2 : spec_l17At (w :: r) 2 = some (r.getD 1 []) := sAt (w :: r) 2
  have a3 : spec_l17At (w :: r) 3 = some (r.getD 2 []) := sAt (w :: r) 3
  generalize r.getD 0 [] = q0 at *
  generalize r.getD 1 [] = q1 at *
  generalize r.getD 2 [] = q2 at *
  have fin : ∀ (y : Str) (p q s : Int) (b : Bool), (bif (decide ((y.length : Int) = 1)) && b then Option.bind (at? y 0) fun v => Option.bind (spec_l17Block k (v.toNat : Int)) fun x => some ((p, q, s, x) : StepT) else some (p, q, s, [])) = some (p, q, s, if b = true then blkS y else []) := fun y p q s b => by
    cases b with
    | false => rw [Bool.and_false]; rfl
    | true =>
      rw [Bool.and_true]
      by_cases e : y.length = 1
      · obtain ⟨c, rfl⟩ := len1 e
        rw [decide_eq_true (by omega : (([c] : Str).length : Int) = 1), show at? ([c] : Str) 0 = some c from at_nat (l := [c]) (i := 0) (by simp)]
        simp only [cond_true, Option.bind_some]
        rw [sBlock c hk]
        rfl
      · rw [decide_eq_false (by omega : ¬ (y.length : Int) = 1)]
        have : blkS y = [] := by
          unfold blkS
          match y, e with
          | [], _ => rfl
          | [_], e => exact absurd rfl e
          | _ :: _ :: _, _ => rfl
        rw [this]
        rfl
  unfold spec_l17Put spec_l17Put.j0 spec_l17Put.j1 stepS
  by_cases e5 : i = 5
  · subst e5
    rw [if_pos rfl]
    have : ((5 : Int) != 5) = false := rfl
    rw [this]
    simp only [cond_false, Option.bind_some]
    rw [decide_eq_true (by omega : (3 : Int) ≤ 5), a1]
    simp only [cond_true, Option.bind_some]
    rw [numS_run q0 hk]
    simp only [Option.bind_some, beqd]
    rw [show IntKind.wrap .i64 (1 + 1) = 2 from rfl, a2]
    exact fin q1 5 0 (numS q0) false
  · rw [if_neg e5, bneT e5, a1]
    simp only [cond_true, Option.bind_some]
    rw [numS_run q0 hk]
    simp only [Option.bind_some]
    rw [show IntKind.wrap .i64 (1 + 1) = 2 from rfl]
    by_cases e3 : 3 ≤ i
    · rw [decide_eq_true e3, if_pos e3, a2]
      simp only [cond_true, Option.bind_some]
      rw [numS_run q1 hk]
      simp only [Option.bind_some, beqd]
      rw [show IntKind.wrap .i64 (2 + 1) = 3 from rfl, a3]
      simp only [Option.bind_some]
      rw [decide_eq_false (by omega : ¬ i = 2)]
      have := fin q2 i (numS q0) (numS q1) (false || decide (i = 4))
      rw [this]
      by_cases e4 : i = 4
      · rw [decide_eq_true e4, if_pos e4]; rfl
      · rw [decide_eq_false e4, if_neg e4]; rfl
    · rw [decide_eq_false e3, if_neg e3]
      simp only [cond_false, Option.bind_some, beqd]
      rw [a2]
      simp only [Option.bind_some]
      rw [decide_eq_false (by omega : ¬ i = 4)]
      have := fin q1 i (numS q0) 0 (decide (i = 2) || false)
      rw [this]
      by_cases e2 : i = 2
      · rw [decide_eq_true e2, if_pos e2]; rfl
      · rw [decide_eq_false e2, if_neg e2]; rfl
noncomputable def cmdS (w q0 q1 q2 : Str) : CmdT :=
  if (kindS w).1 = 1 then ((kindS w).1, numS q0, numS q1, listByte (unhexS q2), 0, 0, 0, [])
  else if (kindS w).1 = 7 ∨ (kindS w).1 = 9 then ((kindS w).1, numS q0, 0, [], 0, 0, 0, [])
  else if (kindS w).1 = 2 then ((kindS w).1, 0, 0, [], stepS (kindS w).2 q0 q1 q2)
  else ((kindS w).1, 0, 0, [], 0, 0, 0, [])
theorem sCmdRead (w : Str) (r : List Str) (hr : ∀ x ∈ r, x.length ≤ 8000) (cut : Int) (f a : List Int) {k : Nat} (hk : 8002 ≤ k) :
    spec_DeedRead.j2 k (w :: r) (kindS w).1 (kindS w).2 (kindS w).1 0 0 [] 0 0 0 [] cut f a =
      some ((cmdS w (r.getD 0 []) (r.getD 1 []) (r.getD 2 [])).1, (cmdS w (r.getD 0 []) (r.getD 1 []) (r.getD 2 [])).2.1, (cmdS w (r.getD 0 []) (r.getD 1 []) (r.getD 2 [])).2.2.1, (cmdS w (r.getD 0 []) (r.getD 1 []) (r.getD 2 [])).2.2.2.1,
        (cmdS w (r.getD 0 []) (r.getD 1 []) (r.getD 2 [])).2.2.2.2.1, (cmdS w (r.getD 0 []) (r.getD 1 []) (r.getD 2 [])).2.2.2.2.2.1, (cmdS w (r.getD 0 []) (r.getD 1 []) (r.getD 2 [])).2.2.2.2.2.2.1, (cmdS w (r.getD 0 []) (r.getD 1 []) (r.getD 2 [])).2.2.2.2.2.2.2, cut, f, a) := by
  have a1 : spec_l17At (w :: r) 1 = some (r.getD 0 []) := sAt (w :: r) 1
  have a2 : spec_l17At (w :: r) 2 = some (r.getD 1 []) := sAt (w :: r) 2
  have a3 : spec_l17At (w :: r) 3 = some (r.getD 2 []) := sAt (w :: r) 3
  have b2 := (rest_at r hr 2 (by omega)).2
  have hput := sPut (kindS w).2 w r (by omega : 20 ≤ k)
  generalize r.getD 0 [] = q0 at *
  generalize r.getD 1 [] = q1 at *
  generalize r.getD 2 [] = q2 at *
  unfold spec_DeedRead.j2 spec_DeedRead.j1 cmdS
  rw [a1, a2, a3]
  simp only [Option.bind_some]
  rw [numS_run q0 (by omega), numS_run q1 (by omega), sUnhex b2 hk, hput]
  simp only [Option.bind_some, beqd]
  generalize kindS w = kd
  by_cases e1 : kd.1 = 1
  · rw [decide_eq_true e1, if_pos e1]; rfl
  rw [decide_eq_false e1, if_neg e1]
  by_cases e7 : kd.1 = 7
  · rw [decide_eq_true e7, if_pos (.inl e7)]; rfl
  rw [decide_eq_false e7]
  by_cases e9 : kd.1 = 9
  · rw [decide_eq_true e9, if_pos (.inr e9)]; rfl
  rw [decide_eq_false e9, if_neg (fun q => q.elim e7 e9)]
  by_cases e2 : kd.1 = 2
  · rw [decide_eq_true e2, if_pos e2]; rfl
  rw [decide_eq_false e2, if_neg e2]
  rfl
end Go.Proofs.YtcnkbllbpimaiaaGreatDoorE

namespace Go.Proofs.YtcnkbllbpimaiaaGreatDoorE
open Go
set_option linter.unusedVariables false
/-! ### a command comes back from its words -/
theorem idx_step : idxM tab0 (word1 1) = 1 ∧ idxM tab0 (word1 2) = 2 ∧ idxM tab0 (word1 3) = 3 ∧ idxM tab0 (word1 4) = 4 ∧ idxM tab0 (word1 5) = 5 := by decide
theorem idx_cmd : ∀ o ∈ ([1, 3, 4, 5, 6, 7, 8, 9, 10, 11] : List Int), idxM tab0 (word0 o) = -1 ∧ idxM tab1 (word0 o) = o ∧ kindS (word0 o) = (o, 0) := by decide
theorem kind_step : kindS (word1 1) = (2, 1) ∧ kindS (word1 2) = (2, 2) ∧ kindS (word1 3) = (2, 3) ∧ kindS (word1 4) = (2, 4) ∧ kindS (word1 5) = (2, 5) := by decide
theorem zeroStep_eq {s : StepT} (h : zeroStep s = true) : s = (0, 0, 0, []) := by
  obtain ⟨k, a, b, t⟩ := s
  unfold zeroStep at h
  simp only [Bool.and_eq_true, decide_eq_true_eq, beq_iff_eq] at h
  obtain ⟨h1, h2, h3, h4⟩ := h
  subst h1 h2 h3 h4
  rfl
theorem step_back {s : StepT} (h : stepB s.1 s.2.1 s.2.2.1 s.2.2.2 8 = true) (hne : stepM s ≠ []) : ∃ w r, stepL s = w :: r ∧ (w, r.getD 0 [], r.getD 1 [], r.getD 2 []) = (word1 s.1, (stepL s).getD 1 [], (stepL s).getD 2 [], (stepL s).getD 3 []) ∧
    stepI s.1 (r.getD 0 []) (r.getD 1 []) (r.getD 2 []) = s ∧ stepS s.1 (r.getD 0 []) (r.getD 1 []) (r.getD 2 []) = s ∧ r.length ≤ 3 := by
  obtain ⟨k, a, b, t⟩ := s
  have hl : (k = 2 ∨ k = 4) → letM t ≠ [] := fun q e => hne (by unfold stepM; rw [if_pos q, if_pos e])
  have hblk : letM t ≠ [] → blkI (letM t) [] = t ∧ blkS (letM t) = t := fun q => by
    obtain ⟨c, e, _, _, ht⟩ := letM_form q
    rw [e, ht]
    exact ⟨rfl, rfl⟩
  unfold stepB at h
  dsimp only at h
  split at h
  · rename_i q
    subst q
    simp only [Bool.and_eq_true, decide_eq_true_eq, beq_iff_eq] at h
    obtain ⟨⟨⟨h1, h2⟩, h3⟩, h4⟩ := h
    subst h3 h4
    refine ⟨word1 1, [decM a], rfl, rfl, ?_, ?_, by simp⟩
    · show stepI 1 (decM a) [] [] = _
      unfold stepI
      rw [if_pos rfl, wordNum_dec h1 (by omega)]
      rfl
    · show stepS 1 (decM a) [] [] = _
      unfold stepS
      rw [if_neg (by decide), if_neg (by decide), numS_dec h1 (by omega)]
      rfl
  split at h
  · rename_i q
    subst q
    simp only [Bool.and_eq_true, decide_eq_true_eq] at h
    obtain ⟨⟨⟨h1, h2⟩, h3⟩, h4⟩ := h
    subst h3
    obtain ⟨e1, e2⟩ := hblk (hl (.inl rfl))
    refine ⟨word1 2, [decM a, letM t], rfl, rfl, ?_, ?_, by simp⟩
    · show stepI 2 (decM a) (letM t) [] = _
      unfold stepI
      rw [if_neg (by decide), if_neg (by decide), if_neg (by decide), if_neg (by decide), wordNum_dec h1 (by omega), e1]
    · show stepS 2 (decM a) (letM t) [] = _
      unfold stepS
      rw [if_neg (by decide), if_neg (by decide), if_pos rfl, numS_dec h1 (by omega), e2]
  split at h
  · rename_i q
    subst q
    simp only [Bool.and_eq_true, decide_eq_true_eq, beq_iff_eq] at h
    obtain ⟨⟨⟨h1, h2⟩, h3, h3'⟩, h4⟩ := h
    subst h4
    refine ⟨word1 3, [decM a, decM b], rfl, rfl, ?_, ?_, by simp⟩
    · show stepI 3 (decM a) (decM b) [] = _
      unfold stepI
      rw [if_neg (by decide), if_pos rfl, wordNum_dec h1 (by omega), wordNum_dec h3 (by omega)]
      rfl
    · show stepS 3 (decM a) (decM b) [] = _
      unfold stepS
      rw [if_neg (by decide), if_pos (by decide), if_neg (by decide), numS_dec h1 (by omega), numS_dec h3 (by omega)]
  split at h
  · rename_i q
    subst q
    simp only [Bool.and_eq_true, decide_eq_true_eq] at h
    obtain ⟨⟨⟨h1, h2⟩, h3, h3'⟩, h4⟩ := h
    obtain ⟨e1, e2⟩ := hblk (hl (.inr rfl))
    refine ⟨word1 4, [decM a, decM b, letM t], rfl, rfl, ?_, ?_, by simp⟩
    · show stepI 4 (decM a) (decM b) (letM t) = _
      unfold stepI
      rw [if_neg (by decide), if_neg (by decide), if_pos rfl, wordNum_dec h1 (by omega), wordNum_dec h3 (by omega), e1]
    · show stepS 4 (decM a) (decM b) (letM t) = _
      unfold stepS
      rw [if_neg (by decide), if_pos (by decide), if_pos rfl, numS_dec h1 (by omega), numS_dec h3 (by omega), e2]
  split at h
  · rename_i q
    subst q
    simp only [Bool.and_eq_true, decide_eq_true_eq, beq_iff_eq] at h
    obtain ⟨⟨h1, h3, h3'⟩, h4⟩ := h
    subst h1 h4
    refine ⟨word1 5, [decM b], rfl, rfl, ?_, ?_, by simp⟩
    · show stepI 5 (decM b) [] [] = _
      unfold stepI
      rw [if_neg (by decide), if_neg (by decide), if_neg (by decide), if_pos rfl, wordNum_dec h3 (by omega)]
      rfl
    · show stepS 5 (decM b) [] [] = _
      unfold stepS
      rw [if_pos rfl, numS_dec h3 (by omega)]
  · cases h
theorem cmd_back {c : CmdT} (h : cmdB c = true) (hne : cmdM c ≠ []) : ∃ w r, cmdL c = w :: r ∧ r.length ≤ 3 ∧ cmdI w (r.getD 0 []) (r.getD 1 []) (r.getD 2 []) = c ∧ cmdS w (r.getD 0 []) (r.getD 1 []) (r.getD 2 []) = c := by
  obtain ⟨o, a, b, t, s⟩ := c
  have simp0 : ∀ o ∈ ([1, 3, 4, 5, 6, 7, 8, 9, 10, 11] : List Int), ∀ q0 q1 q2, (o ≠ 1 → o ≠ 7 → o ≠ 9 → cmdI (word0 o) q0 q1 q2 = (o, 0, 0, [], 0, 0, 0, []) ∧ cmdS (word0 o) q0 q1 q2 = (o, 0, 0, [], 0, 0, 0, [])) ∧
      (o = 1 → cmdI (word0 o) q0 q1 q2 = (1, wordNum q0, wordNum q1, listByte (unhexM q2), 0, 0, 0, []) ∧ cmdS (word0 o) q0 q1 q2 = (1, numS q0, numS q1, listByte (unhexS q2), 0, 0, 0, [])) ∧
      (o = 7 ∨ o = 9 → cmdI (word0 o) q0 q1 q2 = (o, wordNum q0, 0, [], 0, 0, 0, []) ∧ cmdS (word0 o) q0 q1 q2 = (o, numS q0, 0, [], 0, 0, 0, [])) := by
    intro o ho q0 q1 q2
    obtain ⟨e1, e2, e3⟩ := idx_cmd o ho
    have hpos : 1 ≤ o ∧ o ≠ 2 := (show ∀ o ∈ ([1, 3, 4, 5, 6, 7, 8, 9, 10, 11] : List Int), 1 ≤ o ∧ o ≠ 2 by decide) o ho
    have hm : imax 0 o = o := by unfold imax; rw [if_pos (by omega)]
    unfold cmdI cmdS
    rw [e1, e2, e3, hm, if_neg (by decide : ¬ (0 : Int) < -1)]
    dsimp only
    refine ⟨fun n1 n7 n9 => ?_, fun n1 => ?_, fun n => ?_⟩
    · rw [if_neg n1, if_neg n1, if_neg (fun q => q.elim n7 n9), if_neg (fun q => q.elim n7 n9), if_neg hpos.2]
      exact ⟨rfl, rfl⟩
    · rw [if_pos n1, if_pos n1, n1]
      exact ⟨rfl, rfl⟩
    · have n1 : ¬ o = 1 := by rcases n with n | n <;> omega
      rw [if_neg n1, if_neg n1, if_pos n, if_pos n]
      exact ⟨rfl, rfl⟩
  unfold cmdB at h
  dsimp only at h
  split at h
  · rename_i q
    subst q
    simp only [Bool.and_eq_true, decide_eq_true_eq] at h
    obtain ⟨⟨⟨⟨h1, h2⟩, h3, h4⟩, h5⟩, h6⟩ := h
    obtain rfl := zeroStep_eq h6
    refine ⟨word0 1, [decM a, decM b, hexM t], rfl, by simp, ?_⟩
    obtain ⟨e1, e2⟩ := (simp0 1 (by decide) (decM a) (decM b) (hexM t)).2.1 rfl
    show cmdI (word0 1) (decM a) (decM b) (hexM t) = _ ∧ cmdS (word0 1) (decM a) (decM b) (hexM t) = _
    rw [e1, e2, wordNum_dec (by omega) (by omega), wordNum_dec h3 (by omega), numS_dec (by omega) (by omega), numS_dec h3 (by omega), unhex_hex, unhexS_hex]
    exact ⟨rfl, rfl⟩
  split at h
  · rename_i q
    subst q
    simp only [Bool.and_eq_true, decide_eq_true_eq, beq_iff_eq] at h
    obtain ⟨⟨⟨h1, h2⟩, h3⟩, h4⟩ := h
    subst h1 h2 h3
    obtain ⟨w, r, e1, e2, e3, e4, e5⟩ := step_back h4 hne
    refine ⟨w, r, e1, e5, ?_⟩
    have hw : w = word1 s.1 := congrArg Prod.fst e2
    have hk := (stepFit h4).k0
    have hk5 := (stepFit h4).k1
    have hi : idxM tab0 w = s.1 ∧ kindS w = (2, s.1) := by
      rw [hw]
      obtain ⟨i1, i2, i3, i4, i5⟩ := idx_step
      obtain ⟨j1, j2, j3, j4, j5⟩ := kind_step
      have : s.1 = 1 ∨ s.1 = 2 ∨ s.1 = 3 ∨ s.1 = 4 ∨ s.1 = 5 := by omega
      rcases this with q | q | q | q | q <;> rw [q] <;> constructor <;> assumption
    unfold cmdI cmdS
    rw [hi.1, hi.2, if_pos (by omega), e3]
    dsimp only
    rw [if_neg (by decide), if_neg (by decide), if_pos rfl, e4]
    exact ⟨rfl, rfl⟩
  split at h
  · rename_i q
    subst q
    simp only [Bool.and_eq_true, decide_eq_true_eq, beq_iff_eq] at h
    obtain ⟨⟨⟨⟨h1, h2⟩, h3⟩, h4⟩, h5⟩ := h
    obtain rfl := zeroStep_eq h5
    subst h3 h4
    refine ⟨word0 9, [decM a], rfl, by simp, ?_⟩
    obtain ⟨e1, e2⟩ := (simp0 9 (by decide) (decM a) [] []).2.2 (.inr rfl)
    show cmdI (word0 9) (decM a) [] [] = _ ∧ cmdS (word0 9) (decM a) [] [] = _
    rw [e1, e2, wordNum_dec (by omega) (by omega), numS_dec (by omega) (by omega)]
    exact ⟨rfl, rfl⟩
  split at h
  · rename_i q
    subst q
    simp only [Bool.and_eq_true, decide_eq_true_eq, beq_iff_eq] at h
    obtain ⟨⟨⟨⟨h1, h2⟩, h3⟩, h4⟩, h5⟩ := h
    obtain rfl := zeroStep_eq h5
    subst h3 h4
    refine ⟨word0 7, [decM a], rfl, by simp, ?_⟩
    obtain ⟨e1, e2⟩ := (simp0 7 (by decide) (decM a) [] []).2.2 (.inl rfl)
    show cmdI (word0 7) (decM a) [] [] = _ ∧ cmdS (word0 7) (decM a) [] [] = _
    rw [e1, e2, wordNum_dec (by omega) (by omega), numS_dec (by omega) (by omega)]
    exact ⟨rfl, rfl⟩
  · rename_i q1 q2 q9 q7
    simp only [Bool.and_eq_true, decide_eq_true_eq, beq_iff_eq] at h
    obtain ⟨⟨⟨⟨⟨h1, h2⟩, h3⟩, h4⟩, h5⟩, h6⟩ := h
    obtain rfl := zeroStep_eq h6
    subst h3 h4 h5
    have ho : o ∈ ([1, 3, 4, 5, 6, 7, 8, 9, 10, 11] : List Int) := by
      simp
      omega
    refine ⟨word0 o, [], ?_, by simp, ?_⟩
    · unfold cmdL
      rw [if_neg q2, if_neg q1, if_neg (fun q => q.elim q7 q9)]
    · exact (simp0 o ho [] [] []).1 q1 q7 q9
/-! ### a deed comes back from its text -/
theorem numsM_no (l : List Int) : (32 : UInt8) ∉ numsM l := by
  unfold numsM
  split
  · decide
  · have key : ∀ l : List Int, (32 : UInt8) ∉ Lib.join (l.map decM) [44] := by
      intro l
      induction l with
      | nil => exact (by decide : (32 : UInt8) ∉ ([] : Str))
      | cons n r ih =>
        rw [List.map_cons, Lib.join_cons]
        intro h
        rcases List.mem_append.1 h with h | h
        · exact dec_no n h
        · cases r with
          | nil => cases h
          | cons m r =>
            have e : Lib.joinTail [44] ((m :: r).map decM) = 44 :: Lib.join ((m :: r).map decM) [44] := by
              rw [List.map_cons, Lib.join_cons]
              unfold Lib.joinTail
              simp
            rw [e] at h
            rcases List.mem_cons.1 h with h | h
            · exact absurd h (by decide)
            · exact ih h
    exact key l
def cutW : Str := [99, 117, 116]
theorem split_deed {d : DeedT} (h : deedB d = true) (hne : deedM d ≠ []) : cmdM d.1 ≠ [] ∧ splitM 32 (deedM d) = if d.2.1 < 0 then cmdL d.1 else cutW :: decM d.2.1 :: numsM d.2.2.1 :: numsM d.2.2.2 :: cmdL d.1 := by
  have hc : cmdM d.1 ≠ [] := fun e => hne (by unfold deedM; rw [if_pos h, if_pos (.inl e), e])
  refine ⟨hc, ?_⟩
  have hf : CmdFit d.1 := cmdFit (by
    unfold deedB at h
    simp only [Bool.and_eq_true] at h
    exact h.1.1.1.1)
  unfold deedM
  rw [if_pos h]
  by_cases z : d.2.1 < 0
  · rw [if_pos (.inr z), if_pos z, split_cmd hf hc]
  · rw [if_neg (fun q => q.elim hc z), if_neg z]
    show splitM 32 (cutW ++ ([32] ++ (decM d.2.1 ++ ([32] ++ (numsM d.2.2.1 ++ ([32] ++ (numsM d.2.2.2 ++ ([32] ++ cmdM d.1)))))))) = _
    rw [split2 (by decide), split2 (dec_no _), split2 (numsM_no _), split2 (numsM_no _), split_cmd hf hc]
noncomputable def numsI (w : Str) : List Int := if h : w.length ≤ 8000 then (iNumsW h).choose else []
noncomputable def numsS (w : Str) : List Int := if h : w.length ≤ 8000 then (sNumsW h).choose else []
theorem numsI_run {w : Str} (h : w.length ≤ 8000) {k : Nat} (hk : 8002 ≤ k) : impl_wordNumbers k w = some (numsI w) ∧ (numsI w).length ≤ 8001 ∧ ∀ l, Nums l 40 → w = numsM l → numsI w = l := by
  unfold numsI
  rw [dif_pos h]
  have := (iNumsW h).choose_spec
  exact ⟨this.1 k hk, this.2⟩
theorem numsS_run {w : Str} (h : w.length ≤ 8000) {k : Nat} (hk : 8002 ≤ k) : spec_l17List k w = some (numsS w) ∧ (numsS w).length ≤ 8001 ∧ ∀ l, Nums l 40 → w = numsM l → numsS w = l := by
  unfold numsS
  rw [dif_pos h]
  have := (sNumsW h).choose_spec
  exact ⟨this.1 k hk, this.2⟩
theorem numsNums {l : List Int} {m : Nat} {h : Int} (q : numsB l m h = true) (hm : m ≤ 40) (hh : h ≤ 1000000) : Nums l 40 := by
  unfold numsB at q
  rw [Bool.and_eq_true, decide_eq_true_eq, Bool.not_eq_true', List.any_eq_false] at q
  refine ⟨by omega, fun n hn => ?_⟩
  have := q.2 n hn
  simp only [Bool.not_eq_true', Bool.and_eq_false_iff, decide_eq_false_iff_not] at this
  omega
noncomputable def deedI : List Str → DeedT
  | a :: b :: c :: d :: w :: r => if a = cutW then (cmdI w (r.getD 0 []) (r.getD 1 []) (r.getD 2 []), wordNum b, numsI c, numsI d) else (cmdI a b c d, -1, [], [])
  | w :: r => (cmdI w (r.getD 0 []) (r.getD 1 []) (r.getD 2 []), -1, [], [])
  | [] => (cmdI [] [] [] [], -1, [], [])
noncomputable def deedS : List Str → DeedT
  | a :: b :: c :: d :: w :: r => if a = cutW then (cmdS w (r.getD 0 []) (r.getD 1 []) (r.getD 2 []), numS b, numsS c, numsS d) else (cmdS a b c d, -1, [], [])
  | w :: r => (cmdS w (r.getD 0 []) (r.getD 1 []) (r.getD 2 []), -1, [], [])
  | [] => (cmdS [] [] [] [], -1, [], [])
theorem deed_back {d : DeedT} (h : deedB d = true) (hne : deedM d ≠ []) (ht : (deedM d).length ≤ 8000) : deedI (splitM 32 (deedM d)) = d ∧ deedS (splitM 32 (deedM d)) = d := by
  obtain ⟨hc, hs⟩ := split_deed h hne
  have hmem : ∀ x ∈ splitM 32 (deedM d), x.length ≤ 8000 := fun x hx => by have := (splitM_mem hx).2; omega
  rw [hs] at hmem ⊢
  have hb := h
  unfold deedB at hb
  simp only [Bool.and_eq_true, decide_eq_true_eq, Bool.or_eq_true] at hb
  obtain ⟨⟨⟨⟨hcb, hr1, hr2⟩, hn1⟩, hn2⟩, hz⟩ := hb
  obtain ⟨w, r, e1, e2, e3, e4⟩ := cmd_back hcb hc
  obtain ⟨c, k, f, a⟩ := d
  dsimp only at *
  by_cases z : k < 0
  · rw [if_pos z, e1]
    have hk : k = -1 := by omega
    have hfa : f.length = 0 ∧ a.length = 0 := hz.resolve_left (by omega)
    have hf : f = [] := List.eq_nil_of_length_eq_zero hfa.1
    have ha : a = [] := List.eq_nil_of_length_eq_zero hfa.2
    subst hk hf ha
    have fin : ∀ (I : List Str → DeedT) (C : Str → Str → Str → Str → CmdT), (∀ w r, r.length ≤ 3 → I (w :: r) = (C w (r.getD 0 []) (r.getD 1 []) (r.getD 2 []), -1, [], [])) → C w (r.getD 0 []) (r.getD 1 []) (r.getD 2 []) = c → I (w :: r) = (c, -1, [], []) := fun I C h1 h2 => by rw [h1 w r e2, h2]
    have sh : ∀ (w : Str) (r : List Str), r.length ≤ 3 → deedI (w :: r) = (cmdI w (r.getD 0 []) (r.getD 1 []) (r.getD 2 []), -1, [], []) ∧ deedS (w :: r) = (cmdS w (r.getD 0 []) (r.getD 1 []) (r.getD 2 []), -1, [], []) := fun w r hr => by
      match r, hr with
      | [], _ => exact ⟨rfl, rfl⟩
      | [_], _ => exact ⟨rfl, rfl⟩
      | [_, _], _ => exact ⟨rfl, rfl⟩
      | [_, _, _], _ => exact ⟨rfl, rfl⟩
    rw [(sh w r e2).1, (sh w r e2).2, e3, e4]
    exact ⟨rfl, rfl⟩
  · rw [if_neg z] at hmem ⊢
    rw [e1] at hmem ⊢
    have m1 := numsNums hn1 (by omega) (by omega)
    have m2 := numsNums hn2 (by omega) (by omega)
    have l1 : (numsM f).length ≤ 8000 := hmem _ (by simp)
    have l2 : (numsM a).length ≤ 8000 := hmem _ (by simp)
    have i1 := (numsI_run l1 (Nat.le_refl _)).2.2 f m1 rfl
    have i2 := (numsI_run l2 (Nat.le_refl _)).2.2 a m2 rfl
    have s1 := (numsS_run l1 (Nat.le_refl _)).2.2 f m1 rfl
    have s2 := (numsS_run l2 (Nat.le_refl _)).2.2 a m2 rfl
    unfold deedI deedS
    dsimp only
    rw [if_pos rfl, if_pos rfl, e3, e4, i1, i2, s1, s2, wordNum_dec (by omega) (by omega), numS_dec (by omega) (by omega)]
    exact ⟨rfl, rfl⟩
/-! ### the readers -/
theorem beqL {a b : Str} : (a == b) = decide (a = b) := by
  by_cases h : a = b
  · rw [decide_eq_true h]; simpa using h
  · rw [decide_eq_false h]; simpa using h
theorem split_cons (t : Str) : ∃ w r, splitM 32 t = w :: r := by
  cases e : splitM 32 t with
  | nil => exact absurd e (splitM_ne 32 t)
  | cons w r => exact ⟨w, r, rfl⟩
abbrev Tup := Int × Int × Int × Str × Int × Int × Int × Str × Int × List Int × List Int × Int
def tupD (d : DeedT) (c : Int) : Tup := (d.1.1, d.1.2.1, d.1.2.2.1, d.1.2.2.2.1, d.1.2.2.2.2.1, d.1.2.2.2.2.2.1, d.1.2.2.2.2.2.2.1, d.1.2.2.2.2.2.2.2, d.2.1, d.2.2.1, d.2.2.2, c)
def nilD (c : Int) : Tup := (0, 0, 0, [], 0, 0, 0, [], 0, [], [], c)
theorem deedI_lens (ws : List Str) (h : ∀ x ∈ ws, x.length ≤ 8000) : (deedI ws).2.2.1.length ≤ 8001 ∧ (deedI ws).2.2.2.length ≤ 8001 := by
  unfold deedI
  split
  · split
    · exact ⟨(numsI_run (h _ (by simp)) (Nat.le_refl _)).2.1, (numsI_run (h _ (by simp)) (Nat.le_refl _)).2.1⟩
    · exact ⟨by simp, by simp⟩
  · exact ⟨by simp, by simp⟩
  · exact ⟨by simp, by simp⟩
theorem deedS_lens (ws : List Str) (h : ∀ x ∈ ws, x.length ≤ 8000) : (deedS ws).2.2.1.length ≤ 8001 ∧ (deedS ws).2.2.2.length ≤ 8001 := by
  unfold deedS
  split
  · split
    · exact ⟨(numsS_run (h _ (by simp)) (Nat.le_refl _)).2.1, (numsS_run (h _ (by simp)) (Nat.le_refl _)).2.1⟩
    · exact ⟨by simp, by simp⟩
  · exact ⟨by simp, by simp⟩
  · exact ⟨by simp, by simp⟩
theorem iRead (t : Str) (ht : t.length ≤ 8000) {k : Nat} (hk : 2000000 ≤ k) :
    impl_DeedRead k t = some (if deedB (deedI (splitM 32 t)) = true ∧ deedM (deedI (splitM 32 t)) = t then tupD (deedI (splitM 32 t)) 0 else nilD 3) := by
  have hmem : ∀ x ∈ splitM 32 t, x.length ≤ 8000 := fun x hx => by have := (splitM_mem hx).2; omega
  have hlen := splitM_len 32 t
  have hL := deedI_lens _ hmem
  unfold impl_DeedRead impl_deedRead
  rw [decide_eq_false (by omega : ¬ (8000 : Int) < (t.length : Int)), iSplit (by omega)]
  simp only [cond_false, Option.bind_some]
  obtain ⟨w, r, e⟩ := split_cons t
  rw [e] at hmem hlen hL ⊢
  have j0 : ∃ w' r', impl_deedRead.j0 k 0 0 0 [] 0 0 0 [] (-1) (w :: r) [] [] = some (w' :: r', 0, 0, 0, [], 0, 0, 0, [], (deedI (w :: r)).2) ∧ (deedI (w :: r)).1 = cmdI w' (r'.getD 0 []) (r'.getD 1 []) (r'.getD 2 []) ∧ (∀ x ∈ r', x.length ≤ 8000) ∧ r'.length ≤ 8001 := by
    unfold impl_deedRead.j0
    rw [show at? (w :: r) 0 = some w from at_nat (l := w :: r) (i := 0) (by simp)]
    simp only [Option.bind_some]
    by_cases c : w = cutW ∧ 4 ≤ r.length
    · obtain ⟨c1, c2⟩ := c
      match r, c2, hmem, hlen with
      | b :: c :: d :: x :: r', _, hmem, hlen =>
        have hb := hmem b (by simp)
        have hc := hmem c (by simp)
        have hd := hmem d (by simp)
        have hl5 : ((cutW :: b :: c :: d :: x :: r').length : Int) = (r'.length : Int) + 5 := by simp; omega
        refine ⟨x, r', ?_, ?_, fun y hy => hmem y (by simp [hy]), by simp at hlen; omega⟩
        · rw [c1, hl5, decide_eq_true (by omega : (4 : Int) < (r'.length : Int) + 5), show ((cutW == ([99, 117, 116] : Str)) && true) = true from rfl]
          simp only [cond_true]
          rw [show at? (cutW :: b :: c :: d :: x :: r') 1 = some b from at_nat (l := cutW :: b :: c :: d :: x :: r') (i := 1) (by simp), show at? (cutW :: b :: c :: d :: x :: r') 2 = some c from at_nat (l := cutW :: b :: c :: d :: x :: r') (i := 2) (by simp),
            show at? (cutW :: b :: c :: d :: x :: r') 3 = some d from at_nat (l := cutW :: b :: c :: d :: x :: r') (i := 3) (by simp)]
          simp only [Option.bind_some]
          rw [num_run hb, (numsI_run hc (by omega)).1, (numsI_run hd (by omega)).1]
          simp only [Option.bind_some]
          have c4 : cut? (cutW :: b :: c :: d :: x :: r') 4 ((r'.length : Int) + 5) = some (x :: r') := by
            have := cut_ok (l := cutW :: b :: c :: d :: x :: r') (i := 4) (j := r'.length + 5) (by omega) (by simp)
            rw [List.take_of_length_le (by simp)] at this
            rw [show ((r'.length + 5 : Nat) : Int) = (r'.length : Int) + 5 by omega] at this
            exact this
          rw [c4]
          unfold deedI
          dsimp only
          rw [if_pos rfl]
          rfl
        · unfold deedI
          dsimp only
          rw [if_pos c1]
    · have hcond : ((w == ([99, 117, 116] : Str)) && decide ((4 : Int) < ((w :: r).length : Int))) = false := by
        rw [beqL, Bool.and_eq_false_iff]
        by_cases q : w = cutW
        · right
          refine decide_eq_false fun q2 => c ⟨q, ?_⟩
          rw [List.length_cons] at q2
          omega
        · left
          exact decide_eq_false q
      rw [hcond]
      refine ⟨w, r, ?_, ?_, fun y hy => hmem y (List.mem_cons_of_mem _ hy), by simp at hlen; omega⟩
      · have : (deedI (w :: r)).2 = (-1, [], []) := by
          match r, c with
          | [], _ => rfl
          | [_], _ => rfl
          | [_, _], _ => rfl
          | [_, _, _], _ => rfl
          | b :: c :: d :: x :: r', c' =>
            unfold deedI
            dsimp only
            rw [if_neg (fun q => c' ⟨q, by simp⟩)]
        rw [this]
        rfl
      · match r, c with
        | [], _ => rfl
        | [_], _ => rfl
        | [_, _], _ => rfl
        | [_, _, _], _ => rfl
        | b :: c :: d :: x :: r', c' =>
          unfold deedI
          dsimp only
          rw [if_neg (fun q => c' ⟨q, by simp⟩)]
          rfl
  obtain ⟨w', r', h1, h2, h3, h4⟩ := j0
  rw [h1]
  simp only [Option.bind_some]
  rw [iCmdRead w' r' h3 h4 (by omega), ← h2]
  simp only [Option.bind_some]
  generalize deedI (w :: r) = d at hL ⊢
  have hid : impl_isDeed k (d.1, d.2) = some (deedB d) := iDeed d (by omega) (by omega) (by omega) (by omega)
  rw [hid]
  simp only [Option.bind_some]
  cases hb : deedB d with
  | false =>
    rw [if_neg (fun q => by cases q.1)]
    rfl
  | true =>
    have htx : impl_deedText k (d.1, d.2) = some (deedM d) := iDeedB hb hk
    rw [htx]
    simp only [Bool.not_true, cond_false, Option.bind_some]
    rw [beqL]
    by_cases q : deedM d = t
    · rw [decide_eq_true q, if_pos ⟨trivial, q⟩]
      rfl
    · rw [decide_eq_false q, if_neg (fun z => q z.2)]
      rfl
theorem sRead (t : Str) (ht : t.length ≤ 8000) {k : Nat} (hk : 2000000 ≤ k) :
    spec_DeedRead k t = some (if t ≠ [] ∧ deedM (deedS (splitM 32 t)) = t then tupD (deedS (splitM 32 t)) 0 else nilD 3) := by
  have hmem : ∀ x ∈ splitM 32 t, x.length ≤ 8000 := fun x hx => by have := (splitM_mem hx).2; omega
  have hlen := splitM_len 32 t
  have hL := deedS_lens _ hmem
  unfold spec_DeedRead
  have hsp : spec_l01Split k t 32 = some (splitM 32 t) := sSplit (c := 32) (by omega) (by omega)
  rw [decide_eq_false (by omega : ¬ (8000 : Int) < (t.length : Int)), hsp]
  simp only [cond_false, Option.bind_some]
  obtain ⟨w, r, e⟩ := split_cons t
  rw [e] at hmem hlen hL ⊢
  have j0 : ∃ w' r', spec_DeedRead.j0 k 0 0 0 [] 0 0 0 [] (-1) (w :: r) [] [] = some (w' :: r', 0, 0, 0, [], 0, 0, 0, [], (deedS (w :: r)).2) ∧ (deedS (w :: r)).1 = cmdS w' (r'.getD 0 []) (r'.getD 1 []) (r'.getD 2 []) ∧ (∀ x ∈ r', x.length ≤ 8000) ∧ r'.length ≤ 8001 := by
    unfold spec_DeedRead.j0
    rw [show at? (w :: r) 0 = some w from at_nat (l := w :: r) (i := 0) (by simp)]
    simp only [Option.bind_some]
    by_cases c : w = cutW ∧ 4 ≤ r.length
    · obtain ⟨c1, c2⟩ := c
      match r, c2, hmem, hlen with
      | b :: c :: d :: x :: r', _, hmem, hlen =>
        have hb := hmem b (by simp)
        have hc := hmem c (by simp)
        have hd := hmem d (by simp)
        have hl5 : ((cutW :: b :: c :: d :: x :: r').length : Int) = (r'.length : Int) + 5 := by simp; omega
        refine ⟨x, r', ?_, ?_, fun y hy => hmem y (by simp [hy]), by simp at hlen; omega⟩
        · rw [c1, hl5, decide_eq_true (by omega : (4 : Int) < (r'.length : Int) + 5), show ((cutW == ([99, 117, 116] : Str)) && true) = true from rfl]
          simp only [cond_true]
          rw [show at? (cutW :: b :: c :: d :: x :: r') 1 = some b from at_nat (l := cutW :: b :: c :: d :: x :: r') (i := 1) (by simp), show at? (cutW :: b :: c :: d :: x :: r') 2 = some c from at_nat (l := cutW :: b :: c :: d :: x :: r') (i := 2) (by simp),
            show at? (cutW :: b :: c :: d :: x :: r') 3 = some d from at_nat (l := cutW :: b :: c :: d :: x :: r') (i := 3) (by simp)]
          simp only [Option.bind_some]
          rw [numS_run b (by omega), (numsS_run hc (by omega)).1, (numsS_run hd (by omega)).1]
          simp only [Option.bind_some]
          have c4 : cut? (cutW :: b :: c :: d :: x :: r') 4 ((r'.length : Int) + 5) = some (x :: r') := by
            have := cut_ok (l := cutW :: b :: c :: d :: x :: r') (i := 4) (j := r'.length + 5) (by omega) (by simp)
            rw [List.take_of_length_le (by simp)] at this
            rw [show ((r'.length + 5 : Nat) : Int) = (r'.length : Int) + 5 by omega] at this
            exact this
          rw [c4]
          unfold deedS
          dsimp only
          rw [if_pos rfl]
          rfl
        · unfold deedS
          dsimp only
          rw [if_pos c1]
    · have hcond : ((w == ([99, 117, 116] : Str)) && decide ((4 : Int) < ((w :: r).length : Int))) = false := by
        rw [beqL, Bool.and_eq_false_iff]
        by_cases q : w = cutW
        · right
          refine decide_eq_false fun q2 => c ⟨q, ?_⟩
          rw [List.length_cons] at q2
          omega
        · left
          exact decide_eq_false q
      rw [hcond]
      refine ⟨w, r, ?_, ?_, fun y hy => hmem y (List.mem_cons_of_mem _ hy), by simp at hlen; omega⟩
      · have : (deedS (w :: r)).2 = (-1, [], []) := by
          match r, c with
          | [], _ => rfl
          | [_], _ => rfl
          | [_, _], _ => rfl
          | [_, _, _], _ => rfl
          | b :: c :: d :: x :: r', c' =>
            unfold deedS
            dsimp only
            rw [if_neg (fun q => c' ⟨q, by simp⟩)]
        rw [this]
        rfl
      · match r, c with
        | [], _ => rfl
        | [_], _ => rfl
        | [_, _], _ => rfl
        | [_, _, _], _ => rfl
        | b :: c :: d :: x :: r', c' =>
          unfold deedS
          dsimp only
          rw [if_neg (fun q => c' ⟨q, by simp⟩)]
          rfl
  obtain ⟨w', r', h1, h2, h3, h4⟩ := j0
  rw [h1]
  simp only [Option.bind_some]
  rw [show at? (w' :: r') 0 = some w' from at_nat (l := w' :: r') (i := 0) (by simp)]
  simp only [Option.bind_some]
  rw [sKinds w' (by omega)]
  simp only [Option.bind_some]
  rw [sCmdRead w' r' h3 _ _ _ (by omega), ← h2]
  simp only [Option.bind_some]
  generalize deedS (w :: r) = d at hL ⊢
  rw [beqL]
  by_cases q : t = []
  · rw [decide_eq_true q, if_neg (fun z => z.1 q)]
    rfl
  · rw [decide_eq_false q]
    have htx := sDeedText d (by omega) (by omega) hk
    have htx : spec_DeedText k ((d.1.1, (d.1.2.1, (d.1.2.2.1, (d.1.2.2.2.1, (d.1.2.2.2.2.1, (d.1.2.2.2.2.2.1, (d.1.2.2.2.2.2.2.1, d.1.2.2.2.2.2.2.2))))))), d.2) = some (deedM d) := htx
    rw [htx]
    simp only [cond_false, Option.bind_some]
    rw [beqL]
    by_cases z : deedM d = t
    · rw [decide_eq_true z, if_pos ⟨q, z⟩]
      rfl
    · rw [decide_eq_false z, if_neg (fun y => z y.2)]
      rfl
/-- Both sides read the same, at every text. -/
theorem bothRead (t : Str) (ht : t.length ≤ 8000) : ∃ d : DeedT, ∃ c : Int, (∀ k, 2000000 ≤ k → impl_DeedRead k t = some (tupD d c) ∧ spec_DeedRead k t = some (tupD d c)) ∧ d.2.2.1.length ≤ 8001 ∧ d.2.2.2.length ≤ 8001 ∧
    ((c = 0 ∧ deedB d = true ∧ deedM d = t ∧ t ≠ []) ∨ (c = 3 ∧ ∀ e : DeedT, deedB e = true → deedM e = t → t = [])) := by
  have hmem : ∀ x ∈ splitM 32 t, x.length ≤ 8000 := fun x hx => by have := (splitM_mem hx).2; omega
  have hnil : deedB (deedI (splitM 32 [])) = false := by
    have : (deedI (splitM 32 [])).1.1 = 0 := by
      show (cmdI [] [] [] []).1 = 0
      unfold cmdI
      rw [if_neg (by decide), if_neg (by decide), if_neg (by decide)]
      decide
    unfold deedB cmdB
    rw [this]
    rfl
  by_cases h : ∃ e : DeedT, deedB e = true ∧ deedM e = t ∧ t ≠ []
  · obtain ⟨e, h1, h2, h3⟩ := h
    obtain ⟨b1, b2⟩ := deed_back h1 (by rw [h2]; exact h3) (by rw [h2]; exact ht)
    rw [h2] at b1 b2
    refine ⟨e, 0, fun k hk => ?_, by rw [← b1]; exact (deedI_lens _ hmem).1, by rw [← b1]; exact (deedI_lens _ hmem).2, .inl ⟨rfl, h1, h2, h3⟩⟩
    rw [iRead t ht hk, sRead t ht hk, b1, b2, if_pos ⟨h1, h2⟩, if_pos ⟨h3, h2⟩]
    exact ⟨rfl, rfl⟩
  · have no : ∀ e : DeedT, deedB e = true → deedM e = t → t = [] := fun e h1 h2 => Classical.byContradiction fun h3 => h ⟨e, h1, h2, h3⟩
    refine ⟨((0, 0, 0, [], 0, 0, 0, []), 0, [], []), 3, fun k hk => ?_, by simp, by simp, .inr ⟨rfl, no⟩⟩
    rw [iRead t ht hk, sRead t ht hk, if_neg, if_neg]
    · exact ⟨rfl, rfl⟩
    · intro q
      cases hb : deedB (deedS (splitM 32 t)) with
      | true => exact q.1 (no _ hb q.2)
      | false =>
        have := q.2
        unfold deedM at this
        rw [hb] at this
        exact q.1 this.symm
    · intro q
      have ht0 := no _ q.1 q.2
      subst ht0
      rw [hnil] at q
      cases q.1
end Go.Proofs.YtcnkbllbpimaiaaGreatDoorE

namespace Go.Proofs.YtcnkbllbpimaiaaGreatDoorE
open Go
set_option linter.unusedVariables false
def mtL : Nat → Int → Str → Str
  | 0, _, o => o
  | d + 1, n, o => if 0 < n then mtL d (n.tdiv 10) (listByte [IntKind.wrap .u8 (IntKind.wrap .i64 (48 + n.tmod 10))] ++ o) else o
/-- The text of a mark. -/
def mt (n : Int) : Str := if n ≤ 0 then [109, 48] else [109] ++ mtL 20 n []
theorem mtL_len : ∀ (d : Nat) (n : Int) (o : Str), (mtL d n o).length ≤ o.length + d
  | 0, _, _ => Nat.le_refl _
  | d + 1, n, o => by
    unfold mtL
    split
    · have := mtL_len d (n.tdiv 10) (listByte [IntKind.wrap .u8 (IntKind.wrap .i64 (48 + n.tmod 10))] ++ o)
      simp [listByte] at this ⊢
      omega
    · omega
theorem beq_self_str (s : Str) : (s == s) = true := by simp
/-- The marks of a list of strings. -/
def marks (n : Nat) (k : Int) : List Str := (List.range n).map fun (i : Nat) => mt (k + (i : Int))
theorem getElem_range_map {β : Type} (f : Nat → β) (n i : Nat) (h : i < n) : ((List.range n).map f)[i]'(by simpa using h) = f i := by simp
/-- What a list looks like when its first places have been written. -/
theorem mark_step {β : Type} (l : List β) (f : Nat → β) (i : Nat) (h : i < l.length) : ((List.range i).map f ++ l.drop i).set i (f i) = (List.range (i + 1)).map f ++ l.drop (i + 1) := by
  rw [List.set_append_right _ _ (by simp), List.length_map, List.length_range, Nat.sub_self, List.drop_eq_getElem_cons h, List.set_cons_zero, List.range_succ, List.map_append, List.append_assoc]
  rfl
theorem mark_len {β : Type} (l : List β) (f : Nat → β) (i : Nat) (h : i ≤ l.length) : ((List.range i).map f ++ l.drop i).length = l.length := by simp; omega
theorem at_set {α : Type} {l : List α} {i : Nat} {x : α} (h : i < l.length) : at? (l.set i x) (i : Int) = some x := by
  rw [at_nat (by rw [List.length_set]; exact h), List.getElem_set_self]
end Go.Proofs.YtcnkbllbpimaiaaGreatDoorE

namespace Go.Proofs.YtcnkbllbpimaiaaGreatDoorE
open Go
set_option linter.unusedVariables false
def marksI (n k0 : Nat) : List Int := (List.range n).map fun (i : Nat) => ((k0 + i : Nat) : Int)
theorem marksI_len (n k0 : Nat) : (marksI n k0).length = n := by simp [marksI]
theorem markInt_eq (l : List Int) (k0 : Nat) (h : k0 + l.length < 9223372036854775000) {k : Nat} (hk : l.length < k) : laws_markInt64S k l (k0 : Int) = some (((k0 + l.length : Nat) : Int), marksI l.length k0) := by
  have key := loop_at (fun j i => laws_markInt64S.l0 j ((k0 + i : Nat) : Int) (i : Int) ((List.range i).map (fun (i : Nat) => ((k0 + i : Nat) : Int)) ++ l.drop i)) l.length (((k0 + l.length : Nat) : Int), marksI l.length k0) (fun i hi j => by
    have hlen := mark_len l (fun (i : Nat) => ((k0 + i : Nat) : Int)) i (by omega)
    show laws_markInt64S.l0 (j + 1) _ (i : Int) _ = laws_markInt64S.l0 j _ _ _
    rw [laws_markInt64S.l0, hlen, dlt hi, at_nat (by rw [hlen]; exact hi)]
    simp only [cond_true, Option.bind_some]
    rw [Int.toNat_natCast, mark_step l (fun (i : Nat) => ((k0 + i : Nat) : Int)) i hi, wsuc (by omega), wsuc (by omega)]
    rfl) (fun j => by
    have hlen := mark_len l (fun (i : Nat) => ((k0 + i : Nat) : Int)) l.length (Nat.le_refl _)
    show laws_markInt64S.l0 (j + 1) _ (l.length : Int) _ = _
    rw [laws_markInt64S.l0, hlen, dnlt (Nat.le_refl _)]
    simp only [cond_false]
    rw [List.drop_length, List.append_nil]
    rfl) k hk
  have key : laws_markInt64S.l0 k (k0 : Int) 0 l = _ := key
  unfold laws_markInt64S
  rw [key]
  rfl
theorem heldInt_eq (n k0 : Nat) (h : k0 + n < 9223372036854775000) {k : Nat} (hk : n < k) : laws_heldInt64S k (marksI n k0) (k0 : Int) = some ((k0 + n : Nat) : Int) := by
  have hl := marksI_len n k0
  have key := loop_at (fun j i => laws_heldInt64S.l0 j (marksI n k0) ((k0 + i : Nat) : Int) (i : Int)) n (.inl ((k0 + n : Nat) : Int)) (fun i hi j => by
    show laws_heldInt64S.l0 (j + 1) _ _ (i : Int) = laws_heldInt64S.l0 j _ _ _
    have e : (marksI n k0)[i]'(by rw [hl]; exact hi) = ((k0 + i : Nat) : Int) := by simp [marksI]
    rw [laws_heldInt64S.l0, hl, dlt hi, at_nat (by rw [hl]; exact hi), e]
    simp only [cond_true, Option.bind_some, bne_self_eq_false, cond_false]
    rw [wsuc (by omega), wsuc (by omega)]
    rfl) (fun j => by
    show laws_heldInt64S.l0 (j + 1) _ _ (n : Int) = _
    rw [laws_heldInt64S.l0, hl, dnlt (Nat.le_refl _)]
    rfl) k hk
  have key : laws_heldInt64S.l0 k (marksI n k0) (k0 : Int) 0 = _ := key
  unfold laws_heldInt64S
  rw [key]
  rfl
end Go.Proofs.YtcnkbllbpimaiaaGreatDoorE

namespace Go.Proofs.YtcnkbllbpimaiaaGreatDoorE
open Go
def laws_FnExactDeedRead.Pure : Prop := ∀ (y0 : Str), Bnd .str y0 → ∃ k : Nat, laws_FnExactDeedRead k y0 = some true
end Go.Proofs.YtcnkbllbpimaiaaGreatDoorE

namespace Go.Proofs.YtcnkbllbpimaiaaGreatDoorE
open Go
set_option linter.unusedVariables false
theorem bothRead8 (t : Str) (ht : t.length ≤ 1048576) : ∃ d : DeedT, ∃ c : Int, (∀ k, 2000000 ≤ k → impl_DeedRead k t = some (tupD d c) ∧ spec_DeedRead k t = some (tupD d c)) ∧ d.2.2.1.length ≤ 8001 ∧ d.2.2.2.length ≤ 8001 := by
  by_cases h : t.length ≤ 8000
  · obtain ⟨d, c, h1, h2, h3, _⟩ := bothRead t h
    exact ⟨d, c, h1, h2, h3⟩
  · refine ⟨((0, 0, 0, [], 0, 0, 0, []), 0, [], []), 2, fun k hk => ?_, by simp, by simp⟩
    unfold impl_DeedRead spec_DeedRead
    rw [decide_eq_true (by omega : (8000 : Int) < (t.length : Int))]
    exact ⟨rfl, rfl⟩
theorem eqDeedOut_refl (d : DeedT) (c : Int) (h1 : d.2.2.1.length ≤ 8001) (h2 : d.2.2.2.length ≤ 8001) : Ever fun k => laws_eqDeedOut k (d, c) (d, c) = some true := by
  refine ((eqInt64S_refl d.2.2.1 (by omega)).and (eqInt64S_refl d.2.2.2 (by omega))).mono fun k ⟨g3, g4⟩ => ?_
  unfold laws_eqDeedOut laws_eqDeed laws_eqCmd laws_eqStep
  rw [g3, g4]
  simp only [bne_self_eq_false, beq_self_eq_true, Option.bind_some, Bool.not_true, cond_false]
theorem laws_FnExactDeedRead.proved : laws_FnExactDeedRead.Pure := by
  intro t hd
  by_cases hl : 1048576 < t.length
  · refine ⟨0, ?_⟩
    unfold laws_FnExactDeedRead
    rw [decide_eq_true (by omega : (1048576 : Int) < (t.length : Int))]
    rfl
  · obtain ⟨d, c, hb, h1, h2⟩ := bothRead8 t (by omega)
    obtain ⟨k, g1, g2⟩ := ((eqDeedOut_refl d c h1 h2).and (Ever.ge 2000000 fun k hk => hk)).ex
    refine ⟨k, ?_⟩
    obtain ⟨b1, b2⟩ := hb k g2
    have e1 : laws_markDeedOut k (d, c) 1 = some (((1 + d.2.2.1.length + d.2.2.2.length : Nat) : Int), marksI d.2.2.1.length 1, marksI d.2.2.2.length (1 + d.2.2.1.length)) := by
      unfold laws_markDeedOut laws_markDeed
      rw [show laws_markInt64S k d.2.2.1 1 = _ from markInt_eq d.2.2.1 1 (by omega) (by omega)]
      simp only [Option.bind_some]
      rw [markInt_eq d.2.2.2 (1 + d.2.2.1.length) (by omega) (by omega)]
      rfl
    have e2 : laws_heldDeedOut k ((d.1, (d.2.1, (marksI d.2.2.1.length 1, marksI d.2.2.2.length (1 + d.2.2.1.length)))), c) 1 = some ((1 + d.2.2.1.length + d.2.2.2.length : Nat) : Int) := by
      unfold laws_heldDeedOut laws_heldDeed
      rw [show laws_heldInt64S k (marksI d.2.2.1.length 1) 1 = _ from heldInt_eq d.2.2.1.length 1 (by omega) (by omega)]
      simp only [Option.bind_some]
      rw [decide_eq_false (by omega : ¬ ((1 + d.2.2.1.length : Nat) : Int) < 0)]
      simp only [cond_false]
      rw [heldInt_eq d.2.2.2.length (1 + d.2.2.1.length) (by omega) (by omega)]
      simp only [Option.bind_some]
      rw [decide_eq_false (by omega : ¬ ((1 + d.2.2.1.length + d.2.2.2.length : Nat) : Int) < 0)]
      rfl
    unfold laws_FnExactDeedRead
    rw [decide_eq_false (by omega : ¬ (1048576 : Int) < (t.length : Int)), b1, b2]
    simp only [cond_false, Option.bind_some]
    unfold tupD
    dsimp only
    have g1 : laws_eqDeedOut k (((d.1.1, (d.1.2.1, (d.1.2.2.1, (d.1.2.2.2.1, (d.1.2.2.2.2.1, (d.1.2.2.2.2.2.1, (d.1.2.2.2.2.2.2.1, d.1.2.2.2.2.2.2.2))))))), (d.2.1, (d.2.2.1, d.2.2.2))), c) (((d.1.1, (d.1.2.1, (d.1.2.2.1, (d.1.2.2.2.1, (d.1.2.2.2.2.1, (d.1.2.2.2.2.2.1, (d.1.2.2.2.2.2.2.1, d.1.2.2.2.2.2.2.2))))))), (d.2.1, (d.2.2.1, d.2.2.2))), c) = some true := g1
    have e1 : laws_markDeedOut k (((d.1.1, (d.1.2.1, (d.1.2.2.1, (d.1.2.2.2.1, (d.1.2.2.2.2.1, (d.1.2.2.2.2.2.1, (d.1.2.2.2.2.2.2.1, d.1.2.2.2.2.2.2.2))))))), (d.2.1, (d.2.2.1, d.2.2.2))), c) 1 = _ := e1
    have e2 : laws_heldDeedOut k (((d.1.1, (d.1.2.1, (d.1.2.2.1, (d.1.2.2.2.1, (d.1.2.2.2.2.1, (d.1.2.2.2.2.2.1, (d.1.2.2.2.2.2.2.1, d.1.2.2.2.2.2.2.2))))))), (d.2.1, (marksI d.2.2.1.length 1, marksI d.2.2.2.length (1 + d.2.2.1.length)))), c) 1 = _ := e2
    rw [g1, e1]
    simp only [Option.bind_some, Bool.not_true, cond_false]
    rw [e2]
    simp only [Option.bind_some]
    rw [decide_eq_false (by omega : ¬ ((1 + d.2.2.1.length + d.2.2.2.length : Nat) : Int) < 0)]
    simp only [cond_false, bne_self_eq_false]
end Go.Proofs.YtcnkbllbpimaiaaGreatDoorE

namespace Go.Proofs.YtcnkbllbpimaiaaGreatDoor.fnExactDeedRead
open Go Go.ChangeShapes Go.WideShapes Go.ChangeAt Go.RowKit Go.Proofs.YtcnkbllbpimaiaaGreatDoorE
set_option linter.unusedVariables false
theorem own : ownKnob Tryz.prog.godebug = none := by kernel_rfl
theorem laidOut : laidOutB Tryz.prog = true := by kernel_rfl
theorem go (k : Nat) (y0 : Str) : (laws_FnExactDeedRead.con k).f [argC false .str y0] = .opt (Prod' laws_FnExactDeedRead.sig.outs) (laws_FnExactDeedRead k y0) laws_FnExactDeedRead.sig.enc := by kernel_rfl
abbrev laidL : List (String × DataW Unit) := [("math/bits.deBruijn32tab", Rows.laid_math_bits_deBruijn32tab), ("math/bits.deBruijn64tab", Rows.laid_math_bits_deBruijn64tab), ("internal/strconv.uint64pow10", Rows.laid_internal_strconv_uint64pow10), ("unicode/utf8.acceptRanges", Rows.laid_unicode_utf8_acceptRanges), ("strconv.ErrRange", Rows.laid_strconv_ErrRange), ("strconv.ErrSyntax", Rows.laid_strconv_ErrSyntax), ("loop.example/g00668/impl.deedWords", Rows.laid_loop_example_g00668_impl_deedWords), ("loop.example/g00668/impl.stepWords", Rows.laid_loop_example_g00668_impl_stepWords), ("unicode/utf8.first", Rows.laid_unicode_utf8_first)]
theorem globals {W : World} (h : laidMetH Tryz.prog laidL W) (hs : W.ShapedOpen Tryz.prog) : GlW W := by
  rw [MakeChecks.laidMetH_plain _ _ _ (by kernel_rfl)] at h
  intro n r l e
  unfold GL at e
  split at e
  · cases e; exact laid_strs h (name := "loop.example/g00668/impl.stepWords") (ss := tab0) (List.mem_of_getElem? (i := 7) (by kernel_rfl)) (n := 6) (t := 207) (e := 9) (by kernel_rfl) (by kernel_rfl) (by kernel_rfl) (by kernel_rfl) (by kernel_rfl) (by kernel_rfl)
  · cases e; exact laid_strs h (name := "loop.example/g00668/impl.deedWords") (ss := tab1) (List.mem_of_getElem? (i := 6) (by kernel_rfl)) (n := 12) (t := 209) (e := 9) (by kernel_rfl) (by kernel_rfl) (by kernel_rfl) (by kernel_rfl) (by kernel_rfl) (by kernel_rfl)
  · cases e; exact shaped_int hs (zero := #[.int .i64 0]) (g := 3) (t := 3) (by decide +kernel) (by kernel_rfl) (by kernel_rfl) (by kernel_rfl) (by kernel_rfl) (by kernel_rfl)
  · cases e; exact laid_iface h (name := "strconv.ErrSyntax") (i := 5) (by kernel_rfl) (g := 5) (t := 202) (by kernel_rfl) (by kernel_rfl) (by kernel_rfl)
  · cases e; exact laid_iface h (name := "strconv.ErrRange") (i := 4) (by kernel_rfl) (g := 6) (t := 202) (by kernel_rfl) (by kernel_rfl) (by kernel_rfl)
  · cases e; exact laid_ints h (name := "internal/strconv.uint64pow10") (k := .u64) (zs := tab7) (List.mem_of_getElem? (i := 2) (by kernel_rfl)) (n := 20) (t := 342) (e := 261) (by kernel_rfl) (by kernel_rfl) (by kernel_rfl) (by kernel_rfl) (by kernel_rfl) (by kernel_rfl)
  · cases e; exact laid_ints h (name := "math/bits.deBruijn32tab") (k := .u8) (zs := tab10) (List.mem_of_getElem? (i := 0) (by kernel_rfl)) (n := 32) (t := 367) (e := 5) (by kernel_rfl) (by kernel_rfl) (by kernel_rfl) (by kernel_rfl) (by kernel_rfl) (by kernel_rfl)
  · cases e; exact laid_ints h (name := "math/bits.deBruijn64tab") (k := .u8) (zs := tab11) (List.mem_of_getElem? (i := 1) (by kernel_rfl)) (n := 64) (t := 368) (e := 5) (by kernel_rfl) (by kernel_rfl) (by kernel_rfl) (by kernel_rfl) (by kernel_rfl) (by kernel_rfl)
  · cases e
set_option maxRecDepth 100000 in
theorem lifted (os : Os) (started : os.Started) (H : Type) (enc : TypeId × Value → H) :
    ReturnsInHanded {} Tryz.checked os 3 .any (fun w args => (Rows.fnExactDeedReadSpec.pre enc Tryz.prog Tryz.f3 [] false w args ∧ laidMetH Tryz.prog laidL w) ∧ sizedMet enc Tryz.prog Tryz.f3 (OpenSpec.ofChange Rows.fnExactDeedReadSpec) false w args) (Rows.fnExactDeedReadSpec.post enc Tryz.prog Tryz.f3 false true false false) := by
  refine handed_and_shaped (C := Tryz.checked) (X := fun w _ => laidMetH Tryz.prog laidL w) (fun _ _ _ hh h => h.of_heap hh) own started (by kernel_rfl) Tryz.func3
    (ChangeSpec.witness_shaped (enc := enc) (C := Tryz.checked) (os := os) (X := fun w _ => laidMetH Tryz.prog laidL w) false (World.laidAll Tryz.prog os laidL) #[.string ByteArray.empty] 8 (World.laidAll_os _ _ _) (World.shaped_of_ZipB (by kernel_rfl) (by kernel_rfl)) (by kernel_rfl) (by kernel_rfl) (by kernel_rfl) (by rw [MakeChecks.laidMetH_plain _ _ _ (by kernel_rfl)]; exact laidMet_laidAll _ (by kernel_rfl) (by kernel_rfl))) ?_
  intro W base args ds gs before hval0 hW hcnd hsz0 hL hS
  have hsz : (DataW.weightsEach Tryz.prog (Tryz.f3.params.toList ++ Rows.fnExactDeedReadSpec.plain.varTypes Tryz.prog) (ds ++ gs)).all (· ≤ reachBytes) = true := hsz0
  have hval : ∀ (j : Nat) t v, Tryz.f3.params[j]? = some t → args[j]? = some v → Value.okWide Tryz.prog W .any base t v := hval0
  have hW' := hW
  obtain ⟨p, q, hA0, hV, rfl, hfz, hnd⟩ := hW
  have hA : DataW.TrodAll enc Tryz.prog W 0 (fun _ => true) true Tryz.f3.params.toList args.toList ds p := hA0
  rw [Tryz.params3] at hA hval hsz
  obtain ⟨v0, vs0, d0, ds0, p0, q0, hargs, rfl, rfl, h0, r0⟩ := trodAll_cons hA
  obtain ⟨rfl, rfl, rfl⟩ := trodAll_nil r0
  obtain rfl : args = #[v0] := by cases args; simp_all
  obtain ⟨_, _, _, _, gd0, _, _, _, _, _, gd1, _, rfl, _⟩ := trodVars_two hV
  have lt0 := trod_lt_all h0
  have z0 := weights_arg hsz (j := 0) (t := 9) rfl rfl
  obtain ⟨y0, b0, c0⟩ := arg_rep (ty := .str) (n := 20) (ag := false) (by kernel_rfl) (by kernel_rfl) (hval 0 9 v0 rfl rfl) h0 z0
  obtain ⟨k, hp⟩ := laws_FnExactDeedRead.proved y0 b0
  have hrr : ((laws_FnExactDeedRead.con k).f [argC false .str y0]).val = some ⟨[.val false [.leaf (.bool true)]], []⟩ := by
    refine (congrArg CR.val (go k y0)).trans ?_
    rw [hp]
    kernel_rfl
  refine (law_true (laws_FnExactDeedRead.ok k) hrr (globals hL hS) (vs := [v0]) (cargs_cons (c0 _) cargs_nil)).mono fun e W' ⟨he, bel0⟩ => ?_
  have bel : Below W.heap.size W W' := bel0
  subst he
  exact ⟨_, rfl, _, _, _, [], _, _, hW', trodAll_mk1 (shutB Tryz.underlying4 _), (trodAll_cons_mk (Below.trod laidOut (by kernel_rfl) (of_decide_eq_true (by kernel_rfl)) h0 bel lt0) trodAll_mk0), Below.trodVars laidOut bel (by kernel_rfl) hV, bel.frame _, fun h => by cases h⟩
theorem k10 : (Rows.fnExactDeedReadRow.inPlace == Tryz.prog.inPlace 3) = true := by kernel_rfl
theorem k11 : (Rows.fnExactDeedReadRow.unfollowed == Tryz.prog.unfollowed 3) = true := by kernel_rfl
theorem k12 : (Rows.fnExactDeedReadRow.recurses == Tryz.prog.recurses 3) = true := by kernel_rfl
theorem k13 : (Rows.fnExactDeedReadRow.named == Tryz.prog.varsNamed 3) = true := by kernel_rfl
theorem closed : joinedFacts Tryz.prog 3 Tryz.f3 Rows.fnExactDeedReadSpec Rows.fnExactDeedReadRow = true := by
  unfold joinedFacts
  rw [k10, k11, k12, k13]
  kernel_rfl
theorem over : Rows.fnExactDeedReadRow.holds Tryz.pinned (OpenSpec.ofChange Rows.fnExactDeedReadSpec) :=
  OpenClaim.holds_of_wide 3 Tryz.f3 rfl rfl rfl rfl rfl rfl rfl ⟨rfl, rfl, rfl, rfl, rfl⟩ rfl rfl rfl rfl rfl (by kernel_rfl) Tryz.func3 closed
    (of_decide_eq_true (by kernel_rfl)) (by unfold Func.isWrapper; first | (rw [if_pos (by decide +kernel)]; kernel_rfl) | (rw [if_neg (by decide +kernel)]; exact ⟨rfl, rfl⟩))
    (fun os started H enc _ => lifted os started H enc)
theorem proved : Rows.FnExactDeedReadSaid := over
theorem t1 : Rows.fnExactDeedReadRow.wfByText (OpenSpec.ofChange Rows.fnExactDeedReadSpec) = true := by kernel_rfl
theorem t2 : Tryz.prog.mainIs = some ((true, "f06bbcbbca21a9209f0cfd1b5059dfa8a418a6bfd3a1786c2e8eddeca1bee247").1, (true, "f06bbcbbca21a9209f0cfd1b5059dfa8a418a6bfd3a1786c2e8eddeca1bee247").2.toList) := by kernel_rfl
theorem t3 : true = Tryz.prog.looks [] := by kernel_rfl
theorem t4 : false = Rows.fnExactDeedReadRow.goesBy Tryz.prog := by kernel_rfl
theorem tied : Rows.FnExactDeedReadCardSaid :=
  Claim7.holds_tied_plain_at .later [] [.data, .data, .data, .data, .sentinel, .sentinel, .widerDeep, .widerDeep, .pinned] true (true, "f06bbcbbca21a9209f0cfd1b5059dfa8a418a6bfd3a1786c2e8eddeca1bee247") true
    proved (fun _ h => by cases h) t1 (fun _ h => by cases h) fnExactDeedRead_row_tie rfl ⟨rfl, rfl⟩ t2 rfl
    (fun f fn hf hfn => by
      obtain rfl : f = 3 := Option.some.inj ((show Tryz.prog.funcNamed "loop.example/g00668/laws.FnExactDeedRead" = some 3 by kernel_rfl).symm.trans hf) |>.symm
      obtain rfl : fn = Tryz.f3 := (Option.some.inj (Tryz.func3.symm.trans hfn)).symm
      exact ⟨t3, fun j t ht => by
        rw [Tryz.params3] at ht
        have hm : t ∈ [9] := by simpa using Array.mem_of_getElem? ht
        have hall : ([9].all fun u => !Tryz.prog.wantsStandIn u) = true := by kernel_rfl
        exact (show Tryz.prog.wantsStandIn t = false by simpa using List.all_eq_true.1 hall t hm)⟩)
    t4
end Go.Proofs.YtcnkbllbpimaiaaGreatDoor.fnExactDeedRead
namespace Go.Proofs.YtcnkbllbpimaiaaGreatDoor
/-- The tied card, under a short name, for the claim. -/
theorem fnExactDeedRead_card : Rows.FnExactDeedReadCardSaid := fnExactDeedRead.tied
#print axioms fnExactDeedRead_card
end Go.Proofs.YtcnkbllbpimaiaaGreatDoor
