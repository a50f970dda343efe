/- What the law FnFeed needs, part 11 of 11: the Lean functions of the Go functions that it reaches, with the proofs that the calls come to what they say, and plain facts about them; the last theorem is the law. Conditions: those that each theorem states. Written by a session and by its programs (after the kit's printer). -/
import Derived.Test.YtaajcllchbnjiaaGreatRows
import Derived.Carry
import Derived.Handed
import Derived.Test.YtaajcllchbnjiaaGreatXFnFeed4
import Derived.Test.YtaajcllchbnjiaaGreatXFnFeed8
import Derived.Test.YtaajcllchbnjiaaGreatXFnFeed9
namespace Go.Proofs.YtaajcllchbnjiaaGreatE
open Go
set_option linter.unusedVariables false
/-! ### what was written is read back; what is cut off is asked for -/
theorem gn_cut : ∀ (f i u v m : Nat), i + f = 10 → i ≤ 9 → v < 128 ^ f → u + v * 128 ^ i < 18446744073709551616 → (0 < i → v ≠ 0) → m < (groups f v).length → gn f i u ((listByte (groups f v)).take m) = (0, 0, 4)
  | 0, i, u, v, m, hf, h9, _, _, _, _ => by omega
  | f + 1, i, u, v, 0, hf, hi9, hv, hb, hz, hm => by rw [List.take_zero]; rfl
  | f + 1, i, u, v, m + 1, hf, hi9, hv, hb, hz, hm => by
    have h9' : i = 9 → v ≤ 1 := fun h => by subst h; simp at hb; omega
    by_cases h128 : 128 ≤ v
    · have hi8 : i ≤ 8 := by
        by_cases h : i = 9
        · have := h9' h; omega
        · omega
      have hg : groups (f + 1) v = ((v % 128 + 128 : Nat) : Int) :: groups f (v / 128) := by simp only [groups, if_pos h128]
      have ht : (UInt8.ofNat (((v % 128 + 128 : Nat) : Int)).toNat).toNat = v % 128 + 128 := by
        rw [Int.toNat_natCast, UInt8.toNat_ofNat']
        omega
      rw [hg] at hm ⊢
      rw [List.length_cons] at hm
      show gn (f + 1) i u (UInt8.ofNat (((v % 128 + 128 : Nat) : Int)).toNat :: (listByte (groups f (v / 128))).take m) = _
      simp only [gn]
      rw [ht, if_neg (by omega), if_pos (by omega)]
      have hs : u + (v % 128 + 128) % 128 * 128 ^ i + v / 128 * 128 ^ (i + 1) = u + v * 128 ^ i := by
        have e : (v % 128 + 128) % 128 = v % 128 := by omega
        have e2 : v % 128 * 128 ^ i + v / 128 * (128 * 128 ^ i) = v * 128 ^ i := by
          rw [← Nat.mul_assoc, ← Nat.add_mul]
          congr 1
          omega
        rw [e, Nat.pow_succ, Nat.mul_comm (128 ^ i) 128, Nat.add_assoc, e2]
      exact gn_cut f (i + 1) _ (v / 128) m (by omega) (by omega) (by rw [Nat.pow_succ] at hv; exact Nat.div_lt_of_lt_mul (by rw [Nat.mul_comm]; exact hv)) (by rw [hs]; exact hb) (fun _ => by omega) (by omega)
    · have hg : groups (f + 1) v = [(v : Int)] := by simp only [groups, if_neg h128]
      rw [hg] at hm
      simp at hm
theorem get_cut (n : Int) (h : Num n) (s : Str) (a m : Nat) (hm : m < (putOf n).length) (hs : s.drop a = (putOf n).take m) : getNumZ s a = (0, 0, 4) := by
  have hz := zig_lt h
  unfold putOf at hm hs
  rw [listByte_len] at hm
  have e : gn 10 0 0 (s.drop a) = (0, 0, 4) := by
    rw [hs]
    exact gn_cut 10 0 0 (zig n) m rfl (by omega) (by omega) (by simpa using hz) (fun h => absurd h (Nat.lt_irrefl _)) hm
  unfold getNumZ fin
  rw [e]
  rfl
theorem text_put (t : Str) (h : t.length ≤ 8000) (s : Str) (a : Nat) (r : Str) (hs : s.drop a = putTextOf t ++ r) : getTextZ s a = (t, ((a + (putTextOf t).length : Nat) : Int), 0) := by
  unfold putTextOf at hs
  rw [List.append_assoc] at hs
  have e := get_put (t.length : Int) ⟨by omega, by omega⟩ s a (t ++ r) hs
  have hlen := congrArg List.length hs
  rw [List.length_drop, List.length_append, List.length_append] at hlen
  have hp := putOf_pos (t.length : Int)
  unfold getTextZ
  rw [e]
  simp only [if_true]
  rw [if_pos ⟨by omega, by omega⟩, if_neg (by omega)]
  have e1 : (((a + (putOf (t.length : Int)).length : Nat) : Int) + (t.length : Int)).toNat = a + (putOf (t.length : Int)).length + t.length := by omega
  rw [e1, Int.toNat_natCast, List.drop_take, Nat.add_sub_cancel_left, ← List.drop_drop, hs, List.drop_left, List.take_left]
  unfold putTextOf
  rw [List.length_append]
  congr 2
  push_cast
  omega
theorem text_cut (t : Str) (h : t.length ≤ 8000) (s : Str) (a m : Nat) (hm : m < (putTextOf t).length) (hs : s.drop a = (putTextOf t).take m) : (getTextZ s a).2.2 = 4 := by
  unfold putTextOf at hm hs
  rw [List.length_append] at hm
  have hN : Num (t.length : Int) := ⟨by omega, by omega⟩
  unfold getTextZ
  by_cases h1 : m < (putOf (t.length : Int)).length
  · rw [List.take_append_of_le_length (by omega)] at hs
    rw [get_cut _ hN s a m h1 hs]
    rfl
  · rw [List.take_append, List.take_of_length_le (by omega : (putOf (t.length : Int)).length ≤ m)] at hs
    have e := get_put (t.length : Int) hN s a _ hs
    have hlen := congrArg List.length hs
    rw [List.length_drop, List.length_append, List.length_take] at hlen
    have hp := putOf_pos (t.length : Int)
    rw [e]
    simp only [if_true]
    rw [if_pos ⟨by omega, by omega⟩, if_pos (by omega)]
theorem num_put (n : Int) (h : Num n) (s : Str) (a : Nat) (t : Str) (hs : s.drop a = putOf n ++ t) : numR s a = (n, s, ((a + (putOf n).length : Nat) : Int), false) := by
  unfold numR
  rw [get_put n h s a t hs]
  rfl
theorem quad_put (x y z : Int) (t : Str) (hx : Num x) (hy : Num y) (hz : Num z) (ht : t.length ≤ 8000) : quadZ (putOf x ++ putOf y ++ putOf z ++ putTextOf t) = some (x, y, z, t, (putOf x ++ putOf y ++ putOf z ++ putTextOf t).length) := by
  generalize hs : putOf x ++ putOf y ++ putOf z ++ putTextOf t = s
  have d0 : s.drop 0 = putOf x ++ (putOf y ++ putOf z ++ putTextOf t) := by rw [← hs]; simp
  have n1 := num_put x hx s 0 _ d0
  rw [Nat.zero_add] at n1
  have d1 : s.drop (putOf x).length = putOf y ++ (putOf z ++ putTextOf t) := by rw [← hs]; simp
  have n2 := num_put y hy s _ _ d1
  have d2 : s.drop ((putOf x).length + (putOf y).length) = putOf z ++ putTextOf t := by rw [← hs, ← List.length_append]; simp
  have n3 := num_put z hz s _ _ d2
  have d3 : s.drop ((putOf x).length + (putOf y).length + (putOf z).length) = putTextOf t ++ [] := by rw [← hs, ← List.length_append, ← List.length_append]; simp
  have n4 := text_put t ht s _ _ d3
  have n4' : textR s ((putOf x).length + (putOf y).length + (putOf z).length) = (t, s, (((putOf x).length + (putOf y).length + (putOf z).length + (putTextOf t).length : Nat) : Int), false) := by
    unfold textR
    rw [n4]
    rfl
  have hl : s.length = (putOf x).length + (putOf y).length + (putOf z).length + (putTextOf t).length := by rw [← hs]; simp only [List.length_append]
  unfold quadZ
  rw [n1]
  simp only [Int.toNat_natCast, Bool.false_eq_true, if_false]
  rw [n2]
  simp only [Int.toNat_natCast, Bool.false_eq_true, if_false]
  rw [n3]
  simp only [Int.toNat_natCast, Bool.false_eq_true, if_false]
  rw [n4']
  simp only [Int.toNat_natCast, Bool.false_eq_true, if_false]
  rw [hl]
theorem head_back (x y z : Int) (t : Str) (h : headB x y z t = true) : headR (sealOf (putOf x ++ putOf y ++ putOf z ++ putTextOf t)) = (x, y, z, t, 0) := by
  have hb := headB_is h
  unfold headR headOf
  rw [unseal_seal, if_pos rfl, body_seal, quad_put x y z t ⟨by omega, by omega⟩ ⟨by omega, by omega⟩ ⟨by omega, by omega⟩ (by omega)]
  simp only
  rw [if_pos ⟨trivial, h⟩]
theorem stepB_8 {x y z : Int} {t : Str} {n : Int} (h1 : 1 ≤ n) (h2 : n ≤ 8) (h : stepB x y z t n = true) : stepB x y z t 8 = true ∧ Num x ∧ Num y ∧ Num z := by
  unfold stepB at h ⊢
  unfold Num
  split at h
  · rename_i q
    rw [if_pos q]
    simp only [Bool.and_eq_true, decide_eq_true_eq] at h ⊢
    exact ⟨⟨⟨⟨h.1.1.1, by omega⟩, h.1.2⟩, h.2⟩, by omega⟩
  · rename_i q1
    rw [if_neg q1]
    split at h
    · rename_i q
      rw [if_pos q]
      simp only [Bool.and_eq_true, decide_eq_true_eq] at h ⊢
      exact ⟨⟨⟨⟨h.1.1.1, by omega⟩, h.1.2⟩, h.2⟩, by omega⟩
    · rename_i q2
      rw [if_neg q2]
      split at h
      · rename_i q
        rw [if_pos q]
        simp only [Bool.and_eq_true, decide_eq_true_eq] at h ⊢
        exact ⟨⟨⟨⟨h.1.1.1, by omega⟩, h.1.2.1, by omega⟩, h.2⟩, by omega⟩
      · rename_i q3
        rw [if_neg q3]
        split at h
        · rename_i q
          rw [if_pos q]
          simp only [Bool.and_eq_true, decide_eq_true_eq] at h ⊢
          exact ⟨⟨⟨⟨h.1.1.1, by omega⟩, h.1.2.1, by omega⟩, h.2⟩, by omega⟩
        · rename_i q4
          rw [if_neg q4]
          split at h
          · rename_i q
            rw [if_pos q]
            simp only [Bool.and_eq_true, decide_eq_true_eq] at h ⊢
            exact ⟨⟨⟨h.1.1, h.1.2⟩, h.2⟩, by omega⟩
          · cases h
theorem step_back (x : StepT) (h : stepB x.1 x.2.1 x.2.2.1 x.2.2.2 8 = true) (hn : NumS x) : stepOf (stepX x) = some x := by
  obtain ⟨a, b, c, d⟩ := x
  have := stepB_data h
  unfold stepOf stepX
  rw [quad_put a b c d hn.1 hn.2.1 hn.2.2 (by simp only at this; omega)]
  simp only
  rw [if_pos ⟨trivial, h⟩]
/-! ### elements, taken one behind the other -/
namespace Feed
def frames (l : List Str) : Str := (l.map putTextOf).flatten
theorem frames_cons (e : Str) (l : List Str) : frames (e :: l) = putTextOf e ++ frames l := rfl
theorem frames_app (a b : List Str) : frames (a ++ b) = frames a ++ frames b := by unfold frames; rw [List.map_append, List.flatten_append]
def takeAll : List Str → StepT → Int → List CmdT → Option (StepT × Int × List CmdT)
  | [], h, g, c => some (h, g, c)
  | e :: l, h, g, c => if fresh h = false ∧ g = h.2.1 then none else match takeM h g c e with
    | some q => takeAll l q.1 q.2.1 q.2.2
    | none => none
theorem takeAll_cons (e : Str) (l : List Str) (h : StepT) (g : Int) (c : List CmdT) : takeAll (e :: l) h g c = if fresh h = false ∧ g = h.2.1 then none else match takeM h g c e with
    | some q => takeAll l q.1 q.2.1 q.2.2
    | none => none := rfl
theorem takeAll_app : ∀ (a b : List Str) (h : StepT) (g : Int) (c : List CmdT), takeAll (a ++ b) h g c = (takeAll a h g c).bind fun q => takeAll b q.1 q.2.1 q.2.2
  | [], b, h, g, c => rfl
  | e :: a, b, h, g, c => by
    show takeAll (e :: (a ++ b)) h g c = _
    rw [takeAll_cons, takeAll_cons]
    split
    · rfl
    · cases hm : takeM h g c e with
      | none => rfl
      | some q => exact takeAll_app a b q.1 q.2.1 q.2.2
theorem takeM_app (h : StepT) (g : Int) (c d : List CmdT) (s : Str) : takeM h g (c ++ d) s = (takeM h g d s).map fun q => (q.1, q.2.1, c ++ q.2.2) := by
  unfold takeM
  split
  · split
    · simp
    · rfl
  · split
    · cases stepOf (bodyOf s) with
      | none => rfl
      | some q =>
        simp only
        split
        · split
          · simp
          · simp
        · rfl
    · rfl
theorem takeAll_cmds : ∀ (l : List Str) (h : StepT) (g : Int) (c d : List CmdT), takeAll l h g (c ++ d) = (takeAll l h g d).map fun q => (q.1, q.2.1, c ++ q.2.2)
  | [], h, g, c, d => rfl
  | e :: l, h, g, c, d => by
    unfold takeAll
    split
    · rfl
    · rw [takeM_app]
      cases takeM h g d e with
      | none => rfl
      | some q => exact takeAll_cmds l q.1 q.2.1 c q.2.2
theorem putTextOf_pos (e : Str) : 1 ≤ (putTextOf e).length := by
  have := putOf_pos (e.length : Int)
  unfold putTextOf
  rw [List.length_append]
  omega
theorem feed_run : ∀ (l : List Str) (s : Str) (a : Nat) (tail : Str) (d : Nat) (h : StepT) (g : Int) (c : List CmdT) (q : StepT × Int × List CmdT), (∀ e ∈ l, e.length ≤ 8000) → a ≤ s.length → s.drop a = frames l ++ tail → s.length - a < d → takeAll l h g c = some q →
    (tail = [] ∨ ((getTextZ s (s.length - tail.length)).2.2 = 4 ∧ ¬ (fresh q.1 = false ∧ q.2.1 = q.1.2.1))) → feedM d s a h g c = some (s.length - tail.length, q)
  | [], s, a, tail, 0, h, g, c, q, he, ha, hs, hd, ht, h4 => absurd hd (Nat.not_lt_zero _)
  | [], s, a, tail, d + 1, h, g, c, q, he, ha, hs, hd, ht, h4 => by
    cases ht
    have hs : s.drop a = tail := hs
    have hlen := congrArg List.length hs
    rw [List.length_drop] at hlen
    have hat : s.length - tail.length = a := by omega
    rw [hat] at h4 ⊢
    unfold feedM
    by_cases hl : a < s.length
    · rw [if_pos hl]
      rcases h4 with h4 | ⟨h4, hf⟩
      · rw [h4] at hlen; simp only [List.length_nil] at hlen; omega
      · rw [if_neg hf, if_pos h4]
    · rw [if_neg hl]
  | e :: l, s, a, tail, 0, h, g, c, q, he, ha, hs, hd, ht, h4 => absurd hd (Nat.not_lt_zero _)
  | e :: l, s, a, tail, d + 1, h, g, c, q, he, ha, hs, hd, ht, h4 => by
    rw [frames_cons, List.append_assoc] at hs
    have hel := he e List.mem_cons_self
    have hg := text_put e hel s a _ hs
    have hlen := congrArg List.length hs
    have hp := putTextOf_pos e
    rw [List.length_drop, List.length_append] at hlen
    unfold takeAll at ht
    split at ht
    · cases ht
    · rename_i hf
      cases hm : takeM h g c e with
      | none => rw [hm] at ht; cases ht
      | some w =>
        rw [hm] at ht
        unfold feedM
        rw [if_pos (by omega), if_neg hf, hg]
        simp only
        rw [if_neg (by omega), if_pos trivial, hm]
        simp only [Int.toNat_natCast]
        refine feed_run l s (a + (putTextOf e).length) tail d w.1 w.2.1 w.2.2 q (fun e h => he e (List.mem_cons_of_mem _ h)) (by omega) ?_ (by omega) ht h4
        rw [← List.drop_drop, hs, List.drop_left]
/-! ### a package's elements -/
def headOfP (p : PkgT) : Str := sealOf (putOf p.1 ++ putOf (p.2.2.length : Int) ++ putOf (slotsM (planM p.2.2)) ++ putTextOf p.2.1)
def els (p : PkgT) : List Str := headOfP p :: p.2.2.map fun x => sealOf (stepX x)
theorem stream_frames {p : PkgT} (h : agentB p = true) : streamM p = frames (els p) := by
  unfold streamM els headX
  rw [if_pos h, frames_cons]
  unfold frames
  rw [List.map_map]
  rfl
def beginC (p : PkgT) : CmdT := (1, ((p.2.2.length : Int), (slotsM (planM p.2.2), (p.2.1, zeroS))))
def stepC (x : StepT) : CmdT := (2, (0, (0, ([], x))))
def finishC : CmdT := (3, (0, (0, ([], zeroS))))
def cmdsM (p : PkgT) : List CmdT := beginC p :: (p.2.2.map stepC ++ [finishC])
theorem agent_head {p : PkgT} (h : agentB p = true) : hB (headP p) = true ∧ packB p = true ∧ 0 < p.2.2.length := by
  unfold agentB at h
  have h1 : packB p = true := (Bool.and_eq_true _ _ ▸ h).1
  have h2 := (Bool.and_eq_true _ _ ▸ h).2
  have hr := headP_right p h1
  rw [h2] at hr
  have hr2 := hr
  unfold headP at hr2
  rw [sHead] at hr2
  exact ⟨Option.some.inj hr2, h1, of_decide_eq_true (Bool.and_eq_true _ _ ▸ h2).1⟩
theorem pack_ok {p : PkgT} (h : packB p = true) : ∀ x ∈ p.2.2, stepB x.1 x.2.1 x.2.2.1 x.2.2.2 p.1 = true ∧ stepB x.1 x.2.1 x.2.2.1 x.2.2.2 8 = true ∧ NumS x := by
  obtain ⟨hc, _⟩ := packB_ok h
  obtain ⟨_, h1, h2, h3, _⟩ := codeM_ok hc
  intro x hx
  have hs : stepB x.1 x.2.1 x.2.2.1 x.2.2.2 p.1 = true := h3 x hx
  obtain ⟨e1, e2, e3, e4⟩ := stepB_8 h1 h2 hs
  exact ⟨hs, e1, e2, e3, e4⟩
theorem take_head {p : PkgT} (h : agentB p = true) : takeM zeroS 0 [] (headOfP p) = some (headP p, 0, [beginC p]) := by
  obtain ⟨h1, _, _⟩ := agent_head h
  unfold takeM headOfP
  rw [if_pos (show fresh zeroS = true from rfl), head_back p.1 (p.2.2.length : Int) (slotsM (planM p.2.2)) p.2.1 h1]
  rfl
theorem take_steps {p : PkgT} (h : agentB p = true) : ∀ (d i : Nat) (c : List CmdT), i + d = p.2.2.length → 0 < d → takeAll ((p.2.2.drop i).map fun x => sealOf (stepX x)) (headP p) (i : Int) c = some (headP p, (p.2.2.length : Int), c ++ (p.2.2.drop i).map stepC ++ [finishC]) := by
  obtain ⟨h1, hp, _⟩ := agent_head h
  have hf := hB_fresh h1
  intro d
  induction d with
  | zero => intro i c _ h0; omega
  | succ d ih =>
    intro i c hi _
    have hil : i < p.2.2.length := by omega
    obtain ⟨q1, q2, q3⟩ := pack_ok hp _ (List.getElem_mem hil)
    rw [List.drop_eq_getElem_cons hil, List.map_cons, List.map_cons]
    unfold takeAll
    have hne : ¬ (fresh (headP p) = false ∧ (i : Int) = (headP p).2.1) := fun q => by
      have : (i : Int) = (p.2.2.length : Int) := q.2
      omega
    rw [if_neg hne]
    have e1 : takeM (headP p) (i : Int) c (sealOf (stepX p.2.2[i])) = if (i : Int) + 1 = (p.2.2.length : Int) then some (headP p, (i : Int) + 1, c ++ [stepC p.2.2[i]] ++ [finishC]) else some (headP p, (i : Int) + 1, c ++ [stepC p.2.2[i]]) := by
      unfold takeM
      rw [if_neg (by rw [hf]; exact Bool.false_ne_true), unseal_seal, if_pos rfl, body_seal, step_back _ q2 q3]
      simp only
      rw [if_pos (show stepB (p.2.2[i]).1 (p.2.2[i]).2.1 (p.2.2[i]).2.2.1 (p.2.2[i]).2.2.2 (headP p).1 = true from q1)]
      rfl
    rw [e1]
    by_cases he : (i : Int) + 1 = (p.2.2.length : Int)
    · rw [if_pos he]
      have h0 : p.2.2.drop (i + 1) = [] := List.drop_eq_nil_of_le (by omega)
      rw [h0, he]
      simp [takeAll]
    · rw [if_neg he]
      have := ih (i + 1) (c ++ [stepC p.2.2[i]]) (by omega) (by omega)
      simp only
      rw [show ((i : Int) + 1) = ((i + 1 : Nat) : Int) by omega, this]
      simp
theorem take_whole {p : PkgT} (h : agentB p = true) : takeAll (els p) zeroS 0 [] = some (headP p, (p.2.2.length : Int), cmdsM p) := by
  obtain ⟨h1, _, h0⟩ := agent_head h
  unfold els takeAll
  rw [if_neg (fun q => by have : fresh zeroS = true := rfl; rw [this] at q; cases q.1), take_head h]
  simp only
  have := take_steps h p.2.2.length 0 [beginC p] (Nat.zero_add _) h0
  rw [List.drop_zero] at this
  rw [show ((0 : Nat) : Int) = 0 from rfl] at this
  rw [this]
  simp [cmdsM]
theorem els_len {p : PkgT} (h : agentB p = true) : ∀ e ∈ els p, e.length ≤ 200 := by
  obtain ⟨h1, hp, _⟩ := agent_head h
  intro e he
  unfold els at he
  rcases List.mem_cons.1 he with rfl | he
  · have := headX_len hp
    unfold headX putTextOf at this
    rw [List.length_append] at this
    unfold headOfP
    unfold putTextOf
    omega
  · obtain ⟨x, hx, rfl⟩ := List.mem_map.1 he
    have := stepX_len x (stepB_data (pack_ok hp x hx).2.1)
    rw [sealOf_len]
    omega
theorem stream_len {p : PkgT} (h : packB p = true) : (streamM p).length ≤ 2000 := by
  unfold streamM
  split
  · have h1 := headX_len h
    obtain ⟨hc, _⟩ := packB_ok h
    obtain ⟨h20, _⟩ := codeM_ok hc
    have key : ∀ l : List StepT, (∀ x ∈ l, (elX x).length ≤ 62) → ((l.map elX).flatten).length ≤ 62 * l.length := by
      intro l
      induction l with
      | nil => intro _; exact Nat.le_refl _
      | cons x l ih =>
        intro hl
        have := ih fun y hy => hl y (List.mem_cons_of_mem _ hy)
        have := hl x List.mem_cons_self
        rw [List.map_cons, List.flatten_cons, List.length_append, List.length_cons]
        omega
    have := key p.2.2 fun x hx => elX_len x (stepB_data (pack_ok h x hx).2.1)
    rw [List.length_append]
    omega
  · simp
/-- How many elements lie whole in the first k bytes, and what is left. -/
theorem split_frames : ∀ (l : List Str) (k : Nat), k ≤ (frames l).length → ∃ a b tail, l = a ++ b ∧ (frames l).take k = frames a ++ tail ∧ (frames a ++ tail ++ (frames l).drop k = frames a ++ frames b) ∧ (tail = [] ∨ ∃ e r m, b = e :: r ∧ m < (putTextOf e).length ∧ tail = (putTextOf e).take m)
  | [], k, hk => ⟨[], [], [], rfl, by simp [frames], by simp [frames], .inl rfl⟩
  | e :: l, k, hk => by
    by_cases h : k < (putTextOf e).length
    · refine ⟨[], e :: l, (putTextOf e).take k, rfl, ?_, ?_, .inr ⟨e, l, k, rfl, h, rfl⟩⟩
      · rw [frames_cons, List.take_append_of_le_length (by omega)]
        rfl
      · show (putTextOf e).take k ++ (frames (e :: l)).drop k = frames (e :: l)
        have : (putTextOf e).take k = (frames (e :: l)).take k := by rw [frames_cons, List.take_append_of_le_length (by omega)]
        rw [this, List.take_append_drop]
    · rw [frames_cons, List.length_append] at hk
      obtain ⟨a, b, tail, e1, e2, e3, e4⟩ := split_frames l (k - (putTextOf e).length) (by omega)
      refine ⟨e :: a, b, tail, by rw [e1]; rfl, ?_, ?_, e4⟩
      · rw [frames_cons, frames_cons, List.take_append, List.take_of_length_le (by omega : (putTextOf e).length ≤ k), e2, List.append_assoc]
      · rw [frames_cons, frames_cons, List.drop_append, List.drop_eq_nil_of_le (by omega : (putTextOf e).length ≤ k), List.nil_append, List.append_assoc, List.append_assoc, List.append_assoc]
        rw [List.append_assoc] at e3
        rw [e3]
def fdT (r : Res) : FeedT := ((r.1, (r.2.1, (r.2.2.1, r.2.2.2.1))), (r.2.2.2.2.1, r.2.2.2.2.2.1))
/-- The stream of a package, put in two parts. -/
theorem put_parts {p : PkgT} (h : agentB p = true) (k : Nat) (hk : k ≤ (streamM p).length) :
    (putM (zeroS, (0, [])) ((streamM p).take k)).2.2.2.2.2.2.2 = 0 ∧
    (putM (fdT (putM (zeroS, (0, [])) ((streamM p).take k))) ((streamM p).drop k)).2.2.2.2.2.2.2 = 0 ∧
    (putM (zeroS, (0, [])) ((streamM p).take k)).2.2.2.2.2.2.1 ++ (putM (fdT (putM (zeroS, (0, [])) ((streamM p).take k))) ((streamM p).drop k)).2.2.2.2.2.2.1 = cmdsM p ∧
    fdT (putM (fdT (putM (zeroS, (0, [])) ((streamM p).take k))) ((streamM p).drop k)) = (headP p, ((p.2.2.length : Int), [])) := by
  obtain ⟨h1, hp, h0⟩ := agent_head h
  have hS := stream_len hp
  have hE := els_len h
  have hW := take_whole h
  rw [stream_frames h] at hk hS ⊢
  obtain ⟨a, b, tail, e1, e2, e3, e4⟩ := split_frames (els p) k hk
  rw [e1, takeAll_app] at hW
  cases hA : takeAll a zeroS 0 [] with
  | none => rw [hA] at hW; cases hW
  | some q =>
    rw [hA] at hW
    have hB' : takeAll b q.1 q.2.1 q.2.2 = some (headP p, (p.2.2.length : Int), cmdsM p) := hW
    have hcm := takeAll_cmds b q.1 q.2.1 q.2.2 []
    rw [List.append_nil, hB'] at hcm
    cases hB0 : takeAll b q.1 q.2.1 [] with
    | none => rw [hB0] at hcm; cases hcm
    | some w =>
      rw [hB0] at hcm
      have hcm := Option.some.inj hcm
      have w1 : w.1 = headP p := (congrArg (fun z => z.1) hcm).symm
      have w2 : w.2.1 = (p.2.2.length : Int) := (congrArg (fun z => z.2.1) hcm).symm
      have w3 : q.2.2 ++ w.2.2 = cmdsM p := (congrArg (fun z => z.2.2) hcm).symm
      have htl : tail.length ≤ 300 := by
        rcases e4 with e4 | ⟨e, r, m, hb, hm, ht⟩
        · rw [e4]; simp
        · rw [ht, List.length_take]
          have := hE e (by rw [e1, hb]; exact List.mem_append_right _ List.mem_cons_self)
          have := putTextOf_len e
          omega
      have hs1 : ((frames (els p)).take k).length ≤ 2000 := by rw [List.length_take]; omega
      -- the first part
      have r1 : feedM ((([] : Str) ++ (frames (els p)).take k).length + 1) ([] ++ (frames (els p)).take k) 0 zeroS 0 [] = some (((frames (els p)).take k).length - tail.length, q) := by
        rw [List.nil_append]
        refine feed_run a _ 0 tail _ zeroS 0 [] q (fun e he => Nat.le_trans (hE e (by rw [e1]; exact List.mem_append_left _ he)) (by omega)) (Nat.zero_le _) (by rw [List.drop_zero]; exact e2) (by omega) hA ?_
        rcases e4 with e4 | ⟨e, r, m, hb, hm, ht⟩
        · exact .inl e4
        · right
          have hlen := congrArg List.length e2
          rw [List.length_append] at hlen
          refine ⟨text_cut e (Nat.le_trans (hE e (by rw [e1, hb]; exact List.mem_append_right _ List.mem_cons_self)) (by omega)) _ _ m hm ?_, ?_⟩
          · rw [show ((frames (els p)).take k).length - tail.length = (frames a).length by omega, e2, List.drop_left, ht]
          · rw [hb] at hB'
            unfold takeAll at hB'
            split at hB'
            · cases hB'
            · assumption
      have hrest : (([] : Str) ++ (frames (els p)).take k).drop (((frames (els p)).take k).length - tail.length) = tail := by
        have hlen := congrArg List.length e2
        rw [List.length_append] at hlen
        rw [List.nil_append, show ((frames (els p)).take k).length - tail.length = (frames a).length by omega, e2, List.drop_left]
      have p1 : putM (zeroS, (0, [])) ((frames (els p)).take k) = (q.1.1, q.1.2.1, q.1.2.2.1, q.1.2.2.2, q.2.1, tail, q.2.2, 0) := by
        unfold putM
        rw [if_neg (by omega), if_neg (by show ¬ (feedB (zeroS, (0, [])) = false); exact (by decide)), if_neg (by show ¬ (8000 < ([] : Str).length + _); rw [List.length_nil]; omega), r1]
        simp only [finM]
        rw [hrest, if_neg (by omega)]
      -- the second part
      have hinv : feedB (q.1, (q.2.1, tail)) = true := by
        have inv : ∀ (l : List Str) (h : StepT) (g : Int) (c : List CmdT) (q : StepT × Int × List CmdT), Inv h g → takeAll l h g c = some q → Inv q.1 q.2.1 := by
          intro l
          induction l with
          | nil => intro h g c q hi ht; cases ht; exact hi
          | cons e l ih =>
            intro h g c q hi ht
            unfold takeAll at ht
            split at ht
            · cases ht
            · rename_i hf
              cases hm : takeM h g c e with
              | none => rw [hm] at ht; cases ht
              | some w =>
                rw [hm] at ht
                refine ih _ _ _ _ (take_inv hi (fun hfr => ?_) hm).1 ht
                rcases hi with hi | hi
                · rw [hi.1] at hfr; cases hfr
                · have : g ≠ h.2.1 := fun e => hf ⟨hfr, e⟩
                  omega
        have hi := inv a zeroS 0 [] q (.inl ⟨rfl, rfl⟩) hA
        unfold feedB
        rw [if_neg (by show ¬ (500 < tail.length); omega)]
        rcases hi with hi | hi
        · rw [if_pos hi.1]; exact decide_eq_true hi.2
        · rw [if_neg (by show ¬ (fresh q.1 = true); rw [hi.1]; exact Bool.false_ne_true)]
          show (hB q.1 && (decide (0 ≤ q.2.1) && decide (q.2.1 ≤ q.1.2.1))) = true
          rw [hi.2.1, decide_eq_true hi.2.2.1, decide_eq_true hi.2.2.2]
          rfl
      have hs2 : tail ++ (frames (els p)).drop k = frames b := by
        rw [List.append_assoc] at e3
        exact List.append_cancel_left e3
      have hbl : (frames b).length ≤ 2000 := by
        have := congrArg frames e1
        rw [frames_app] at this
        have := congrArg List.length this
        rw [List.length_append] at this
        omega
      have r2 : feedM ((frames b).length + 1) (frames b) 0 q.1 q.2.1 [] = some ((frames b).length, w) := by
        have := feed_run b (frames b) 0 [] ((frames b).length + 1) q.1 q.2.1 [] w (fun e he => Nat.le_trans (hE e (by rw [e1]; exact List.mem_append_right _ he)) (by omega)) (Nat.zero_le _) (by simp) (by omega) hB0 (.inl rfl)
        rw [List.length_nil, Nat.sub_zero] at this
        exact this
      have p2 : putM (q.1, (q.2.1, tail)) ((frames (els p)).drop k) = (w.1.1, w.1.2.1, w.1.2.2.1, w.1.2.2.2, w.2.1, [], w.2.2, 0) := by
        have hdl : ((frames (els p)).drop k).length ≤ 2000 := by rw [List.length_drop]; omega
        unfold putM
        rw [if_neg (by omega), if_neg (by rw [hinv]; simp), if_neg (by show ¬ (8000 < tail.length + _); omega)]
        show finM (tail ++ (frames (els p)).drop k) (feedM ((tail ++ (frames (els p)).drop k).length + 1) (tail ++ (frames (els p)).drop k) 0 q.1 q.2.1 []) = _
        rw [hs2, r2]
        simp only [finM]
        rw [List.drop_length, if_neg (by simp)]
      have hfd : fdT (putM (zeroS, (0, [])) ((frames (els p)).take k)) = (q.1, (q.2.1, tail)) := by rw [p1]; rfl
      rw [hfd, p2, p1]
      refine ⟨rfl, rfl, w3, ?_⟩
      show (w.1, (w.2.1, ([] : Str))) = _
      rw [w1, w2]
theorem put_behind {p : PkgT} (h : agentB p = true) : (putM (headP p, ((p.2.2.length : Int), [])) [120]).2.2.2.2.2.2.2 = 3 := by
  obtain ⟨h1, hp, h0⟩ := agent_head h
  have hf := hB_fresh h1
  have hfb : feedB (headP p, ((p.2.2.length : Int), [])) = true := by
    unfold feedB
    rw [if_neg (by simp), if_neg (by show ¬ (fresh (headP p) = true); rw [hf]; exact Bool.false_ne_true)]
    show (hB (headP p) && (decide (0 ≤ (p.2.2.length : Int)) && decide ((p.2.2.length : Int) ≤ (p.2.2.length : Int)))) = true
    rw [h1, decide_eq_true (by omega), decide_eq_true (by omega)]
    rfl
  unfold putM
  rw [if_neg (by simp), if_neg (by rw [hfb]; simp), if_neg (by simp)]
  have : feedM ((([] : Str) ++ [120]).length + 1) ([] ++ [120]) 0 (headP p) (p.2.2.length : Int) [] = none := by
    show feedM 2 [120] 0 (headP p) (p.2.2.length : Int) [] = none
    unfold feedM
    rw [if_pos (by decide), if_pos ⟨hf, rfl⟩]
  show (finM ([] ++ [120]) (feedM ((([] : Str) ++ [120]).length + 1) ([] ++ [120]) 0 (headP p) (p.2.2.length : Int) [])).2.2.2.2.2.2.2 = 3
  rw [this]
  rfl
end Feed
end Go.Proofs.YtaajcllchbnjiaaGreatE

namespace Go.Proofs.YtaajcllchbnjiaaGreatE
open Go
set_option linter.unusedVariables false
/-- From some fuel on it comes to one value, of which Q is known. -/
def Ev {α : Type} (f : Nat → Option α) (Q : α → Prop) : Prop := ∃ p, Q p ∧ Ever fun k => f k = some p
theorem Ev.bind {α β : Type} {f : Nat → Option α} {g : Nat → α → Option β} {Q : α → Prop} {R : β → Prop} (h : Ev f Q) (k : ∀ p, Q p → Ev (fun k => g k p) R) : Ev (fun k => (f k).bind (g k)) R := by
  obtain ⟨p, hp, e⟩ := h
  obtain ⟨q, hq, e2⟩ := k p hp
  exact ⟨q, hq, (e.and e2).mono fun k h => (congrArg (fun z => Option.bind z (g k)) h.1).trans h.2⟩
theorem Ev.ret {α : Type} {p : α} {Q : α → Prop} (h : Q p) : Ev (fun _ => some p) Q := ⟨p, h, Ever.of fun _ => rfl⟩
theorem Ev.of {α : Type} {x : Option α} {Q : α → Prop} (h : ∃ p, x = some p ∧ Q p) : Ev (fun _ => x) Q := by
  obtain ⟨p, e, h⟩ := h
  exact ⟨p, h, Ever.of fun _ => e⟩
theorem Ev.ever {α : Type} {f : Nat → Option α} {p : α} {Q : α → Prop} (h : Ever fun k => f k = some p) (q : Q p) : Ev f Q := ⟨p, q, h⟩
theorem Ev.mono {α : Type} {f : Nat → Option α} {Q R : α → Prop} (h : Ev f Q) (k : ∀ p, Q p → R p) : Ev f R := by
  obtain ⟨p, hp, e⟩ := h
  exact ⟨p, k p hp, e⟩
theorem Ev.cond {α : Type} {b : Bool} {f g : Nat → Option α} {Q : α → Prop} (h1 : b = true → Ev f Q) (h2 : b = false → Ev g Q) : Ev (fun k => bif b then f k else g k) Q := by
  cases b with
  | true => exact h1 rfl
  | false => exact h2 rfl
/-- A bind that surely has its value. -/
theorem Ev.bnd {α β : Type} {x : Option α} {g : Nat → α → Option β} {R : β → Prop} {p : α} (h : x = some p) (k : Ev (fun k => g k p) R) : Ev (fun k => x.bind (g k)) R := by
  rw [h]
  exact k
theorem loop_ev {S R : Type} (L : Nat → Nat → S → Option R) (m : S → Nat) (I : S → Prop) (Q : R → Prop) (step : ∀ s, I s → (∃ r, (Ever fun k => ∀ j, L k (j + 1) s = some r) ∧ Q r) ∨ ∃ s', I s' ∧ m s' < m s ∧ Ever fun k => ∀ j, L k (j + 1) s = L k j s') : ∀ (n : Nat) (s : S), I s → m s ≤ n → ∃ r, Q r ∧ Ever fun k => ∀ j, n < j → L k j s = some r := by
  intro n
  induction n with
  | zero =>
    intro s hi hm
    rcases step s hi with ⟨r, hr, hq⟩ | ⟨s', _, hm', _⟩
    · refine ⟨r, hq, hr.mono fun k hr j hj => ?_⟩
      obtain ⟨j, rfl⟩ : ∃ q, j = q + 1 := ⟨j - 1, by omega⟩
      exact hr j
    · omega
  | succ n ih =>
    intro s hi hm
    rcases step s hi with ⟨r, hr, hq⟩ | ⟨s', hi', hm', hs⟩
    · refine ⟨r, hq, hr.mono fun k hr j hj => ?_⟩
      obtain ⟨j, rfl⟩ : ∃ q, j = q + 1 := ⟨j - 1, by omega⟩
      exact hr j
    · obtain ⟨r, hq, hr⟩ := ih s' hi' (by omega)
      refine ⟨r, hq, (hr.and hs).mono fun k h j hj => ?_⟩
      obtain ⟨j, rfl⟩ : ∃ q, j = q + 1 := ⟨j - 1, by omega⟩
      rw [h.2 j]
      exact h.1 j (by omega)
theorem Ev.loop {S R : Type} (L : Nat → Nat → S → Option R) (m : S → Nat) (I : S → Prop) (Q : R → Prop) (s : S) (hs : I s) (step : ∀ s, I s → (∃ r, (Ever fun k => ∀ j, L k (j + 1) s = some r) ∧ Q r) ∨ ∃ s', I s' ∧ m s' < m s ∧ Ever fun k => ∀ j, L k (j + 1) s = L k j s') : Ev (fun k => L k k s) Q := by
  obtain ⟨r, hq, K, h⟩ := loop_ev L m I Q step (m s) s hs (Nat.le_refl _)
  exact ⟨r, hq, K + m s + 1, fun k hk => h k (by omega) k (by omega)⟩
end Go.Proofs.YtaajcllchbnjiaaGreatE

namespace Go.Proofs.YtaajcllchbnjiaaGreatE
open Go
set_option linter.unusedVariables false
namespace Dgu
theorem turn_some (x : Int) {n : Int} (h : 0 ≤ n) : ∃ v, spec_l02Turn x n = some v := by
  unfold spec_l02Turn
  exact some_bind ⟨_, nneg_some h⟩ fun _ => some_bind ⟨_, nneg_some (by rw [u64w]; omega)⟩ fun _ => ⟨_, rfl⟩
theorem block0 (b : Str) (hb : b.length = 64) (w : List Int) (hw : w.length = 64) : ∃ r : List Int, r.length = 64 ∧ Ever fun k => ∀ j, 16 < j → spec_l02Block.l0 j b 0 w = some r := by
  refine loop_ev (fun k j (s : Int × List Int) => spec_l02Block.l0 j b s.1 s.2) (fun s => (16 - s.1).toNat) (fun s => 0 ≤ s.1 ∧ s.1 ≤ 16 ∧ s.2.length = 64) (fun r => r.length = 64) (fun s ⟨h0, h1, h2⟩ => ?_) 16 (0, w) ⟨by simp, by simp, hw⟩ (by simp)
  obtain ⟨i, w⟩ := s
  have h0 : 0 ≤ i := h0
  have h1 : i ≤ 16 := h1
  have h2 : w.length = 64 := h2
  by_cases hi : i < 16
  · right
    obtain ⟨c0, e0, _⟩ := at_in (l := b) (i := 4 * i) (by omega) (by omega)
    obtain ⟨c1, e1, _⟩ := at_in (l := b) (i := 4 * i + 1) (by omega) (by omega)
    obtain ⟨c2, e2, _⟩ := at_in (l := b) (i := 4 * i + 2) (by omega) (by omega)
    obtain ⟨c3, e3, _⟩ := at_in (l := b) (i := 4 * i + 3) (by omega) (by omega)
    obtain ⟨v, ev, _⟩ := at_in (l := w) (i := i) (by omega) (by omega)
    refine ⟨(i + 1, w.set i.toNat (intBits .or .u32 (intBits .or .u32 (intBits .or .u32 (shl .u32 (IntKind.wrap .u32 (c0.toNat : Int)) 24) (shl .u32 (IntKind.wrap .u32 (c1.toNat : Int)) 16)) (shl .u32 (IntKind.wrap .u32 (c2.toNat : Int)) 8)) (IntKind.wrap .u32 (c3.toNat : Int)))), ⟨by show 0 ≤ i + 1; omega, by show i + 1 ≤ 16; omega, by show (w.set _ _).length = 64; rw [List.length_set]; exact h2⟩, by show (16 - (i + 1)).toNat < (16 - i).toNat; omega, Ever.of fun k j => ?_⟩
    · show spec_l02Block.l0 (j + 1) b i w = _
      conv => lhs; unfold spec_l02Block.l0
      rw [decide_eq_true hi, wid (n := 4 * i) (by omega) (by omega)]
      simp only [cond_true]
      rw [wid (n := 4 * i + 1) (by omega) (by omega), wid (n := 4 * i + 2) (by omega) (by omega), wid (n := 4 * i + 3) (by omega) (by omega), e0, e1, e2, e3, ev, nneg_some (by omega), nneg_some (by omega), nneg_some (by omega), wid (n := i + 1) (by omega) (by omega)]
      rfl
  · left
    refine ⟨w, Ever.of fun k j => ?_, h2⟩
    show spec_l02Block.l0 (j + 1) b i w = _
    conv => lhs; unfold spec_l02Block.l0
    rw [decide_eq_false hi]
    rfl
theorem block1 (w : List Int) (hw : w.length = 64) : ∃ r : List Int, r.length = 64 ∧ Ever fun k => ∀ j, 48 < j → spec_l02Block.l1 j 16 w = some r := by
  refine loop_ev (fun k j (s : Int × List Int) => spec_l02Block.l1 j s.1 s.2) (fun s => (64 - s.1).toNat) (fun s => 16 ≤ s.1 ∧ s.1 ≤ 64 ∧ s.2.length = 64) (fun r => r.length = 64) (fun s ⟨h0, h1, h2⟩ => ?_) 48 (16, w) ⟨by simp, by simp, hw⟩ (by simp)
  obtain ⟨i, w⟩ := s
  have h0 : 16 ≤ i := h0
  have h1 : i ≤ 64 := h1
  have h2 : w.length = 64 := h2
  by_cases hi : i < 64
  · right
    obtain ⟨a, ea, _⟩ := at_in (l := w) (i := i - 15) (by omega) (by omega)
    obtain ⟨b, eb, _⟩ := at_in (l := w) (i := i - 2) (by omega) (by omega)
    obtain ⟨c, ec, _⟩ := at_in (l := w) (i := i - 16) (by omega) (by omega)
    obtain ⟨d, ed, _⟩ := at_in (l := w) (i := i - 7) (by omega) (by omega)
    obtain ⟨v, ev, _⟩ := at_in (l := w) (i := i) (by omega) (by omega)
    obtain ⟨t1, f1⟩ := turn_some a (n := 7) (by omega)
    obtain ⟨t2, f2⟩ := turn_some a (n := 18) (by omega)
    obtain ⟨t3, f3⟩ := turn_some b (n := 17) (by omega)
    obtain ⟨t4, f4⟩ := turn_some b (n := 19) (by omega)
    refine ⟨(i + 1, w.set i.toNat (IntKind.wrap .u32 ((IntKind.wrap .u32 ((IntKind.wrap .u32 (c + (intBits .xor .u32 (intBits .xor .u32 t1 t2) (shr .u32 a 3)))) + d)) + (intBits .xor .u32 (intBits .xor .u32 t3 t4) (shr .u32 b 10))))), ⟨by show 16 ≤ i + 1; omega, by show i + 1 ≤ 64; omega, by show (w.set _ _).length = 64; rw [List.length_set]; exact h2⟩, by show (64 - (i + 1)).toNat < (64 - i).toNat; omega, Ever.of fun k j => ?_⟩
    show spec_l02Block.l1 (j + 1) i w = _
    conv => lhs; unfold spec_l02Block.l1
    rw [decide_eq_true hi, w64 (n := i - 15) (by omega) (by omega), w64 (n := i - 2) (by omega) (by omega), w64 (n := i - 16) (by omega) (by omega), w64 (n := i - 7) (by omega) (by omega), w64 (n := i + 1) (by omega) (by omega)]
    simp only [cond_true, ea, eb, ec, ed, ev, Option.bind_some, f1, f2, f3, f4]
    rw [nneg_some (by omega), nneg_some (by omega)]
    rfl
  · left
    refine ⟨w, Ever.of fun k j => ?_, h2⟩
    show spec_l02Block.l1 (j + 1) i w = _
    conv => lhs; unfold spec_l02Block.l1
    rw [decide_eq_false hi]
    rfl
theorem block2 (w key : List Int) (hw : w.length = 64) (hk : key.length = 64) (a b c d e f g h : Int) : ∃ r, True ∧ Ever fun k => ∀ j, 64 < j → spec_l02Block.l2 j a b c d e f g h 0 w key = some r := by
   refine loop_ev (fun k j (s : Int × Int × Int × Int × Int × Int × Int × Int × Int) => spec_l02Block.l2 j s.1 s.2.1 s.2.2.1 s.2.2.2.1 s.2.2.2.2.1 s.2.2.2.2.2.1 s.2.2.2.2.2.2.1 s.2.2.2.2.2.2.2.1 s.2.2.2.2.2.2.2.2 w key) (fun s => (64 - s.2.2.2.2.2.2.2.2).toNat) (fun s => 0 ≤ s.2.2.2.2.2.2.2.2 ∧ s.2.2.2.2.2.2.2.2 ≤ 64) (fun _ => True) (fun s ⟨h0, h1⟩ => ?_) 64 (a, b, c, d, e, f, g, h, 0) ⟨by simp, by simp⟩ (by simp)
   · obtain ⟨a, b, c, d, e, f, g, h, i⟩ := s
     have h0 : 0 ≤ i := h0
     have h1 : i ≤ 64 := h1
     by_cases hi : i < 64
     · right
       obtain ⟨x, ex, _⟩ := at_in (l := w) (i := i) (by omega) (by omega)
       obtain ⟨y, ey, _⟩ := at_in (l := key) (i := i) (by omega) (by omega)
       obtain ⟨t1, f1⟩ := turn_some e (n := 6) (by omega)
       obtain ⟨t2, f2⟩ := turn_some e (n := 11) (by omega)
       obtain ⟨t3, f3⟩ := turn_some e (n := 25) (by omega)
       obtain ⟨t4, f4⟩ := turn_some a (n := 2) (by omega)
       obtain ⟨t5, f5⟩ := turn_some a (n := 13) (by omega)
       obtain ⟨t6, f6⟩ := turn_some a (n := 22) (by omega)
       refine ⟨(IntKind.wrap .u32 ((IntKind.wrap .u32 ((IntKind.wrap .u32 ((IntKind.wrap .u32 ((IntKind.wrap .u32 (h + (intBits .xor .u32 (intBits .xor .u32 t1 t2) t3))) + (intBits .xor .u32 (intBits .and .u32 e f) (intBits .and .u32 (intBits .xor .u32 (IntKind.max .u32) e) g)))) + y)) + x)) + (IntKind.wrap .u32 ((intBits .xor .u32 (intBits .xor .u32 t4 t5) t6) + (intBits .xor .u32 (intBits .xor .u32 (intBits .and .u32 a b) (intBits .and .u32 a c)) (intBits .and .u32 b c))))), a, b, c, IntKind.wrap .u32 (d + IntKind.wrap .u32 ((IntKind.wrap .u32 ((IntKind.wrap .u32 ((IntKind.wrap .u32 (h + (intBits .xor .u32 (intBits .xor .u32 t1 t2) t3))) + (intBits .xor .u32 (intBits .and .u32 e f) (intBits .and .u32 (intBits .xor .u32 (IntKind.max .u32) e) g)))) + y)) + x)), e, f, g, i + 1), ⟨by show 0 ≤ i + 1; omega, by show i + 1 ≤ 64; omega⟩, by show (64 - (i + 1)).toNat < (64 - i).toNat; omega, Ever.of fun k j => ?_⟩
       · show spec_l02Block.l2 (j + 1) a b c d e f g h i w key = _
         conv => lhs; unfold spec_l02Block.l2
         rw [decide_eq_true hi, w64 (n := i + 1) (by omega) (by omega)]
         simp only [cond_true, ex, ey, Option.bind_some, f1, f2, f3, f4, f5, f6]
     · left
       refine ⟨(a, b, c, d, e, f, g, h), Ever.of fun k j => ?_, trivial⟩
       · show spec_l02Block.l2 (j + 1) a b c d e f g h i w key = _
         conv => lhs; unfold spec_l02Block.l2
         rw [decide_eq_false hi]
         rfl
theorem block3 (st v : List Int) (hs : st.length = 8) (hv : v.length = 8) : ∃ r : List Int, r.length = 8 ∧ Ever fun k => ∀ j, 8 < j → spec_l02Block.l3 j st 0 v [] = some r := by
  refine loop_ev (fun k j (s : Int × List Int) => spec_l02Block.l3 j st s.1 v s.2) (fun s => (8 - s.1).toNat) (fun s => 0 ≤ s.1 ∧ s.1 ≤ 8 ∧ (s.2.length : Int) = s.1) (fun r => r.length = 8) (fun s ⟨h0, h1, h2⟩ => ?_) 8 (0, []) ⟨by simp, by simp, by simp⟩ (by simp)
  obtain ⟨i, o⟩ := s
  have h0 : 0 ≤ i := h0
  have h1 : i ≤ 8 := h1
  have h2 : (o.length : Int) = i := h2
  by_cases hi : i < 8
  · right
    obtain ⟨x, ex, _⟩ := at_in (l := st) (i := i) (by omega) (by omega)
    obtain ⟨y, ey, _⟩ := at_in (l := v) (i := i) (by omega) (by omega)
    refine ⟨(i + 1, o ++ [IntKind.wrap .i64 (IntKind.wrap .u32 ((IntKind.wrap .u32 x) + y))]), ⟨by show 0 ≤ i + 1; omega, by show i + 1 ≤ 8; omega, by show ((o ++ [_]).length : Int) = i + 1; rw [List.length_append]; simp; omega⟩, by show (8 - (i + 1)).toNat < (8 - i).toNat; omega, Ever.of fun k j => ?_⟩
    show spec_l02Block.l3 (j + 1) st i v o = _
    conv => lhs; unfold spec_l02Block.l3
    rw [decide_eq_true hi, w64 (n := i + 1) (by omega) (by omega)]
    simp only [cond_true, ex, ey, Option.bind_some]
    rw [app_ok (by simp; omega)]
    rfl
  · left
    refine ⟨o, Ever.of fun k j => ?_, by omega⟩
    show spec_l02Block.l3 (j + 1) st i v o = _
    conv => lhs; unfold spec_l02Block.l3
    rw [decide_eq_false hi]
    rfl
theorem block_ev (st : List Int) (b : Str) (hs : st.length = 8) (hb : b.length = 64) : Ev (fun k => spec_l02Block k st b) fun r => r.length = 8 := by
  obtain ⟨w0, h0, e0⟩ := block0 b hb (List.replicate 64 0) (by simp)
  obtain ⟨w1, h1, e1⟩ := block1 w0 h0
  obtain ⟨s0, a0, _⟩ := at_in (l := st) (i := 0) (by omega) (by omega)
  obtain ⟨s1, a1, _⟩ := at_in (l := st) (i := 1) (by omega) (by omega)
  obtain ⟨s2, a2, _⟩ := at_in (l := st) (i := 2) (by omega) (by omega)
  obtain ⟨s3, a3, _⟩ := at_in (l := st) (i := 3) (by omega) (by omega)
  obtain ⟨s4, a4, _⟩ := at_in (l := st) (i := 4) (by omega) (by omega)
  obtain ⟨s5, a5, _⟩ := at_in (l := st) (i := 5) (by omega) (by omega)
  obtain ⟨s6, a6, _⟩ := at_in (l := st) (i := 6) (by omega) (by omega)
  obtain ⟨s7, a7, _⟩ := at_in (l := st) (i := 7) (by omega) (by omega)
  have hkey : ∃ key, spec_l02Keys = some key ∧ key.length = 64 := ⟨_, rfl, rfl⟩
  obtain ⟨key, ek, hkl⟩ := hkey
  obtain ⟨r, _, er⟩ := block2 w1 key h1 hkl (IntKind.wrap .u32 s0) (IntKind.wrap .u32 s1) (IntKind.wrap .u32 s2) (IntKind.wrap .u32 s3) (IntKind.wrap .u32 s4) (IntKind.wrap .u32 s5) (IntKind.wrap .u32 s6) (IntKind.wrap .u32 s7)
  obtain ⟨o, ho, eo⟩ := block3 st [r.1, r.2.1, r.2.2.1, r.2.2.2.1, r.2.2.2.2.1, r.2.2.2.2.2.1, r.2.2.2.2.2.2.1, r.2.2.2.2.2.2.2] hs rfl
  refine ⟨o, ho, ((((e0.and e1).and er).and eo).and (Ever.ge 66 fun k hk => hk)).mono fun k ⟨⟨⟨⟨e0, e1⟩, er⟩, eo⟩, hk⟩ => ?_⟩
  have hm : make? 4 64 64 (0 : Int) = some (List.replicate 64 0) := make_some (n := 64) (b := 4) (by omega)
  unfold spec_l02Block
  rw [hm]
  simp only [Option.bind_some]
  rw [e0 k (by omega)]
  simp only [Option.bind_some]
  rw [e1 k (by omega)]
  simp only [a0, a1, a2, a3, a4, a5, a6, a7, Option.bind_some]
  rw [ek]
  simp only [Option.bind_some]
  rw [er k (by omega)]
  simp only [Option.bind_some]
  rw [eo k (by omega)]
  rfl
theorem all0 (l : List Int) (hl : l.length ≤ 9000) : ∃ r : List Int, (r.length ≤ 9100 ∧ r.length % 64 = 56) ∧ Ever fun k => ∀ j, 64 < j → spec_l02All.l0 j l = some r := by
  refine loop_ev (fun k j (s : List Int) => spec_l02All.l0 j s) (fun s => (56 + 64 - s.length % 64) % 64) (fun s => s.length + (56 + 64 - s.length % 64) % 64 ≤ 9100) (fun r => r.length ≤ 9100 ∧ r.length % 64 = 56) (fun s h => ?_) 64 l (by show l.length + _ ≤ 9100; omega) (by omega)
  have h : s.length + (56 + 64 - s.length % 64) % 64 ≤ 9100 := h
  have e : Int.tmod (s.length : Int) 64 = ((s.length % 64 : Nat) : Int) := by rw [Int.tmod_eq_emod_of_nonneg (by omega)]; omega
  by_cases hm : s.length % 64 = 56
  · left
    refine ⟨s, Ever.of fun k j => ?_, by omega, hm⟩
    show spec_l02All.l0 (j + 1) s = _
    conv => lhs; unfold spec_l02All.l0
    rw [nz_some (by omega), e, hm]
    rfl
  · right
    refine ⟨s ++ [0], by show (s ++ [0]).length + _ ≤ 9100; rw [List.length_append]; simp only [List.length_cons, List.length_nil]; omega, by show (56 + 64 - (s ++ [0]).length % 64) % 64 < _; rw [List.length_append]; simp only [List.length_cons, List.length_nil]; omega, Ever.of fun k j => ?_⟩
    show spec_l02All.l0 (j + 1) s = _
    conv => lhs; unfold spec_l02All.l0
    rw [nz_some (by omega), e, show (((s.length % 64 : Nat) : Int) != 56) = true by simp; omega]
    simp only [cond_true, Option.bind_some]
    rw [app_ok (by simp; omega)]
    rfl
theorem all1 (n : Int) (l : List Int) (hl : l.length ≤ 9100) (hm : l.length % 64 = 56) : ∃ r : List Int, (r.length ≤ 9200 ∧ r.length % 64 = 0) ∧ Ever fun k => ∀ j, 8 < j → spec_l02All.l1 j n 56 l = some r := by
  refine loop_ev (fun k j (s : Int × List Int) => spec_l02All.l1 j n s.1 s.2) (fun s => ((s.1 + 8) / 8).toNat) (fun s => ∃ q : Nat, s.1 = 8 * (q : Int) - 8 ∧ q ≤ 8 ∧ s.2.length + q = l.length + 8) (fun r => r.length ≤ 9200 ∧ r.length % 64 = 0) (fun s ⟨q, h0, h1, h2⟩ => ?_) 8 (56, l) ⟨8, by simp, by omega, by simp⟩ (by simp)
  obtain ⟨i, o⟩ := s
  have h0 : i = 8 * (q : Int) - 8 := h0
  have h2 : o.length + q = l.length + 8 := h2
  by_cases hi : 0 ≤ i
  · right
    refine ⟨(i - 8, o ++ [IntKind.wrap .u8 (shr .u64 n (IntKind.wrap .u64 i))]), ⟨q - 1, by show i - 8 = _; omega, by omega, by show (o ++ [_]).length + _ = _; rw [List.length_append]; simp only [List.length_cons, List.length_nil]; omega⟩, by show ((i - 8 + 8) / 8).toNat < ((i + 8) / 8).toNat; omega, Ever.of fun k j => ?_⟩
    show spec_l02All.l1 (j + 1) n i o = _
    conv => lhs; unfold spec_l02All.l1
    rw [decide_eq_true hi, nneg_some (by rw [u64w]; omega), w64 (n := i - 8) (by omega) (by omega)]
    simp only [cond_true, Option.bind_some]
    rw [app_ok (by simp; omega)]
    rfl
  · left
    refine ⟨o, Ever.of fun k j => ?_, by omega, by omega⟩
    show spec_l02All.l1 (j + 1) n i o = _
    conv => lhs; unfold spec_l02All.l1
    rw [decide_eq_false hi]
    rfl
theorem all2 (l : List Int) (hl : l.length ≤ 9200) (hm : l.length % 64 = 0) (st : List Int) (hs : st.length = 8) : ∃ r : List Int, r.length = 8 ∧ Ever fun k => ∀ j, l.length < j → spec_l02All.l2 k j l 0 st = some r := by
  refine loop_ev (fun k j (s : Int × List Int) => spec_l02All.l2 k j l s.1 s.2) (fun s => ((l.length : Int) - s.1).toNat) (fun s => ∃ q : Nat, s.1 = 64 * (q : Int) ∧ s.1 ≤ (l.length : Int) ∧ s.2.length = 8) (fun r => r.length = 8) (fun s ⟨q, h0, h1, h2⟩ => ?_) l.length (0, st) ⟨0, by simp, by simp, hs⟩ (by simp)
  obtain ⟨i, o⟩ := s
  have h0 : i = 64 * (q : Int) := h0
  have h1 : i ≤ (l.length : Int) := h1
  have h2 : o.length = 8 := h2
  by_cases hi : i < (l.length : Int)
  · right
    obtain ⟨t, et, ht⟩ := cut_in (l := l) (i := i) (j := i + 64) (by omega) (by omega) (by omega)
    obtain ⟨r, hr, er⟩ := block_ev o (listByte t) h2 (by rw [listByte_len]; omega)
    refine ⟨(i + 64, r), ⟨q + 1, by show i + 64 = _; omega, by show i + 64 ≤ _; omega, hr⟩, by show ((l.length : Int) - (i + 64)).toNat < ((l.length : Int) - i).toNat; omega, er.mono fun k er j => ?_⟩
    show spec_l02All.l2 k (j + 1) l i o = _
    conv => lhs; unfold spec_l02All.l2
    rw [decide_eq_true hi, w64 (n := i + 64) (by omega) (by omega)]
    simp only [cond_true]
    rw [et]
    simp only [Option.bind_some]
    have er : spec_l02Block k o (listByte t) = some r := er
    rw [er]
    rfl
  · left
    refine ⟨o, Ever.of fun k j => ?_, h2⟩
    show spec_l02All.l2 k (j + 1) l i o = _
    conv => lhs; unfold spec_l02All.l2
    rw [decide_eq_false hi]
    rfl
theorem all3 (st : List Int) (hs : st.length = 8) : ∃ r : List Int, r.length = 32 ∧ Ever fun k => ∀ j, 8 < j → spec_l02All.l3 j 0 st [] = some r := by
  refine loop_ev (fun k j (s : Int × List Int) => spec_l02All.l3 j s.1 st s.2) (fun s => (8 - s.1).toNat) (fun s => 0 ≤ s.1 ∧ s.1 ≤ 8 ∧ (s.2.length : Int) = 4 * s.1) (fun r => r.length = 32) (fun s ⟨h0, h1, h2⟩ => ?_) 8 (0, []) ⟨by simp, by simp, by simp⟩ (by simp)
  obtain ⟨i, o⟩ := s
  have h0 : 0 ≤ i := h0
  have h1 : i ≤ 8 := h1
  have h2 : (o.length : Int) = 4 * i := h2
  by_cases hi : i < 8
  · right
    obtain ⟨x, ex, _⟩ := at_in (l := st) (i := i) (by omega) (by omega)
    refine ⟨(i + 1, o ++ [(IntKind.wrap .u8 (shr .i64 x 24)), (IntKind.wrap .u8 (shr .i64 x 16)), (IntKind.wrap .u8 (shr .i64 x 8)), (IntKind.wrap .u8 x)]), ⟨by show 0 ≤ i + 1; omega, by show i + 1 ≤ 8; omega, by show ((o ++ [_, _, _, _]).length : Int) = 4 * (i + 1); rw [List.length_append]; simp only [List.length_cons, List.length_nil]; omega⟩, by show (8 - (i + 1)).toNat < (8 - i).toNat; omega, Ever.of fun k j => ?_⟩
    show spec_l02All.l3 (j + 1) i st o = _
    conv => lhs; unfold spec_l02All.l3
    rw [decide_eq_true hi, w64 (n := i + 1) (by omega) (by omega)]
    simp only [cond_true, ex, Option.bind_some]
    rw [nneg_some (by omega), nneg_some (by omega), nneg_some (by omega)]
    simp only [Option.bind_some]
    rw [app_ok (by simp; omega)]
    rfl
  · left
    refine ⟨o, Ever.of fun k j => ?_, by omega⟩
    show spec_l02All.l3 (j + 1) i st o = _
    conv => lhs; unfold spec_l02All.l3
    rw [decide_eq_false hi]
    rfl
end Dgu
open Dgu in
theorem sDigest_ev (s : Str) (h : s.length ≤ 8000) : Ev (fun k => spec_Digest k s) fun d => d.length = 32 := by
  have hb : (byteList s).length = s.length := by simp [byteList]
  obtain ⟨a, ⟨h1, h2⟩, ea⟩ := all0 (byteList s ++ [128]) (by rw [List.length_append, hb]; simp; omega)
  obtain ⟨b, ⟨h3, h4⟩, eb⟩ := all1 (IntKind.wrap .u64 (IntKind.wrap .i64 (8 * (s.length : Int)))) a h1 h2
  have hst : ∃ st, spec_l02Start = some st ∧ st.length = 8 := ⟨_, rfl, rfl⟩
  obtain ⟨st, es, hs⟩ := hst
  obtain ⟨c, h5, ec⟩ := all2 b h3 h4 st hs
  obtain ⟨d, h6, ed⟩ := all3 c h5
  refine ⟨listByte d, by show (listByte d).length = 32; rw [listByte_len]; exact h6, ((((ea.and eb).and ec).and ed).and (Ever.ge 9300 fun k hk => hk)).mono fun k ⟨⟨⟨⟨ea, eb⟩, ec⟩, ed⟩, hk⟩ => ?_⟩
  unfold spec_Digest spec_l02All
  rw [decide_eq_false (by omega : ¬ (8000 < (s.length : Int))), room_some (by omega)]
  simp only [cond_false, Option.bind_some]
  rw [app_ok (by rw [hb]; simp; omega)]
  simp only [Option.bind_some]
  rw [ea k (by omega)]
  simp only [Option.bind_some]
  rw [eb k (by omega)]
  simp only [Option.bind_some]
  rw [es]
  simp only [Option.bind_some]
  rw [ec k (by omega)]
  simp only [Option.bind_some]
  rw [ed k (by omega)]
  rfl
end Go.Proofs.YtaajcllchbnjiaaGreatE

namespace Go.Proofs.YtaajcllchbnjiaaGreatE
open Go
set_option linter.unusedVariables false
abbrev SrcT := List Int × Int × Int × Int
/-- A source of draws. -/
def Src (s : SrcT) : Prop := 0 ≤ s.2.1 ∧ s.1.length ≤ 140737488351232
theorem n_ok (s : SrcT) (hs : Src s) (m : Int) (hm : m < 9223372036854775807) : ∃ p : Int × SrcT, spec_l01Src_n s m = some p ∧ Src p.2 ∧ 0 ≤ p.1 ∧ (m ≤ 1 → p.1 = 0) ∧ (1 < m → p.1 < m) := by
  unfold spec_l01Src_n
  by_cases h : m ≤ 1
  · rw [decide_eq_true h]
    exact ⟨(0, s), rfl, hs, Int.le_refl _, fun _ => rfl, fun q => by omega⟩
  · have hj : ∃ q : Int × SrcT, spec_l01Src_n.j0 0 s.1 s.2.1 s.2.2.1 s.2.2.2 = some q ∧ Src q.2 := by
      obtain ⟨h0, h1⟩ := hs
      unfold spec_l01Src_n.j0
      by_cases ha : s.2.1 < (s.1.length : Int)
      · obtain ⟨c, ec, _⟩ := at_in h0 ha
        rw [decide_eq_true ha, ec, w64 (by omega) (by omega)]
        exact ⟨(IntKind.wrap .u64 c, s.1, s.2.1 + 1, s.2.2.1, s.2.2.2), rfl, by show 0 ≤ s.2.1 + 1; omega, h1⟩
      · rw [decide_eq_false ha]
        exact ⟨(0, s), rfl, h0, h1⟩
    obtain ⟨q, hq, hq2⟩ := hj
    rw [decide_eq_false h, hq]
    simp only [cond_false, Option.bind_some]
    rw [nneg_some (by omega), nneg_some (by omega), nneg_some (by omega), nneg_some (by omega), wuid (n := m) (by omega) (by omega), nz_some (by omega)]
    simp only [Option.bind_some]
    generalize intBits .xor .u64 (intBits .xor .u64 (intBits .xor .u64 q.2.2.2.1 (shl .u64 q.2.2.2.1 13)) (shr .u64 (intBits .xor .u64 q.2.2.2.1 (shl .u64 q.2.2.2.1 13)) 7)) (shl .u64 (intBits .xor .u64 (intBits .xor .u64 q.2.2.2.1 (shl .u64 q.2.2.2.1 13)) (shr .u64 (intBits .xor .u64 q.2.2.2.1 (shl .u64 q.2.2.2.1 13)) 7)) 17) = e
    generalize hx : IntKind.wrap .u64 (q.1 + shr .u64 e 20) = x
    have hx0 : 0 ≤ x := by rw [← hx, u64w]; omega
    have h1 : Int.tmod x m = x % m := Int.tmod_eq_emod_of_nonneg hx0
    have h2 := Int.emod_nonneg x (by omega : m ≠ 0)
    have h3 := Int.emod_lt_of_pos x (by omega : 0 < m)
    refine ⟨(x % m, q.2.1, q.2.2.1, e, q.2.2.2.2), ?_, hq2, h2, fun q => absurd q h, fun _ => h3⟩
    rw [h1, w64 (by omega) (by omega)]
theorem one_ok (s : SrcT) (hs : Src s) (m : Int) (hm : m < 9223372036854775807) : ∃ p : Bool × SrcT, spec_l01Src_one s m = some p ∧ Src p.2 := by
  obtain ⟨p, h1, h2, _⟩ := n_ok s hs m hm
  unfold spec_l01Src_one
  rw [h1]
  exact ⟨(p.1 == 0, p.2), rfl, h2⟩
theorem source_uni (code : List Int) (hc : code.length ≤ 1048576) : ∃ s : SrcT, Src s ∧ ∀ k, 65 ≤ k → spec_l01Source k code = some s := by
  have hl : ∃ r : SrcT, Src r ∧ ∀ k, 64 < k → spec_l01Source.l0 k code 0 code 0 88172645463325252 0 = some r := by
    refine loop_uni (fun j (s : Int × Int) => spec_l01Source.l0 j code s.1 code 0 s.2 0) (fun s => (64 - s.1).toNat) (fun s => 0 ≤ s.1 ∧ s.1 ≤ 64) Src (fun s ⟨h0, h1⟩ => ?_) 64 (0, 88172645463325252) ⟨by simp, by simp⟩ (by simp)
    obtain ⟨i, mix⟩ := s
    have h0 : 0 ≤ i := h0
    have h1 : i ≤ 64 := h1
    by_cases hi : i < (code.length : Int) ∧ i < 64
    · right
      obtain ⟨c, ec, _⟩ := at_in h0 hi.1
      refine ⟨(i + 1, IntKind.wrap .u64 ((intBits .xor .u64 mix (IntKind.wrap .u64 c)) * 1099511628211)), ⟨by show 0 ≤ i + 1; omega, by show i + 1 ≤ 64; omega⟩, by show (64 - (i + 1)).toNat < (64 - i).toNat; omega, fun j => ?_⟩
      show spec_l01Source.l0 (j + 1) code i code 0 mix 0 = _
      conv => lhs; unfold spec_l01Source.l0
      rw [decide_eq_true hi.1, decide_eq_true hi.2, ec, w64 (n := i + 1) (by omega) (by omega)]
      rfl
    · left
      refine ⟨(code, 0, mix, 0), fun j => ?_, by show (0 : Int) ≤ 0; omega, by show code.length ≤ _; omega⟩
      show spec_l01Source.l0 (j + 1) code i code 0 mix 0 = _
      conv => lhs; unfold spec_l01Source.l0
      rw [show (decide (i < (code.length : Int)) && decide (i < 64)) = false by rw [Bool.eq_false_iff, Ne, Bool.and_eq_true, decide_eq_true_eq, decide_eq_true_eq]; exact hi]
      rfl
  obtain ⟨r, hr, er⟩ := hl
  cases hc : decide (12 < IntKind.wrap .i64 (Int.tdiv (code.length : Int) 20)) with
  | false =>
    refine ⟨(r.1, r.2.1, r.2.2.1, IntKind.wrap .i64 (Int.tdiv (code.length : Int) 20)), hr, fun k hk => ?_⟩
    unfold spec_l01Source
    rw [er k (by omega), nz_some (by omega)]
    simp only [Option.bind_some]
    rw [hc]
    rfl
  | true =>
    refine ⟨(r.1, r.2.1, r.2.2.1, 12), hr, fun k hk => ?_⟩
    unfold spec_l01Source
    rw [er k (by omega), nz_some (by omega)]
    simp only [Option.bind_some]
    rw [hc]
    rfl
theorem source_ok (code : List Int) (hc : code.length ≤ 1048576) (k : Nat) (hk : 65 ≤ k) : ∃ s : SrcT, spec_l01Source k code = some s ∧ Src s := by
  obtain ⟨s, h, e⟩ := source_uni code hc
  exact ⟨s, e k hk, h⟩
end Go.Proofs.YtaajcllchbnjiaaGreatE

namespace Go.Proofs.YtaajcllchbnjiaaGreatE
open Go
set_option linter.unusedVariables false
theorem spoil_ok (s : SrcT) (hs : Src s) (t : Str) (ht : t.length ≤ 100000) : ∃ p : Str × SrcT, spec_l01Src_spoil s t = some p ∧ Src p.2 ∧ p.1.length ≤ t.length + 1 := by
  obtain ⟨v3, e3, s3, l3, z3, u3⟩ := n_ok s hs ((t.length : Int) + 1) (by omega)
  obtain ⟨v4, e4, s4, l4, _, u4⟩ := n_ok v3.2 s3 17 (by omega)
  have u4 := u4 (by omega)
  have hle : v3.1 ≤ (t.length : Int) := by
    by_cases h : (t.length : Int) + 1 ≤ 1
    · rw [z3 h]; omega
    · have := u3 (by omega); omega
  obtain ⟨c, ec, _⟩ := at_in (l := ([32, 10, 48, 97, 45, 110, 44, 58, 93, 255, 40, 120, 126, 49, 128, 225, 59] : Str)) l4 u4
  obtain ⟨a, ea, la⟩ := cut_in (l := t) (i := 0) (j := v3.1) (by omega) l3 hle
  obtain ⟨b, eb, lb⟩ := cut_in (l := t) (i := v3.1) (j := (t.length : Int)) l3 hle (Int.le_refl _)
  have hc1 : (listByte [((c.toNat : Nat) : Int)]).length = 1 := rfl
  unfold spec_l01Src_spoil
  rw [w64 (n := (t.length : Int) + 1) (by omega) (by omega), e3]
  simp only [Option.bind_some]
  rw [e4]
  simp only [Option.bind_some]
  rw [ec]
  simp only [Option.bind_some]
  rw [ea, eb]
  simp only [Option.bind_some]
  have c1 : cat? a (listByte [((c.toNat : Nat) : Int)]) = some (a ++ listByte [((c.toNat : Nat) : Int)]) := cat_some (by omega)
  have c2 : cat? (a ++ listByte [((c.toNat : Nat) : Int)]) b = some (a ++ listByte [((c.toNat : Nat) : Int)] ++ b) := cat_some (by rw [List.length_append]; omega)
  have hlen : (a ++ listByte [((c.toNat : Nat) : Int)] ++ b).length ≤ t.length + 1 := by rw [List.length_append, List.length_append]; omega
  by_cases hq : v3.1 = (t.length : Int)
  · rw [show (v3.1 == (t.length : Int)) = true by rw [hq]; simp]
    simp only [cond_true]
    rw [c1]
    simp only [Option.bind_some]
    rw [c2]
    exact ⟨(_, v4.2), rfl, s4, hlen⟩
  · rw [show (v3.1 == (t.length : Int)) = false by simpa using hq]
    simp only [cond_false]
    obtain ⟨v13, e13, s13⟩ := one_ok v4.2 s4 3 (by omega)
    rw [e13]
    simp only [Option.bind_some]
    cases hv : v13.1 with
    | true =>
      simp only [cond_true]
      rw [c1]
      simp only [Option.bind_some]
      rw [c2]
      exact ⟨(_, v13.2), rfl, s13, hlen⟩
    | false =>
      simp only [cond_false]
      obtain ⟨v18, e18, s18⟩ := one_ok v13.2 s13 2 (by omega)
      rw [e18, w64 (n := v3.1 + 1) (by omega) (by omega)]
      simp only [Option.bind_some]
      obtain ⟨d, ed, ld⟩ := cut_in (l := t) (i := v3.1 + 1) (j := (t.length : Int)) (by omega) (by omega) (Int.le_refl _)
      rw [ed]
      simp only [Option.bind_some]
      cases hw : v18.1 with
      | true =>
        simp only [cond_true]
        rw [cat_some (by omega)]
        exact ⟨(_, v18.2), rfl, s18, by show (a ++ d).length ≤ _; rw [List.length_append]; omega⟩
      | false =>
        simp only [cond_false]
        rw [c1]
        simp only [Option.bind_some]
        rw [cat_some (by rw [List.length_append]; omega)]
        exact ⟨(_, v18.2), rfl, s18, by show (a ++ listByte [((c.toNat : Nat) : Int)] ++ d).length ≤ _; rw [List.length_append, List.length_append]; omega⟩
end Go.Proofs.YtaajcllchbnjiaaGreatE

namespace Go.Proofs.YtaajcllchbnjiaaGreatE
open Go
set_option linter.unusedVariables false
theorem pick_ok (s : SrcT) (hs : Src s) (l : List Str) (P : Str → Prop) (hl : 1 < l.length) (hl2 : l.length ≤ 1000) (hP : ∀ x ∈ l, P x) : ∃ p : Str × SrcT, spec_l01Src_pick s l = some p ∧ P p.1 ∧ Src p.2 := by
  obtain ⟨v, e, h1, h2, _, h3⟩ := n_ok s hs (l.length : Int) (by omega)
  obtain ⟨x, ex, hx⟩ := at_in h2 (h3 (by omega))
  unfold spec_l01Src_pick
  rw [e]
  simp only [Option.bind_some]
  rw [ex]
  exact ⟨(x, v.2), rfl, hP x hx, h1⟩
theorem data_ok (s : SrcT) (hs : Src s) : ∃ p : Str × SrcT, spec_l01Src_l06Data s = some p ∧ p.1.length = 8 ∧ Src p.2 := by
  obtain ⟨p, e, h1, h2⟩ := pick_ok s hs ([([97, 97, 97, 97, 97, 97, 97, 97] : Str), ([97, 98, 97, 98, 97, 98, 97, 98] : Str), ([104, 101, 108, 108, 111, 32, 32, 33] : Str), ([0, 0, 0, 0, 0, 0, 0, 0] : Str), ([0, 0, 0, 1, 0, 0, 0, 0] : Str)]) (fun x => x.length = 8) (by decide) (by decide) (by decide)
  unfold spec_l01Src_l06Data
  rw [e]
  exact ⟨p, rfl, h1, h2⟩
abbrev StepS := Int × Int × Int × Str × SrcT
theorem stepJ_ok (b : Int) (hb : b < 1000) (s : SrcT) (hs : Src s) (a6 a7 a8 : Int) (a9 : Str) (h9 : a9.length ≤ 8) : ∃ p : List Int × Int × Int × Int × Int × Int × Int × Str, spec_l01Src_l06Step.j0 b s.1 s.2.1 s.2.2.1 s.2.2.2 a6 a7 a8 a9 = some p ∧ Src (p.1, (p.2.1, (p.2.2.1, p.2.2.2.1))) ∧ p.2.2.2.2.2.2.2.length ≤ 8 := by
  unfold spec_l01Src_l06Step.j0
  cases decide (3 ≤ a6) with
  | true =>
    obtain ⟨v, e, h1, _⟩ := n_ok s hs b (by omega)
    simp only [cond_true]
    rw [e]
    exact ⟨_, rfl, h1, h9⟩
  | false => exact ⟨_, rfl, hs, h9⟩
theorem step_ok (s : SrcT) (hs : Src s) (b : Int) (hb : b < 1000) : ∃ p : StepS, spec_l01Src_l06Step s b = some p ∧ p.2.2.2.1.length ≤ 8 ∧ Src p.2.2.2.2 := by
  obtain ⟨v3, e3, h3, _⟩ := n_ok s hs 4 (by omega)
  obtain ⟨v4, e4, h4, _⟩ := n_ok v3.2 h3 b (by omega)
  obtain ⟨y5, e5, h5, l5⟩ := stepJ_ok b hb v4.2 h4 (IntKind.wrap .i64 (1 + v3.1)) v4.1 0 [] (by simp)
  unfold spec_l01Src_l06Step
  rw [e3]
  simp only [Option.bind_some]
  rw [e4]
  simp only [Option.bind_some]
  rw [e5]
  simp only [Option.bind_some]
  cases ((y5.2.2.2.2.1 == 2) || (y5.2.2.2.2.1 == 4)) with
  | true =>
    obtain ⟨v6, e6, l6, h6⟩ := data_ok _ h5
    simp only [cond_true]
    rw [e6]
    exact ⟨_, rfl, by show v6.1.length ≤ 8; omega, h6⟩
  | false => exact ⟨_, rfl, l5, h5⟩
theorem bytes_ev (s : SrcT) (hs : Src s) (m : Int) (h0 : 0 ≤ m) (h1 : m ≤ 1000) : Ev (fun k => spec_l01Src_bytes k s m) fun p => (p.1.length : Int) = m ∧ Src p.2 := by
  unfold spec_l01Src_bytes
  refine Ev.bind (Q := fun (r : List Int × Int × Int × Int × List Int) => (r.2.2.2.2.length : Int) = m ∧ Src (r.1, (r.2.1, (r.2.2.1, r.2.2.2.1)))) ?_ fun r hr => Ev.ret ⟨by show ((listByte r.2.2.2.2).length : Int) = m; rw [listByte_len]; exact hr.1, hr.2⟩
  refine Ev.loop (fun k j (z : Int × SrcT × List Int) => spec_l01Src_bytes.l0 j m z.1 z.2.1.1 z.2.1.2.1 z.2.1.2.2.1 z.2.1.2.2.2 z.2.2) (fun z => (m - z.1).toNat) (fun z => 0 ≤ z.1 ∧ z.1 ≤ m ∧ (z.2.2.length : Int) = z.1 ∧ Src z.2.1) _ (0, s, []) ⟨by simp, h0, by simp, hs⟩ ?_
  rintro ⟨i, z, l⟩ ⟨q0, q1, q2, q3⟩
  have q0 : 0 ≤ i := q0
  have q1 : i ≤ m := q1
  have q2 : (l.length : Int) = i := q2
  by_cases hi : i < m
  · right
    obtain ⟨v, e, h, _⟩ := n_ok z q3 256 (by omega)
    refine ⟨(i + 1, v.2, l ++ [IntKind.wrap .u8 v.1]), ⟨by show 0 ≤ i + 1; omega, by show i + 1 ≤ m; omega, by show ((l ++ [_]).length : Int) = i + 1; rw [List.length_append]; simp; omega, h⟩, by show (m - (i + 1)).toNat < (m - i).toNat; omega, Ever.of fun k j => ?_⟩
    show spec_l01Src_bytes.l0 (j + 1) m i z.1 z.2.1 z.2.2.1 z.2.2.2 l = _
    conv => lhs; unfold spec_l01Src_bytes.l0
    rw [decide_eq_true hi]
    simp only [cond_true]
    rw [e]
    simp only [Option.bind_some]
    rw [app_ok (by simp; omega), w64 (n := i + 1) (by omega) (by omega)]
    rfl
  · left
    refine ⟨(z.1, z.2.1, z.2.2.1, z.2.2.2, l), Ever.of fun k j => ?_, by show (l.length : Int) = m; omega, q3⟩
    show spec_l01Src_bytes.l0 (j + 1) m i z.1 z.2.1 z.2.2.1 z.2.2.2 l = _
    conv => lhs; unfold spec_l01Src_bytes.l0
    rw [decide_eq_false hi]
    rfl
theorem anyJ_ok (s : SrcT) (hs : Src s) (a5 a6 a7 : Int) (a8 : Str) : ∃ p : List Int × Int × Int × Int × Int × Int × Int × Str, spec_l01Src_l06Any.j0 s.1 s.2.1 s.2.2.1 s.2.2.2 a5 a6 a7 a8 = some p ∧ Src (p.1, (p.2.1, (p.2.2.1, p.2.2.2.1))) := by
  obtain ⟨v9, e9, h9⟩ := one_ok s hs 6 (by omega)
  unfold spec_l01Src_l06Any.j0
  have e9 : spec_l01Src_one (s.1, (s.2.1, (s.2.2.1, s.2.2.2))) 6 = some v9 := e9
  rw [e9]
  simp only [Option.bind_some]
  cases v9.1 with
  | true =>
    obtain ⟨v, e, h, _⟩ := n_ok v9.2 h9 9 (by omega)
    simp only [cond_true]
    rw [e]
    exact ⟨_, rfl, h⟩
  | false => exact ⟨_, rfl, h9⟩
theorem any_ev (s : SrcT) (hs : Src s) : Ev (fun k => spec_l01Src_l06Any k s) fun p => Src p.2.2.2.2 := by
  obtain ⟨v2, e2, _, h2⟩ := step_ok s hs 4 (by omega)
  obtain ⟨y3, e3, h3⟩ := anyJ_ok v2.2.2.2.2 h2 v2.1 v2.2.1 v2.2.2.1 v2.2.2.2.1
  obtain ⟨v4, e4, h4⟩ := one_ok _ h3 10 (by omega)
  unfold spec_l01Src_l06Any
  refine Ev.bnd e2 (Ev.bnd e3 (Ev.bnd e4 (Ev.cond (fun _ => ?_) fun _ => Ev.ret h4)))
  obtain ⟨v5, e5, h5, l5, _, u5⟩ := n_ok v4.2 h4 5 (by omega)
  refine Ev.bnd e5 (Ev.cond (fun _ => ?_) fun _ => Ev.cond (fun _ => ?_) fun _ => Ev.cond (fun _ => ?_) fun _ => Ev.cond (fun _ => ?_) fun _ => Ev.ret h5)
  · obtain ⟨v6, e6, h6, _⟩ := n_ok v5.2 h5 7 (by omega)
    exact Ev.bnd e6 (Ev.ret h6)
  · obtain ⟨v7, e7, h7, l7, _, u7⟩ := n_ok v5.2 h5 3 (by omega)
    obtain ⟨x, ex, _⟩ := at_in (l := [(-1), 7, (8 : Int)]) l7 (u7 (by omega))
    exact Ev.bnd e7 (Ev.bnd ex (Ev.bnd ex (Ev.ret h7)))
  · obtain ⟨v7, e7, h7, l7, _, u7⟩ := n_ok v5.2 h5 5 (by omega)
    obtain ⟨x, ex, _⟩ := at_in (l := [(-1), 7, 8, 1000000, (1000001 : Int)]) l7 (u7 (by omega))
    exact Ev.bnd e7 (Ev.bnd ex (Ev.bnd ex (Ev.ret h7)))
  · obtain ⟨v7, e7, h7, l7, _, u7⟩ := n_ok v5.2 h5 3 (by omega)
    have u7 := u7 (by omega)
    have hb := bytes_ev v7.2 h7 (7 + v7.1) (by omega) (by omega)
    rw [← w64 (n := 7 + v7.1) (by omega) (by omega)] at hb
    exact Ev.bnd e7 (Ev.bind hb fun p hp => Ev.ret hp.2)
/-! ### steps -/
theorem stepsJ_ok (a1 : Int) (s : SrcT) (hs : Src s) (a6 a7 a8 : Int) (a9 : Str) : ∃ p : Int × List Int × Int × Int × Int × Int × Int × Int × Str, spec_l01Src_l06Steps.j0 a1 s.1 s.2.1 s.2.2.1 s.2.2.2 a6 a7 a8 a9 = some p ∧ Src (p.2.1, (p.2.2.1, (p.2.2.2.1, p.2.2.2.2.1))) := by
  obtain ⟨v9, e9, h9⟩ := one_ok s hs 5 (by omega)
  unfold spec_l01Src_l06Steps.j0
  have e9 : spec_l01Src_one (s.1, (s.2.1, (s.2.2.1, s.2.2.2))) 5 = some v9 := e9
  rw [e9]
  simp only [Option.bind_some]
  cases v9.1 with
  | true =>
    obtain ⟨v, e, h, _⟩ := n_ok v9.2 h9 3 (by omega)
    simp only [cond_true]
    rw [e]
    exact ⟨_, rfl, h⟩
  | false => exact ⟨_, rfl, h9⟩
theorem codeM_nil {n : Int} (h1 : 1 ≤ n) (h2 : n ≤ 8) : codeM [] n = 0 := by
  unfold codeM
  rw [if_neg (fun h => by
    rcases h with h | h | h
    · simp at h
    · exact h ⟨h1, h2⟩
    · simp at h), if_neg (not_not_intro List.nodup_nil : ¬ ¬ (tosM []).Nodup)]
  rfl
theorem steps_ev (s : SrcT) (hs : Src s) (b : Int) (h1 : 1 ≤ b) (h8 : b ≤ 8) : Ev (fun k => spec_l01Src_l06Steps k s b) fun p => codeM p.1 b = 0 ∧ Src p.2 := by
  obtain ⟨v3, e3, h3, l3, _, u3⟩ := n_ok s hs (b + 3) (by omega)
  have u3 := u3 (by omega)
  rw [← w64 (n := b + 3) (by omega) (by omega)] at e3
  unfold spec_l01Src_l06Steps
  refine Ev.bnd e3 (Ev.bind (Q := fun (r : List Int × Int × Int × Int × List StepT) => codeM r.2.2.2.2 b = 0 ∧ Src (r.1, (r.2.1, (r.2.2.1, r.2.2.2.1)))) ?_ fun r hr => Ev.ret hr)
  refine Ev.loop (fun k j (z : Int × Int × SrcT × List StepT) => spec_l01Src_l06Steps.l1 k j b z.1 z.2.1 z.2.2.1.1 z.2.2.1.2.1 z.2.2.1.2.2.1 z.2.2.1.2.2.2 z.2.2.2) (fun z => z.2.1.toNat) (fun z => 0 ≤ z.2.1 ∧ z.2.1 ≤ 100 ∧ codeM z.2.2.2 b = 0 ∧ Src z.2.2.1) _ (0, v3.1, v3.2, []) ⟨l3, by show v3.1 ≤ 100; omega, codeM_nil h1 h8, h3⟩ ?_
  rintro ⟨a, i, z, l⟩ ⟨q0, q1, q2, q3⟩
  have q0 : 0 ≤ i := q0
  have q1 : i ≤ 100 := q1
  have q2 : codeM l b = 0 := q2
  by_cases hi : 0 < i
  · right
    obtain ⟨v9, e9, _, h9⟩ := step_ok z q3 b (by omega)
    obtain ⟨y, ey, hy⟩ := stepsJ_ok a v9.2.2.2.2 h9 v9.1 v9.2.1 v9.2.2.1 v9.2.2.2.1
    have hl := (codeM_ok q2).1
    have hc := sStepsCode (l ++ [y.2.2.2.2.2]) b (by rw [List.length_append]; simp; omega)
    by_cases h0 : codeM (l ++ [y.2.2.2.2.2]) b = 0
    · refine ⟨(y.1, i - 1, (y.2.1, (y.2.2.1, (y.2.2.2.1, y.2.2.2.2.1))), l ++ [y.2.2.2.2.2]), ⟨by show 0 ≤ i - 1; omega, by show i - 1 ≤ 100; omega, h0, hy⟩, by show (i - 1).toNat < i.toNat; omega, hc.mono fun k hc j => ?_⟩
      show spec_l01Src_l06Steps.l1 k (j + 1) b a i z.1 z.2.1 z.2.2.1 z.2.2.2 l = _
      conv => lhs; unfold spec_l01Src_l06Steps.l1
      rw [decide_eq_true hi]
      simp only [cond_true]
      rw [e9]
      simp only [Option.bind_some]
      rw [ey]
      simp only [Option.bind_some]
      rw [app_ok (by simp; omega)]
      simp only [Option.bind_some, List.nil_append]
      rw [app_ok (by simp; omega)]
      simp only [Option.bind_some]
      rw [hc, h0]
      simp only [Option.bind_some]
      rw [show ((0 : Int) == 0) = true from rfl, w64 (n := i - 1) (by omega) (by omega)]
      rfl
    · refine ⟨(y.1, i - 1, (y.2.1, (y.2.2.1, (y.2.2.2.1, y.2.2.2.2.1))), l), ⟨by show 0 ≤ i - 1; omega, by show i - 1 ≤ 100; omega, q2, hy⟩, by show (i - 1).toNat < i.toNat; omega, hc.mono fun k hc j => ?_⟩
      show spec_l01Src_l06Steps.l1 k (j + 1) b a i z.1 z.2.1 z.2.2.1 z.2.2.2 l = _
      conv => lhs; unfold spec_l01Src_l06Steps.l1
      rw [decide_eq_true hi]
      simp only [cond_true]
      rw [e9]
      simp only [Option.bind_some]
      rw [ey]
      simp only [Option.bind_some]
      rw [app_ok (by simp; omega)]
      simp only [Option.bind_some, List.nil_append]
      rw [app_ok (by simp; omega)]
      simp only [Option.bind_some]
      rw [hc]
      simp only [Option.bind_some]
      rw [beqd, decide_eq_false h0, w64 (n := i - 1) (by omega) (by omega)]
      rfl
  · left
    refine ⟨(z.1, z.2.1, z.2.2.1, z.2.2.2, l), Ever.of fun k j => ?_, q2, q3⟩
    show spec_l01Src_l06Steps.l1 k (j + 1) b a i z.1 z.2.1 z.2.2.1 z.2.2.2 l = _
    conv => lhs; unfold spec_l01Src_l06Steps.l1
    rw [decide_eq_false hi]
    rfl
/-! ### images -/
theorem image_ev (s : SrcT) (hs : Src s) (n : Int) (h0 : 0 ≤ n) (h1 : n ≤ 100) : Ev (fun k => spec_l01Src_l07Image k s n) fun p => (p.1.length : Int) = n ∧ Src p.2 := by
  unfold spec_l01Src_l07Image
  refine Ev.bind (Q := fun (r : List Int × Int × Int × Int × List Str) => (r.2.2.2.2.length : Int) = n ∧ Src (r.1, (r.2.1, (r.2.2.1, r.2.2.2.1)))) ?_ fun r hr => Ev.ret hr
  refine Ev.loop (fun k j (z : Int × SrcT × List Str) => spec_l01Src_l07Image.l0 j z.1 z.2.1.1 z.2.1.2.1 z.2.1.2.2.1 z.2.1.2.2.2 z.2.2) (fun z => z.1.toNat) (fun z => 0 ≤ z.1 ∧ z.1 ≤ n ∧ (z.2.2.length : Int) = n - z.1 ∧ Src z.2.1) _ (n, s, []) ⟨h0, Int.le_refl _, by simp, hs⟩ ?_
  rintro ⟨i, z, l⟩ ⟨q0, q1, q2, q3⟩
  have q0 : 0 ≤ i := q0
  have q1 : i ≤ n := q1
  have q2 : (l.length : Int) = n - i := q2
  by_cases hi : 0 < i
  · right
    obtain ⟨v, e, _, h⟩ := data_ok z q3
    refine ⟨(i - 1, v.2, l ++ [v.1]), ⟨by show 0 ≤ i - 1; omega, by show i - 1 ≤ n; omega, by show ((l ++ [_]).length : Int) = n - (i - 1); rw [List.length_append]; simp; omega, h⟩, by show (i - 1).toNat < i.toNat; omega, Ever.of fun k j => ?_⟩
    show spec_l01Src_l07Image.l0 (j + 1) i z.1 z.2.1 z.2.2.1 z.2.2.2 l = _
    conv => lhs; unfold spec_l01Src_l07Image.l0
    rw [decide_eq_true hi]
    simp only [cond_true]
    rw [e]
    simp only [Option.bind_some]
    rw [app_ok (by simp; omega), w64 (n := i - 1) (by omega) (by omega)]
    rfl
  · left
    refine ⟨(z.1, z.2.1, z.2.2.1, z.2.2.2, l), Ever.of fun k j => ?_, by show (l.length : Int) = n; omega, q3⟩
    show spec_l01Src_l07Image.l0 (j + 1) i z.1 z.2.1 z.2.2.1 z.2.2.2 l = _
    conv => lhs; unfold spec_l01Src_l07Image.l0
    rw [decide_eq_false hi]
    rfl
def imgB (l : List Str) : Bool := (decide (1 ≤ l.length) && decide (l.length ≤ 8)) && l.all fun x => x.length == 8
theorem imgB_ok {l : List Str} (h : imgB l = true) : 1 ≤ l.length ∧ l.length ≤ 8 ∧ ∀ x ∈ l, x.length = 8 := by
  unfold imgB at h
  simp only [Bool.and_eq_true, decide_eq_true_eq, List.all_eq_true, beq_iff_eq] at h
  exact ⟨h.1.1, h.1.2, h.2⟩
theorem sImageRight (l : List Str) (hl : l.length ≤ 1048576) : Ever fun k => spec_ImageRight k l = some (imgB l) := by
  refine Ever.ge (l.length + 1) fun k hk => ?_
  have run := loop_find (fun j i => spec_ImageRight.l0 j l i) l (fun x => !(x.length == 8)) (.inl ()) (fun _ => .inr false) (fun i hi => by
    have key : ∀ j, spec_ImageRight.l0 (j + 1) l (i : Int) = if (!((l[i]).length == 8)) = true then some (.inr false) else spec_ImageRight.l0 j l ((i + 1 : Nat) : Int) := by
      intro j
      rw [spec_ImageRight.l0, dlt hi, at_nat hi, wsuc (by omega)]
      simp only [cond_true, Option.bind_some]
      have : (((l[i]).length : Int) != 8) = !((l[i]).length == 8) := by
        rw [bne, beqd]
        congr 1
        rw [Bool.eq_iff_iff, decide_eq_true_eq, beq_iff_eq]
        omega
      rw [this]
      cases (!((l[i]).length == 8)) <;> rfl
    constructor
    · intro hp j
      show spec_ImageRight.l0 (j + 1) l (i : Int) = spec_ImageRight.l0 j l ((i + 1 : Nat) : Int)
      rw [key, if_neg (by rw [hp]; exact Bool.false_ne_true)]
    · intro hp j
      show spec_ImageRight.l0 (j + 1) l (i : Int) = _
      rw [key, if_pos hp]) (fun j => by
    show spec_ImageRight.l0 (j + 1) l (l.length : Int) = _
    unfold spec_ImageRight.l0
    rw [dnlt (Nat.le_refl _)]
    rfl) (by omega : l.length < k)
  have run : spec_ImageRight.l0 k l 0 = _ := run
  have hany := firstI_any (p := fun x : Str => !(x.length == 8)) (l := l) (n := 0)
  rw [← List.not_all_eq_any_not] at hany
  unfold spec_ImageRight imgB
  rw [run]
  by_cases hb : 1 ≤ l.length ∧ l.length ≤ 8
  · rw [decide_eq_false (by omega : ¬ ((l.length : Int) < 1)), decide_eq_false (by omega : ¬ ((8 : Int) < (l.length : Int))), decide_eq_true hb.1, decide_eq_true hb.2]
    simp only [Bool.or_self, cond_false, Bool.and_self, Bool.true_and]
    cases hf : firstI (fun x : Str => !(x.length == 8)) l 0 with
    | none =>
      rw [hf] at hany
      have : (l.all fun x => x.length == 8) = true := by simpa using hany.symm
      rw [this]
      rfl
    | some m =>
      rw [hf] at hany
      have : (l.all fun x => x.length == 8) = false := by simpa using hany.symm
      rw [this]
      rfl
  · have e1 : (decide ((l.length : Int) < 1) || decide ((8 : Int) < (l.length : Int))) = true := by
      rw [Bool.or_eq_true, decide_eq_true_eq, decide_eq_true_eq]; omega
    have e2 : (decide (1 ≤ l.length) && decide (l.length ≤ 8)) = false := by
      rw [Bool.eq_false_iff, Ne, Bool.and_eq_true, decide_eq_true_eq, decide_eq_true_eq]; exact hb
    rw [e1, e2]
    rfl
theorem flat_len : ∀ l : List Str, (∀ x ∈ l, x.length = 8) → l.flatten.length = 8 * l.length
  | [], _ => rfl
  | x :: l, h => by
    rw [List.flatten_cons, List.length_append, flat_len l (fun y hy => h y (List.mem_cons_of_mem _ hy)), h x List.mem_cons_self, List.length_cons]
    omega
theorem sJoin (l : List Str) (h : ∀ x ∈ l, x.length = 8) (hl : l.length ≤ 8) : Ever fun k => spec_l07Join k l = some l.flatten := by
  have run := cat_loop (fun k j acc i => spec_l07Join.l0 j l acc i) l (fun x => x) 8 100 (fun x hx => by rw [h x hx]; exact Nat.le_refl _) (fun i hi => Ever.of fun k acc j ha => by
    show spec_l07Join.l0 (j + 1) l acc (i : Int) = spec_l07Join.l0 j l (acc ++ l[i]) ((i + 1 : Nat) : Int)
    have := h _ (List.getElem_mem hi)
    rw [spec_l07Join.l0, dlt hi, at_nat hi, wsuc (by omega)]
    simp only [cond_true, Option.bind_some]
    rw [cat_some (by omega)]
    rfl) (fun k acc j => by
    show spec_l07Join.l0 (j + 1) l acc (l.length : Int) = _
    unfold spec_l07Join.l0
    rw [dnlt (Nat.le_refl _)]
    rfl) [] (by rw [List.length_nil]; omega)
  refine run.mono fun k e => ?_
  have e : spec_l07Join.l0 k l [] 0 = some ([] ++ (l.map fun x => x).flatten) := e
  unfold spec_l07Join
  rw [e]
  simp
theorem imageDigest_ev (l : List Str) (hl : l.length ≤ 1048576) : Ev (fun k => spec_ImageDigest k l) fun d => d.length ≤ 32 := by
  unfold spec_ImageDigest
  refine Ev.bind (Ev.ever (sImageRight l hl) rfl) fun b hb => ?_
  refine Ev.cond (fun _ => Ev.ret (by simp)) fun h => ?_
  have hi : imgB l = true := by rw [hb]; simpa using h
  obtain ⟨i1, i2, i3⟩ := imgB_ok hi
  refine Ev.bind (Ev.ever (sJoin l i3 i2) rfl) fun j hj => ?_
  have hjl : j.length ≤ 8000 := by rw [← hj, flat_len l i3]; omega
  exact Ev.bind (sDigest_ev j hjl) fun d hd => Ev.ret (by rw [hd]; exact Nat.le_refl _)
/-! ### steps for an image -/
theorem xored_ev (a b : Str) : Ev (fun k => spec_Xored k a b) fun r => True := by
  unfold spec_Xored
  by_cases h : a.length = 8 ∧ b.length = 8
  · have e : (((a.length : Int) != 8) || ((b.length : Int) != 8)) = false := by rw [h.1, h.2]; rfl
    rw [e]
    simp only [cond_false]
    have hm : make? 1 8 8 (0 : Int) = some (List.replicate 8 0) := make_some (n := 8) (b := 1) (by omega)
    refine Ev.bnd hm ?_
    refine Ev.bind (Q := fun (r : List Int) => True) ?_ fun r _ => Ev.ret trivial
    refine Ev.loop (fun k j (z : Int × List Int) => spec_Xored.l0 j a b z.1 z.2) (fun z => (8 - z.1).toNat) (fun z => 0 ≤ z.1 ∧ z.2.length = 8) _ (0, List.replicate 8 0) ⟨by simp, by simp⟩ ?_
    rintro ⟨i, l⟩ ⟨q0, q1⟩
    have q0 : 0 ≤ i := q0
    have q1 : l.length = 8 := q1
    by_cases hi : i < 8
    · right
      obtain ⟨x, ex, _⟩ := at_in (l := a) (i := i) q0 (by omega)
      obtain ⟨y, ey, _⟩ := at_in (l := b) (i := i) q0 (by omega)
      obtain ⟨z, ez, _⟩ := at_in (l := l) (i := i) q0 (by omega)
      refine ⟨(i + 1, l.set i.toNat (intBits .xor .u8 (x.toNat : Int) (y.toNat : Int))), ⟨by show 0 ≤ i + 1; omega, by show (l.set _ _).length = 8; rw [List.length_set]; exact q1⟩, by show (8 - (i + 1)).toNat < (8 - i).toNat; omega, Ever.of fun k j => ?_⟩
      show spec_Xored.l0 (j + 1) a b i l = _
      conv => lhs; unfold spec_Xored.l0
      rw [decide_eq_true hi, ex, ey, ez, w64 (n := i + 1) (by omega) (by omega)]
      rfl
    · left
      refine ⟨l, Ever.of fun k j => ?_, trivial⟩
      show spec_Xored.l0 (j + 1) a b i l = _
      conv => lhs; unfold spec_Xored.l0
      rw [decide_eq_false hi]
      rfl
  · have e : (((a.length : Int) != 8) || ((b.length : Int) != 8)) = true := by
      rw [Bool.or_eq_true, bne_iff_ne, bne_iff_ne]; omega
    rw [e]
    exact Ev.ret trivial
theorem other_ev (a b : Str) (ha : a.length = 8) (hb : b.length = 8) : Ev (fun k => spec_l07Other k a b) fun r => True := by
  unfold spec_l07Other
  refine Ev.bind (Q := fun (r : Int) => True) ?_ fun r _ => Ev.ret trivial
  refine Ev.loop (fun k j (z : Int × Int) => spec_l07Other.l0 j a b z.1 z.2) (fun z => (8 - z.2).toNat) (fun z => 0 ≤ z.2) _ (0, 0) (by simp) ?_
  rintro ⟨c, i⟩ q0
  have q0 : 0 ≤ i := q0
  by_cases hi : i < 8
  · right
    obtain ⟨x, ex, _⟩ := at_in (l := a) (i := i) q0 (by omega)
    obtain ⟨y, ey, _⟩ := at_in (l := b) (i := i) q0 (by omega)
    refine ⟨(bif ((x.toNat : Int) != (y.toNat : Int)) then IntKind.wrap .i64 (c + 1) else c, i + 1), by show 0 ≤ i + 1; omega, by show (8 - (i + 1)).toNat < (8 - i).toNat; omega, Ever.of fun k j => ?_⟩
    show spec_l07Other.l0 (j + 1) a b c i = _
    conv => lhs; unfold spec_l07Other.l0
    rw [decide_eq_true hi, ex, ey, w64 (n := i + 1) (by omega) (by omega)]
    simp only [cond_true, Option.bind_some]
    cases ((x.toNat : Int) != (y.toNat : Int)) <;> rfl
  · left
    refine ⟨c, Ever.of fun k j => ?_, trivial⟩
    show spec_l07Other.l0 (j + 1) a b c i = _
    conv => lhs; unfold spec_l07Other.l0
    rw [decide_eq_false hi]
    rfl
theorem for_ev (l : List Str) (h : ∀ x ∈ l, x.length = 8) (hl : l.length ≤ 8) (n : Int) (t : Str) (ht : t.length = 8) : Ev (fun k => spec_l07For k l n t) fun r => True := by
  have hz : spec_l07Zero = some (listByte (List.replicate 8 0)) := by
    unfold spec_l07Zero
    rw [show make? 1 8 8 (0 : Int) = some (List.replicate 8 0) from make_some (n := 8) (b := 1) (by omega)]
    rfl
  unfold spec_l07For
  refine Ev.bnd hz (Ev.cond (fun _ => Ev.ret trivial) fun _ => ?_)
  refine Ev.bind (Q := fun (r : StepT ⊕ StepT) => True) ?_ fun r _ => ?_
  · refine Ev.loop (fun k j (i : Int) => spec_l07For.l0 j l n t i 0 0 0 []) (fun i => ((l.length : Int) - i).toNat) (fun i => 0 ≤ i) _ 0 (Int.le_refl _) ?_
    intro i q0
    by_cases hi : i < (l.length : Int)
    · obtain ⟨x, ex, _⟩ := at_in (l := l) (i := i) q0 hi
      cases hx : (x == t) with
      | true =>
        left
        refine ⟨.inr (3, n, i, []), Ever.of fun k j => ?_, trivial⟩
        conv => lhs; unfold spec_l07For.l0
        rw [decide_eq_true hi, ex]
        simp only [cond_true, Option.bind_some, hx]
      | false =>
        right
        refine ⟨i + 1, by omega, by omega, Ever.of fun k j => ?_⟩
        conv => lhs; unfold spec_l07For.l0
        rw [decide_eq_true hi, ex, w64 (n := i + 1) (by omega) (by omega)]
        simp only [cond_true, Option.bind_some, hx, cond_false]
    · left
      refine ⟨.inl (0, 0, 0, []), Ever.of fun k j => ?_, trivial⟩
      conv => lhs; unfold spec_l07For.l0
      rw [decide_eq_false hi]
      rfl
  · cases r with
    | inr y => exact Ev.ret trivial
    | inl y =>
      refine Ev.bind (Q := fun (r : StepT ⊕ StepT) => True) ?_ fun r _ => ?_
      · refine Ev.loop (fun k j (i : Int) => spec_l07For.l1 k j l n t i y.1 y.2.1 y.2.2.1 y.2.2.2) (fun i => ((l.length : Int) - i).toNat) (fun i => 0 ≤ i) _ 0 (Int.le_refl _) ?_
        intro i q0
        by_cases hi : i < (l.length : Int)
        · obtain ⟨x, ex, hx⟩ := at_in (l := l) (i := i) q0 hi
          obtain ⟨o, _, eo⟩ := other_ev x t (h x hx) ht
          by_cases h2 : o ≤ 2
          · left
            obtain ⟨w, _, ew⟩ := xored_ev x t
            refine ⟨.inr (4, n, i, w), (eo.and ew).mono fun k ⟨eo, ew⟩ j => ?_, trivial⟩
            have eo : spec_l07Other k x t = some o := eo
            have ew : spec_Xored k x t = some w := ew
            conv => lhs; unfold spec_l07For.l1
            rw [decide_eq_true hi, ex]
            simp only [cond_true, Option.bind_some]
            rw [eo]
            simp only [Option.bind_some]
            rw [decide_eq_true h2, ew]
            rfl
          · right
            refine ⟨i + 1, by omega, by omega, eo.mono fun k eo j => ?_⟩
            have eo : spec_l07Other k x t = some o := eo
            conv => lhs; unfold spec_l07For.l1
            rw [decide_eq_true hi, ex, w64 (n := i + 1) (by omega) (by omega)]
            simp only [cond_true, Option.bind_some]
            rw [eo]
            simp only [Option.bind_some]
            rw [decide_eq_false h2]
            rfl
        · left
          refine ⟨.inl y, Ever.of fun k j => ?_, trivial⟩
          conv => lhs; unfold spec_l07For.l1
          rw [decide_eq_false hi]
          rfl
      · cases r <;> exact Ev.ret trivial
theorem stepsFor_ev (a b : List Str) (ha : a.length ≤ 1048576) (hb : b.length ≤ 1048576) : Ev (fun k => spec_StepsFor k a b) fun r => r.length ≤ 8 := by
  unfold spec_StepsFor
  refine Ev.bind (Ev.ever (sImageRight a ha) rfl) fun v3 h3 => Ev.cond (fun _ => Ev.ret (by simp)) fun q3 => ?_
  refine Ev.bind (Ev.ever (sImageRight b hb) rfl) fun v4 h4 => Ev.cond (fun _ => Ev.ret (by simp)) fun q4 => ?_
  have i3 : imgB a = true := by rw [h3]; simpa using q3
  have q4 := (Bool.or_eq_false_iff).1 q4
  have i4 : imgB b = true := by rw [h4]; simpa using q4.1
  have hlen : (a.length : Int) = (b.length : Int) := by simpa using q4.2
  obtain ⟨a1, a2, a3⟩ := imgB_ok i3
  obtain ⟨b1, b2, b3⟩ := imgB_ok i4
  refine Ev.bind (Q := fun (r : List StepT) => r.length ≤ 8) ?_ fun r hr => Ev.ret hr
  refine Ev.loop (fun k j (z : Int × List StepT) => spec_StepsFor.l0 k j a b z.1 z.2) (fun z => ((a.length : Int) - z.1).toNat) (fun z => 0 ≤ z.1 ∧ z.1 ≤ (a.length : Int) ∧ (z.2.length : Int) ≤ z.1) _ (0, []) ⟨by simp, by simp, by simp⟩ ?_
  rintro ⟨i, l⟩ ⟨q0, q1, q2⟩
  have q0 : 0 ≤ i := q0
  have q1 : i ≤ (a.length : Int) := q1
  have q2 : (l.length : Int) ≤ i := q2
  by_cases hi : i < (a.length : Int)
  · right
    obtain ⟨x, ex, hx⟩ := at_in (l := a) (i := i) q0 hi
    obtain ⟨y, ey, hy⟩ := at_in (l := b) (i := i) q0 (by omega)
    cases hxy : (x == y) with
    | true =>
      refine ⟨(i + 1, l), ⟨by show 0 ≤ i + 1; omega, by show i + 1 ≤ _; omega, by show (l.length : Int) ≤ i + 1; omega⟩, by show ((a.length : Int) - (i + 1)).toNat < ((a.length : Int) - i).toNat; omega, Ever.of fun k j => ?_⟩
      show spec_StepsFor.l0 k (j + 1) a b i l = _
      conv => lhs; unfold spec_StepsFor.l0
      rw [decide_eq_true hi, ex, ey, w64 (n := i + 1) (by omega) (by omega)]
      simp only [cond_true, Option.bind_some, hxy, Bool.not_true, cond_false]
    | false =>
      obtain ⟨w, _, ew⟩ := for_ev a a3 a2 i y (b3 y hy)
      refine ⟨(i + 1, l ++ [w]), ⟨by show 0 ≤ i + 1; omega, by show i + 1 ≤ _; omega, by show ((l ++ [w]).length : Int) ≤ i + 1; rw [List.length_append]; simp; omega⟩, by show ((a.length : Int) - (i + 1)).toNat < ((a.length : Int) - i).toNat; omega, ew.mono fun k ew j => ?_⟩
      have ew : spec_l07For k a i y = some w := ew
      show spec_StepsFor.l0 k (j + 1) a b i l = _
      conv => lhs; unfold spec_StepsFor.l0
      rw [decide_eq_true hi, ex, ey, w64 (n := i + 1) (by omega) (by omega)]
      simp only [cond_true, Option.bind_some, hxy, Bool.not_false]
      rw [ew]
      simp only [Option.bind_some]
      rw [app_ok (by simp; omega)]
      rfl
  · left
    refine ⟨l, Ever.of fun k j => ?_, by show l.length ≤ 8; omega⟩
    show spec_StepsFor.l0 k (j + 1) a b i l = _
    conv => lhs; unfold spec_StepsFor.l0
    rw [decide_eq_false hi]
    rfl
/-! ### packages -/
def PackOk (p : Int × Str × List StepT × Int) : Prop := (0 ≤ p.1 ∧ p.1 ≤ 100) ∧ p.2.1.length ≤ 100 ∧ p.2.2.1.length ≤ 100
theorem packageOf_ev (a b : List Str) (ha : a.length ≤ 1048576) (hb : b.length ≤ 1048576) : Ev (fun k => spec_PackageOf k a b) PackOk := by
  have ill : ∀ c, spec_l08Ill c = some (0, [], [], c) := fun c => rfl
  have hill : ∀ c, PackOk (0, [], [], c) := fun c => ⟨⟨by simp, by simp⟩, by simp, by simp⟩
  unfold spec_PackageOf
  refine Ev.cond (fun _ => Ev.bnd (ill 2) (Ev.ret (hill 2))) fun _ => ?_
  refine Ev.bind (Ev.ever (sImageRight a ha) rfl) fun v4 h4 => Ev.cond (fun _ => Ev.bnd (ill 1) (Ev.ret (hill 1))) fun q4 => ?_
  refine Ev.bind (Ev.ever (sImageRight b hb) rfl) fun v6 h6 => Ev.cond (fun _ => Ev.bnd (ill 1) (Ev.ret (hill 1))) fun q6 => ?_
  have i4 : imgB a = true := by rw [h4]; simpa using q4
  have := imgB_ok i4
  refine Ev.bind (stepsFor_ev a b ha hb) fun v8 h8 => ?_
  refine Ev.bnd (app_ok (by simp; omega)) (Ev.bind (imageDigest_ev b hb) fun v10 h10 => Ev.ret ⟨⟨by show 0 ≤ (a.length : Int); omega, by show (a.length : Int) ≤ 100; omega⟩, by show v10.length ≤ 100; omega, by show (v8 ++ _).length ≤ 100; rw [List.length_append]; simp; omega⟩)
theorem make_ev (x : StepT) (t : Str) : Ev (fun k => spec_l07Make k x t) fun r => True := by
  have hz : spec_l07Zero = some (listByte (List.replicate 8 0)) := by
    unfold spec_l07Zero
    rw [show make? 1 8 8 (0 : Int) = some (List.replicate 8 0) from make_some (n := 8) (b := 1) (by omega)]
    rfl
  unfold spec_l07Make
  exact Ev.cond (fun _ => Ev.bnd hz (Ev.ret trivial)) fun _ => Ev.cond (fun _ => Ev.ret trivial) fun _ => Ev.cond (fun _ => Ev.ret trivial) fun _ => Ev.bind (xored_ev _ _) fun r _ => Ev.ret trivial
theorem stepT_range {x : StepT} {n : Int} (h1 : 1 ≤ n) (h : stepT n x = true) : x.1 ≠ 5 → (0 ≤ x.2.1 ∧ x.2.1 < n) ∧ (0 ≤ x.2.2.1 ∧ x.2.2.1 < n) := by
  intro h5
  unfold stepT stepB at h
  rw [if_neg h5] at h
  split at h
  · simp only [Bool.and_eq_true, decide_eq_true_eq] at h; omega
  · split at h
    · simp only [Bool.and_eq_true, decide_eq_true_eq] at h; omega
    · split at h
      · simp only [Bool.and_eq_true, decide_eq_true_eq] at h; omega
      · split at h
        · simp only [Bool.and_eq_true, decide_eq_true_eq] at h; omega
        · cases h
theorem apply_ev (a : List Str) (l : List StepT) (n : Int) (hc : codeM l n = 0) (ha : (a.length : Int) = n) : Ev (fun k => spec_l07Apply k a l) fun r => r.length = a.length := by
  obtain ⟨hl, h1, h8, hst, _⟩ := codeM_ok hc
  unfold spec_l07Apply
  refine Ev.bnd (app_ok (by simp; omega)) (Ev.bind (Q := fun (r : List Str) => r.length = a.length) ?_ fun r hr => Ev.ret hr)
  refine Ev.loop (fun k j (z : Int × List Str) => spec_l07Apply.l0 k j a l z.1 z.2) (fun z => ((l.length : Int) - z.1).toNat) (fun z => 0 ≤ z.1 ∧ z.2.length = a.length) _ (0, a) ⟨by simp, rfl⟩ ?_
  rintro ⟨i, w⟩ ⟨q0, q1⟩
  have q0 : 0 ≤ i := q0
  have q1 : w.length = a.length := q1
  by_cases hi : i < (l.length : Int)
  · right
    obtain ⟨x, ex, hx⟩ := at_in (l := l) (i := i) q0 hi
    by_cases h5 : x.1 = 5
    · refine ⟨(i + 1, w), ⟨by show 0 ≤ i + 1; omega, q1⟩, by show ((l.length : Int) - (i + 1)).toNat < ((l.length : Int) - i).toNat; omega, Ever.of fun k j => ?_⟩
      show spec_l07Apply.l0 k (j + 1) a l i w = _
      conv => lhs; unfold spec_l07Apply.l0
      rw [decide_eq_true hi, ex, w64 (n := i + 1) (by omega) (by omega)]
      simp only [cond_true, Option.bind_some]
      rw [show (x.1 != 5) = false by simp [h5]]
      rfl
    · obtain ⟨⟨r1, r2⟩, r3, r4⟩ := stepT_range h1 (hst x hx) h5
      obtain ⟨t, et, _⟩ := at_in (l := a) (i := x.2.2.1) r3 (by omega)
      obtain ⟨u, eu, _⟩ := at_in (l := w) (i := x.2.1) r1 (by omega)
      obtain ⟨v, _, ev⟩ := make_ev x t
      refine ⟨(i + 1, w.set x.2.1.toNat v), ⟨by show 0 ≤ i + 1; omega, by show (w.set _ _).length = _; rw [List.length_set]; exact q1⟩, by show ((l.length : Int) - (i + 1)).toNat < ((l.length : Int) - i).toNat; omega, ev.mono fun k ev j => ?_⟩
      have ev : spec_l07Make k x t = some v := ev
      show spec_l07Apply.l0 k (j + 1) a l i w = _
      conv => lhs; unfold spec_l07Apply.l0
      rw [decide_eq_true hi, ex, w64 (n := i + 1) (by omega) (by omega)]
      simp only [cond_true, Option.bind_some]
      rw [show (x.1 != 5) = true by simpa using h5, et]
      simp only [cond_true, Option.bind_some]
      rw [ev, eu]
      rfl
  · left
    refine ⟨w, Ever.of fun k j => ?_, q1⟩
    show spec_l07Apply.l0 k (j + 1) a l i w = _
    conv => lhs; unfold spec_l07Apply.l0
    rw [decide_eq_false hi]
    rfl
abbrev PackS := Int × Str × List StepT × List Str × SrcT
def PackSOk (p : PackS) : Prop := (0 ≤ p.1 ∧ p.1 ≤ 100) ∧ p.2.1.length ≤ 100 ∧ p.2.2.1.length ≤ 200 ∧ Src p.2.2.2.2
theorem packJ_ev (n : Int) (h1 : 1 ≤ n) (h8 : n ≤ 8) (s : SrcT) (hs : Src s) (a6 : Int) (a7 : Str) (a8 : List Str) (a9 : List StepT) (h8l : (a8.length : Int) = n) (h6 : 0 ≤ a6 ∧ a6 ≤ 100) (h7 : a7.length ≤ 100) (h9 : a9.length ≤ 100) :
    Ev (fun k => spec_l01Src_l08Package.j0 k n s.1 s.2.1 s.2.2.1 s.2.2.2 a6 a7 a8 a9) fun r => Src (r.1, (r.2.1, (r.2.2.1, r.2.2.2.1))) ∧ (0 ≤ r.2.2.2.2.1 ∧ r.2.2.2.2.1 ≤ 100) ∧ r.2.2.2.2.2.1.length ≤ 100 ∧ r.2.2.2.2.2.2.2.length ≤ 100 := by
  obtain ⟨v10, e10, h10⟩ := one_ok s hs 3 (by omega)
  have e10 : spec_l01Src_one (s.1, (s.2.1, (s.2.2.1, s.2.2.2))) 3 = some v10 := e10
  unfold spec_l01Src_l08Package.j0
  refine Ev.bnd e10 (Ev.cond (fun _ => ?_) fun _ => Ev.ret ⟨h10, h6, h7, h9⟩)
  refine Ev.bind (steps_ev v10.2 h10 n h1 h8) fun v11 h11 => Ev.bind (apply_ev a8 v11.1 n h11.1 h8l) fun v12 h12 => Ev.bind (imageDigest_ev v12 (by rw [h12]; omega)) fun v13 h13 => Ev.ret ⟨h11.2, h6, by show v13.length ≤ 100; omega, ?_⟩
  have := (codeM_ok h11.1).1
  show v11.1.length ≤ 100
  omega
theorem package_ev (s : SrcT) (hs : Src s) : Ev (fun k => spec_l01Src_l08Package k s) PackSOk := by
  obtain ⟨v2, e2, h2, l2, _, u2⟩ := n_ok s hs 5 (by omega)
  have u2 := u2 (by omega)
  unfold spec_l01Src_l08Package
  refine Ev.bnd e2 ?_
  have e3 : IntKind.wrap .i64 (1 + v2.1) = 1 + v2.1 := w64 (by omega) (by omega)
  simp only [e3]
  refine Ev.bind (image_ev v2.2 h2 (1 + v2.1) (by omega) (by omega)) fun v4 h4 => Ev.bind (image_ev v4.2 h4.2 (1 + v2.1) (by omega) (by omega)) fun v5 h5 => ?_
  refine Ev.bind (packageOf_ev v4.1 v5.1 (by omega) (by omega)) fun v6 h6 => ?_
  refine Ev.bind (packJ_ev (1 + v2.1) (by omega) (by omega) v5.2 h5.2 v6.1 v6.2.1 v4.1 v6.2.2.1 h4.1 h6.1 h6.2.1 h6.2.2) fun y7 h7 => ?_
  obtain ⟨h7, k1, k2, k3⟩ := h7
  obtain ⟨v8, e8, h8⟩ := one_ok _ h7 10 (by omega)
  refine Ev.bnd e8 (Ev.cond (fun _ => ?_) fun _ => Ev.ret ⟨k1, k2, by show y7.2.2.2.2.2.2.2.length ≤ 200; omega, h8⟩)
  obtain ⟨v9, e9, h9, l9, _, u9⟩ := n_ok v8.2 h8 4 (by omega)
  refine Ev.bnd e9 (Ev.cond (fun _ => ?_) fun _ => Ev.cond (fun _ => ?_) fun _ => Ev.cond (fun _ => ?_) fun _ => ?_)
  · obtain ⟨v10, e10, h10, l10, _, u10⟩ := n_ok v9.2 h9 10 (by omega)
    have u10 := u10 (by omega)
    exact Ev.bnd e10 (Ev.ret ⟨⟨l10, by show v10.1 ≤ 100; omega⟩, k2, by show y7.2.2.2.2.2.2.2.length ≤ 200; omega, h10⟩)
  · exact Ev.bind (sDigest_ev [120] (by simp)) fun d hd => Ev.ret ⟨k1, by show d.length ≤ 100; omega, by show y7.2.2.2.2.2.2.2.length ≤ 200; omega, h9⟩
  · obtain ⟨v12, e12, h12, l12, _, u12⟩ := n_ok v9.2 h9 2 (by omega)
    have u12 := u12 (by omega)
    have hb := bytes_ev v12.2 h12 (31 + 2 * v12.1) (by omega) (by omega)
    rw [← w64 (n := 31 + 2 * v12.1) (by omega) (by omega), ← w64 (n := 2 * v12.1) (by omega) (by omega)] at hb
    refine Ev.bnd e12 (Ev.bind hb fun v13 h13 => Ev.ret ⟨k1, ?_, by show y7.2.2.2.2.2.2.2.length ≤ 200; omega, h13.2⟩)
    have h13 := h13.1
    rw [w64 (n := 2 * v12.1) (by omega) (by omega), w64 (n := 31 + 2 * v12.1) (by omega) (by omega)] at h13
    show v13.1.length ≤ 100
    omega
  · refine Ev.bind (any_ev v9.2 h9) fun v14 h14 => Ev.bnd (app_ok (by simp; omega)) (Ev.ret ⟨k1, k2, ?_, h14⟩)
    show (y7.2.2.2.2.2.2.2 ++ [_]).length ≤ 200
    rw [List.length_append]
    simp
    omega
end Go.Proofs.YtaajcllchbnjiaaGreatE

namespace Go.Proofs.YtaajcllchbnjiaaGreatE
open Go
def laws_FnFeed.Pure : Prop := ∀ (y0 : List Int) (y1 : List Int), Bnd (.sl (.int .u8)) y0 → Bnd (.sl (.int .u8)) y1 → ∃ k : Nat, laws_FnFeed k y0 y1 = some true
end Go.Proofs.YtaajcllchbnjiaaGreatE

namespace Go.Proofs.YtaajcllchbnjiaaGreatE
open Go
set_option linter.unusedVariables false
theorem sStream' (p : PkgT) (hl : p.2.2.length ≤ 1048576) : Ever fun k => spec_StreamOf k p = some (streamM p) := by
  cases hp : packB p with
  | true => exact sStreamOf p hl fun x hx => (Feed.pack_ok hp x hx).2.2
  | false =>
    refine (sPackage p hl).mono fun k h => ?_
    unfold streamM agentB spec_StreamOf
    rw [h, hp]
    rfl
theorem iStream' (p : PkgT) (hl : p.2.2.length ≤ 1048576) : Ever fun k => impl_StreamOf k p = some (streamM p) := by
  cases hp : packB p with
  | true => exact iStreamOf p hl fun x hx => (Feed.pack_ok hp x hx).2.2
  | false =>
    refine (iPackage p hl).mono fun k h => ?_
    unfold streamM agentB impl_StreamOf
    rw [h, hp]
    rfl
theorem stream_len' (p : PkgT) : (streamM p).length ≤ 2000 := by
  cases hp : packB p with
  | true => exact Feed.stream_len hp
  | false =>
    unfold streamM agentB
    rw [hp]
    simp
/-! ### the draws -/
theorem drawStream_ev (code : List Int) (hc : code.length ≤ 1048576) : Ev (fun k => spec_DrawStreamOf k code) fun p => p.2.2.length ≤ 200 := by
  obtain ⟨s, hs, es⟩ := source_uni code hc
  unfold spec_DrawStreamOf spec_DrawPackageRight
  refine Ev.bind (Q := fun (p : PkgT) => p.2.2.length ≤ 200) ?_ fun p hp => Ev.ret hp
  exact Ev.bind (Q := Src) (Ev.ever (Ever.ge 65 es) hs) fun s hs => Ev.bind (package_ev s hs) fun p hp => Ev.ret hp.2.2.1
theorem stream_ev (s : SrcT) (hs : Src s) : Ev (fun k => spec_l01Src_l18Stream k s) fun p => p.1.length ≤ 2001 ∧ Src p.2 := by
  unfold spec_l01Src_l18Stream
  refine Ev.bind (package_ev s hs) fun v2 h2 => ?_
  have hlen := stream_len' (v2.1, (v2.2.1, v2.2.2.1))
  have h200 := h2.2.2.1
  refine Ev.bind (Q := fun (t : Str) => t.length ≤ 2000) (Ev.ever (sStream' (v2.1, (v2.2.1, v2.2.2.1)) (by show v2.2.2.1.length ≤ _; omega)) hlen) fun v3 h3 => ?_
  obtain ⟨v4, e4, h4⟩ := one_ok _ h2.2.2.2 8 (by omega)
  refine Ev.bnd e4 (Ev.cond (fun _ => ?_) fun _ => Ev.ret ⟨by show v3.length ≤ 2001; omega, h4⟩)
  obtain ⟨v5, e5, h5, l5⟩ := spoil_ok v4.2 h4 v3 (by omega)
  exact Ev.bnd e5 (Ev.ret ⟨by show v5.1.length ≤ 2001; omega, h5⟩)
open Feed in
theorem feed_ev (s : SrcT) (hs : Src s) : Ev (fun k => spec_l01Src_l18Feed k s) fun p => True := by
  unfold spec_l01Src_l18Feed
  refine Ev.bind (stream_ev s hs) fun v2 ⟨h2, s2⟩ => ?_
  obtain ⟨v4, e4, h4, l4, z4, u4⟩ := n_ok v2.2 s2 ((v2.1.length : Int) + 1) (by omega)
  have hle : v4.1 ≤ (v2.1.length : Int) := by
    by_cases h : (v2.1.length : Int) + 1 ≤ 1
    · rw [z4 h]; omega
    · have := u4 (by omega); omega
  rw [← w64 (n := (v2.1.length : Int) + 1) (by omega) (by omega)] at e4
  obtain ⟨a, ea, la⟩ := cut_in (l := v2.1) (i := 0) (j := v4.1) (by omega) l4 hle
  obtain ⟨b, eb, lb⟩ := cut_in (l := v2.1) (i := v4.1) (j := (v2.1.length : Int)) l4 hle (Int.le_refl _)
  refine Ev.bnd e4 (Ev.bnd ea (Ev.bind (Q := fun _ => True) (Ev.ever (sPut _ a) trivial) fun v6 _ => ?_))
  obtain ⟨v7, e7, h7⟩ := one_ok v4.2 h4 15 (by omega)
  refine Ev.bnd e7 (Ev.cond (fun _ => ?_) fun _ => Ev.bnd eb (Ev.ret trivial))
  obtain ⟨v9, e9, h9, _⟩ := n_ok v7.2 h7 3 (by omega)
  refine Ev.bnd e9 (Ev.cond (fun _ => ?_) fun _ => Ev.cond (fun _ => ?_) fun _ => Ev.bnd eb (Ev.ret trivial))
  · obtain ⟨v10, e10, h10, _⟩ := n_ok v9.2 h9 9 (by omega)
    exact Ev.bnd e10 (Ev.bnd eb (Ev.ret trivial))
  · obtain ⟨v12, e12, h12, l12, _, u12⟩ := n_ok v9.2 h9 3 (by omega)
    have u12 := u12 (by omega)
    refine Ev.bnd e12 ?_
    obtain ⟨m, hm⟩ : ∃ m : Nat, 499 + v12.1 = (m : Int) := ⟨(499 + v12.1).toNat, by omega⟩
    have e13 : IntKind.wrap .i64 (499 + v12.1) = (m : Int) := by rw [w64 (by omega) (by omega), hm]
    simp only [e13]
    exact Ev.bnd (make_some (by omega)) (Ev.bnd eb (Ev.ret trivial))
theorem drawFeed_ev (code : List Int) (hc : code.length ≤ 1048576) : Ev (fun k => spec_DrawFeedPut k code) fun p => True := by
  obtain ⟨s, hs, es⟩ := source_uni code hc
  unfold spec_DrawFeedPut
  exact Ev.bind (Q := Src) (Ev.ever (Ever.ge 65 es) hs) fun s hs => Ev.bind (feed_ev s hs) fun p _ => Ev.ret trivial
def HeadOk (h : StepT) : Prop := Num h.1 ∧ Num h.2.1 ∧ Num h.2.2.1 ∧ h.2.2.2.length ≤ 100
theorem headOf_ev (s : SrcT) (hs : Src s) : Ev (fun k => spec_l01Src_l18HeadOf k s) fun p => HeadOk (p.1, (p.2.1, (p.2.2.1, p.2.2.2.1))) ∧ Src p.2.2.2.2 := by
  unfold spec_l01Src_l18HeadOf
  refine Ev.bind (package_ev s hs) fun v2 ⟨h2, l2, n2, s2⟩ => ?_
  obtain ⟨v3, e3, h3, l3, _, u3⟩ := n_ok v2.2.2.2.2 s2 3 (by omega)
  have u3 := u3 (by omega)
  obtain ⟨v4, e4, h4⟩ := one_ok v3.2 h3 8 (by omega)
  refine Ev.bnd e3 (Ev.bnd e4 (Ev.cond (fun _ => ?_) fun _ => Ev.ret ⟨⟨⟨by show _ ≤ v2.1; omega, by show v2.1 < _; omega⟩, ⟨by show _ ≤ (v2.2.2.1.length : Int); omega, by show (v2.2.2.1.length : Int) < _; omega⟩, ⟨by show _ ≤ v3.1; omega, by show v3.1 < _; omega⟩, l2⟩, h4⟩))
  obtain ⟨v6, e6, h6, l6, _, u6⟩ := n_ok v4.2 h4 3 (by omega)
  obtain ⟨x, ex, hx⟩ := at_in (l := [(-1), 4, (5 : Int)]) l6 (u6 (by omega))
  have hx : -1 ≤ x ∧ x ≤ 5 := by
    have key : ∀ x ∈ [(-1), 4, (5 : Int)], -1 ≤ x ∧ x ≤ 5 := by decide
    exact key x hx
  exact Ev.bnd e6 (Ev.bnd ex (Ev.bnd ex (Ev.ret ⟨⟨⟨by show _ ≤ v2.1; omega, by show v2.1 < _; omega⟩, ⟨by show _ ≤ (v2.2.2.1.length : Int); omega, by show (v2.2.2.1.length : Int) < _; omega⟩, ⟨by show _ ≤ x; omega, by show x < _; omega⟩, l2⟩, h6⟩)))
theorem drawHead_ev (code : List Int) (hc : code.length ≤ 1048576) : Ev (fun k => spec_DrawHeadBytes k code) HeadOk := by
  obtain ⟨s, hs, es⟩ := source_uni code hc
  unfold spec_DrawHeadBytes
  exact Ev.bind (Q := Src) (Ev.ever (Ever.ge 65 es) hs) fun s hs => Ev.bind (headOf_ev s hs) fun p hp => Ev.ret hp.1
/-- A head's bytes. -/
def hbM (h : StepT) : Str := if headB h.1 h.2.1 h.2.2.1 h.2.2.2 = true then sealOf (putOf h.1 ++ putOf h.2.1 ++ putOf h.2.2.1 ++ putTextOf h.2.2.2) else []
theorem hbM_len (h : StepT) : (hbM h).length ≤ 100 := by
  unfold hbM
  split
  · rename_i q
    have := headB_is q
    have l1 := putOf_len h.1
    have l2 := putOf_len h.2.1
    have l3 := putOf_len h.2.2.1
    have l4 := putTextOf_len h.2.2.2
    rw [sealOf_len]
    simp only [List.length_append]
    omega
  · simp
theorem sHB (h : StepT) (hh : HeadOk h) : Ever fun k => spec_HeadBytes k h = some (hbM h) := sHeadBytes h.1 h.2.1 h.2.2.1 h.2.2.2 hh.1 hh.2.1 hh.2.2.1 (Nat.le_trans hh.2.2.2 (by omega))
theorem iHB (h : StepT) (hh : HeadOk h) : Ever fun k => impl_HeadBytes k h = some (hbM h) := by
  refine (iHeadX h.1 h.2.1 h.2.2.1 h.2.2.2 hh.1 hh.2.1 hh.2.2.1 (Nat.le_trans hh.2.2.2 (by omega))).mono fun k e => ?_
  unfold impl_HeadBytes hbM
  rw [show impl_isHead h = some (headB h.1 h.2.1 h.2.2.1 h.2.2.2) from iHead _ _ _ _]
  simp only [Option.bind_some]
  cases headB h.1 h.2.1 h.2.2.1 h.2.2.2 with
  | true =>
    simp only [Bool.not_true, cond_false, if_true]
    rw [show ((h.1, (h.2.1, (h.2.2.1, h.2.2.2))) : StepT) = h from rfl] at e
    rw [e]
    rfl
  | false => rfl
theorem drawHeadRead_ev (code : List Int) (hc : code.length ≤ 1048576) : Ev (fun k => spec_DrawHeadRead k code) fun u => u.length ≤ 200 := by
  obtain ⟨s, hs, es⟩ := source_uni code hc
  unfold spec_DrawHeadRead
  refine Ev.bind (Q := Src) (Ev.ever (Ever.ge 65 es) hs) fun s hs => Ev.bind (headOf_ev s hs) fun v3 ⟨h3, s3⟩ => ?_
  refine Ev.bind (Q := fun (t : Str) => t.length ≤ 100) (Ev.ever (sHB (v3.1, (v3.2.1, (v3.2.2.1, v3.2.2.2.1))) h3) (hbM_len _)) fun v4 h4 => ?_
  obtain ⟨v5, e5, h5, l5, _, u5⟩ := n_ok v3.2.2.2.2 s3 5 (by omega)
  refine Ev.bnd e5 (Ev.cond (fun _ => ?_) fun _ => Ev.cond (fun _ => ?_) fun _ => Ev.cond (fun _ => ?_) fun _ => Ev.ret (by omega))
  · obtain ⟨v6, e6, _, l6⟩ := spoil_ok v5.2 h5 v4 (by omega)
    exact Ev.bnd e6 (Ev.ret (by omega))
  · obtain ⟨v7, e7, h7, l7, z7, u7⟩ := n_ok v5.2 h5 ((v4.length : Int) + 1) (by omega)
    have hle : v7.1 ≤ (v4.length : Int) := by
      by_cases h : (v4.length : Int) + 1 ≤ 1
      · rw [z7 h]; omega
      · have := u7 (by omega); omega
    rw [← w64 (n := (v4.length : Int) + 1) (by omega) (by omega)] at e7
    obtain ⟨a, ea, la⟩ := cut_in (l := v4) (i := 0) (j := v7.1) (by omega) l7 hle
    exact Ev.bnd e7 (Ev.bnd ea (Ev.ret (by omega)))
  · refine Ev.bind (Q := fun (r : Str × Int × Int) => r.1.length ≤ 100) (Ev.ever (sUnseal v4 (by omega)) (Nat.le_trans (unseal_len v4) h4)) fun v9 h9 => ?_
    obtain ⟨v10, e10, _, l10⟩ := spoil_ok v5.2 h5 v9.1 (by omega)
    exact Ev.bnd e10 (Ev.bind (Q := fun (r : Str) => r.length ≤ 200) (Ev.ever (sSeal v10.1 (by omega)) (by rw [sealOf_len]; omega)) fun r hr => Ev.ret hr)
/-! ### the law -/
theorem lwAt_ok (l : List Int) (hb : ∀ x ∈ l, 0 ≤ x ∧ x < 256) (hl : l.length ≤ 1048576) (i : Nat) : ∃ v : Nat, laws_lwAt l (i : Int) 256 = some (v : Int) ∧ v < 256 := by
  unfold laws_lwAt
  by_cases h0 : l.length = 0
  · rw [show (decide ((256 : Int) ≤ 1) || (((l.length : Nat) : Int) == 0)) = true by rw [h0]; rfl]
    exact ⟨0, rfl, by omega⟩
  · rw [show (decide ((256 : Int) ≤ 1) || (((l.length : Nat) : Int) == 0)) = false by rw [beqd, decide_eq_false (by omega : ¬ (((l.length : Nat) : Int) = 0))]; rfl]
    simp only [cond_false]
    rw [nz_some (by omega)]
    simp only [Option.bind_some]
    have e : Int.tmod (i : Int) (l.length : Int) = ((i % l.length : Nat) : Int) := by rw [Int.tmod_eq_emod_of_nonneg (by omega)]; omega
    have hlt : i % l.length < l.length := Nat.mod_lt _ (by omega)
    rw [e, at_nat hlt, nz_some (by omega)]
    have hx := hb _ (List.getElem_mem hlt)
    simp only [Option.bind_some]
    rw [w64 (by omega) (by omega), Int.tmod_eq_emod_of_nonneg hx.1, Int.emod_eq_of_lt hx.1 hx.2]
    exact ⟨(l[i % l.length]).toNat, by congr 1; omega, by omega⟩
open Feed in
theorem lwFeed_self (r : FeedT × List CmdT × Int) (hl : r.2.1.length ≤ 100000) : Ever fun k => laws_lwFeed k r r = some true := by
  have key := ever_loop (fun k j i => laws_lwFeed.l0 j r.1.1.1 r.1.1.2.1 r.1.1.2.2.1 r.1.1.2.2.2 r.1.2.1 r.1.2.2 r.2.1 r.2.2 r.1.1.1 r.1.1.2.1 r.1.1.2.2.1 r.1.1.2.2.2 r.1.2.1 r.1.2.2 r.2.1 r.2.2 (i : Int)) r.2.1.length (.inl ()) (Ever.of fun k i hi j => by
    conv => lhs; unfold laws_lwFeed.l0
    rw [dlt hi, at_nat hi, wsuc (by omega)]
    simp only [cond_true, Option.bind_some, beq_self_eq_true, Bool.and_self, Bool.not_true, cond_false]) (Ever.of fun k j => by
    conv => lhs; unfold laws_lwFeed.l0
    rw [dnlt (Nat.le_refl _)]
    rfl)
  refine key.mono fun k e => ?_
  have e : laws_lwFeed.l0 k r.1.1.1 r.1.1.2.1 r.1.1.2.2.1 r.1.1.2.2.2 r.1.2.1 r.1.2.2 r.2.1 r.2.2 r.1.1.1 r.1.1.2.1 r.1.1.2.2.1 r.1.1.2.2.2 r.1.2.1 r.1.2.2 r.2.1 r.2.2 0 = some (.inl ()) := e
  unfold laws_lwFeed
  simp only [bne_self_eq_false, beq_self_eq_true, Bool.and_self, Bool.not_true, Bool.or_self, cond_false]
  rw [e]
  rfl
open Feed in
theorem feedLoop (p : PkgT) (hl : p.2.2.length ≤ 20) : Ever fun k => laws_FnFeed.l0 k 0 p.1 p.2.1 (cmdsM p) p.2.2 = some (.inl (p.1, p.2.1, p.2.2)) := by
  refine Ever.ge (p.2.2.length + 1) fun k hk => ?_
  have hcl : (cmdsM p).length = p.2.2.length + 2 := by unfold cmdsM; simp
  refine loop_at (fun j i => laws_FnFeed.l0 j (i : Int) p.1 p.2.1 (cmdsM p) p.2.2) p.2.2.length _ (fun i hi j => ?_) (fun j => ?_) k (by omega)
  · conv => lhs; unfold laws_FnFeed.l0
    have hc : at? (cmdsM p) ((i + 1 : Nat) : Int) = some (stepC p.2.2[i]) := by
      rw [at_nat (by omega)]
      unfold cmdsM
      rw [List.getElem_cons_succ, List.getElem_append_left (by simpa using hi), List.getElem_map]
    rw [dlt hi, wsuc (by omega), at_nat hi]
    simp only [cond_true]
    rw [hc]
    simp only [Option.bind_some, stepC, beq_self_eq_true, Bool.and_self, Bool.not_true, cond_false]
  · conv => lhs; unfold laws_FnFeed.l0
    rw [dnlt (Nat.le_refl _)]
    rfl
open Feed in
set_option maxRecDepth 4000 in
theorem laws_FnFeed.proved : laws_FnFeed.Pure := by
  intro code more hcode hmore
  by_cases hb : 1048576 < code.length ∨ 1048576 < more.length
  · refine ⟨0, ?_⟩
    unfold laws_FnFeed
    have e : (decide (1048576 < (code.length : Int)) || decide (1048576 < (more.length : Int))) = true := by
      rw [Bool.or_eq_true, decide_eq_true_eq, decide_eq_true_eq]; omega
    rw [e]
    rfl
  have hc1 : code.length ≤ 1048576 := by omega
  have hc2 : more.length ≤ 1048576 := by omega
  have hbytes : ∀ x ∈ more, 0 ≤ x ∧ x < 256 := fun x hx => by
    have h : (Lit.int .u8 x).wf = true := hmore.2 x hx
    simp [Lit.wf, IntKind.min, IntKind.max, IntKind.signed, IntKind.bits] at h
    omega
  obtain ⟨p, hp, ep⟩ := drawStream_ev code hc1
  obtain ⟨F, _, eF⟩ := drawFeed_ev more hc2
  obtain ⟨h, hh, eh⟩ := drawHead_ev more hc2
  obtain ⟨u, hu, eu⟩ := drawHeadRead_ev more hc2
  have hpl : p.2.2.length ≤ 1048576 := by omega
  have hSl := stream_len' p
  obtain ⟨w0, e0, l0⟩ := lwAt_ok more hbytes hc2 0
  obtain ⟨w1, e1, l1⟩ := lwAt_ok more hbytes hc2 1
  have hq : ∃ q : Nat, Int.tmod (((w0 * 256 + w1 : Nat) : Int)) ((streamM p).length + 1 : Int) = (q : Int) ∧ q ≤ (streamM p).length := by
    refine ⟨(w0 * 256 + w1) % ((streamM p).length + 1), by rw [show ((streamM p).length : Int) + 1 = (((streamM p).length + 1 : Nat) : Int) by omega, Int.tmod_eq_emod_of_nonneg (by omega)]; omega, ?_⟩
    have := Nat.mod_lt (w0 * 256 + w1) (by omega : 0 < (streamM p).length + 1)
    omega
  obtain ⟨q, eq, hql⟩ := hq
  have iX := iPut (zeroS, (0, [])) ((streamM p).take q)
  have iY := iPut (fdT (putM (zeroS, (0, [])) ((streamM p).take q))) ((streamM p).drop q)
  have iZ := iPut (headP p, ((p.2.2.length : Int), [])) [120]
  have hfl := putM_len ((F.1, (F.2.1, (F.2.2.1, F.2.2.2.1))), (F.2.2.2.2.1, F.2.2.2.2.2.1)) F.2.2.2.2.2.2
  have lw := lwFeed_self ((((putM ((F.1, (F.2.1, (F.2.2.1, F.2.2.2.1))), (F.2.2.2.2.1, F.2.2.2.2.2.1)) F.2.2.2.2.2.2).1, ((putM ((F.1, (F.2.1, (F.2.2.1, F.2.2.2.1))), (F.2.2.2.2.1, F.2.2.2.2.2.1)) F.2.2.2.2.2.2).2.1, ((putM ((F.1, (F.2.1, (F.2.2.1, F.2.2.2.1))), (F.2.2.2.2.1, F.2.2.2.2.2.1)) F.2.2.2.2.2.2).2.2.1, (putM ((F.1, (F.2.1, (F.2.2.1, F.2.2.2.1))), (F.2.2.2.2.1, F.2.2.2.2.2.1)) F.2.2.2.2.2.2).2.2.2.1))), ((putM ((F.1, (F.2.1, (F.2.2.1, F.2.2.2.1))), (F.2.2.2.2.1, F.2.2.2.2.2.1)) F.2.2.2.2.2.2).2.2.2.2.1, (putM ((F.1, (F.2.1, (F.2.2.1, F.2.2.2.1))), (F.2.2.2.2.1, F.2.2.2.2.2.1)) F.2.2.2.2.2.2).2.2.2.2.2.1)), (putM ((F.1, (F.2.1, (F.2.2.1, F.2.2.2.1))), (F.2.2.2.2.1, F.2.2.2.2.2.1)) F.2.2.2.2.2.2).2.2.2.2.2.2) hfl
  have hlp : Ever fun k => agentB p = true → laws_FnFeed.l0 k 0 p.1 p.2.1 (cmdsM p) p.2.2 = some (.inl (p.1, p.2.1, p.2.2)) := by
    cases ha : agentB p with
    | true =>
      have hc := (packB_ok (agent_head ha).2.1).1
      exact (feedLoop p (codeM_ok hc).1).mono fun k e _ => e
    | false => exact Ever.of fun k h => by cases h
  obtain ⟨k, k1⟩ := ((((ep.and eF).and (eh.and eu)).and (((iStream' p hpl).and (sStream' p hpl)).and ((iHB h hh).and (sHB h hh)))).and ((((iPut ((F.1, (F.2.1, (F.2.2.1, F.2.2.2.1))), (F.2.2.2.2.1, F.2.2.2.2.2.1)) F.2.2.2.2.2.2).and (sPut ((F.1, (F.2.1, (F.2.2.1, F.2.2.2.1))), (F.2.2.2.2.1, F.2.2.2.2.2.1)) F.2.2.2.2.2.2)).and lw).and (((iHeadRead u (by omega)).and (sHeadRead u (by omega))).and ((iHeadRead (hbM h) (Nat.le_trans (hbM_len h) (by omega))).and (((iX.and iY).and iZ).and hlp))))).ex
  obtain ⟨⟨⟨⟨ep, eF⟩, eh, eu⟩, ⟨iS, sS⟩, iH, sH⟩, ⟨⟨iF, sF⟩, lw⟩, ⟨iR, sR⟩, iB, ⟨⟨iX, iY⟩, iZ⟩, hlp⟩ := k1
  have ep : spec_DrawStreamOf k code = some p := ep
  have eF : spec_DrawFeedPut k more = some F := eF
  have eh : spec_DrawHeadBytes k more = some h := eh
  have eu : spec_DrawHeadRead k more = some u := eu
  refine ⟨k, ?_⟩
  unfold laws_FnFeed
  have e : (decide (1048576 < (code.length : Int)) || decide (1048576 < (more.length : Int))) = false := by
    rw [decide_eq_false (by omega : ¬ (1048576 < (code.length : Int))), decide_eq_false (by omega : ¬ (1048576 < (more.length : Int)))]; rfl
  rw [e]
  simp only [cond_false]
  rw [ep]
  simp only [Option.bind_some]
  rw [iS]
  simp only [Option.bind_some]
  rw [eF]
  simp only [Option.bind_some]
  rw [eh]
  simp only [Option.bind_some]
  rw [iH]
  simp only [Option.bind_some]
  rw [eu]
  simp only [Option.bind_some]
  rw [sS]
  simp only [Option.bind_some, beq_self_eq_true, Bool.not_true, cond_false]
  rw [iF, sF]
  simp only [Option.bind_some]
  rw [lw]
  simp only [Option.bind_some, Bool.not_true, cond_false]
  have f1 : impl_FeedRight ((F.1, (F.2.1, (F.2.2.1, F.2.2.2.1))), (F.2.2.2.2.1, F.2.2.2.2.2.1)) = some (feedB ((F.1, (F.2.1, (F.2.2.1, F.2.2.2.1))), (F.2.2.2.2.1, F.2.2.2.2.2.1))) := by
    unfold impl_FeedRight
    rw [iFeed]
    rfl
  rw [f1, sFeed]
  simp only [Option.bind_some, beq_self_eq_true, Bool.not_true, cond_false]
  rw [sH]
  simp only [Option.bind_some, beq_self_eq_true, Bool.not_true, cond_false]
  have r1 : ∀ t : Str, t.length ≤ 8000 → impl_headRead k t = some (headR t) → impl_HeadRead k t = some (headR t) := fun t ht e => by
    unfold impl_HeadRead
    rw [decide_eq_false (by omega : ¬ ((8000 : Int) < (t.length : Int))), e]
    rfl
  rw [r1 u (by omega) iR, sR]
  simp only [Option.bind_some, beq_self_eq_true, Bool.and_self, Bool.not_true, cond_false]
  have f2 : impl_HeadRight h = some (headB h.1 h.2.1 h.2.2.1 h.2.2.2) := by
    unfold impl_HeadRight
    rw [show impl_isHead h = some (headB h.1 h.2.1 h.2.2.1 h.2.2.2) from iHead _ _ _ _]
    rfl
  rw [f2, show spec_HeadRight h = some (headB h.1 h.2.1 h.2.2.1 h.2.2.2) from sHead _ _ _ _]
  simp only [Option.bind_some, beq_self_eq_true, Bool.not_true, cond_false]
  rw [w64 (n := (p.2.2.length : Int) + 2) (by omega) (by omega), w64 (n := ((streamM p).length : Int) + 1) (by omega) (by omega)]
  have e0 : laws_lwAt more 0 256 = some (w0 : Int) := e0
  have e1 : laws_lwAt more 1 256 = some (w1 : Int) := e1
  have ew : IntKind.wrap .i64 (IntKind.wrap .i64 ((w0 : Int) * 256) + (w1 : Int)) = ((w0 * 256 + w1 : Nat) : Int) := by
    rw [w64 (n := (w0 : Int) * 256) (by omega) (by omega), w64 (by omega) (by omega)]
    push_cast
    rfl
  have hhead : hbM h ≠ [] → headR (hbM h) = (h.1, h.2.1, h.2.2.1, h.2.2.2, 0) := fun hne => by
    unfold hbM at hne ⊢
    split at hne
    · rename_i q
      rw [if_pos q]
      exact head_back h.1 h.2.1 h.2.2.1 h.2.2.2 q
    · exact absurd rfl hne
  have cmp : ((h.1 == h.1) && ((h.2.1 == h.2.1) && ((h.2.2.1 == h.2.2.1) && ((h.2.2.2 == h.2.2.2) && ((0 : Int) == 0))))) = true := by simp
  have cX : cut? (streamM p) 0 (q : Int) = some ((streamM p).take q) := by
    have := cut_ok (l := streamM p) (i := 0) (j := q) (Nat.zero_le _) hql
    rw [List.drop_zero] at this
    exact this
  have cY : cut? (streamM p) (q : Int) ((streamM p).length : Int) = some ((streamM p).drop q) := by
    have := cut_ok (l := streamM p) (i := q) (j := (streamM p).length) hql (Nat.le_refl _)
    rw [List.take_length] at this
    exact this
  have iX : impl_FeedPut k ((0, (0, (0, []))), (0, [])) ((streamM p).take q) = some (putM (zeroS, (0, [])) ((streamM p).take q)) := iX
  have iY : impl_FeedPut k (((putM (zeroS, (0, [])) ((streamM p).take q)).1, ((putM (zeroS, (0, [])) ((streamM p).take q)).2.1, ((putM (zeroS, (0, [])) ((streamM p).take q)).2.2.1, (putM (zeroS, (0, [])) ((streamM p).take q)).2.2.2.1))), ((putM (zeroS, (0, [])) ((streamM p).take q)).2.2.2.2.1, (putM (zeroS, (0, [])) ((streamM p).take q)).2.2.2.2.2.1)) ((streamM p).drop q) = some (putM (fdT (putM (zeroS, (0, [])) ((streamM p).take q))) ((streamM p).drop q)) := iY
  cases hB : (hbM h == [])
  · have hne : hbM h ≠ [] := fun e => by rw [e] at hB; cases hB
    rw [Bool.not_false, cond_true, r1 (hbM h) (Nat.le_trans (hbM_len h) (by omega)) iB, hhead hne, Option.bind_some, cmp, Bool.not_true, cond_false]
    cases ha : agentB p with
    | false =>
      have : (streamM p == []) = true := by unfold streamM; rw [ha]; rfl
      rw [this]
      rfl
    | true =>
      obtain ⟨p1, p2, p3, p4⟩ := put_parts ha q hql
      have hlp := hlp ha
      have hcl : (cmdsM p).length = p.2.2.length + 2 := by unfold cmdsM; simp
      have c0 : at? (cmdsM p) 0 = some (beginC p) := rfl
      have cl : at? (cmdsM p) (((p.2.2.length + 1 : Nat) : Int)) = some finishC := by
        rw [at_nat (by omega)]
        unfold cmdsM
        rw [List.getElem_cons_succ, List.getElem_append_right (by simp)]
        simp
      have hne2 : (streamM p == []) = false := by
        rw [stream_frames ha]
        unfold els
        rw [frames_cons]
        have := putTextOf_pos (headOfP p)
        cases hx : putTextOf (headOfP p) with
        | nil => rw [hx] at this; simp at this
        | cons x l => rfl
      have hz := put_behind ha
      generalize hX : putM (zeroS, (0, [])) ((streamM p).take q) = X at iX iY p1 p2 p3 p4
      generalize hY : putM (fdT X) ((streamM p).drop q) = Y at iY p2 p3 p4
      generalize hZ : putM (headP p, ((p.2.2.length : Int), [])) [120] = Z at iZ hz
      have hXl : X.2.2.2.2.2.2.1.length + Y.2.2.2.2.2.2.1.length = p.2.2.length + 2 := by rw [← List.length_append, p3, hcl]
      rw [hne2, cond_false, e0, Option.bind_some, e1, Option.bind_some, nz_some (by omega), Option.bind_some, ew, eq, cX, Option.bind_some, iX, Option.bind_some, cY, Option.bind_some, iY, Option.bind_some]
      rw [app_ok (by simp; omega), Option.bind_some, List.nil_append, app_ok (by omega), Option.bind_some, p3, p1, p2]
      have p4a : Y.1 = (headP p).1 := congrArg (fun z => z.1.1) p4
      have iZ : impl_FeedPut k ((Y.1, (Y.2.1, (Y.2.2.1, Y.2.2.2.1))), (Y.2.2.2.2.1, Y.2.2.2.2.2.1)) ([120] : Str) = some Z := by
        rw [show ((Y.1, (Y.2.1, (Y.2.2.1, Y.2.2.2.1))), (Y.2.2.2.2.1, Y.2.2.2.2.2.1)) = fdT Y from rfl, p4]
        exact iZ
      have p4r : Y.2.2.2.2.2.1 = [] := congrArg (fun z => z.2.2) p4
      have hw : IntKind.wrap .i64 (((cmdsM p).length : Int) - 1) = ((p.2.2.length + 1 : Nat) : Int) := by
        rw [hcl, w64 (by omega) (by omega)]
        omega
      have hln : (((cmdsM p).length : Int) != (p.2.2.length : Int) + 2) = false := by
        rw [hcl, bne, beqd, decide_eq_true (by omega)]
        rfl
      rw [bne_self_eq_false, cond_false, cond_false, hln, cond_false, c0, Option.bind_some, Option.bind_some, show ((beginC p).1 != 1) = false from rfl, cond_false, Option.bind_some, Option.bind_some, show ((beginC p).2.1 != (p.2.2.length : Int)) = false by unfold beginC; exact bne_self_eq_false _, cond_false, Option.bind_some, Option.bind_some, show (!((beginC p).2.2.2.1 == p.2.1)) = false by unfold beginC; simp, cond_false, hw, cl, Option.bind_some, Option.bind_some, show ((finishC).1 != 3) = false from rfl, cond_false, hlp, Option.bind_some]
      simp only
      rw [p4r] at iZ ⊢
      rw [show (([] : Str) == []) = true from rfl, cond_true, iZ, Option.bind_some, hz]
      rfl
  · rw [Bool.not_true, cond_false]
    cases ha : agentB p with
    | false =>
      have : (streamM p == []) = true := by unfold streamM; rw [ha]; rfl
      rw [this]
      rfl
    | true =>
      obtain ⟨p1, p2, p3, p4⟩ := put_parts ha q hql
      have hlp := hlp ha
      have hcl : (cmdsM p).length = p.2.2.length + 2 := by unfold cmdsM; simp
      have c0 : at? (cmdsM p) 0 = some (beginC p) := rfl
      have cl : at? (cmdsM p) (((p.2.2.length + 1 : Nat) : Int)) = some finishC := by
        rw [at_nat (by omega)]
        unfold cmdsM
        rw [List.getElem_cons_succ, List.getElem_append_right (by simp)]
        simp
      have hne2 : (streamM p == []) = false := by
        rw [stream_frames ha]
        unfold els
        rw [frames_cons]
        have := putTextOf_pos (headOfP p)
        cases hx : putTextOf (headOfP p) with
        | nil => rw [hx] at this; simp at this
        | cons x l => rfl
      have hz := put_behind ha
      generalize hX : putM (zeroS, (0, [])) ((streamM p).take q) = X at iX iY p1 p2 p3 p4
      generalize hY : putM (fdT X) ((streamM p).drop q) = Y at iY p2 p3 p4
      generalize hZ : putM (headP p, ((p.2.2.length : Int), [])) [120] = Z at iZ hz
      have hXl : X.2.2.2.2.2.2.1.length + Y.2.2.2.2.2.2.1.length = p.2.2.length + 2 := by rw [← List.length_append, p3, hcl]
      rw [hne2, cond_false, e0, Option.bind_some, e1, Option.bind_some, nz_some (by omega), Option.bind_some, ew, eq, cX, Option.bind_some, iX, Option.bind_some, cY, Option.bind_some, iY, Option.bind_some]
      rw [app_ok (by simp; omega), Option.bind_some, List.nil_append, app_ok (by omega), Option.bind_some, p3, p1, p2]
      have p4a : Y.1 = (headP p).1 := congrArg (fun z => z.1.1) p4
      have iZ : impl_FeedPut k ((Y.1, (Y.2.1, (Y.2.2.1, Y.2.2.2.1))), (Y.2.2.2.2.1, Y.2.2.2.2.2.1)) ([120] : Str) = some Z := by
        rw [show ((Y.1, (Y.2.1, (Y.2.2.1, Y.2.2.2.1))), (Y.2.2.2.2.1, Y.2.2.2.2.2.1)) = fdT Y from rfl, p4]
        exact iZ
      have p4r : Y.2.2.2.2.2.1 = [] := congrArg (fun z => z.2.2) p4
      have hw : IntKind.wrap .i64 (((cmdsM p).length : Int) - 1) = ((p.2.2.length + 1 : Nat) : Int) := by
        rw [hcl, w64 (by omega) (by omega)]
        omega
      have hln : (((cmdsM p).length : Int) != (p.2.2.length : Int) + 2) = false := by
        rw [hcl, bne, beqd, decide_eq_true (by omega)]
        rfl
      rw [bne_self_eq_false, cond_false, cond_false, hln, cond_false, c0, Option.bind_some, Option.bind_some, show ((beginC p).1 != 1) = false from rfl, cond_false, Option.bind_some, Option.bind_some, show ((beginC p).2.1 != (p.2.2.length : Int)) = false by unfold beginC; exact bne_self_eq_false _, cond_false, Option.bind_some, Option.bind_some, show (!((beginC p).2.2.2.1 == p.2.1)) = false by unfold beginC; simp, cond_false, hw, cl, Option.bind_some, Option.bind_some, show ((finishC).1 != 3) = false from rfl, cond_false, hlp, Option.bind_some]
      simp only
      rw [p4r] at iZ ⊢
      rw [show (([] : Str) == []) = true from rfl, cond_true, iZ, Option.bind_some, hz]
      rfl
end Go.Proofs.YtaajcllchbnjiaaGreatE

namespace Go.Proofs.YtaajcllchbnjiaaGreat.fnFeed
open Go Go.ChangeShapes Go.WideShapes Go.ChangeAt Go.RowKit Go.Proofs.YtaajcllchbnjiaaGreatE
set_option linter.unusedVariables false
theorem own : ownKnob Tryz.prog.godebug = none := by kernel_rfl
theorem laidOut : laidOutB Tryz.prog = true := by kernel_rfl
theorem go (k : Nat) (y0 : List Int) (y1 : List Int) : (laws_FnFeed.con k).f [argC false (.sl (.int .u8)) y0, argC false (.sl (.int .u8)) y1] = .opt (Prod' laws_FnFeed.sig.outs) (laws_FnFeed k y0 y1) laws_FnFeed.sig.enc := by kernel_rfl
set_option maxRecDepth 100000 in
theorem lifted (os : Os) (started : os.Started) (H : Type) (enc : TypeId × Value → H) :
    ReturnsInHanded {} Tryz.checked os 3 .any (Rows.fnFeedSpec.pre6 enc Tryz.prog Tryz.f3 Rows.fnFeedRow.domain false) (Rows.fnFeedSpec.post enc Tryz.prog Tryz.f3 false true false false) := by
  refine returnsInHanded_of_change_sized (C := Tryz.checked) own started (by kernel_rfl) Tryz.func3
    (ChangeSpec.witness6 (enc := enc) (C := Tryz.checked) false ⟨#[], #[.slice none 0 0, .slice none 0 0], []⟩ 8 (by kernel_rfl) (by kernel_rfl) (by kernel_rfl) (by kernel_rfl)) ?_
  intro W base args ds gs before hval0 hW hcnd hsz0 _
  have hsz : (DataW.weightsEach Tryz.prog (Tryz.f3.params.toList ++ Rows.fnFeedSpec.plain.varTypes Tryz.prog) (ds ++ gs)).all (· ≤ reachBytes) = true := hsz0
  have hval : ∀ (j : Nat) t v, Tryz.f3.params[j]? = some t → args[j]? = some v → Value.okWide Tryz.prog W .any base t v := hval0
  have hW' := hW
  obtain ⟨p, q, hA0, hV, rfl, hfz, hnd⟩ := hW
  have hA : DataW.TrodAll enc Tryz.prog W 0 (fun _ => true) true Tryz.f3.params.toList args.toList ds p := hA0
  rw [Tryz.params3] at hA hval hsz
  obtain ⟨v0, vs0, d0, ds0, p0, q0, hargs, rfl, rfl, h0, r0⟩ := trodAll_cons hA
  obtain ⟨v1, vs1, d1, ds1, p1, q1, rfl, rfl, rfl, h1, r1⟩ := trodAll_cons r0
  obtain ⟨rfl, rfl, rfl⟩ := trodAll_nil r1
  obtain rfl : args = #[v0, v1] := by cases args; simp_all
  obtain ⟨rfl, rfl⟩ := trodVars_none hV
  have lt0 := trod_lt_all h0
  have z0 := weights_arg hsz (j := 0) (t := 22) rfl rfl
  obtain ⟨y0, b0, c0⟩ := arg_rep (ty := (.sl (.int .u8))) (n := 20) (ag := false) (by kernel_rfl) (by kernel_rfl) (hval 0 22 v0 rfl rfl) h0 z0
  have lt1 := trod_lt_all h1
  have z1 := weights_arg hsz (j := 1) (t := 22) rfl rfl
  obtain ⟨y1, b1, c1⟩ := arg_rep (ty := (.sl (.int .u8))) (n := 20) (ag := false) (by kernel_rfl) (by kernel_rfl) (hval 1 22 v1 rfl rfl) h1 z1
  obtain ⟨k, hp⟩ := laws_FnFeed.proved y0 y1 b0 b1
  have hrr : ((laws_FnFeed.con k).f [argC false (.sl (.int .u8)) y0, argC false (.sl (.int .u8)) y1]).val = some ⟨[.val false [.leaf (.bool true)]], []⟩ := by
    refine (congrArg CR.val (go k y0 y1)).trans ?_
    rw [hp]
    kernel_rfl
  refine (law_true (laws_FnFeed.ok k) hrr (vs := [v0, v1]) (cargs_cons (c0 _) (cargs_cons (c1 _) cargs_nil))).mono fun e W' ⟨he, bel0⟩ => ?_
  have bel : Below W.heap.size W W' := bel0
  subst he
  exact ⟨_, rfl, _, _, _, [], _, [], hW', trodAll_mk1 (shutB Tryz.underlying4 _), (trodAll_cons_mk (Below.trod laidOut (by kernel_rfl) (of_decide_eq_true (by kernel_rfl)) h0 bel lt0) (trodAll_cons_mk (Below.trod laidOut (by kernel_rfl) (of_decide_eq_true (by kernel_rfl)) h1 bel lt1) trodAll_mk0)), rfl, bel.frame _, fun h => by cases h⟩
theorem over : Rows.fnFeedRow.holds Tryz.pinned (OpenSpec.ofChange Rows.fnFeedSpec) :=
  OpenClaim.holds_of_wide 3 Tryz.f3 rfl rfl rfl rfl rfl rfl rfl ⟨rfl, rfl, rfl, rfl, rfl⟩ rfl rfl rfl rfl rfl (by kernel_rfl) Tryz.func3 (by kernel_rfl)
    (of_decide_eq_true (by kernel_rfl)) (by unfold Func.isWrapper; first | (rw [if_pos (by decide +kernel)]; kernel_rfl) | (rw [if_neg (by decide +kernel)]; exact ⟨rfl, rfl⟩))
    (fun os started H enc _ => lifted os started H enc)
theorem proved : Rows.FnFeedSaid := over
end Go.Proofs.YtaajcllchbnjiaaGreat.fnFeed
namespace Go.Proofs.YtaajcllchbnjiaaGreat
/-- The row, under a short name, for the claim. -/
theorem fnFeed_holds : Rows.FnFeedSaid := fnFeed.proved
#print axioms fnFeed_holds
end Go.Proofs.YtaajcllchbnjiaaGreat
