/- What the law FnExactAgentNext needs, part 5 of 13: the Lean functions of the Go functions that it reaches, with the proofs that the calls come to what they say, and plain facts about them. Conditions: those that each theorem states. Written by a session and by its programs (after the kit's printer). -/
import Derived.Test.YtfbancgdmghnkaaGreatDoorXFnExactAgentNext3
namespace Go.Proofs.YtfbancgdmghnkaaGreatDoorE
open Go Go.RowKit
set_option linter.unusedVariables false
section
variable {P : Program} {o : Oper} {X : Nat → Prop} {ρ ρ' : Rho} {st st' : St} {a : Act} {w w' : World} {R : Type} {r : R} {C : Ctx} {ops : Array Oper} {s : Nat → St} {rc : Nat → Rec}
def Rdy (ops : Array Oper) (S : Nat → Prop) (i : Nat) : Prop := ∀ o, ops[i]? = some o → ∀ e ∈ o.after.toList, Region.binds .any e = true → S e.on
theorem Zns {rs : List Rec} : ∀ {es : List Edge} {m : Nat}, Zem rs es = some m → (∀ e ∈ es, Region.binds .any e = true → ∃ q, rs.reverse[e.on]? = some q) ∧ ∀ j, m.testBit j = true → ∃ e ∈ es, Region.binds .any e = true ∧ ∃ q, rs.reverse[e.on]? = some q ∧ (j = e.on ∨ q.anc.testBit j = true)
 | [], m, h => by
  cases h
  exact ⟨(fun e he => nomatch he), fun j hj => by simp at hj⟩
 | e :: es, m, h => by
  unfold Zem at h
  cases hb : Region.binds .any e with
  | false =>
   rw [hb] at h
   obtain ⟨i1, i2⟩ := Zns (es := es) h
   refine ⟨fun x hx hxb => ?_, fun j hj => ?_⟩
   ·rcases List.mem_cons.1 hx with rfl | hx
    ·rw [hb] at hxb; cases hxb
    ·exact i1 x hx hxb
   ·obtain ⟨x, h1, h2⟩ := i2 j hj
    exact ⟨x, List.mem_cons_of_mem _ h1, h2⟩
  | true =>
   rw [hb] at h
   replace h : (match rs.reverse[e.on]?, Zem rs es with
    | some r, some m => some (r.anc ||| (1 <<< e.on) ||| m)
    | _, _ => none) = some m := h
   split at h
   ·rename_i q m' hq hm'
    cases h
    obtain ⟨i1, i2⟩ := Zns hm'
    refine ⟨fun x hx hxb => ?_, fun j hj => ?_⟩
    ·rcases List.mem_cons.1 hx with rfl | hx
     ·exact ⟨q, hq⟩
     ·exact i1 x hx hxb
    ·rw [Nat.testBit_or, Nat.testBit_or] at hj
     rcases (Bool.or_eq_true _ _).mp hj with hj | hj
     ·rcases (Bool.or_eq_true _ _).mp hj with hj | hj
      ·exact ⟨e, List.mem_cons_self, hb, q, hq, .inr hj⟩
      ·refine ⟨e, List.mem_cons_self, hb, q, hq, .inl ?_⟩
       rw [Nat.one_shiftLeft, Nat.testBit_two_pow] at hj
       exact (of_decide_eq_true hj).symm
     ·obtain ⟨x, h1, h2⟩ := i2 j hj
      exact ⟨x, List.mem_cons_of_mem _ h1, h2⟩
   ·cases h
theorem Zlw (rc : Nat → Rec) : ∀ (k i : Nat) (q : Rec), (Zwe rc k).reverse[i]? = some q → i < k ∧ q = rc i
 | 0, i, q, h => by simp [Zwe] at h
 | k + 1, i, q, h => by
  rw [show Zwe rc (k + 1) = rc k :: Zwe rc k from rfl, List.reverse_cons] at h
  rcases Nat.lt_or_ge i k with hlt | hge
  ·rw [List.getElem?_append_left (by rw [List.length_reverse, Z3p]; exact hlt)] at h
   obtain ⟨h1, h2⟩ := Zlw rc k i q h
   exact ⟨Nat.lt_succ_of_lt h1, h2⟩
  ·rw [List.getElem?_append_right (by rw [List.length_reverse, Z3p]; exact hge), List.length_reverse, Z3p] at h
   have : i - k = 0 := by
    rcases Nat.eq_zero_or_pos (i - k) with h0 | h0
    ·exact h0
    ·rw [List.getElem?_eq_none (by rw [List.length_singleton]; omega)] at h; cases h
   rw [this] at h
   cases h
   have : i = k := by omega
   subst this
   exact ⟨Nat.lt_succ_self i, rfl⟩
theorem Zh2 {n : Nat} (hI : ∀ i, i < n → Info P ops s rc i) {S : Nat → Prop} (hC : ∀ i, S i → Rdy ops S i) : ∀ k, k < n → Rdy ops S k → ∀ j, (rc k).anc.testBit j = true → S j := by
 intro k
 induction k using Nat.strongRecOn with
 | _ k ih =>
  intro hk hr j hj
  obtain ⟨o, ho, ha⟩ := (hI k hk).anc
  obtain ⟨e, he, hb, q, hq, hj⟩ := (Zns ha).2 j hj
  obtain ⟨h1, rfl⟩ := Zlw rc k _ q hq
  have hS := hr o ho e he hb
  rcases hj with rfl | hj
  ·exact hS
  ·exact ih e.on h1 (by omega) (hC _ hS) j hj
theorem Z1w (rc : Nat → Rec) {q : Rec} : ∀ {k : Nat}, okR (Zwe rc k) q = true → ∀ j, j < k → q.anc.testBit j = true ∨ Zan (rc j) q = true
 | 0, _, j, hj => nomatch hj
 | k + 1, h, j, hj => by
  replace h : ((Nat.testBit q.anc (Zwe rc k).length || Zan (rc k) q) && okR (Zwe rc k) q) = true := h
  obtain ⟨h1, h2⟩ := (Bool.and_eq_true _ _).mp h
  rcases Nat.eq_or_lt_of_le (Nat.le_of_lt_succ hj) with rfl | hj
  ·rw [Z3p] at h1
   exact (Bool.or_eq_true _ _).mp h1
  ·exact Z1w rc h2 j hj
theorem Zto {xs ys : List Nat} (h : Zkn xs ys = true) {n : Nat} (hx : n ∈ xs) (hy : n ∈ ys) : False := Zfs h n hx hy
structure Apart (j k : Rec) : Prop where
 a : ∀ t, t ∈ j.dst → t ∈ k.fp.rt → False
 b : ∀ t, t ∈ j.dst → t ∈ k.dst → False
 c : ∀ t, t ∈ k.dst → t ∈ j.fp.rt → False
 d : ∀ t, t ∈ j.fp.wb → t ∈ k.fp.rb → False
 e : ∀ t, t ∈ j.fp.wb → t ∈ k.fp.wb → False
 f : ∀ t, t ∈ j.fp.rb → t ∈ k.fp.wb → False
theorem Zet {j k : Rec} (h : Zan j k = true) : Apart j k := by
 unfold Zan at h
 simp only [Bool.and_eq_true] at h
 obtain ⟨⟨⟨⟨⟨h1, h2⟩, h3⟩, h4⟩, h5⟩, h6⟩ := h
 exact ⟨fun t x y => Zto h1 x y, fun t x y => Zto h2 x y, fun t x y => Zto h3 x y, fun t x y => Zto h4 x y, fun t x y => Zto h5 x y, fun t x y => Zto h6 x y⟩
def Zri {α : Type} (S wr : Nat → Bool) (val : Nat → α) : Nat → α → α
 | 0, e => e
 | n + 1, e => if S n && wr n then val n else Zri S wr val n e
theorem Ziq {α : Type} {S S' wr : Nat → Bool} {val : Nat → α} {e : α} : ∀ {n : Nat}, (∀ j, j < n → wr j = true → S j = S' j) → Zri S wr val n e = Zri S' wr val n e
 | 0, _ => rfl
 | n + 1, h => by
  unfold Zri
  rw [Ziq (n := n) fun j hj => h j (Nat.lt_succ_of_lt hj)]
  cases hw : wr n with
  | false => simp
  | true => rw [h n (Nat.lt_succ_self n) hw]
theorem Zu2 {α : Type} {wr : Nat → Bool} {x : Nat → α} : ∀ {n : Nat}, (∀ j, j < n → wr j = false → x (j + 1) = x j) → Zri (fun _ => true) wr (fun j => x (j + 1)) n (x 0) = x n
 | 0, _ => rfl
 | n + 1, h => by
  unfold Zri
  cases hw : wr n with
  | false =>
   rw [h n (Nat.lt_succ_self n) hw]
   exact Zu2 fun j hj => h j (Nat.lt_succ_of_lt hj)
  | true => rfl
theorem Z85 {α : Type} {wr : Nat → Bool} {val : Nat → α} {e : α} {k : Nat} : ∀ {n : Nat}, k ≤ n → Zri (fun j => decide (j < k)) wr val n e = Zri (fun _ => true) wr val k e
 | 0, h => by
  obtain rfl : k = 0 := by omega
  rfl
 | n + 1, h => by
  rcases Nat.eq_or_lt_of_le h with rfl | h
  ·refine Ziq fun j hj _ => by simpa using hj
  ·rw [← Z85 (n := n) (by omega)]
   show (if decide (n < k) && wr n then val n else Zri _ wr val n e) = _
   rw [decide_eq_false (by omega : ¬ n < k)]
   rfl
theorem Zro {α : Type} {S wr : Nat → Bool} {x : Nat → α} {n k : Nat} (hx : ∀ j, j < n → wr j = false → x (j + 1) = x j) (hk : k ≤ n) (hS : ∀ j, j < n → wr j = true → S j = decide (j < k)) : Zri S wr (fun j => x (j + 1)) n (x 0) = x k := by
 rw [Ziq hS, Z85 hk]
 exact Zu2 fun j hj => hx j (by omega)
def wrB (rc : Nat → Rec) (b : Nat) (j : Nat) : Bool := (rc j).fp.wb.any (Nat.beq b)
def wrT (rc : Nat → Rec) (t : Nat) (j : Nat) : Bool := (rc j).dst.any (Nat.beq t)
theorem Z1k {l : List Nat} {n : Nat} : l.any (Nat.beq n) = true ↔ n ∈ l := by
 constructor
 ·intro h
  obtain ⟨x, h1, h2⟩ := List.any_eq_true.1 h
  rw [Nat.eq_of_beq_eq_true h2]
  exact h1
 ·exact fun h => List.any_eq_true.2 ⟨n, h, Nat.beq_refl n⟩
theorem Zk6 {l : List Nat} {n : Nat} (h : n ∉ l) : l.any (Nat.beq n) = false := by
 cases hb : l.any (Nat.beq n) with
 | false => rfl
 | true => exact absurd (Z1k.1 hb) h
theorem Z0s {l : List Nat} {n : Nat} (h : l.any (Nat.beq n) = false) : n ∉ l := fun hm => by
 rw [Z1k.2 hm] at h; cases h
structure Inv (ops : Array Oper) (s : Nat → St) (rc : Nat → Rec) (N : Nat) (X : Nat → Prop) (S : Nat → Bool) (ρ : Rho) (st : St) (a : Act) (w : World) : Prop where
 rel : Rel X ρ st a w
 n : st.n = (s 0).n
 gs : st.gs = []
 tm : ∀ t, Z4 .unk st.tmps t = Zri S (wrT rc t) (fun j => Z4 .unk (s (j + 1)).tmps t) N (Z4 .unk (s 0).tmps t)
 en : ∀ b, st.ent b = Zri S (wrB rc b) (fun j => (s (j + 1)).ent b) N ((s 0).ent b)
 free : ∀ i, (∃ j, j < N ∧ S j = false ∧ (s j).nb ≤ i ∧ i < (s (j + 1)).nb) ∨ ((s N).nb ≤ i ∧ i < 1000000) → ρ i = none
theorem Rel.names (h : Rel X ρ st a w) {nb lim : Nat} {res : List (Nat × Nat)} (f : Z7j ρ { st with nb := nb, lim := lim, res := res }) : Rel X ρ { st with nb := nb, lim := lim, res := res } a w :=
 ⟨h.defers, h.size, h.sep, h.lt, h.ents, h.tmps, h.gs, f, h.xlt, h.gl⟩
theorem Rel.same (h : Rel X ρ st a w) (hn : st'.n = st.n) (hg : st'.gs = []) (ht : ∀ t, Z4 .unk st'.tmps t = Z4 .unk st.tmps t) (he : ∀ b, st'.ent b = st.ent b) (f : Z7j ρ st') : Rel X ρ st' a w :=
 ⟨h.defers, by rw [hn]; exact h.size, h.sep, h.lt, fun i => by rw [he]; exact h.ents i, fun i => by rw [ht]; exact h.tmps i, (fun i t b x hm => by rw [hg] at hm; cases hm), f, h.xlt, h.gl⟩
theorem Ztn {N : Nat} (hI : ∀ i, i < N → Info P ops s rc i) : ∀ {i j : Nat}, i ≤ j → j ≤ N → (s i).nb ≤ (s j).nb
 | i, 0, h, _ => by
  obtain rfl : i = 0 := by omega
  exact Nat.le_refl _
 | i, j + 1, h, hj => by
  rcases Nat.eq_or_lt_of_le h with rfl | h
  ·exact Nat.le_refl _
  ·exact Nat.le_trans (Ztn hI (Nat.le_of_lt_succ h) (by omega)) (hI j (by omega)).step.nb
theorem Zps {N : Nat} (hI : ∀ i, i < N → Info P ops s rc i) (hg : (s 0).gs = []) : ∀ {i : Nat}, i ≤ N → (s i).n = (s 0).n ∧ (s i).gs = [] ∧ (s i).lim = (s 0).lim ∧ (s i).res = (s 0).res
 | 0, _ => ⟨rfl, hg, rfl, rfl⟩
 | i + 1, h => by
  obtain ⟨h1, h2, h3, h4⟩ := Zps hI hg (i := i) (by omega)
  have := (hI i (by omega)).step
  exact ⟨this.n.trans h1, this.gs h2, this.lim.trans h3, this.res.trans h4⟩
theorem Z4ab {N : Nat} (hN : (s N).nb ≤ 1000000) (hI : ∀ i, i < N → Info P ops s rc i) (hg0 : (s 0).gs = []) {S : Nat → Bool} (hC : ∀ i, S i = true → Rdy ops (fun j => S j = true) i) {k : Nat} (hk : k < N) (hkS : S k = false) (hR : Rdy ops (fun j => S j = true) k)
  (h : Inv ops s rc N X S ρ st a w) {S' : Nat → Bool} (hS' : ∀ j, S' j = if j = k then true else S j) (Q : Exit → Act → World → Prop) (K : Act → World → Prop)
  (hq : ∀ ρ' st' a' w', Inv ops s rc N X S' ρ' st' a' w' → Ext ρ w ρ' w' → (∀ t, (∀ o, ops[k]? = some o → o.dst ≠ some t) → Z6 a' t = Z6 a t) → K a' w') : wpOp P ops Q k K a w := by
 have info := hI k hk
 have hlt := Z1w rc info.ok
 have hanc := Zh2 hI hC k hk hR
 have done : ∀ (wr : Nat → Bool), (∀ j, j < k → wr j = true → Zan (rc j) (rc k) = true → False) → (∀ j, k < j → j < N → wr j = true → Zan (rc k) (rc j) = true → False) → ∀ j, j < N → wr j = true → j ≠ k → S j = decide (j < k) := by
  intro wr h1 h2 j hj hw hne
  rcases Nat.lt_or_gt_of_ne hne with hlt' | hgt
  ·rw [decide_eq_true hlt']
   rcases hlt j hlt' with h | h
   ·exact hanc j h
   ·exact (h1 j hlt' hw h).elim
  ·rw [decide_eq_false (by omega)]
   cases hSj : S j with
   | false => rfl
   | true =>
    rcases Z1w rc (hI j hj).ok k hgt with h | h
    ·have := Zh2 hI hC j hj (hC j hSj) k h
     rw [hkS] at this; cases this
    ·exact (h2 j hgt hj hw h).elim
 have doneB : ∀ b, b ∈ (rc k).fp.rb ∨ b ∈ (rc k).fp.wb → ∀ j, j < N → wrB rc b j = true → j ≠ k → S j = decide (j < k) := fun b hb => done _ (fun j _ hw hap => by
   have hap := Zet hap
   rcases hb with hb | hb
   ·exact hap.d b (Z1k.1 hw) hb
   ·exact hap.e b (Z1k.1 hw) hb) fun j _ _ hw hap => by
   have hap := Zet hap
   rcases hb with hb | hb
   ·exact hap.f b hb (Z1k.1 hw)
   ·exact hap.e b hb (Z1k.1 hw)
 have doneT : ∀ t, t ∈ (rc k).fp.rt ∨ t ∈ (rc k).dst → ∀ j, j < N → wrT rc t j = true → j ≠ k → S j = decide (j < k) := fun t ht => done _ (fun j _ hw hap => by
   have hap := Zet hap
   rcases ht with ht | ht
   ·exact hap.a t (Z1k.1 hw) ht
   ·exact hap.b t (Z1k.1 hw) ht) fun j _ _ hw hap => by
   have hap := Zet hap
   rcases ht with ht | ht
   ·exact hap.c t (Z1k.1 hw) ht
   ·exact hap.b t ht (Z1k.1 hw)
 have before : ∀ {wr : Nat → Bool}, (∀ j, j < N → wr j = true → j ≠ k → S j = decide (j < k)) → ∀ j, j < N → wr j = true → S j = decide (j < k) := fun hd j hj hw => by
  by_cases e : j = k
  ·subst e; rw [hkS]; simp
  ·exact hd j hj hw e
 have after : ∀ {wr : Nat → Bool}, (∀ j, j < N → wr j = true → j ≠ k → S j = decide (j < k)) → ∀ j, j < N → wr j = true → S' j = decide (j < k + 1) := fun hd j hj hw => by
  rw [hS' j]
  by_cases e : j = k
  ·subst e; rw [if_pos rfl]; simp
  ·rw [if_neg e, hd j hj hw e]
   by_cases hjk : j < k
   ·rw [decide_eq_true hjk, decide_eq_true (by omega)]
   ·rw [decide_eq_false hjk, decide_eq_false (by omega)]
 have other : ∀ {wr : Nat → Bool}, wr k = false → ∀ j, j < N → wr j = true → S' j = S j := fun hw j _ hw2 => by
  rw [hS' j, if_neg (fun e => by rw [e, hw] at hw2; cases hw2)]
 have textB : ∀ b j, j < N → wrB rc b j = false → (s (j + 1)).ent b = (s j).ent b := fun b j hj hw => (hI j hj).step.outB b (Z0s hw)
 have textT : ∀ t j, j < N → wrT rc t j = false → Z4 .unk (s (j + 1)).tmps t = Z4 .unk (s j).tmps t := fun t j hj hw => (hI j hj).step.outT t (Z0s hw)
 let wins : List (Nat × Nat) := ((List.range N).filter fun j => !S j && !(Nat.beq j k)).map fun j => ((s j).nb, (s (j + 1)).nb)
 have hwins : ∀ p, p ∈ wins ↔ ∃ j, j < N ∧ S j = false ∧ j ≠ k ∧ p = ((s j).nb, (s (j + 1)).nb) := by
  intro p
  constructor
  ·intro hp
   obtain ⟨j, hj, rfl⟩ := List.mem_map.1 hp
   obtain ⟨h1, h2⟩ := List.mem_filter.1 hj
   obtain ⟨h3, h4⟩ := (Bool.and_eq_true _ _).mp h2
   refine ⟨j, List.mem_range.1 h1, by simpa using h3, fun e => ?_, rfl⟩
   subst e
   rw [Nat.beq_refl] at h4; cases h4
  ·rintro ⟨j, h1, h2, h3, rfl⟩
   refine List.mem_map.2 ⟨j, List.mem_filter.2 ⟨List.mem_range.2 h1, ?_⟩, rfl⟩
   rw [h2]
   cases hb : Nat.beq j k with
   | false => rfl
   | true => exact absurd (Nat.eq_of_beq_eq_true hb) h3
 let st2 : St := { st with nb := (s k).nb, lim := (s (k + 1)).nb, res := ((s N).nb, 1000000) :: wins }
 have hfree : Z7j ρ st2 := by
  refine ⟨fun i hi => h.free i ?_, fun p hp => ?_⟩
  ·rcases hi with hi | ⟨p, hp, hi⟩
   ·exact .inl ⟨k, hk, hkS, hi⟩
   ·rcases List.mem_cons.1 hp with rfl | hp
    ·exact .inr hi
    ·obtain ⟨j, h1, h2, _, rfl⟩ := (hwins p).1 hp
     exact .inl ⟨j, h1, h2, hi⟩
  ·rcases List.mem_cons.1 hp with rfl | hp
   ·exact .inr (Ztn hI hk (Nat.le_refl _))
   ·obtain ⟨j, h1, h2, h3, rfl⟩ := (hwins p).1 hp
    rcases Nat.lt_or_gt_of_ne h3 with h4 | h4
    ·exact .inl (Ztn hI h4 (by omega))
    ·exact .inr (Ztn hI h4 (by omega))
 have hrel2 : Rel X ρ st2 a w := h.rel.names hfree
 obtain ⟨kn, kg, _, _⟩ := Zps hI hg0 (i := k) (by omega)
 have hagr : Agr (rc k).fp (s k) st2 := by
  refine ⟨fun t ht => ?_, fun b hb => ?_⟩
  ·rw [Zas (show st2.gs = [] from h.gs), Zas kg]
   show Z4 .unk st.tmps t = _
   rw [h.tm t]
   exact Zro (x := fun j => Z4 .unk (s j).tmps t) (textT t) (by omega) (before (doneT t (.inl ht)))
  ·show st.ent b = _
   rw [h.en b]
   exact Zro (x := fun j => (s j).ent b) (textB b) (by omega) (before (doneB b hb))
 refine info.step.exec X ρ st2 a w hrel2 h.gs hagr (h.n.trans kn.symm) rfl (Nat.le_refl _) Q K ?_
 intro ρ' st2' a' w' q1 q2 q3 q4 q5 q6 q7 q8 q9 q10 q11 q12
 refine hq ρ' st2' a' w' ⟨q1, q4.trans h.n, q3, fun t => ?_, fun b => ?_, fun i hi => q1.fresh.1 i ?_⟩ q2 fun t ht => q12 t fun hm => ?_
 ·by_cases ht : t ∈ (rc k).dst
  ·rw [q10 t ht]
   exact (Zro (x := fun j => Z4 .unk (s j).tmps t) (textT t) (by omega : k + 1 ≤ N) (after (doneT t (.inr ht)))).symm
  ·rw [q11 t ht]
   show Z4 .unk st.tmps t = _
   rw [h.tm t]
   exact (Ziq (other (Zk6 ht))).symm
 ·by_cases hb : b ∈ (rc k).fp.wb
  ·rw [q8 b hb]
   exact (Zro (x := fun j => (s j).ent b) (textB b) (by omega : k + 1 ≤ N) (after (doneB b (.inr hb)))).symm
  ·rw [q9 b hb]
   show st.ent b = _
   rw [h.en b]
   exact (Ziq (other (Zk6 hb))).symm
 ·unfold St.fr
  rw [q7]
  rcases hi with ⟨j, h1, h2, h3⟩ | hi
  ·rw [hS' j] at h2
   by_cases e : j = k
   ·rw [if_pos e] at h2; cases h2
   ·rw [if_neg e] at h2
    exact .inr ⟨_, List.mem_cons_of_mem _ ((hwins _).2 ⟨j, h1, h2, e, rfl⟩), h3⟩
  ·exact .inr ⟨_, List.mem_cons_self, hi⟩
 ·obtain ⟨o, ho1, ho2⟩ := info.step.dst t hm
  exact ht o ho1 ho2
theorem Z7s {listed : Array Bool} {i : Nat} : i ∈ Region.ready .any ops listed ↔ i < ops.size ∧ listed.getD i true = false ∧ ((ops[i]?).map (·.after.all fun e => !Region.binds .any e || listed.getD e.on false)).getD false = true := by
 unfold Region.ready
 rw [List.mem_filter, List.mem_range, Bool.and_eq_true]
 constructor
 ·rintro ⟨h1, h2, h3⟩
  exact ⟨h1, by simpa using h2, h3⟩
 ·rintro ⟨h1, h2, h3⟩
  exact ⟨h1, by rw [h2]; rfl, h3⟩
theorem Zxz {listed : Array Bool} {i : Nat} (h : i ∈ Region.ready .any ops listed) : Rdy ops (fun j => listed.getD j false = true) i := by
 obtain ⟨_, _, h3⟩ := Z7s.1 h
 intro o ho e he hb
 rw [ho] at h3
 have := Array.all_eq_true_iff_forall_mem.1 (show (o.after.all fun e => !Region.binds .any e || listed.getD e.on false) = true from h3) e (Array.mem_toList_iff.1 he)
 rw [hb] at this
 simpa using this
def cnt (S : Nat → Bool) : Nat → Nat
 | 0 => 0
 | n + 1 => cnt S n + (if S n then 0 else 1)
theorem Zz6 {S : Nat → Bool} : ∀ {n : Nat}, cnt S n = 0 → ∀ i, i < n → S i = true
 | 0, _, i, h => nomatch h
 | n + 1, h, i, hi => by
  unfold cnt at h
  cases hs : S n with
  | false => rw [hs] at h; simp at h
  | true =>
   rw [hs] at h
   rcases Nat.eq_or_lt_of_le (Nat.le_of_lt_succ hi) with rfl | hi
   ·exact hs
   ·exact Zz6 (by simpa using h) i hi
theorem Zr4 {S S' : Nat → Bool} {k : Nat} (hkS : S k = false) (hS' : ∀ j, S' j = if j = k then true else S j) : ∀ {n : Nat}, (k < n → cnt S n = cnt S' n + 1) ∧ (n ≤ k → cnt S n = cnt S' n)
 | 0 => ⟨(fun h => nomatch h), fun _ => rfl⟩
 | n + 1 => by
  obtain ⟨i1, i2⟩ := Zr4 hkS hS' (n := n)
  refine ⟨fun h => ?_, fun h => ?_⟩
  ·unfold cnt
   rcases Nat.eq_or_lt_of_le (Nat.le_of_lt_succ h) with rfl | h
   ·rw [i2 (Nat.le_refl _), hkS, hS' k, if_pos rfl]
    simp
   ·have hne : ¬ n = k := by omega
    rw [i1 h, hS' n, if_neg hne]
    omega
  ·unfold cnt
   have hne : ¬ n = k := by omega
   rw [i2 (by omega), hS' n, if_neg hne]
theorem Zw9 {N : Nat} (hNs : ops.size = N) (hN : (s N).nb ≤ 1000000) (hI : ∀ i, i < N → Info P ops s rc i) (hg0 : (s 0).gs = []) (hl0 : (s 0).lim = 1000000) (hr0 : (s 0).res = []) {Q : Exit → Act → World → Prop} : ∀ (fuel : Nat) (listed : Array Bool) (ρ : Rho) (st : St) (a : Act) (w : World), listed.size = N → (∀ i, listed.getD i false = true → Rdy ops (fun j => listed.getD j false = true) i) → cnt (fun i => listed.getD i false) N ≤ fuel →
  Inv ops s rc N X (fun i => listed.getD i false) ρ st a w → (∀ ρ' a' w', Rel X ρ' (s N) a' w' → Ext ρ w ρ' w' → (∀ t, (∀ (i : Nat) (o : Oper), ops[i]? = some o → o.dst ≠ some t) → Z6 a' t = Z6 a t) → Q .normal a' w') →
  wpAny P .any ops Q fuel listed a w := by
 intro fuel
 have fin : ∀ (listed : Array Bool) (ρ : Rho) (st : St) (a : Act) (w : World), (∀ i, i < N → listed.getD i false = true) → Inv ops s rc N X (fun i => listed.getD i false) ρ st a w → (∀ ρ' a' w', Rel X ρ' (s N) a' w' → Ext ρ w ρ' w' → (∀ t, (∀ (i : Nat) (o : Oper), ops[i]? = some o → o.dst ≠ some t) → Z6 a' t = Z6 a t) → Q .normal a' w') → Q .normal a w := by
  intro listed ρ st a w hall h hq
  obtain ⟨n1, n2, n3, n4⟩ := Zps hI hg0 (i := N) (Nat.le_refl _)
  refine hq ρ a w (h.rel.same (n1.trans h.n.symm) n2 (fun t => ?_) (fun b => ?_) ⟨fun i hi => ?_, fun p hp => ?_⟩) (Ext.refl _ _) fun _ _ => rfl
  ·rw [h.tm t]
   exact (Zro (S := fun i => listed.getD i false) (x := fun j => Z4 .unk (s j).tmps t) (fun j hj hw => (hI j hj).step.outT t (Z0s hw)) (Nat.le_refl _) fun j hj _ => (hall j hj).trans (decide_eq_true hj).symm).symm
  ·rw [h.en b]
   exact (Zro (S := fun i => listed.getD i false) (x := fun j => (s j).ent b) (fun j hj hw => (hI j hj).step.outB b (Z0s hw)) (Nat.le_refl _) fun j hj _ => (hall j hj).trans (decide_eq_true hj).symm).symm
  ·rcases hi with hi | ⟨p, hp, _⟩
   ·exact h.free i (.inr ⟨hi.1, by rw [← hl0, ← n3]; exact hi.2⟩)
   ·rw [n4, hr0] at hp; cases hp
  ·rw [n4, hr0] at hp; cases hp
 have live : ∀ (listed : Array Bool), listed.size = N → Region.ready .any ops listed = [] → ∀ i, i < N → listed.getD i false = true := by
  intro listed hsz hnil i
  induction i using Nat.strongRecOn with
  | _ i ih =>
   intro hi
   cases hl : listed.getD i false with
   | true => rfl
   | false =>
    exfalso
    have hmem : i ∈ Region.ready .any ops listed := by
     refine Z7s.2 ⟨by omega, ?_, ?_⟩
     ·rw [Array.getD_eq_getD_getElem?] at hl ⊢
      rw [Array.getElem?_eq_getElem (by omega)] at hl ⊢
      exact hl
     ·obtain ⟨o, ho, ha⟩ := (hI i hi).anc
      rw [ho]
      show (o.after.all fun e => !Region.binds .any e || listed.getD e.on false) = true
      refine Array.all_eq_true_iff_forall_mem.2 fun e he => ?_
      cases hb : Region.binds .any e with
      | false => rfl
      | true =>
       obtain ⟨q, hq⟩ := (Zns ha).1 e (Array.mem_toList_iff.2 he) hb
       obtain ⟨h1, _⟩ := Zlw rc i _ q hq
       rw [ih e.on h1 (by omega)]
       rfl
    rw [hnil] at hmem
    cases hmem
 induction fuel with
 | zero =>
  intro listed ρ st a w hsz hC hc h hq
  have hall := Zz6 (Nat.le_zero.1 hc)
  refine ⟨?_, fin listed ρ st a w hall h hq⟩
  cases hr : Region.ready .any ops listed with
  | nil => rfl
  | cons i is =>
   exfalso
   have hm : i ∈ Region.ready .any ops listed := by rw [hr]; exact List.mem_cons_self
   obtain ⟨h1, h2, _⟩ := Z7s.1 hm
   have := hall i (by omega)
   rw [Array.getD_eq_getD_getElem?, Array.getElem?_eq_getElem (by omega)] at this h2
   have h2 : listed[i] = false := h2
   have this : listed[i] = true := this
   rw [h2] at this
   cases this
 | succ fuel ih =>
  intro listed ρ st a w hsz hC hc h hq
  refine ⟨fun hnil => fin listed ρ st a w (live listed hsz hnil) h hq, fun k hk => ?_⟩
  obtain ⟨k1, k2, _⟩ := Z7s.1 hk
  have hkN : k < N := by omega
  have hkS : listed.getD k false = false := by
   rw [Array.getD_eq_getD_getElem?, Array.getElem?_eq_getElem (by omega)] at k2 ⊢
   exact k2
  have hS' : ∀ j, (listed.setIfInBounds k true).getD j false = if j = k then true else listed.getD j false := fun j => by
   rw [Array.getD_eq_getD_getElem?, Array.getElem?_setIfInBounds]
   by_cases e : k = j
   ·subst e; rw [if_pos rfl, if_pos rfl, if_pos (by omega)]; rfl
   ·rw [if_neg e, if_neg (fun q => e q.symm), Array.getD_eq_getD_getElem?]
  refine Z4ab hN hI hg0 hC hkN hkS (Zxz hk) h (S' := fun i => (listed.setIfInBounds k true).getD i false) hS' Q _ ?_
  intro ρ' st' a' w' h' hx hs
  refine ih (listed.setIfInBounds k true) ρ' st' a' w' (by simpa using hsz) ?_ ?_ h' fun ρ2 a2 w2 e1 e2 e3 => hq ρ2 a2 w2 e1 (hx.trans e2) fun t ht => (e3 t ht).trans (hs t (ht k))
  ·intro i hi o ho e he hb
   rw [hS' e.on]
   by_cases q : e.on = k
   ·rw [if_pos q]
   ·rw [if_neg q]
    rw [hS' i] at hi
    by_cases q2 : i = k
    ·subst q2
     exact Zxz hk o ho e he hb
    ·rw [if_neg q2] at hi
     exact hC i hi o ho e he hb
  ·have := (Zr4 (S := fun i => listed.getD i false) (S' := fun i => (listed.setIfInBounds k true).getD i false) hkS hS' (n := N)).1 hkN
   omega
theorem Rel.drawn (h : Rel X ρ st a w) : Rel X ρ st a { w with drawn := w.drawn + 1 } ∧ Ext ρ w ρ { w with drawn := w.drawn + 1 } := by
 have x : Ext ρ w ρ { w with drawn := w.drawn + 1 } := ⟨rfl, rfl, rfl, Nat.le_refl _, fun _ _ _ => rfl, fun i _ h => .inl ⟨i, h⟩, fun _ _ h => .inl h⟩
 exact ⟨⟨h.defers, h.size, h.sep, h.lt, fun i => Znd.ext (h.ents i) x rfl fun b hb => rfl, fun i => (h.tmps i).ext x, fun i t b y hm => (h.gs i t b y hm).imp (fun h => ⟨h.1, h.2.ext x⟩) id, h.fresh, h.xlt, h.gl.ext x⟩, x⟩
theorem Zf7 (H : CtxOk P C) {K : St → Option R} {id : Nat} (h : Rel X ρ st a w) (hr : Zur C ops st K = some r) (Q : Exit → Act → World → Prop)
  (hq : ∀ ρ' st' a' w', K st' = some r → Rel X ρ' st' a' w' → Ext ρ w ρ' w' → st'.n = st.n → Zge (ops.toList.filterMap (·.dst)) a a' → Q .normal a' w') : (Code.region id ops true).wp P Q a w := by
 unfold Zur at hr
 cases hc : (Z4q st) with
 | false => rw [hc] at hr; cases hr
 | true =>
  rw [hc] at hr
  obtain ⟨c1a, c1b⟩ := (Bool.and_eq_true _ _).mp hc
  have c1a := Nat.eq_of_beq_eq_true c1a
  have c1b : st.res = [] := by
   cases hres : st.res with
   | nil => rfl
   | cons _ _ => rw [hres] at c1b; cases c1b
  replace hr : Zkm C ops ops.toList [] { st with gs := [] } K = some r := hr
  obtain ⟨s, rc, e1, e2, e3, e4, e5⟩ := Zs1 H ops.toList 0 (fun _ => { st with gs := [] }) (fun _ => ⟨[], ⟨[], [], []⟩, 0⟩) (fun i => by rw [Nat.zero_add, Array.getElem?_toList]) hr
  have hlen : 0 + ops.toList.length = ops.size := by rw [Nat.zero_add, Array.length_toList]
  rw [hlen] at e3 e4 e5
  have hI : ∀ i, i < ops.size → Info P ops s rc i := fun i hi => e3 i (Nat.zero_le _) hi
  have s0 : s 0 = { st with gs := [] } := e1 0 (Nat.le_refl _)
  obtain ⟨hd, xd⟩ := h.drawn
  refine wp_region_draw fun t => ?_
  have hsch : Region.schedule (P.follows .mixedOrders) ops t = Region.linearise .any ops t := by
   unfold Region.schedule
   rw [H.mix]
   simp
  rw [hsch]
  unfold Region.linearise
  have hff : ∀ i, (Array.replicate ops.size false).getD i false = false := fun i => by
   rw [Array.getD_eq_getD_getElem?, Array.getElem?_replicate]
   split <;> rfl
  refine wpAny_sound ops.size t _ a _ (Zw9 (X := X) rfl e5 hI (by rw [s0]) (by rw [s0]; exact c1a) (by rw [s0]; exact c1b) ops.size _ ρ { st with gs := [] } a _ (by simp) (fun i hi => by rw [hff i] at hi; cases hi) ?_ ⟨hd.clear, by rw [s0], rfl, fun t => ?_, fun b => ?_, fun i hi => ?_⟩ ?_)
  ·have : ∀ n, cnt (fun i => (Array.replicate ops.size false).getD i false) n = n := by
    intro n
    induction n with
    | zero => rfl
    | succ n ih =>
     unfold cnt
     rw [ih, hff n]
     rfl
   rw [this]
   exact Nat.le_refl _
  ·have : ∀ n, Zri (fun i => (Array.replicate ops.size false).getD i false) (wrT rc t) (fun j => Z4 .unk (s (j + 1)).tmps t) n (Z4 .unk (s 0).tmps t) = Z4 .unk (s 0).tmps t := by
    intro n
    induction n with
    | zero => rfl
    | succ n ih =>
     unfold Zri
     rw [hff n, ih]
     rfl
   rw [this, s0]
  ·have : ∀ n, Zri (fun i => (Array.replicate ops.size false).getD i false) (wrB rc b) (fun j => (s (j + 1)).ent b) n ((s 0).ent b) = (s 0).ent b := by
    intro n
    induction n with
    | zero => rfl
    | succ n ih =>
     unfold Zri
     rw [hff n, ih]
     rfl
   rw [this, s0]
  ·have m0 := Ztn hI (i := 0) (j := ops.size) (Nat.zero_le _) (Nat.le_refl _)
   have s0n : (s 0).nb = st.nb := by rw [s0]
   refine h.fresh.1 i (.inl ⟨?_, ?_⟩)
   ·rcases hi with ⟨j, h1, _, h2, h3⟩ | hi
    ·have := Ztn hI (i := 0) (j := j) (Nat.zero_le _) (by omega)
     omega
    ·omega
   ·rw [c1a]
    rcases hi with ⟨j, h1, _, h2, h3⟩ | hi
    ·have := Ztn hI (i := j + 1) (j := ops.size) h1 (Nat.le_refl _)
     omega
    ·exact hi.2
  ·intro ρ' a' w' k1 k2 k3
   refine hq ρ' (s ops.size) a' w' e4 k1 (xd.trans k2) ?_ fun t ht => k3 t fun i o ho e => ht (List.mem_filterMap.2 ⟨o, ?_, e⟩)
   ·rw [(Zps hI (by rw [s0]) (i := ops.size) (Nat.le_refl _)).1, s0]
   ·exact Array.mem_toList_iff.2 (Array.mem_of_getElem? ho)
end
end Go.Proofs.YtfbancgdmghnkaaGreatDoorE
namespace Go.Proofs.YtfbancgdmghnkaaGreatDoorE
open Go Go.RowKit
set_option linter.unusedVariables false
def Zop : Ex → Exit
 | .nrm => .normal
 | .exit id => .exit id
 | .ret => .ret
def Zqq {R : Type} (P : Program) (c : Code) (a : Act) (w : World) (X : Nat → Prop) (ρ : Rho) (st : St) (K : Ex → St → Option R) (r : R) : Prop :=
 ∀ Q : Exit → Act → World → Prop, (∀ e ρ' st' a' w', K e st' = some r → Rel X ρ' st' a' w' → Ext ρ w ρ' w' → st'.n = st.n → Zge (Zmd c) a a' → Q (Zop e) a' w') → c.wp P Q a w
def Z1 (P : Program) (C : Ctx) (c : Code) (s : Summ) : Prop :=
 ∀ (R : Type) (X : Nat → Prop) (ρ : Rho) (st : St) (a : Act) (w : World) (K : Ex → St → Option R) (r : R), Rel X ρ st a w → V C (.sum s) c st K = some r → Zqq P c a w X ρ st K r
def Zhf (P : Program) (C : Ctx) : Plan → Code → Prop
 | .sum s, c => Z1 P C c s
 | p, .seq a b => Zhf P C p.l a ∧ Zhf P C p.r b
 | p, .cond _ a b => Zhf P C p.l a ∧ Zhf P C p.r b
 | p, .block _ a => Zhf P C p.o a
 | _, _ => True
section
variable {P : Program} {X : Nat → Prop} {ρ ρ' : Rho} {st st' : St} {a : Act} {w w' : World} {R : Type} {r : R} {C : Ctx}
theorem Zge.mono {ds es : List Nat} {a a' : Act} (h : Zge ds a a') (hs : ∀ i, i ∈ ds → i ∈ es) : Zge es a a' := fun i hi => h i fun hm => hi (hs i hm)
theorem Zge.trans {ds : List Nat} {a b c : Act} (h : Zge ds a b) (k : Zge ds b c) : Zge ds a c := fun i hi => (k i hi).trans (h i hi)
theorem Z0j {p : Plan} (hp : ∀ s, p ≠ .sum s) (c : Code) (st : St) (K : Ex → St → Option R) : V C p c st K = match c with
  | .skip => K .nrm st
  | .region _ ops false => Zij C ops ops.toList st fun st' => K .nrm st'
  | .region _ ops true => Zur C ops st fun st' => K .nrm st'
  | .seq a b => V C p.l a st fun e st' => match e with
   | .nrm => V C p.r b st' K
   | e => K e st'
  | .cond x a b => match x with
   | .tmp t => Zzm 1 t st fun st' => match st'.tmp t with
    | .one (.kb true) => V C p.l a st' K
    | .one (.kb false) => V C p.r b st' K
    | _ => none
   | .const (.bool true) => V C p.l a st K
   | .const (.bool false) => V C p.r b st K
   | _ => none
  | .block id a => V C p.o a st fun e st' => match e with
   | .exit j => bif Nat.beq j id then K .nrm st' else K (.exit j) st'
   | e => K e st'
  | .exit id => K (.exit id) st
  | .ret => K .ret st
  | _ => none := by
 cases p with
 | sum s => exact absurd rfl (hp s)
 | auto => cases c <;> first | rfl | (rename_i draw; cases draw <;> rfl)
 | two p q => cases c <;> first | rfl | (rename_i draw; cases draw <;> rfl)
 | one p => cases c <;> first | rfl | (rename_i draw; cases draw <;> rfl)
theorem Znv {p : Plan} (hp : ∀ s, p ≠ .sum s) (c : Code) (h : Zhf P C p c) : match c with
  | .seq a b => Zhf P C p.l a ∧ Zhf P C p.r b
  | .cond _ a b => Zhf P C p.l a ∧ Zhf P C p.r b
  | .block _ a => Zhf P C p.o a
  | _ => True := by
 cases p with
 | sum s => exact absurd rfl (hp s)
 | auto => cases c <;> first | exact h | trivial
 | two p q => cases c <;> first | exact h | trivial
 | one p => cases c <;> first | exact h | trivial
theorem Zin (H : CtxOk P C) : ∀ (c : Code) {p : Plan} {ρ : Rho} {st : St} {a : Act} {w : World} {K : Ex → St → Option R}, Zhf P C p c → Rel X ρ st a w → V C p c st K = some r → Zqq P c a w X ρ st K r := by
 intro c
 induction c with
 | skip =>
  intro p ρ st a w K hp h hr
  by_cases hs : ∃ s, p = .sum s
  ·obtain ⟨s, rfl⟩ := hs; exact hp R X ρ st a w K r h hr
  ·rw [Z0j (fun s e => hs ⟨s, e⟩)] at hr
   exact fun Q hq => wp_skip (hq .nrm ρ st a w hr h (Ext.refl _ _) rfl (Zge.refl _ _))
 | region id ops draw =>
  intro p ρ st a w K hp h hr
  by_cases hs : ∃ s, p = .sum s
  ·obtain ⟨s, rfl⟩ := hs; exact hp R X ρ st a w K r h hr
  ·rw [Z0j (fun s e => hs ⟨s, e⟩)] at hr
   cases draw with
   | true =>
    intro Q hq
    refine Zf7 H h hr Q ?_
    intro ρ' st' a' w' k1 k2 k3 k4 k5
    exact hq .nrm ρ' st' a' w' k1 k2 k3 k4 k5
   | false =>
    intro Q hq
    refine wp_region_list (Zmt H ops ops.toList h hr Q ?_)
    intro ρ' st' a' w' k1 k2 k3 k4 k5
    exact hq .nrm ρ' st' a' w' k1 k2 k3 k4 k5
 | seq x y ihx ihy =>
  intro p ρ st a w K hp h hr
  by_cases hs : ∃ s, p = .sum s
  ·obtain ⟨s, rfl⟩ := hs; exact hp R X ρ st a w K r h hr
  ·have hs' : ∀ s, p ≠ .sum s := fun s e => hs ⟨s, e⟩
   rw [Z0j hs'] at hr
   obtain ⟨hp1, hp2⟩ := Znv hs' _ hp
   intro Q hq
   refine wp_seq (ihx hp1 h hr _ ?_)
   intro e ρ1 st1 a1 w1 k1 k2 k3 k4 k5
   have k5' : Zge (Zmd (.seq x y)) a a1 := k5.mono fun i hi => List.mem_append_left _ hi
   cases e with
   | nrm =>
    refine ihy hp2 k2 k1 Q ?_
    intro e2 ρ2 st2 a2 w2 m1 m2 m3 m4 m5
    exact hq e2 ρ2 st2 a2 w2 m1 m2 (k3.trans m3) (m4.trans k4) (k5'.trans (m5.mono fun i hi => List.mem_append_right _ hi))
   | exit id => exact hq _ ρ1 st1 a1 w1 k1 k2 k3 k4 k5'
   | ret => exact hq _ ρ1 st1 a1 w1 k1 k2 k3 k4 k5'
 | cond x t e iht ihe =>
  intro p ρ st a w K hp h hr
  by_cases hs : ∃ s, p = .sum s
  ·obtain ⟨s, rfl⟩ := hs; exact hp R X ρ st a w K r h hr
  ·have hs' : ∀ s, p ≠ .sum s := fun s e => hs ⟨s, e⟩
   rw [Z0j hs'] at hr
   obtain ⟨hp1, hp2⟩ := Znv hs' _ hp
   have goT : ∀ {st1 : St}, Rel X ρ st1 a w → st1.n = st.n → V C p.l t st1 K = some r → a.eval x = .bool true → Zqq P (.cond x t e) a w X ρ st K r := by
    intro st1 h1 n1 hr1 hx Q hq
    refine wp_cond_true hx (iht hp1 h1 hr1 Q ?_)
    intro e2 ρ2 st2 a2 w2 m1 m2 m3 m4 m5
    exact hq e2 ρ2 st2 a2 w2 m1 m2 m3 (m4.trans n1) (m5.mono fun i hi => List.mem_append_left _ hi)
   have goF : ∀ {st1 : St}, Rel X ρ st1 a w → st1.n = st.n → V C p.r e st1 K = some r → a.eval x = .bool false → Zqq P (.cond x t e) a w X ρ st K r := by
    intro st1 h1 n1 hr1 hx Q hq
    refine wp_cond_false hx (ihe hp2 h1 hr1 Q ?_)
    intro e2 ρ2 st2 a2 w2 m1 m2 m3 m4 m5
    exact hq e2 ρ2 st2 a2 w2 m1 m2 m3 (m4.trans n1) (m5.mono fun i hi => List.mem_append_right _ hi)
   dsimp only at hr
   split at hr
   ·rename_i tt
    obtain ⟨st1, hr1, h1, n1⟩ := Zku 1 tt h hr
    have ht := h1.tmp tt
    split at hr1
    ·rename_i hb
     rw [hb] at ht
     refine goT h1 n1 hr1 ?_
     rcases ht with ht | ⟨_, _, _, e, _⟩
     ·exact ht
     ·cases e
    ·rename_i hb
     rw [hb] at ht
     refine goF h1 n1 hr1 ?_
     rcases ht with ht | ⟨_, _, _, e, _⟩
     ·exact ht
     ·cases e
    ·cases hr1
   ·exact goT h rfl hr rfl
   ·exact goF h rfl hr rfl
   ·cases hr
 | block id x ih =>
  intro p ρ st a w K hp h hr
  by_cases hs : ∃ s, p = .sum s
  ·obtain ⟨s, rfl⟩ := hs; exact hp R X ρ st a w K r h hr
  ·have hs' : ∀ s, p ≠ .sum s := fun s e => hs ⟨s, e⟩
   rw [Z0j hs'] at hr
   have hp1 := Znv hs' _ hp
   intro Q hq
   refine wp_block (ih hp1 h hr _ ?_)
   intro e ρ1 st1 a1 w1 k1 k2 k3 k4 k5
   cases e with
   | nrm => exact hq .nrm ρ1 st1 a1 w1 k1 k2 k3 k4 k5
   | ret => exact hq .ret ρ1 st1 a1 w1 k1 k2 k3 k4 k5
   | exit j =>
    replace k1 : (bif Nat.beq j id then K .nrm st1 else K (.exit j) st1) = some r := k1
    show (if j = id then Q .normal a1 w1 else Q (.exit j) a1 w1)
    cases hj : Nat.beq j id with
    | true =>
     rw [hj] at k1
     rw [if_pos (Nat.eq_of_beq_eq_true hj)]
     exact hq .nrm ρ1 st1 a1 w1 k1 k2 k3 k4 k5
    | false =>
     rw [hj] at k1
     rw [if_neg (Nat.ne_of_beq_eq_false hj)]
     exact hq (.exit j) ρ1 st1 a1 w1 k1 k2 k3 k4 k5
 | exit id =>
  intro p ρ st a w K hp h hr
  by_cases hs : ∃ s, p = .sum s
  ·obtain ⟨s, rfl⟩ := hs; exact hp R X ρ st a w K r h hr
  ·rw [Z0j (fun s e => hs ⟨s, e⟩)] at hr
   exact fun Q hq => wp_exit (hq (.exit id) ρ st a w hr h (Ext.refl _ _) rfl (Zge.refl _ _))
 | ret =>
  intro p ρ st a w K hp h hr
  by_cases hs : ∃ s, p = .sum s
  ·obtain ⟨s, rfl⟩ := hs; exact hp R X ρ st a w K r h hr
  ·rw [Z0j (fun s e => hs ⟨s, e⟩)] at hr
   exact fun Q hq => wp_ret (hq .ret ρ st a w hr h (Ext.refl _ _) rfl (Zge.refl _ _))
 | loop x ih =>
  intro p ρ st a w K hp h hr
  by_cases hs : ∃ s, p = .sum s
  ·obtain ⟨s, rfl⟩ := hs; exact hp R X ρ st a w K r h hr
  ·rw [Z0j (fun s e => hs ⟨s, e⟩)] at hr
   cases hr
 | rangeFunc f ps x y ihx ihy =>
  intro p ρ st a w K hp h hr
  by_cases hs : ∃ s, p = .sum s
  ·obtain ⟨s, rfl⟩ := hs; exact hp R X ρ st a w K r h hr
  ·rw [Z0j (fun s e => hs ⟨s, e⟩)] at hr
   cases hr
 | scope x ih =>
  intro p ρ st a w K hp h hr
  by_cases hs : ∃ s, p = .sum s
  ·obtain ⟨s, rfl⟩ := hs; exact hp R X ρ st a w K r h hr
  ·rw [Z0j (fun s e => hs ⟨s, e⟩)] at hr
   cases hr
 | label l =>
  intro p ρ st a w K hp h hr
  by_cases hs : ∃ s, p = .sum s
  ·obtain ⟨s, rfl⟩ := hs; exact hp R X ρ st a w K r h hr
  ·rw [Z0j (fun s e => hs ⟨s, e⟩)] at hr
   cases hr
 | goto l =>
  intro p ρ st a w K hp h hr
  by_cases hs : ∃ s, p = .sum s
  ·obtain ⟨s, rfl⟩ := hs; exact hp R X ρ st a w K r h hr
  ·rw [Z0j (fun s e => hs ⟨s, e⟩)] at hr
   cases hr
 | refuse y =>
  intro p ρ st a w K hp h hr
  by_cases hs : ∃ s, p = .sum s
  ·obtain ⟨s, rfl⟩ := hs; exact hp R X ρ st a w K r h hr
  ·rw [Z0j (fun s e => hs ⟨s, e⟩)] at hr
   cases hr
end
end Go.Proofs.YtfbancgdmghnkaaGreatDoorE
namespace Go.Proofs.YtfbancgdmghnkaaGreatDoorE
open Go Go.RowKit
set_option linter.unusedVariables false
theorem Zdu : ∀ t : Ty, ∃ h, Ty.same t t = some h
 | .int k => ⟨⟨rfl⟩, by simp [Ty.same]⟩
 | .bool => ⟨⟨rfl⟩, rfl⟩
 | .str => ⟨⟨rfl⟩, rfl⟩
 | .unit => ⟨⟨rfl⟩, rfl⟩
 | .sl r => by obtain ⟨h, e⟩ := Zdu r; exact ⟨⟨rfl⟩, by simp [Ty.same, e]⟩
 | .pair a b => by
  obtain ⟨h, e⟩ := Zdu a
  obtain ⟨h', e'⟩ := Zdu b
  exact ⟨⟨rfl⟩, by simp [Ty.same, e, e']⟩
theorem Z34 {t : Ty} {d : DV} {x : t.T} (h : d.asx t = some x) : d = .mk t x := by
 cases d with
 | mk t' y =>
  replace h : (match Ty.same t' t with
   | some h => some (h.down ▸ y : t.T)
   | none => none) = some x := h
  split at h
  ·rename_i e _
   have e' := e.down
   subst e'
   cases h
   rfl
  ·cases h
theorem Zcn {r' r : Ty} {l : List r'.T} {m : List r.T} (h : Zxi l = some m) : ∃ e : r' = r, m = (e ▸ l : List r.T) := by
 unfold Zxi at h
 split at h
 ·rename_i e _
  cases h
  exact ⟨e.down, rfl⟩
 ·cases h
theorem Zgq : ∀ {ts : List Ty} {ds : List DV} {x : Za ts}, Zxk ts ds = some x → Zif ts x = ds
 | [], [], _, _ => rfl
 | [t], [d], x, h => by rw [Z34 (show d.asx t = some x from h)]; rfl
 | t :: t' :: ts, d :: ds, x, h => by
  unfold Zxk at h
  split at h
  ·rename_i a b ha hb
   cases h
   show DV.mk t a :: Zif (t' :: ts) b = _
   rw [Zgq hb, Z34 ha]
  ·cases h
 | [], _ :: _, _, h => by cases h
 | [t], [], _, h => by cases h
 | [t], _ :: _ :: _, _, h => by simp [Zxk] at h
 | _ :: _ :: _, [], _, h => by cases h
section
variable {P : Program} {X : Nat → Prop} {ρ ρ' : Rho} {st st' : St} {a : Act} {w w' : World} {R : Type} {r : R} {C : Ctx}
def Z2j (X : Nat → Prop) (ρ : Rho) (w : World) (ns : List Nat) (b : Nat) : Prop := Fix X ρ w b ∨ ∃ n ∈ ns, owns (ρ n) b
theorem Z2z (h : Rel X ρ st a w) {t : Ty} {x : Leaf} {v : Value} {y : t.T} {ns : List Nat} (hx : Zzc X ρ w x v) (hs : Zio st t x = some (y, ns)) : Rep w (Z2j X ρ w ns) t y [v] := by
 have plain : ∀ {t : Ty} {x : Leaf} {y : t.T}, Zzc X ρ w x v → Zvh t [x] = some y → Rep w (Z2j X ρ w []) t y [v] := fun hx hu =>
  Rep.move (fun b hb => ⟨rfl, .inl hb⟩) (Z8o (cs := [v]) hu ⟨hx, trivial⟩)
 have Zgl : ∀ {t : Ty} {y : t.T} {ns : List Nat}, (match Zvh t [x] with | some y => some (y, []) | none => none) = some (y, ns) → Rep w (Z2j X ρ w ns) t y [v] := by
  intro t y ns hs
  split at hs
  ·rename_i z hz
   cases hs
   exact plain hx hz
  ·cases hs
 cases t with
 | int k => exact Zgl hs
 | bool => exact Zgl hs
 | str => exact Zgl hs
 | pair p q => exact Zgl hs
 | unit => exact Zgl hs
 | sl r =>
  replace hs : Zfp st r x = some (y, ns) := hs
  unfold Zfp at hs
  split at hs
  ·rename_i n
   have h0 := h.ents n
   have hx2 := hx.2
   unfold Zny at hs
   split at hs
   ·rename_i z e rt l he
    rw [he] at h0
    obtain ⟨u, hu, h0⟩ := h0
    rw [hu] at hx2
    have hx2 : v = u := hx2
    subst hx2
    cases hm : Z9 e with
    | true => rw [hm] at hs; cases hs
    | false =>
    rw [hm] at hs
    simp only [cond_false] at hs
    split at hs
    ·rename_i l2 hl2
     cases hs
     obtain ⟨ee, rfl⟩ := Zcn hl2
     refine Zkt ee ?_
     rcases h0.slice hm with ⟨rfl, rfl⟩ | ⟨gb, cap, cs, fr, rfl, hh, hun, _, hlc, hsz, hrow⟩
     ·exact ⟨none, 0, rfl, Nat.le_refl _, .inl rfl⟩
     ·refine ⟨_, cap, rfl, hlc, .inr ⟨gb, 0, rfl, .inr ⟨n, List.mem_singleton.2 rfl, by rw [hu]; rfl⟩, ?_⟩⟩
      intro j z hj
      refine ⟨_, ?_, Rep.move (fun b hb => ⟨rfl, .inl hb⟩) (hrow j z hj)⟩
      intro i q hq
      rw [cell_of_row w gb _ cs _ fr hh]
      rw [Zoi] at hq
      split at hq
      ·rw [Nat.zero_add]
       simpa using hq
      ·cases hq
    ·cases hs
   ·rename_i rt l he
    rw [he] at h0
    obtain ⟨u, hu, h0⟩ := h0
    rw [hu] at hx2
    have hx2 : v = u := hx2
    subst hx2
    split at hs
    ·rename_i l2 hl2
     cases hs
     obtain ⟨e, rfl⟩ := Zcn hl2
     exact Zkt e (Rep.move (fun b hb => ⟨rfl, .inl hb⟩) h0)
    ·cases hs
   ·cases hs
  ·split at hs
   ·rename_i l hl
    cases hs
    exact plain hx hl
   ·cases hs
theorem Z14 {F : Nat → Prop} {t : Ty} {y : t.T} {cs : List Value} (h : Rep w F t y cs) : Z0d w F (fun _ => False) (Zcb t y) cs := by
 induction t generalizing cs with
 | int k => cases h; exact ⟨rfl, trivial⟩
 | bool => cases h; exact ⟨rfl, trivial⟩
 | str => cases h; exact ⟨rfl, trivial⟩
 | sl r ih =>
  obtain ⟨A, c, rfl, h⟩ := h
  exact ⟨⟨A, c, rfl, h⟩, trivial⟩
 | pair p q ihp ihq =>
  obtain ⟨c1, c2, rfl, h1, h2⟩ := h
  have a1 := ihp h1
  have a2 := ihq h2
  clear ihp ihq h1 h2
  show Z0d w F (fun _ => False) (Zcb p y.1 ++ Zcb q y.2) (c1 ++ c2)
  generalize Zcb p y.1 = xs at a1
  induction xs generalizing c1 with
  | nil =>
   cases c1 with
   | nil => exact a2
   | cons _ _ => exact a1.elim
  | cons x xs ih =>
   cases c1 with
   | nil => exact a1.elim
   | cons c c1 => exact ⟨a1.1, ih c1 a1.2⟩
 | unit => cases h; trivial
theorem Zi0 {F : Nat → Prop} : ∀ {xs : List Leaf} {vs : List Value}, Z0d w F (fun _ => False) xs vs → Z5h w F (xs.map .leaf) vs []
 | [], [], _ => rfl
 | _ :: _, _ :: _, h => ⟨h.1, Zi0 h.2⟩
 | [], _ :: _, h => h.elim
 | _ :: _, [], h => h.elim
theorem Z5h.append {F : Nat → Prop} : ∀ {xs ys : List RL} {us vs : List Value} {O1 O2 : List Conc}, Z5h w F xs us O1 → Z5h w F ys vs O2 → Z5h w F (xs ++ ys) (us ++ vs) (O1 ++ O2)
 | [], ys, [], vs, O1, O2, h, k => by
  obtain rfl : O1 = [] := h
  exact k
 | .leaf x :: xs, ys, u :: us, vs, O1, O2, h, k => ⟨h.1, Z5h.append h.2 k⟩
 | .own e r l :: xs, ys, u :: us, vs, o :: O1, O2, h, k => ⟨h.1, h.2.1, Z5h.append h.2.2 k⟩
 | .own _ _ _ :: _, _, _ :: _, _, [], _, h, _ => h.elim
 | [], _, _ :: _, _, _, _, h, _ => h.elim
 | .leaf _ :: _, _, [], _, _, _, h, _ => h.elim
 | .own _ _ _ :: _, _, [], _, _, _, h, _ => h.elim
def Zrn (X : Nat → Prop) (ρ : Rho) (w : World) (d : DR) (xs : List RL) (vs : List Value) (O : List Conc) : Prop :=
 (∀ F : Nat → Prop, (∀ b, Z2j X ρ w d.pures b → F b) → Z5h w F xs vs O) ∧ ((O.filterMap cb).Sublist (d.owns.filterMap fun n => cbO (ρ n))) ∧
  (∀ u ∈ O, ∀ b, cb u = some b → ∃ n ∈ d.owns, owns (ρ n) b) ∧ ∀ n ∈ d.owns ++ d.pures, ∃ u, ρ n = some (.row u)
theorem Z2p {t : Ty} {x : Leaf} {y : t.T} {ns : List Nat} (hs : (match Zvh t [x] with | some y => some (y, []) | none => none) = some (y, ns)) : ∀ n ∈ ns, ∃ u, ρ n = some (.row u) := by
 split at hs
 ·cases hs
  intro m hm
  cases hm
 ·cases hs
theorem Z66 (h : Rel X ρ st a w) {t : Ty} {x : Leaf} {y : t.T} {ns : List Nat} (hs : Zio st t x = some (y, ns)) : ∀ n ∈ [] ++ ns, ∃ u, ρ n = some (.row u) := by
 rw [List.nil_append]
 cases t with
 | sl r =>
  replace hs : Zfp st r x = some (y, ns) := hs
  unfold Zfp at hs
  split at hs
  ·rename_i n
   have h0 := h.ents n
   unfold Zny at hs
   split at hs
   ·rename_i z e rt l he
    rw [he] at h0
    obtain ⟨u, hu, h0⟩ := h0
    cases hme : Z9 e with
    | true => rw [hme] at hs; cases hs
    | false =>
    rw [hme] at hs
    simp only [cond_false] at hs
    split at hs
    ·cases hs
     intro m hm
     rw [List.mem_singleton.1 hm]
     exact ⟨u, hu⟩
    ·cases hs
   ·split at hs
    ·cases hs
     intro m hm
     cases hm
    ·cases hs
   ·cases hs
  ·split at hs
   ·cases hs
    intro m hm
    cases hm
   ·cases hs
 | int k => exact Z2p hs
 | bool => exact Z2p hs
 | str => exact Z2p hs
 | pair p q => exact Z2p hs
 | unit => exact Z2p (t := .unit) (x := x) hs
theorem Z2j.mono {ns ms : List Nat} (h : ∀ n ∈ ns, n ∈ ms) {b : Nat} (k : Z2j X ρ w ns b) : Z2j X ρ w ms b := k.imp id fun ⟨n, h1, h2⟩ => ⟨n, h n h1, h2⟩
theorem Ziab (h : Rel X ρ st a w) {k : RK} {x : Leaf} {v : Value} {d : DR} (hx : Zzc X ρ w x v) (hs : Ze4 st k x = some d) (ds : List DV) :
  ∃ O, Zrn X ρ w d (Zyc [k] (d.ds ++ ds)).1 [v] O ∧ ∀ ks, Zyc (k :: ks) (d.ds ++ ds) = ((Zyc [k] (d.ds ++ ds)).1 ++ (Zyc ks ds).1, (Zyc ks ds).2) := by
 cases k with
 | v t =>
  replace hs : Zcz st t x = some d := hs
  unfold Zcz at hs
  split at hs
  ·rename_i y ns hy
   cases hs
   refine ⟨[], ⟨fun F hF => ?_, List.Sublist.refl _, (fun u hu => nomatch hu), Z66 h hy⟩, fun ks => ?_⟩
   ·have hrep := Z2z h hx hy
    have := Zi0 (Z14 (Rep.move (fun b hb => ⟨rfl, hF b hb⟩) hrep))
    show Z5h w F ((Zcb t y).map .leaf ++ []) [v] []
    rw [List.append_nil]
    exact this
   ·show ((Zcb t y).map RL.leaf ++ (Zyc ks ds).1, (Zyc ks ds).2) = ((Zcb t y).map RL.leaf ++ [] ++ (Zyc ks ds).1, (Zyc ks ds).2)
    rw [List.append_nil]
  ·cases hs
 | own e r =>
  replace hs : Zyt st e r x = some d := hs
  unfold Zyt at hs
  split at hs
  ·rename_i n
   have h0 := h.ents n
   have hx2 := hx.2
   split at hs
   ·rename_i e' rt l he
    rw [he] at h0
    obtain ⟨u, hu, h0⟩ := h0
    rw [hu] at hx2
    have hx2 : v = u := hx2
    subst hx2
    split at hs
    ·rename_i l2 hl2
     cases hee : Nat.beq e e' with
     | false => rw [hee] at hs; cases hs
     | true =>
      rw [hee] at hs
      cases hs
      obtain rfl := Nat.eq_of_beq_eq_true hee
      obtain ⟨ee, rfl⟩ := Zcn hl2
      refine ⟨[.row v], ⟨fun F hF => ?_, ?_, ?_, fun n' hn' => by rw [List.mem_singleton.1 hn']; exact ⟨v, hu⟩⟩, fun ks => rfl⟩
      ·refine ⟨rfl, ?_, rfl⟩
       have hm := Zcd.mono (F' := F) (fun b hb => hF b (.inl hb)) h0
       subst ee
       exact hm
      ·simp only [List.filterMap_cons, List.filterMap_nil, hu, cbO, cb, Option.bind_some]
       exact List.Sublist.refl _
      ·intro q hq b hb
       rw [List.mem_singleton.1 hq] at hb
       exact ⟨n, List.mem_singleton.2 rfl, by rw [hu]; exact hb⟩
    ·cases hs
   ·cases hs
  ·cases hm : Z9 e with
   | true => rw [hm] at hs; cases hs
   | false =>
   rw [hm] at hs
   cases hs
   have hx : v = .slice none 0 0 := hx
   subst hx
   refine ⟨[.row (.slice none 0 0)], ⟨fun F hF => ⟨rfl, Zdd.ok (.inl ⟨rfl, rfl⟩) hm, rfl⟩, ?_, ?_, fun n' hn' => nomatch hn'⟩, fun ks => rfl⟩
   ·simp [cb, Zoe]
   ·intro q hq b hb
    rw [List.mem_singleton.1 hq] at hb
    cases hb
  ·cases hs
theorem Zm3 {d : DR} {xs : List RL} {vs : List Value} {O : List Conc} (h : Zrn X ρ w d xs vs O) {d2 : DR} (h1 : ∀ n ∈ d.pures, n ∈ d2.pures) {F : Nat → Prop} (hF : ∀ b, Z2j X ρ w d2.pures b → F b) : Z5h w F xs vs O := h.1 F fun b hb => hF b (hb.mono h1)
theorem Zoz {d1 d2 : DR} (h : ∀ n ∈ d1.owns ++ d1.pures, ∃ u, ρ n = some (.row u)) (k : ∀ n ∈ d2.owns ++ d2.pures, ∃ u, ρ n = some (.row u)) : ∀ n ∈ (d1.app d2).owns ++ (d1.app d2).pures, ∃ u, ρ n = some (.row u) := by
 intro n hn
 rcases List.mem_append.1 hn with hn | hn
 ·rcases List.mem_append.1 (show n ∈ d1.owns ++ d2.owns from hn) with hn | hn
  ·exact h n (List.mem_append_left _ hn)
  ·exact k n (List.mem_append_left _ hn)
 ·rcases List.mem_append.1 (show n ∈ d1.pures ++ d2.pures from hn) with hn | hn
  ·exact h n (List.mem_append_right _ hn)
  ·exact k n (List.mem_append_right _ hn)
theorem Zrn.app {d1 d2 : DR} {xs ys : List RL} {us vs : List Value} {O1 O2 : List Conc} (h : Zrn X ρ w d1 xs us O1) (k : Zrn X ρ w d2 ys vs O2) : Zrn X ρ w (d1.app d2) (xs ++ ys) (us ++ vs) (O1 ++ O2) := by
 refine ⟨fun F hF => (Zm3 h (d2 := d1.app d2) (fun n hn => List.mem_append_left _ hn) hF).append (Zm3 k (d2 := d1.app d2) (fun n hn => List.mem_append_right _ hn) hF), ?_, ?_⟩
 ·rw [List.filterMap_append]
  show List.Sublist _ ((d1.owns ++ d2.owns).filterMap _)
  rw [List.filterMap_append]
  exact h.2.1.append k.2.1
 ·refine ⟨?_, Zoz h.2.2.2 k.2.2.2⟩
  intro u hu b hb
  rcases List.mem_append.1 hu with hu | hu
  ·obtain ⟨n, h1, h2⟩ := h.2.2.1 u hu b hb
   exact ⟨n, List.mem_append_left _ h1, h2⟩
  ·obtain ⟨n, h1, h2⟩ := k.2.2.1 u hu b hb
   exact ⟨n, List.mem_append_right _ h1, h2⟩
theorem Zup (h : Rel X ρ st a w) : ∀ {ks : List RK} {xs : List Leaf} {vs : List Value} {d : DR} (ds : List DV), Zr X ρ w xs vs → Zzl st ks xs = some d → ∃ O, Zrn X ρ w d (Zyc ks (d.ds ++ ds)).1 vs O ∧ (Zyc ks (d.ds ++ ds)).2 = ds
 | [], [], [], d, ds, _, hs => by
  cases hs
  exact ⟨[], ⟨fun F _ => rfl, List.Sublist.refl _, (fun u hu => nomatch hu), fun n hn => nomatch hn⟩, rfl⟩
 | k :: ks, x :: xs, v :: vs, d, ds, hx, hs => by
  unfold Zzl at hs
  split at hs
  ·rename_i d1 d2 h1 h2
   cases hs
   obtain ⟨O1, t1, e1⟩ := Ziab h hx.1 h1 (d2.ds ++ ds)
   obtain ⟨O2, t2, e2⟩ := Zup h ds hx.2 h2
   have e3 : Zyc (k :: ks) ((d1.app d2).ds ++ ds) = ((Zyc [k] (d1.ds ++ (d2.ds ++ ds))).1 ++ (Zyc ks (d2.ds ++ ds)).1, (Zyc ks (d2.ds ++ ds)).2) := by
    rw [← e1 ks, ← List.append_assoc]
    rfl
   rw [e3]
   exact ⟨O1 ++ O2, t1.app t2, e2⟩
  ·cases hs
 | [], _ :: _, _, _, _, _, hs => by cases hs
 | _ :: _, [], _, _, _, _, hs => by cases hs
 | [], [], _ :: _, _, _, h, _ => h.elim
 | _ :: _, _ :: _, [], _, _, h, _ => h.elim
end
end Go.Proofs.YtfbancgdmghnkaaGreatDoorE
namespace Go.Proofs.YtfbancgdmghnkaaGreatDoorE
open Go Go.RowKit
set_option linter.unusedVariables false
section
variable {P : Program} {X : Nat → Prop} {ρ ρ' : Rho} {st st' : St} {a : Act} {w w' : World} {R : Type} {r : R} {C : Ctx}
def Z7q (P : Program) (w : World) (tmps : Array Value) : ResultVar → Value → Prop
 | .tmp t, u => u = tmps.getD t undef
 | .cell p ty, u => ∃ A, tmps.getD p undef = .pointer (some A) ∧ (loadVar ty A).run P w = .ok u w
theorem Zs0 (T : Zxc P C.ti) (h : Rel X ρ st a w) {ag : Bool} {v : ResultVar} {xs : List Leaf} (hs : Z0q C.ti st ag v = some xs) :
  ∃ u, Z7q P w a.tmps v u ∧ Zil X ρ w (ag, xs) u := by
 cases v with
 | tmp t =>
  replace hs : Zgy ag (st.tmp t) = some xs := hs
  have ht := h.tmp t
  refine ⟨Z6 a t, rfl, ?_⟩
  unfold Zgy at hs
  split at hs
  ·rename_i x hx
   rw [hx] at ht
   cases ag with
   | true => cases hs
   | false =>
    cases hs
    rcases ht with ht | ⟨_, _, _, e, _⟩
    ·exact ⟨ht, trivial⟩
    ·cases e
  ·rename_i ys hx
   rw [hx] at ht
   cases ag with
   | false => cases hs
   | true =>
    cases hs
    rcases ht with ht | ⟨_, _, _, e, _⟩
    ·exact ht
    ·cases e
  ·cases hs
 | cell p ty =>
  replace hs : Zsv C.ti st ag ty (st.tmp p) = some xs := hs
  have ht := h.tmp p
  unfold Zsv at hs
  split at hs
  ·rename_i b hb
   rw [hb] at ht
   split at hs
   ·rename_i bt ys he
    have h0 := h.ents b
    rw [he] at h0
    obtain ⟨gb, cs, fr, hρ, hh, hun, hys⟩ := h0
    have ht2 : Z6 a p = .pointer (some ⟨gb, 0, none⟩) := by
     rcases ht with ht | ⟨_, _, _, e, _⟩
     ·have := ht.2
      rw [hρ] at this
      exact this
     ·cases e
    unfold Zy0 at hs
    split at hs
    ·rename_i i hi
     cases hc : ((i.agg == ag) && Nat.beq (bif ag then i.sz else 1) ys.length) with
     | false => rw [hc] at hs; cases hs
     | true =>
      rw [hc] at hs
      cases hs
      obtain ⟨c1, c2⟩ := (Bool.and_eq_true _ _).mp hc
      have c1 : i.agg = ag := by simpa using c1
      have c2 := Nat.eq_of_beq_eq_true c2
      have hlen := hys.len
      have hload : ∀ u, (loadVar ty ⟨gb, 0, none⟩).run P w = .ok u w → Z7q P w a.tmps (.cell p ty) u := fun u hu => ⟨_, ht2, hu⟩
      cases ag with
      | true =>
       refine ⟨.agg cs, hload _ ?_, ⟨cs, rfl, hys⟩⟩
       obtain ⟨q, hq, hq2, _⟩ := (T _ _ hi).info
       obtain ⟨d, hd, hag, _⟩ := (T _ _ hi).und
       refine run_loadVar_row w gb bt ty cs fr d hh hd ?_ ?_
       ·rw [c1] at hag
        rw [hag]
        cases d <;> rfl
       ·rw [hq]
        simp only [Option.map_some, hq2]
        have c2 : i.sz = xs.length := c2
        rw [c2, hlen, Array.length_toList]
      | false =>
       have c2 : 1 = xs.length := c2
       rw [hlen] at c2
       have hcs : ∃ u, cs.toList = [u] := by
        cases hcl : cs.toList with
        | nil => rw [hcl] at c2; cases c2
        | cons u us =>
         cases us with
         | nil => exact ⟨u, rfl⟩
         | cons _ _ => rw [hcl] at c2; simp at c2
       obtain ⟨u, hu⟩ := hcs
       refine ⟨u, hload u ?_, ?_⟩
       ·have hc0 : w.cell? ⟨gb, 0, none⟩ = some u := by
         rw [cell_of_row w gb 0 cs bt fr hh, ← Array.getElem?_toList, hu]
         rfl
        unfold loadVar
        simp only [Sem.run_bind, Zjn (T _ _ hi), Result.andThen_ok, c1]
        simp [hc0]
       ·rw [hu] at hys
        exact hys
    ·cases hs
   ·cases hs
  ·cases hs
def Z5s (P : Program) (w : World) (tmps : Array Value) : List ResultVar → List Value → Prop
 | [], [] => True
 | v :: vs, u :: us => Z7q P w tmps v u ∧ Z5s P w tmps vs us
 | _, _ => False
def Zct (tmps : Array Value) : ResultVar → Sem Value
 | .tmp t => pure (tmps.getD t undef)
 | .cell p t => do loadVar t (← asAddr (tmps.getD p undef))
theorem Zoab {tmps : Array Value} {v : ResultVar} {u : Value} (h : Z7q P w tmps v u) : (Zct tmps v).run P w = .ok u w := by
 cases v with
 | tmp t => rw [show u = _ from h]; rfl
 | cell p ty =>
  obtain ⟨A, h1, h2⟩ := h
  unfold Zct
  simp only [Sem.run_bind, h1, asAddr, Sem.run_pure, Result.andThen_ok, h2]
theorem Zd6 {tmps : Array Value} : ∀ {vs : List ResultVar} {us : List Value}, Z5s P w tmps vs us → (vs.mapM (Zct tmps)).run P w = .ok us w
 | [], [], _ => by simp
 | v :: vs, u :: us, h => by
  rw [List.mapM_cons]
  simp only [Sem.run_bind, Zoab h.1, Result.andThen_ok, Zd6 h.2, Sem.run_pure]
 | [], _ :: _, h => h.elim
 | _ :: _, [], h => h.elim
def Zfr : List Value → Value
 | [u] => u
 | us => .tuple us.toArray
theorem Zn9 {fn : Func} {tmps : Array Value} {us : List Value} (h : Z5s P w tmps fn.results.toList us) :
  (results fn tmps).run P w = .ok (Zfr us) w := by
 have h0 : results fn tmps = (do let vs ← fn.results.mapM (Zct tmps); pure (if h : vs.size = 1 then vs[0] else .tuple vs)) := by
  unfold results
  first
   | rfl
   | (congr 2; funext v; cases v <;> rfl)
 rw [h0, Array.mapM_eq_mapM_toList]
 simp only [Sem.run_bind, Sem.run_map, Zd6 h, Result.andThen_ok, Sem.run_pure]
 congr 1
 match us with
 | [] => rfl
 | [u] => rfl
 | _ :: _ :: _ => rfl
structure ToldC (X : Nat → Prop) (ρ : Rho) (w : World) (d : DR) (bs : List Nat) (ps : List RC) (us : List Value) (O : List Conc) (S : List Nat) : Prop where
 perm : S.Perm (d.owns ++ bs)
 sub : (O.filterMap cb).Sublist (S.filterMap fun n => cbO (ρ n))
 told : ∀ F : Nat → Prop, (∀ b, Z2j X ρ w d.pures b → F b) → Zsn w F ps us O
 rows : ∀ n ∈ d.owns ++ d.pures, ∃ u, ρ n = some (.row u)
 boxes : ∀ n ∈ bs, ∃ g, ρ n = some (.blk g)
structure Told1 (X : Nat → Prop) (ρ : Rho) (w : World) (d : DR) (bs : List Nat) (p : RC) (u : Value) (O : List Conc) (S : List Nat) : Prop where
 perm : S.Perm (d.owns ++ bs)
 sub : (O.filterMap cb).Sublist (S.filterMap fun n => cbO (ρ n))
 told : ∀ F : Nat → Prop, (∀ b, Z2j X ρ w d.pures b → F b) → Zoq w F p u O
 rows : ∀ n ∈ d.owns ++ d.pures, ∃ u, ρ n = some (.row u)
 boxes : ∀ n ∈ bs, ∃ g, ρ n = some (.blk g)
theorem Zi7 (T : Zxc P C.ti) (h : Rel X ρ st a w) {k : SK} {v : ResultVar} {d : DR} {bs : List Nat} (ds : List DV) (hs : Z0z C.ti st v k = some (d, bs)) :
  ∃ u O S p, Z7q P w a.tmps v u ∧ Told1 X ρ w d bs p u O S ∧ ∀ rs, Zme (k :: rs) (d.ds ++ ds) = (p :: (Zme rs ds).1, (Zme rs ds).2) := by
 cases k with
 | val ag ks =>
  replace hs : (match Z0q C.ti st ag v with
   | some xs => match Zzl st ks xs with
    | some d => some (d, [])
    | none => none
   | none => none) = some (d, bs) := hs
  split at hs
  ·rename_i xs hxs
   split at hs
   ·rename_i d' h1
    cases hs
    obtain ⟨u, hu, hc⟩ := Zs0 T h hxs
    unfold Zil at hc
    cases ag with
    | true =>
     obtain ⟨cs, rfl, hc⟩ := hc
     obtain ⟨O1, t1, e1⟩ := Zup h ds hc h1
     refine ⟨_, O1, d.owns, .val true (Zyc ks (d.ds ++ ds)).1, hu, ⟨by simp, t1.2.1, fun F hF => ⟨cs, rfl, t1.1 F hF⟩, t1.2.2.2, fun n hn => nomatch hn⟩, fun rs => ?_⟩
     show (RC.val true (Zyc ks (d.ds ++ ds)).1 :: (Zme rs (Zyc ks (d.ds ++ ds)).2).1, (Zme rs (Zyc ks (d.ds ++ ds)).2).2) = _
     rw [e1]
    | false =>
     obtain ⟨O1, t1, e1⟩ := Zup h ds hc h1
     refine ⟨u, O1, d.owns, .val false (Zyc ks (d.ds ++ ds)).1, hu, ⟨by simp, t1.2.1, fun F hF => t1.1 F hF, t1.2.2.2, fun n hn => nomatch hn⟩, fun rs => ?_⟩
     show (RC.val false (Zyc ks (d.ds ++ ds)).1 :: (Zme rs (Zyc ks (d.ds ++ ds)).2).1, (Zme rs (Zyc ks (d.ds ++ ds)).2).2) = _
     rw [e1]
   ·cases hs
  ·cases hs
 | box tid ks =>
  replace hs : (match Z0q C.ti st false v with
   | some xs => match Zcw st tid xs with
    | some (ys, b) => match Zzl st ks ys with
     | some d => some (d, [b])
     | none => none
    | none => none
   | none => none) = some (d, bs) := hs
  split at hs
  ·rename_i xs hxs
   split at hs
   ·rename_i ys b hb
    split at hs
    ·rename_i d' h1
     cases hs
     obtain ⟨u, hu, hc⟩ := Zs0 T h hxs
     have hc : Zr X ρ w xs [u] := hc
     unfold Zcw at hb
     split at hb
     ·rename_i n
      split at hb
      ·rename_i t zs he
       cases ht : Nat.beq t tid with
       | false => rw [ht] at hb; cases hb
       | true =>
        rw [ht] at hb
        cases hb
        obtain rfl := Nat.eq_of_beq_eq_true ht
        have h0 := h.ents b
        rw [he] at h0
        obtain ⟨gb, cs, fr, hρ, hh, hun, hys⟩ := h0
        have hu2 := hc.1.2
        rw [hρ] at hu2
        obtain rfl : u = .pointer (some ⟨gb, 0, none⟩) := hu2
        obtain ⟨O1, t1, e1⟩ := Zup h ds hys h1
        refine ⟨_, O1 ++ [.blk gb], d.owns ++ [b], .box t (Zyc ks (d.ds ++ ds)).1, hu, ⟨List.Perm.refl _, ?_, fun F hF => ⟨gb, cs, fr, O1, rfl, rfl, hh, hun, t1.1 F hF⟩, t1.2.2.2, fun n hn => ?_⟩, fun rs => ?_⟩
        ·rw [List.filterMap_append, List.filterMap_append]
         refine t1.2.1.append ?_
         have e2 : List.filterMap (fun n => cbO (ρ n)) [b] = [gb] := by simp [hρ, cbO, cb]
         rw [e2]
         exact List.Sublist.refl _
        ·rw [List.mem_singleton.1 hn]; exact ⟨gb, hρ⟩
        ·show (RC.box t (Zyc ks (d.ds ++ ds)).1 :: (Zme rs (Zyc ks (d.ds ++ ds)).2).1, (Zme rs (Zyc ks (d.ds ++ ds)).2).2) = _
         rw [e1]
      ·cases hb
     ·cases hb
    ·cases hs
   ·cases hs
  ·cases hs
theorem Zy3 (T : Zxc P C.ti) (h : Rel X ρ st a w) : ∀ {rs : List SK} {vs : List ResultVar} {d : DR} {bs : List Nat} (ds : List DV), Zcs C.ti st rs vs = some (d, bs) →
  ∃ us O S, Z5s P w a.tmps vs us ∧ ToldC X ρ w d bs (Zme rs (d.ds ++ ds)).1 us O S ∧ (Zme rs (d.ds ++ ds)).2 = ds
 | [], [], d, bs, ds, hs => by
  cases hs
  exact ⟨[], [], [], trivial, ⟨List.Perm.refl _, List.Sublist.refl _, fun F _ => rfl, (fun n hn => nomatch hn), fun n hn => nomatch hn⟩, rfl⟩
 | k :: rs, v :: vs, d, bs, ds, hs => by
  unfold Zcs at hs
  split at hs
  ·rename_i d1 d2 h1 h2
   cases hs
   obtain ⟨us, O2, S2, hus, t2, e2⟩ := Zy3 T h (d := d2.1) (bs := d2.2) ds h2
   obtain ⟨u, O1, S1, p, hu, t1, e1⟩ := Zi7 T h (d := d1.1) (bs := d1.2) (d2.1.ds ++ ds) h1
   have e3 : Zme (k :: rs) ((d1.1.app d2.1).ds ++ ds) = (p :: (Zme rs (d2.1.ds ++ ds)).1, (Zme rs (d2.1.ds ++ ds)).2) := by
    rw [← e1 rs, ← List.append_assoc]
    rfl
   rw [e3]
   refine ⟨u :: us, O1 ++ O2, S1 ++ S2, ⟨hu, hus⟩, ⟨?_, ?_, ?_, Zoz t1.rows t2.rows, ?_⟩, e2⟩
   ·have := t1.perm.append t2.perm
    refine this.trans ?_
    show List.Perm (d1.1.owns ++ d1.2 ++ (d2.1.owns ++ d2.2)) (d1.1.owns ++ d2.1.owns ++ (d1.2 ++ d2.2))
    rw [List.append_assoc, List.append_assoc]
    refine List.Perm.append_left _ ?_
    rw [← List.append_assoc, ← List.append_assoc]
    exact List.Perm.append_right _ List.perm_append_comm
   ·rw [List.filterMap_append, List.filterMap_append]
    exact t1.sub.append t2.sub
   ·exact fun F hF => ⟨O1, O2, rfl, t1.told F fun b hb => hF b (hb.mono fun n hn => List.mem_append_left _ hn), t2.told F fun b hb => hF b (hb.mono fun n hn => List.mem_append_right _ hn)⟩
   ·intro n hn
    rcases List.mem_append.1 hn with hn | hn
    ·exact t1.boxes n hn
    ·exact t2.boxes n hn
  ·cases hs
 | [], _ :: _, _, _, _, hs => by cases hs
 | _ :: _, [], _, _, _, hs => by cases hs
end
end Go.Proofs.YtfbancgdmghnkaaGreatDoorE
namespace Go.Proofs.YtfbancgdmghnkaaGreatDoorE
open Go Go.RowKit
set_option linter.unusedVariables false
section
variable {P : Program} {X : Nat → Prop} {ρ ρ' : Rho} {st st' : St} {a : Act} {w w' : World} {R : Type} {r : R} {C : Ctx} {F B : Nat → Prop}
inductive Canon : Leaf → Leaf → Prop where
 | int (k : IntKind) (n : Int) : Canon (.int k n) (.int k n)
 | bool (b : Bool) : Canon (.bool b) (.bool b)
 | kb (b : Bool) : Canon (.kb b) (.bool b)
 | str (s : Str) : Canon (.str s) (.str s)
 | list (t : Ty) (l : List t.T) : Canon (.list t l) (.list t l)
 | nil (t : Ty) : Canon .nil (.list t [])
inductive Canons : List Leaf → List Leaf → Prop where
 | nil : Canons [] []
 | cons {x y : Leaf} {xs ys : List Leaf} (h : Canon x y) (k : Canons xs ys) : Canons (x :: xs) (y :: ys)
theorem Canons.append {xs ys zs us : List Leaf} (h : Canons xs ys) (k : Canons zs us) : Canons (xs ++ zs) (ys ++ us) := by
 induction h with
 | nil => exact k
 | cons h1 _ ih => exact .cons h1 ih
theorem Z9r : ∀ {t : Ty} {xs ys : List Leaf} {x : t.T}, unl t xs = some (x, ys) → ∃ zs, xs = zs ++ ys ∧ Canons zs (Zcb t x)
 | .int k, xs, ys, x, h => by
  replace h : Z9m k xs = some (x, ys) := h
  unfold Z9m at h
  split at h
  ·split at h
   ·rename_i hk
    subst hk
    cases h
    exact ⟨[_], rfl, .cons (.int _ _) .nil⟩
   ·cases h
  ·cases h
 | .bool, xs, ys, x, h => by
  replace h : Z6m xs = some (x, ys) := h
  unfold Z6m at h
  split at h
  ·cases h; exact ⟨[_], rfl, .cons (.bool _) .nil⟩
  ·cases h; exact ⟨[_], rfl, .cons (.kb _) .nil⟩
  ·cases h
 | .str, xs, ys, x, h => by
  replace h : Z2m xs = some (x, ys) := h
  unfold Z2m at h
  split at h
  ·cases h; exact ⟨[_], rfl, .cons (.str _) .nil⟩
  ·cases h
 | .sl r, xs, ys, x, h => by
  replace h : Z7o r xs = some (x, ys) := h
  unfold Z7o at h
  split at h
  ·split at h
   ·rename_i r' l xs hs _
    cases h
    have e := hs.down
    subst e
    exact ⟨[_], rfl, .cons (.list _ _) .nil⟩
   ·cases h
  ·cases h; exact ⟨[_], rfl, .cons (.nil _) .nil⟩
  ·cases h
 | .pair p q, xs, ys, x, h => by
  unfold unl at h
  split at h
  ·rename_i x1 ys1 h1
   split at h
   ·rename_i y1 zs1 h2
    cases h
    obtain ⟨z1, rfl, c1⟩ := Z9r h1
    obtain ⟨z2, rfl, c2⟩ := Z9r h2
    exact ⟨z1 ++ z2, (List.append_assoc _ _ _).symm, c1.append c2⟩
   ·cases h
  ·cases h
 | .unit, xs, ys, x, h => by
  cases h
  exact ⟨[], rfl, .nil⟩
theorem Z8w {t : Ty} {xs : List Leaf} {x : t.T} (h : Zvh t xs = some x) : Canons xs (Zcb t x) := by
 unfold Zvh at h
 split at h
 ·rename_i y hy
  cases h
  obtain ⟨zs, e, c⟩ := Z9r hy
  rw [List.append_nil] at e
  rw [e]
  exact c
 ·cases h
def PLs (w : World) (F B : Nat → Prop) : List PL → List Leaf → List Value → List Conc → Prop
 | [], [], [], cs => cs = []
 | .v :: ms, x :: xs, v :: vs, cs => Zrf w F (fun _ => False) x v ∧ PLs w F B ms xs vs cs
 | .ro :: ms, x :: xs, v :: vs, cs => Zrf w B (fun _ => False) x v ∧ PLs w F B ms xs vs cs
 | .own e :: ms, .list t l :: xs, v :: vs, c :: cs => c = .row v ∧ Zcd w F false e t v l ∧ PLs w F B ms xs vs cs
 | _, _, _, _ => False
theorem Zgn {x y : Leaf} {v : Value} {B' : Nat → Prop} (c : Canon x y) (h : Zrf w F B x v) : Zrf w F B' y v := by
 cases c with
 | nil t => exact ⟨none, 0, by rw [show v = _ from h]; rfl, Nat.le_refl _, .inl rfl⟩
 | _ => exact h
def Zmp : List GI → List Conc → Prop
 | [], [] => True
 | .row v :: L, .row u :: cs => u = v ∧ Zmp L cs
 | .no :: L, .row u :: cs => Zoe u = none ∧ Zmp L cs
 | _, _ => False
theorem Z8p (hFB : ∀ b, F b → B b) : ∀ {ms : List PL} {cls : List CL} {xs ys : List Leaf} {vs : List Value} {L : List GI}, Z3i ms cls = some xs → Canons xs ys → VLs w F B cls vs L →
  ∃ cs, PLs w F B ms ys vs cs ∧ cs.filterMap cb = GI.blocks L ∧ Zmp L cs
 | [], [], xs, ys, vs, L, h, c, k => by
  cases h
  cases c
  cases vs with
  | nil => obtain rfl : L = [] := k; exact ⟨[], rfl, rfl, trivial⟩
  | cons _ _ => exact k.elim
 | m :: ms, cl :: cls, xs, ys, vs, L, h, c, k => by
  unfold Z3i at h
  split at h
  ·rename_i x xs' hx hxs
   cases h
   cases c with
   | cons c1 c2 =>
    rename_i y ys
    match cl, vs, L, k with
    | .leaf z, v :: vs, L, k =>
     obtain ⟨cs, i1, i2, i3⟩ := Z8p hFB hxs c2 k.2
     cases m with
     | v =>
      refine ⟨cs, ⟨?_, i1⟩, i2, i3⟩
      cases z with
      | bor t l => cases hx
      | _ => cases hx; exact Zgn c1 k.1
     | ro =>
      refine ⟨cs, ⟨?_, i1⟩, i2, i3⟩
      cases z with
      | bor t l => cases hx; exact Zgn c1 (show Zrf w B B (.list t l) v from k.1)
      | _ => cases hx; exact Zgn c1 (k.1.mono hFB fun b hb => hb)
     | own e => cases hx
    | .row e' t l, v :: vs, .row u :: L, ⟨h1, h2, h3⟩ =>
     obtain ⟨cs, i1, i2, i3⟩ := Z8p hFB hxs c2 h3
     cases m with
     | v => cases hx
     | ro => cases hx
     | own e =>
      cases he : Nat.beq e e' with
      | false =>
       replace hx : (bif Nat.beq e e' then some (Leaf.list t l) else none) = some x := hx
       rw [he] at hx; cases hx
      | true =>
       replace hx : (bif Nat.beq e e' then some (Leaf.list t l) else none) = some x := hx
       rw [he] at hx
       cases hx
       obtain rfl := Nat.eq_of_beq_eq_true he
       cases c1
       subst h1
       refine ⟨.row u :: cs, ⟨rfl, h2, i1⟩, ?_, rfl, i3⟩
       show List.filterMap cb (Conc.row u :: cs) = (Zoe u).toList ++ GI.blocks L
       cases hu : (Zoe u) with
       | none => rw [List.filterMap_cons_none (show cb (.row u) = none from hu), i2]; rfl
       | some b => rw [List.filterMap_cons_some (show cb (.row u) = some b from hu), i2]; rfl
    | .nil, v :: vs, .no :: L, ⟨h1, h3⟩ =>
     obtain ⟨cs, i1, i2, i3⟩ := Z8p hFB hxs c2 h3
     cases m with
     | v => cases hx
     | ro => cases hx
     | own e =>
      cases hm : Z9 e with
      | true =>
       replace hx : (bif Z9 e then none else some Leaf.nil) = some x := hx
       rw [hm] at hx; cases hx
      | false =>
      replace hx : (bif Z9 e then none else some Leaf.nil) = some x := hx
      rw [hm] at hx
      cases hx
      cases c1
      refine ⟨.row v :: cs, ⟨rfl, Zdd.ok (.inl ⟨h1, rfl⟩) hm, i1⟩, ?_, (by rw [h1]; rfl), i3⟩
      rw [List.filterMap_cons_none (show cb (.row v) = none by rw [h1]; rfl), i2]
      rfl
  ·cases h
 | [], _ :: _, _, _, _, _, h, _, _ => by cases h
 | _ :: _, [], _, _, _, _, h, _, _ => by cases h
theorem Zxs (hFB : ∀ b, F b → B b) : ∀ {ms : List PL} {cls : List CL} {xs ys : List Leaf} {vs : List Value} {N : List Value}, Z3i ms cls = some xs → Canons xs ys → MLs w F B cls vs N →
  ∃ cs, PLs w F B ms ys vs cs ∧ cs.filterMap cb = Z8c N
 | [], [], xs, ys, vs, N, h, c, k => by
  cases h
  cases c
  cases vs with
  | nil => obtain rfl : N = [] := k; exact ⟨[], rfl, rfl⟩
  | cons _ _ => exact k.elim
 | m :: ms, cl :: cls, xs, ys, vs, N, h, c, k => by
  unfold Z3i at h
  split at h
  ·rename_i x xs' hx hxs
   cases h
   cases c with
   | cons c1 c2 =>
    rename_i y ys
    match cl, vs, N, k with
    | .leaf z, v :: vs, N, k =>
     obtain ⟨cs, i1, i2⟩ := Zxs hFB hxs c2 k.2
     cases m with
     | v =>
      refine ⟨cs, ⟨?_, i1⟩, i2⟩
      cases z with
      | bor t l => cases hx
      | _ => cases hx; exact Zgn c1 k.1
     | ro =>
      refine ⟨cs, ⟨?_, i1⟩, i2⟩
      cases z with
      | bor t l => cases hx; exact Zgn c1 (show Zrf w B B (.list t l) v from k.1)
      | _ => cases hx; exact Zgn c1 (k.1.mono hFB fun b hb => hb)
     | own e => cases hx
    | .row e' t l, v :: vs, u :: N, ⟨h1, h2, h3⟩ =>
     obtain ⟨cs, i1, i2⟩ := Zxs hFB hxs c2 h3
     cases m with
     | v => cases hx
     | ro => cases hx
     | own e =>
      cases he : Nat.beq e e' with
      | false =>
       replace hx : (bif Nat.beq e e' then some (Leaf.list t l) else none) = some x := hx
       rw [he] at hx; cases hx
      | true =>
       replace hx : (bif Nat.beq e e' then some (Leaf.list t l) else none) = some x := hx
       rw [he] at hx
       cases hx
       obtain rfl := Nat.eq_of_beq_eq_true he
       cases c1
       subst h1
       refine ⟨.row u :: cs, ⟨rfl, h2, i1⟩, ?_⟩
       unfold Z8c
       cases hu : (Zoe u) with
       | none => rw [List.filterMap_cons_none (show cb (.row u) = none from hu), List.filterMap_cons_none hu, i2]; rfl
       | some b => rw [List.filterMap_cons_some (show cb (.row u) = some b from hu), List.filterMap_cons_some hu, i2]; rfl
    | .nil, v :: vs, N, ⟨h1, h3⟩ =>
     obtain ⟨cs, i1, i2⟩ := Zxs hFB hxs c2 h3
     cases m with
     | v => cases hx
     | ro => cases hx
     | own e =>
      cases hm : Z9 e with
      | true =>
       replace hx : (bif Z9 e then none else some Leaf.nil) = some x := hx
       rw [hm] at hx; cases hx
      | false =>
      replace hx : (bif Z9 e then none else some Leaf.nil) = some x := hx
      rw [hm] at hx
      cases hx
      cases c1
      refine ⟨.row v :: cs, ⟨rfl, Zdd.ok (.inl ⟨h1, rfl⟩) hm, i1⟩, ?_⟩
      rw [List.filterMap_cons_none (show cb (.row v) = none by rw [h1]; rfl), i2]
  ·cases h
 | [], _ :: _, _, _, _, _, h, _, _ => by cases h
 | _ :: _, [], _, _, _, _, h, _, _ => by cases h
def Z1i (X : Nat → Prop) (ρ : Rho) (w : World) : List Ent → List Conc → Prop
 | [], [] => True
 | e :: es, c :: cs => Znd X ρ w e (some c) ∧ Z1i X ρ w es cs
 | _, _ => False
theorem Z1i.append : ∀ {es fs : List Ent} {cs ds : List Conc}, Z1i X ρ w es cs → Z1i X ρ w fs ds → Z1i X ρ w (es ++ fs) (cs ++ ds)
 | [], _, [], _, _, k => k
 | _ :: _, _, _ :: _, _, h, k => ⟨h.1, Z1i.append h.2 k⟩
 | [], _, _ :: _, _, h, _ => h.elim
 | _ :: _, _, [], _, h, _ => h.elim
theorem Z1i.len : ∀ {es : List Ent} {cs : List Conc}, Z1i X ρ w es cs → es.length = cs.length
 | [], [], _ => rfl
 | _ :: _, _ :: _, h => congrArg (· + 1) (Z1i.len h.2)
 | [], _ :: _, h => h.elim
 | _ :: _, [], h => h.elim
theorem Zz9 (hF : ∀ b, F b → Fix X ρ w b) {x : Leaf} {v : Value} (h : Zrf w F (fun _ => False) x v) : Zzc X ρ w x v := Zk1 (h.mono hF fun b hb => hb)
theorem Zu3 (hB : ∀ b, B b → Brw ρ w b) {x : Leaf} {v : Value} (h : Zrf w B (fun _ => False) x v) : Zzc X ρ w (Z5i x) v := by
 cases x <;> first | exact h | exact h.elim | exact Rep.move (fun b hb => ⟨rfl, hB b hb⟩) h | exact Rep.move (fun b hb => hb.elim) h
theorem Zvq (hF : ∀ b, F b → Fix X ρ w b) (hB : ∀ b, B b → Brw ρ w b) : ∀ {ms : List PL} {xs : List Leaf} {vs : List Value} {cs : List Conc} {nb : Nat}, PLs w F B ms xs vs cs → Zki ρ nb cs →
  Zr X ρ w (Zih ms xs nb).1 vs ∧ Z1i X ρ w (Zih ms xs nb).2 cs
 | [], [], [], cs, nb, h, _ => by
  obtain rfl : cs = [] := h
  exact ⟨trivial, trivial⟩
 | .v :: ms, x :: xs, v :: vs, cs, nb, h, k => by
  obtain ⟨h1, h2⟩ := h
  obtain ⟨i1, i2⟩ := Zvq hF hB (nb := nb) h2 k
  have e : Zih (.v :: ms) (x :: xs) nb = (x :: (Zih ms xs nb).1, (Zih ms xs nb).2) := rfl
  rw [e]
  exact ⟨⟨Zz9 hF h1, i1⟩, i2⟩
 | .ro :: ms, x :: xs, v :: vs, cs, nb, h, k => by
  obtain ⟨h1, h2⟩ := h
  obtain ⟨i1, i2⟩ := Zvq hF hB (nb := nb) h2 k
  have e : Zih (.ro :: ms) (x :: xs) nb = (Z5i x :: (Zih ms xs nb).1, (Zih ms xs nb).2) := rfl
  rw [e]
  exact ⟨⟨Zu3 hB h1, i1⟩, i2⟩
 | .own e :: ms, .list t l :: xs, v :: vs, c :: cs, nb, h, k => by
  obtain ⟨rfl, h1, h2⟩ := h
  obtain ⟨i1, i2⟩ := Zvq hF hB (nb := nb + 1) h2 (fun j u hj => by
   have := k (j + 1) u hj
   rwa [show nb + (j + 1) = nb + 1 + j by omega] at this)
  have e' : Zih (.own e :: ms) (.list t l :: xs) nb = (.own nb :: (Zih ms xs (nb + 1)).1, .arr false e t l :: (Zih ms xs (nb + 1)).2) := rfl
  rw [e']
  refine ⟨⟨⟨Zw6 h1, by rw [show ρ nb = some (.row v) from k 0 _ rfl]⟩, i1⟩, ⟨v, rfl, h1.mono hF⟩, i2⟩
def lty : Leaf → Ty
 | .int k _ => .int k
 | .bool _ => .bool
 | .kb _ => .bool
 | .str _ => .str
 | .list r _ => .sl r
 | _ => .unit
theorem Zsw : ∀ (t : Ty) (x : t.T), Zmb t = (Zcb t x).map lty
 | .int _, _ => rfl
 | .bool, _ => rfl
 | .str, _ => rfl
 | .sl _, _ => rfl
 | .pair a b, x => by
  show Zmb a ++ Zmb b = (Zcb a x.1 ++ Zcb b x.2).map lty
  rw [List.map_append, ← Zsw a x.1, ← Zsw b x.2]
 | .unit, _ => rfl
theorem Zju : ∀ {ms : List PL} {xs : List Leaf} {vs : List Value} {cs : List Conc}, PLs w F B ms xs vs cs → cs.length = (Zdk (xs.map lty) ms).length ∧ ∀ c ∈ cs, ∃ v, c = .row v
 | [], [], [], cs, h => by
  obtain rfl : cs = [] := h
  exact ⟨rfl, fun c hc => nomatch hc⟩
 | .v :: ms, x :: xs, v :: vs, cs, h => by
  obtain ⟨i1, i2⟩ := Zju h.2
  refine ⟨?_, i2⟩
  rw [i1]
  cases x <;> rfl
 | .ro :: ms, x :: xs, v :: vs, cs, h => by
  obtain ⟨i1, i2⟩ := Zju h.2
  refine ⟨?_, i2⟩
  rw [i1]
  cases x <;> rfl
 | .own e :: ms, .list t l :: xs, v :: vs, c :: cs, h => by
  obtain ⟨h1, _, h2⟩ := h
  obtain ⟨i1, i2⟩ := Zju h2
  refine ⟨congrArg (· + 1) i1, fun c' hc => ?_⟩
  rcases List.mem_cons.1 hc with rfl | hc
  ·exact ⟨v, h1⟩
  ·exact i2 c' hc
end
end Go.Proofs.YtfbancgdmghnkaaGreatDoorE
namespace Go.Proofs.YtfbancgdmghnkaaGreatDoorE
open Go Go.RowKit
set_option linter.unusedVariables false
section
variable {P : Program} {X : Nat → Prop} {ρ ρ' : Rho} {st st' : St} {a : Act} {w w' : World} {R : Type} {r : R} {C : Ctx} {F B : Nat → Prop}
theorem Znm : ∀ (L1 L2 : List GI), GI.blocks (L1 ++ L2) = GI.blocks L1 ++ GI.blocks L2
 | [], _ => rfl
 | .blk g :: L, L2 => congrArg (g :: ·) (Znm L L2)
 | .row v :: L, L2 => by
  show (Zoe v).toList ++ GI.blocks (L ++ L2) = ((Zoe v).toList ++ GI.blocks L) ++ GI.blocks L2
  rw [Znm L L2, List.append_assoc]
 | .no :: L, L2 => Znm L L2
theorem Zvs (M N : List Value) : Z8c (M ++ N) = Z8c M ++ Z8c N := List.filterMap_append
theorem Z43 {α : Type} {a b c d e f : List α} (h : List.Perm a (c ++ d)) (k : List.Perm b (e ++ f)) : List.Perm (a ++ b) (c ++ e ++ (d ++ f)) := by
 refine (h.append k).trans ?_
 rw [List.append_assoc, List.append_assoc]
 refine List.Perm.append_left _ ?_
 rw [← List.append_assoc, ← List.append_assoc]
 exact List.Perm.append_right _ List.perm_append_comm
theorem Z0d.split2 {F B : Nat → Prop} : ∀ {xs ys : List Leaf} {vs : List Value}, Z0d w F B (xs ++ ys) vs → ∃ v1 v2, vs = v1 ++ v2 ∧ Z0d w F B xs v1 ∧ Z0d w F B ys v2
 | [], _, vs, h => ⟨[], vs, rfl, trivial, h⟩
 | _ :: _, _, v :: vs, h => by
  obtain ⟨v1, v2, rfl, h1, h2⟩ := Z0d.split2 h.2
  exact ⟨v :: v1, v2, rfl, ⟨h.1, h1⟩, h2⟩
 | _ :: _, _, [], h => h.elim
def Zvj : List (TypeId × Ty × List PL) → List GI → List Conc → Prop
 | [], L, cs => L = [] ∧ cs = []
 | k :: ks, L, cs => if k.1 = roT then Zvj ks L cs else ∃ g rest L' cs', L = .blk g :: L' ∧ cs = .blk g :: rest ++ cs' ∧ rest.length = Zpe (Zmb k.2.1) k.2.2 ∧ Zvj ks L' cs'
def Z8z : PK → List GI → List Conc → Prop
 | .val _ t ms, L, cs => Zmp L cs ∧ cs.length = Zpe (Zmb t) ms
 | .rptr _, L, cs => L = [] ∧ cs = []
 | .ref _ t ms, L, cs => ∃ g rest, L = [.blk g] ∧ cs = .blk g :: rest ∧ rest.length = Zpe (Zmb t) ms
 | .fn _ ks, L, cs => Zvj ks L cs
 | .mv _ _, L, cs => L = [] ∧ ∃ v, cs = [.row v]
def Zdz : List PK → List GI → List Conc → Prop
 | [], L, cs => L = [] ∧ cs = []
 | p :: ps, L, cs => ∃ L1 L2 c1 c2, L = L1 ++ L2 ∧ cs = c1 ++ c2 ∧ Z8z p L1 c1 ∧ Zdz ps L2 c2
theorem Z33 {t : Ty} {x : t.T} {ms : List PL} {vs : List Value} {cs : List Conc} (h : PLs w F B ms (Zcb t x) vs cs) : cs.length = Zpe (Zmb t) ms := by
 unfold Zpe
 rw [Zsw t x]
 exact (Zju h).1
theorem Z63 (hFB : ∀ b, F b → B b) {tid : TypeId} {t : Ty} {ms : List PL} {xs : List CL} {v : Value} {L : List GI} {N : List Value} {d : DV} (h : Z0l w F B tid xs v L N) (hd : dv t (Z3i ms xs) = some d) :
  ∃ (x : t.T) (g : Nat) (cs : List Conc), L = [.blk g] ∧ cs.length = Zpe (Zmb t) ms ∧ d = .mk t x ∧ v = .pointer (some ⟨g, 0, none⟩) ∧ ((Conc.blk g :: cs).filterMap cb).Perm (GI.blocks L ++ Z8c N) ∧
   ∀ (X : Nat → Prop) (ρ : Rho) (nb : Nat), (∀ b, F b → Fix X ρ w b) → (∀ b, B b → Brw ρ w b) → Zki ρ nb (.blk g :: cs) → Z1i X ρ w (Zmj tid ms (Zcb t x) nb) (.blk g :: cs) := by
 obtain ⟨g, cells, fr, rfl, rfl, hh, hu, hm⟩ := h
 unfold dv at hd
 split at hd
 ·rename_i ys hys
  split at hd
  ·rename_i x hx
   cases hd
   obtain ⟨cs, c1, c2⟩ := Zxs hFB hys (Z8w hx) hm
   refine ⟨x, g, cs, rfl, Z33 c1, rfl, rfl, ?_, fun X ρ nb hF hB hr => ?_⟩
   ·rw [List.filterMap_cons_some (show cb (.blk g) = some g from rfl), c2]
    exact List.Perm.refl _
   ·obtain ⟨i1, i2⟩ := Zvq (X := X) hF hB (nb := nb + 1) c1 (fun j u hj => by
     have := hr (j + 1) u hj
     rwa [show nb + (j + 1) = nb + 1 + j by omega] at this)
    exact ⟨⟨g, cells, fr, rfl, hh, hu, i1⟩, i2⟩
  ·cases hd
 ·cases hd
theorem Zzy {F : Nat → Prop} : ∀ {t : Ty} {x : t.T} {cs : List Value}, Z0d w F (fun _ => False) (Zcb t x) cs → Rep w F t x cs
 | .int k, x, [v], h => by rw [show v = _ from h.1]; rfl
 | .bool, x, [v], h => by rw [show v = _ from h.1]; rfl
 | .str, x, [v], h => by rw [show v = _ from h.1]; rfl
 | .sl r, x, [v], h => h.1
 | .unit, x, [], h => rfl
 | .pair p q, x, cs, h => by
  obtain ⟨c1, c2, rfl, h1, h2⟩ := Z0d.split2 (xs := Zcb p x.1) (ys := Zcb q x.2) h
  exact ⟨c1, c2, rfl, Zzy h1, Zzy h2⟩
 | .int _, _, [], h => h.elim
 | .bool, _, [], h => h.elim
 | .str, _, [], h => h.elim
 | .sl _, _, [], h => h.elim
 | .int _, _, _ :: _ :: _, h => h.2.elim
 | .bool, _, _ :: _ :: _, h => h.2.elim
 | .str, _, _ :: _ :: _, h => h.2.elim
 | .sl _, _, _ :: _ :: _, h => h.2.elim
 | .unit, _, _ :: _, h => h.elim
theorem Ztv (hFB : ∀ b, F b → B b) : ∀ {ms : List PL} {xs : List Leaf} {vs : List Value}, PLs w F B ms xs vs [] → Z0d w B (fun _ => False) xs vs
 | [], [], [], _ => trivial
 | .v :: ms, x :: xs, v :: vs, h => ⟨h.1.mono hFB fun b hb => hb, Ztv hFB (ms := ms) h.2⟩
 | .ro :: ms, x :: xs, v :: vs, h => ⟨h.1, Ztv hFB (ms := ms) h.2⟩
 | .own _ :: _, x :: _, _ :: _, h => by cases x <;> exact h.elim
 | .own _ :: _, x :: _, [], h => by cases x <;> exact h.elim
theorem Z2eb (hFB : ∀ b, F b → B b) {t : Ty} {ms : List PL} {xs : List CL} {v : Value} {L : List GI} {N : List Value} {d : DV} (h : Zy2 w F B xs v L N) (hd : dv t (Z3i ms xs) = some d) :
  ∃ x : t.T, L = [] ∧ N = [] ∧ d = .mk t x ∧ ∀ (X : Nat → Prop) (ρ : Rho), (∀ b, B b → Brw ρ w b) → Zzc X ρ w (.rp t x) v := by
 obtain ⟨rfl, rfl, g, o, cells, rfl, hg, hc, hx⟩ := h
 unfold dv at hd
 split at hd
 ·rename_i ys hys
  split at hd
  ·rename_i x hx2
   cases hd
   obtain ⟨cs, c1, c2, c3⟩ := Z8p hFB hys (Z8w hx2) hx
   match cs, c3 with
   | [], _ =>
    refine ⟨x, rfl, rfl, rfl, fun X ρ hB => ⟨g, o, cells, rfl, hB g hg, hc, Rep.move (fun b hb => ⟨rfl, hB b hb⟩) (Zzy (Ztv hFB c1))⟩⟩
  ·cases hd
 ·cases hd
theorem Z99 {tid : TypeId} {t : Ty} {ms : List PL} {ks : List (TypeId × Ty × List PL)} {x : t.T} {ds : List DV} {nb : Nat} (h : tid = roT) : Zpf ((tid, t, ms) :: ks) (.mk t x :: ds) nb = (.rp t x :: (Zpf ks ds nb).1, (Zpf ks ds nb).2) := by
 subst h; rfl
theorem Zacb {tid : TypeId} {t : Ty} {ms : List PL} {ks : List (TypeId × Ty × List PL)} {x : t.T} {ds : List DV} {nb : Nat} (h : tid ≠ roT) :
  Zpf ((tid, t, ms) :: ks) (.mk t x :: ds) nb = (.ptr nb 0 :: (Zpf ks ds (nb + (Zmj tid ms (Zcb t x) nb).length)).1, Zmj tid ms (Zcb t x) nb ++ (Zpf ks ds (nb + (Zmj tid ms (Zcb t x) nb).length)).2) := by
 have e : Nat.beq tid roT = false := by
  cases hb : Nat.beq tid roT with
  | false => rfl
  | true => exact absurd (Nat.eq_of_beq_eq_true hb) h
 have h1 : Zpf ((tid, t, ms) :: ks) (.mk t x :: ds) nb = bif Nat.beq tid roT then (.rp t x :: (Zpf ks ds nb).1, (Zpf ks ds nb).2) else
  (.ptr nb 0 :: (Zpf ks ds (nb + (Zmj tid ms (Zcb t x) nb).length)).1, Zmj tid ms (Zcb t x) nb ++ (Zpf ks ds (nb + (Zmj tid ms (Zcb t x) nb).length)).2) := rfl
 rw [h1, e]
 rfl
theorem Z92 (hFB : ∀ b, F b → B b) : ∀ {ks : List (TypeId × Ty × List PL)} {asx : List (TypeId × List CL)} {vs : List Value} {L : List GI} {N : List Value} {ds : List DV}, Zlj w F B asx vs L N → Zyo ks asx = some ds →
  ∃ cs : List Conc, Zvj ks L cs ∧ (cs.filterMap cb).Perm (GI.blocks L ++ Z8c N) ∧ ds.length = ks.length ∧ ∀ (X : Nat → Prop) (ρ : Rho) (nb : Nat) (es : List DV), (∀ b, F b → Fix X ρ w b) → (∀ b, B b → Brw ρ w b) → Zki ρ nb cs →
   Zr X ρ w (Zpf ks (ds ++ es) nb).1 vs ∧ Z1i X ρ w (Zpf ks (ds ++ es) nb).2 cs
 | [], [], [], L, N, ds, h, hd => by
  obtain ⟨rfl, rfl⟩ := h
  cases hd
  exact ⟨[], ⟨rfl, rfl⟩, List.Perm.refl _, rfl, fun X ρ nb es _ _ _ => ⟨trivial, trivial⟩⟩
 | (tid, t, ms) :: ks, (tid', xs) :: asx, v :: vs, L, N, ds, h, hd => by
  obtain ⟨L1, L2, N1, N2, rfl, rfl, h1, h2⟩ := h
  unfold Zyo at hd
  cases ht : Nat.beq tid tid' with
  | false => rw [ht] at hd; cases hd
  | true =>
   rw [ht] at hd
   obtain rfl := Nat.eq_of_beq_eq_true ht
   replace hd : (match dv t (Z3i ms xs), Zyo ks asx with
    | some x, some ds => some (x :: ds)
    | _, _ => none) = some ds := hd
   split at hd
   ·rename_i d ds' hd1 hd2
    cases hd
    obtain ⟨cs2, z2, p2, l2, q2⟩ := Z92 hFB h2 hd2
    unfold Zbj at h1
    split at h1
    ·rename_i hro
     obtain ⟨x, rfl, rfl, rfl, q1⟩ := Z2eb hFB h1 hd1
     refine ⟨cs2, ?_, p2, congrArg (· + 1) l2, fun X ρ nb es hF hB hr => ?_⟩
     ·show (if tid = roT then Zvj ks L2 cs2 else _)
      rw [if_pos hro]
      exact z2
     ·rw [List.cons_append, Z99 hro]
      obtain ⟨i1, i2⟩ := q2 X ρ nb es hF hB hr
      exact ⟨⟨q1 X ρ hB, i1⟩, i2⟩
    ·rename_i hro
     obtain ⟨x, g, cs1, rfl, n1, rfl, rfl, p1, q1⟩ := Z63 hFB h1 hd1
     refine ⟨(.blk g :: cs1) ++ cs2, ?_, ?_, congrArg (· + 1) l2, fun X ρ nb es hF hB hr => ?_⟩
     ·show (if tid = roT then Zvj ks ([.blk g] ++ L2) ((.blk g :: cs1) ++ cs2) else _)
      rw [if_neg hro]
      exact ⟨g, cs1, L2, cs2, rfl, rfl, n1, z2⟩
     ·rw [List.filterMap_append, Znm, Zvs]
      exact Z43 p1 p2
     ·have b1 := q1 X ρ nb hF hB hr.left
      have hr2 := hr.right
      rw [← b1.len] at hr2
      obtain ⟨i1, i2⟩ := q2 X ρ _ es hF hB hr2
      rw [List.cons_append, Zacb hro]
      have h0 : ρ nb = some (.blk g) := hr 0 _ rfl
      exact ⟨⟨⟨⟨_, rfl⟩, by rw [h0]⟩, i1⟩, b1.append i2⟩
   ·cases hd
 | [], _ :: _, _, _, _, _, _, hd => by cases hd
 | _ :: _, [], _, _, _, _, _, hd => by cases hd
 | [], [], _ :: _, _, _, _, h, _ => h.elim
 | _ :: _, _ :: _, [], _, _, _, h, _ => h.elim
theorem Zq1 {F B : Nat → Prop} : ∀ {xs ys : List Leaf} {vs us : List Value}, Canons xs ys → Z0d w F B xs vs → Z0d w F B ys vs
 | [], _, [], _, c, _ => by cases c; trivial
 | x :: xs, _, v :: vs, us, c, h => by
  cases c with
  | cons c1 c2 => exact ⟨Zgn c1 h.1, Zq1 (us := us) c2 h.2⟩
 | [], _, _ :: _, _, _, h => h.elim
 | _ :: _, _, [], _, _, h => h.elim
theorem Zj5 (hFB : ∀ b, F b → B b) : ∀ {xs : List Leaf} {vs : List Value}, Z0d w F B xs vs → Z0d w B (fun _ => False) (xs.map unB) vs
 | [], [], _ => trivial
 | x :: xs, v :: vs, h => by
  refine ⟨?_, Zj5 hFB h.2⟩
  have h1 := h.1
  cases x with
  | bor t l => exact h1
  | list t l => exact Rep.move (fun b hb => ⟨rfl, hFB b hb⟩) h1
  | _ => exact h1
 | [], _ :: _, h => h.elim
 | _ :: _, [], h => h.elim
theorem Z0d.split {F B : Nat → Prop} : ∀ {xs ys : List Leaf} {vs : List Value}, Z0d w F B (xs ++ ys) vs → ∃ v1 v2, vs = v1 ++ v2 ∧ Z0d w F B xs v1
 | [], _, vs, _ => ⟨[], vs, rfl, trivial⟩
 | _ :: _, _, v :: vs, h => by
  obtain ⟨v1, v2, rfl, h1⟩ := Z0d.split h.2
  exact ⟨v :: v1, v2, rfl, h.1, h1⟩
 | _ :: _, _, [], h => h.elim
theorem Zp3 (hB : ∀ b, B b → Brw ρ w b) : ∀ {xs : List Leaf} {vs : List Value}, Z0d w B (fun _ => False) xs vs → Zr X ρ w (xs.map Z5i) vs
 | [], [], _ => trivial
 | _ :: _, _ :: _, h => ⟨Zu3 hB h.1, Zp3 hB h.2⟩
 | [], _ :: _, h => h.elim
 | _ :: _, [], h => h.elim
theorem Zff.left {g o : Nat} {c1 c2 : List Value} (h : Zff w g o (c1 ++ c2)) : Zff w g o c1 := fun i v hv => h i v (by rw [List.getElem?_append_left (List.getElem?_eq_some_iff.1 hv).1]; exact hv)
theorem Z89 (hFB : ∀ b, F b → B b) {p : PK} {c : CArg} {v : Value} {L : List GI} {N : List Value} {d : List DV} (h : Zol w F B c v L N) (hd : Zvr p c = some d) :
  ∃ cs : List Conc, Z8z p L cs ∧ (cs.filterMap cb).Perm (GI.blocks L ++ Z8c N) ∧ ∀ (ps : List PK) (ds : List DV) (X : Nat → Prop) (ρ : Rho) (nb : Nat), (∀ b, F b → Fix X ρ w b) → (∀ b, B b → Brw ρ w b) → Zki ρ nb cs →
   ∃ av es, Zsh (p :: ps) (d ++ ds) nb = (av :: (Zsh ps ds (nb + cs.length)).1, es ++ (Zsh ps ds (nb + cs.length)).2) ∧ Z8 X ρ w av v ∧ Z1i X ρ w es cs := by
 unfold Zvr at hd
 split at hd
 ·rename_i ag t ms ag' xs
  cases hag : (ag == ag') with
  | false => rw [hag] at hd; cases hd
  | true =>
   rw [hag] at hd
   have hag : ag = ag' := by simpa using hag
   subst hag
   replace hd : (match dv t (Z3i ms xs) with
    | some x => some [x]
    | none => none) = some d := hd
   split at hd
   ·rename_i d' hdv
    cases hd
    unfold dv at hdv
    split at hdv
    ·rename_i ys hys
     split at hdv
     ·rename_i x hx
      cases hdv
      obtain ⟨vs, hv, rfl, hvl⟩ : ∃ vs, (if ag then ∃ cs : Array Value, v = .agg cs ∧ vs = cs.toList else vs = [v]) ∧ N = [] ∧ VLs w F B xs vs L := by
       cases ag with
       | true =>
        obtain ⟨h1, cs, h2, h3⟩ := h
        exact ⟨_, by simp only [if_true]; exact ⟨cs, h2, rfl⟩, h1, h3⟩
       | false => exact ⟨_, rfl, h.1, h.2⟩
      obtain ⟨cs, c1, c2, c3⟩ := Z8p hFB hys (Z8w hx) hvl
      refine ⟨cs, ⟨c3, Z33 c1⟩, ?_, fun ps ds X ρ nb hF hB hr => ?_⟩
      ·rw [c2]
       show List.Perm (GI.blocks L) (GI.blocks L ++ [])
       rw [List.append_nil]
      ·obtain ⟨i1, i2⟩ := Zvq (X := X) hF hB (nb := nb) c1 hr
       refine ⟨mk1 ag (Zih ms (Zcb t x) nb).1, (Zih ms (Zcb t x) nb).2, ?_, Z1y ?_, i2⟩
       ·show (mk1 ag (Zih ms (Zcb t x) nb).1 :: (Zsh ps ds (nb + (Zih ms (Zcb t x) nb).2.length)).1, (Zih ms (Zcb t x) nb).2 ++ (Zsh ps ds (nb + (Zih ms (Zcb t x) nb).2.length)).2) = _
        rw [i2.len]
       ·unfold Zil
        cases ag with
        | true =>
         obtain ⟨ar, rfl, rfl⟩ := hv
         exact ⟨ar, rfl, i1⟩
        | false =>
         obtain rfl : vs = [v] := hv
         exact i1
     ·cases hdv
    ·cases hdv
   ·cases hd
 ·rename_i t xs
  obtain ⟨rfl, rfl, g, o, cells, rfl, hg, hc, hx⟩ := h
  split at hd
  ·rename_i d' hu
   cases hd
   unfold Z13 at hu
   split at hu
   ·rename_i x ys hx2
    cases hu
    obtain ⟨zs, e, c⟩ := Z9r hx2
    have hx3 := Zj5 hFB hx
    rw [e] at hx3
    obtain ⟨v1, v2, rfl, hx4⟩ := hx3.split
    refine ⟨[], ⟨rfl, rfl⟩, List.Perm.refl _, fun ps ds X ρ nb hF hB hr => ⟨.eptr ((Zcb t x).map Z5i), [], rfl, ⟨g, o, v1, rfl, hB g hg, hc.left, Zp3 hB (Zq1 (us := []) c hx4)⟩, trivial⟩⟩
   ·cases hu
  ·cases hd
 ·rename_i tid t ms tid' xs
  cases ht : Nat.beq tid tid' with
  | false => rw [ht] at hd; cases hd
  | true =>
   rw [ht] at hd
   obtain rfl := Nat.eq_of_beq_eq_true ht
   replace hd : (match dv t (Z3i ms xs) with
    | some x => some [x]
    | none => none) = some d := hd
   split at hd
   ·rename_i d' hdv
    cases hd
    obtain ⟨x, g, cs, rfl, n1, rfl, rfl, p1, q1⟩ := Z63 hFB h hdv
    refine ⟨.blk g :: cs, ⟨g, cs, rfl, rfl, n1⟩, p1, fun ps ds X ρ nb hF hB hr => ?_⟩
    have b1 := q1 X ρ nb hF hB hr
    refine ⟨.one (.ptr nb 0), Zmj tid ms (Zcb t x) nb, ?_, ⟨⟨_, rfl⟩, by rw [show ρ nb = some (.blk g) from hr 0 _ rfl]⟩, b1⟩
    show (AV.one (.ptr nb 0) :: (Zsh ps ds (nb + (Zmj tid ms (Zcb t x) nb).length)).1, Zmj tid ms (Zcb t x) nb ++ (Zsh ps ds (nb + (Zmj tid ms (Zcb t x) nb).length)).2) = _
    rw [b1.len]
   ·cases hd
 ·rename_i f ks f' asx
  cases ht : Nat.beq f f' with
  | false => rw [ht] at hd; cases hd
  | true =>
   rw [ht] at hd
   obtain rfl := Nat.eq_of_beq_eq_true ht
   replace hd : Zyo ks asx = some d := hd
   obtain ⟨ar, rfl, hc⟩ := h
   obtain ⟨cs, z1, p1, l1, q1⟩ := Z92 hFB hc hd
   refine ⟨cs, z1, p1, fun ps ds X ρ nb hF hB hr => ?_⟩
   obtain ⟨i1, i2⟩ := q1 X ρ nb ds hF hB hr
   refine ⟨.fn f (Zpf ks (d ++ ds) nb).1, (Zpf ks (d ++ ds) nb).2, ?_, ⟨ar, rfl, i1⟩, i2⟩
   show (AV.fn f (Zpf ks (d ++ ds) nb).1 :: (Zsh ps ((d ++ ds).drop ks.length) (nb + (Zpf ks (d ++ ds) nb).2.length)).1, (Zpf ks (d ++ ds) nb).2 ++ (Zsh ps ((d ++ ds).drop ks.length) (nb + (Zpf ks (d ++ ds) nb).2.length)).2) = _
   rw [i2.len, ← l1, List.drop_left]
 ·rename_i e rt e' rt' l
  cases ht : Nat.beq e e' with
  | false => rw [ht] at hd; cases hd
  | true =>
   rw [ht] at hd
   obtain rfl := Nat.eq_of_beq_eq_true ht
   replace hd : (match dv (.sl rt) (some [.list rt' l]) with
    | some x => some [x]
    | none => none) = some d := hd
   split at hd
   ·rename_i d' hdv
    cases hd
    obtain ⟨rfl, rfl, hrow⟩ := h
    have hds : ∃ hh : rt' = rt, d' = .mk (.sl rt) (hh ▸ l : List rt.T) := by
     unfold dv at hdv
     split at hdv
     ·rename_i zs hzs
      cases hzs
      split at hdv
      ·rename_i x hx
       cases hdv
       unfold Zvh at hx
       split at hx
       ·rename_i y hy
        cases hx
        replace hy : (match Ty.same rt' rt with
         | some h => some ((h.down ▸ l : List rt.T), ([] : List Leaf))
         | none => none) = some (x, []) := hy
        split at hy
        ·rename_i hs _
         cases hy
         exact ⟨hs.down, rfl⟩
        ·cases hy
       ·cases hx
      ·cases hdv
     ·cases hdv
    obtain ⟨rfl, rfl⟩ := hds
    refine ⟨[.row v], ⟨rfl, v, rfl⟩, ?_, fun ps ds X ρ nb hF hB hr => ?_⟩
    ·show List.Perm ([Conc.row v].filterMap cb) (GI.blocks [] ++ Z8c [v])
     exact List.Perm.refl _
    ·have h0 : ρ nb = some (.row v) := hr 0 _ rfl
     have hrow' := hrow.mono (F' := Fix X ρ w) hF
     exact ⟨.one (.own nb), [.arr false e rt' l], rfl, ⟨hrow.form, by rw [h0]⟩, ⟨⟨v, rfl, hrow'⟩, trivial⟩⟩
   ·cases hd
 ·cases hd
theorem Zg6 (hFB : ∀ b, F b → B b) : ∀ {ps : List PK} {asx : List CArg} {vs : List Value} {L : List GI} {N : List Value} {ds : List DV}, Z8i w F B asx vs L N → Zvm ps asx = some ds →
  ∃ cs : List Conc, Zdz ps L cs ∧ (cs.filterMap cb).Perm (GI.blocks L ++ Z8c N) ∧ ∀ (X : Nat → Prop) (ρ : Rho) (nb : Nat), (∀ b, F b → Fix X ρ w b) → (∀ b, B b → Brw ρ w b) → Zki ρ nb cs →
   Zsi X ρ w (Zsh ps ds nb).1 vs ∧ Z1i X ρ w (Zsh ps ds nb).2 cs
 | [], [], [], L, N, ds, h, hd => by
  obtain ⟨rfl, rfl⟩ := h
  cases hd
  exact ⟨[], ⟨rfl, rfl⟩, List.Perm.refl _, fun X ρ nb _ _ _ => ⟨trivial, trivial⟩⟩
 | p :: ps, a :: asx, v :: vs, L, N, ds, h, hd => by
  obtain ⟨L1, L2, N1, N2, rfl, rfl, h1, h2⟩ := h
  unfold Zvm at hd
  split at hd
  ·rename_i d ds' hd1 hd2
   cases hd
   obtain ⟨cs1, z1, p1, q1⟩ := Z89 hFB h1 hd1
   obtain ⟨cs2, z2, p2, q2⟩ := Zg6 hFB h2 hd2
   refine ⟨cs1 ++ cs2, ⟨L1, L2, cs1, cs2, rfl, rfl, z1, z2⟩, ?_, fun X ρ nb hF hB hr => ?_⟩
   ·rw [List.filterMap_append, Znm, Zvs]
    exact Z43 p1 p2
   ·obtain ⟨av, es, e, i1, i2⟩ := q1 ps ds' X ρ nb hF hB hr.left
    obtain ⟨j1, j2⟩ := q2 X ρ _ hF hB hr.right
    rw [e]
    exact ⟨⟨i1, j1⟩, i2.append j2⟩
  ·cases hd
 | [], _ :: _, _, _, _, _, _, hd => by cases hd
 | _ :: _, [], _, _, _, _, _, hd => by cases hd
 | [], [], _ :: _, _, _, _, h, _ => h.elim
 | _ :: _, _ :: _, [], _, _, _, h, _ => h.elim
end
end Go.Proofs.YtfbancgdmghnkaaGreatDoorE
namespace Go.Proofs.YtfbancgdmghnkaaGreatDoorE
open Go Go.RowKit
set_option linter.unusedVariables false
section
variable {P : Program} {X : Nat → Prop} {ρ ρ' : Rho} {st st' : St} {a : Act} {w w' : World} {R : Type} {r : R} {C : Ctx} {F B : Nat → Prop}
def Zwf (ρ : Rho) (n : Nat) (cs : List Conc) : Prop := ∀ (j : Nat) (c : Conc), cs[j]? = some c → ρ (n + j) = some c ∨ ρ (n + j) = some .dead ∨ ∃ v, c = .row v ∧ ρ (n + j) = some (.frz v)
theorem Zwf.left {n : Nat} {O1 O2 : List Conc} (h : Zwf ρ n (O1 ++ O2)) : Zwf ρ n O1 := fun j u hj => h j u (by rw [List.getElem?_append_left (List.getElem?_eq_some_iff.1 hj).1]; exact hj)
theorem Zwf.right {n : Nat} {O1 O2 : List Conc} (h : Zwf ρ n (O1 ++ O2)) : Zwf ρ (n + O1.length) O2 := fun j u hj => by
 have := h (O1.length + j) u (by rw [List.getElem?_append_right (by omega)]; simpa using hj)
 rwa [← Nat.add_assoc] at this
theorem Zwf.tail {n : Nat} {c : Conc} {cs : List Conc} (h : Zwf ρ n (c :: cs)) : Zwf ρ (n + 1) cs := Zwf.right (O1 := [c]) h
theorem Zkj.append : ∀ {L1 L2 : List GI} {r1 r2 : List RF} {O1 O2 : List Conc}, Zkj w F L1 r1 O1 → Zkj w F L2 r2 O2 → Zkj w F (L1 ++ L2) (r1 ++ r2) (O1 ++ O2)
 | [], _, [], _, O1, O2, h, k => by
  obtain rfl : O1 = [] := h
  exact k
 | .blk g :: L, _, .box t xs :: rs, _, O1, O2, h, k => by
  obtain ⟨A, B, cs, fr, rfl, h1, h2, h3, h4⟩ := h
  exact ⟨A, B ++ O2, cs, fr, List.append_assoc _ _ _, h1, h2, h3, Zkj.append h4 k⟩
 | .row v :: L, _, .row e t l :: rs, _, _, _, h, k => ⟨h.1, Zkj.append h.2 k⟩
 | .no :: L, _, .row e t l :: rs, _, _, _, h, k => Zkj.append (L1 := L) (r1 := rs) h k
 | [], _, _ :: _, _, _, _, h, _ => h.elim
 | .blk _ :: _, _, [], _, _, _, h, _ => h.elim
 | .row _ :: _, _, [], _, _, _, h, _ => h.elim
 | .no :: _, _, [], _, _, _, h, _ => h.elim
 | .blk _ :: _, _, .row _ _ _ :: _, _, _, _, h, _ => h.elim
 | .row _ :: _, _, .box _ _ :: _, _, _, _, h, _ => h.elim
 | .no :: _, _, .box _ _ :: _, _, _, _, h, _ => h.elim
structure ToldB (X : Nat → Prop) (ρ : Rho) (w : World) (d : DR) (L : List GI) (rs : List RF) (O : List Conc) (S T : List Nat) : Prop where
 sub : (O.filterMap cb).Sublist (d.owns.filterMap fun n => cbO (ρ n))
 told : ∀ F : Nat → Prop, (∀ b, Z2j X ρ w d.pures b → F b) → Zkj w F L rs O
 rows : ∀ n ∈ d.owns ++ d.pures, ∃ u, ρ n = some (.row u)
 lent : ∀ n ∈ S, ∃ u, ρ n = some (.row u)
 boxes : ∀ n ∈ T, ∃ g, ρ n = some (.blk g)
 own : ∀ b ∈ GI.blocks L, ∃ n ∈ S ++ T, owns (ρ n) b
theorem ToldB.nil : ToldB X ρ w DR.nil [] [] [] [] [] := ⟨List.Sublist.refl _, fun F _ => rfl, (fun n hn => nomatch hn), (fun n hn => nomatch hn), (fun n hn => nomatch hn), fun n hn => nomatch hn⟩
theorem ToldB.app {d1 d2 : DR} {L1 L2 : List GI} {r1 r2 : List RF} {O1 O2 : List Conc} {S1 S2 T1 T2 : List Nat} (h : ToldB X ρ w d1 L1 r1 O1 S1 T1) (k : ToldB X ρ w d2 L2 r2 O2 S2 T2) :
  ToldB X ρ w (d1.app d2) (L1 ++ L2) (r1 ++ r2) (O1 ++ O2) (S1 ++ S2) (T1 ++ T2) := by
 refine ⟨?_, ?_, Zoz h.rows k.rows, ?_, ?_, ?_⟩
 ·rw [List.filterMap_append]
  show List.Sublist _ ((d1.owns ++ d2.owns).filterMap _)
  rw [List.filterMap_append]
  exact h.sub.append k.sub
 ·exact fun F hF => (h.told F fun b hb => hF b (hb.mono fun n hn => List.mem_append_left _ hn)).append (k.told F fun b hb => hF b (hb.mono fun n hn => List.mem_append_right _ hn))
 ·exact fun n hn => (List.mem_append.1 hn).elim (h.lent n) (k.lent n)
 ·exact fun n hn => (List.mem_append.1 hn).elim (h.boxes n) (k.boxes n)
 ·intro b hb
  rw [Znm] at hb
  rcases List.mem_append.1 hb with hb | hb
  ·obtain ⟨n, h1, h2⟩ := h.own b hb
   refine ⟨n, ?_, h2⟩
   rcases List.mem_append.1 h1 with h1 | h1
   ·exact List.mem_append_left _ (List.mem_append_left _ h1)
   ·exact List.mem_append_right _ (List.mem_append_left _ h1)
  ·obtain ⟨n, h1, h2⟩ := k.own b hb
   refine ⟨n, ?_, h2⟩
   rcases List.mem_append.1 h1 with h1 | h1
   ·exact List.mem_append_left _ (List.mem_append_right _ h1)
   ·exact List.mem_append_right _ (List.mem_append_right _ h1)
theorem Zndb (n k : Nat) : (List.range (k + 1)).map (n + ·) = n :: (List.range k).map (n + 1 + ·) := by
 rw [List.range_succ_eq_map, List.map_cons, List.map_map]
 refine congrArg (n :: ·) (List.map_congr_left fun i _ => ?_)
 show n + (i + 1) = n + 1 + i
 omega
theorem Zox (h : Rel X ρ st a w) : ∀ {ks : List (TypeId × Ty)} {n : Nat} {ds : List DV} {L : List GI} {cs : List Conc} (es : List DV), Zru st ks n = some ds → Zmp L cs → cs.length = ks.length → Zwf ρ n cs →
  ToldB X ρ w DR.nil L (Z6j ks (ds ++ es)).1 [] ((List.range ks.length).map (n + ·)) [] ∧ (Z6j ks (ds ++ es)).2 = es
 | [], n, ds, L, cs, es, hs, hl, hn, hc => by
  cases hs
  match L, cs, hl, hn with
  | [], [], _, _ => exact ⟨ToldB.nil, rfl⟩
  | .row _ :: _, [], h, _ => exact h.elim
  | .no :: _, [], h, _ => exact h.elim
 | (e, t) :: ks, n, ds, L, cs, es, hs, hl, hn, hc => by
  unfold Zru at hs
  split at hs
  ·rename_i d ds' hd hds
   cases hs
   match cs, hn with
   | c :: cs, hn =>
   have hn' : cs.length = ks.length := Nat.succ.inj hn
   replace hd : (match st.ent n with
    | .arr false e' _ l => match Zxi (r := t) l with
     | some l => bif Nat.beq e e' then some (⟨[.mk (.sl t) l], [n], []⟩ : DR) else none
     | none => none
    | _ => none) = some d := hd
   split at hd
   ·rename_i e' t' l he
    have h0 := h.ents n
    rw [he] at h0
    obtain ⟨v, hv, h0⟩ := h0
    split at hd
    ·rename_i l2 hl2
     cases hee : Nat.beq e e' with
     | false => rw [hee] at hd; cases hd
     | true =>
      rw [hee] at hd
      cases hd
      obtain rfl := Nat.eq_of_beq_eq_true hee
      obtain ⟨ee, rfl⟩ := Zcn hl2
      subst ee
      have hc0 : c = .row v := by
       have := hc 0 c rfl
       rw [Nat.add_zero, hv] at this
       rcases this with q | q | ⟨u, _, q⟩
       ·cases q; rfl
       ·cases q
       ·cases q
      subst hc0
      have e1 : Z6j ((e, t') :: ks) ([DV.mk (.sl t') l] ++ ds' ++ es) = (.row e t' l :: (Z6j ks (ds' ++ es)).1, (Z6j ks (ds' ++ es)).2) := rfl
      rw [show (DR.ds ⟨[DV.mk (.sl t') l], [n], []⟩ : List DV) = [DV.mk (.sl t') l] from rfl, e1, show ((e, t') :: ks).length = ks.length + 1 from rfl, Zndb]
      match L, hl with
      | .row v' :: L, hl =>
       obtain ⟨rfl, hl⟩ := hl
       obtain ⟨i1, i2⟩ := Zox h (n := n + 1) es hds hl hn' hc.tail
       refine ⟨⟨i1.sub, fun F hF => ⟨h0.mono fun b hb => hF b (.inl hb), i1.told F hF⟩, i1.rows, fun m hm => ?_, i1.boxes, fun b hb => ?_⟩, i2⟩
       ·rcases List.mem_cons.1 hm with rfl | hm
        ·exact ⟨v, hv⟩
        ·exact i1.lent m hm
       ·rcases List.mem_append.1 (show b ∈ (Zoe v).toList ++ GI.blocks L from hb) with hb | hb
        ·refine ⟨n, List.mem_append_left _ List.mem_cons_self, ?_⟩
         rw [hv]
         exact Option.mem_toList.1 hb
        ·obtain ⟨m, m1, m2⟩ := i1.own b hb
         exact ⟨m, List.mem_cons_of_mem _ m1, m2⟩
      | .no :: L, hl =>
       obtain ⟨_, hl⟩ := hl
       obtain ⟨i1, i2⟩ := Zox h (n := n + 1) es hds hl hn' hc.tail
       refine ⟨⟨i1.sub, fun F hF => i1.told F hF, i1.rows, fun m hm => ?_, i1.boxes, fun b hb => ?_⟩, i2⟩
       ·rcases List.mem_cons.1 hm with rfl | hm
        ·exact ⟨v, hv⟩
        ·exact i1.lent m hm
       ·obtain ⟨m, m1, m2⟩ := i1.own b hb
        exact ⟨m, List.mem_cons_of_mem _ m1, m2⟩
    ·cases hd
   ·cases hd
  ·cases hs
theorem Z95 (h : Rel X ρ st a w) {tid : TypeId} {ks : List RK} {n : Nat} {d : DR} {g : Nat} (es : List DV) (hs : Zou st tid ks n = some d) (hc : Zwf ρ n [.blk g]) :
  ∃ O, ToldB X ρ w d [.blk g] [.box tid (Zyc ks (d.ds ++ es)).1] O [] [n] ∧ (Zyc ks (d.ds ++ es)).2 = es := by
 unfold Zou at hs
 split at hs
 ·rename_i t xs he
  cases ht : Nat.beq t tid with
  | false => rw [ht] at hs; cases hs
  | true =>
   rw [ht] at hs
   replace hs : Zzl st ks xs = some d := hs
   obtain rfl := Nat.eq_of_beq_eq_true ht
   have h0 := h.ents n
   rw [he] at h0
   obtain ⟨gb, cs, fr, hρ, hh, hun, hys⟩ := h0
   have hg : gb = g := by
    have := hc 0 _ rfl
    rw [Nat.add_zero, hρ] at this
    rcases this with q | q | ⟨u, _, q⟩
    ·cases q; rfl
    ·cases q
    ·cases q
   subst hg
   obtain ⟨O, t1, e1⟩ := Zup h es hys hs
   refine ⟨O, ⟨t1.2.1, fun F hF => ⟨O, [], cs, fr, (List.append_nil _).symm, hh, hun, t1.1 F hF, rfl⟩, t1.2.2.2, (fun m hm => nomatch hm), fun m hm => ?_, fun b hb => ?_⟩, e1⟩
   ·rw [List.mem_singleton.1 hm]; exact ⟨gb, hρ⟩
   ·refine ⟨n, List.mem_singleton.2 rfl, ?_⟩
    rw [hρ]
    exact List.mem_singleton.1 hb
 ·cases hs
theorem Zjs {tid : TypeId} (h : tid ≠ roT) : Nat.beq tid roT = false := by
 cases hb : Nat.beq tid roT with
 | false => rfl
 | true => exact absurd (Nat.eq_of_beq_eq_true hb) h
theorem Zyu (h : Rel X ρ st a w) : ∀ {ks : List (TypeId × Ty × List PL)} {n : Nat} {d : DR} {L : List GI} {cs : List Conc} (es : List DV), Znr st ks n = some d → Zvj ks L cs → Zwf ρ n cs →
  ∃ O, ToldB X ρ w d L (Zai ks (d.ds ++ es)).1 O [] (Zjj.capRefs ks n) ∧ (Zai ks (d.ds ++ es)).2 = es
 | [], n, d, L, cs, es, hs, hl, hc => by
  cases hs
  obtain ⟨rfl, rfl⟩ := hl
  exact ⟨[], ToldB.nil, rfl⟩
 | (tid, t, ms) :: ks, n, d, L, cs, es, hs, hl, hc => by
  replace hl : (if tid = roT then Zvj ks L cs else ∃ g rest L' cs', L = .blk g :: L' ∧ cs = .blk g :: rest ++ cs' ∧ rest.length = Zpe (Zmb t) ms ∧ Zvj ks L' cs') := hl
  by_cases hro : tid = roT
  ·subst hro
   rw [if_pos rfl] at hl
   exact Zyu h (ks := ks) es hs hl hc
  rw [if_neg hro] at hl
  obtain ⟨g, rest, L', cs', rfl, rfl, hr, hl⟩ := hl
  unfold Znr at hs
  rw [Zjs hro] at hs
  simp only [cond_false] at hs
  split at hs
  ·rename_i d1 d2 h1 h2
   cases hs
   have hc1 : Zwf ρ n [.blk g] := Zwf.left (O2 := rest ++ cs') hc
   have hc2 := Zwf.right (O1 := .blk g :: rest) (O2 := cs') hc
   rw [show (Conc.blk g :: rest).length = rest.length + 1 from rfl, hr, show n + (Zpe (Zmb t) ms + 1) = n + 1 + Zpe (Zmb t) ms by omega] at hc2
   obtain ⟨O2, t2, e2⟩ := Zyu h es h2 hl hc2
   obtain ⟨O1, t1, e1⟩ := Z95 h (d2.ds ++ es) h1 hc1
   have e3 : Zai ((tid, t, ms) :: ks) ((d1.app d2).ds ++ es) = (.box tid (Zyc (Z1f (Zmb t) ms) (d1.ds ++ (d2.ds ++ es))).1 :: (Zai ks (d2.ds ++ es)).1, (Zai ks (d2.ds ++ es)).2) := by
    have e0 : ∀ ds, Zai ((tid, t, ms) :: ks) ds = bif Nat.beq tid roT then Zai ks ds else (.box tid (Zyc (Z1f (Zmb t) ms) ds).1 :: (Zai ks (Zyc (Z1f (Zmb t) ms) ds).2).1, (Zai ks (Zyc (Z1f (Zmb t) ms) ds).2).2) := fun _ => rfl
    rw [e0, Zjs hro]
    show (RF.box tid (Zyc (Z1f (Zmb t) ms) ((d1.ds ++ d2.ds) ++ es)).1 :: (Zai ks (Zyc (Z1f (Zmb t) ms) ((d1.ds ++ d2.ds) ++ es)).2).1, (Zai ks (Zyc (Z1f (Zmb t) ms) ((d1.ds ++ d2.ds) ++ es)).2).2) = _
    rw [List.append_assoc, e1]
   have e4 : Zjj.capRefs ((tid, t, ms) :: ks) n = n :: Zjj.capRefs ks (n + 1 + Zpe (Zmb t) ms) := by
    have e0 : Zjj.capRefs ((tid, t, ms) :: ks) n = bif Nat.beq tid roT then Zjj.capRefs ks n else n :: Zjj.capRefs ks (n + 1 + Zpe (Zmb t) ms) := rfl
    rw [e0, Zjs hro]
    rfl
   rw [e3, e4]
   exact ⟨O1 ++ O2, t1.app t2, e2⟩
  ·cases hs
theorem Z1v : ∀ {ks : List (TypeId × Ty × List PL)} {L : List GI} {cs : List Conc}, Zvj ks L cs → cs.length = Zuk ks
 | [], _, _, ⟨_, h⟩ => by rw [h]; rfl
 | (tid, t, ms) :: ks, L, cs, hl => by
  replace hl : (if tid = roT then Zvj ks L cs else ∃ g rest L' cs', L = .blk g :: L' ∧ cs = .blk g :: rest ++ cs' ∧ rest.length = Zpe (Zmb t) ms ∧ Zvj ks L' cs') := hl
  by_cases hro : tid = roT
  ·subst hro
   rw [if_pos rfl] at hl
   exact Z1v (ks := ks) hl
  rw [if_neg hro] at hl
  obtain ⟨g, rest, L', cs', _, h2, h3, h4⟩ := hl
  rw [h2, List.length_append, Z1v h4]
  have e0 : Zuk ((tid, t, ms) :: ks) = bif Nat.beq tid roT then Zuk ks else 1 + Zpe (Zmb t) ms + Zuk ks := rfl
  rw [e0, Zjs hro]
  show rest.length + 1 + Zuk ks = 1 + Zpe (Zmb t) ms + Zuk ks
  rw [h3]
  omega
theorem Z7n (h : Rel X ρ st a w) : ∀ {ps : List PK} {n : Nat} {d : DR} {S : List Nat} {L : List GI} {cs : List Conc}, Zfl st ps n = some (d, S) → Zdz ps L cs → Zwf ρ n cs →
  ∃ O, ToldB X ρ w d L (Zmi ps d.ds) O S (Zjj ps n)
 | [], n, d, S, L, cs, hs, hl, hc => by
  cases hs
  obtain ⟨rfl, rfl⟩ := hl
  exact ⟨[], ToldB.nil⟩
 | .val ag t ms :: ps, n, d, S, L, cs, hs, hl, hc => by
  obtain ⟨L1, L2, c1, c2, rfl, rfl, hl1, hl2⟩ := hl
  obtain ⟨hl1, hn1⟩ := hl1
  unfold Zfl at hs
  split at hs
  ·rename_i ds b h1 h2
   cases hs
   have hc2 := hc.right
   rw [hn1] at hc2
   obtain ⟨O2, t2⟩ := Z7n h (d := b.1) (S := b.2) h2 hl2 hc2
   obtain ⟨t1, e1⟩ := Zox h b.1.ds h1 hl1 hn1 hc.left
   refine ⟨[] ++ O2, ?_⟩
   have := t1.app t2
   have e3 : Zmi (.val ag t ms :: ps) (ds ++ b.1.ds) = (Z6j (Zdk (Zmb t) ms) (ds ++ b.1.ds)).1 ++ Zmi ps b.1.ds := by
    show (Z6j (Zdk (Zmb t) ms) (ds ++ b.1.ds)).1 ++ Zmi ps (Z6j (Zdk (Zmb t) ms) (ds ++ b.1.ds)).2 = _
    rw [e1]
   rw [← e3] at this
   exact ⟨this.sub, this.told, this.rows, this.lent, this.boxes, this.own⟩
  ·cases hs
 | .rptr t :: ps, n, d, S, L, cs, hs, hl, hc => by
  obtain ⟨L1, L2, c1, c2, rfl, rfl, ⟨rfl, rfl⟩, hl2⟩ := hl
  exact Z7n h (ps := ps) hs hl2 hc
 | .ref tid t ms :: ps, n, d, S, L, cs, hs, hl, hc => by
  obtain ⟨L1, L2, c1, c2, rfl, rfl, ⟨g, rest, rfl, rfl, hn1⟩, hl2⟩ := hl
  unfold Zfl at hs
  split at hs
  ·rename_i d1 b h1 h2
   cases hs
   have hc1 : Zwf ρ n [.blk g] := Zwf.left (O2 := rest ++ c2) hc
   have hc2 := Zwf.right (O1 := .blk g :: rest) (O2 := c2) hc
   rw [show (Conc.blk g :: rest).length = rest.length + 1 from rfl, hn1, show n + (Zpe (Zmb t) ms + 1) = n + 1 + Zpe (Zmb t) ms by omega] at hc2
   obtain ⟨O2, t2⟩ := Z7n h (d := b.1) (S := b.2) h2 hl2 hc2
   obtain ⟨O1, t1, e1⟩ := Z95 h b.1.ds h1 hc1
   refine ⟨O1 ++ O2, ?_⟩
   have := t1.app t2
   have e3 : Zmi (.ref tid t ms :: ps) (d1.app b.1).ds = [.box tid (Zyc (Z1f (Zmb t) ms) (d1.ds ++ b.1.ds)).1] ++ Zmi ps b.1.ds := by
    show [RF.box tid (Zyc (Z1f (Zmb t) ms) (d1.ds ++ b.1.ds)).1] ++ Zmi ps (Zyc (Z1f (Zmb t) ms) (d1.ds ++ b.1.ds)).2 = _
    rw [e1]
   rw [← e3] at this
   exact this
  ·cases hs
 | .fn f ks :: ps, n, d, S, L, cs, hs, hl, hc => by
  obtain ⟨L1, L2, c1, c2, rfl, rfl, hl1, hl2⟩ := hl
  replace hl1 : Zvj ks L1 c1 := hl1
  unfold Zfl at hs
  split at hs
  ·rename_i d1 b h1 h2
   cases hs
   have hc2 := hc.right
   rw [Z1v hl1] at hc2
   obtain ⟨O2, t2⟩ := Z7n h (d := b.1) (S := b.2) h2 hl2 hc2
   obtain ⟨O1, t1, e1⟩ := Zyu h b.1.ds h1 hl1 hc.left
   refine ⟨O1 ++ O2, ?_⟩
   have := t1.app t2
   have e3 : Zmi (.fn f ks :: ps) (d1.app b.1).ds = (Zai ks (d1.ds ++ b.1.ds)).1 ++ Zmi ps b.1.ds := by
    show (Zai ks (d1.ds ++ b.1.ds)).1 ++ Zmi ps (Zai ks (d1.ds ++ b.1.ds)).2 = _
    rw [e1]
   rw [← e3] at this
   exact this
  ·cases hs
 | .mv e r :: ps, n, d, S, L, cs, hs, hl, hc => by
  obtain ⟨L1, L2, c1, c2, rfl, rfl, ⟨rfl, v, rfl⟩, hl2⟩ := hl
  exact Z7n h (ps := ps) hs hl2 (Zwf.right (O1 := [.row v]) hc)
end
end Go.Proofs.YtfbancgdmghnkaaGreatDoorE
namespace Go.Proofs.YtfbancgdmghnkaaGreatDoorE
open Go Go.RowKit
set_option linter.unusedVariables false
section
variable {P : Program} {X : Nat → Prop} {ρ ρ' : Rho} {st st' : St} {a : Act} {w w' : World} {R : Type} {r : R} {C : Ctx} {F B : Nat → Prop}
theorem Ztw {z : Bool} {e : TypeId} {t : Ty} {v : Value} {l : List t.T} (h : Zcd w F z e t v l) {b : Nat} (hb : Zoe v = some b) : b < w.heap.size := by
 rcases h.cases with ⟨_, ⟨rfl, _⟩ | ⟨g, cap, cs, fr, rfl, hg, _⟩⟩ | ⟨_, _, ⟨g, _, _, _, rfl, hg, _⟩ | ⟨g, _, _, _, _, _, _, rfl, hg, _⟩⟩
 ·cases hb
 ·cases hb; exact (Array.getElem?_eq_some_iff.1 hg).1
 ·cases hb; exact (Array.getElem?_eq_some_iff.1 hg).1
 ·cases hb; exact (Array.getElem?_eq_some_iff.1 hg).1
theorem Zdp : ∀ {xs : List CL} {vs : List Value} {L : List GI}, VLs w F B xs vs L → ∀ g ∈ GI.blocks L, g < w.heap.size
 | [], [], L, h, g, hg => by
  obtain rfl : L = [] := h
  cases hg
 | .leaf _ :: _, _ :: _, L, h, g, hg => Zdp h.2 g hg
 | .row e t l :: xs, v :: vs, .row u :: L, ⟨h1, h2, h3⟩, g, hg => by
  rcases List.mem_append.1 (show g ∈ (Zoe u).toList ++ GI.blocks L from hg) with hg | hg
  ·subst h1
   exact Ztw h2 (Option.mem_toList.1 hg)
  ·exact Zdp h3 g hg
 | .nil :: _, _ :: _, .no :: L, h, g, hg => Zdp h.2 g hg
 | [], _ :: _, _, h, _, _ => h.elim
 | .leaf _ :: _, [], _, h, _, _ => h.elim
theorem Zwr : ∀ {xs : List CL} {vs : List Value} {M : List Value}, MLs w F B xs vs M → ∀ g ∈ Z8c M, g < w.heap.size
 | [], [], M, h, g, hg => by
  obtain rfl : M = [] := h
  cases hg
 | .leaf _ :: _, _ :: _, M, h, g, hg => Zwr h.2 g hg
 | .row e t l :: xs, v :: vs, u :: M, ⟨h1, h2, h3⟩, g, hg => by
  subst h1
  obtain ⟨q, hq, hg2⟩ := List.mem_filterMap.1 hg
  rcases List.mem_cons.1 hq with rfl | hq
  ·exact Ztw h2 hg2
  ·exact Zwr h3 g (List.mem_filterMap.2 ⟨q, hq, hg2⟩)
 | .nil :: _, _ :: _, M, h, g, hg => Zwr h.2 g hg
 | [], _ :: _, _, h, _, _ => h.elim
 | .leaf _ :: _, [], _, h, _, _ => h.elim
theorem Zu6 {t : TypeId} {xs : List CL} {v : Value} {L : List GI} {M : List Value} (h : Z0l w F B t xs v L M) : ∀ g ∈ GI.blocks L ++ Z8c M, g < w.heap.size := by
 obtain ⟨g0, cs, fr, rfl, rfl, hh, hu, hm⟩ := h
 intro g hg
 rcases List.mem_append.1 hg with hg | hg
 ·rw [List.mem_singleton.1 hg]; exact (Array.getElem?_eq_some_iff.1 hh).1
 ·exact Zwr hm g hg
theorem Zq6 {A1 A2 B1 B2 : List Nat} {g : Nat} (h : g ∈ (A1 ++ A2) ++ (B1 ++ B2)) : g ∈ A1 ++ B1 ∨ g ∈ A2 ++ B2 := by
 simp only [List.mem_append] at h ⊢
 rcases h with (h | h) | (h | h)
 ·exact .inl (.inl h)
 ·exact .inr (.inl h)
 ·exact .inl (.inr h)
 ·exact .inr (.inr h)
theorem Z68 {c : TypeId × List CL} {v : Value} {L : List GI} {M : List Value} (h : Zbj w F B c v L M) : ∀ g ∈ GI.blocks L ++ Z8c M, g < w.heap.size := by
 unfold Zbj at h
 split at h
 ·obtain ⟨rfl, rfl, _⟩ := h
  intro g hg
  cases hg
 ·exact Zu6 h
theorem Zi5 : ∀ {xs : List (TypeId × List CL)} {vs : List Value} {L : List GI} {M : List Value}, Zlj w F B xs vs L M → ∀ g ∈ GI.blocks L ++ Z8c M, g < w.heap.size
 | [], [], L, M, h, g, hg => by
  obtain ⟨rfl, rfl⟩ := h
  cases hg
 | _ :: _, _ :: _, _, _, ⟨L1, L2, M1, M2, rfl, rfl, h3, h4⟩, g, hg => by
  rw [Znm, Zvs] at hg
  exact (Zq6 hg).elim (Z68 h3 g) (Zi5 h4 g)
 | [], _ :: _, _, _, h, _, _ => h.elim
 | _ :: _, [], _, _, h, _, _ => h.elim
theorem Zveb {x : CArg} {v : Value} {L : List GI} {M : List Value} (h : Zol w F B x v L M) : ∀ g ∈ GI.blocks L ++ Z8c M, g < w.heap.size := by
 match x, h with
 | .val false xs, ⟨h1, h2⟩ =>
  subst h1
  intro g hg
  rcases List.mem_append.1 hg with hg | hg
  ·exact Zdp h2 g hg
  ·cases hg
 | .val true xs, ⟨h1, cs, h2, h3⟩ =>
  subst h1
  intro g hg
  rcases List.mem_append.1 hg with hg | hg
  ·exact Zdp h3 g hg
  ·cases hg
 | .rptr xs, ⟨h1, h2, _⟩ =>
  subst h1
  subst h2
  intro g hg
  cases hg
 | .ref t xs, h => exact Zu6 h
 | .fn f caps, ⟨cs, _, h⟩ => exact Zi5 h
 | .mv e r l, ⟨h1, h2, h3⟩ =>
  subst h1
  subst h2
  intro g hg
  rcases List.mem_append.1 hg with hg | hg
  ·cases hg
  ·obtain ⟨q, hq, hg2⟩ := List.mem_filterMap.1 hg
   rw [List.mem_singleton.1 hq] at hg2
   exact Ztw h3 hg2
theorem Zm2 : ∀ {asx : List CArg} {vs : List Value} {L : List GI} {M : List Value}, Z8i w F B asx vs L M → (∀ g ∈ GI.blocks L ++ Z8c M, g < w.heap.size) ∧ asx.length = vs.length
 | [], [], L, M, h => by
  obtain ⟨rfl, rfl⟩ := h
  exact ⟨(fun g hg => nomatch hg), rfl⟩
 | x :: asx, v :: vs, _, _, ⟨L1, L2, M1, M2, rfl, rfl, h3, h4⟩ => by
  obtain ⟨i1, i2⟩ := Zm2 h4
  refine ⟨fun g hg => ?_, congrArg (· + 1) i2⟩
  rw [Znm, Zvs] at hg
  exact (Zq6 hg).elim (Zveb h3 g) (i1 g)
 | [], _ :: _, _, _, h => h.elim
 | _ :: _, [], _, _, h => h.elim
theorem Zq0 : ∀ {ps : List PK} {asx : List CArg} {ds : List DV}, Zvm ps asx = some ds → asx.length = ps.length
 | [], [], _, _ => rfl
 | p :: ps, c :: asx, ds, h => by
  unfold Zvm at h
  split at h
  ·rename_i h1
   exact congrArg (· + 1) (Zq0 h1)
  ·cases h
 | [], _ :: _, _, h => by cases h
 | _ :: _, [], _, h => by cases h
theorem Zs4 : ∀ {avs : List AV} {vs : List Value} (i : Nat), Zsi X ρ w avs vs → Z8 X ρ w (Z4 .unk avs i) (vs.getD i undef)
 | [], [], i, _ => by rw [Z3m]; trivial
 | _ :: _, _ :: _, 0, h => h.1
 | _ :: avs, _ :: vs, i + 1, h => Zs4 i h.2
 | [], _ :: _, _, h => h.elim
 | _ :: _, [], _, h => h.elim
theorem Zd2 : ∀ {es : List Ent} {cs : List Conc} (i : Nat), Z1i X ρ w es cs → Znd X ρ w (Z4 .free es i) (cs[i]?)
 | [], [], i, _ => by rw [Z3m]; trivial
 | _ :: _, _ :: _, 0, h => h.1
 | _ :: es, _ :: cs, i + 1, h => by
  rw [List.getElem?_cons_succ]
  exact Zd2 i h.2
 | [], _ :: _, _, h => h.elim
 | _ :: _, [], _, h => h.elim
theorem Zp5 {ps : List RC} {us : List Value} {O : List Conc} (h : Zsn w F ps us O) : Zlu w F ps (Zfr us) O := by
 match ps, us, h with
 | [], [], h => exact ⟨[].toArray, rfl, h⟩
 | [p], [u], h =>
  obtain ⟨O1, O2, rfl, h1, h2⟩ := h
  obtain rfl : O2 = [] := h2
  show Zoq w F p u (O1 ++ [])
  rw [List.append_nil]
  exact h1
 | _ :: _ :: _, _ :: _ :: _, h => exact ⟨_, rfl, h⟩
 | [], _ :: _, h => exact h.elim
 | [_], [], h => exact h.elim
 | _ :: _ :: _, [], h => exact h.elim
 | [_], _ :: _ :: _, h =>
  obtain ⟨O1, O2, rfl, h1, h2⟩ := h
  exact h2.elim
 | _ :: _ :: _, [_], h =>
  obtain ⟨O1, O2, rfl, h1, h2⟩ := h
  exact h2.elim
theorem Z80 {f : Nat → Option Nat} : ∀ {ns : List Nat}, ns.Nodup → (∀ n m b, n ∈ ns → m ∈ ns → f n = some b → f m = some b → n = m) → (ns.filterMap f).Nodup
 | [], _, _ => List.nodup_nil
 | n :: ns, h, k => by
  obtain ⟨h1, h2⟩ := List.nodup_cons.1 h
  have ih := Z80 h2 fun p q b hp hq => k p q b (List.mem_cons_of_mem _ hp) (List.mem_cons_of_mem _ hq)
  cases hf : f n with
  | none => rw [List.filterMap_cons_none hf]; exact ih
  | some b =>
   rw [List.filterMap_cons_some hf]
   refine List.nodup_cons.2 ⟨fun hm => ?_, ih⟩
   obtain ⟨m, hm1, hm2⟩ := List.mem_filterMap.1 hm
   have := k n m b List.mem_cons_self (List.mem_cons_of_mem _ hm1) hf hm2
   subst this
   exact h1 hm1
theorem Zs3 : ∀ {cs : List Conc} (i j b : Nat), (cs.filterMap cb).Nodup → owns (cs[i]?) b → owns (cs[j]?) b → i = j
 | [], i, j, b, _, hi, _ => by
  rw [List.getElem?_nil] at hi
  exact hi.elim
 | c :: cs, i, j, b, hn, hi, hj => by
  have tail : (cs.filterMap cb).Nodup := by
   cases hc : cb c with
   | none => rwa [List.filterMap_cons_none hc] at hn
   | some q =>
    rw [List.filterMap_cons_some hc] at hn
    exact (List.nodup_cons.1 hn).2
  have mem : ∀ k : Nat, owns (cs[k]?) b → b ∈ cs.filterMap cb := fun k hk => by
   cases hk2 : cs[k]? with
   | none => rw [hk2] at hk; exact hk.elim
   | some q =>
    rw [hk2] at hk
    exact List.mem_filterMap.2 ⟨q, List.mem_of_getElem? hk2, Z1o.2 hk⟩
  have head : owns (some c) b → ∀ k : Nat, owns (cs[k]?) b → False := fun h0 k hk => by
   rw [List.filterMap_cons_some (Z1o.2 h0)] at hn
   exact (List.nodup_cons.1 hn).1 (mem k hk)
  match i, j with
  | 0, 0 => rfl
  | 0, j + 1 => exact (head hi j hj).elim
  | i + 1, 0 => exact (head hj i hi).elim
  | i + 1, j + 1 => exact congrArg (· + 1) (Zs3 i j b tail hi hj)
theorem Zqx {cs : List Conc} {i b : Nat} (hi : owns (cs[i]?) b) : b ∈ cs.filterMap cb := by
 cases hk2 : cs[i]? with
 | none => rw [hk2] at hi; exact hi.elim
 | some q =>
  rw [hk2] at hi
  exact List.mem_filterMap.2 ⟨q, List.mem_of_getElem? hk2, Z1o.2 hi⟩
theorem Zdx {c : Option Conc} {b : Nat} : cbO c = some b ↔ owns c b := by
 cases c with
 | none => exact ⟨(fun h => nomatch h), fun h => h.elim⟩
 | some c => exact Z1o
theorem Z81 {O : List Conc} {S : List Nat} (h : (O.filterMap cb).Sublist (S.filterMap fun n => cbO (ρ n))) {u : Conc} (hu : u ∈ O) {b : Nat} (hb : cb u = some b) : ∃ n ∈ S, owns (ρ n) b := by
 have := h.subset (List.mem_filterMap.2 ⟨u, hu, hb⟩)
 obtain ⟨n, h1, h2⟩ := List.mem_filterMap.1 this
 exact ⟨n, h1, Zdx.1 h2⟩
theorem Zgab {ps : List PK} {L : List GI} {N : List Value} {cs : List Conc} {F0 : Nat → Prop} {us : List Value} {rcs : List RC} {rfs : List RF} {da db : DR} {bs S2 S T : List Nat} {O1 O2 : List Conc}
  (hG : (GI.blocks L ++ Z8c N).Nodup) (hperm : (cs.filterMap cb).Perm (GI.blocks L ++ Z8c N))
  (h : Rel (fun b => b < w.heap.size ∧ ¬ F0 b ∧ b ∉ GI.blocks L ++ Z8c N) ρ' st' a w') (e : Ext (fun i => cs[i]?) w ρ' w')
  (t2 : ToldC (fun b => b < w.heap.size ∧ ¬ F0 b ∧ b ∉ GI.blocks L ++ Z8c N) ρ' w' da bs rcs us O2 S2) (t1 : ToldB (fun b => b < w.heap.size ∧ ¬ F0 b ∧ b ∉ GI.blocks L ++ Z8c N) ρ' w' db L rfs O1 S T)
  (n1 : (da.owns ++ db.owns ++ S).Nodup) (n2 : ∀ n ∈ da.owns ++ db.owns ++ S, n ∉ da.pures ++ db.pures) (n3 : (bs ++ T).Nodup) :
  Zrr ⟨rcs, rfs⟩ F0 L N w (Zfr us) w' := by
 have rowbox : ∀ n u g, ρ' n = some (.row u) → ρ' n = some (.blk g) → False := fun n u g h1 h2 => by rw [h1] at h2; cases h2
 have inS : ∀ u ∈ O1 ++ O2, ∀ b, cb u = some b → ∃ n, (n ∈ da.owns ++ db.owns ∨ n ∈ bs) ∧ owns (ρ' n) b := fun u hu b hb => by
  rcases List.mem_append.1 hu with hu | hu
  ·obtain ⟨n, k1, k2⟩ := Z81 t1.sub hu hb
   exact ⟨n, .inl (List.mem_append_right _ k1), k2⟩
  ·obtain ⟨n, k1, k2⟩ := Z81 t2.sub hu hb
   rcases List.mem_append.1 (t2.perm.mem_iff.1 k1) with k1 | k1
   ·exact ⟨n, .inl (List.mem_append_left _ k1), k2⟩
   ·exact ⟨n, .inr k1, k2⟩
 have rowO : ∀ n ∈ da.owns ++ db.owns, ∃ u, ρ' n = some (.row u) := fun n hn => (List.mem_append.1 hn).elim (fun hn => t2.rows n (List.mem_append_left _ hn)) fun hn => t1.rows n (List.mem_append_left _ hn)
 have rowP : ∀ n ∈ da.pures ++ db.pures, ∃ u, ρ' n = some (.row u) := fun n hn => (List.mem_append.1 hn).elim (fun hn => t2.rows n (List.mem_append_right _ hn)) fun hn => t1.rows n (List.mem_append_right _ hn)
 have notL : ∀ n b, (n ∈ da.owns ++ db.owns ∨ n ∈ bs ∨ n ∈ da.pures ++ db.pures) → owns (ρ' n) b → b ∉ GI.blocks L := by
  intro n b hn hb hL
  obtain ⟨m, hm, hm2⟩ := t1.own b hL
  obtain rfl := h.sep n m b hb hm2
  rcases List.mem_append.1 hm with hm | hm
  ·rcases hn with hn | hn | hn
   ·exact (List.nodup_append.1 n1).2.2 n hn n hm rfl
   ·obtain ⟨u, hu⟩ := t1.lent n hm
    obtain ⟨g, hg⟩ := t2.boxes n hn
    exact rowbox n u g hu hg
   ·exact n2 n (List.mem_append_right _ hm) hn
  ·obtain ⟨g, hg⟩ := t1.boxes n hm
   rcases hn with hn | hn | hn
   ·obtain ⟨u, hu⟩ := rowO n hn
    exact rowbox n u g hu hg
   ·exact (List.nodup_append.1 n3).2.2 n hn n hm rfl
   ·obtain ⟨u, hu⟩ := rowP n hn
    exact rowbox n u g hu hg
 have orig : ∀ n b, owns (ρ' n) b → b ∈ GI.blocks L ++ Z8c N ∨ w.heap.size ≤ b := fun n b hb => by
  rcases e.own n b hb with ⟨j, hj⟩ | hj
  ·exact .inl (hperm.mem_iff.1 (Zqx hj))
  ·exact .inr hj
 have orig2 : ∀ n b, (n ∈ da.owns ++ db.owns ∨ n ∈ bs ∨ n ∈ da.pures ++ db.pures) → owns (ρ' n) b → b ∈ Z8c N ∨ w.heap.size ≤ b := fun n b hn hb => by
  rcases orig n b hb with k | k
  ·rcases List.mem_append.1 k with k | k
   ·exact (notL n b hn hb k).elim
   ·exact .inl k
  ·exact .inr k
 have hfix : ∀ b, Fix (fun b => b < w.heap.size ∧ ¬ F0 b ∧ b ∉ GI.blocks L ++ Z8c N) ρ' w' b → Out F0 (Z8c N) w w' (O1 ++ O2) b := by
  intro b hb
  refine ⟨hb.1, ?_, fun u hu q => ?_⟩
  ·rcases Nat.lt_or_ge b w.heap.size with hlt | hge
   ·by_cases hf : F0 b
    ·exact .inl hf
    ·by_cases hg : b ∈ GI.blocks L ++ Z8c N
     ·rcases List.mem_append.1 hg with hg | hg
      ·obtain ⟨m, _, hm2⟩ := t1.own b hg
       exact (hb.2.2 m hm2).elim
      ·exact .inr (.inl hg)
     ·exact (hb.2.1 ⟨hlt, hf, hg⟩).elim
   ·exact .inr (.inr hge)
  ·obtain ⟨n, _, k⟩ := inS u hu b q
   exact hb.2.2 n k
 have hout : ∀ ns : List Nat, (∀ n ∈ ns, n ∈ da.pures ++ db.pures) → ∀ b, Z2j (fun b => b < w.heap.size ∧ ¬ F0 b ∧ b ∉ GI.blocks L ++ Z8c N) ρ' w' ns b → Out F0 (Z8c N) w w' (O1 ++ O2) b := by
  intro ns hns b hb
  rcases hb with hb | ⟨n, hn, hb⟩
  ·exact hfix b hb
  ·refine ⟨(h.lt n b hb).1, .inr (orig2 n b (.inr (.inr (hns n hn))) hb), fun u hu q => ?_⟩
   obtain ⟨m, hm, k⟩ := inS u hu b q
   obtain rfl := h.sep m n b k hb
   rcases hm with hm | hm
   ·exact n2 m (List.mem_append_left _ hm) (hns m hn)
   ·obtain ⟨u', hu'⟩ := rowP m (hns m hn)
    obtain ⟨g, hg⟩ := t2.boxes m hm
    exact rowbox m u' g hu' hg
 refine ⟨⟨e.os, e.tape, e.output, e.size, fun q hq hn => e.keep q hq fun i hi => hn (hperm.mem_iff.1 (Zqx hi))⟩, O1, O2, ?_, ?_, ?_, ?_⟩
 ·intro u hu b hb
  obtain ⟨n, hn, k⟩ := inS u hu b hb
  exact ⟨orig2 n b (hn.elim .inl fun q => .inr (.inl q)) k, (h.lt n b k).1⟩
 ·rw [List.filterMap_append]
  refine (t1.sub.append t2.sub).nodup ?_
  rw [← List.filterMap_append]
  refine Z80 ?_ fun n m q hn hm h1 h2 => h.sep n m q (Zdx.1 h1) (Zdx.1 h2)
  have na := (List.nodup_append.1 n1).1
  obtain ⟨na1, na2, na3⟩ := List.nodup_append.1 na
  have nb := (List.nodup_append.1 n3).1
  refine List.nodup_append.2 ⟨na2, t2.perm.nodup_iff.2 (List.nodup_append.2 ⟨na1, nb, ?_⟩), ?_⟩
  ·intro n hn m hm q
   subst q
   obtain ⟨u, hu⟩ := rowO n (List.mem_append_left _ hn)
   obtain ⟨g, hg⟩ := t2.boxes n hm
   exact rowbox n u g hu hg
  ·intro n hn m hm q
   subst q
   rcases List.mem_append.1 (t2.perm.mem_iff.1 hm) with hm | hm
   ·exact na3 n hm n hn rfl
   ·obtain ⟨u, hu⟩ := rowO n (List.mem_append_right _ hn)
    obtain ⟨g, hg⟩ := t2.boxes n hm
    exact rowbox n u g hu hg
 ·exact t1.told _ (hout _ fun n hn => List.mem_append_right _ hn)
 ·exact Zp5 (t2.told _ (hout _ fun n hn => List.mem_append_left _ hn))
theorem Zu4 {f : FuncId} {fn : Func} {c : Code} {s : Sig} {ti : Tab TI} {F : Za s.ins → Option (Za s.outs)} (T : Zxc P ti) (hf : P.funcs[f]? = some fn) (hname : (fn.name == "runtime.NumGoroutine") = false) (hb : fn.body = some c)
  (hn : fn.ntmps = s.ntmps) (hps : Nat.ble s.ps.length s.ntmps = true) (hev : ∀ x y, F x = some y → ∀ (X : Nat → Prop) (ρ : Rho) (a : Act) (w : World), Rel X ρ (s.start x) a w → Zqq P c a w X ρ (s.start x) (s.done ti fn.results.toList) y) : Zf P f (s.con F) := by
 refine ⟨fun args w => ?_, ?_⟩
 ·simp [callFunc, hf, hb, by simpa using hname]
 intro asx rr hrr w vs F0 L N hF0 hG hgl hargs
 replace hrr : (s.run F asx).val = some rr := hrr
 unfold Sig.run at hrr
 split at hrr
 ·rename_i ds hds
  split at hrr
  ·rename_i x hx
   cases hFx : F x with
   | none => simp [CR.val, hFx] at hrr
   | some y =>
    have hrr : s.enc y = rr := by simpa [CR.val, hFx] using hrr
    subst hrr
    have hev := hev x y hFx
    obtain ⟨cs, hslots, hperm, hent⟩ := Zg6 (fun b hb => hF0 b hb) hargs hds
    obtain ⟨hGlt, hlen1⟩ := Zm2 hargs
    have hlen2 := Zq0 hds
    have hnd : (cs.filterMap cb).Nodup := hperm.nodup_iff.2 hG
    have own0 : ∀ i b, owns (cs[i]?) b → b ∈ GI.blocks L ++ Z8c N := fun i b hb => hperm.mem_iff.1 (Zqx hb)
    have hvl : vs.length ≤ fn.ntmps := by
     have := Nat.le_of_ble_eq_true hps
     omega
    obtain ⟨en1, en2⟩ := hent (fun b => b < w.heap.size ∧ ¬ F0 b ∧ b ∉ GI.blocks L ++ Z8c N) (fun i => cs[i]?) 0 (fun b hb => ⟨(hF0 b hb).1, fun hx => hx.2.1 hb, fun i hi => (hF0 b hb).2 (own0 i b hi)⟩)
     (fun b hb => ⟨hb.1, fun i hi => hb.2 (own0 i b hi)⟩) (fun j u hj => by
      show cs[0 + j]? = some u
      rw [Nat.zero_add, hj])
    have hofx : Zif s.ins x = ds := Zgq hx
    let a0 : Act := { tmps := vs.toArray ++ Array.replicate (fn.ntmps - vs.toArray.size) undef, defers := [] }
    have htm : ∀ i, Z6 a0 i = vs.getD i undef := fun i => by
     show (vs.toArray ++ Array.replicate (fn.ntmps - vs.toArray.size) undef).getD i undef = _
     rw [Array.getD_eq_getD_getElem?, List.getD_eq_getElem?_getD]
     by_cases hi : i < vs.length
     ·rw [Array.getElem?_append_left (by simpa using hi)]
      simp
     ·rw [Array.getElem?_append_right (by simpa using hi), List.getElem?_eq_none (by omega)]
      rw [Array.getElem?_replicate]
      split <;> rfl
    have hst : s.start x = { n := s.ntmps, tmps := (Zsh s.ps ds 0).1, gs := [], heap := (Zsh s.ps ds 0).2, nb := (Zsh s.ps ds 0).2.length, lim := 1000000, res := [] } := by
     unfold Sig.start
     rw [hofx]
    have hrel : Rel (fun b => b < w.heap.size ∧ ¬ F0 b ∧ b ∉ GI.blocks L ++ Z8c N) (fun i => cs[i]?) (s.start x) a0 w := by
     rw [hst]
     refine ⟨rfl, ?_, ?_, ?_, ?_, ?_, (fun _ _ _ _ hm => nomatch hm), ⟨?_, fun p hp => nomatch hp⟩, fun b hb => hb.1, ⟨hgl.1, fun n hn i hi => hgl.2 n hn (own0 i n hi)⟩⟩
     ·show (vs.toArray ++ Array.replicate (fn.ntmps - vs.toArray.size) undef).size = s.ntmps
      simp
      omega
     ·intro i j b hi hj
      exact Zs3 i j b hnd hi hj
     ·intro i b hi
      have h1 := own0 i b hi
      exact ⟨hGlt b h1, fun hx => hx.2.2 h1⟩
     ·intro i
      exact Zd2 i en2
     ·intro i
      rw [htm]
      exact Zs4 i en1
     ·intro i hi
      rcases hi with ⟨hi, _⟩ | ⟨p, hp, _⟩
      ·show cs[i]? = none
       rw [List.getElem?_eq_none]
       rw [← en2.len]
       exact hi
      ·cases hp
    refine calls_of_wp hf hb (hev _ _ _ _ hrel _ ?_)
    intro e ρ' st' a' w' k1 k2 k3 k4 k5
    have fin : s.read ti fn.results.toList st' = some y → a'.defers = [] ∧ ∃ v, (results fn a'.tmps).run P w' = .ok v w' ∧ ∃ v', Ending.returned v = .returned v' ∧ Zrr (s.enc y) F0 L N w v' w' := by
     intro hread
     unfold Sig.read at hread
     split at hread
     ·rename_i d b hd hbb
      cases hc : (Zmk (d.1.owns ++ b.1.owns ++ b.2) && Zho (d.1.owns ++ b.1.owns ++ b.2) (d.1.pures ++ b.1.pures) && Zmk (d.2 ++ Zjj s.ps 0)) with
      | false => rw [hc] at hread; cases hread
      | true =>
       rw [hc] at hread
       have hread : Zxk s.outs (d.1.ds ++ b.1.ds) = some y := hread
       obtain ⟨c12, c3⟩ := (Bool.and_eq_true _ _).mp hc
       obtain ⟨c1, c2⟩ := (Bool.and_eq_true _ _).mp c12
       obtain ⟨us, O2, S2, hus, told, henc⟩ := Zy3 (C := { ti := ti, con := fun _ => [] }) T k2 (d := d.1) (bs := d.2) b.1.ds hd
       have hlater : Zwf ρ' 0 cs := fun j c hj => by
        rw [Nat.zero_add]
        exact k3.conc j c hj
       obtain ⟨O1, toldb⟩ := Z7n k2 (d := b.1) (S := b.2) hbb hslots hlater
       refine ⟨k2.defers, _, Zn9 hus, _, rfl, ?_⟩
       have hof : Zif s.outs y = d.1.ds ++ b.1.ds := Zgq hread
       have henc2 : s.enc y = ⟨(Zme s.rs (d.1.ds ++ b.1.ds)).1, Zmi s.ps b.1.ds⟩ := by
        show (⟨(Zme s.rs (Zif s.outs y)).1, Zmi s.ps (Zme s.rs (Zif s.outs y)).2⟩ : RR) = _
        rw [hof, henc]
       rw [henc2]
       exact Zgab (ps := s.ps) hG hperm k2 k3 told toldb (Z5p c1) (fun n hn hm => Zfs c2 n hn hm) (Z5p c3)
     ·cases hread
    cases e with
    | nrm =>
     obtain ⟨h1, v, h2, v', h3, h4⟩ := fin k1
     exact ⟨h1, v, h2, v', h3, h4⟩
    | ret =>
     obtain ⟨h1, v, h2, v', h3, h4⟩ := fin k1
     exact ⟨h1, v, h2, v', h3, h4⟩
    | exit j => cases k1
  ·cases hrr
 ·cases hrr
theorem Zk {f : FuncId} {fn : Func} {c : Code} {s : Sig} {p : Plan} {F : Za s.ins → Option (Za s.outs)} (H : CtxOk P C) (hf : P.funcs[f]? = some fn) (hname : (fn.name == "runtime.NumGoroutine") = false) (hb : fn.body = some c)
  (hn : fn.ntmps = s.ntmps) (hps : Nat.ble s.ps.length s.ntmps = true) (hp : Zhf P C p c) (hev : ∀ x y, F x = some y → s.ev C p fn.results.toList c x = some y) : Zf P f (s.con F) :=
 Zu4 H.ti hf hname hb hn hps fun x y hx X ρ a w hrel => Zin H c hp hrel (hev x y hx)
end
end Go.Proofs.YtfbancgdmghnkaaGreatDoorE
