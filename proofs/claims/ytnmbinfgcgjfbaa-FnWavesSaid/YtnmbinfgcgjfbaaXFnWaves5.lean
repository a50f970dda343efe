/- What the law FnWaves needs, part 6 of 6: the Lean functions of the Go functions that it reaches, with the proofs that the calls come to what they say, and plain facts about them; the last theorem is the law. Conditions: those that each theorem states. Written by a session and by its programs (after the kit's printer). -/
import Derived.Test.YtnmbinfgcgjfbaaRows
import Derived.Carry
import Derived.Handed
import Derived.Test.YtnmbinfgcgjfbaaXFnWaves4
namespace Go.Proofs.YtnmbinfgcgjfbaaE
open Go
set_option linter.unusedVariables false
def Ever (p : Nat → Prop) : Prop := ∃ K, ∀ k, K ≤ k → p k
theorem Ever.of {p : Nat → Prop} (h : ∀ k, p k) : Ever p := ⟨0, fun k _ => h k⟩
theorem Ever.ge {p : Nat → Prop} (K : Nat) (h : ∀ k, K ≤ k → p k) : Ever p := ⟨K, h⟩
theorem Ever.mono {p q : Nat → Prop} (h : Ever p) (f : ∀ k, p k → q k) : Ever q := by
  obtain ⟨K, h⟩ := h
  exact ⟨K, fun k hk => f k (h k hk)⟩
theorem Ever.and {p q : Nat → Prop} (h : Ever p) (g : Ever q) : Ever fun k => p k ∧ q k := by
  obtain ⟨K, h⟩ := h
  obtain ⟨J, g⟩ := g
  exact ⟨K + J, fun k hk => ⟨h k (by omega), g k (by omega)⟩⟩
theorem Ever.ex {p : Nat → Prop} (h : Ever p) : ∃ k, p k := by
  obtain ⟨K, h⟩ := h
  exact ⟨K, h K (Nat.le_refl K)⟩
theorem Ever.all {n : Nat} {p : Nat → Nat → Prop} : (∀ i, i < n → Ever (p i)) → Ever fun k => ∀ i, i < n → p i k := by
  induction n with
  | zero => exact fun _ => ⟨0, fun k _ i hi => absurd hi (Nat.not_lt_zero i)⟩
  | succ n ih =>
    intro h
    refine ((ih fun i hi => h i (Nat.lt_succ_of_lt hi)).and (h n (Nat.lt_succ_self n))).mono fun k hk i hi => ?_
    rcases Nat.eq_or_lt_of_le (Nat.le_of_lt_succ hi) with rfl | hi
    · exact hk.2
    · exact hk.1 i hi
/-- Two facts, then a third. -/
theorem Ever.two {p q r : Nat → Prop} (h : Ever p) (g : Ever q) (f : ∀ k, p k → q k → r k) : Ever r := (h.and g).mono fun k hk => f k hk.1 hk.2
/-- A loop of n rounds: what it has in hand at round i is told by i. -/
theorem ever_loop {R : Type} (L : Nat → Nat → Nat → Option R) (n : Nat) (r : R) (hs : Ever fun k => ∀ i, i < n → ∀ j, L k (j + 1) i = L k j (i + 1)) (hl : Ever fun k => ∀ j, L k (j + 1) n = some r) : Ever fun k => L k k 0 = some r := by
  obtain ⟨K, hs⟩ := hs
  obtain ⟨J, hl⟩ := hl
  refine ⟨K + J + n + 1, fun k hk => ?_⟩
  have hs := hs k (by omega)
  have hl := hl k (by omega)
  have key : ∀ d i j, i + d = n → d < j → L k j i = some r := by
    intro d
    induction d with
    | zero =>
      intro i j hi hj
      obtain ⟨m, rfl⟩ : ∃ m, j = m + 1 := ⟨j - 1, by omega⟩
      obtain rfl : i = n := by omega
      exact hl m
    | succ d ih =>
      intro i j hi hj
      obtain ⟨m, rfl⟩ : ∃ m, j = m + 1 := ⟨j - 1, by omega⟩
      rw [hs i (by omega) m]
      exact ih (i + 1) m (by omega) (by omega)
  exact key n 0 k (by omega) (by omega)
/-- The same, where neither the round nor the end hangs on fuel. -/
theorem loop_of {R : Type} (L : Nat → Nat → Option R) (n : Nat) (r : R) (hs : ∀ i, i < n → ∀ j, L (j + 1) i = L j (i + 1)) (hl : ∀ j, L (j + 1) n = some r) : Ever fun k => L k 0 = some r :=
  ever_loop (fun _ j i => L j i) n r (Ever.of fun _ => hs) (Ever.of fun _ => hl)
theorem bnd {α β : Type} {f : Nat → Option α} {g : Nat → α → Option β} {a : α} {b : β} (h : Ever fun k => f k = some a) (k : Ever fun k => g k a = some b) : Ever fun k => (f k).bind (g k) = some b :=
  h.two k fun k h1 h2 => by rw [h1]; exact h2
theorem some_cond {α : Type} {b : Bool} {x y : Option α} (hx : ∃ v, x = some v) (hy : ∃ v, y = some v) : ∃ v, (bif b then x else y) = some v := by
  cases b
  · exact hy
  · exact hx
theorem some_bind {α β : Type} {x : Option α} {f : α → Option β} (hx : ∃ v, x = some v) (hf : ∀ v, ∃ w, f v = some w) : ∃ w, x.bind f = some w := by
  obtain ⟨v, rfl⟩ := hx
  exact hf v
/-! ### numbers -/
theorem w64 {n : Int} (h0 : -9223372036854775808 ≤ n) (h1 : n < 9223372036854775808) : IntKind.wrap .i64 n = n := by
  simp [IntKind.wrap, IntKind.bits, IntKind.signed]
  omega
theorem wf64 {n : Int} (h : Bnd (.int .i64) n) : -9223372036854775808 ≤ n ∧ n < 9223372036854775808 := by
  have h : (Lit.int .i64 n).wf = true := h
  simp [Lit.wf, IntKind.min, IntKind.max, IntKind.signed, IntKind.bits] at h
  omega
theorem wn {n : Nat} (h : n < 9223372036854775808) : IntKind.wrap .i64 (n : Int) = n := w64 (by omega) (by omega)
theorem wsuc {n : Nat} (h : n < 9223372036854775807) : IntKind.wrap .i64 ((n : Int) + 1) = ((n + 1 : Nat) : Int) := by rw [w64] <;> omega
/-! ### partial answers -/
theorem at_nat {α : Type} {l : List α} {i : Nat} (h : i < l.length) : at? l (i : Int) = some l[i] := by
  unfold at?
  rw [if_pos (by omega), Int.toNat_natCast, List.getElem?_eq_getElem h]
theorem app_ok {α : Type} {n : Nat} {a b : List α} (h : (a.length + b.length) * n ≤ 140737488355328) : app? n a b = some (a ++ b) := if_pos h
theorem cat_some {a b : Str} (h : a.length + b.length ≤ 9223372036854775807) : cat? a b = some (a ++ b) := if_pos h
theorem make_some {α : Type} {b n : Nat} {x : α} (h : n * b ≤ 140737488355328) : make? b (n : Int) (n : Int) x = some (List.replicate n x) := by
  unfold make?
  rw [if_pos ⟨by omega, Int.le_refl _, by rw [Int.toNat_natCast]; exact h⟩, Int.toNat_natCast]
theorem cut_ok {α : Type} {l : List α} {i j : Nat} (h : i ≤ j) (k : j ≤ l.length) : cut? l (i : Int) (j : Int) = some ((l.take j).drop i) := by
  unfold cut?
  rw [if_pos ⟨by omega, by omega, by omega⟩, Int.toNat_natCast, Int.toNat_natCast]
theorem room_some {n b : Nat} (h : n * b ≤ 140737488355328) : room? n b = some () := if_pos h
theorem nz_some {b : Int} (h : b ≠ 0) : nz? b = some () := if_neg h
theorem nneg_some {b : Int} (h : 0 ≤ b) : nneg? b = some () := if_neg (by omega)
theorem take_map_succ {α β : Type} {l : List α} (f : α → β) {i : Nat} (h : i < l.length) : (l.take (i + 1)).map f = (l.take i).map f ++ [f l[i]] := by
  rw [List.take_add_one, List.getElem?_eq_getElem h, List.map_append]
  rfl
theorem take_succ' {α : Type} {l : List α} {i : Nat} (h : i < l.length) : l.take (i + 1) = l.take i ++ [l[i]] := by
  rw [List.take_add_one, List.getElem?_eq_getElem h]
  rfl
/-- A list that is filled, place by place. -/
theorem fill_set {α β : Type} {l : List α} {f : α → β} {z : β} {i : Nat} (h : i < l.length) :
    ((l.take i).map f ++ List.replicate (l.length - i) z).set i (f l[i]) = (l.take (i + 1)).map f ++ List.replicate (l.length - (i + 1)) z := by
  have hl : ((l.take i).map f).length = i := by simp; omega
  rw [List.set_append_right _ _ (by rw [hl]; exact Nat.le_refl i), hl, Nat.sub_self, show l.length - i = (l.length - (i + 1)) + 1 by omega, List.replicate_succ, List.set_cons_zero, take_map_succ f h, List.append_assoc]
  rfl
theorem fill_len {α β : Type} {l : List α} {f : α → β} {z : β} {i : Nat} (h : i ≤ l.length) : ((l.take i).map f ++ List.replicate (l.length - i) z).length = l.length := by simp; omega
end Go.Proofs.YtnmbinfgcgjfbaaE

namespace Go.Proofs.YtnmbinfgcgjfbaaE
open Go
def laws_FnWaves.Pure : Prop := ∀ (y0 : List Int) (y1 : List Int), Bnd (.sl (.int .u8)) y0 → Bnd (.sl (.int .u8)) y1 → ∃ k : Nat, laws_FnWaves k y0 y1 = some true
end Go.Proofs.YtnmbinfgcgjfbaaE

namespace Go.Proofs.YtnmbinfgcgjfbaaE
open Go
set_option linter.unusedVariables false
namespace Waves
def ok (a b c : Nat) : Bool := match laws_FnWaves 20 [(a : Int), (b : Int), (c : Int)] [] with
  | some true => true
  | _ => false
theorem isT {x : Option Bool} (h : (match x with
  | some true => true
  | _ => false) = true) : x = some true := by
  cases x with
  | none => cases h
  | some b => cases b with
    | false => cases h
    | true => rfl
theorem all0 : ((List.range 12).all fun a => (List.range 13).all fun c => ok a 0 c) = true := by kernel_rfl
theorem all1 : ((List.range 12).all fun a => (List.range 13).all fun c => ok a 1 c) = true := by kernel_rfl
theorem all2 : ((List.range 12).all fun a => (List.range 13).all fun c => ok a 2 c) = true := by kernel_rfl
theorem all3 : ((List.range 12).all fun a => (List.range 13).all fun c => ok a 3 c) = true := by kernel_rfl
theorem two {f : Nat → Nat → Bool} {n m : Nat} (h : ((List.range n).all fun a => (List.range m).all fun c => f a c) = true) {a c : Nat} (ha : a < n) (hc : c < m) : f a c = true :=
  List.all_eq_true.1 (List.all_eq_true.1 h a (List.mem_range.2 ha)) c (List.mem_range.2 hc)
theorem okAll {a b c : Nat} (ha : a < 12) (hb : b < 4) (hc : c < 13) : ok a b c = true := by
  match b, hb with
  | 0, _ => exact two all0 ha hc
  | 1, _ => exact two all1 ha hc
  | 2, _ => exact two all2 ha hc
  | 3, _ => exact two all3 ha hc
theorem byte_of_bnd {n : Int} (h : Bnd (.int .u8) n) : 0 ≤ n ∧ n < 256 := by
  have h : (Lit.int .u8 n).wf = true := h
  simp [Lit.wf, IntKind.min, IntKind.max, IntKind.signed, IntKind.bits] at h
  omega
theorem lwAt_lt {l : List Int} (hl : Bnd (.sl (.int .u8)) l) (i m : Nat) (hm : 1 < m) : ∃ x : Nat, x < m ∧ laws_lwAt l (i : Int) (m : Int) = some (x : Int) := by
  unfold laws_lwAt
  rw [decide_eq_false (by omega : ¬ ((m : Int) ≤ 1))]
  cases l with
  | nil => exact ⟨0, by omega, rfl⟩
  | cons c t =>
    have e : (((c :: t : List Int).length : Int) == 0) = false := by
      rw [Bool.eq_false_iff, Ne, beq_iff_eq, List.length_cons]
      omega
    rw [e, nz_some (by rw [List.length_cons]; omega)]
    have hp : 0 < (c :: t : List Int).length := by simp
    have hx : i % (c :: t : List Int).length < (c :: t : List Int).length := Nat.mod_lt _ hp
    have e2 : Int.tmod (i : Int) ((c :: t : List Int).length : Int) = ((i % (c :: t : List Int).length : Nat) : Int) := by
      rw [Int.tmod_eq_emod_of_nonneg (by omega)]; exact (Int.natCast_emod _ _).symm
    have hb := byte_of_bnd (hl.2 _ (List.getElem_mem hx))
    simp only [Bool.or_false, cond_false, Option.bind_some]
    rw [e2, at_nat hx]
    simp only [Option.bind_some]
    rw [nz_some (by omega : (m : Int) ≠ 0)]
    simp only [Option.bind_some]
    generalize (c :: t : List Int)[i % (c :: t : List Int).length] = v at hb
    have h1 : Int.tmod v (m : Int) = v % (m : Int) := Int.tmod_eq_emod_of_nonneg (by omega)
    have h2 := Int.emod_nonneg v (by omega : (m : Int) ≠ 0)
    have h3 := Int.emod_lt_of_pos v (by omega : (0 : Int) < (m : Int))
    refine ⟨(v % (m : Int)).toNat, by omega, ?_⟩
    rw [w64 (by omega) (by omega), h1]
    congr 1
    omega
end Waves
open Waves in
theorem laws_FnWaves.proved : laws_FnWaves.Pure := by
  intro l l' hl hl'
  refine ⟨20, ?_⟩
  by_cases hb : 1048576 < l.length ∨ 1048576 < l'.length
  · unfold laws_FnWaves
    rcases hb with hb | hb
    · rw [decide_eq_true (by omega : 1048576 < (l.length : Int))]; rfl
    · rw [decide_eq_true (by omega : 1048576 < (l'.length : Int)), Bool.or_true]; rfl
  obtain ⟨a, ha, e0⟩ := lwAt_lt hl 0 12 (by omega)
  obtain ⟨b, hb', e1⟩ := lwAt_lt hl 1 4 (by omega)
  obtain ⟨c, hc, e2⟩ := lwAt_lt hl 2 13 (by omega)
  have e0 : laws_lwAt l 0 12 = some (a : Int) := e0
  have e1 : laws_lwAt l 1 4 = some (b : Int) := e1
  have e2 : laws_lwAt l 2 13 = some (c : Int) := e2
  have f0 : laws_lwAt [(a : Int), (b : Int), (c : Int)] 0 12 = some (a : Int) := by
    show some (Int.tmod (IntKind.wrap .i64 (a : Int)) 12) = _
    rw [w64 (by omega) (by omega), Int.tmod_eq_emod_of_nonneg (by omega)]; congr 1; omega
  have f1 : laws_lwAt [(a : Int), (b : Int), (c : Int)] 1 4 = some (b : Int) := by
    show some (Int.tmod (IntKind.wrap .i64 (b : Int)) 4) = _
    rw [w64 (by omega) (by omega), Int.tmod_eq_emod_of_nonneg (by omega)]; congr 1; omega
  have f2 : laws_lwAt [(a : Int), (b : Int), (c : Int)] 2 13 = some (c : Int) := by
    show some (Int.tmod (IntKind.wrap .i64 (c : Int)) 13) = _
    rw [w64 (by omega) (by omega), Int.tmod_eq_emod_of_nonneg (by omega)]; congr 1; omega
  have key : laws_FnWaves 20 l l' = laws_FnWaves 20 [(a : Int), (b : Int), (c : Int)] [] := by
    unfold laws_FnWaves
    rw [decide_eq_false (by omega : ¬ (1048576 < (l.length : Int))), decide_eq_false (by omega : ¬ (1048576 < (l'.length : Int))), e0, e1, e2, f0, f1, f2]
    rfl
  rw [key]
  exact isT (okAll ha hb' hc)
end Go.Proofs.YtnmbinfgcgjfbaaE

namespace Go.Proofs.Ytnmbinfgcgjfbaa.fnWaves
open Go Go.ChangeShapes Go.WideShapes Go.ChangeAt Go.RowKit Go.Proofs.YtnmbinfgcgjfbaaE
set_option linter.unusedVariables false
theorem own : ownKnob Try.prog.godebug = none := by kernel_rfl
theorem laidOut : laidOutB Try.prog = true := by kernel_rfl
theorem go (k : Nat) (y0 : List Int) (y1 : List Int) : (laws_FnWaves.con k).f [argC false (.sl (.int .u8)) y0, argC false (.sl (.int .u8)) y1] = .opt (Prod' laws_FnWaves.sig.outs) (laws_FnWaves k y0 y1) laws_FnWaves.sig.enc := by kernel_rfl
set_option maxRecDepth 100000 in
theorem lifted (os : Os) (started : os.Started) (H : Type) (enc : TypeId × Value → H) :
    ReturnsInHanded {} Try.checked os 3 .any (Rows.fnWavesSpec.pre6 enc Try.prog Try.f3 Rows.fnWavesRow.domain false) (Rows.fnWavesSpec.post enc Try.prog Try.f3 false true false false) := by
  refine returnsInHanded_of_change_sized (C := Try.checked) own started (by kernel_rfl) Try.func3
    (ChangeSpec.witness6 (enc := enc) (C := Try.checked) false ⟨#[], #[.slice none 0 0, .slice none 0 0], []⟩ 8 (by kernel_rfl) (by kernel_rfl) (by kernel_rfl) (by kernel_rfl)) ?_
  intro W base args ds gs before hval0 hW hcnd hsz0 _
  have hsz : (DataW.weightsEach Try.prog (Try.f3.params.toList ++ Rows.fnWavesSpec.plain.varTypes Try.prog) (ds ++ gs)).all (· ≤ reachBytes) = true := hsz0
  have hval : ∀ (j : Nat) t v, Try.f3.params[j]? = some t → args[j]? = some v → Value.okWide Try.prog W .any base t v := hval0
  have hW' := hW
  obtain ⟨p, q, hA0, hV, rfl, hfz, hnd⟩ := hW
  have hA : DataW.TrodAll enc Try.prog W 0 (fun _ => true) true Try.f3.params.toList args.toList ds p := hA0
  rw [Try.params3] at hA hval hsz
  obtain ⟨v0, vs0, d0, ds0, p0, q0, hargs, rfl, rfl, h0, r0⟩ := trodAll_cons hA
  obtain ⟨v1, vs1, d1, ds1, p1, q1, rfl, rfl, rfl, h1, r1⟩ := trodAll_cons r0
  obtain ⟨rfl, rfl, rfl⟩ := trodAll_nil r1
  obtain rfl : args = #[v0, v1] := by cases args; simp_all
  obtain ⟨rfl, rfl⟩ := trodVars_none hV
  have lt0 := trod_lt_all h0
  have z0 := weights_arg hsz (j := 0) (t := 22) rfl rfl
  obtain ⟨y0, b0, c0⟩ := arg_rep (ty := (.sl (.int .u8))) (n := 20) (ag := false) (by kernel_rfl) (by kernel_rfl) (hval 0 22 v0 rfl rfl) h0 z0
  have lt1 := trod_lt_all h1
  have z1 := weights_arg hsz (j := 1) (t := 22) rfl rfl
  obtain ⟨y1, b1, c1⟩ := arg_rep (ty := (.sl (.int .u8))) (n := 20) (ag := false) (by kernel_rfl) (by kernel_rfl) (hval 1 22 v1 rfl rfl) h1 z1
  obtain ⟨k, hp⟩ := laws_FnWaves.proved y0 y1 b0 b1
  have hrr : ((laws_FnWaves.con k).f [argC false (.sl (.int .u8)) y0, argC false (.sl (.int .u8)) y1]).val = some ⟨[.val false [.leaf (.bool true)]], []⟩ := by
    refine (congrArg CR.val (go k y0 y1)).trans ?_
    rw [hp]
    kernel_rfl
  refine (law_true (laws_FnWaves.ok k) hrr (vs := [v0, v1]) (cargs_cons (c0 _) (cargs_cons (c1 _) cargs_nil))).mono fun e W' ⟨he, bel0⟩ => ?_
  have bel : Below W.heap.size W W' := bel0
  subst he
  exact ⟨_, rfl, _, _, _, [], _, [], hW', trodAll_mk1 (shutB Try.underlying4 _), (trodAll_cons_mk (Below.trod laidOut (by kernel_rfl) (of_decide_eq_true (by kernel_rfl)) h0 bel lt0) (trodAll_cons_mk (Below.trod laidOut (by kernel_rfl) (of_decide_eq_true (by kernel_rfl)) h1 bel lt1) trodAll_mk0)), rfl, bel.frame _, fun h => by cases h⟩
theorem over : Rows.fnWavesRow.holds Try.pinned (OpenSpec.ofChange Rows.fnWavesSpec) :=
  OpenClaim.holds_of_wide 3 Try.f3 rfl rfl rfl rfl rfl rfl rfl ⟨rfl, rfl, rfl, rfl, rfl⟩ rfl rfl rfl rfl rfl (by kernel_rfl) Try.func3 (by kernel_rfl)
    (of_decide_eq_true (by kernel_rfl)) (by unfold Func.isWrapper; first | (rw [if_pos (by decide +kernel)]; kernel_rfl) | (rw [if_neg (by decide +kernel)]; exact ⟨rfl, rfl⟩))
    (fun os started H enc _ => lifted os started H enc)
theorem proved : Rows.FnWavesSaid := over
end Go.Proofs.Ytnmbinfgcgjfbaa.fnWaves
namespace Go.Proofs.Ytnmbinfgcgjfbaa
/-- The row, under a short name, for the claim. -/
theorem fnWaves_holds : Rows.FnWavesSaid := fnWaves.proved
#print axioms fnWaves_holds
end Go.Proofs.Ytnmbinfgcgjfbaa
