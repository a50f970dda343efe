/- What the law FnExactDeedText needs, part 6 of 8: the Lean functions of the Go functions that it reaches, with the proofs that the calls come to what they say, and plain facts about them. Conditions: those that each theorem states. Written by a session and by its programs (after the kit's printer). -/
import Derived.Laws.StructEq
import Derived.ChangeKeysEq
import Derived.OpenShut
import Derived.ChangeOld
import Derived.Below
import Derived.SizedLaws
import Derived.ChangeArms
import Derived.ChangeShapes
import Derived.WideShapes
import Derived.Lib.LaidTab
import Derived.Lib.AppendIntMem
import Derived.Shelf.Strings.Builder1
import Derived.Shelf.Strings.Builder2
import Derived.Shelf.Strings.OnBuilder
import Derived.Shelf.Strings.BuilderF
import Derived.Shelf.Strings.BuilderK
import Derived.Shelf.Utf8.RuneCount
import Derived.Shelf.Strings.Builder2Cap
import Derived.Shelf.Strconv.Itoa0
import Derived.Shelf.Strconv.Itoa1
import Derived.Shelf.LaysM
import Derived.Shelf.Strconv.Itoa2
import Derived.Shelf.Strconv.Itoa3
import Derived.Shelf.Strconv.Itoa4
import Derived.Shelf.Strings.Search1
import Derived.Shelf.Strings.Search2
import Derived.Shelf.Strings.Search3
import Derived.Shelf.Strings.Count
import Derived.Shelf.Strings.Shaped
import Derived.Shelf.Strings.Split
import Derived.Shelf.Strings.RuneCount
import Derived.Test.YtaajcllchbnjiaaDoorProg
import Derived.Test.YtaajcllchbnjiaaDoorXFnExactDeedText4
namespace Go.Proofs.YtaajcllchbnjiaaDoorE
open Go
set_option linter.unusedVariables false
def leafChk : Leaf → Value → Bool
  | .int k n, .int k' n' => decide (k = k') && decide (n = n')
  | .kb b, .bool b' => b == b'
  | .str [], .string s => Nat.beq s.data.toList.length 0
  | .nil, .slice none 0 0 => true
  | .unk, v => v.oneCell'
  | _, _ => false
def leavesChk : List Leaf → List Value → Bool
  | [], [] => true
  | x :: xs, v :: vs => leafChk x v && leavesChk xs vs
  | _, _ => false
def nz (P : Program) (t : TypeId) : Bool := match P.info? t with
  | some q => !(Nat.beq q.size 0)
  | none => false
def fieldsChk (P : Program) : List (Nat × TypeId) → List Field → Bool
  | [], [] => true
  | (o, t) :: os, f :: fs => Nat.beq f.offset o && Nat.beq f.type t && nz P t && fieldsChk P os fs
  | _, _ => false
def kindChk (P : Program) (i : TI) : TypeDesc → Bool
  | .int k => Nat.beq i.kind 1 && decide (k = i.ik)
  | .string => Nat.beq i.kind 2
  | .slice e => Nat.beq i.kind 3 && Nat.beq e i.elem
  | .struct fs => Nat.beq i.kind 4 && fieldsChk P i.offs fs.toList
  | .bool => Nat.beq i.kind 5
  | .map _ _ => Nat.beq i.kind 6
  | .array _ _ => Nat.beq i.kind 7
  | _ => Nat.beq i.kind 0
def aggD : TypeDesc → Bool
  | .struct _ => true
  | .array _ _ => true
  | _ => false
def notAgg : Value → Bool
  | .agg _ => false
  | _ => true
def zeroChk (i : TI) : Option Value → Bool
  | some z => Nat.beq z.cells.size i.sz && leavesChk i.zero z.cells.toList && (i.agg || notAgg z)
  | none => false
def scalT : Ty → Option TypeDesc → Bool
  | .int _, some (.int _) => true
  | .bool, some .bool => true
  | .str, some .string => true
  | _, _ => false
/-- The leaves that a type's comparison takes off a list of leaves. -/
def eqFs (P : Program) (rec : TypeId → List Ty → Option (List Ty)) : List Field → Nat → List Ty → Option (List Ty)
  | [], _, ts => some ts
  | f :: fs, o, ts => bif !(f.name == "_") && Nat.beq f.offset o then match rec f.type ts with
      | some r => bif Nat.blt r.length ts.length && Nat.beq ((P.info? f.type).map (·.size) |>.getD 0) (ts.length - r.length) then eqFs P rec fs (o + (ts.length - r.length)) r else none
      | none => none
    else none
def eqC (P : Program) : Nat → TypeId → List Ty → Option (List Ty)
  | 0, _, _ => none
  | n + 1, t, ts => match P.underlying t with
    | some (.int _) => match ts with
      | .int _ :: r => some r
      | _ => none
    | some .bool => match ts with
      | .bool :: r => some r
      | _ => none
    | some .string => match ts with
      | .str :: r => some r
      | _ => none
    | some (.struct fs) => bif P.stoodInHeld t || Nat.beq fs.toList.length 0 then none else eqFs P (eqC P n) fs.toList 0 ts
    | _ => none
def eqChk (P : Program) (t : TypeId) (ty : Ty) : Bool := match P.underlying t with
  | some (.struct fs) => !(P.stoodInHeld t) && !(Nat.beq fs.toList.length 0) && (match eqFs P (eqC P 8) fs.toList 0 (leafTys ty) with
    | some [] => true
    | _ => false)
  | _ => false
def zeroIs (P : Program) (e : TypeId) : Bool := match P.info? e with
  | some q => match q.zero with
    | some (.bool false) => true
    | _ => false
  | none => false
def mapChk (P : Program) : TypeDesc → Bool
  | .map k e => (match P.underlying k with
    | some (.int .i64) => true
    | _ => false) && zeroIs P e
  | _ => false
def arrChk (i : TI) : TypeDesc → Bool
  | .array n e => Nat.beq e i.elem && match i.offs with
    | [(m, _)] => Nat.beq m n
    | _ => false
  | _ => false
def tiChk (P : Program) (t : TypeId) (i : TI) : Bool := match P.info? t, P.underlying t with
  | some q, some d => Nat.beq q.size i.sz && Nat.beq q.bytes i.bytes && zeroChk i q.zero && (i.agg == aggD d) && kindChk P i d && (Nat.beq i.sz 0 || Nat.blt 0 i.bytes) && (!i.eqs || eqChk P t i.ty) && (!(Nat.beq i.kind 3) || !(isMap i.elem)) && (!(Nat.beq i.kind 6) || mapChk P d) && (!(Nat.beq i.kind 7) || arrChk i d)
  | _, _ => false
def tabChk (P : Program) : Tab TI → (Nat → Nat) → Bool
  | .nil, _ => true
  | .node l v r, g => (match v with
    | some i => tiChk P (g 0) i
    | none => true) && tabChk P l (fun m => g (2 * m + 1)) && tabChk P r (fun m => g (2 * m + 2))
section
variable {P : Program} {X : Nat → Prop} {ρ : Rho} {w : World}
theorem leafChk_ok {x : Leaf} {v : Value} (h : leafChk x v = true) : LeafOk X ρ w x v := by
  unfold leafChk at h
  split at h
  · obtain ⟨h1, h2⟩ := (Bool.and_eq_true _ _).mp h
    rw [of_decide_eq_true h1, of_decide_eq_true h2]
    rfl
  · rename_i b b'
    rw [show b = b' by simpa using h]
    rfl
  · rename_i s
    have h := Nat.eq_of_beq_eq_true h
    show Value.string s = .string (ba [])
    congr 1
    apply ByteArray.ext
    apply Array.ext'
    show s.data.toList = []
    exact List.eq_nil_of_length_eq_zero h
  · rfl
  · exact h
  · cases h
theorem leavesChk_ok : ∀ {xs : List Leaf} {vs : List Value}, leavesChk xs vs = true → LeavesOk X ρ w xs vs
  | [], [], _ => trivial
  | x :: xs, v :: vs, h => by
    obtain ⟨h1, h2⟩ := (Bool.and_eq_true _ _).mp (show (leafChk x v && leavesChk xs vs) = true from h)
    exact ⟨leafChk_ok h1, leavesChk_ok h2⟩
  | [], _ :: _, h => by cases h
  | _ :: _, [], h => by cases h
theorem nz_ok {t : TypeId} (h : nz P t = true) : ∃ q, P.info? t = some q ∧ q.size ≠ 0 := by
  unfold nz at h
  split at h
  · rename_i q hq
    refine ⟨q, hq, fun e => ?_⟩
    rw [e] at h
    cases h
  · cases h
theorem fieldsChk_ok : ∀ {os : List (Nat × TypeId)} {fs : List Field}, fieldsChk P os fs = true →
    (∀ (f o : Nat) (ft : TypeId), os[f]? = some (o, ft) → ∃ fl, fs[f]? = some fl ∧ fl.offset = o ∧ fl.type = ft ∧ ∃ q, P.info? ft = some q ∧ q.size ≠ 0) ∧
    ∃ places, fs.mapM (fun f => (P.info? f.type).map fun i => (f.offset, i.size)) = some places ∧ ∀ (f o : Nat) (ft : TypeId), os[f]? = some (o, ft) → ∃ q, P.info? ft = some q ∧ places[f]? = some (o, q.size)
  | [], [], _ => ⟨fun f o ft h => (by rw [List.getElem?_nil] at h; cases h), [], by simp, fun f o ft h => by rw [List.getElem?_nil] at h; cases h⟩
  | (o, t) :: os, f :: fs, h => by
    unfold fieldsChk at h
    simp only [Bool.and_eq_true] at h
    obtain ⟨⟨⟨h1, h2⟩, h3⟩, h4⟩ := h
    have h1 := Nat.eq_of_beq_eq_true h1
    have h2 := Nat.eq_of_beq_eq_true h2
    obtain ⟨q, hq, hq0⟩ := nz_ok h3
    obtain ⟨i1, places, i2, i3⟩ := fieldsChk_ok h4
    refine ⟨fun j o' ft hj => ?_, (o, q.size) :: places, ?_, fun j o' ft hj => ?_⟩
    · cases j with
      | zero =>
        cases hj
        exact ⟨f, rfl, h1, h2, q, hq, hq0⟩
      | succ j => exact i1 j o' ft hj
    · rw [List.mapM_cons, h2, hq]
      simp [i2, h1]
    · cases j with
      | zero =>
        cases hj
        exact ⟨q, hq, rfl⟩
      | succ j => exact i3 j o' ft hj
  | [], _ :: _, h => by cases h
  | _ :: _, [], h => by cases h
/-! #### '==' of structs of scalars -/
theorem scal_plain {t : TypeId} {ty : Ty} (h : scalT ty (P.underlying t) = true) : (∃ k k', ty = .int k ∧ P.underlying t = some (.int k')) ∨ (ty = .bool ∧ P.underlying t = some .bool) ∨ (ty = .str ∧ P.underlying t = some .string) := by
  unfold scalT at h
  split at h
  · rename_i hu; exact .inl ⟨_, _, rfl, hu⟩
  · rename_i hu; exact .inr (.inl ⟨rfl, hu⟩)
  · rename_i hu; exact .inr (.inr ⟨rfl, hu⟩)
  · cases h
theorem scal_part {t : TypeId} {ty : Ty} (h : scalT ty (P.underlying t) = true) {xs : Array Value} {off : Nat} {v : Value} (hx : xs[off]? = some v) : (Go.part t xs off).run P w = .ok v w := by
  rcases scal_plain h with ⟨k, k', _, hu⟩ | ⟨_, hu⟩ | ⟨_, hu⟩ <;> simp [Go.part, isAgg, run_underlying hu, hx]
theorem scal_eq {t : TypeId} {ty : Ty} (h : scalT ty (P.underlying t) = true) {x y : Leaf} {u v : Value} {b : Bool} {d : Nat} (hx : LeafOk X ρ w x u) (hy : LeafOk X ρ w y v) (hb : eqLeafT ty x y = some b) : (Op.equalIn (d + 1) t u v).run P w = .ok b w := by
  rcases scal_plain h with ⟨k, k', rfl, hu⟩ | ⟨rfl, hu⟩ | ⟨rfl, hu⟩
  · unfold eqLeafT at hb
    split at hb
    · rename_i k1 a k2 c he
      split at hb
      · rename_i hk
        subst hk
        cases hb
        obtain rfl : u = .int k1 a := hx
        obtain rfl : v = .int k1 c := hy
        exact run_equalIn_int _ d t k1 k' a c hu
      · cases hb
    all_goals first | (rename_i he; cases he; done) | cases hb
  · unfold eqLeafT at hb
    split at hb
    · rename_i he; cases he
    · rename_i a c _
      cases hb
      obtain rfl : u = .bool a := hx
      obtain rfl : v = .bool c := hy
      exact run_equalIn_bool' _ d t a c hu
    · rename_i a c _
      cases hb
      obtain rfl : u = .bool a := hx
      obtain rfl : v = .bool c := hy
      exact run_equalIn_bool' _ d t a c hu
    · rename_i a c _
      cases hb
      obtain rfl : u = .bool a := hx
      obtain rfl : v = .bool c := hy
      exact run_equalIn_bool' _ d t a c hu
    · rename_i he; cases he
    · cases hb
  · unfold eqLeafT at hb
    split at hb
    · rename_i he; cases he
    · rename_i he; cases he
    · rename_i he; cases he
    · rename_i he; cases he
    · rename_i a c _
      cases hb
      obtain rfl : u = .string (ba a) := hx
      obtain rfl : v = .string (ba c) := hy
      have := run_equalIn_string (P := P) w d t (ba a) (ba c) hu
      rw [this]
      rw [ba_toList, ba_toList]
    · cases hb
theorem eqf_last {d : Nat} {xs ys : Array Value} {f : Field} {a b : Value} {r : Bool} (hn : (f.name == "_") = false) (ha : (Go.part f.type xs f.offset).run P w = .ok a w) (hb : (Go.part f.type ys f.offset).run P w = .ok b w) (he : (Op.equalIn d f.type a b).run P w = .ok r w) : (Op.eqFields d xs ys [f]).run P w = .ok r w := by
  have hn' : f.name ≠ "_" := by simpa using hn
  simp only [Op.eqFields, if_pos hn', Sem.run_bind, ha, hb, he, Result.andThen_ok]
  cases r <;> simp
theorem eqf_cons {d : Nat} {xs ys : Array Value} {f : Field} {fs : List Field} {a b : Value} {r s : Bool} (hn : (f.name == "_") = false) (ha : (Go.part f.type xs f.offset).run P w = .ok a w) (hb : (Go.part f.type ys f.offset).run P w = .ok b w) (he : (Op.equalIn d f.type a b).run P w = .ok r w) (hr : (Op.eqFields d xs ys fs).run P w = .ok s w) : (Op.eqFields d xs ys (f :: fs)).run P w = .ok (r && s) w := by
  have hn' : f.name ≠ "_" := by simpa using hn
  rw [Op.eqFields]
  simp only [if_pos hn', Sem.run_bind, ha, hb, he, Result.andThen_ok]
  cases r
  · simp
  · simpa using hr
theorem eqL_split : ∀ {us rs : List Ty} {xs ys : List Leaf} {b : Bool}, us ≠ [] → rs ≠ [] → eqLeavesT (us ++ rs) xs ys = some b → xs.length = us.length + rs.length → ys.length = us.length + rs.length →
    ∃ b1 b2, eqLeavesT us (xs.take us.length) (ys.take us.length) = some b1 ∧ eqLeavesT rs (xs.drop us.length) (ys.drop us.length) = some b2 ∧ b = (b1 && b2)
  | [], _, _, _, _, h, _, _, _, _ => absurd rfl h
  | u :: us, rs, [], _, _, _, _, _, hx, _ => by simp at hx; omega
  | u :: us, rs, x :: xs, [], _, _, _, _, _, hy => by simp at hy; omega
  | [u], r :: rs, x :: xs, y :: ys, b, _, _, h, hx, hy => by
    have h : (match eqLeafT u x y, eqLeavesT (r :: rs) xs ys with
      | some a, some b => some (a && b)
      | _, _ => none) = some b := h
    split at h
    · rename_i a c ha hc
      cases h
      exact ⟨a, c, ha, hc, rfl⟩
    · cases h
  | u :: u' :: us, rs, x :: xs, y :: ys, b, _, hr, h, hx, hy => by
    have h : (match eqLeafT u x y, eqLeavesT (u' :: us ++ rs) xs ys with
      | some a, some b => some (a && b)
      | _, _ => none) = some b := h
    split at h
    · rename_i a c ha hc
      cases h
      obtain ⟨b1, b2, e1, e2, rfl⟩ := eqL_split (us := u' :: us) (rs := rs) nofun hr hc (by simp at hx ⊢; omega) (by simp at hy ⊢; omega)
      refine ⟨a && b1, b2, ?_, e2, (Bool.and_assoc _ _ _).symm⟩
      match xs, ys, hx, hy with
      | [], _, hx, _ => simp at hx; omega
      | _ :: _, [], _, hy => simp at hy; omega
      | x2 :: xs, y2 :: ys, _, _ =>
        show (match eqLeafT u x y, eqLeavesT (u' :: us) ((x2 :: xs).take (u' :: us).length) ((y2 :: ys).take (u' :: us).length) with
          | some a, some b => some (a && b)
          | _, _ => none) = some (a && b1)
        rw [ha, e1]
    · cases h
  | [u], [], _, _, _, _, hr, _, _, _ => absurd rfl hr
theorem leavesOk_len : ∀ {xs : List Leaf} {vs : List Value}, LeavesOk X ρ w xs vs → xs.length = vs.length
  | [], [], _ => rfl
  | _ :: _, _ :: _, h => congrArg (· + 1) (leavesOk_len h.2)
theorem leavesOk_take : ∀ {xs : List Leaf} {vs : List Value} (n : Nat), LeavesOk X ρ w xs vs → LeavesOk X ρ w (xs.take n) (vs.take n)
  | _, _, 0, _ => trivial
  | [], [], _ + 1, _ => trivial
  | _ :: _, _ :: _, n + 1, h => ⟨h.1, leavesOk_take n h.2⟩
theorem leavesOk_drop : ∀ {xs : List Leaf} {vs : List Value} (n : Nat), LeavesOk X ρ w xs vs → LeavesOk X ρ w (xs.drop n) (vs.drop n)
  | _, _, 0, h => h
  | [], [], _ + 1, _ => trivial
  | _ :: _, _ :: _, n + 1, h => leavesOk_drop n h.2
/-- A type's comparison, of values that lie in rows of cells. -/
def Cmp (P : Program) (n : Nat) (t : TypeId) (us : List Ty) : Prop := ∀ (X : Nat → Prop) (ρ : Rho) (w : World) (cs ds : Array Value) (o : Nat) (xs ys : List Leaf) (b : Bool), o + us.length ≤ cs.size → o + us.length ≤ ds.size →
  LeavesOk X ρ w xs ((cs.toList.drop o).take us.length) → LeavesOk X ρ w ys ((ds.toList.drop o).take us.length) → eqLeavesT us xs ys = some b →
  ∃ v u, (Go.part t cs o).run P w = .ok v w ∧ (Go.part t ds o).run P w = .ok u w ∧ ∀ d, n ≤ d → (Op.equalIn d t v u).run P w = .ok b w
theorem cmp_scal {n : Nat} {t : TypeId} {ty : Ty} (h : scalT ty (P.underlying t) = true) : Cmp P (n + 1) t [ty] := by
  intro X ρ w cs ds o xs ys b hc hd hx hy hb
  have hc : o + 1 ≤ cs.size := hc
  have hd : o + 1 ≤ ds.size := hd
  have e1 : (cs.toList.drop o).take [ty].length = [cs[o]] := by
    rw [List.drop_eq_getElem_cons (by simp; omega)]
    simp
  have e2 : (ds.toList.drop o).take [ty].length = [ds[o]] := by
    rw [List.drop_eq_getElem_cons (by simp; omega)]
    simp
  rw [e1] at hx
  rw [e2] at hy
  match xs, ys, hx, hy with
  | [x], [y], hx, hy =>
    refine ⟨cs[o], ds[o], scal_part h (by simp), scal_part h (by simp), fun d hd => ?_⟩
    obtain ⟨d, rfl⟩ : ∃ m, d = m + 1 := ⟨d - 1, by omega⟩
    exact scal_eq h hx.1 hy.1 hb
theorem eqFs_ok {n : Nat} {rec : TypeId → List Ty → Option (List Ty)} (hrec : ∀ t ts r, rec t ts = some r → r.length < ts.length → ((P.info? t).map (·.size) |>.getD 0) = ts.length - r.length → ∃ us, ts = us ++ r ∧ Cmp P n t us ∧ ∀ m, n ≤ m → P.eqGuardType m t = false) : ∀ (fs : List Field) (o : Nat) (ts r : List Ty), fs ≠ [] → eqFs P rec fs o ts = some r →
    ∃ us, ts = us ++ r ∧ us ≠ [] ∧ (∀ m, n ≤ m → ∀ f ∈ fs, P.eqGuardType m f.type = false) ∧ ∀ (X : Nat → Prop) (ρ : Rho) (w : World) (cs ds : Array Value) (xs ys : List Leaf) (b : Bool), o + us.length ≤ cs.size → o + us.length ≤ ds.size →
      LeavesOk X ρ w xs ((cs.toList.drop o).take us.length) → LeavesOk X ρ w ys ((ds.toList.drop o).take us.length) → eqLeavesT us xs ys = some b → ∀ d, n ≤ d → (Op.eqFields d cs ds fs).run P w = .ok b w
  | [], _, _, _, h, _ => absurd rfl h
  | f :: fs, o, ts, r, _, h => by
    unfold eqFs at h
    cases hn : (!(f.name == "_") && Nat.beq f.offset o) with
    | false => rw [hn] at h; cases h
    | true =>
      rw [hn] at h
      obtain ⟨n1, n2⟩ := (Bool.and_eq_true _ _).mp hn
      have n1 : (f.name == "_") = false := by simpa using n1
      have n2 := Nat.eq_of_beq_eq_true n2
      replace h : (match rec f.type ts with
        | some r => bif Nat.blt r.length ts.length && Nat.beq ((P.info? f.type).map (·.size) |>.getD 0) (ts.length - r.length) then eqFs P rec fs (o + (ts.length - r.length)) r else none
        | none => none) = some r := h
      split at h
      · rename_i r1 hr1
        cases hc : (Nat.blt r1.length ts.length && Nat.beq ((P.info? f.type).map (·.size) |>.getD 0) (ts.length - r1.length)) with
        | false => rw [hc] at h; cases h
        | true =>
          rw [hc] at h
          obtain ⟨c1, c2⟩ := (Bool.and_eq_true _ _).mp hc
          have c1 : r1.length < ts.length := Nat.le_of_ble_eq_true c1
          obtain ⟨us, rfl, cmp, gd⟩ := hrec _ _ _ hr1 c1 (Nat.eq_of_beq_eq_true c2)
          have hl : (us ++ r1).length - r1.length = us.length := by simp
          rw [hl] at h
          have hne : us ≠ [] := by rintro rfl; simp at c1
          replace h : eqFs P rec fs (o + us.length) r1 = some r := h
          cases fs with
          | nil =>
            cases h
            refine ⟨us, rfl, hne, fun m hm g hg => ?_, ?_⟩
            · rw [List.mem_singleton.1 hg]; exact gd m hm
            · intro X ρ w cs ds xs ys b h1 h2 hx hy hb d hd
              obtain ⟨v, u, p1, p2, p3⟩ := cmp X ρ w cs ds o xs ys b h1 h2 hx hy hb
              exact eqf_last n1 (by rw [n2]; exact p1) (by rw [n2]; exact p2) (p3 d hd)
          | cons f2 fs =>
            obtain ⟨us2, rfl, hne2, gd2, ih⟩ := eqFs_ok hrec (f2 :: fs) (o + us.length) r1 r nofun h
            refine ⟨us ++ us2, (List.append_assoc _ _ _).symm, fun e => hne (List.append_eq_nil_iff.1 e).1, fun m hm g hg => ?_, ?_⟩
            · rcases List.mem_cons.1 hg with rfl | hg
              · exact gd m hm
              · exact gd2 m hm g hg
            · intro X ρ w cs ds xs ys b h1 h2 hx hy hb d hd
              rw [List.length_append] at h1 h2 hx hy
              have lx := leavesOk_len hx
              have ly := leavesOk_len hy
              simp only [List.length_take, List.length_drop, Array.length_toList] at lx ly
              obtain ⟨b1, b2, e1, e2, rfl⟩ := eqL_split hne hne2 hb (by omega) (by omega)
              have t1 : ∀ c : List Value, ((c.drop o).take (us.length + us2.length)).take us.length = (c.drop o).take us.length := fun c => by rw [List.take_take]; congr 1; omega
              have t2 : ∀ c : List Value, ((c.drop o).take (us.length + us2.length)).drop us.length = (c.drop (o + us.length)).take us2.length := fun c => by rw [List.drop_take, List.drop_drop]; congr 1; omega
              have hx1 := leavesOk_take us.length hx
              have hy1 := leavesOk_take us.length hy
              have hx2 := leavesOk_drop us.length hx
              have hy2 := leavesOk_drop us.length hy
              rw [t1] at hx1 hy1
              rw [t2] at hx2 hy2
              obtain ⟨v, u, p1, p2, p3⟩ := cmp X ρ w cs ds o _ _ b1 (by omega) (by omega) hx1 hy1 e1
              exact eqf_cons n1 (by rw [n2]; exact p1) (by rw [n2]; exact p2) (p3 d hd) (ih X ρ w cs ds _ _ b2 (by omega) (by omega) hx2 hy2 e2 d hd)
      · cases h
theorem eqS_ok {n : Nat} (hrec : ∀ t ts r, eqC P n t ts = some r → r.length < ts.length → ((P.info? t).map (·.size) |>.getD 0) = ts.length - r.length → ∃ us, ts = us ++ r ∧ Cmp P n t us ∧ ∀ m, n ≤ m → P.eqGuardType m t = false) {t : TypeId} {fs : Array Field} {ts r : List Ty}
    (hu : P.underlying t = some (.struct fs)) (hp : P.stoodInHeld t = false) (hne : fs.toList ≠ []) (h : eqFs P (eqC P n) fs.toList 0 ts = some r) :
    ∃ us, ts = us ++ r ∧ us ≠ [] ∧ (∀ m, n + 1 ≤ m → P.eqGuardType m t = false) ∧ ∀ (X : Nat → Prop) (ρ : Rho) (w : World) (cs ds : Array Value) (xs ys : List Leaf) (b : Bool), us.length ≤ cs.size → us.length ≤ ds.size →
      LeavesOk X ρ w xs (cs.toList.take us.length) → LeavesOk X ρ w ys (ds.toList.take us.length) → eqLeavesT us xs ys = some b → ∀ d, n + 1 ≤ d → (Op.equalIn d t (.agg cs) (.agg ds)).run P w = .ok b w := by
  obtain ⟨us, e, hne', gd, ih⟩ := eqFs_ok hrec fs.toList 0 ts r hne h
  refine ⟨us, e, hne', fun m hm => ?_, fun X ρ w cs ds xs ys b h1 h2 hx hy hb d hd => ?_⟩
  · obtain ⟨m, rfl⟩ : ∃ q, m = q + 1 := ⟨m - 1, by omega⟩
    rw [Program.eqGuardType, hu]
    show (fs.any fun f => f.name != "_" && P.eqGuardType m f.type) = false
    rw [← Array.any_toList, List.any_eq_false]
    intro f hf
    rw [gd m (by omega) f hf]
    simp
  · obtain ⟨d, rfl⟩ : ∃ q, d = q + 1 := ⟨d - 1, by omega⟩
    have hf : P.fieldsOf t = fs := by simp [Program.fieldsOf, hu]
    rw [run_equalIn_struct (P := P) w d t cs ds (by rw [hf]; exact hu) hp, hf]
    exact ih X ρ w cs ds xs ys b (by omega) (by omega) (by rw [List.drop_zero]; exact hx) (by rw [List.drop_zero]; exact hy) hb d (by omega)
theorem eqC_ok : ∀ (n : Nat) (t : TypeId) (ts r : List Ty), eqC P n t ts = some r → r.length < ts.length → ((P.info? t).map (·.size) |>.getD 0) = ts.length - r.length → ∃ us, ts = us ++ r ∧ Cmp P n t us ∧ ∀ m, n ≤ m → P.eqGuardType m t = false
  | 0, t, ts, r, h, _, _ => by cases h
  | n + 1, t, ts, r, h, hlt, hsz => by
    have scal : ∀ ty, scalT ty (P.underlying t) = true → ts = ty :: r → ∃ us, ts = us ++ r ∧ Cmp P (n + 1) t us ∧ ∀ m, n + 1 ≤ m → P.eqGuardType m t = false := fun ty hs e => by
      refine ⟨[ty], e, cmp_scal hs, fun m hm => ?_⟩
      obtain ⟨m, rfl⟩ : ∃ q, m = q + 1 := ⟨m - 1, by omega⟩
      rcases scal_plain hs with ⟨k, k', _, hu⟩ | ⟨_, hu⟩ | ⟨_, hu⟩ <;> simp [Program.eqGuardType, hu]
    unfold eqC at h
    split at h
    · rename_i hu
      split at h
      · cases h
        exact scal _ (by rw [hu]; rfl) rfl
      · cases h
    · rename_i hu
      split at h
      · cases h
        exact scal _ (by rw [hu]; rfl) rfl
      · cases h
    · rename_i hu
      split at h
      · cases h
        exact scal _ (by rw [hu]; rfl) rfl
      · cases h
    · rename_i fs hu
      cases hc : (P.stoodInHeld t || Nat.beq fs.toList.length 0) with
      | true => rw [hc] at h; cases h
      | false =>
        rw [hc] at h
        replace h : eqFs P (eqC P n) fs.toList 0 ts = some r := h
        obtain ⟨c1, c2⟩ := Bool.or_eq_false_iff.1 hc
        have hne : fs.toList ≠ [] := by
          intro e
          rw [e] at c2
          cases c2
        obtain ⟨us, e, hne', gd, ok⟩ := eqS_ok (eqC_ok n) hu c1 hne h
        refine ⟨us, e, fun X ρ w cs ds o xs ys b h1 h2 hx hy hb => ?_, gd⟩
        have hl : ts.length - r.length = us.length := by rw [e]; simp
        rw [hl] at hsz
        have hpos : 0 < us.length := List.length_pos_iff.2 hne'
        obtain ⟨q, hq, hqs⟩ : ∃ q, P.info? t = some q ∧ q.size = us.length := by
          cases hq : P.info? t with
          | none => rw [hq] at hsz; simp at hsz; omega
          | some q => rw [hq] at hsz; exact ⟨q, rfl, hsz⟩
        have part : ∀ c : Array Value, (Go.part t c o).run P w = .ok (.agg (c.extract o (o + us.length))) w := fun c => by
          simp [Go.part, isAgg, run_underlying hu, sizeOf, typeInfo, hq, hqs]
        have ext : ∀ c : Array Value, o + us.length ≤ c.size → (c.extract o (o + us.length)).toList.take us.length = (c.toList.drop o).take us.length := fun c hc => by
          rw [Array.toList_extract, List.extract_eq_take_drop, Nat.add_sub_cancel_left, List.take_take, Nat.min_self]
        exact ⟨_, _, part cs, part ds, ok X ρ w _ _ xs ys b (by simp; omega) (by simp; omega) (by rw [ext cs h1]; exact hx) (by rw [ext ds h2]; exact hy) hb⟩
    · cases h
theorem eqChk_ok {t : TypeId} {ty : Ty} (h : eqChk P t ty = true) : P.eqGuardType P.depth t = false ∧ ∀ X ρ w (cs ds : Array Value) (xs ys : List Leaf) (b : Bool), LeavesOk X ρ w xs cs.toList → LeavesOk X ρ w ys ds.toList → eqLeavesT (leafTys ty) xs ys = some b → (Op.equal t (.agg cs) (.agg ds)).run P w = .ok b w := by
  unfold eqChk at h
  split at h
  · rename_i fs hu
    obtain ⟨h12, h3⟩ := (Bool.and_eq_true _ _).mp h
    obtain ⟨h1, h2⟩ := (Bool.and_eq_true _ _).mp h12
    have h1 : P.stoodInHeld t = false := by simpa using h1
    have hne : fs.toList ≠ [] := by
      intro e
      rw [e] at h2
      cases h2
    split at h3
    · rename_i hr
      obtain ⟨us, e, hne', gd, ok⟩ := eqS_ok (eqC_ok 8) hu h1 hne hr
      rw [List.append_nil] at e
      subst e
      refine ⟨gd _ (by unfold Program.depth Made.depth; omega), fun X ρ w cs ds xs ys b hx hy hb => ?_⟩
      have lx := leavesOk_len hx
      have ly := leavesOk_len hy
      have key : ∀ {us : List Ty} {xs ys : List Leaf} {b : Bool}, eqLeavesT us xs ys = some b → xs.length = us.length ∧ ys.length = us.length := by
        intro us
        induction us with
        | nil => intro xs ys b h; cases h
        | cons u us ih =>
          intro xs ys b h
          match xs, ys, h with
          | [], _, h => cases us <;> cases h
          | x :: xs, [], h => cases us <;> cases xs <;> cases h
          | x :: xs, y :: ys, h =>
            have long : (match eqLeafT u x y, eqLeavesT us xs ys with
              | some a, some b => some (a && b)
              | _, _ => none) = some b → (x :: xs).length = (u :: us).length ∧ (y :: ys).length = (u :: us).length := fun h => by
              split at h
              · rename_i hc
                obtain ⟨i1, i2⟩ := ih hc
                exact ⟨congrArg (· + 1) i1, congrArg (· + 1) i2⟩
              · cases h
            cases us with
            | cons _ _ => exact long h
            | nil =>
              cases xs with
              | cons _ _ => exact long h
              | nil =>
                cases ys with
                | cons _ _ => exact long h
                | nil => exact ⟨rfl, rfl⟩
      obtain ⟨k1, k2⟩ := key hb
      simp only [Array.length_toList] at lx ly
      exact ok X ρ w cs ds xs ys b (by omega) (by omega) (by rw [List.take_of_length_le (by rw [Array.length_toList]; omega)]; exact hx) (by rw [List.take_of_length_le (by rw [Array.length_toList]; omega)]; exact hy) hb 10000 (by omega)
    · cases h3
  · cases h
theorem tiChk_ok {t : TypeId} {i : TI} (h : tiChk P t i = true) : TiFor P t i := by
  unfold tiChk at h
  split at h
  · rename_i q d hq hd
    simp only [Bool.and_eq_true] at h
    obtain ⟨⟨⟨⟨⟨⟨⟨⟨⟨h1, h2⟩, h3⟩, h4⟩, h5⟩, h6⟩, h7⟩, h8⟩, h9⟩, h10⟩ := h
    have h1 := Nat.eq_of_beq_eq_true h1
    have h2 := Nat.eq_of_beq_eq_true h2
    have h4 : i.agg = aggD d := by simpa using h4
    have hst : i.kind = 4 → ∃ fs, d = .struct fs ∧ fieldsChk P i.offs fs.toList = true := fun e => by
      unfold kindChk at h5
      split at h5 <;> (try rw [e] at h5) <;> first
        | (cases h5; done)
        | exact ⟨_, rfl, ((Bool.and_eq_true _ _).mp h5).2⟩
        | simp at h5
    refine ⟨⟨q, hq, h1, h2, ?_⟩, ⟨d, hd, ?_, ?_, ?_, ?_, ?_, ?_⟩, ?_, ?_, ?_, ?_, ?_, ?_, ?_⟩
    · unfold zeroChk at h3
      split at h3
      · rename_i z hz
        obtain ⟨k12, _⟩ := (Bool.and_eq_true _ _).mp h3
        obtain ⟨k1, k2⟩ := (Bool.and_eq_true _ _).mp k12
        exact ⟨z, hz, Nat.eq_of_beq_eq_true k1, fun X ρ w => leavesChk_ok k2⟩
      · cases h3
    · rw [h4]
      cases d <;> rfl
    · intro e
      unfold kindChk at h5
      split at h5 <;> (try rw [e] at h5) <;> first
        | (cases h5; done)
        | (rw [of_decide_eq_true ((Bool.and_eq_true _ _).mp h5).2]; done)
        | simp at h5
    · intro e
      unfold kindChk at h5
      split at h5 <;> (try rw [e] at h5) <;> first
        | (cases h5; done)
        | rfl
        | simp at h5
    · intro e
      unfold kindChk at h5
      split at h5 <;> (try rw [e] at h5) <;> first
        | (cases h5; done)
        | (rw [Nat.eq_of_beq_eq_true ((Bool.and_eq_true _ _).mp h5).2]; done)
        | simp at h5
    · intro e
      unfold kindChk at h5
      split at h5 <;> (try rw [e] at h5) <;> first
        | (cases h5; done)
        | rfl
        | simp at h5
    · intro e
      obtain ⟨fs, hfs, hc⟩ := hst e
      refine ⟨fs, hfs, fun f o ft ho => ?_⟩
      obtain ⟨fl, k1, k2⟩ := (fieldsChk_ok hc).1 f o ft ho
      exact ⟨fl, by rw [← Array.getElem?_toList]; exact k1, k2⟩
    · intro e
      obtain ⟨fs, rfl, hc⟩ := hst e
      obtain ⟨_, places, k1, k2⟩ := fieldsChk_ok hc
      exact ⟨fs, places, hd, k1, k2⟩
    · intro hz
      rcases (Bool.or_eq_true _ _).mp h6 with k | k
      · have := Nat.eq_of_beq_eq_true k; omega
      · exact (Nat.blt_eq).mp k
    · intro hk
      rw [hk] at h8
      simpa using h8
    · intro hk
      rw [hk] at h10
      replace h10 : arrChk i d = true := by simpa using h10
      unfold arrChk at h10
      split at h10
      · obtain ⟨k1, k2⟩ := (Bool.and_eq_true _ _).mp h10
        split at k2
        · rename_i hoff
          refine ⟨_, _, hoff, ?_⟩
          rw [hd, Nat.eq_of_beq_eq_true k1, Nat.eq_of_beq_eq_true k2]
        · cases k2
      · cases h10
    · intro hk
      rw [hk] at h9
      replace h9 : mapChk P d = true := by simpa using h9
      unfold mapChk at h9
      split at h9
      · rename_i k e _
        obtain ⟨k1, k2⟩ := (Bool.and_eq_true _ _).mp h9
        unfold zeroIs at k2
        split at k2
        · rename_i q hq2
          split at k2
          · rename_i hz
            refine ⟨k, e, q, hd, ?_, hq2, hz⟩
            split at k1
            · assumption
            · cases k1
          · cases k2
        · cases k2
      · cases h9
    · intro ha q' z hq' hz
      rw [hq] at hq'
      cases hq'
      unfold zeroChk at h3
      rw [hz] at h3
      obtain ⟨_, k⟩ := (Bool.and_eq_true _ _).mp h3
      rw [ha] at k
      have k : notAgg z = true := k
      cases z <;> first | rfl | cases k
    · intro e
      rw [e] at h7
      exact eqChk_ok (by simpa using h7)
  · cases h
theorem tabChk_ok : ∀ {T : Tab TI} {g : Nat → Nat}, tabChk P T g = true → ∀ n i, T.get n = some i → TiFor P (g n) i
  | .nil, g, _, n, i, h => by cases h
  | .node l v r, g, hc, n, i, h => by
    unfold tabChk at hc
    simp only [Bool.and_eq_true] at hc
    obtain ⟨⟨h1, h2⟩, h3⟩ := hc
    unfold Tab.get at h
    cases h0 : Nat.beq n 0 with
    | true =>
      rw [h0] at h
      have h : v = some i := h
      subst h
      rw [Nat.eq_of_beq_eq_true h0]
      exact tiChk_ok h1
    | false =>
      rw [h0] at h
      have hn0 := Nat.ne_of_beq_eq_false h0
      cases hp : Nat.beq (n % 2) 1 with
      | true =>
        rw [hp] at h
        have hp := Nat.eq_of_beq_eq_true hp
        have := tabChk_ok h2 (n / 2) i h
        rwa [show 2 * (n / 2) + 1 = n by omega] at this
      | false =>
        rw [hp] at h
        have hp := Nat.ne_of_beq_eq_false hp
        have := tabChk_ok h3 (n / 2 - 1) i h
        rwa [show 2 * (n / 2 - 1) + 2 = n by omega] at this
theorem ti_ok {T : Tab TI} (h : tabChk P T (fun n => n) = true) : TiOk P T := fun t i hi => tabChk_ok h t i hi
end
end Go.Proofs.YtaajcllchbnjiaaDoorE

namespace Go.Proofs.YtaajcllchbnjiaaDoorE
open Go Go.RowKit Go.WideShapes
set_option linter.unusedVariables false
def oFs (chk : TypeId → Ty → Bool) (P : Program) : List Field → Nat → Ty → Bool
  | [], _, _ => false
  | [f], o, ty => Nat.beq f.offset o && chk f.type ty
  | f :: fs, o, .pair a b => Nat.beq f.offset o && chk f.type a && oFs chk P fs (o + a.sz) b
  | _, _, _ => false
/-- The type, as a type of data. -/
def oChk (P : Program) : Nat → TypeId → Ty → Bool
  | 0, _, _ => false
  | n + 1, t, ty => Nat.beq (P.cellsOf t) ty.sz && match P.underlying t with
    | some (.struct fs) => oFs (oChk P n) P fs.toList 0 ty
    | d => match d, ty with
      | some (.int k), .int k' => decide (k = k')
      | some .bool, .bool => true
      | some .string, .str => true
      | some (.slice e), .sl r => Nat.blt 0 r.sz && Nat.blt 0 (P.bytesOf e) && oChk P n e r
      | _, _ => false
/-- In bounds. -/
def Bnd : (t : Ty) → t.T → Prop
  | .int k, n => (Lit.int k n).wf = true
  | .bool, _ => True
  | .str, s => s.length ≤ 140737488351232
  | .sl r, l => l.length ≤ 140737488351232 ∧ ∀ a ∈ l, Bnd r a
  | .pair a b, x => Bnd a x.1 ∧ Bnd b x.2
  | .unit, _ => True
/-- Any block there is. -/
def Old (w : World) (b : Nat) : Prop := b < w.heap.size
def Opn (P : Program) (t : TypeId) (ty : Ty) : Prop :=
  ∀ (H : Type) (enc : TypeId × Value → H) (w : World) (base : Nat) (spare : Nat → Bool) (held : Bool) (fuel : Nat) (cs : List Value) (x : DataW H × List MemPlace),
    DataW.trod enc P w base spare held fuel t cs = some x → (x.1.weights P t).all (· ≤ reachBytes) = true → ∃ y : ty.T, Rep w (Old w) ty y cs ∧ Bnd ty y
theorem weightsAll_mem {H : Type} {P : Program} {e : TypeId} : ∀ {l : List (DataW H)} {d : DataW H}, d ∈ l → ∀ n ∈ d.weights P e, n ∈ DataW.weightsAll P e l
  | d0 :: l, d, hd, n, hn => by
    simp only [DataW.weightsAll, List.mem_append]
    rcases List.mem_cons.1 hd with rfl | hd
    · exact .inl hn
    · exact .inr (weightsAll_mem hd n hn)
theorem choose_list {α β : Type} {R : Nat → β → α → Prop} : ∀ (l : List β) (o : Nat), (∀ i y, l[i]? = some y → ∃ a, R (o + i) y a) → ∃ al : List α, al.length = l.length ∧ ∀ i a, al[i]? = some a → ∃ y, l[i]? = some y ∧ R (o + i) y a
  | [], _, _ => ⟨[], rfl, fun i a h => by simp at h⟩
  | y :: l, o, h => by
    obtain ⟨a, ha⟩ := h 0 y rfl
    obtain ⟨al, h1, h2⟩ := choose_list (R := R) l (o + 1) (fun i z hz => by have := h (i + 1) z (by simpa using hz); rwa [show o + 1 + i = o + (i + 1) by omega])
    refine ⟨a :: al, by simp [h1], ?_⟩
    intro i b hb
    cases i with
    | zero =>
      simp at hb
      subst hb
      exact ⟨y, rfl, ha⟩
    | succ i =>
      obtain ⟨z, hz, hr⟩ := h2 i b (by simpa using hb)
      exact ⟨z, by simpa using hz, by rwa [show o + 1 + i = o + (i + 1) by omega] at hr⟩
section
variable {P : Program}
theorem opn_slice {t e : TypeId} {r : Ty} (ht : P.underlying t = some (.slice e)) (hr : 0 < r.sz) (hB : 0 < P.bytesOf e) (hc : P.cellsOf e = r.sz) (he : Opn P e r) : Opn P t (.sl r) := by
  intro H enc w base spare held fuel cs x h hz
  rcases DataW.trod_slice ht h with ⟨rfl, rfl⟩ | ⟨a, len, cap, elems, rest, n, _, rfl, rfl, _, hl, hm, hlen, hel, _, _⟩
  · exact ⟨[], ⟨none, 0, rfl, Nat.le_refl _, .inl rfl⟩, by simp, by simp⟩
  · have hwt : ∀ y ∈ elems, (y.1.weights P e).all (· ≤ reachBytes) = true := by
      intro y hy
      rw [List.all_eq_true]
      intro m hm'
      refine List.all_eq_true.1 hz m ?_
      simp only [DataW.weights, ht, List.mem_cons, List.mem_append]
      exact .inr (.inl (weightsAll_mem (List.mem_map_of_mem hy) m hm'))
    have hbytes : len ≤ 140737488351232 := by
      have z := of_decide_eq_true (List.all_eq_true.1 hz ((elems.map (·.1)).length + (rest.map (·.1)).length |>.mul (P.bytesOf e)) (by simp only [DataW.weights, ht, List.mem_cons]; exact .inl rfl))
      simp only [List.length_map] at z
      have z3 : (elems.length + rest.length) * P.bytesOf e ≤ 140737488351232 := z
      have z4 : (elems.length + rest.length) * 1 ≤ (elems.length + rest.length) * P.bytesOf e := Nat.mul_le_mul_left _ hB
      omega
    obtain ⟨l, hll, hla⟩ := choose_list (R := fun i y (b : r.T) => ∃ c, w.cells? base (a.add (i * P.cellsOf e)) (P.cellsOf e) = some c ∧ Rep w (Old w) r b c ∧ Bnd r b) elems 0 (by
      intro i y hy
      have hi : i < len := by
        have := (List.getElem?_eq_some_iff.1 hy).1
        omega
      have := hel i hi
      rw [hy, Option.bind_eq_some_iff] at this
      obtain ⟨c, hc, ht'⟩ := this
      obtain ⟨b, hk, hb⟩ := he H enc w base spare held n c y ht' (hwt y (List.mem_of_getElem? hy))
      exact ⟨b, c, by rw [Nat.zero_add]; exact hc, hk, hb⟩)
    have hll' : l.length = len := by omega
    subst hll'
    have hcell : ∀ (j : Nat) (p : r.T), l[j]? = some p → ∃ c, Rep w (Old w) r p c ∧ Bnd r p ∧ ∀ (i : Nat) (u : Value), c[i]? = some u → w.cell? ((a.add (j * r.sz)).add i) = some u := by
      intro j p hp
      obtain ⟨y, _, c, hc', hk, hb⟩ := hla j p hp
      rw [Nat.zero_add] at hc'
      refine ⟨c, hk, hb, fun i u hu => ?_⟩
      have hlen' := hk.len
      have hi : i < P.cellsOf e := by
        rw [hc, ← hlen']
        exact (List.getElem?_eq_some_iff.1 hu).1
      have := (World.cells?_some hc').2.2 i hi
      rw [hu, hc] at this
      exact this
    refine ⟨l, ⟨some a, cap, rfl, hl, ?_⟩, hbytes, fun b hb => ?_⟩
    · cases hl0 : l with
      | nil => exact .inl rfl
      | cons p l' =>
        refine .inr ?_
        obtain ⟨c, hk, _, hu⟩ := hcell 0 p (by rw [hl0]; rfl)
        have h0 : w.cell? a = some (c[0]'(by rw [hk.len]; exact hr)) := by
          have := hu 0 _ (List.getElem?_eq_getElem (by rw [hk.len]; exact hr))
          simpa [Addr.add] using this
        have hspot : a.spot = none := by
          unfold World.cell? at h0
          split at h0
          · cases hs : a.spot with
            | none => rfl
            | some _ => rw [hs] at h0; simp at h0
          · cases h0
        have hblk : a.block < w.heap.size := by
          unfold World.cell? at h0
          split at h0
          · rename_i hh
            exact (Array.getElem?_eq_some_iff.1 hh).1
          · cases h0
        refine ⟨a.block, a.off, ?_, hblk, fun j q hq => ?_⟩
        · rw [← hspot]
        · obtain ⟨c', hk', _, hu'⟩ := hcell j q (by rw [hl0]; exact hq)
          refine ⟨c', fun i u hu1 => ?_, hk'⟩
          rw [← hu' i u hu1]
          congr 1
          simp only [Addr.add]
          by_cases h1 : j * r.sz = 0
          · by_cases h2 : i = 0
            · simp [h1, h2, ← hspot]
            · simp [h1, h2]
          · by_cases h2 : i = 0 <;> simp [h1, h2, Nat.add_assoc]
    · obtain ⟨i, hi⟩ := List.getElem?_of_mem hb
      obtain ⟨c, _, h2, _⟩ := hcell i b hi
      exact h2
theorem oFs_rep {chk : TypeId → Ty → Bool} (hchk : ∀ t ty, chk t ty = true → P.cellsOf t = ty.sz ∧ Opn P t ty) : ∀ {fs : List Field} {o : Nat} {ty : Ty}, oFs chk P fs o ty = true →
    ∀ (H : Type) (enc : TypeId × Value → H) (w : World) (base : Nat) (spare : Nat → Bool) (held : Bool) (fuel : Nat) (cs : List Value) (xs : List (DataW H × List MemPlace)),
    (∀ (i : Nat) (f : Field), fs[i]? = some f → DataW.trod enc P w base spare held fuel f.type ((cs.drop f.offset).take (P.cellsOf f.type)) = xs[i]?) → xs.length = fs.length → cs.length = o + ty.sz →
    (DataW.weightsEach P (fs.map (·.type)) (xs.map (·.1))).all (· ≤ reachBytes) = true → ∃ y : ty.T, Rep w (Old w) ty y (cs.drop o) ∧ Bnd ty y
  | [], o, ty, h => by cases h
  | [f], o, ty, h => by
    obtain ⟨h1, h2⟩ := (Bool.and_eq_true _ _).mp (show (Nat.beq f.offset o && chk f.type ty) = true by cases ty <;> exact h)
    have h1 := Nat.eq_of_beq_eq_true h1
    obtain ⟨hc, ho⟩ := hchk _ _ h2
    intro H enc w base spare held fuel cs xs hx hl hcs hz
    cases xs with
    | nil => simp at hl
    | cons x xs =>
      have h0 := hx 0 f rfl
      rw [h1, hc, List.take_of_length_le (by simp; omega)] at h0
      exact ho H enc w base spare held fuel _ x h0 (by
        simp only [List.map_cons, DataW.weightsEach, List.all_append, Bool.and_eq_true] at hz
        exact hz.1)
  | f :: g :: fs, o, ty, h => by
    cases ty with
    | pair a b =>
      obtain ⟨h12, h3⟩ := (Bool.and_eq_true _ _).mp (show ((Nat.beq f.offset o && chk f.type a) && oFs chk P (g :: fs) (o + a.sz) b) = true from h)
      obtain ⟨h1, h2⟩ := (Bool.and_eq_true _ _).mp h12
      have h1 := Nat.eq_of_beq_eq_true h1
      obtain ⟨hc, ho⟩ := hchk _ _ h2
      intro H enc w base spare held fuel cs xs hx hl hcs hz
      cases xs with
      | nil => simp at hl
      | cons x xs =>
        have h0 := hx 0 f rfl
        rw [h1, hc] at h0
        replace hz : (DataW.weights P f.type x.1 ++ DataW.weightsEach P ((g :: fs).map (·.type)) (xs.map (·.1))).all (· ≤ reachBytes) = true := hz
        rw [List.all_append, Bool.and_eq_true] at hz
        have hcs' : cs.length = o + (a.sz + b.sz) := hcs
        obtain ⟨y, hy, by_⟩ := ho H enc w base spare held fuel _ x h0 hz.1
        obtain ⟨z, hz1, bz⟩ := oFs_rep hchk h3 H enc w base spare held fuel cs xs (fun i q hq => hx (i + 1) q (by simpa using hq)) (by simpa using hl) (by omega) hz.2
        refine ⟨(y, z), ⟨_, _, ?_, hy, hz1⟩, by_, bz⟩
        rw [← List.drop_drop, List.take_append_drop]
    | _ => cases h
theorem opn_of : ∀ (n : Nat) (t : TypeId) (ty : Ty), oChk P n t ty = true → P.cellsOf t = ty.sz ∧ Opn P t ty
  | 0, _, _, h => by cases h
  | n + 1, t, ty, h => by
    unfold oChk at h
    obtain ⟨hc, h⟩ := (Bool.and_eq_true _ _).mp h
    have hc := Nat.eq_of_beq_eq_true hc
    refine ⟨hc, ?_⟩
    split at h
    · rename_i fs hu
      intro H enc w base spare held fuel cs x hx hz
      obtain ⟨xs, m, rfl, rfl, hl, hxs, he⟩ := DataW.trod_struct hu hx
      simp only [DataW.weights, hu] at hz
      obtain ⟨y, hy, b⟩ := oFs_rep (opn_of n) h H enc w base spare held m cs xs (fun i q hq => he i q (by rw [← Array.getElem?_toList]; exact hq)) (by simpa using hxs) (by rw [Nat.zero_add, ← hc]; exact hl) hz
      exact ⟨y, hy, b⟩
    · split at h
      · rename_i k k' hu _ _
        have hk := of_decide_eq_true h
        subst hk
        intro H enc w base spare held fuel cs x hx hz
        obtain ⟨m, rfl, _, hw⟩ := DataW.trod_int hu hx
        exact ⟨m, rfl, hw⟩
      · rename_i hu _ _
        intro H enc w base spare held fuel cs x hx hz
        obtain ⟨m, rfl, _⟩ := DataW.trod_bool hu hx
        exact ⟨m, rfl, trivial⟩
      · rename_i hu _ _
        intro H enc w base spare held fuel cs x hx hz
        obtain ⟨s, rfl, rfl, _⟩ := DataW.trod_string hu hx
        refine ⟨s.data.toList, rfl, ?_⟩
        have z := List.all_eq_true.1 hz s.data.toList.length (by simp [DataW.weights])
        show s.data.toList.length ≤ 140737488351232
        exact of_decide_eq_true z
      · rename_i e r hu _ _
        simp only [Bool.and_eq_true] at h
        obtain ⟨⟨h1, h2⟩, h3⟩ := h
        obtain ⟨k1, k2⟩ := opn_of n e r h3
        exact opn_slice hu ((Nat.blt_eq).mp h1) ((Nat.blt_eq).mp h2) k1 k2
      · cases h
/-! ### arguments -/
theorem weights_arg {H : Type} {ts : List TypeId} {ds : List (DataW H)} (h : (DataW.weightsEach P ts ds).all (· ≤ reachBytes) = true) {j : Nat} {t : TypeId} {d : DataW H} (ht : ts[j]? = some t) (hd : ds[j]? = some d) : (d.weights P t).all (· ≤ reachBytes) = true :=
  List.all_eq_true.2 fun n hn => List.all_eq_true.1 h n (DataW.weights_mem_each ht hd n hn)
theorem trod_lt_all {H : Type} {enc : TypeId × Value → H} {w : World} {base : Nat} {spare : Nat → Bool} {held : Bool} {t : TypeId} {v : Value} {x : DataW H} {ps : List MemPlace} (hd : DataW.Trod enc P w base spare held t v x ps) : ∀ q ∈ ps, q.block < w.heap.size := by
  obtain ⟨m, hm⟩ := hd
  exact DataW.trod_lt m _ _ _ hm
theorem vls_of {w : World} {F B : Nat → Prop} : ∀ {xs : List Leaf} {vs : List Value}, DLeaves w F B xs vs → VLs w F B (xs.map .leaf) vs []
  | [], [], _ => rfl
  | _ :: _, _ :: _, h => ⟨h.1, vls_of h.2⟩
  | [], _ :: _, h => h.elim
  | _ :: _, [], h => h.elim
/-- An argument: a struct, or a value of one cell. -/
def argC (ag : Bool) (ty : Ty) (y : ty.T) : CArg := .val ag ((leaves ty y).map .leaf)
def isStruct : Option TypeDesc → Bool
  | some (.struct _) => true
  | _ => false
theorem arg_rep {H : Type} {enc : TypeId × Value → H} {w : World} {base : Nat} {spare : Nat → Bool} {held : Bool} {t : TypeId} {v : Value} {x : DataW H} {ps : List MemPlace} {r : Reach} {b0 : Nat} {ty : Ty} {n : Nat} {ag : Bool}
    (hk : oChk P n t ty = true) (hag : isStruct (P.underlying t) = ag) (hv : Value.okWide P w r b0 t v) (hd : DataW.Trod enc P w base spare held t v x ps) (hz : (x.weights P t).all (· ≤ reachBytes) = true) :
    ∃ y : ty.T, Bnd ty y ∧ ∀ B, CArgOk w (Old w) B (argC ag ty y) v [] [] := by
  obtain ⟨fuel, hf⟩ := hd
  obtain ⟨y, hy, hb⟩ := (opn_of n t ty hk).2 H enc w base spare held fuel _ _ hf hz
  refine ⟨y, hb, fun B => ?_⟩
  have hd := vls_of ((rep_data hy).mono (fun b hb => hb) (B' := B) fun b hb => hb.elim)
  cases ag with
  | true =>
    cases hu : P.underlying t with
    | none => rw [hu] at hag; cases hag
    | some d =>
      rw [hu] at hag
      cases d with
      | struct fs =>
        obtain ⟨cs, rfl, _⟩ := okWide_struct hu hv
        exact ⟨rfl, cs, rfl, hd⟩
      | _ => cases hag
  | false =>
    have hcell : v.cells.toList = [v] := by
      cases n with
      | zero => cases hk
      | succ n =>
        unfold oChk at hk
        obtain ⟨_, hk⟩ := (Bool.and_eq_true _ _).mp hk
        split at hk
        · rename_i fs hu
          rw [hu] at hag
          cases hag
        · split at hk
          · rename_i hu _ _; obtain ⟨_, rfl⟩ := okWide_int hu hv; rfl
          · rename_i hu _ _; obtain ⟨_, rfl⟩ := okWide_bool hu hv; rfl
          · rename_i hu _ _; obtain ⟨_, rfl⟩ := okWide_string hu hv; rfl
          · rename_i hu _ _; obtain ⟨_, _, _, rfl⟩ := okWide_slice hu hv; rfl
          · cases hk
    rw [hcell] at hd
    exact ⟨rfl, hd⟩
theorem cargs_nil {w : World} {F B : Nat → Prop} : CArgsOk w F B [] [] [] [] := ⟨rfl, rfl⟩
theorem cargs_cons {w : World} {F B : Nat → Prop} {c : CArg} {cs : List CArg} {v : Value} {vs : List Value} (h : CArgOk w F B c v [] []) (k : CArgsOk w F B cs vs [] []) : CArgsOk w F B (c :: cs) (v :: vs) [] [] := ⟨[], [], [], [], rfl, rfl, h, k⟩
/-- A law that returns true, by its contract. -/
theorem law_true {f : FuncId} {c : Con} (h : ConOk P f c) {asx : List CArg} (hrr : (c.f asx).val = some ⟨[.val false [.leaf (.bool true)]], []⟩) {w : World} {vs : List Value} (hgl : GlW w) (ha : CArgsOk w (Old w) (Bor w []) asx vs [] []) :
    Calls P f vs.toArray w fun e w' => e = .returned (.bool true) ∧ Below w.heap.size w w' := by
  refine (h.2 asx _ hrr w vs (Old w) [] [] (fun b hb => ⟨hb, fun hm => nomatch hm⟩) List.nodup_nil ⟨hgl, fun _ _ hm => nomatch hm⟩ ha).mono ?_
  rintro e w' ⟨v, rfl, keep, O1, O2, _, _, _, hv⟩
  have hv : RLsOk w' (Out (Old w) (mBlocks []) w w' (O1 ++ O2)) [.leaf (.bool true)] [v] O2 := hv
  have hv : v = .bool true := hv.1
  refine ⟨by rw [hv], keep.1, keep.2.1, keep.2.2.1, keep.2.2.2.1, fun b hb => keep.2.2.2.2 b hb fun hm => nomatch hm⟩
theorem shutB {H : Type} {enc : TypeId × Value → H} {W : World} {base : Nat} {sp : Nat → Bool} {held : Bool} {t : TypeId} (ht : P.underlying t = some .bool) (b : Bool) : DataW.Trod enc P W base sp held t (.bool b) (.lit (.bool b)) [] := ⟨1, by simp [DataW.trod, Value.cells, ht]⟩
end
end Go.Proofs.YtaajcllchbnjiaaDoorE

namespace Go.Proofs.YtaajcllchbnjiaaDoorE
open Go Go.RowKit
set_option linter.unusedVariables false
def valS : DV → Option Value
  | .mk (.int k) n => some (.int k n)
  | .mk .bool b => some (.bool b)
  | .mk .str s => some (.string (ba s))
  | _ => none
def scalar : Ty → Bool
  | .int _ => true
  | .bool => true
  | .str => true
  | _ => false
def scalPs : List PK → Bool
  | [] => true
  | .val false t [.ro] :: ps => scalar t && scalPs ps
  | _ => false
def scalRs : List SK → Bool
  | [] => true
  | .val false [.v t] :: rs => scalar t && scalRs rs
  | _ => false
section
variable {P : Program} {w : World} {F B : Nat → Prop}
theorem enter_of {f : FuncId} {fn : Func} {c : Code} (hf : P.funcs[f]? = some fn) (hname : (fn.name == "runtime.NumGoroutine") = false) (hb : fn.body = some c) : ∀ args w, (callFunc f args).run P w = .ok (.enter f args) w := fun args w => by
  simp [callFunc, hf, hb, by simpa using hname]
theorem unl_scal {t : Ty} (ht : scalar t = true) {x : Leaf} {y : t.T} {v : Value} (h : unlA t [x] = some y) (hx : DLeaf w F B x v) : valS (.mk t y) = some v := by
  have key : ∃ y', unl t [x] = some (y', []) ∧ y' = y := by
    unfold unlA at h
    split at h
    · rename_i z hz; cases h; exact ⟨_, hz, rfl⟩
    · cases h
  obtain ⟨y', hu, rfl⟩ := key
  cases t with
  | int k =>
    replace hu : unlInt k [x] = some (y', []) := hu
    unfold unlInt at hu
    split at hu
    · rename_i k' n xs he
      cases he
      split at hu
      · rename_i hk
        subst hk
        cases hu
        exact congrArg (fun u => some u) (show v = _ from hx).symm
      · cases hu
    · cases hu
  | bool =>
    replace hu : unlBool [x] = some (y', []) := hu
    unfold unlBool at hu
    split at hu
    · rename_i b xs he; cases he; cases hu; exact congrArg (fun u => some u) (show v = _ from hx).symm
    · rename_i b xs he; cases he; cases hu; exact congrArg (fun u => some u) (show v = _ from hx).symm
    · cases hu
  | str =>
    replace hu : unlStr [x] = some (y', []) := hu
    unfold unlStr at hu
    split at hu
    · rename_i s xs he; cases he; cases hu; exact congrArg (fun u => some u) (show v = _ from hx).symm
    · cases hu
  | _ => cases ht
theorem scal_args : ∀ {ps : List PK} {asx : List CArg} {vs : List Value} {L : List GI} {M : List Value} {ds : List DV}, scalPs ps = true → CArgsOk w F B asx vs L M → decArgs ps asx = some ds → L = [] ∧ M = [] ∧ vs = ds.filterMap valS
  | [], [], [], L, M, ds, _, h, hd => by
    obtain ⟨rfl, rfl⟩ := h
    cases hd
    exact ⟨rfl, rfl, rfl⟩
  | p :: ps, a :: asx, v :: vs, L, M, ds, hp, h, hd => by
    obtain ⟨L1, L2, M1, M2, rfl, rfl, h1, h2⟩ := h
    unfold scalPs at hp
    split at hp
    · rename_i he; cases he
    · rename_i t ps' he
      cases he
      obtain ⟨ht, hp⟩ := (Bool.and_eq_true _ _).mp hp
      unfold decArgs at hd
      split at hd
      · rename_i d1 d2 hd1 hd2
        cases hd
        obtain ⟨rfl, rfl, rfl⟩ := scal_args hp h2 hd2
        unfold decArg at hd1
        split at hd1
        · rename_i ag t' ms ag' xs he
          cases he
          cases ag' with
          | true => cases hd1
          | false =>
            obtain ⟨rfl, h1⟩ := h1
            replace hd1 : (match dv t (decCLs [.ro] xs) with
              | some x => some [x]
              | none => none) = some d1 := hd1
            split at hd1
            · rename_i d hdv
              cases hd1
              unfold dv at hdv
              split at hdv
              · rename_i ys hys
                split at hdv
                · rename_i y hy
                  cases hdv
                  match xs, hys, h1 with
                  | [], hys, h1 => cases hys
                  | [.leaf z], hys, h1 =>
                    obtain ⟨h1, rfl⟩ := h1
                    have hz : ∃ z', ys = [z'] ∧ (z' = z ∨ ∃ r l, z = .bor r l ∧ z' = .list r l) := by
                      cases z <;> cases hys <;> first | exact ⟨_, rfl, .inl rfl⟩ | exact ⟨_, rfl, .inr ⟨_, _, rfl, rfl⟩⟩
                    obtain ⟨z', rfl, hz⟩ := hz
                    have hv : valS (.mk t y) = some v := by
                      rcases hz with rfl | ⟨r, l, rfl, rfl⟩
                      · exact unl_scal ht hy h1
                      · cases t <;> first | (cases ht; done) | cases hy
                    refine ⟨rfl, rfl, ?_⟩
                    show v :: _ = (DV.mk t y :: d2).filterMap valS
                    rw [List.filterMap_cons_some hv]
                  | [.row e r l], hys, h1 => cases hys
                  | [.nil], hys, h1 => cases hys
                  | _ :: _ :: _, hys, h1 => exact (by
                      unfold decCLs at hys
                      split at hys
                      · rename_i h5; cases h5
                      · cases hys)
                · cases hdv
              · cases hdv
            · cases hd1
        · rename_i he; cases he
        · rename_i he; cases he
        · rename_i he; cases he
        · rename_i he; cases he
        · cases hd1
      · cases hd
    · cases hp
  | [], _ :: _, _, _, _, _, _, _, hd => by cases hd
  | _ :: _, [], _, _, _, _, _, _, hd => by cases hd
  | [], [], _ :: _, _, _, _, _, h, _ => h.elim
  | _ :: _, _ :: _, [], _, _, _, _, h, _ => h.elim
theorem scal_back : ∀ {ps : List PK} (ds : List DV), scalPs ps = true → encBacks ps ds = []
  | [], _, _ => rfl
  | p :: ps, ds, hp => by
    unfold scalPs at hp
    split at hp
    · rename_i he; cases he
    · rename_i t ps' he
      cases he
      obtain ⟨ht, hp⟩ := (Bool.and_eq_true _ _).mp hp
      have e : rowKs (leafTys t) [.ro] = [] := by cases t <;> first | rfl | cases ht
      show (encRows (rowKs (leafTys t) [.ro]) ds).1 ++ encBacks ps _ = []
      rw [e]
      exact scal_back _ hp
    · cases hp
theorem valS_leaf {t : Ty} {y : t.T} {v : Value} (h : valS (.mk t y) = some v) : ∃ x, leaves t y = [x] ∧ DLeaf w F (fun _ => False) x v := by
  cases t with
  | int k => cases h; exact ⟨_, rfl, rfl⟩
  | bool => cases h; exact ⟨_, rfl, rfl⟩
  | str => cases h; exact ⟨_, rfl, rfl⟩
  | _ => cases h
theorem scal_res : ∀ {rs : List SK} {ds : List DV} {us : List Value}, scalRs rs = true → ds.map valS = us.map some → ds.length = rs.length → RComps w F (encRes rs ds).1 us []
  | [], [], [], _, _, _ => rfl
  | r :: rs, d :: ds, u :: us, hr, h, hl => by
    unfold scalRs at hr
    split at hr
    · rename_i he; cases he
    · rename_i t rs' he
      cases he
      obtain ⟨ht, hr⟩ := (Bool.and_eq_true _ _).mp hr
      obtain ⟨h1, h2⟩ : valS d = some u ∧ ds.map valS = us.map some := by
        simpa using h
      obtain ⟨t', y⟩ := d
      obtain ⟨x, e, hx⟩ := valS_leaf (w := w) (F := F) h1
      refine ⟨[], [], rfl, ?_, show RComps w F (encRes rs ds).1 us [] from scal_res hr h2 (by simpa using hl)⟩
      show RLsOk w F ((leaves t' y).map .leaf ++ []) [u] []
      rw [e]
      exact ⟨hx, rfl⟩
    · cases hr
  | [], _ :: _, _, _, _, hl => by cases hl
  | _ :: _, [], _, _, _, hl => by cases hl
  | [], [], _ :: _, _, h, _ => by cases h
  | _ :: _, _ :: _, [], _, h, _ => by cases h
/-- A function of scalars that may read package-level variables: its contract. -/
theorem hand_glob {f : FuncId} {s : Sig} {G : Prod' s.ins → Option (Prod' s.outs)} (henter : ∀ args w, (callFunc f args).run P w = .ok (.enter f args) w) (hps : scalPs s.ps = true) (hrs : scalRs s.rs = true)
    (hc : ∀ (x : Prod' s.ins) (y : Prod' s.outs) (w : World), GlW w → G x = some y → Calls P f ((ofProd s.ins x).filterMap valS).toArray w fun e w' => ∃ us, e = .returned (tupOf us) ∧ (ofProd s.outs y).map valS = us.map some ∧ (ofProd s.outs y).length = s.rs.length ∧ Below w.heap.size w w') : ConOk P f (s.con G) := by
  refine ⟨henter, ?_⟩
  intro asx rr hrr w vs F0 L N hF0 hG hgl hargs
  replace hrr : (s.run G asx).val = some rr := hrr
  unfold Sig.run at hrr
  split at hrr
  · rename_i ds hds
    split at hrr
    · rename_i x hx
      cases hFx : G x with
      | none => simp [CR.val, hFx] at hrr
      | some y =>
        have hrr : s.enc y = rr := by simpa [CR.val, hFx] using hrr
        subst hrr
        obtain ⟨rfl, rfl, rfl⟩ := scal_args hps hargs hds
        have hofx : ofProd s.ins x = ds := of_toProd hx
        have := hc x y w hgl.1 hFx
        rw [hofx] at this
        refine this.mono ?_
        rintro e w' ⟨us, rfl, hus, hlen, bel⟩
        refine ⟨_, rfl, ⟨bel.os, bel.tape, bel.output, bel.size, fun b hb _ => bel.block b hb⟩, [], [], (fun c hc => nomatch hc), List.nodup_nil, ?_, ?_⟩
        · show RRefs w' _ [] (encBacks s.ps (encRes s.rs (ofProd s.outs y)).2) []
          rw [scal_back _ hps]
          rfl
        · exact comps_ret (scal_res hrs hus hlen)
    · cases hrr
  · cases hrr
/-- A function of scalars: its contract. -/
theorem hand_scal {f : FuncId} {s : Sig} {G : Prod' s.ins → Option (Prod' s.outs)} (henter : ∀ args w, (callFunc f args).run P w = .ok (.enter f args) w) (hps : scalPs s.ps = true) (hrs : scalRs s.rs = true)
    (hc : ∀ (x : Prod' s.ins) (y : Prod' s.outs) (w : World), G x = some y → Calls P f ((ofProd s.ins x).filterMap valS).toArray w fun e w' => ∃ us, e = .returned (tupOf us) ∧ (ofProd s.outs y).map valS = us.map some ∧ (ofProd s.outs y).length = s.rs.length ∧ Below w.heap.size w w') : ConOk P f (s.con G) :=
  hand_glob henter hps hrs fun x y w _ h => hc x y w h
end
end Go.Proofs.YtaajcllchbnjiaaDoorE

namespace Go.Proofs.YtaajcllchbnjiaaDoorE
open Go Go.RowKit
set_option linter.unusedVariables false
section
variable {P : Program} {X : Nat → Prop} {ρ ρ' : Rho} {st st' : St} {a : Act} {w w' : World} {C : Ctx}
theorem sums_auto : ∀ c : Code, sumsOf .auto c = []
  | .seq a b => by
    show sumsOf .auto a ++ sumsOf .auto b = []
    rw [sums_auto a, sums_auto b]; rfl
  | .cond _ a b => by
    show sumsOf .auto a ++ sumsOf .auto b = []
    rw [sums_auto a, sums_auto b]; rfl
  | .block _ a => sums_auto a
  | .skip => rfl
  | .region _ _ _ => rfl
  | .exit _ => rfl
  | .ret => rfl
  | .loop _ => rfl
  | .rangeFunc _ _ _ _ => rfl
  | .scope _ => rfl
  | .label _ => rfl
  | .goto _ => rfl
  | .refuse _ => rfl
theorem plan_auto_ok (c : Code) : PlanOk P C .auto c := plan_of (sums_auto c) trivial
theorem run_eq_nil {t e : TypeId} (hu : P.underlying t = some (.slice e)) (A : Option Addr) (n c : Nat) : (Go.binOp .eql t (.slice A n c) (.slice none 0 0)).run P w = .ok (.bool A.isNone) w := by
  have h : (Op.equalIn (9999 + 1) t (.slice A n c) (.slice none 0 0)).run P w = .ok A.isNone w := by
    unfold Op.equalIn
    simp only [Sem.run_bind, run_underlying hu, Result.andThen_ok]
    cases A <;> rfl
  show ((Op.equalIn (9999 + 1) t (.slice A n c) (.slice none 0 0)) >>= fun b => pure (Value.bool b)).run P w = _
  simp only [Sem.run_bind, h, Result.andThen_ok, Sem.run_pure]
/-- Clone of a slice: of nil, nil; else a new row. -/
theorem clone_wp {f : FuncId} {fn : Func} {A N Z : Code} {o1 o2 : Oper} {i1 : Nat} {t e u : TypeId} {s : Sig} {G : Prod' s.ins → Option (Prod' s.outs)} (H : CtxOk P C) (hf : P.funcs[f]? = some fn) (hname : (fn.name == "runtime.NumGoroutine") = false)
    (hb : fn.body = some (.seq A (.seq (.seq (.region i1 #[o1, o2] false) (.cond (.tmp 4) N .skip)) Z))) (hn : fn.ntmps = s.ntmps) (hps : Nat.ble s.ps.length s.ntmps = true) (hlt : Nat.blt 4 s.ntmps = true)
    (g1 : o1.guard = none) (p1 : o1.op = .move (.tmp 0)) (d1 : o1.dst = some 3) (g2 : o2.guard = none) (p2 : o2.op = .binOp .eql t (.tmp 3) (.const (.slice none 0 0)) u) (d2 : o2.dst = some 4)
    (hu : P.underlying t = some (.slice e)) (hd : (dsts A).any (Nat.beq 0) = false)
    (hsl : ∀ x, ∃ (r : Ty) (l : List r.T), ((s.start x).tmps.headD .unk = .one (.bor r l) ∨ (s.start x).tmps.headD .unk = .one (.list r l)))
    (hno : ∀ x y, G x = some y → V C .auto A (s.start x) (fun e st => match e with
      | .nrm => V C .auto Z ((st.setT 3 .unk).setT 4 (.one (.kb false))) (s.done C.ti fn.results.toList)
      | _ => none) = some y)
    (hyes : ∀ x y, G x = some y → (∀ (r : Ty) (l : List r.T), ((s.start x).tmps.headD .unk = .one (.bor r l) ∨ (s.start x).tmps.headD .unk = .one (.list r l)) → l = []) → V C .auto A (s.start x) (fun e st => match e with
      | .nrm => V C .auto N ((st.setT 3 .unk).setT 4 (.one (.kb true))) (fun e st => match e with
        | .ret => s.done C.ti fn.results.toList .ret st
        | _ => none)
      | _ => none) = some y) : ConOk P f (s.con G) := by
  refine sig_wp H.ti hf hname hb hn hps fun x y hx X ρ a w hrel => ?_
  have h4 : 4 < s.ntmps := Nat.le_of_ble_eq_true hlt
  have hsn : (s.start x).n = s.ntmps := rfl
  have hslice : ∃ B n c, tmOf a 0 = .slice B n c ∧ (B = none → ∀ (r : Ty) (l : List r.T), ((s.start x).tmps.headD .unk = .one (.bor r l) ∨ (s.start x).tmps.headD .unk = .one (.list r l)) → l = []) := by
    have h0 := hrel.tmps 0
    have e0 : getL .unk (s.start x).tmps 0 = (s.start x).tmps.headD .unk := by cases (s.start x).tmps <;> rfl
    rw [e0] at h0
    obtain ⟨r, l, hl⟩ := hsl x
    have key : ∀ (r : Ty) (l : List r.T), ((s.start x).tmps.headD .unk = .one (.bor r l) ∨ (s.start x).tmps.headD .unk = .one (.list r l)) → ∃ B c, tmOf a 0 = .slice B l.length c ∧ (B = none → l = []) := by
      intro r l hl
      rcases hl with hl | hl
      · rw [hl] at h0
        obtain ⟨B, c, hv, _, h1⟩ := h0
        refine ⟨B, c, List.singleton_inj.1 hv, fun hB => ?_⟩
        rcases h1 with h1 | ⟨_, _, h1, _⟩
        · exact h1
        · rw [hB] at h1; cases h1
      · rw [hl] at h0
        obtain ⟨B, c, hv, _, h1⟩ := h0
        refine ⟨B, c, List.singleton_inj.1 hv, fun hB => ?_⟩
        rcases h1 with h1 | ⟨_, _, h1, _⟩
        · exact h1
        · rw [hB] at h1; cases h1
    obtain ⟨B, c, hv, _⟩ := key r l hl
    refine ⟨B, l.length, c, hv, fun hB r' l' hl' => ?_⟩
    obtain ⟨B', c', hv', h'⟩ := key r' l' hl'
    have e := hv.symm.trans hv'
    injection e with e1 e2 e3
    exact h' (e1 ▸ hB)
  obtain ⟨B, n, c, hv, hnil⟩ := hslice
  intro Q hq
  -- the region of the test, whatever comes behind
  have test : ∀ {ρ1 : Rho} {st1 : St} {a1 : Act} {w1 : World} (Q2 : Exit → Act → World → Prop), Rel X ρ1 st1 a1 w1 → st1.n = s.ntmps → tmOf a1 0 = .slice B n c →
      (∀ a2, Rel X ρ1 ((st1.setT 3 .unk).setT 4 (.one (.kb B.isNone))) a2 w1 → a2.eval (.tmp 4) = .bool B.isNone → SameBut [3, 4] a1 a2 → Q2 .normal a2 w1) → (Code.region i1 #[o1, o2] false).wp P Q2 a1 w1 := by
    intro ρ1 st1 a1 w1 Q2 h1 hn1 hv1 hk
    refine wp_region_list ?_
    show wpList P #[o1, o2] Q2 [o1, o2] a1 w1
    unfold wpList
    rw [if_pos (by simp [Region.wanted, g1])]
    have hx1 : (execOp a1.eval o1).run P w1 = .ok (.value (.slice B n c)) w1 := by
      unfold execOp
      rw [p1]
      have : a1.eval (.tmp 0) = .slice B n c := hv1
      simp [this]
    have hs3 : 3 < a1.tmps.size := by rw [h1.size, hn1]; omega
    have r2 : Rel X ρ1 (st1.setT 3 .unk) (actPut a1 3 (.slice B n c)) w1 := h1.setT (by rw [hn1]; omega) trivial
    have hs4 : 4 < (actPut a1 3 (.slice B n c)).tmps.size := by rw [r2.size]; show 4 < st1.n; rw [hn1]; exact h4
    refine .inl ?_
    unfold Oper.wp
    rw [hx1]
    show wpList P #[o1, o2] Q2 [o2] (a1.put o1.dst (.slice B n c)) w1
    rw [d1]
    show wpList P #[o1, o2] Q2 [o2] (actPut a1 3 (.slice B n c)) w1
    unfold wpList
    rw [if_pos (by simp [Region.wanted, g2])]
    have hx2 : (execOp (actPut a1 3 (.slice B n c)).eval o2).run P w1 = .ok (.value (.bool B.isNone)) w1 := by
      unfold execOp
      rw [p2]
      have e3 : (actPut a1 3 (.slice B n c)).eval (.tmp 3) = .slice B n c := (tmOf_put a1 3 (.slice B n c) hs3 3).trans (if_pos rfl)
      have e5 : (actPut a1 3 (.slice B n c)).eval (.const (.slice none 0 0)) = .slice none 0 0 := rfl
      simp [e3, e5, run_eq_nil hu, Go.eqGuard]
    refine .inl ?_
    unfold Oper.wp
    rw [hx2]
    show wpList P #[o1, o2] Q2 [] ((actPut a1 3 (.slice B n c)).put o2.dst (.bool B.isNone)) w1
    rw [d2]
    refine hk (actPut (actPut a1 3 (.slice B n c)) 4 (.bool B.isNone)) (r2.setT (by show 4 < st1.n; rw [hn1]; exact h4) rfl) ((tmOf_put _ 4 _ hs4 4).trans (if_pos rfl)) fun i hi => ?_
    rw [tmOf_put _ 4 _ hs4 i, if_neg (fun q => hi (by rw [q]; simp)), tmOf_put a1 3 _ hs3 i, if_neg (fun q => hi (by rw [q]; simp))]
  have h0A : (0 : Nat) ∉ dsts A := fun hm => by
    have : (dsts A).any (Nat.beq 0) = true := List.any_eq_true.2 ⟨0, hm, rfl⟩
    rw [hd] at this; cases this
  have hdR : dsts (.region i1 #[o1, o2] false) = [3, 4] := by
    show [o1, o2].filterMap (·.dst) = _
    simp [d1, d2]
  have subA : ∀ i, i ∈ dsts A → i ∈ dsts (.seq A (.seq (.seq (.region i1 #[o1, o2] false) (.cond (.tmp 4) N .skip)) Z)) := fun i hi => List.mem_append_left _ hi
  have subR : ∀ i, i ∈ ([3, 4] : List Nat) → i ∈ dsts (.seq A (.seq (.seq (.region i1 #[o1, o2] false) (.cond (.tmp 4) N .skip)) Z)) := fun i hi => List.mem_append_right _ (List.mem_append_left _ (List.mem_append_left _ (by rw [hdR]; exact hi)))
  have subN : ∀ i, i ∈ dsts N → i ∈ dsts (.seq A (.seq (.seq (.region i1 #[o1, o2] false) (.cond (.tmp 4) N .skip)) Z)) := fun i hi => List.mem_append_right _ (List.mem_append_left _ (List.mem_append_right _ (List.mem_append_left _ hi)))
  have subZ : ∀ i, i ∈ dsts Z → i ∈ dsts (.seq A (.seq (.seq (.region i1 #[o1, o2] false) (.cond (.tmp 4) N .skip)) Z)) := fun i hi => List.mem_append_right _ (List.mem_append_right _ hi)
  cases hB : B with
  | none =>
    refine wp_seq (V_sound H A (plan_auto_ok A) hrel (hyes x y hx (hnil hB)) _ ?_)
    intro e1 ρ1 st1 a1 w1 k1 k2 k3 k4 k5
    cases e1 with
    | exit _ => cases k1
    | ret => cases k1
    | nrm =>
      refine wp_seq (wp_seq (test _ k2 (k4.trans hsn) ((k5 0 h0A).trans hv) ?_))
      intro a2 r3 e4 sb
      rw [hB] at r3 e4
      refine wp_cond_true e4 (V_sound H N (plan_auto_ok N) r3 k1 _ ?_)
      intro e2 ρ2 st2 a3 w2 m1 m2 m3 m4 m5
      cases e2 with
      | nrm => cases m1
      | exit _ => cases m1
      | ret => exact hq .ret ρ2 st2 a3 w2 m1 m2 (k3.trans m3) (m4.trans k4) ((k5.mono subA).trans ((SameBut.mono sb subR).trans (m5.mono subN)))
  | some b =>
    refine wp_seq (V_sound H A (plan_auto_ok A) hrel (hno x y hx) _ ?_)
    intro e1 ρ1 st1 a1 w1 k1 k2 k3 k4 k5
    cases e1 with
    | exit _ => cases k1
    | ret => cases k1
    | nrm =>
      refine wp_seq (wp_seq (test _ k2 (k4.trans hsn) ((k5 0 h0A).trans hv) ?_))
      intro a2 r3 e4 sb
      rw [hB] at r3 e4
      refine wp_cond_false e4 (wp_skip ?_)
      refine V_sound H Z (plan_auto_ok Z) r3 k1 Q ?_
      intro e2 ρ2 st2 a3 w2 m1 m2 m3 m4 m5
      exact hq e2 ρ2 st2 a3 w2 m1 m2 (k3.trans m3) (m4.trans k4) ((k5.mono subA).trans ((SameBut.mono sb subR).trans (m5.mono subZ)))
end
end Go.Proofs.YtaajcllchbnjiaaDoorE

namespace Go.Proofs.YtaajcllchbnjiaaDoorE
open Go Go.RowKit
set_option linter.unusedVariables false
/-- One cell's value. -/
def val1 : (r : Ty) → r.T → Option Value
  | .int k, n => some (.int k n)
  | .bool, b => some (.bool b)
  | .str, s => some (.string (ba s))
  | _, _ => none
section
variable {P : Program} {w : World}
theorem rep_val1 {F : Nat → Prop} : ∀ {r : Ty} {x : r.T} {v : Value}, val1 r x = some v → Rep w F r x [v] ∧ r.sz = 1
  | .int k, _, _, h => by cases h; exact ⟨rfl, rfl⟩
  | .bool, _, _, h => by cases h; exact ⟨rfl, rfl⟩
  | .str, _, _, h => by cases h; exact ⟨rfl, rfl⟩
  | .sl _, _, _, h => by cases h
  | .pair _ _, _, _, h => by cases h
  | .unit, _, _, h => by cases h
theorem gl1_of {n : Nat} {r : Ty} {l : List r.T} {cs : Array Value} {ty : TypeId} {fr : Nat × Nat} (hg : w.heap[n]? = some (.cells cs ty fr)) (h : l.map (val1 r) = cs.toList.map some) (hr : r.sz = 1) : Gl1 w n r l := by
  have hlen : l.length = cs.size := by
    have := congrArg List.length h
    simpa using this
  refine ⟨(Array.getElem?_eq_some_iff.1 hg).1, ⟨_, _, rfl, Nat.le_refl _, .inr ⟨n, 0, rfl, rfl, fun j x hj => ?_⟩⟩, cs, ty, fr, hg, by rw [hr, hlen, Nat.mul_one]⟩
  have hx := congrArg (fun z => z[j]?) h
  simp only [List.getElem?_map, hj, Option.map_some] at hx
  cases hv : cs.toList[j]? with
  | none => rw [hv] at hx; cases hx
  | some v =>
    rw [hv] at hx
    have hx : val1 r x = some v := Option.some.inj hx
    refine ⟨[v], fun i u hu => ?_, (rep_val1 hx).1⟩
    cases i with
    | zero =>
      cases hu
      rw [cell_of_row w n _ cs ty fr hg, hr, Nat.zero_add, Nat.mul_one, Nat.add_zero]
      simpa using hv
    | succ i => cases hu
theorem tab_of {n : Nat} {name : String} {k : IntKind} {zs : List Int} (hn : P.globalNamed name = some n) (h : Gl1 w n (.int k) zs) : Lib.TabIs P w name k zs := by
  obtain ⟨_, ⟨A, c, hA, _, hrow⟩, cs, ty, fr, hg, hsz⟩ := h
  cases hA
  unfold Lib.TabIs World.var?
  rw [hn]
  simp only [Option.bind_some, hg]
  congr 1
  apply Array.ext
  · rw [hsz]; simp [Ty.sz]
  · intro i h1 h2
    rcases hrow with rfl | ⟨gb, o, hq, _, hrow⟩
    · rw [hsz] at h1; simp at h1
    · cases hq
      have hi : i < zs.length := by rw [hsz] at h1; simpa [Ty.sz] using h1
      obtain ⟨c, hc, hr⟩ := hrow i zs[i] (List.getElem?_eq_getElem hi)
      have hr : c = [.int k zs[i]] := hr
      subst hr
      have := hc 0 _ rfl
      rw [cell_of_row w n _ cs ty fr hg] at this
      have hz : 0 + i * (Ty.int k).sz + 0 = i := by show 0 + i * 1 + 0 = i; omega
      rw [hz, Array.getElem?_eq_getElem h1] at this
      simp only [List.getElem_toArray, List.getElem_map]
      exact Option.some.inj this
theorem laid_vars {ps : List MemPlace} : ∀ {l : List (String × DataW Unit)} {ps : List MemPlace}, DataW.LaidVars P w l ps → ∀ {name : String} {d : DataW Unit}, (name, d) ∈ l → ∃ g t cs fuel p, P.globalNamed name = some g ∧ (P.globals[g]?).map (·.type) = some t ∧ w.var? P name = some cs ∧ DataW.trod (fun _ => ()) P w 0 (fun _ => true) false fuel t cs.toList = some (d, p)
  | [], _, _, _, _, hm => nomatch hm
  | (n, d) :: l, _, ⟨g, t, cs, fuel, p, q, h1, h2, h3, h4, h5, _⟩, name, d', hm => by
    rcases List.mem_cons.1 hm with e | hm
    · cases e
      exact ⟨g, t, cs, fuel, p, h1, h2, h3, h4⟩
    · exact laid_vars (ps := ps) h5 hm
theorem var_block {name : String} {g : Nat} {cs : Array Value} (hg : P.globalNamed name = some g) (h : w.var? P name = some cs) : ∃ ty fr, w.heap[g]? = some (.cells cs ty fr) := by
  unfold World.var? at h
  rw [hg, Option.bind_some] at h
  split at h
  · rename_i c ty fr hb
    cases h
    exact ⟨ty, fr, hb⟩
  · cases h
/-- A listed table of numbers holds them. -/
theorem laid_ints {l : List (String × DataW Unit)} (h : laidMet P l w) {name : String} {k : IntKind} {zs : List Int} (hm : (name, Lib.tabData k zs) ∈ l) {g n : Nat} {t e : TypeId} (hg : P.globalNamed name = some g) (hty : (P.globals[g]?).map (·.type) = some t)
    (ht : P.underlying t = some (.array n e)) (he : P.underlying e = some (.int k)) (hce : P.cellsOf e = 1) (hct : P.cellsOf t = n) : Gl1 w g (.int k) zs := by
  obtain ⟨ps, hv, _⟩ := h
  obtain ⟨g', t', cs, fuel, p, h1, h2, h3, h4⟩ := laid_vars (ps := ps) hv hm
  obtain rfl := Option.some.inj (hg.symm.trans h1)
  obtain rfl := Option.some.inj (hty.symm.trans h2)
  obtain ⟨ty, fr, hb⟩ := var_block hg h3
  have hc := Lib.cells_of_tab ht he hce hct h4
  exact gl1_of hb (by rw [hc]; simp [val1]) rfl
theorem cells_of_strs {H : Type} {enc : TypeId × Value → H} {base : Nat} {sp : Nat → Bool} {held : Bool} {fuel : Nat} {t e : TypeId} {n : Nat} {cs : List Value} {ss : List Str} {p : List MemPlace}
    (ht : P.underlying t = some (.array n e)) (he : P.underlying e = some .string) (hce : P.cellsOf e = 1) (hct : P.cellsOf t = n)
    (h : DataW.trod enc P w base sp held fuel t cs = some (.agg (ss.map fun s => .lit (.string s)), p)) : cs = ss.map fun s => Value.string (ba s) := by
  cases fuel with
  | zero => simp [DataW.trod] at h
  | succ fuel =>
    simp only [DataW.trod, ht, hce, hct, Nat.mul_one] at h
    split at h
    · rename_i hl
      obtain ⟨xs, hm, hx⟩ := Option.map_eq_some_iff.1 h
      have hxs : xs.map (·.1) = ss.map fun s => (DataW.lit (.string s) : DataW H) := by
        have := congrArg Prod.fst hx
        simpa using this
      have hxl : xs.length = n := by simpa using Lib.mapM_length hm
      have hzl : ss.length = n := by
        have := congrArg List.length hxs
        simp at this
        omega
      apply List.ext_getElem?
      intro i
      by_cases hi : i < n
      · obtain ⟨b, hb, hf⟩ := Lib.mapM_at hm i i (by simp [hi])
        obtain ⟨z, hc, rfl, _⟩ := DataW.trod_string he hf
        have h1 : cs[i]? = some (.string z) := by
          have := congrArg (·[0]?) hc
          simpa [List.getElem?_take, List.getElem?_drop] using this
        have h2 : (xs.map (·.1))[i]? = some (DataW.lit (.string z.data.toList) : DataW H) := by simp [hb]
        rw [hxs] at h2
        simp only [List.getElem?_map, Option.map_eq_some_iff, DataW.lit.injEq, Lit.string.injEq] at h2
        obtain ⟨z', hz', he'⟩ := h2
        rw [h1, List.getElem?_map, hz', Option.map_some, he', ba_data]
      · rw [List.getElem?_eq_none (by omega), List.getElem?_eq_none (by simp; omega)]
    · cases h
/-- A listed table of strings holds them. -/
theorem laid_strs {l : List (String × DataW Unit)} (h : laidMet P l w) {name : String} {ss : List Str} (hm : (name, (.agg (ss.map fun s => .lit (.string s)) : DataW Unit)) ∈ l) {g n : Nat} {t e : TypeId} (hg : P.globalNamed name = some g) (hty : (P.globals[g]?).map (·.type) = some t)
    (ht : P.underlying t = some (.array n e)) (he : P.underlying e = some .string) (hce : P.cellsOf e = 1) (hct : P.cellsOf t = n) : Gl1 w g .str ss := by
  obtain ⟨ps, hv, _⟩ := h
  obtain ⟨g', t', cs, fuel, p, h1, h2, h3, h4⟩ := laid_vars (ps := ps) hv hm
  obtain rfl := Option.some.inj (hg.symm.trans h1)
  obtain rfl := Option.some.inj (hty.symm.trans h2)
  obtain ⟨ty, fr, hb⟩ := var_block hg h3
  have hc := cells_of_strs ht he hce hct h4
  exact gl1_of hb (by rw [hc]; simp [val1]) rfl
end
end Go.Proofs.YtaajcllchbnjiaaDoorE

section
namespace Go.Proofs
open Go.Shelf
def Tryd.lays169_ren : Go.Shelf.Ren := ⟨fun | 169 => 74 | n => n, fun | 70 => 108 | 9 => 9 | 0 => 0 | 72 => 110 | 37 => 61 | 127 => 125 | 3 => 3 | 5 => 5 | n => n, fun | n => n⟩
theorem Tryd.lays169 : Go.Proofs.Lays.n169 Tryd.prog Tryd.lays169_ren := {
  mixed := by kernel_rfl
  f169 := Tryd.func74.trans (congrArg some (by kernel_rfl))
  t0 := Tryd.underlying0
  a0 := Tryd.isAgg0
  z0 := Tryd.sizeOf0
  v0 := Tryd.zeroValue0
  t3 := Tryd.underlying3
  a3 := Tryd.isAgg3
  z3 := Tryd.sizeOf3
  v3 := Tryd.zeroValue3
  t9 := Tryd.underlying9
  a9 := Tryd.isAgg9
  z9 := Tryd.sizeOf9
  v9 := Tryd.zeroValue9
  t37 := Tryd.underlying61
  a37 := Tryd.isAgg61
  z37 := Tryd.sizeOf61
  v37 := Tryd.zeroValue61
  t70 := Tryd.underlying108
  a70 := Tryd.isAgg108
  z70 := Tryd.sizeOf108
  v70 := Tryd.zeroValue108
  t72 := Tryd.underlying110
  a72 := Tryd.isAgg110
  z72 := Tryd.sizeOf110
  v72 := Tryd.zeroValue110
  t127 := Tryd.underlying125
  a127 := Tryd.isAgg125
  z127 := Tryd.sizeOf125
  v127 := Tryd.zeroValue125 }
theorem Tryd.Builder_Extra_169 : Builder.Extra Tryd.prog Tryd.lays169_ren := {
  sizeBuilder := by kernel_rfl
  liesBuilder := by kernel_rfl
  t5 := Tryd.underlying5
  a5 := Tryd.isAgg5
  z5 := Tryd.sizeOf5
  v5 := Tryd.zeroValue5
  infoByte := by kernel_rfl
  cellsByte := by kernel_rfl
  sizeByte := by kernel_rfl
  neB5 := by decide }
open Go.RowKit in
theorem Tryd.Builder_String (B b : Nat) (l : List UInt8) (w : World) (h : Lib.IsBuilder 110 5 B b (Lib.byteCells l) w) (h0 : l ≠ []) :
    Calls Tryd.prog 74 #[.pointer (some ⟨b, 0, none⟩)] w fun e w' => e = .returned (.string ⟨l.toArray⟩) ∧ Below B w w' := Any.Builder_String Tryd.lays169 Tryd.Builder_Extra_169 B b l w h h0
open Go.RowKit in
theorem Tryd.Builder_String_empty (B b : Nat) (w : World) (h : Lib.IsBuilder 110 5 B b [] w) (hBw : B ≤ w.heap.size) :
    Calls Tryd.prog 74 #[.pointer (some ⟨b, 0, none⟩)] w fun e w' => e = .returned (.string ⟨#[]⟩) ∧ Below B w w' := Any.Builder_String_empty Tryd.lays169 Tryd.Builder_Extra_169 B b w h hBw
open Go.RowKit in
theorem Tryd.Builder_String_any (B b : Nat) (l : List UInt8) (w : World) (h : Lib.IsBuilder 110 5 B b (Lib.byteCells l) w) (hBw : B ≤ w.heap.size) :
    Calls Tryd.prog 74 #[.pointer (some ⟨b, 0, none⟩)] w fun e w' => e = .returned (.string ⟨l.toArray⟩) ∧ Below B w w' := Any.Builder_String_any Tryd.lays169 Tryd.Builder_Extra_169 B b l w h hBw
def Tryd.lays241_ren : Go.Shelf.Ren := ⟨fun | 241 => 81 | 277 => 91 | n => n, fun | 70 => 108 | 3 => 3 | 0 => 0 | 72 => 110 | 37 => 61 | 5 => 5 | n => n, fun | n => n⟩
theorem Tryd.lays241 : Go.Proofs.Lays.n241 Tryd.prog Tryd.lays241_ren := {
  mixed := by kernel_rfl
  f241 := Tryd.func81.trans (congrArg some (by kernel_rfl))
  f277 := Tryd.func91.trans (congrArg some (by kernel_rfl))
  t0 := Tryd.underlying0
  a0 := Tryd.isAgg0
  z0 := Tryd.sizeOf0
  v0 := Tryd.zeroValue0
  t3 := Tryd.underlying3
  a3 := Tryd.isAgg3
  z3 := Tryd.sizeOf3
  v3 := Tryd.zeroValue3
  t37 := Tryd.underlying61
  a37 := Tryd.isAgg61
  z37 := Tryd.sizeOf61
  v37 := Tryd.zeroValue61
  t70 := Tryd.underlying108
  a70 := Tryd.isAgg108
  z70 := Tryd.sizeOf108
  v70 := Tryd.zeroValue108
  t72 := Tryd.underlying110
  a72 := Tryd.isAgg110
  z72 := Tryd.sizeOf110
  v72 := Tryd.zeroValue110 }
theorem Tryd.Builder_Extra_241 : Builder.Extra Tryd.prog Tryd.lays241_ren := {
  sizeBuilder := by kernel_rfl
  liesBuilder := by kernel_rfl
  t5 := Tryd.underlying5
  a5 := Tryd.isAgg5
  z5 := Tryd.sizeOf5
  v5 := Tryd.zeroValue5
  infoByte := by kernel_rfl
  cellsByte := by kernel_rfl
  sizeByte := by kernel_rfl
  neB5 := by decide }
open Go.RowKit in
theorem Tryd.Builder_grow_fresh (B b n : Nat) (w : World) (hB : B ≤ b) (hbk : w.heap[b]? = some (.cells #[.pointer (some ⟨b, 0, none⟩), .slice none 0 0] 110 (0, 0))) (hBw : B ≤ w.heap.size) (hn : n ≤ 281474976710656) :
    Calls Tryd.prog 81 #[.pointer (some ⟨b, 0, none⟩), .int .i64 n] w fun e w' => e = .returned (.tuple #[]) ∧ (Lib.BuilderAt 110 5 B b (.pointer (some ⟨b, 0, none⟩)) [] w' ∧ Below B w w') := Any.Builder_grow_fresh Tryd.lays241 Tryd.Builder_Extra_241 B b n w hB hbk hBw hn
def Tryd.lays165_ren : Go.Shelf.Ren := ⟨fun | 165 => 72 | 240 => 80 | 241 => 81 | 276 => 90 | 277 => 91 | n => n, fun | 70 => 108 | 3 => 3 | 0 => 0 | 4 => 4 | 9 => 9 | 20 => 20 | 72 => 110 | 37 => 61 | 164 => 135 | 5 => 5 | n => n, fun | n => n⟩
theorem Tryd.lays165 : Go.Proofs.Lays.n165 Tryd.prog Tryd.lays165_ren := {
  mixed := by kernel_rfl
  f165 := Tryd.func72.trans (congrArg some (by kernel_rfl))
  f240 := Tryd.func80.trans (congrArg some (by kernel_rfl))
  f241 := Tryd.func81.trans (congrArg some (by kernel_rfl))
  f276 := Tryd.func90.trans (congrArg some (by kernel_rfl))
  f277 := Tryd.func91.trans (congrArg some (by kernel_rfl))
  t0 := Tryd.underlying0
  a0 := Tryd.isAgg0
  z0 := Tryd.sizeOf0
  v0 := Tryd.zeroValue0
  t3 := Tryd.underlying3
  a3 := Tryd.isAgg3
  z3 := Tryd.sizeOf3
  v3 := Tryd.zeroValue3
  t4 := Tryd.underlying4
  a4 := Tryd.isAgg4
  z4 := Tryd.sizeOf4
  v4 := Tryd.zeroValue4
  t9 := Tryd.underlying9
  a9 := Tryd.isAgg9
  z9 := Tryd.sizeOf9
  v9 := Tryd.zeroValue9
  t20 := Tryd.underlying20
  a20 := Tryd.isAgg20
  z20 := Tryd.sizeOf20
  v20 := Tryd.zeroValue20
  t37 := Tryd.underlying61
  a37 := Tryd.isAgg61
  z37 := Tryd.sizeOf61
  v37 := Tryd.zeroValue61
  t70 := Tryd.underlying108
  a70 := Tryd.isAgg108
  z70 := Tryd.sizeOf108
  v70 := Tryd.zeroValue108
  t72 := Tryd.underlying110
  a72 := Tryd.isAgg110
  z72 := Tryd.sizeOf110
  v72 := Tryd.zeroValue110
  t164 := Tryd.underlying135
  a164 := Tryd.isAgg135
  z164 := Tryd.sizeOf135
  v164 := Tryd.zeroValue135 }
theorem Tryd.Builder_Extra_165 : Builder.Extra Tryd.prog Tryd.lays165_ren := {
  sizeBuilder := by kernel_rfl
  liesBuilder := by kernel_rfl
  t5 := Tryd.underlying5
  a5 := Tryd.isAgg5
  z5 := Tryd.sizeOf5
  v5 := Tryd.zeroValue5
  infoByte := by kernel_rfl
  cellsByte := by kernel_rfl
  sizeByte := by kernel_rfl
  neB5 := by decide }
open Go.RowKit in
theorem Tryd.Builder_Grow_fresh (B b n : Nat) (w : World) (hB : B ≤ b) (hbk : w.heap[b]? = some (.cells #[.pointer none, .slice none 0 0] 110 (0, 0))) (hBw : B ≤ w.heap.size) (hn : n ≤ 281474976710656) :
    Calls Tryd.prog 72 #[.pointer (some ⟨b, 0, none⟩), .int .i64 n] w fun e w' => e = .returned (.tuple #[]) ∧ (Lib.BuilderAt 110 5 B b (.pointer (some ⟨b, 0, none⟩)) [] w' ∧ Below B w w') := Any.Builder_Grow_fresh Tryd.lays165 Tryd.Builder_Extra_165 B b n w hB hbk hBw hn
def Tryd.lays156_ren : Go.Shelf.Ren := ⟨fun | 156 => 66 | 165 => 72 | 166 => 73 | 169 => 74 | 240 => 80 | 241 => 81 | 276 => 90 | 277 => 91 | n => n, fun | 31 => 22 | 9 => 9 | 3 => 3 | 4 => 4 | 0 => 0 | 20 => 20 | 72 => 110 | 76 => 114 | 70 => 108 | 37 => 61 | 75 => 113 | 127 => 125 | 164 => 135 | 5 => 5 | 80 => 116 | n => n, fun | n => n⟩
theorem Tryd.lays156 : Go.Proofs.Lays.n156 Tryd.prog Tryd.lays156_ren := {
  mixed := by kernel_rfl
  f156 := Tryd.func66.trans (congrArg some (by kernel_rfl))
  f165 := Tryd.func72.trans (congrArg some (by kernel_rfl))
  f166 := Tryd.func73.trans (congrArg some (by kernel_rfl))
  f169 := Tryd.func74.trans (congrArg some (by kernel_rfl))
  f240 := Tryd.func80.trans (congrArg some (by kernel_rfl))
  f241 := Tryd.func81.trans (congrArg some (by kernel_rfl))
  f276 := Tryd.func90.trans (congrArg some (by kernel_rfl))
  f277 := Tryd.func91.trans (congrArg some (by kernel_rfl))
  t0 := Tryd.underlying0
  a0 := Tryd.isAgg0
  z0 := Tryd.sizeOf0
  v0 := Tryd.zeroValue0
  t3 := Tryd.underlying3
  a3 := Tryd.isAgg3
  z3 := Tryd.sizeOf3
  v3 := Tryd.zeroValue3
  t4 := Tryd.underlying4
  a4 := Tryd.isAgg4
  z4 := Tryd.sizeOf4
  v4 := Tryd.zeroValue4
  t9 := Tryd.underlying9
  a9 := Tryd.isAgg9
  z9 := Tryd.sizeOf9
  v9 := Tryd.zeroValue9
  t20 := Tryd.underlying20
  a20 := Tryd.isAgg20
  z20 := Tryd.sizeOf20
  v20 := Tryd.zeroValue20
  t31 := Tryd.underlying22
  a31 := Tryd.isAgg22
  z31 := Tryd.sizeOf22
  v31 := Tryd.zeroValue22
  t37 := Tryd.underlying61
  a37 := Tryd.isAgg61
  z37 := Tryd.sizeOf61
  v37 := Tryd.zeroValue61
  t70 := Tryd.underlying108
  a70 := Tryd.isAgg108
  z70 := Tryd.sizeOf108
  v70 := Tryd.zeroValue108
  t72 := Tryd.underlying110
  a72 := Tryd.isAgg110
  z72 := Tryd.sizeOf110
  v72 := Tryd.zeroValue110
  t75 := Tryd.underlying113
  a75 := Tryd.isAgg113
  z75 := Tryd.sizeOf113
  v75 := Tryd.zeroValue113
  t76 := Tryd.underlying114
  a76 := Tryd.isAgg114
  z76 := Tryd.sizeOf114
  v76 := Tryd.zeroValue114
  t127 := Tryd.underlying125
  a127 := Tryd.isAgg125
  z127 := Tryd.sizeOf125
  v127 := Tryd.zeroValue125
  t164 := Tryd.underlying135
  a164 := Tryd.isAgg135
  z164 := Tryd.sizeOf135
  v164 := Tryd.zeroValue135 }
theorem Tryd.Builder_Extra_156 : Builder.Extra Tryd.prog Tryd.lays156_ren := {
  sizeBuilder := by kernel_rfl
  liesBuilder := by kernel_rfl
  t5 := Tryd.underlying5
  a5 := Tryd.isAgg5
  z5 := Tryd.sizeOf5
  v5 := Tryd.zeroValue5
  infoByte := by kernel_rfl
  cellsByte := by kernel_rfl
  sizeByte := by kernel_rfl
  neB5 := by decide }
open Go.RowKit in
theorem Tryd.strings_Join_none (a : Option Addr) (c : Nat) (sep : ByteArray) (w : World) :
    Calls Tryd.prog 66 #[.slice a 0 c, .string sep] w fun e w' => e = .returned (.string ⟨#[]⟩) ∧ w' = w := Any.strings_Join_none Tryd.lays156 Tryd.Builder_Extra_156 a c sep w
open Go.RowKit in
theorem Tryd.strings_Join (bk o c : Nat) (xs : List ByteArray) (sep : ByteArray) (w : World) (hcells : ∀ (j : Nat) x, xs[j]? = some x → w.cell? ⟨bk, o + j, none⟩ = some (.string x)) (hbk : bk < w.heap.size) (hN : xs.length ≤ 140737488355328) (hcap : xs.length ≤ c) (hlen : (Lib.join (xs.map (·.data.toList)) sep.data.toList).length ≤ 140737488355328) :
    Calls Tryd.prog 66 #[.slice (some ⟨bk, o, none⟩) xs.length c, .string sep] w fun e w' => e = .returned (.string ⟨(Lib.join (xs.map (·.data.toList)) sep.data.toList).toArray⟩) ∧ Below w.heap.size w w' := Any.strings_Join Tryd.lays156 Tryd.Builder_Extra_156 bk o c xs sep w hcells hbk hN hcap hlen
open Go.RowKit in
theorem Tryd.Builder_String_f (B b : Nat) (l : List UInt8) (w : World) (h : Lib.IsBuilderF 110 5 B b (Lib.byteCells l) w) (h0 : l ≠ []) :
    Calls Tryd.prog 74 #[.pointer (some ⟨b, 0, none⟩)] w fun e w' => e = .returned (.string ⟨l.toArray⟩) ∧ (Lib.IsBuilderF 110 5 B b (Lib.byteCells l) w' ∧ Below B w w') := Any.Builder_String_f Tryd.lays169 Tryd.Builder_Extra_169 B b l w h h0
open Go.RowKit in
theorem Tryd.Builder_String_empty_f (B b : Nat) (w : World) (h : Lib.IsBuilderF 110 5 B b [] w) (hBw : B ≤ w.heap.size) :
    Calls Tryd.prog 74 #[.pointer (some ⟨b, 0, none⟩)] w fun e w' => e = .returned (.string ⟨#[]⟩) ∧ (Lib.IsBuilderF 110 5 B b [] w' ∧ Below B w w') := Any.Builder_String_empty_f Tryd.lays169 Tryd.Builder_Extra_169 B b w h hBw
open Go.RowKit in
theorem Tryd.Builder_String_any_f (B b : Nat) (l : List UInt8) (w : World) (h : Lib.IsBuilderF 110 5 B b (Lib.byteCells l) w) (hBw : B ≤ w.heap.size) :
    Calls Tryd.prog 74 #[.pointer (some ⟨b, 0, none⟩)] w fun e w' => e = .returned (.string ⟨l.toArray⟩) ∧ (Lib.IsBuilderF 110 5 B b (Lib.byteCells l) w' ∧ Below B w w') := Any.Builder_String_any_f Tryd.lays169 Tryd.Builder_Extra_169 B b l w h hBw
open Go.RowKit in
theorem Tryd.Builder_String_k (B b : Nat) (l : List UInt8) (w : World) (h : Lib.IsBuilderF 110 5 B b (Lib.byteCells l) w) (h0 : l ≠ []) :
    Calls Tryd.prog 74 #[.pointer (some ⟨b, 0, none⟩)] w fun e w' => e = .returned (.string ⟨l.toArray⟩) ∧ (Lib.IsBuilderF 110 5 B b (Lib.byteCells l) w' ∧ Below B w w' ∧ Lib.OthersKept 5 (some b) w w') := Any.Builder_String_k Tryd.lays169 Tryd.Builder_Extra_169 B b l w h h0
open Go.RowKit in
theorem Tryd.Builder_String_empty_k (B b : Nat) (w : World) (h : Lib.IsBuilderF 110 5 B b [] w) (hBw : B ≤ w.heap.size) :
    Calls Tryd.prog 74 #[.pointer (some ⟨b, 0, none⟩)] w fun e w' => e = .returned (.string ⟨#[]⟩) ∧ (Lib.IsBuilderF 110 5 B b [] w' ∧ Below B w w' ∧ Lib.OthersKept 5 (some b) w w') := Any.Builder_String_empty_k Tryd.lays169 Tryd.Builder_Extra_169 B b w h hBw
open Go.RowKit in
theorem Tryd.Builder_String_any_k (B b : Nat) (l : List UInt8) (w : World) (h : Lib.IsBuilderF 110 5 B b (Lib.byteCells l) w) (hBw : B ≤ w.heap.size) :
    Calls Tryd.prog 74 #[.pointer (some ⟨b, 0, none⟩)] w fun e w' => e = .returned (.string ⟨l.toArray⟩) ∧ (Lib.IsBuilderF 110 5 B b (Lib.byteCells l) w' ∧ Below B w w' ∧ Lib.OthersKept 5 (some b) w w') := Any.Builder_String_any_k Tryd.lays169 Tryd.Builder_Extra_169 B b l w h hBw
def Tryd.lays195_ren : Go.Shelf.Ren := ⟨fun | 195 => 87 | n => n, fun | 9 => 9 | 3 => 3 | 0 => 0 | 4 => 4 | n => n, fun | n => n⟩
theorem Tryd.lays195 : Go.Proofs.Lays.n195 Tryd.prog Tryd.lays195_ren := {
  mixed := by kernel_rfl
  f195 := Tryd.func87.trans (congrArg some (by kernel_rfl))
  t0 := Tryd.underlying0
  a0 := Tryd.isAgg0
  z0 := Tryd.sizeOf0
  v0 := Tryd.zeroValue0
  t3 := Tryd.underlying3
  a3 := Tryd.isAgg3
  z3 := Tryd.sizeOf3
  v3 := Tryd.zeroValue3
  t4 := Tryd.underlying4
  a4 := Tryd.isAgg4
  z4 := Tryd.sizeOf4
  v4 := Tryd.zeroValue4
  t9 := Tryd.underlying9
  a9 := Tryd.isAgg9
  z9 := Tryd.sizeOf9
  v9 := Tryd.zeroValue9 }
open Go.RowKit in
theorem Tryd.utf8_RuneCountInString (s : ByteArray) (w : World) (hs : s.size < 9223372036854775807) :
    Calls Tryd.prog 87 #[.string s] w fun e w' => e = .returned (.int .i64 (Lib.runeCount s)) ∧ ∃ pos, w' = w.iter s pos := Any.utf8_RuneCountInString Tryd.lays195 s w hs
open Go.RowKit in
theorem Tryd.Builder_grow_fresh_cap (B b n : Nat) (w : World) (hB : B ≤ b) (hbk : w.heap[b]? = some (.cells #[.pointer (some ⟨b, 0, none⟩), .slice none 0 0] 110 (0, 0))) (hBw : B ≤ w.heap.size) (hn : n ≤ 281474976710656) :
    Calls Tryd.prog 81 #[.pointer (some ⟨b, 0, none⟩), .int .i64 n] w fun e w' => e = .returned (.tuple #[]) ∧ (Lib.BuilderAt 110 5 B b (.pointer (some ⟨b, 0, none⟩)) [] w' ∧ Below B w w') ∧ ∃ p cap, w'.cell? ⟨b, 1, none⟩ = some (.slice p 0 cap) ∧ n ≤ cap := Any.Builder_grow_fresh_cap Tryd.lays241 Tryd.Builder_Extra_241 B b n w hB hbk hBw hn
open Go.RowKit in
theorem Tryd.Builder_Grow_fresh_cap (B b n : Nat) (w : World) (hB : B ≤ b) (hbk : w.heap[b]? = some (.cells #[.pointer none, .slice none 0 0] 110 (0, 0))) (hBw : B ≤ w.heap.size) (hn : n ≤ 281474976710656) :
    Calls Tryd.prog 72 #[.pointer (some ⟨b, 0, none⟩), .int .i64 n] w fun e w' => e = .returned (.tuple #[]) ∧ (Lib.BuilderAt 110 5 B b (.pointer (some ⟨b, 0, none⟩)) [] w' ∧ Below B w w') ∧ ∃ p cap, w'.cell? ⟨b, 1, none⟩ = some (.slice p 0 cap) ∧ n ≤ cap := Any.Builder_Grow_fresh_cap Tryd.lays165 Tryd.Builder_Extra_165 B b n w hB hbk hBw hn
def Tryd.lays129_ren : Go.Shelf.Ren := ⟨fun | 129 => 83 | n => n, fun | 53 => 119 | 3 => 3 | 4 => 4 | 46 => 76 | 5 => 5 | 9 => 9 | n => n, fun | n => n⟩
theorem Tryd.lays129 : Go.Proofs.Lays.n129 Tryd.prog Tryd.lays129_ren := {
  mixed := by kernel_rfl
  f129 := Tryd.func83.trans (congrArg some (by kernel_rfl))
  t3 := Tryd.underlying3
  a3 := Tryd.isAgg3
  z3 := Tryd.sizeOf3
  v3 := Tryd.zeroValue3
  t4 := Tryd.underlying4
  a4 := Tryd.isAgg4
  z4 := Tryd.sizeOf4
  v4 := Tryd.zeroValue4
  t5 := Tryd.underlying5
  a5 := Tryd.isAgg5
  z5 := Tryd.sizeOf5
  v5 := Tryd.zeroValue5
  t9 := Tryd.underlying9
  a9 := Tryd.isAgg9
  z9 := Tryd.sizeOf9
  v9 := Tryd.zeroValue9
  t46 := Tryd.underlying76
  a46 := Tryd.isAgg76
  z46 := Tryd.sizeOf76
  v46 := Tryd.zeroValue76
  t53 := Tryd.underlying119
  a53 := Tryd.isAgg119
  z53 := Tryd.sizeOf119
  v53 := Tryd.zeroValue119 }
theorem Tryd.bits_Len64 (x : Int) (w : World) (h0 : 0 ≤ x) (h1 : x ≤ 18446744073709551615) :
    Calls Tryd.prog 83 #[.int .u64 x] w fun e w' => e = .returned (.int .i64 (Lib.bitLen x.toNat)) ∧ w' = w := Any.bits_Len64 Tryd.lays129 x w h0 h1
def Tryd.lays317_ren : Go.Shelf.Ren := ⟨fun | 317 => 82 | n => n, fun | 3 => 3 | 46 => 76 | n => n, fun | n => n⟩
theorem Tryd.lays317 : Go.Proofs.Lays.n317 Tryd.prog Tryd.lays317_ren := {
  mixed := by kernel_rfl
  f317 := Tryd.func82.trans (congrArg some (by kernel_rfl))
  t3 := Tryd.underlying3
  a3 := Tryd.isAgg3
  z3 := Tryd.sizeOf3
  v3 := Tryd.zeroValue3
  t46 := Tryd.underlying76
  a46 := Tryd.isAgg76
  z46 := Tryd.sizeOf76
  v46 := Tryd.zeroValue76 }
open Go.Lib in
theorem Tryd.internal_strconv_log10Pow2 (x : Nat) (h : x ≤ 64) (w : World) :
    Calls Tryd.prog 82 #[.int .i64 x] w fun e w' => e = .returned (.int .i64 (Lib.l10 x)) ∧ w' = w := Any.internal_strconv_log10Pow2 Tryd.lays317 x h w
def Tryd.lays318_ren : Go.Shelf.Ren := ⟨fun | 318 => 84 | n => n, fun | 3 => 3 | 4 => 4 | n => n, fun | n => n⟩
theorem Tryd.lays318 : Go.Proofs.Lays.n318 Tryd.prog Tryd.lays318_ren := {
  mixed := by kernel_rfl
  f318 := Tryd.func84.trans (congrArg some (by kernel_rfl))
  t3 := Tryd.underlying3
  a3 := Tryd.isAgg3
  z3 := Tryd.sizeOf3
  v3 := Tryd.zeroValue3
  t4 := Tryd.underlying4
  a4 := Tryd.isAgg4
  z4 := Tryd.sizeOf4
  v4 := Tryd.zeroValue4 }
open Go.Lib in
theorem Tryd.internal_strconv_bool2_int (b : Bool) (w : World) :
    Calls Tryd.prog 84 #[.bool b] w fun e w' => e = .returned (.int .i64 (if b then 1 else 0)) ∧ w' = w := Any.internal_strconv_bool2_int Tryd.lays318 b w
def Tryd.lays283_ren : Go.Shelf.Ren := ⟨fun | 283 => 75 | n => n, fun | 3 => 3 | 9 => 9 | 4 => 4 | n => n, fun | n => n⟩
theorem Tryd.lays283 : Go.Proofs.Lays.n283 Tryd.prog Tryd.lays283_ren := {
  mixed := by kernel_rfl
  f283 := Tryd.func75.trans (congrArg some (by kernel_rfl))
  t3 := Tryd.underlying3
  a3 := Tryd.isAgg3
  z3 := Tryd.sizeOf3
  v3 := Tryd.zeroValue3
  t4 := Tryd.underlying4
  a4 := Tryd.isAgg4
  z4 := Tryd.sizeOf4
  v4 := Tryd.zeroValue4
  t9 := Tryd.underlying9
  a9 := Tryd.isAgg9
  z9 := Tryd.sizeOf9
  v9 := Tryd.zeroValue9 }
open Go.Lib in
theorem Tryd.internal_strconv_small (i : Nat) (h : i < 100) (w : World) :
    Calls Tryd.prog 75 #[.int .i64 i] w fun e w' => e = .returned (.string ⟨(Lib.decDigits i).toArray⟩) ∧ w' = w := Any.internal_strconv_small Tryd.lays283 i h w
def Tryd.laysM284_ren : Go.Shelf.Ren := ⟨fun | 284 => 76 | 129 => 83 | 317 => 82 | 318 => 84 | n => n, fun | 53 => 119 | 3 => 3 | 212 => 128 | 0 => 0 | 4 => 4 | 46 => 76 | 5 => 5 | 9 => 9 | n => n, fun | 17 => 2 | n => n⟩
theorem Tryd.laysM284 : Go.Proofs.LaysM.n284 Tryd.prog Tryd.laysM284_ren := {
  mixed := by kernel_rfl
  f129 := Tryd.func83.trans (congrArg some (by kernel_rfl))
  f284 := Tryd.func76.trans (congrArg some (by kernel_rfl))
  f317 := Tryd.func82.trans (congrArg some (by kernel_rfl))
  f318 := Tryd.func84.trans (congrArg some (by kernel_rfl))
  t0 := Tryd.underlying0
  a0 := Tryd.isAgg0
  z0 := Tryd.sizeOf0
  v0 := Tryd.zeroValue0
  t3 := Tryd.underlying3
  a3 := Tryd.isAgg3
  z3 := Tryd.sizeOf3
  v3 := Tryd.zeroValue3
  t4 := Tryd.underlying4
  a4 := Tryd.isAgg4
  z4 := Tryd.sizeOf4
  v4 := Tryd.zeroValue4
  t5 := Tryd.underlying5
  a5 := Tryd.isAgg5
  z5 := Tryd.sizeOf5
  v5 := Tryd.zeroValue5
  t9 := Tryd.underlying9
  a9 := Tryd.isAgg9
  z9 := Tryd.sizeOf9
  v9 := Tryd.zeroValue9
  t46 := Tryd.underlying76
  a46 := Tryd.isAgg76
  z46 := Tryd.sizeOf76
  v46 := Tryd.zeroValue76
  t53 := Tryd.underlying119
  a53 := Tryd.isAgg119
  z53 := Tryd.sizeOf119
  v53 := Tryd.zeroValue119
  t212 := Tryd.underlying128
  a212 := Tryd.isAgg128
  z212 := Tryd.sizeOf128
  v212 := Tryd.zeroValue128
  g17 := by kernel_rfl
  i0 := by kernel_rfl
  i3 := by kernel_rfl
  i4 := by kernel_rfl
  i5 := by kernel_rfl
  i9 := by kernel_rfl
  i46 := by kernel_rfl
  i53 := by kernel_rfl
  i212 := by kernel_rfl
  m17 := by kernel_rfl }
open Go.Lib in
theorem Tryd.internal_strconv_numDigits (u : Nat) (h1 : 1 ≤ u) (h2 : u < 18446744073709551616) (w : World) (htab : Lib.TabIs Tryd.prog w "internal/strconv.uint64pow10" .u64 Lib.pow10Tab) :
    Calls Tryd.prog 76 #[.int .u64 u] w fun e w' => e = .returned (.int .i64 (Lib.nDigits u)) ∧ w' = w := Any.internal_strconv_numDigits Tryd.laysM284 u h1 h2 w htab
def Tryd.lays285_ren : Go.Shelf.Ren := ⟨fun | 285 => 77 | n => n, fun | 37 => 61 | 53 => 119 | 3 => 3 | 4 => 4 | 51 => 129 | 9 => 9 | 5 => 5 | 0 => 0 | n => n, fun | n => n⟩
theorem Tryd.lays285 : Go.Proofs.Lays.n285 Tryd.prog Tryd.lays285_ren := {
  mixed := by kernel_rfl
  f285 := Tryd.func77.trans (congrArg some (by kernel_rfl))
  t0 := Tryd.underlying0
  a0 := Tryd.isAgg0
  z0 := Tryd.sizeOf0
  v0 := Tryd.zeroValue0
  t3 := Tryd.underlying3
  a3 := Tryd.isAgg3
  z3 := Tryd.sizeOf3
  v3 := Tryd.zeroValue3
  t4 := Tryd.underlying4
  a4 := Tryd.isAgg4
  z4 := Tryd.sizeOf4
  v4 := Tryd.zeroValue4
  t5 := Tryd.underlying5
  a5 := Tryd.isAgg5
  z5 := Tryd.sizeOf5
  v5 := Tryd.zeroValue5
  t9 := Tryd.underlying9
  a9 := Tryd.isAgg9
  z9 := Tryd.sizeOf9
  v9 := Tryd.zeroValue9
  t37 := Tryd.underlying61
  a37 := Tryd.isAgg61
  z37 := Tryd.sizeOf61
  v37 := Tryd.zeroValue61
  t51 := Tryd.underlying129
  a51 := Tryd.isAgg129
  z51 := Tryd.sizeOf129
  v51 := Tryd.zeroValue129
  t53 := Tryd.underlying119
  a53 := Tryd.isAgg119
  z53 := Tryd.sizeOf119
  v53 := Tryd.zeroValue119 }
open Go.RowKit Go.Sort Go.Lib in
theorem Tryd.internal_strconv_formatBase10 (blk off cap : Nat) (u : Nat) (d : Array UInt8) (w : World) (hH : Holds (fun (b : UInt8) => Value.int .u8 (b.toNat : Int)) w blk off d) (hu : u < 10 ^ d.size) (hu64 : u < 18446744073709551616) (hsz : d.size < 4611686018427387904) :
    Calls Tryd.prog 77 #[.slice (some ⟨blk, off, none⟩) d.size cap, .int .u64 u] w fun e w' =>
      e = .returned (.tuple #[]) ∧ ∃ (n v' : Nat) (dk : Array UInt8), w' = (putRow (fun (b : UInt8) => Value.int .u8 (b.toNat : Int)) w blk off dk).drewN n ∧ FmtInv d.size u 0 v' dk := Any.internal_strconv_formatBase10 Tryd.lays285 blk off cap u d w hH hu hu64 hsz
def Tryd.laysM246_ren : Go.Shelf.Ren := ⟨fun | 246 => 69 | 283 => 75 | 284 => 76 | 285 => 77 | 286 => 78 | 129 => 83 | 317 => 82 | 318 => 84 | 319 => 85 | 320 => 86 | 337 => 92 | 338 => 93 | n => n, fun | 2 => 2 | 3 => 3 | 9 => 9 | 4 => 4 | 171 => 118 | 0 => 0 | 53 => 119 | 37 => 61 | 5 => 5 | 173 => 122 | 212 => 128 | 51 => 129 | 20 => 20 | 213 => 130 | 46 => 76 | 232 => 139 | 233 => 140 | n => n, fun | 17 => 2 | 18 => 4 | 19 => 5 | n => n⟩
theorem Tryd.laysM246 : Go.Proofs.LaysM.n246 Tryd.prog Tryd.laysM246_ren := {
  mixed := by kernel_rfl
  f129 := Tryd.func83.trans (congrArg some (by kernel_rfl))
  f246 := Tryd.func69.trans (congrArg some (by kernel_rfl))
  f283 := Tryd.func75.trans (congrArg some (by kernel_rfl))
  f284 := Tryd.func76.trans (congrArg some (by kernel_rfl))
  f285 := Tryd.func77.trans (congrArg some (by kernel_rfl))
  f286 := Tryd.func78.trans (congrArg some (by kernel_rfl))
  f317 := Tryd.func82.trans (congrArg some (by kernel_rfl))
  f318 := Tryd.func84.trans (congrArg some (by kernel_rfl))
  f319 := Tryd.func85.trans (congrArg some (by kernel_rfl))
  f320 := Tryd.func86.trans (congrArg some (by kernel_rfl))
  f337 := Tryd.func92.trans (congrArg some (by kernel_rfl))
  f338 := Tryd.func93.trans (congrArg some (by kernel_rfl))
  t0 := Tryd.underlying0
  a0 := Tryd.isAgg0
  z0 := Tryd.sizeOf0
  v0 := Tryd.zeroValue0
  t2 := Tryd.underlying2
  a2 := Tryd.isAgg2
  z2 := Tryd.sizeOf2
  v2 := Tryd.zeroValue2
  t3 := Tryd.underlying3
  a3 := Tryd.isAgg3
  z3 := Tryd.sizeOf3
  v3 := Tryd.zeroValue3
  t4 := Tryd.underlying4
  a4 := Tryd.isAgg4
  z4 := Tryd.sizeOf4
  v4 := Tryd.zeroValue4
  t5 := Tryd.underlying5
  a5 := Tryd.isAgg5
  z5 := Tryd.sizeOf5
  v5 := Tryd.zeroValue5
  t9 := Tryd.underlying9
  a9 := Tryd.isAgg9
  z9 := Tryd.sizeOf9
  v9 := Tryd.zeroValue9
  t20 := Tryd.underlying20
  a20 := Tryd.isAgg20
  z20 := Tryd.sizeOf20
  v20 := Tryd.zeroValue20
  t37 := Tryd.underlying61
  a37 := Tryd.isAgg61
  z37 := Tryd.sizeOf61
  v37 := Tryd.zeroValue61
  t46 := Tryd.underlying76
  a46 := Tryd.isAgg76
  z46 := Tryd.sizeOf76
  v46 := Tryd.zeroValue76
  t51 := Tryd.underlying129
  a51 := Tryd.isAgg129
  z51 := Tryd.sizeOf129
  v51 := Tryd.zeroValue129
  t53 := Tryd.underlying119
  a53 := Tryd.isAgg119
  z53 := Tryd.sizeOf119
  v53 := Tryd.zeroValue119
  t171 := Tryd.underlying118
  a171 := Tryd.isAgg118
  z171 := Tryd.sizeOf118
  v171 := Tryd.zeroValue118
  t173 := Tryd.underlying122
  a173 := Tryd.isAgg122
  z173 := Tryd.sizeOf122
  v173 := Tryd.zeroValue122
  t212 := Tryd.underlying128
  a212 := Tryd.isAgg128
  z212 := Tryd.sizeOf128
  v212 := Tryd.zeroValue128
  t213 := Tryd.underlying130
  a213 := Tryd.isAgg130
  z213 := Tryd.sizeOf130
  t232 := Tryd.underlying139
  a232 := Tryd.isAgg139
  z232 := Tryd.sizeOf139
  v232 := Tryd.zeroValue139
  t233 := Tryd.underlying140
  a233 := Tryd.isAgg140
  z233 := Tryd.sizeOf140
  v233 := Tryd.zeroValue140
  g17 := by kernel_rfl
  g18 := by kernel_rfl
  g19 := by kernel_rfl
  i0 := by kernel_rfl
  i2 := by kernel_rfl
  i3 := by kernel_rfl
  i4 := by kernel_rfl
  i5 := by kernel_rfl
  i9 := by kernel_rfl
  i20 := by kernel_rfl
  i37 := by kernel_rfl
  i46 := by kernel_rfl
  i51 := by kernel_rfl
  i53 := by kernel_rfl
  i171 := by kernel_rfl
  i173 := by kernel_rfl
  i212 := by kernel_rfl
  i232 := by kernel_rfl
  i233 := by kernel_rfl
  m17 := by kernel_rfl
  m18 := by kernel_rfl
  m19 := by kernel_rfl }
open Go.RowKit Go.Sort Go.Lib in
theorem Tryd.internal_strconv_FormatInt_10 (n : Int) (h0 : -9223372036854775808 ≤ n) (h1 : n ≤ 9223372036854775807) (w : World) (htab : Lib.TabIs Tryd.prog w "internal/strconv.uint64pow10" .u64 Lib.pow10Tab) :
    Calls Tryd.prog 69 #[.int .i64 n, .int .i64 10] w fun e w' => e = .returned (.string ⟨(Lib.itoa n).toArray⟩) ∧ ∃ k os, w' = grow (w.drewN k) os := Any.internal_strconv_FormatInt_10 Tryd.laysM246 n h0 h1 w htab
def Tryd.lays246_ren : Go.Shelf.Ren := ⟨fun | 246 => 69 | 283 => 75 | 284 => 76 | 285 => 77 | 286 => 78 | 129 => 83 | 317 => 82 | 318 => 84 | 319 => 85 | 320 => 86 | 337 => 92 | 338 => 93 | n => n, fun | 2 => 2 | 3 => 3 | 9 => 9 | 4 => 4 | 171 => 118 | 0 => 0 | 53 => 119 | 37 => 61 | 5 => 5 | 173 => 122 | 212 => 128 | 51 => 129 | 20 => 20 | 213 => 130 | 46 => 76 | 232 => 139 | 233 => 140 | n => n, fun | 17 => 2 | 18 => 4 | 19 => 5 | n => n⟩
theorem Tryd.lays246 : Go.Proofs.Lays.n246 Tryd.prog Tryd.lays246_ren := {
  mixed := by kernel_rfl
  f129 := Tryd.func83.trans (congrArg some (by kernel_rfl))
  f246 := Tryd.func69.trans (congrArg some (by kernel_rfl))
  f283 := Tryd.func75.trans (congrArg some (by kernel_rfl))
  f284 := Tryd.func76.trans (congrArg some (by kernel_rfl))
  f285 := Tryd.func77.trans (congrArg some (by kernel_rfl))
  f286 := Tryd.func78.trans (congrArg some (by kernel_rfl))
  f317 := Tryd.func82.trans (congrArg some (by kernel_rfl))
  f318 := Tryd.func84.trans (congrArg some (by kernel_rfl))
  f319 := Tryd.func85.trans (congrArg some (by kernel_rfl))
  f320 := Tryd.func86.trans (congrArg some (by kernel_rfl))
  f337 := Tryd.func92.trans (congrArg some (by kernel_rfl))
  f338 := Tryd.func93.trans (congrArg some (by kernel_rfl))
  t0 := Tryd.underlying0
  a0 := Tryd.isAgg0
  z0 := Tryd.sizeOf0
  v0 := Tryd.zeroValue0
  t2 := Tryd.underlying2
  a2 := Tryd.isAgg2
  z2 := Tryd.sizeOf2
  v2 := Tryd.zeroValue2
  t3 := Tryd.underlying3
  a3 := Tryd.isAgg3
  z3 := Tryd.sizeOf3
  v3 := Tryd.zeroValue3
  t4 := Tryd.underlying4
  a4 := Tryd.isAgg4
  z4 := Tryd.sizeOf4
  v4 := Tryd.zeroValue4
  t5 := Tryd.underlying5
  a5 := Tryd.isAgg5
  z5 := Tryd.sizeOf5
  v5 := Tryd.zeroValue5
  t9 := Tryd.underlying9
  a9 := Tryd.isAgg9
  z9 := Tryd.sizeOf9
  v9 := Tryd.zeroValue9
  t20 := Tryd.underlying20
  a20 := Tryd.isAgg20
  z20 := Tryd.sizeOf20
  v20 := Tryd.zeroValue20
  t37 := Tryd.underlying61
  a37 := Tryd.isAgg61
  z37 := Tryd.sizeOf61
  v37 := Tryd.zeroValue61
  t46 := Tryd.underlying76
  a46 := Tryd.isAgg76
  z46 := Tryd.sizeOf76
  v46 := Tryd.zeroValue76
  t51 := Tryd.underlying129
  a51 := Tryd.isAgg129
  z51 := Tryd.sizeOf129
  v51 := Tryd.zeroValue129
  t53 := Tryd.underlying119
  a53 := Tryd.isAgg119
  z53 := Tryd.sizeOf119
  v53 := Tryd.zeroValue119
  t171 := Tryd.underlying118
  a171 := Tryd.isAgg118
  z171 := Tryd.sizeOf118
  v171 := Tryd.zeroValue118
  t173 := Tryd.underlying122
  a173 := Tryd.isAgg122
  z173 := Tryd.sizeOf122
  v173 := Tryd.zeroValue122
  t212 := Tryd.underlying128
  a212 := Tryd.isAgg128
  z212 := Tryd.sizeOf128
  v212 := Tryd.zeroValue128
  t213 := Tryd.underlying130
  a213 := Tryd.isAgg130
  z213 := Tryd.sizeOf130
  t232 := Tryd.underlying139
  a232 := Tryd.isAgg139
  z232 := Tryd.sizeOf139
  v232 := Tryd.zeroValue139
  t233 := Tryd.underlying140
  a233 := Tryd.isAgg140
  z233 := Tryd.sizeOf140
  v233 := Tryd.zeroValue140
  g17 := by kernel_rfl
  g18 := by kernel_rfl
  g19 := by kernel_rfl }
open Go.RowKit Go.Sort Go.Lib in
theorem Tryd.internal_strconv_FormatInt_10_small (i : Nat) (hi : i < 100) (w : World) :
    Calls Tryd.prog 69 #[.int .i64 i, .int .i64 10] w fun e w' => e = .returned (.string ⟨(Lib.decDigits i).toArray⟩) ∧ w' = w := Any.internal_strconv_FormatInt_10_small Tryd.lays246 i hi w
def Tryd.laysM173_ren : Go.Shelf.Ren := ⟨fun | 173 => 58 | 246 => 69 | 283 => 75 | 284 => 76 | 285 => 77 | 286 => 78 | 129 => 83 | 317 => 82 | 318 => 84 | 319 => 85 | 320 => 86 | 337 => 92 | 338 => 93 | n => n, fun | 2 => 2 | 3 => 3 | 9 => 9 | 4 => 4 | 171 => 118 | 0 => 0 | 53 => 119 | 37 => 61 | 5 => 5 | 173 => 122 | 212 => 128 | 51 => 129 | 20 => 20 | 213 => 130 | 46 => 76 | 232 => 139 | 233 => 140 | n => n, fun | 17 => 2 | 18 => 4 | 19 => 5 | n => n⟩
theorem Tryd.laysM173 : Go.Proofs.LaysM.n173 Tryd.prog Tryd.laysM173_ren := {
  mixed := by kernel_rfl
  f129 := Tryd.func83.trans (congrArg some (by kernel_rfl))
  f173 := Tryd.func58.trans (congrArg some (by kernel_rfl))
  f246 := Tryd.func69.trans (congrArg some (by kernel_rfl))
  f283 := Tryd.func75.trans (congrArg some (by kernel_rfl))
  f284 := Tryd.func76.trans (congrArg some (by kernel_rfl))
  f285 := Tryd.func77.trans (congrArg some (by kernel_rfl))
  f286 := Tryd.func78.trans (congrArg some (by kernel_rfl))
  f317 := Tryd.func82.trans (congrArg some (by kernel_rfl))
  f318 := Tryd.func84.trans (congrArg some (by kernel_rfl))
  f319 := Tryd.func85.trans (congrArg some (by kernel_rfl))
  f320 := Tryd.func86.trans (congrArg some (by kernel_rfl))
  f337 := Tryd.func92.trans (congrArg some (by kernel_rfl))
  f338 := Tryd.func93.trans (congrArg some (by kernel_rfl))
  t0 := Tryd.underlying0
  a0 := Tryd.isAgg0
  z0 := Tryd.sizeOf0
  v0 := Tryd.zeroValue0
  t2 := Tryd.underlying2
  a2 := Tryd.isAgg2
  z2 := Tryd.sizeOf2
  v2 := Tryd.zeroValue2
  t3 := Tryd.underlying3
  a3 := Tryd.isAgg3
  z3 := Tryd.sizeOf3
  v3 := Tryd.zeroValue3
  t4 := Tryd.underlying4
  a4 := Tryd.isAgg4
  z4 := Tryd.sizeOf4
  v4 := Tryd.zeroValue4
  t5 := Tryd.underlying5
  a5 := Tryd.isAgg5
  z5 := Tryd.sizeOf5
  v5 := Tryd.zeroValue5
  t9 := Tryd.underlying9
  a9 := Tryd.isAgg9
  z9 := Tryd.sizeOf9
  v9 := Tryd.zeroValue9
  t20 := Tryd.underlying20
  a20 := Tryd.isAgg20
  z20 := Tryd.sizeOf20
  v20 := Tryd.zeroValue20
  t37 := Tryd.underlying61
  a37 := Tryd.isAgg61
  z37 := Tryd.sizeOf61
  v37 := Tryd.zeroValue61
  t46 := Tryd.underlying76
  a46 := Tryd.isAgg76
  z46 := Tryd.sizeOf76
  v46 := Tryd.zeroValue76
  t51 := Tryd.underlying129
  a51 := Tryd.isAgg129
  z51 := Tryd.sizeOf129
  v51 := Tryd.zeroValue129
  t53 := Tryd.underlying119
  a53 := Tryd.isAgg119
  z53 := Tryd.sizeOf119
  v53 := Tryd.zeroValue119
  t171 := Tryd.underlying118
  a171 := Tryd.isAgg118
  z171 := Tryd.sizeOf118
  v171 := Tryd.zeroValue118
  t173 := Tryd.underlying122
  a173 := Tryd.isAgg122
  z173 := Tryd.sizeOf122
  v173 := Tryd.zeroValue122
  t212 := Tryd.underlying128
  a212 := Tryd.isAgg128
  z212 := Tryd.sizeOf128
  v212 := Tryd.zeroValue128
  t213 := Tryd.underlying130
  a213 := Tryd.isAgg130
  z213 := Tryd.sizeOf130
  t232 := Tryd.underlying139
  a232 := Tryd.isAgg139
  z232 := Tryd.sizeOf139
  v232 := Tryd.zeroValue139
  t233 := Tryd.underlying140
  a233 := Tryd.isAgg140
  z233 := Tryd.sizeOf140
  v233 := Tryd.zeroValue140
  g17 := by kernel_rfl
  g18 := by kernel_rfl
  g19 := by kernel_rfl
  i0 := by kernel_rfl
  i2 := by kernel_rfl
  i3 := by kernel_rfl
  i4 := by kernel_rfl
  i5 := by kernel_rfl
  i9 := by kernel_rfl
  i20 := by kernel_rfl
  i37 := by kernel_rfl
  i46 := by kernel_rfl
  i51 := by kernel_rfl
  i53 := by kernel_rfl
  i171 := by kernel_rfl
  i173 := by kernel_rfl
  i212 := by kernel_rfl
  i232 := by kernel_rfl
  i233 := by kernel_rfl
  m17 := by kernel_rfl
  m18 := by kernel_rfl
  m19 := by kernel_rfl }
open Go.RowKit Go.Sort Go.Lib in
theorem Tryd.strconv_FormatInt_10 (n : Int) (h0 : -9223372036854775808 ≤ n) (h1 : n ≤ 9223372036854775807) (w : World) (htab : Lib.TabIs Tryd.prog w "internal/strconv.uint64pow10" .u64 Lib.pow10Tab) :
    Calls Tryd.prog 58 #[.int .i64 n, .int .i64 10] w fun e w' => e = .returned (.string ⟨(Lib.itoa n).toArray⟩) ∧ ∃ k os, w' = grow (w.drewN k) os := Any.strconv_FormatInt_10 Tryd.laysM173 n h0 h1 w htab
def Tryd.lays173_ren : Go.Shelf.Ren := ⟨fun | 173 => 58 | 246 => 69 | 283 => 75 | 284 => 76 | 285 => 77 | 286 => 78 | 129 => 83 | 317 => 82 | 318 => 84 | 319 => 85 | 320 => 86 | 337 => 92 | 338 => 93 | n => n, fun | 2 => 2 | 3 => 3 | 9 => 9 | 4 => 4 | 171 => 118 | 0 => 0 | 53 => 119 | 37 => 61 | 5 => 5 | 173 => 122 | 212 => 128 | 51 => 129 | 20 => 20 | 213 => 130 | 46 => 76 | 232 => 139 | 233 => 140 | n => n, fun | 17 => 2 | 18 => 4 | 19 => 5 | n => n⟩
theorem Tryd.lays173 : Go.Proofs.Lays.n173 Tryd.prog Tryd.lays173_ren := {
  mixed := by kernel_rfl
  f129 := Tryd.func83.trans (congrArg some (by kernel_rfl))
  f173 := Tryd.func58.trans (congrArg some (by kernel_rfl))
  f246 := Tryd.func69.trans (congrArg some (by kernel_rfl))
  f283 := Tryd.func75.trans (congrArg some (by kernel_rfl))
  f284 := Tryd.func76.trans (congrArg some (by kernel_rfl))
  f285 := Tryd.func77.trans (congrArg some (by kernel_rfl))
  f286 := Tryd.func78.trans (congrArg some (by kernel_rfl))
  f317 := Tryd.func82.trans (congrArg some (by kernel_rfl))
  f318 := Tryd.func84.trans (congrArg some (by kernel_rfl))
  f319 := Tryd.func85.trans (congrArg some (by kernel_rfl))
  f320 := Tryd.func86.trans (congrArg some (by kernel_rfl))
  f337 := Tryd.func92.trans (congrArg some (by kernel_rfl))
  f338 := Tryd.func93.trans (congrArg some (by kernel_rfl))
  t0 := Tryd.underlying0
  a0 := Tryd.isAgg0
  z0 := Tryd.sizeOf0
  v0 := Tryd.zeroValue0
  t2 := Tryd.underlying2
  a2 := Tryd.isAgg2
  z2 := Tryd.sizeOf2
  v2 := Tryd.zeroValue2
  t3 := Tryd.underlying3
  a3 := Tryd.isAgg3
  z3 := Tryd.sizeOf3
  v3 := Tryd.zeroValue3
  t4 := Tryd.underlying4
  a4 := Tryd.isAgg4
  z4 := Tryd.sizeOf4
  v4 := Tryd.zeroValue4
  t5 := Tryd.underlying5
  a5 := Tryd.isAgg5
  z5 := Tryd.sizeOf5
  v5 := Tryd.zeroValue5
  t9 := Tryd.underlying9
  a9 := Tryd.isAgg9
  z9 := Tryd.sizeOf9
  v9 := Tryd.zeroValue9
  t20 := Tryd.underlying20
  a20 := Tryd.isAgg20
  z20 := Tryd.sizeOf20
  v20 := Tryd.zeroValue20
  t37 := Tryd.underlying61
  a37 := Tryd.isAgg61
  z37 := Tryd.sizeOf61
  v37 := Tryd.zeroValue61
  t46 := Tryd.underlying76
  a46 := Tryd.isAgg76
  z46 := Tryd.sizeOf76
  v46 := Tryd.zeroValue76
  t51 := Tryd.underlying129
  a51 := Tryd.isAgg129
  z51 := Tryd.sizeOf129
  v51 := Tryd.zeroValue129
  t53 := Tryd.underlying119
  a53 := Tryd.isAgg119
  z53 := Tryd.sizeOf119
  v53 := Tryd.zeroValue119
  t171 := Tryd.underlying118
  a171 := Tryd.isAgg118
  z171 := Tryd.sizeOf118
  v171 := Tryd.zeroValue118
  t173 := Tryd.underlying122
  a173 := Tryd.isAgg122
  z173 := Tryd.sizeOf122
  v173 := Tryd.zeroValue122
  t212 := Tryd.underlying128
  a212 := Tryd.isAgg128
  z212 := Tryd.sizeOf128
  v212 := Tryd.zeroValue128
  t213 := Tryd.underlying130
  a213 := Tryd.isAgg130
  z213 := Tryd.sizeOf130
  t232 := Tryd.underlying139
  a232 := Tryd.isAgg139
  z232 := Tryd.sizeOf139
  v232 := Tryd.zeroValue139
  t233 := Tryd.underlying140
  a233 := Tryd.isAgg140
  z233 := Tryd.sizeOf140
  v233 := Tryd.zeroValue140
  g17 := by kernel_rfl
  g18 := by kernel_rfl
  g19 := by kernel_rfl }
open Go.RowKit Go.Sort Go.Lib in
theorem Tryd.strconv_FormatInt_10_small (i : Nat) (hi : i < 100) (w : World) :
    Calls Tryd.prog 58 #[.int .i64 i, .int .i64 10] w fun e w' => e = .returned (.string ⟨(Lib.decDigits i).toArray⟩) ∧ w' = w := Any.strconv_FormatInt_10_small Tryd.lays173 i hi w
def Tryd.lays217_ren : Go.Shelf.Ren := ⟨fun | 217 => 95 | 266 => 99 | n => n, fun | 9 => 9 | 5 => 5 | 3 => 3 | n => n, fun | n => n⟩
theorem Tryd.lays217 : Go.Proofs.Lays.n217 Tryd.prog Tryd.lays217_ren := {
  mixed := by kernel_rfl
  f217 := Tryd.func95.trans (congrArg some (by kernel_rfl))
  f266 := Tryd.func99.trans (congrArg some (by kernel_rfl))
  t3 := Tryd.underlying3
  a3 := Tryd.isAgg3
  z3 := Tryd.sizeOf3
  v3 := Tryd.zeroValue3
  t5 := Tryd.underlying5
  a5 := Tryd.isAgg5
  z5 := Tryd.sizeOf5
  v5 := Tryd.zeroValue5
  t9 := Tryd.underlying9
  a9 := Tryd.isAgg9
  z9 := Tryd.sizeOf9
  v9 := Tryd.zeroValue9 }
open Go.RowKit Go.Lib in
theorem Tryd.stringslite_IndexByte (s : ByteArray) (c : Int) (w : World) :
    Calls Tryd.prog 95 #[.string s, .int .u8 c] w fun e w' => e = .returned (.int .i64 (Lib.indexByte s.data.toList c.toNat.toUInt8)) ∧ w' = w := Any.stringslite_IndexByte Tryd.lays217 s c w
def Tryd.lays224_ren : Go.Shelf.Ren := ⟨fun | 224 => 97 | n => n, fun | 3 => 3 | n => n, fun | n => n⟩
theorem Tryd.lays224 : Go.Proofs.Lays.n224 Tryd.prog Tryd.lays224_ren := {
  mixed := by kernel_rfl
  f224 := Tryd.func97.trans (congrArg some (by kernel_rfl))
  t3 := Tryd.underlying3
  a3 := Tryd.isAgg3
  z3 := Tryd.sizeOf3
  v3 := Tryd.zeroValue3 }
open Go.RowKit Go.Lib in
theorem Tryd.bytealg_Cutover (n : Int) (h0 : 0 ≤ n) (h1 : n < 4611686018427387904) (w : World) :
    Calls Tryd.prog 97 #[.int .i64 n] w fun e w' => e = .returned (.int .i64 ((n + 16) / 8)) ∧ w' = w := Any.bytealg_Cutover Tryd.lays224 n h0 h1 w
def Tryd.lays314_ren : Go.Shelf.Ren := ⟨fun | 314 => 100 | n => n, fun | 9 => 9 | 51 => 129 | 3 => 3 | 4 => 4 | 5 => 5 | 46 => 76 | n => n, fun | n => n⟩
theorem Tryd.lays314 : Go.Proofs.Lays.n314 Tryd.prog Tryd.lays314_ren := {
  mixed := by kernel_rfl
  f314 := Tryd.func100.trans (congrArg some (by kernel_rfl))
  t3 := Tryd.underlying3
  a3 := Tryd.isAgg3
  z3 := Tryd.sizeOf3
  v3 := Tryd.zeroValue3
  t4 := Tryd.underlying4
  a4 := Tryd.isAgg4
  z4 := Tryd.sizeOf4
  v4 := Tryd.zeroValue4
  t5 := Tryd.underlying5
  a5 := Tryd.isAgg5
  z5 := Tryd.sizeOf5
  v5 := Tryd.zeroValue5
  t9 := Tryd.underlying9
  a9 := Tryd.isAgg9
  z9 := Tryd.sizeOf9
  v9 := Tryd.zeroValue9
  t46 := Tryd.underlying76
  a46 := Tryd.isAgg76
  z46 := Tryd.sizeOf76
  v46 := Tryd.zeroValue76
  t51 := Tryd.underlying129
  a51 := Tryd.isAgg129
  z51 := Tryd.sizeOf129
  v51 := Tryd.zeroValue129 }
open Go.RowKit Go.Lib in
theorem Tryd.bytealg_hashStr (sep : ByteArray) (hs : sep.size < 4294967281) (w : World) :
    Calls Tryd.prog 100 #[.string sep] w fun e w' => e = .returned (.tuple #[.int .u32 (RK.H sep.data.toList % 4294967296), .int .u32 (16777619 ^ sep.size % 4294967296)]) ∧ w' = w := Any.bytealg_hashStr Tryd.lays314 sep hs w
def Tryd.lays267_ren : Go.Shelf.Ren := ⟨fun | 267 => 98 | 314 => 100 | n => n, fun | 9 => 9 | 3 => 3 | 146 => 141 | 51 => 129 | 4 => 4 | 5 => 5 | 46 => 76 | n => n, fun | n => n⟩
theorem Tryd.lays267 : Go.Proofs.Lays.n267 Tryd.prog Tryd.lays267_ren := {
  mixed := by kernel_rfl
  f267 := Tryd.func98.trans (congrArg some (by kernel_rfl))
  f314 := Tryd.func100.trans (congrArg some (by kernel_rfl))
  t3 := Tryd.underlying3
  a3 := Tryd.isAgg3
  z3 := Tryd.sizeOf3
  v3 := Tryd.zeroValue3
  t4 := Tryd.underlying4
  a4 := Tryd.isAgg4
  z4 := Tryd.sizeOf4
  v4 := Tryd.zeroValue4
  t5 := Tryd.underlying5
  a5 := Tryd.isAgg5
  z5 := Tryd.sizeOf5
  v5 := Tryd.zeroValue5
  t9 := Tryd.underlying9
  a9 := Tryd.isAgg9
  z9 := Tryd.sizeOf9
  v9 := Tryd.zeroValue9
  t46 := Tryd.underlying76
  a46 := Tryd.isAgg76
  z46 := Tryd.sizeOf76
  v46 := Tryd.zeroValue76
  t51 := Tryd.underlying129
  a51 := Tryd.isAgg129
  z51 := Tryd.sizeOf129
  v51 := Tryd.zeroValue129
  t146 := Tryd.underlying141
  a146 := Tryd.isAgg141
  z146 := Tryd.sizeOf141
  v146 := Tryd.zeroValue141 }
open Go.RowKit Go.Lib in
theorem Tryd.bytealg_IndexRabinKarp (s sep : ByteArray) (h1 : 1 ≤ sep.size) (h2 : sep.size ≤ s.size) (hs : s.size < 4294967281) (w : World) :
    Calls Tryd.prog 98 #[.string s, .string sep] w fun e w' => e = .returned (.int .i64 (Lib.index s.data.toList sep.data.toList)) ∧ w' = w := Any.bytealg_IndexRabinKarp Tryd.lays267 s sep h1 h2 hs w
def Tryd.lays219_ren : Go.Shelf.Ren := ⟨fun | 219 => 94 | 217 => 95 | 225 => 96 | 224 => 97 | 267 => 98 | 266 => 99 | 314 => 100 | n => n, fun | 9 => 9 | 3 => 3 | 4 => 4 | 5 => 5 | 46 => 76 | 146 => 141 | 51 => 129 | n => n, fun | 1 => 3 | n => n⟩
theorem Tryd.lays219 : Go.Proofs.Lays.n219 Tryd.prog Tryd.lays219_ren := {
  mixed := by kernel_rfl
  f217 := Tryd.func95.trans (congrArg some (by kernel_rfl))
  f219 := Tryd.func94.trans (congrArg some (by kernel_rfl))
  f224 := Tryd.func97.trans (congrArg some (by kernel_rfl))
  f225 := Tryd.func96.trans (congrArg some (by kernel_rfl))
  f266 := Tryd.func99.trans (congrArg some (by kernel_rfl))
  f267 := Tryd.func98.trans (congrArg some (by kernel_rfl))
  f314 := Tryd.func100.trans (congrArg some (by kernel_rfl))
  t3 := Tryd.underlying3
  a3 := Tryd.isAgg3
  z3 := Tryd.sizeOf3
  v3 := Tryd.zeroValue3
  t4 := Tryd.underlying4
  a4 := Tryd.isAgg4
  z4 := Tryd.sizeOf4
  v4 := Tryd.zeroValue4
  t5 := Tryd.underlying5
  a5 := Tryd.isAgg5
  z5 := Tryd.sizeOf5
  v5 := Tryd.zeroValue5
  t9 := Tryd.underlying9
  a9 := Tryd.isAgg9
  z9 := Tryd.sizeOf9
  v9 := Tryd.zeroValue9
  t46 := Tryd.underlying76
  a46 := Tryd.isAgg76
  z46 := Tryd.sizeOf76
  v46 := Tryd.zeroValue76
  t51 := Tryd.underlying129
  a51 := Tryd.isAgg129
  z51 := Tryd.sizeOf129
  v51 := Tryd.zeroValue129
  t146 := Tryd.underlying141
  a146 := Tryd.isAgg141
  z146 := Tryd.sizeOf141
  v146 := Tryd.zeroValue141
  g1 := by kernel_rfl }
open Go.RowKit Go.Lib in
theorem Tryd.stringslite_Index_one (s : ByteArray) (c : UInt8) (w : World) :
    Calls Tryd.prog 94 #[.string s, .string ⟨#[c]⟩] w fun e w' => e = .returned (.int .i64 (Lib.indexByte s.data.toList c)) ∧ w' = w := Any.stringslite_Index_one Tryd.lays219 s c w
open Go.RowKit Go.Lib in
theorem Tryd.stringslite_Index (s sub : ByteArray) (m : Int) (w : World) (hs : s.size < 4294967281) (hm : w.cell? ⟨3, 0, none⟩ = some (.int .i64 m)) :
    Calls Tryd.prog 94 #[.string s, .string sub] w fun e w' => e = .returned (.int .i64 (Lib.index s.data.toList sub.data.toList)) ∧ w' = w := Any.stringslite_Index Tryd.lays219 s sub m w hs hm
def Tryd.lays143_ren : Go.Shelf.Ren := ⟨fun | 143 => 89 | 219 => 94 | 217 => 95 | 225 => 96 | 224 => 97 | 267 => 98 | 266 => 99 | 314 => 100 | n => n, fun | 9 => 9 | 3 => 3 | 4 => 4 | 5 => 5 | 46 => 76 | 146 => 141 | 51 => 129 | n => n, fun | 1 => 3 | n => n⟩
theorem Tryd.lays143 : Go.Proofs.Lays.n143 Tryd.prog Tryd.lays143_ren := {
  mixed := by kernel_rfl
  f143 := Tryd.func89.trans (congrArg some (by kernel_rfl))
  f217 := Tryd.func95.trans (congrArg some (by kernel_rfl))
  f219 := Tryd.func94.trans (congrArg some (by kernel_rfl))
  f224 := Tryd.func97.trans (congrArg some (by kernel_rfl))
  f225 := Tryd.func96.trans (congrArg some (by kernel_rfl))
  f266 := Tryd.func99.trans (congrArg some (by kernel_rfl))
  f267 := Tryd.func98.trans (congrArg some (by kernel_rfl))
  f314 := Tryd.func100.trans (congrArg some (by kernel_rfl))
  t3 := Tryd.underlying3
  a3 := Tryd.isAgg3
  z3 := Tryd.sizeOf3
  v3 := Tryd.zeroValue3
  t4 := Tryd.underlying4
  a4 := Tryd.isAgg4
  z4 := Tryd.sizeOf4
  v4 := Tryd.zeroValue4
  t5 := Tryd.underlying5
  a5 := Tryd.isAgg5
  z5 := Tryd.sizeOf5
  v5 := Tryd.zeroValue5
  t9 := Tryd.underlying9
  a9 := Tryd.isAgg9
  z9 := Tryd.sizeOf9
  v9 := Tryd.zeroValue9
  t46 := Tryd.underlying76
  a46 := Tryd.isAgg76
  z46 := Tryd.sizeOf76
  v46 := Tryd.zeroValue76
  t51 := Tryd.underlying129
  a51 := Tryd.isAgg129
  z51 := Tryd.sizeOf129
  v51 := Tryd.zeroValue129
  t146 := Tryd.underlying141
  a146 := Tryd.isAgg141
  z146 := Tryd.sizeOf141
  v146 := Tryd.zeroValue141
  g1 := by kernel_rfl }
open Go.RowKit Go.Lib in
theorem Tryd.strings_Index_one (s : ByteArray) (c : UInt8) (w : World) :
    Calls Tryd.prog 89 #[.string s, .string ⟨#[c]⟩] w fun e w' => e = .returned (.int .i64 (Lib.indexByte s.data.toList c)) ∧ w' = w := Any.strings_Index_one Tryd.lays143 s c w
open Go.RowKit Go.Lib in
theorem Tryd.strings_Index (s sub : ByteArray) (m : Int) (w : World) (hs : s.size < 4294967281) (hm : w.cell? ⟨3, 0, none⟩ = some (.int .i64 m)) :
    Calls Tryd.prog 89 #[.string s, .string sub] w fun e w' => e = .returned (.int .i64 (Lib.index s.data.toList sub.data.toList)) ∧ w' = w := Any.strings_Index Tryd.lays143 s sub m w hs hm
def Tryd.lays138_ren : Go.Shelf.Ren := ⟨fun | 138 => 79 | 195 => 87 | 218 => 88 | 143 => 89 | 219 => 94 | 217 => 95 | 225 => 96 | 224 => 97 | 267 => 98 | 266 => 99 | 314 => 100 | n => n, fun | 9 => 9 | 3 => 3 | 4 => 4 | 5 => 5 | 0 => 0 | 46 => 76 | 146 => 141 | 51 => 129 | n => n, fun | 1 => 3 | n => n⟩
theorem Tryd.lays138 : Go.Proofs.Lays.n138 Tryd.prog Tryd.lays138_ren := {
  mixed := by kernel_rfl
  f138 := Tryd.func79.trans (congrArg some (by kernel_rfl))
  f143 := Tryd.func89.trans (congrArg some (by kernel_rfl))
  f195 := Tryd.func87.trans (congrArg some (by kernel_rfl))
  f217 := Tryd.func95.trans (congrArg some (by kernel_rfl))
  f218 := Tryd.func88.trans (congrArg some (by kernel_rfl))
  f219 := Tryd.func94.trans (congrArg some (by kernel_rfl))
  f224 := Tryd.func97.trans (congrArg some (by kernel_rfl))
  f225 := Tryd.func96.trans (congrArg some (by kernel_rfl))
  f266 := Tryd.func99.trans (congrArg some (by kernel_rfl))
  f267 := Tryd.func98.trans (congrArg some (by kernel_rfl))
  f314 := Tryd.func100.trans (congrArg some (by kernel_rfl))
  t0 := Tryd.underlying0
  a0 := Tryd.isAgg0
  z0 := Tryd.sizeOf0
  v0 := Tryd.zeroValue0
  t3 := Tryd.underlying3
  a3 := Tryd.isAgg3
  z3 := Tryd.sizeOf3
  v3 := Tryd.zeroValue3
  t4 := Tryd.underlying4
  a4 := Tryd.isAgg4
  z4 := Tryd.sizeOf4
  v4 := Tryd.zeroValue4
  t5 := Tryd.underlying5
  a5 := Tryd.isAgg5
  z5 := Tryd.sizeOf5
  v5 := Tryd.zeroValue5
  t9 := Tryd.underlying9
  a9 := Tryd.isAgg9
  z9 := Tryd.sizeOf9
  v9 := Tryd.zeroValue9
  t46 := Tryd.underlying76
  a46 := Tryd.isAgg76
  z46 := Tryd.sizeOf76
  v46 := Tryd.zeroValue76
  t51 := Tryd.underlying129
  a51 := Tryd.isAgg129
  z51 := Tryd.sizeOf129
  v51 := Tryd.zeroValue129
  t146 := Tryd.underlying141
  a146 := Tryd.isAgg141
  z146 := Tryd.sizeOf141
  v146 := Tryd.zeroValue141
  g1 := by kernel_rfl }
open Go.RowKit Go.Lib in
theorem Tryd.strings_Count_one (s : ByteArray) (c : UInt8) (w : World) :
    Calls Tryd.prog 79 #[.string s, .string ⟨#[c]⟩] w fun e w' => e = .returned (.int .i64 (Lib.countByte s.data.toList c)) ∧ w' = w := Any.strings_Count_one Tryd.lays138 s c w
open Go.RowKit Go.Lib in
theorem Tryd.strings_Count (s sub : ByteArray) (m : Int) (w : World) (hs : s.size < 4294967281) (hm : w.cell? ⟨3, 0, none⟩ = some (.int .i64 m)) (h2 : 2 ≤ sub.size) :
    Calls Tryd.prog 79 #[.string s, .string sub] w fun e w' => e = .returned (.int .i64 (Lib.countB s sub)) ∧ w' = w := Any.strings_Count Tryd.lays138 s sub m w hs hm h2
def Tryd.laysM219_ren : Go.Shelf.Ren := ⟨fun | 219 => 94 | 217 => 95 | 225 => 96 | 224 => 97 | 267 => 98 | 266 => 99 | 314 => 100 | n => n, fun | 9 => 9 | 3 => 3 | 4 => 4 | 5 => 5 | 46 => 76 | 146 => 141 | 51 => 129 | n => n, fun | 1 => 3 | n => n⟩
theorem Tryd.laysM219 : Go.Proofs.LaysM.n219 Tryd.prog Tryd.laysM219_ren := {
  mixed := by kernel_rfl
  f217 := Tryd.func95.trans (congrArg some (by kernel_rfl))
  f219 := Tryd.func94.trans (congrArg some (by kernel_rfl))
  f224 := Tryd.func97.trans (congrArg some (by kernel_rfl))
  f225 := Tryd.func96.trans (congrArg some (by kernel_rfl))
  f266 := Tryd.func99.trans (congrArg some (by kernel_rfl))
  f267 := Tryd.func98.trans (congrArg some (by kernel_rfl))
  f314 := Tryd.func100.trans (congrArg some (by kernel_rfl))
  t3 := Tryd.underlying3
  a3 := Tryd.isAgg3
  z3 := Tryd.sizeOf3
  v3 := Tryd.zeroValue3
  t4 := Tryd.underlying4
  a4 := Tryd.isAgg4
  z4 := Tryd.sizeOf4
  v4 := Tryd.zeroValue4
  t5 := Tryd.underlying5
  a5 := Tryd.isAgg5
  z5 := Tryd.sizeOf5
  v5 := Tryd.zeroValue5
  t9 := Tryd.underlying9
  a9 := Tryd.isAgg9
  z9 := Tryd.sizeOf9
  v9 := Tryd.zeroValue9
  t46 := Tryd.underlying76
  a46 := Tryd.isAgg76
  z46 := Tryd.sizeOf76
  v46 := Tryd.zeroValue76
  t51 := Tryd.underlying129
  a51 := Tryd.isAgg129
  z51 := Tryd.sizeOf129
  v51 := Tryd.zeroValue129
  t146 := Tryd.underlying141
  a146 := Tryd.isAgg141
  z146 := Tryd.sizeOf141
  v146 := Tryd.zeroValue141
  g1 := by kernel_rfl
  i3 := by kernel_rfl
  i4 := by kernel_rfl
  i5 := by kernel_rfl
  i9 := by kernel_rfl
  i46 := by kernel_rfl
  i51 := by kernel_rfl
  i146 := by kernel_rfl
  m1 := by kernel_rfl
  s1_3 := fun w h => Go.Proofs.cell_of_shapedOpen_int (zero := #[.int .i64 0]) (t := 3) h (of_decide_eq_true (by kernel_rfl)) (by kernel_rfl) rfl (by kernel_rfl) (by kernel_rfl) Tryd.underlying3 }
open Go.RowKit Go.Lib in
theorem Tryd.stringslite_Index_shaped (s sub : ByteArray) (w : World) (h : w.ShapedOpen Tryd.prog) (hs : s.size < 4294967281) :
    Calls Tryd.prog 94 #[.string s, .string sub] w fun e w' => e = .returned (.int .i64 (Lib.index s.data.toList sub.data.toList)) ∧ w' = w := Any.stringslite_Index_shaped Tryd.laysM219 s sub w h hs
def Tryd.laysM143_ren : Go.Shelf.Ren := ⟨fun | 143 => 89 | 219 => 94 | 217 => 95 | 225 => 96 | 224 => 97 | 267 => 98 | 266 => 99 | 314 => 100 | n => n, fun | 9 => 9 | 3 => 3 | 4 => 4 | 5 => 5 | 46 => 76 | 146 => 141 | 51 => 129 | n => n, fun | 1 => 3 | n => n⟩
theorem Tryd.laysM143 : Go.Proofs.LaysM.n143 Tryd.prog Tryd.laysM143_ren := {
  mixed := by kernel_rfl
  f143 := Tryd.func89.trans (congrArg some (by kernel_rfl))
  f217 := Tryd.func95.trans (congrArg some (by kernel_rfl))
  f219 := Tryd.func94.trans (congrArg some (by kernel_rfl))
  f224 := Tryd.func97.trans (congrArg some (by kernel_rfl))
  f225 := Tryd.func96.trans (congrArg some (by kernel_rfl))
  f266 := Tryd.func99.trans (congrArg some (by kernel_rfl))
  f267 := Tryd.func98.trans (congrArg some (by kernel_rfl))
  f314 := Tryd.func100.trans (congrArg some (by kernel_rfl))
  t3 := Tryd.underlying3
  a3 := Tryd.isAgg3
  z3 := Tryd.sizeOf3
  v3 := Tryd.zeroValue3
  t4 := Tryd.underlying4
  a4 := Tryd.isAgg4
  z4 := Tryd.sizeOf4
  v4 := Tryd.zeroValue4
  t5 := Tryd.underlying5
  a5 := Tryd.isAgg5
  z5 := Tryd.sizeOf5
  v5 := Tryd.zeroValue5
  t9 := Tryd.underlying9
  a9 := Tryd.isAgg9
  z9 := Tryd.sizeOf9
  v9 := Tryd.zeroValue9
  t46 := Tryd.underlying76
  a46 := Tryd.isAgg76
  z46 := Tryd.sizeOf76
  v46 := Tryd.zeroValue76
  t51 := Tryd.underlying129
  a51 := Tryd.isAgg129
  z51 := Tryd.sizeOf129
  v51 := Tryd.zeroValue129
  t146 := Tryd.underlying141
  a146 := Tryd.isAgg141
  z146 := Tryd.sizeOf141
  v146 := Tryd.zeroValue141
  g1 := by kernel_rfl
  i3 := by kernel_rfl
  i4 := by kernel_rfl
  i5 := by kernel_rfl
  i9 := by kernel_rfl
  i46 := by kernel_rfl
  i51 := by kernel_rfl
  i146 := by kernel_rfl
  m1 := by kernel_rfl
  s1_3 := fun w h => Go.Proofs.cell_of_shapedOpen_int (zero := #[.int .i64 0]) (t := 3) h (of_decide_eq_true (by kernel_rfl)) (by kernel_rfl) rfl (by kernel_rfl) (by kernel_rfl) Tryd.underlying3 }
open Go.RowKit Go.Lib in
theorem Tryd.strings_Index_shaped (s sub : ByteArray) (w : World) (h : w.ShapedOpen Tryd.prog) (hs : s.size < 4294967281) :
    Calls Tryd.prog 89 #[.string s, .string sub] w fun e w' => e = .returned (.int .i64 (Lib.index s.data.toList sub.data.toList)) ∧ w' = w := Any.strings_Index_shaped Tryd.laysM143 s sub w h hs
def Tryd.laysM138_ren : Go.Shelf.Ren := ⟨fun | 138 => 79 | 195 => 87 | 218 => 88 | 143 => 89 | 219 => 94 | 217 => 95 | 225 => 96 | 224 => 97 | 267 => 98 | 266 => 99 | 314 => 100 | n => n, fun | 9 => 9 | 3 => 3 | 4 => 4 | 5 => 5 | 0 => 0 | 46 => 76 | 146 => 141 | 51 => 129 | n => n, fun | 1 => 3 | n => n⟩
theorem Tryd.laysM138 : Go.Proofs.LaysM.n138 Tryd.prog Tryd.laysM138_ren := {
  mixed := by kernel_rfl
  f138 := Tryd.func79.trans (congrArg some (by kernel_rfl))
  f143 := Tryd.func89.trans (congrArg some (by kernel_rfl))
  f195 := Tryd.func87.trans (congrArg some (by kernel_rfl))
  f217 := Tryd.func95.trans (congrArg some (by kernel_rfl))
  f218 := Tryd.func88.trans (congrArg some (by kernel_rfl))
  f219 := Tryd.func94.trans (congrArg some (by kernel_rfl))
  f224 := Tryd.func97.trans (congrArg some (by kernel_rfl))
  f225 := Tryd.func96.trans (congrArg some (by kernel_rfl))
  f266 := Tryd.func99.trans (congrArg some (by kernel_rfl))
  f267 := Tryd.func98.trans (congrArg some (by kernel_rfl))
  f314 := Tryd.func100.trans (congrArg some (by kernel_rfl))
  t0 := Tryd.underlying0
  a0 := Tryd.isAgg0
  z0 := Tryd.sizeOf0
  v0 := Tryd.zeroValue0
  t3 := Tryd.underlying3
  a3 := Tryd.isAgg3
  z3 := Tryd.sizeOf3
  v3 := Tryd.zeroValue3
  t4 := Tryd.underlying4
  a4 := Tryd.isAgg4
  z4 := Tryd.sizeOf4
  v4 := Tryd.zeroValue4
  t5 := Tryd.underlying5
  a5 := Tryd.isAgg5
  z5 := Tryd.sizeOf5
  v5 := Tryd.zeroValue5
  t9 := Tryd.underlying9
  a9 := Tryd.isAgg9
  z9 := Tryd.sizeOf9
  v9 := Tryd.zeroValue9
  t46 := Tryd.underlying76
  a46 := Tryd.isAgg76
  z46 := Tryd.sizeOf76
  v46 := Tryd.zeroValue76
  t51 := Tryd.underlying129
  a51 := Tryd.isAgg129
  z51 := Tryd.sizeOf129
  v51 := Tryd.zeroValue129
  t146 := Tryd.underlying141
  a146 := Tryd.isAgg141
  z146 := Tryd.sizeOf141
  v146 := Tryd.zeroValue141
  g1 := by kernel_rfl
  i0 := by kernel_rfl
  i3 := by kernel_rfl
  i4 := by kernel_rfl
  i5 := by kernel_rfl
  i9 := by kernel_rfl
  i46 := by kernel_rfl
  i51 := by kernel_rfl
  i146 := by kernel_rfl
  m1 := by kernel_rfl
  s1_3 := fun w h => Go.Proofs.cell_of_shapedOpen_int (zero := #[.int .i64 0]) (t := 3) h (of_decide_eq_true (by kernel_rfl)) (by kernel_rfl) rfl (by kernel_rfl) (by kernel_rfl) Tryd.underlying3 }
open Go.RowKit Go.Lib in
theorem Tryd.strings_Count_shaped (s sub : ByteArray) (w : World) (h : w.ShapedOpen Tryd.prog) (hs : s.size < 4294967281) (h2 : 2 ≤ sub.size) :
    Calls Tryd.prog 79 #[.string s, .string sub] w fun e w' => e = .returned (.int .i64 (Lib.countB s sub)) ∧ w' = w := Any.strings_Count_shaped Tryd.laysM138 s sub w h hs h2
open Go.RowKit Go.Lib in
theorem Tryd.strings_Count_any (s sep : ByteArray) (m : Int) (w : World) (hs : s.size < 4294967281) (hm : w.cell? ⟨3, 0, none⟩ = some (.int .i64 m)) (h1 : 1 ≤ sep.size) :
    Calls Tryd.prog 79 #[.string s, .string sep] w fun e w' => e = .returned (.int .i64 (Lib.countB s sep)) ∧ w' = w := Any.strings_Count_any Tryd.lays138 s sep m w hs hm h1
open Go.RowKit Go.Lib in
theorem Tryd.utf8_RuneCountInString_ascii (s : ByteArray) (w : World) (hs : s.size < 4294967281) (hascii : ∀ (j : Nat) b, s.data.toList[j]? = some b → b.toNat < 128) :
    Calls Tryd.prog 87 #[.string s] w fun e w' => e = .returned (.int .i64 s.size) ∧ w' = w.iter s s.size := Any.utf8_RuneCountInString_ascii Tryd.lays195 s w hs hascii
end Go.Proofs
end

namespace Go.Proofs.YtaajcllchbnjiaaDoorE
open Go Go.RowKit
set_option linter.unusedVariables false
abbrev T103 : Ty := (.pair (.int .i64) .str)
abbrev G103 := Int × Str
abbrev T25 : Ty := (.pair (.sl .str) (.sl T103))
abbrev G25 := List Str × List G103
abbrev T44 : Ty := (.pair (.int .i64) (.pair (.int .i64) T103))
abbrev G44 := Int × Int × G103
abbrev T27 : Ty := (.pair (.int .i64) T25)
abbrev G27 := Int × G25
abbrev T30 : Ty := (.pair T27 (.pair .str (.pair (.sl (.int .i64)) (.int .i64))))
abbrev G30 := G27 × Str × List Int × Int
abbrev T46 : Ty := (.pair (.int .i64) (.pair (.int .i64) (.pair (.int .i64) (.pair .str T44))))
abbrev G46 := Int × Int × Int × Str × G44
abbrev T48 : Ty := (.pair T46 (.pair (.int .i64) (.pair (.sl (.int .i64)) (.sl (.int .i64)))))
abbrev G48 := G46 × Int × List Int × List Int
def TAB : Tab TI := (.node (.node (.node (.node .nil none (.node (.node .nil (some { sz := 6, agg := true, offs := [(0, 37), (3, 9), (4, 28), (5, 2)], elem := 0, kind := 4, ik := .i64, bytes := 104, zero := [.int .i64 0, .nil, .nil, .str [], .nil, .int .i64 0], ty := T30, eqs := false }) (.node .nil (some { sz := 2, agg := true, offs := [(0, 2), (1, 9)], elem := 0, kind := 4, ik := .i64, bytes := 24, zero := [.int .i64 0, .str []], ty := T103, eqs := true }) .nil)) (some { sz := 1, agg := false, offs := [], elem := 103, kind := 3, ik := .i64, bytes := 24, zero := [.nil], ty := (.sl T103), eqs := false }) (.node .nil (some { sz := 11, agg := true, offs := [(0, 53), (8, 2), (9, 28), (10, 28)], elem := 0, kind := 4, ik := .i64, bytes := 136, zero := [.int .i64 0, .int .i64 0, .int .i64 0, .str [], .int .i64 0, .int .i64 0, .int .i64 0, .str [], .int .i64 0, .nil, .nil], ty := T48, eqs := false }) (.node .nil (some { sz := 1, agg := false, offs := [], elem := 0, kind := 1, ik := .u64, bytes := 8, zero := [.int .u64 0], ty := (.int .u64), eqs := false }) .nil)))) (some { sz := 1, agg := false, offs := [], elem := 0, kind := 1, ik := .i64, bytes := 8, zero := [.int .i64 0], ty := (.int .i64), eqs := false }) (.node (.node (.node .nil (some { sz := 2, agg := true, offs := [(0, 22), (1, 33)], elem := 0, kind := 4, ik := .i64, bytes := 48, zero := [.nil, .nil], ty := T25, eqs := false }) (.node .nil (some { sz := 12, agg := true, offs := [(12, 0)], elem := 9, kind := 7, ik := .i64, bytes := 192, zero := [.str [], .str [], .str [], .str [], .str [], .str [], .str [], .str [], .str [], .str [], .str [], .str []], ty := .unit, eqs := false }) .nil)) none (.node .nil (some { sz := 4, agg := true, offs := [(0, 2), (1, 2), (2, 2), (3, 9)], elem := 0, kind := 4, ik := .i64, bytes := 40, zero := [.int .i64 0, .int .i64 0, .int .i64 0, .str []], ty := T44, eqs := true }) .nil)) none (.node (.node (.node (.node .nil (some { sz := 32, agg := true, offs := [(32, 0)], elem := 5, kind := 7, ik := .i64, bytes := 32, zero := [.int .u8 0, .int .u8 0, .int .u8 0, .int .u8 0, .int .u8 0, .int .u8 0, .int .u8 0, .int .u8 0, .int .u8 0, .int .u8 0, .int .u8 0, .int .u8 0, .int .u8 0, .int .u8 0, .int .u8 0, .int .u8 0, .int .u8 0, .int .u8 0, .int .u8 0, .int .u8 0, .int .u8 0, .int .u8 0, .int .u8 0, .int .u8 0, .int .u8 0, .int .u8 0, .int .u8 0, .int .u8 0, .int .u8 0, .int .u8 0, .int .u8 0, .int .u8 0], ty := .unit, eqs := false }) .nil) none .nil) none (.node .nil (some { sz := 6, agg := true, offs := [(6, 0)], elem := 9, kind := 7, ik := .i64, bytes := 96, zero := [.str [], .str [], .str [], .str [], .str [], .str []], ty := .unit, eqs := false }) .nil)) (some { sz := 3, agg := true, offs := [(0, 2), (1, 25)], elem := 0, kind := 4, ik := .i64, bytes := 56, zero := [.int .i64 0, .nil, .nil], ty := T27, eqs := false }) .nil))) none (.node (.node (.node (.node (.node (.node .nil (some { sz := 1, agg := false, offs := [], elem := 0, kind := 1, ik := .u32, bytes := 4, zero := [.int .u32 0], ty := (.int .u32), eqs := false }) .nil) none .nil) (some { sz := 1, agg := false, offs := [], elem := 104, kind := 3, ik := .i64, bytes := 24, zero := [.nil], ty := (.sl T103), eqs := false }) .nil) none .nil) (some { sz := 1, agg := false, offs := [], elem := 0, kind := 2, ik := .i64, bytes := 16, zero := [.str []], ty := .str, eqs := false }) (.node .nil (some { sz := 2, agg := true, offs := [(0, 22), (1, 23)], elem := 0, kind := 4, ik := .i64, bytes := 48, zero := [.nil, .nil], ty := T25, eqs := false }) .nil)) (some { sz := 1, agg := false, offs := [], elem := 0, kind := 1, ik := .u8, bytes := 1, zero := [.int .u8 0], ty := (.int .u8), eqs := false }) (.node (.node (.node .nil (some { sz := 3, agg := true, offs := [(0, 2), (1, 35)], elem := 0, kind := 4, ik := .i64, bytes := 56, zero := [.int .i64 0, .nil, .nil], ty := T27, eqs := false }) .nil) none (.node .nil (some { sz := 8, agg := true, offs := [(0, 2), (1, 2), (2, 2), (3, 9), (4, 51)], elem := 0, kind := 4, ik := .i64, bytes := 80, zero := [.int .i64 0, .int .i64 0, .int .i64 0, .str [], .int .i64 0, .int .i64 0, .int .i64 0, .str []], ty := T46, eqs := true }) .nil)) none (.node .nil none (.node .nil (some { sz := 1, agg := false, offs := [], elem := 5, kind := 3, ik := .i64, bytes := 24, zero := [.nil], ty := (.sl (.int .u8)), eqs := false }) .nil))))) none (.node (.node (.node (.node (.node (.node (.node .nil (some { sz := 20, agg := true, offs := [(20, 0)], elem := 119, kind := 7, ik := .i64, bytes := 160, zero := [.int .u64 0, .int .u64 0, .int .u64 0, .int .u64 0, .int .u64 0, .int .u64 0, .int .u64 0, .int .u64 0, .int .u64 0, .int .u64 0, .int .u64 0, .int .u64 0, .int .u64 0, .int .u64 0, .int .u64 0, .int .u64 0, .int .u64 0, .int .u64 0, .int .u64 0, .int .u64 0], ty := .unit, eqs := false }) .nil) none .nil) none .nil) none (.node .nil (some { sz := 11, agg := true, offs := [(0, 46), (8, 2), (9, 28), (10, 28)], elem := 0, kind := 4, ik := .i64, bytes := 136, zero := [.int .i64 0, .int .i64 0, .int .i64 0, .str [], .int .i64 0, .int .i64 0, .int .i64 0, .str [], .int .i64 0, .nil, .nil], ty := T48, eqs := false }) .nil)) none (.node (.node .nil none (.node .nil (some { sz := 2, agg := true, offs := [(0, 2), (1, 9)], elem := 0, kind := 4, ik := .i64, bytes := 24, zero := [.int .i64 0, .str []], ty := T103, eqs := true }) .nil)) none .nil)) (some { sz := 1, agg := false, offs := [], elem := 0, kind := 5, ik := .i64, bytes := 1, zero := [.kb false], ty := .bool, eqs := false }) (.node .nil none (.node (.node (.node (.node .nil (some { sz := 64, agg := true, offs := [(64, 0)], elem := 5, kind := 7, ik := .i64, bytes := 64, zero := [.int .u8 0, .int .u8 0, .int .u8 0, .int .u8 0, .int .u8 0, .int .u8 0, .int .u8 0, .int .u8 0, .int .u8 0, .int .u8 0, .int .u8 0, .int .u8 0, .int .u8 0, .int .u8 0, .int .u8 0, .int .u8 0, .int .u8 0, .int .u8 0, .int .u8 0, .int .u8 0, .int .u8 0, .int .u8 0, .int .u8 0, .int .u8 0, .int .u8 0, .int .u8 0, .int .u8 0, .int .u8 0, .int .u8 0, .int .u8 0, .int .u8 0, .int .u8 0, .int .u8 0, .int .u8 0, .int .u8 0, .int .u8 0, .int .u8 0, .int .u8 0, .int .u8 0, .int .u8 0, .int .u8 0, .int .u8 0, .int .u8 0, .int .u8 0, .int .u8 0, .int .u8 0, .int .u8 0, .int .u8 0, .int .u8 0, .int .u8 0, .int .u8 0, .int .u8 0, .int .u8 0, .int .u8 0, .int .u8 0, .int .u8 0, .int .u8 0, .int .u8 0, .int .u8 0, .int .u8 0, .int .u8 0, .int .u8 0, .int .u8 0, .int .u8 0], ty := .unit, eqs := false }) .nil) (some { sz := 1, agg := false, offs := [], elem := 0, kind := 1, ik := .u64, bytes := 8, zero := [.int .u64 0], ty := (.int .u64), eqs := false }) .nil) (some { sz := 4, agg := true, offs := [(0, 2), (1, 2), (2, 2), (3, 9)], elem := 0, kind := 4, ik := .i64, bytes := 40, zero := [.int .i64 0, .int .i64 0, .int .i64 0, .str []], ty := T44, eqs := true }) .nil) (some { sz := 1, agg := false, offs := [], elem := 2, kind := 3, ik := .i64, bytes := 24, zero := [.nil], ty := (.sl (.int .i64)), eqs := false }) .nil))) (some { sz := 1, agg := false, offs := [], elem := 0, kind := 1, ik := .i64, bytes := 8, zero := [.int .i64 0], ty := (.int .i64), eqs := false }) (.node .nil none (.node (.node .nil (some { sz := 1, agg := false, offs := [], elem := 9, kind := 3, ik := .i64, bytes := 24, zero := [.nil], ty := (.sl .str), eqs := false }) .nil) none (.node (.node .nil (some { sz := 8, agg := true, offs := [(0, 2), (1, 2), (2, 2), (3, 9), (4, 44)], elem := 0, kind := 4, ik := .i64, bytes := 80, zero := [.int .i64 0, .int .i64 0, .int .i64 0, .str [], .int .i64 0, .int .i64 0, .int .i64 0, .str []], ty := T46, eqs := true }) .nil) (some { sz := 6, agg := true, offs := [(0, 27), (3, 9), (4, 28), (5, 2)], elem := 0, kind := 4, ik := .i64, bytes := 104, zero := [.int .i64 0, .nil, .nil, .str [], .nil, .int .i64 0], ty := T30, eqs := false }) .nil)))))
theorem TABok : TiOk Tryd.prog TAB ∧ Tryd.prog.follows .mixedOrders = true := ⟨ti_ok (by kernel_rfl), by kernel_rfl⟩
end Go.Proofs.YtaajcllchbnjiaaDoorE
