/- What the law FnExactDeedText needs, part 3 of 8: the Lean functions of the Go functions that it reaches, with the proofs that the calls come to what they say, and plain facts about them. Conditions: those that each theorem states. Written by a session and by its programs (after the kit's printer). -/
import Derived.Test.YtaajcllchbnjiaaDoorXFnExactDeedText1
namespace Go.Proofs.YtaajcllchbnjiaaDoorE
open Go Go.RowKit
set_option linter.unusedVariables false
section
variable {P : Program} {o : Oper} {X : Nat → Prop} {ρ ρ' : Rho} {st st' : St} {a : Act} {w w' : World} {g : Option (Nat × Bool)} {R : Type} {r : R} {K : AV → St → Option R} {C : Ctx}

theorem isByte_run (T : TiOk P C.ti) {t : TypeId} {f : M AV} (hr : (isByte C t f).run st K = some r) : P.underlying t = some (.int .u8) ∧ f.run st K = some r := by
  unfold isByte at hr
  obtain ⟨e, he, hr1⟩ := tiOf_run hr
  cases hk : Nat.beq e.kind 1 with
  | false => rw [hk] at hr1; cases hr1
  | true =>
    rw [hk] at hr1
    obtain ⟨d, hd, _, h1, _⟩ := (T _ _ he).und
    have hk := h1 (Nat.eq_of_beq_eq_true hk)
    replace hr1 : (match e.ik with
      | .u8 => f
      | _ => .fail).run st K = some r := hr1
    split at hr1
    · rename_i hu
      exact ⟨by rw [hd, hk, hu], hr1⟩
    · cases hr1
theorem foldl_push : ∀ (l : List Int) (s : Str), l.foldl (fun r n => r.push (UInt8.ofNat n.toNat)) (ba s) = ba (s ++ listByte l)
  | [], s => by simp [listByte]
  | n :: l, s => by
    have h : (ba s).push (UInt8.ofNat n.toNat) = ba (s ++ [UInt8.ofNat n.toNat]) := by
      apply ByteArray.ext
      simp [ba, ByteArray.push]
    rw [List.foldl_cons, h, foldl_push l]
    simp [listByte]
theorem run_bytes {F : Nat → Prop} {v : Value} {l : List Int} (hx : Reads w F v (.int .u8) l) : (Conv.bytesToString v).run P w = .ok (.string (ba (listByte l))) w := by
  obtain ⟨A, c, rfl, hx⟩ := hx
  cases A with
  | none =>
    rcases hx with rfl | ⟨_, _, h, _⟩
    · rfl
    · cases h
  | some ad =>
    have hl : (loadCells ad l.length).run P w = .ok (l.map (Value.int .u8)).toArray w := by
      have := run_loadCells_list (P := P) w ad (l.map (Value.int .u8)) (fun j v hj => by
        rcases hx with rfl | ⟨b, q, hA, _, hrow⟩
        · simp at hj
        · cases hA
          rw [List.getElem?_map] at hj
          obtain ⟨n, hn, rfl⟩ := Option.map_eq_some_iff.1 hj
          obtain ⟨cs, hc, hrep⟩ := hrow j n hn
          have hrep : cs = [.int .u8 n] := hrep
          subst hrep
          have := hc 0 _ rfl
          rw [add_none]
          simpa [Ty.sz] using this)
      simpa using this
    rw [run_bytesToString w ad _ c l hl]
    have := foldl_push l []
    rw [List.nil_append] at this
    rw [← this]
    rfl
theorem good_convert (T : TiOk P C.ti) (h : Rel X ρ st a w) {s d : TypeId} {x : Operand} (ho : o.op = .convert s d x) {xv : AV} (hx : AvOk X ρ w xv (a.eval x))
    (hr1 : (convert C s d xv).run st K = some r) : Good P o a w X ρ st K r := by
  unfold convert at hr1
  obtain ⟨si, hsi, hr⟩ := tiOf_run hr1
  clear hr1
  obtain ⟨di, hdi, hr1⟩ := tiOf_run hr
  clear hr
  obtain ⟨sd, hsd, _, _, hs2, hs3, _⟩ := (T _ _ hsi).und
  obtain ⟨dd, hdd, _, hd1, hd2, hd3, _⟩ := (T _ _ hdi).und
  unfold conv2 at hr1
  split at hr1
  · rename_i k n
    cases hk : Nat.beq di.kind 1 with
    | false => rw [hk] at hr1; cases hr1
    | true =>
      rw [hk] at hr1
      have := hd1 (Nat.eq_of_beq_eq_true hk)
      subst this
      have hx : a.eval x = .int k n := hx
      refine good_same (v := .int di.ik (di.ik.wrap n)) ?_ hr1 rfl h
      unfold execOp
      rw [ho]
      simp [Go.convert, hx, run_underlying hsd, run_underlying hdd, Conv.intToInt]
  · rename_i t
    have hx : a.eval x = .string (ba t) := hx
    cases hk : Nat.beq di.kind 2 with
    | true =>
      rw [hk] at hr1
      have := hd2 (Nat.eq_of_beq_eq_true hk)
      subst this
      refine good_same (v := .string (ba t)) ?_ hr1 rfl h
      unfold execOp
      rw [ho]
      simp [Go.convert, hx, run_underlying hsd, run_underlying hdd]
    | false =>
      rw [hk] at hr1
      cases hk2 : (Nat.beq si.kind 2 && Nat.beq di.kind 3) with
      | false => rw [hk2] at hr1; cases hr1
      | true =>
        rw [hk2] at hr1
        obtain ⟨c1, c2⟩ := (Bool.and_eq_true _ _).mp hk2
        have := hs2 (Nat.eq_of_beq_eq_true c1)
        subst this
        have := hd3 (Nat.eq_of_beq_eq_true c2)
        subst this
        obtain ⟨hbt, hr⟩ := isByte_run T hr1
        clear hr1
        obtain ⟨u, hu, hr1⟩ := opt_run hr
        clear hr
        obtain ⟨hnl, hr1⟩ := run_new hr1
        have hroom : t.length ≤ 140737488355328 := by
          unfold room? at hu
          split at hu
          · rename_i hc; simpa using hc
          · cases hu
        have hb := run_bytes_of_string (P := P) w s d di.elem (ba t) hsd hdd hbt
        generalize hcap : grownCap w (ba t).size 0 di.elem = cap at hb
        have hcap1 : t.length ≤ cap := by
          rw [← hcap]
          exact grownCap_ge w (ba t).size 0 di.elem
        have hrs : (bytesRow (ba t) cap).size = cap := by
          have : (ba t).size = t.length := rfl
          have : (ba t).data.size = t.length := rfl
          simp only [bytesRow, Array.size_append, Array.size_map, Array.size_replicate]
          omega
        have x0 := (ext_drew ρ w).trans (ext_alloc ρ w.drew (.cells (bytesRow (ba t) cap) di.elem ((bytesRow (ba t) cap).size, (bytesRow (ba t) cap).size + 1)))
        have e2 := x0.slot (n := st.nb) (c := .row (.slice (some ⟨w.heap.size, 0, none⟩) (ba t).size cap)) (h.fresh.1 _ (.inl ⟨Nat.le_refl _, hnl⟩)) (fun b hb => by
          have hb : some w.heap.size = some b := hb
          cases hb
          exact Nat.le_refl _)
        have hrow : RowOk (w.drew.alloc (.cells (bytesRow (ba t) cap) di.elem ((bytesRow (ba t) cap).size, (bytesRow (ba t) cap).size + 1))) (Fix X (upd ρ st.nb (some (.row (.slice (some ⟨w.heap.size, 0, none⟩) (ba t).size cap)))) (w.drew.alloc (.cells (bytesRow (ba t) cap) di.elem ((bytesRow (ba t) cap).size, (bytesRow (ba t) cap).size + 1))))
            true di.elem (.int .u8) (.slice (some ⟨w.heap.size, 0, none⟩) (ba t).size cap) (byteList t) := by
          have hbl : (byteList t).length = t.length := by simp [byteList]
          refine RowS.ok (.inr ⟨w.heap.size, cap, bytesRow (ba t) cap, _, by rw [hbl]; rfl, heap_alloc_new w.drew _, .inr (Nat.le_refl _), (fun hz => by cases hz), by rw [hbl]; exact hcap1, by rw [hrs]; simp [Ty.sz], ?_⟩) ((T _ _ hdi).low (Nat.eq_of_beq_eq_true c2))
          intro j y hj
          have hjl : j < t.length := by
            rw [← hbl]
            exact (List.getElem?_eq_some_iff.1 hj).1
          show _ = _
          apply List.ext_getElem?
          intro k
          rw [row_get]
          show (if k < 1 then (bytesRow (ba t) cap).toList[j * 1 + k]? else none) = _
          by_cases hk : k < 1
          · rw [if_pos hk]
            have hk0 : k = 0 := by omega
            subst hk0
            rw [Nat.mul_one, Nat.add_zero]
            have hdl : (ba t).data.toList = t := rfl
            simp only [bytesRow, Array.toList_append, Array.toList_map, hdl]
            rw [List.getElem?_append_left (by simpa using hjl), List.getElem?_map]
            simp only [byteList, List.getElem?_map] at hj
            obtain ⟨bb, hbb, rfl⟩ := Option.map_eq_some_iff.1 hj
            rw [hbb]
            rfl
          · rw [if_neg hk, List.getElem?_eq_none (by simp; omega)]
        obtain ⟨ρ', m1, m2, m3⟩ := h.row hnl x0 (fun j b hb => heap_old w.drew _ (h.lt j b hb).1) (v := .slice (some ⟨w.heap.size, 0, none⟩) (ba t).size cap) (fun b hb => by cases hb; exact Nat.le_refl _) hrow
        refine good_value (v := .slice (some ⟨w.heap.size, 0, none⟩) (ba t).size cap) ?_ hr1 ⟨.inl ⟨_, _, _, rfl⟩, by rw [m3]⟩ m1 m2 rfl
        unfold execOp
        rw [ho]
        simp [hx, hb]
  · rename_i y _ _
    cases hk2 : (Nat.beq si.kind 3 && Nat.beq di.kind 2) with
    | false => rw [hk2] at hr1; cases hr1
    | true =>
      rw [hk2] at hr1
      obtain ⟨c1, c2⟩ := (Bool.and_eq_true _ _).mp hk2
      have := hs3 (Nat.eq_of_beq_eq_true c1)
      subst this
      have := hd2 (Nat.eq_of_beq_eq_true c2)
      subst this
      obtain ⟨hbt, hr⟩ := isByte_run T hr1
      clear hr1
      have key : ∀ l, Reads w (Fix X ρ w) (a.eval x) (.int .u8) l → K (.one (.str (listByte l))) st = some r → Good P o a w X ρ st K r := by
        intro l hl hk
        have hb := run_bytes (P := P) hl
        obtain ⟨A, c, hx2, _⟩ := hl
        refine good_same (v := .string (ba (listByte l))) ?_ hk rfl h
        unfold execOp
        rw [ho]
        rw [hx2] at hb
        simp only [hx2, Sem.run_bind, run_convert_bytes_string w s d si.elem A l.length c hsd hbt hdd, hb, Result.andThen_ok]
        rfl
      unfold convB at hr
      split at hr
      · have hx : a.eval x = .slice none 0 0 := hx
        exact key [] ⟨none, 0, by rw [hx]; rfl, .inl rfl⟩ hr
      · rw [M.run_bind] at hr
        obtain ⟨c, hr1, hc⟩ := content_sound h hx hr
        split at hr1
        · exact key _ hc hr1
        · cases hr1
  · cases hr1
/-! ### slices cut -/
def BoundOk (v : Option Value) (d i : Int) : Prop := (v = none ∧ i = d) ∨ ∃ k, v = some (.int k i)
theorem idxOr_run {x : Option AV} {v : Option Value} {d : Int} {K : Int → St → Option R} (hx : ∀ y, x = some y → ∃ u, v = some u ∧ AvOk X ρ w y u) (hn : x = none → v = none) (hr : (idxOr x d).run st K = some r) : ∃ i, K i st = some r ∧ BoundOk v d i := by
  unfold idxOr at hr
  split at hr
  · exact ⟨d, hr, .inl ⟨hn rfl, rfl⟩⟩
  · rename_i y
    obtain ⟨u, hu, hy⟩ := hx y rfl
    obtain ⟨k, n, hv, hk⟩ := asInt_run hy hr
    exact ⟨n, hk, .inr ⟨k, by rw [hu, hv]⟩⟩
theorem run_bounds {b : Bool} {len cap : Nat} {lo hi : Option Value} {i j : Int} (h1 : BoundOk lo 0 i) (h2 : BoundOk hi len j) (hi0 : 0 ≤ i) (hij : i ≤ j) (hjc : j ≤ cap) :
    (Instr.sliceBounds b len cap lo hi none).run P w = .ok (i.toNat, j.toNat, cap) w := by
  have hj0 : 0 ≤ j := by omega
  have hij2 : i ≤ (j.toNat : Int) := by omega
  rcases h1 with ⟨rfl, rfl⟩ | ⟨k, rfl⟩ <;> rcases h2 with ⟨rfl, rfl⟩ | ⟨k2, rfl⟩
  · simp [Instr.sliceBounds]
  · simp [Instr.sliceBounds, run_sliceBound (P := P) w k2 j cap _ hj0 hjc]
  · simp only [Int.toNat_natCast] at hij2
    simp [Instr.sliceBounds, run_sliceBound (P := P) w k i len _ hi0 hij2]
  · simp [Instr.sliceBounds, run_sliceBound (P := P) w k2 j cap _ hj0 hjc, run_sliceBound (P := P) w k i j.toNat _ hi0 hij2]
theorem cut_some {α : Type} {l m : List α} {i j : Int} (h : cut? l i j = some m) : 0 ≤ i ∧ i ≤ j ∧ j ≤ l.length ∧ m = (l.take j.toNat).drop i.toNat := by
  unfold cut? at h
  split at h
  · rename_i hc
    cases h
    exact ⟨hc.1, hc.2.1, hc.2.2, rfl⟩
  · cases h
theorem run_slice_op {t : TypeId} {x : Operand} {lo hi : Option Operand} (ho : o.op = .slice t x lo hi none) {v : Value} (hr : (Instr.sliceAt t (a.eval x) (lo.map a.eval) (hi.map a.eval) none).run P w = .ok v w) : (execOp a.eval o).run P w = .ok (.value v) w := by
  unfold execOp
  rw [ho]
  simp [hr]
theorem cut_rep (T : TiOk P C.ti) {F : Nat → Prop} {t : TypeId} {x : Operand} {lo hi : Option Operand} (ho : o.op = .slice t x lo hi none) {e : TypeId} {ei : TI} (hu : P.underlying t = some (.slice e)) (hei : C.ti.get e = some ei)
    {rt : Ty} {l : List rt.T} {i j : Int} (hy : Rep w F (.sl rt) l [a.eval x]) (hs : rt.sz = ei.sz) (hbi : BoundOk (lo.map a.eval) 0 i) (hbj : BoundOk (hi.map a.eval) l.length j) (h1 : 0 ≤ i) (h2 : i ≤ j) (h3 : j ≤ l.length) :
    ∃ v, (execOp a.eval o).run P w = .ok (.value v) w ∧ Rep w F (.sl rt) ((l.take j.toNat).drop i.toNat) [v] := by
  obtain ⟨A, c, hx, hlc, hrow⟩ := hy
  have hx2 : a.eval x = .slice A l.length c := by
    cases hx3 : a.eval x <;> rw [hx3] at hx <;> cases hx
    rfl
  have hb := run_bounds (P := P) (w := w) (b := true) (cap := c) hbi hbj h1 h2 (by omega)
  refine ⟨.slice (if c = i.toNat then A else A.map (·.add (i.toNat * ei.sz))) (j.toNat - i.toNat) (c - i.toNat), run_slice_op ho ?_, ?_⟩
  · rw [hx2]
    simp [Instr.sliceAt, Instr.slice, run_underlying hu, hb, run_sizeOf (T _ _ hei)]
  · have hlen : ((l.take j.toNat).drop i.toNat).length = j.toNat - i.toNat := by simp; omega
    refine ⟨_, c - i.toNat, by rw [hlen], by rw [hlen]; omega, ?_⟩
    by_cases he : (l.take j.toNat).drop i.toNat = []
    · exact .inl he
    · refine .inr ?_
      have hne : i.toNat < j.toNat := by
        rcases Nat.lt_or_ge i.toNat j.toNat with hlt | hge
        · exact hlt
        · exact absurd (List.eq_nil_of_length_eq_zero (by rw [hlen]; omega)) he
      rcases hrow with rfl | ⟨b, q, rfl, hfix, hrow⟩
      · simp at h3; omega
      · rw [if_neg (by omega)]
        refine ⟨b, q + i.toNat * ei.sz, by simp [add_none], hfix, ?_⟩
        intro k z hk
        rw [List.getElem?_drop, List.getElem?_take] at hk
        split at hk
        · obtain ⟨cs, hc, hrep⟩ := hrow _ z hk
          refine ⟨cs, ?_, hrep⟩
          rw [← hs]
          rwa [show q + i.toNat * rt.sz + k * rt.sz = q + (i.toNat + k) * rt.sz by rw [Nat.add_mul]; omega]
        · cases hk
theorem sliceL_sound (T : TiOk P C.ti) (h : Rel X ρ st a w) {t : TypeId} {x : Operand} {lo hi : Option Operand} (ho : o.op = .slice t x lo hi none) {lv hv : Option AV}
    (hl : ∀ y, lv = some y → ∃ u, lo.map a.eval = some u ∧ AvOk X ρ w y u) (hl0 : lv = none → lo.map a.eval = none) (hh : ∀ y, hv = some y → ∃ u, hi.map a.eval = some u ∧ AvOk X ρ w y u) (hh0 : hv = none → hi.map a.eval = none)
    {e : TypeId} {ei : TI} (hu : P.underlying t = some (.slice e)) (hei : C.ti.get e = some ei) {y : Leaf} (hy : LeafOk X ρ w y (a.eval x)) (hsz : ∀ rt l, y = .list rt l ∨ y = .bor rt l → rt.sz = ei.sz)
    (hr : (sliceL lv hv y).run st K = some r) : Good P o a w X ρ st K r := by
  unfold sliceL at hr
  split at hr
  · rename_i rt l
    rw [M.run_bind] at hr
    obtain ⟨i, hr1, hbi⟩ := idxOr_run hl hl0 hr
    clear hr
    rw [M.run_bind] at hr1
    obtain ⟨j, hr, hbj⟩ := idxOr_run hh hh0 hr1
    clear hr1
    obtain ⟨m, hm, hr1⟩ := opt_run hr
    obtain ⟨h1, h2, h3, rfl⟩ := cut_some hm
    obtain ⟨v, k1, k2⟩ := cut_rep T ho hu hei hy (hsz rt l (.inl rfl)) hbi hbj h1 h2 h3
    exact good_same k1 hr1 k2 h
  · rename_i rt l
    rw [M.run_bind] at hr
    obtain ⟨i, hr1, hbi⟩ := idxOr_run hl hl0 hr
    clear hr
    rw [M.run_bind] at hr1
    obtain ⟨j, hr, hbj⟩ := idxOr_run hh hh0 hr1
    clear hr1
    obtain ⟨m, hm, hr1⟩ := opt_run hr
    obtain ⟨h1, h2, h3, rfl⟩ := cut_some hm
    obtain ⟨v, k1, k2⟩ := cut_rep T ho hu hei hy (hsz rt l (.inr rfl)) hbi hbj h1 h2 h3
    exact good_same k1 hr1 k2 h
  · rw [M.run_bind] at hr
    obtain ⟨i, hr1, hbi⟩ := idxOr_run hl hl0 hr
    clear hr
    rw [M.run_bind] at hr1
    obtain ⟨j, hr, hbj⟩ := idxOr_run hh hh0 hr1
    clear hr1
    cases hc : (decide (i = 0) && decide (j = 0)) with
    | false => rw [hc] at hr; cases hr
    | true =>
      rw [hc] at hr
      obtain ⟨c1, c2⟩ := (Bool.and_eq_true _ _).mp hc
      have c1 : i = 0 := of_decide_eq_true c1
      have c2 : j = 0 := of_decide_eq_true c2
      subst c1
      subst c2
      have hx : a.eval x = .slice none 0 0 := hy
      have hb := run_bounds (P := P) (w := w) (b := true) (len := 0) (cap := 0) hbi hbj (Int.le_refl _) (Int.le_refl _) (by simp)
      refine good_same (v := .slice none 0 0) (run_slice_op ho ?_) hr rfl h
      rw [hx]
      simp [Instr.sliceAt, Instr.slice, run_underlying hu, hb, run_sizeOf (T _ _ hei)]
  · cases hr
theorem slice_sound (T : TiOk P C.ti) (h : Rel X ρ st a w) {t : TypeId} {x : Operand} {lo hi : Option Operand} (ho : o.op = .slice t x lo hi none) {xv : AV} {lv hv : Option AV} (hx : AvOk X ρ w xv (a.eval x))
    (hl : ∀ y, lv = some y → ∃ u, lo.map a.eval = some u ∧ AvOk X ρ w y u) (hl0 : lv = none → lo.map a.eval = none) (hh : ∀ y, hv = some y → ∃ u, hi.map a.eval = some u ∧ AvOk X ρ w y u) (hh0 : hv = none → hi.map a.eval = none)
    (hr1 : (sliceOf C t xv lv hv).run st K = some r) : Good P o a w X ρ st K r := by
  unfold sliceOf at hr1
  obtain ⟨ti, hti, hr⟩ := tiOf_run hr1
  clear hr1
  obtain ⟨d, hd, _, _, hd2, hd3, _⟩ := (T _ _ hti).und
  split at hr
  · rename_i s hk
    have := hd2 hk
    subst this
    have hx : a.eval x = .string (ba s) := hx
    rw [M.run_bind] at hr
    obtain ⟨i, hr1, hbi⟩ := idxOr_run hl hl0 hr
    clear hr
    rw [M.run_bind] at hr1
    obtain ⟨j, hr, hbj⟩ := idxOr_run hh hh0 hr1
    clear hr1
    obtain ⟨m, hm, hr1⟩ := opt_run hr
    obtain ⟨h1, h2, h3, rfl⟩ := cut_some hm
    have hb := run_bounds (P := P) (w := w) (b := false) (len := s.length) (cap := s.length) hbi hbj h1 h2 h3
    refine good_same (v := .string (ba ((s.take j.toNat).drop i.toNat))) (run_slice_op ho ?_) hr1 rfl h
    rw [hx]
    have hsz : (ba s).size = s.length := rfl
    have hex : (ba s).extract i.toNat j.toNat = ba ((s.take j.toNat).drop i.toNat) := by
      apply ByteArray.ext
      simp [ba, ByteArray.data_extract, List.extract]
      rw [List.drop_take]
    simp [Instr.sliceAt, Instr.slice, run_underlying hd, hsz, hb, hex]
  · rename_i y hk
    have := hd3 hk
    subst this
    obtain ⟨ei, hei, hr1⟩ := tiOf_run hr
    clear hr
    split at hr1
    · rename_i rt l
      cases hz : Nat.beq rt.sz ei.sz with
      | false => rw [hz] at hr1; cases hr1
      | true =>
        rw [hz] at hr1
        have hx : LeafOk X ρ w (.bor rt l) (a.eval x) := hx
        exact sliceL_sound T h ho hl hl0 hh hh0 hd hei hx (fun rt' l' he => by
          rcases he with he | he
          · cases he
          · cases he; exact Nat.eq_of_beq_eq_true hz) hr1
    rw [M.run_bind] at hr1
    obtain ⟨y', ρ1, st1, hr, hrel, e1, n1, hy, hdat, _⟩ := pureLeaf_sound h hx hr1
    clear hr1
    have up : ∀ (q : Option Operand) (lv : Option AV), (∀ y, lv = some y → ∃ u, q.map a.eval = some u ∧ AvOk X ρ w y u) → ∀ y, lv = some y → ∃ u, q.map a.eval = some u ∧ AvOk X ρ1 w y u :=
      fun q lv hq y hy => by
        obtain ⟨u, h1, h2⟩ := hq y hy
        exact ⟨u, h1, h2.ext e1⟩
    have fin : Good P o a w X ρ1 st1 K r → Good P o a w X ρ st K r := fun hgood next Q hq =>
      hgood next Q fun av v ρ' st' w' k1 k2 k3 k4 k5 => hq av v ρ' st' w' k1 k2 k3 (e1.trans k4) (k5.trans n1)
    split at hr
    · rename_i rt l
      cases hz : Nat.beq rt.sz ei.sz with
      | false => rw [hz] at hr; cases hr
      | true =>
        rw [hz] at hr
        exact fin (sliceL_sound T hrel ho (up lo lv hl) hl0 (up hi hv hh) hh0 hd hei hy (fun rt' l' he => by
          rcases he with he | he
          · cases he; exact Nat.eq_of_beq_eq_true hz
          · cases he) hr)
    · rename_i hne
      exact fin (sliceL_sound T hrel ho (up lo lv hl) hl0 (up hi hv hh) hh0 hd hei hy (fun rt' l' he => by
        rcases he with he | he
        · exact absurd he (hne rt' l')
        · rw [he] at hdat; exact hdat.elim) hr)
  · cases hr
/-! ### function values -/
theorem rp1_ok {x : Leaf} {v : Value} {q : Σ t : Ty, t.T} (h : LeafOk X ρ w x v) (e : rp1 x = some q) : Rep w (Brw ρ w) q.1 q.2 [v] := by
  unfold rp1 at e
  split at e
  · cases e; exact congrArg (fun y => [y]) h
  · cases e; exact congrArg (fun y => [y]) h
  · cases e; exact congrArg (fun y => [y]) h
  · cases e; exact h
  · cases e; exact Rep.move (fun b hb => ⟨rfl, hb.brw⟩) h
  · cases e
theorem rpOf_ok : ∀ {xs : List Leaf} {vs : List Value} {q : Σ t : Ty, t.T}, LeavesOk X ρ w xs vs → rpOf xs = some q → Rep w (Brw ρ w) q.1 q.2 vs
  | [x], [v], q, h, e => rp1_ok h.1 e
  | x :: y :: xs, v :: u :: vs, q, h, e => by
    unfold rpOf at e
    split at e
    · rename_i q1 q2 h1 h2
      cases e
      exact ⟨[v], u :: vs, rfl, rp1_ok h.1 h1, rpOf_ok h.2 h2⟩
    · cases e
  | [], [], _, _, e => by cases e
  | [], _ :: _, _, h, _ => h.elim
  | _ :: _, [], _, h, _ => h.elim
  | [_], _ :: _ :: _, _, h, _ => h.2.elim
  | _ :: _ :: _, [_], _, h, _ => h.2.elim
theorem capOf_run {v : AV} {u : Value} {K : Leaf → St → Option R} (h : AvOk X ρ w v u) (hr : (capOf v).run st K = some r) : ∃ x, K x st = some r ∧ LeafOk X ρ w x u := by
  unfold capOf at hr
  split at hr
  · exact ⟨_, hr, h⟩
  · split at hr
    · rename_i xs q hq
      obtain ⟨g, o, cs, h1, h2, h3, h4⟩ := h
      exact ⟨_, hr, g, o, cs, h1, h2, h3, rpOf_ok h4 hq⟩
    · cases hr
  · cases hr
theorem capsOf_run : ∀ {vs : List AV} {us : List Value} {K : List Leaf → St → Option R}, AvsOk X ρ w vs us → (M.mapL capOf vs).run st K = some r → ∃ xs, K xs st = some r ∧ LeavesOk X ρ w xs us
  | [], [], K, _, hr => ⟨[], hr, trivial⟩
  | v :: vs, u :: us, K, h, hr => by
    unfold M.mapL at hr
    rw [M.run_bind] at hr
    obtain ⟨x, hr1, hx⟩ := capOf_run h.1 hr
    rw [M.run_bind] at hr1
    obtain ⟨xs, hr2, hxs⟩ := capsOf_run h.2 hr1
    exact ⟨x :: xs, hr2, hx, hxs⟩
  | [], _ :: _, _, h, _ => h.elim
  | _ :: _, [], _, h, _ => h.elim
theorem good_makeFunc (h : Rel X ρ st a w) (hg : Held a g) {f : FuncId} {caps : Array Operand} (ho : o.op = .makeFunc (.func f) #[] caps)
    (hr : ((M.mapL (opd g) caps.toList).bind fun vs => (M.mapL capOf vs).bind fun xs => .ret (.fn f xs)).run st K = some r) : Good P o a w X ρ st K r := by
  rw [M.run_bind] at hr
  obtain ⟨vs, hr1, hv⟩ := opds_sound h hg hr
  clear hr
  rw [M.run_bind] at hr1
  obtain ⟨xs, hr, hx⟩ := capsOf_run hv hr1
  refine good_same (v := .func (.func f) #[] (caps.map a.eval)) ?_ hr ⟨_, rfl, by simpa using hx⟩ h
  unfold execOp
  rw [ho]
  simp [Instr.makeFunc]
end
end Go.Proofs.YtaajcllchbnjiaaDoorE

namespace Go.Proofs.YtaajcllchbnjiaaDoorE
open Go Go.RowKit
set_option linter.unusedVariables false
section
variable {P : Program} {o : Oper} {X : Nat → Prop} {ρ ρ' : Rho} {st st' : St} {a : Act} {w w' : World} {g : Option (Nat × Bool)} {R : Type} {r : R} {K : AV → St → Option R} {C : Ctx}

/-! ### maps -/
theorem good_makeMap (T : TiOk P C.ti) (h : Rel X ρ st a w) {t : TypeId} (ho : o.op = .makeMap t none)
    (hr : (mapTI C t (.new (.arr false (1000000 + t) (.int .i64) []) fun n => .ret (.one (.own n)))).run st K = some r) : Good P o a w X ρ st K r := by
  obtain ⟨hr1, _⟩ := mapTI_run T hr
  obtain ⟨hlt, hr2⟩ := run_new hr1
  have hm : isMap (1000000 + t) = true := Nat.ble_eq.mpr (Nat.le_add_right _ _)
  obtain ⟨ρ1, h1, e1, h3⟩ := h.row (w' := w.alloc (.map #[] 0)) hlt (ext_alloc ρ w _) (fun j b hb => heap_old w _ (h.lt j b hb).1) (z := false) (et := 1000000 + t) (t := .int .i64) (l := []) (v := .map (some w.heap.size))
    (fun b hb => by cases hb; exact Nat.le_refl _) (RowM.ok ⟨w.heap.size, #[], 0, rfl, rfl, heap_alloc_new w _, trivial⟩ hm)
  refine good_value (v := .map (some w.heap.size)) ?_ hr2 ⟨.inr ⟨_, rfl⟩, by rw [h3]⟩ h1 e1 rfl
  unfold execOp
  rw [ho]
  simp [Instr.makeMap, newObj]
  rfl
theorem run_setMap {b : Nat} {es : Array MapEntry} {clk : Nat} {o : Obj} (hb : w.heap[b]? = some (.map es clk)) (es' : Array MapEntry) (clk' : Nat) : (setObj b (.map es' clk')).run P w = .ok () { w with heap := w.heap.setIfInBounds b (.map es' clk') } := MapKept.run_setObj_map _ hb
theorem run_stays (k : Int) : (Instr.keyThatStays (.int .i64 k) (.int .i64 k)).run P w = .ok (.int .i64 k) w := by
  have : Instr.sameBits 10000 (.int .i64 k) (.int .i64 k) = true := by simp [Instr.sameBits]
  simp [Instr.keyThatStays, this]
theorem KeysOk.push : ∀ {es : List MapEntry} {l : List Int} (k : Int) (b : Nat), KeysOk es l → KeysOk (es ++ [⟨.int .i64 k, .bool true, b⟩]) (l ++ [k])
  | [], [], k, b, _ => ⟨rfl, rfl, trivial⟩
  | _ :: _, _ :: _, k, b, h => ⟨h.1, h.2.1, KeysOk.push k b h.2.2⟩
  | [], _ :: _, _, _, h => h.elim
  | _ :: _, [], _, _, h => h.elim
theorem KeysOk.set : ∀ {es : List MapEntry} {l : List Int} (k : Int) (j : Nat), KeysOk es l → l[j]? = some k → KeysOk (es.modify j fun e => { e with key := .int .i64 k, val := .bool true }) l
  | x :: es, q :: l, k, 0, h, hj => by
    cases hj
    exact ⟨rfl, rfl, h.2.2⟩
  | x :: es, q :: l, k, j + 1, h, hj => ⟨h.1, h.2.1, KeysOk.set k j h.2.2 hj⟩
  | [], [], _, _, _, hj => by simp at hj
  | [], _ :: _, _, _, h, _ => h.elim
  | _ :: _, [], _, _, h, _ => h.elim
theorem KeysOk.at : ∀ {es : List MapEntry} {l : List Int} (k : Int) (j : Nat), KeysOk es l → l[j]? = some k → ∃ x, es[j]? = some x ∧ x.key = .int .i64 k
  | x :: es, q :: l, k, 0, h, hj => by
    cases hj
    exact ⟨x, rfl, h.1⟩
  | x :: es, q :: l, k, j + 1, h, hj => KeysOk.at k j h.2.2 hj
  | [], [], _, _, _, hj => by simp at hj
  | [], _ :: _, _, _, h, _ => h.elim
  | _ :: _, [], _, _, h, _ => h.elim
theorem ext_obj {i b : Nat} {ob : Obj} (h : Rel X ρ st a w) (hb : owns (ρ i) b) : Ext ρ w ρ { w with heap := w.heap.setIfInBounds b ob } :=
  ⟨rfl, rfl, rfl, by simp, fun k hk hn => by
    show (w.heap.setIfInBounds b ob)[k]? = _
    rw [Array.getElem?_setIfInBounds, if_neg (fun (e : b = k) => hn i (e ▸ hb))], fun i b h => .inl ⟨i, h⟩, fun _ _ h => .inl h⟩
theorem Rel.writeObj {i b : Nat} {ob : Obj} (h : Rel X ρ st a w) (hb : owns (ρ i) b) (e : Ent) (he : EntOk X ρ { w with heap := w.heap.setIfInBounds b ob } e (ρ i)) : Rel X ρ (st.setB i e) a { w with heap := w.heap.setIfInBounds b ob } := by
  have x := ext_obj (ob := ob) h hb
  have key := h.step (w' := { w with heap := w.heap.setIfInBounds b ob }) i e (ρ i) (by rw [upd_self rfl]; exact x) (fun k hk => ⟨Nat.lt_of_lt_of_le (h.lt i k hk).1 x.size, (h.lt i k hk).2⟩)
    (fun j k hk hj => h.sep j i k hj hk) (fun j k hj hk => by
      show (w.heap.setIfInBounds b ob)[k]? = _
      rw [Array.getElem?_setIfInBounds, if_neg (fun (ek : b = k) => hj (h.sep j i b (ek ▸ hk) hb))]) (by rw [upd_self rfl]; exact he)
    (st' := st.setB i e) rfl rfl rfl (fun j => ent_setB st i e j) (by rw [upd_self rfl]; exact h.fresh)
  rwa [upd_self rfl] at key
theorem frz_world {gb : Nat} {cs : Array Value} {e : TypeId} (hh : w.heap[gb]? = some (.cells cs e (0, 0))) : w.freeze ⟨gb, cs.size, none⟩ 1 = { w with heap := w.heap.setIfInBounds gb (.cells cs e (cs.size, cs.size + 1)) } := by
  unfold World.freeze
  rw [if_neg (by decide)]
  obtain ⟨hlt, hg⟩ := Array.getElem?_eq_some_iff.1 hh
  have : (w.heap.modify gb fun
      | .cells c elem (lo, hi) => .cells c elem (if lo == hi then (cs.size, cs.size + 1) else (min lo cs.size, max hi (cs.size + 1)))
      | o => o) = w.heap.setIfInBounds gb (.cells cs e (cs.size, cs.size + 1)) := by
    apply Array.ext
    · simp
    · intro i h1 h2
      rw [Array.getElem_modify, Array.getElem_setIfInBounds]
      by_cases hi : gb = i
      · subst hi
        rw [if_pos rfl, if_pos rfl, hg]
        rfl
      · rw [if_neg hi, if_neg hi]
  rw [← this]
  rfl
theorem good_convertM (T : TiOk P C.ti) (h : Rel X ρ st a w) (hg : Held a g) {s d : TypeId} {x : Operand} (ho : o.op = .convert s d x)
    (hr : ((opd g x).bind fun v => convertM C s d v).run st K = some r) : Good P o a w X ρ st K r := by
  rw [M.run_bind] at hr
  obtain ⟨xv, hr1, hx⟩ := opd_sound h hg hr
  clear hr
  unfold convertM at hr1
  cases hsd : Nat.beq s d with
  | false =>
    rw [hsd, cond_false] at hr1
    exact good_convert T h ho hx hr1
  | true =>
    rw [hsd, cond_true] at hr1
    split at hr1
    · rename_i n
      have hsd := Nat.eq_of_beq_eq_true hsd
      subst hsd
      replace hr1 : (markE C s n (st.ent n)).run st K = some r := hr1
      unfold markE at hr1
      split at hr1
      · rename_i e y l he
        cases hm : isMap e with
        | true => rw [hm] at hr1; cases hr1
        | false =>
          rw [hm, cond_false] at hr1
          obtain ⟨si, hsi, hr⟩ := tiOf_run hr1
          clear hr1
          cases hc : (Nat.beq si.kind 3 && Nat.beq si.elem e) with
          | false => rw [hc] at hr; cases hr
          | true =>
            rw [hc, cond_true] at hr
            obtain ⟨c1, c2⟩ := (Bool.and_eq_true _ _).mp hc
            obtain ⟨hu8, hr1⟩ := isByte_run T hr
            clear hr
            have c2 := Nat.eq_of_beq_eq_true c2
            obtain ⟨sd, hsd, _, _, _, hs3, _⟩ := (T _ _ hsi).und
            have := hs3 (Nat.eq_of_beq_eq_true c1)
            subst this
            rw [c2] at hsd
            have hent := h.ents n
            rw [he] at hent
            obtain ⟨v, hρ, hrow⟩ := hent
            have hrowS := hrow.slice hm
            rcases hrowS with ⟨_, hl⟩ | ⟨gb, cap, cs, fr, hv, hgb, hun, hfz, hlc, hcs, hx'⟩
            · cases hl
            · have hfr := (hfz rfl).1
              subst hfr
              have hxv : a.eval x = v := by
                have h2 := hx.2
                rw [hρ] at h2
                exact h2
              have hown : owns (ρ n) gb := by rw [hρ, hv]; rfl
              have hsh : w.shape? gb = some (e, cs.size) := by unfold World.shape?; rw [hgb]
              refine good_value (v := v) ?_ hr1 ?_ (h.writeObj (ob := .cells cs e (cs.size, cs.size + 1)) hown (.arr true e (.int .u8) (y :: l)) ?_) (ext_obj h hown) rfl
              · unfold execOp
                rw [ho]
                simp [Go.convert, hxv, hv, run_underlying hsd, run_underlying hu8, markStringish, hsh]
                exact frz_world hgb
              · exact ⟨hx.1.imp (fun q => by rw [hxv] at q; exact q) (fun q => by rw [hxv] at q; exact q), by rw [hρ]⟩
              · rw [hρ]
                refine ⟨v, rfl, RowS.ok (.inr ⟨gb, cap, cs, (cs.size, cs.size + 1), hv, ?_, .inr (Nat.le_refl _), (fun q => nomatch q), hlc, hcs, fun j z hj => Rep.move (fun b hb => ⟨?_, ?_⟩) (hx' j z hj)⟩) hm⟩
                · show (w.heap.setIfInBounds gb _)[gb]? = _
                  rw [Array.getElem?_setIfInBounds, if_pos rfl, if_pos (Array.getElem?_eq_some_iff.1 hgb).1]
                · show (w.heap.setIfInBounds gb _)[b]? = _
                  rw [Array.getElem?_setIfInBounds, if_neg (fun q => hb.2.2 n (by rw [← q]; exact hown))]
                · exact ⟨by show b < (w.heap.setIfInBounds gb _).size; rw [Array.size_setIfInBounds]; exact hb.1, hb.2.1, hb.2.2⟩
      · cases hr1
    · exact good_convert T h ho hx hr1
theorem good_mapUpdate (T : TiOk P C.ti) (h : Rel X ρ st a w) (hg : Held a g) {t : TypeId} {m i x : Operand} (ho : o.op = .mapUpdate t m i x)
    (hr : ((opd g m).bind fun v => (opd g i).bind fun j => (opd g x).bind fun y => updateOf C t v j y).run st K = some r) : Good P o a w X ρ st K r := by
  rw [M.run_bind] at hr
  obtain ⟨v, hr1, hv⟩ := opd_sound h hg hr
  clear hr
  rw [M.run_bind] at hr1
  obtain ⟨jv, hr, hj⟩ := opd_sound h hg hr1
  clear hr1
  rw [M.run_bind] at hr
  obtain ⟨yv, hr1, hy⟩ := opd_sound h hg hr
  clear hr
  unfold updateOf at hr1
  obtain ⟨hr, kt, et, q, hu, hk, hq, hz⟩ := mapTI_run T hr1
  clear hr1
  split at hr
  · rename_i n k
    replace hr : (updE n k (st.ent n)).run st K = some r := hr
    unfold updE at hr
    split at hr
    · rename_i z e l he
      cases hm : isMap e with
      | false => rw [hm] at hr; cases hr
      | true =>
        rw [hm] at hr
        obtain ⟨gb, es, clk, hx, hρ, hgb, hks, rfl⟩ := map_row h he hm hv
        have hj : a.eval i = .int .i64 k := hj
        have hy : a.eval x = .bool true := hy
        have hown : owns (ρ n) gb := by rw [hρ]; rfl
        have hgl := (Array.getElem?_eq_some_iff.1 hgb).1
        have fin : ∀ es' clk', (Instr.mapUpdate t (a.eval m) (a.eval i) (a.eval x)).run P w = .ok () { w with heap := w.heap.setIfInBounds gb (.map es' clk') } → KeysOk es'.toList (addK k l) → Good P o a w X ρ st K r := by
          intro es' clk' hrun hks'
          refine good_skip ?_ hr rfl (h.writeObj (ob := .map es' clk') hown _ ?_) (ext_obj h hown) rfl
          · unfold execOp
            rw [ho]
            simp [hrun]
          · rw [hρ]
            refine ⟨_, rfl, RowM.ok ⟨gb, es', clk', rfl, rfl, ?_, hks'⟩ hm⟩
            show (w.heap.setIfInBounds gb (.map es' clk'))[gb]? = _
            rw [Array.getElem?_setIfInBounds, if_pos rfl, if_pos hgl]
        rw [hx, hj, hy] at fin
        rcases findNow_keys k 0 hks with ⟨k1, j, k2, k3, k4⟩ | ⟨k1, k2⟩
        · rw [Nat.zero_add] at k4
          obtain ⟨x0, hx0, hxk⟩ := hks.at k j k3
          refine fin (es.modify j fun e => { e with key := .int .i64 k, val := .bool true }) clk ?_ ?_
          · have hx1 : es[j]? = some x0 := by rw [← Array.getElem?_toList]; exact hx0
            simp [Instr.mapUpdate, run_underlying hu, MapKept.run_getObj_map hgb, run_checkK hk, run_findK hk k4, hx1, hxk, run_stays, MapKept.run_setObj_map _ hgb, Result.andThen]
          · have : addK k l = l := by unfold addK; rw [k1]; rfl
            rw [this, Array.toList_modify]
            exact hks.set k j k3
        · refine fin (es.push ⟨.int .i64 k, .bool true, clk⟩) (clk + 1) ?_ ?_
          · simp [Instr.mapUpdate, run_underlying hu, MapKept.run_getObj_map hgb, run_checkK hk, run_findK hk k2, MapKept.run_setObj_map _ hgb, Result.andThen]
          · have : addK k l = l ++ [k] := by unfold addK; rw [k1]; rfl
            rw [this, Array.toList_push]
            exact hks.push k clk
    · cases hr
  · cases hr
/-! ### tails of rows -/
theorem rowWrite (h : Rel X ρ st a w) {n : Nat} {e : TypeId} {t : Ty} {l m : List t.T} {gb i cap : Nat} {cs : Array Value} {fr : Nat × Nat} {vs : List Value}
    (hm : isMap e = false) (hn : ρ n = some (.row (.slice (some ⟨gb, 0, none⟩) l.length cap))) (hh : w.heap[gb]? = some (.cells cs e fr)) (hun : Unfr fr cs.size) (hfz : fr = (0, 0) ∧ cap ≤ maxLen) (hlc : l.length ≤ cap) (hcs : cs.size = cap * t.sz)
    (hrow : ∀ (j : Nat) (x : t.T), l[j]? = some x → Rep w (Fix X ρ w) t x ((cs.toList.drop (j * t.sz)).take t.sz))
    (hvl : vs.length = m.length * t.sz) (hvs : ∀ (j : Nat) (x : t.T), m[j]? = some x → Rep w (Fix X ρ w) t x ((vs.drop (j * t.sz)).take t.sz)) (hil : i + m.length ≤ l.length) :
    Rel X ρ (st.setB n (.arr false e t (overL l i m))) a (w.setCells gb (i * t.sz) vs) ∧ Ext ρ w ρ (w.setCells gb (i * t.sz) vs) := by
  have hown : owns (ρ n) gb := by rw [hn]; rfl
  have hle : i * t.sz + vs.length ≤ cs.size := by
    rw [hvl, hcs, ← Nat.add_mul]
    exact Nat.mul_le_mul_right _ (by omega)
  have hblk := setCells_blk gb vs (i * t.sz) cs w hh hle
  have x1 := ext_set (p := i * t.sz) (vs := vs) h hown
  have hle3 : i * t.sz + vs.length ≤ cs.toList.length := by rw [Array.length_toList]; exact hle
  have hlen2 : (overL cs.toList (i * t.sz) vs).toArray.size = cs.size := by
    rw [List.size_toArray, overL_length _ _ _ hle3, Array.length_toList]
  have hll : (overL l i m).length = l.length := overL_length _ _ _ hil
  refine ⟨h.write hown _ ?_, x1⟩
  rw [hn]
  refine ⟨_, rfl, RowS.ok (.inr ⟨gb, cap, _, fr, by rw [hll], hblk, by rw [hlen2]; exact hun, fun _ => hfz, by rw [hll]; exact hlc, by rw [hlen2]; exact hcs, ?_⟩) hm⟩
  intro j q hj
  rw [get_overL _ _ _ hil] at hj
  rw [List.toList_toArray]
  have far : ∀ b, (∀ k, k < t.sz → j * t.sz + k < i * t.sz ∨ i * t.sz + vs.length ≤ j * t.sz + k) → l[j]? = some b → Rep (w.setCells gb (i * t.sz) vs) (Fix X ρ (w.setCells gb (i * t.sz) vs)) t b (((overL cs.toList (i * t.sz) vs).drop (j * t.sz)).take t.sz) := by
    intro b hk hb
    have heq : ((overL cs.toList (i * t.sz) vs).drop (j * t.sz)).take t.sz = (cs.toList.drop (j * t.sz)).take t.sz := by
      apply List.ext_getElem?
      intro k
      rw [row_get, row_get, get_overL _ _ _ hle3]
      by_cases hk2 : k < t.sz
      · rw [if_pos hk2, if_pos hk2]
        rcases hk k hk2 with h1 | h1
        · rw [if_pos h1]
        · rw [if_neg (by omega), if_neg (by omega)]
      · rw [if_neg hk2, if_neg hk2]
    rw [heq]
    exact (hrow j b hb).ext x1
  by_cases h1 : j < i
  · rw [if_pos h1] at hj
    refine far q (fun k hk => .inl ?_) hj
    have : (j + 1) * t.sz ≤ i * t.sz := Nat.mul_le_mul_right _ h1
    rw [Nat.add_mul, Nat.one_mul] at this
    omega
  · rw [if_neg h1] at hj
    by_cases h2 : j < i + m.length
    · rw [if_pos h2] at hj
      have hij : j * t.sz = i * t.sz + (j - i) * t.sz := by rw [← Nat.add_mul]; congr 1; omega
      have hjm : (j - i + 1) * t.sz ≤ m.length * t.sz := Nat.mul_le_mul_right _ (by omega)
      rw [Nat.add_mul, Nat.one_mul] at hjm
      have heq : ((overL cs.toList (i * t.sz) vs).drop (j * t.sz)).take t.sz = (vs.drop ((j - i) * t.sz)).take t.sz := by
        apply List.ext_getElem?
        intro k
        rw [row_get, row_get, get_overL _ _ _ hle3]
        by_cases hk2 : k < t.sz
        · rw [if_pos hk2, if_pos hk2, if_neg (by omega), if_pos (by omega)]
          congr 1
          omega
        · rw [if_neg hk2, if_neg hk2]
      rw [heq]
      exact (hvs (j - i) q hj).ext x1
    · rw [if_neg h2] at hj
      refine far q (fun k hk => .inr ?_) hj
      have : (i + m.length) * t.sz ≤ j * t.sz := Nat.mul_le_mul_right _ (by omega)
      rw [Nat.add_mul] at this
      omega
theorem opdO_sound (h : Rel X ρ st a w) (hg : Held a g) {q : Option Operand} {K : Option AV → St → Option R} (hq : (opdO g q).run st K = some r) : ∃ lv, K lv st = some r ∧ (∀ y, lv = some y → ∃ u, q.map a.eval = some u ∧ AvOk X ρ w y u) ∧ (lv = none → q.map a.eval = none) := by
  cases q with
  | none => exact ⟨none, hq, (fun y hy => nomatch hy), fun _ => rfl⟩
  | some p =>
    unfold opdO at hq
    rw [M.run_bind] at hq
    obtain ⟨av, hk, hv⟩ := opd_sound h hg hq
    exact ⟨some av, hk, (fun y hy => by cases hy; exact ⟨_, rfl, hv⟩), fun hn => nomatch hn⟩
theorem good_slice (T : TiOk P C.ti) (h : Rel X ρ st a w) (hg : Held a g) {t : TypeId} {x : Operand} {lo hi : Option Operand} (ho : o.op = .slice t x lo hi none)
    (hr : ((opd g x).bind fun v => (opdO g lo).bind fun l => (opdO g hi).bind fun u => sliceT C t v l u).run st K = some r) : Good P o a w X ρ st K r := by
  rw [M.run_bind] at hr
  obtain ⟨xv, hr1, hx⟩ := opd_sound h hg hr
  clear hr
  rw [M.run_bind] at hr1
  obtain ⟨lv, hr, hl, hl0⟩ := opdO_sound h hg hr1
  clear hr1
  rw [M.run_bind] at hr
  obtain ⟨hv, hr1, hh, hh0⟩ := opdO_sound h hg hr
  clear hr
  unfold sliceT at hr1
  split at hr1
  · rename_i n v _
    obtain ⟨ti, ei, hti, hei, hk, hr⟩ := rowTI_run hr1
    clear hr1
    obtain ⟨d, hd, _, _, _, hd3, _⟩ := (T _ _ hti).und
    have := hd3 hk
    subst this
    obtain ⟨lu, hlu, hlv⟩ := hl _ rfl
    rw [M.run_bind] at hr
    obtain ⟨kk, i, rfl, hr1⟩ := asInt_run hlv hr
    clear hr
    replace hr1 : (tailE n i ei (st.ent n)).run st K = some r := hr1
    unfold tailE at hr1
    split at hr1
    · rename_i e rt l he
      cases hc : (!(isMap e) && Nat.beq rt.sz ei.sz) with
      | false => rw [hc] at hr1; cases hr1
      | true =>
        rw [hc] at hr1
        obtain ⟨c1, c2⟩ := (Bool.and_eq_true _ _).mp hc
        have hm : isMap e = false := by simpa using c1
        have c2 := Nat.eq_of_beq_eq_true c2
        obtain ⟨_, hti2, hr⟩ := opt_run hr1
        unfold tail? at hti2
        split at hti2
        · rename_i hin
          obtain ⟨h1, h2⟩ := hin
          have h0 := h.ents n
          rw [he] at h0
          obtain ⟨u, hu, h0⟩ := h0
          have hx2 := hx.2
          rw [hu] at hx2
          have hx2 : a.eval x = u := hx2
          have hb : ∀ cap, (Instr.sliceBounds true l.length cap (lo.map a.eval) (hi.map a.eval) none).run P w = .ok (i.toNat, l.length, cap) w := by
            intro cap
            rw [hlu, hh0 rfl]
            have := run_sliceBound (P := P) w kk i l.length .sliceB h1 h2
            simp [Instr.sliceBounds, this]
          have fin : ∀ v, (Instr.sliceAt t (a.eval x) (lo.map a.eval) (hi.map a.eval) none).run P w = .ok v w → TlOk (some (.row u)) i rt.sz v → Good P o a w X ρ st K r := fun v k1 k2 =>
            good_same (run_slice_op ho k1) hr (show TlOk (ρ n) i rt.sz v by rw [hu]; exact k2) h
          rw [hx2] at fin
          rcases h0.slice hm with ⟨rfl, rfl⟩ | ⟨gb, cap, cs, fr, rfl, _, _, _, hlc, _⟩
          · obtain rfl : i = 0 := by
              have : (([] : List rt.T).length : Int) = 0 := rfl
              omega
            have hb0 := hb 0
            rw [show ([] : List rt.T).length = 0 from rfl] at hb0
            refine fin (.slice none 0 0) ?_ ⟨by omega, .inl ⟨rfl, rfl, rfl⟩⟩
            simp [Instr.sliceAt, Instr.slice, run_underlying hd, hb0, run_sizeOf (T _ _ hei)]
          · refine fin (.slice (some ⟨gb, if cap = i.toNat then 0 else i.toNat * rt.sz, none⟩) (l.length - i.toNat) (cap - i.toNat)) ?_ ⟨h1, .inr ⟨gb, _, cap, rfl, by omega, hlc, rfl⟩⟩
            simp [Instr.sliceAt, Instr.slice, run_underlying hd, hb cap, run_sizeOf (T _ _ hei)]
            by_cases hci : cap = i.toNat
            · simp [hci]
            · simp [hci, add_none, c2]
        · cases hti2
    · cases hr1
  · exact slice_sound T h ho hx hl hl0 hh hh0 hr1
theorem Rel.reEnt (h : Rel X ρ st a w) (n : Nat) {e : Ent} (he : EntOk X ρ w e (ρ n)) : Rel X ρ (st.setB n e) a w := by
  refine ⟨h.defers, h.size, h.sep, h.lt, ?_, h.tmps, h.gs, h.fresh, h.xlt, h.gl⟩
  intro i
  rw [ent_setB]
  split
  · rename_i hi; subst hi; exact he
  · exact h.ents i
theorem size_zeros (zs : Array Value) (n : Nat) : (Builtin.zeroCells zs n).toList.length = n * zs.size := by simp [Builtin.zeroCells]
theorem zero_row (zs : Array Value) (n j : Nat) (hj : j < n) : ((Builtin.zeroCells zs n).toList.drop (j * zs.size)).take zs.size = zs.toList := by
  apply List.ext_getElem?
  intro k
  rw [row_get]
  by_cases hk : k < zs.size
  · rw [if_pos hk]
    have hlt : j * zs.size + k < n * zs.size := by
      have : (j + 1) * zs.size ≤ n * zs.size := Nat.mul_le_mul_right _ hj
      rw [Nat.add_mul, Nat.one_mul] at this
      omega
    have hmod : (j * zs.size + k) % zs.size = k := by rw [Nat.add_comm, Nat.add_mul_mod_self_right, Nat.mod_eq_of_lt hk]
    simp [Builtin.zeroCells, hlt, hmod, hk]
  · rw [if_neg hk, List.getElem?_eq_none (by simpa using hk)]
theorem cells_le {gb i n : Nat} {cs : Array Value} {e : TypeId} {fr : Nat × Nat} (hh : w.heap[gb]? = some (.cells cs e fr)) (hun : Unfr fr cs.size) (hle : i + n ≤ cs.size) {vs : List Value} (hv : vs.length = n) (h1 : ∀ u ∈ vs, u.oneCell' = true) :
    (storeCells ⟨gb, i, none⟩ vs).run P w = .ok () (w.setCells gb i vs) := by
  have hst := run_storeCells_cells (P := P) gb i vs 0 w (fun j hj => by
      rw [cell_of_row w gb _ cs e fr hh]
      have : i + j < cs.size := by omega
      simp [this]) (fun j hj => by
      have hj' : i + j < cs.size := by omega
      simp only [World.frozen?, hh, Nat.add_zero]
      rcases hun with rfl | hu
      · simp
      · have : ¬ (fr.1 ≤ i + j) := by omega
        simp [this]) h1
  simpa using hst
theorem drop_over {α : Type} (l : List α) (i : Nat) (m : List α) (h : l.length ≤ i + m.length) : overL l i m = l.take i ++ m := by
  unfold overL
  rw [List.drop_eq_nil_of_le h, List.append_nil]
theorem good_clear (T : TiOk P C.ti) (h : Rel X ρ st a w) (hg : Held a g) {c : Call} {x : Operand} (ho : o.op = .call c) (hc : c.callee = .builtin .clear) (ha : c.args.toList = [x])
    (hr : ((opd g x).bind fun v => arg0 c fun t => clearOf C t v).run st K = some r) : Good P o a w X ρ st K r := by
  rw [M.run_bind] at hr
  obtain ⟨v, hr1, hv⟩ := opd_sound h hg hr
  clear hr
  obtain ⟨t, hn, hr⟩ := arg0_run hr1
  clear hr1
  unfold clearOf at hr
  obtain ⟨ti, ei, hti, hei, hk, hr1⟩ := rowTI_run hr
  clear hr
  obtain ⟨d, hd, _, _, _, hd3, _⟩ := (T _ _ hti).und
  have := hd3 hk
  subst this
  obtain ⟨consts, hb⟩ := run_builtin (P := P) (w := w) (a := a) ho hc
  have hrun : ∀ w', (Builtin.clear_ c.argTypes o.type #[a.eval x]).run P w = .ok (.tuple #[]) w' → (execOp a.eval o).run P w = .ok (.value (.tuple #[])) w' := by
    intro w' h1
    rw [hb, toList_one ha]
    simp [Go.builtin, h1]
  split at hr1
  · rename_i n i z
    replace hr1 : (clearE n i z ei (st.ent n)).run st K = some r := hr1
    unfold clearE at hr1
    split at hr1
    · rename_i e rt l he
      cases hcc : (!(isMap e) && (Nat.beq rt.sz z && Nat.beq ei.sz z)) with
      | false => rw [hcc] at hr1; cases hr1
      | true =>
        rw [hcc] at hr1
        obtain ⟨c1, c23⟩ := (Bool.and_eq_true _ _).mp hcc
        obtain ⟨c2, c3⟩ := (Bool.and_eq_true _ _).mp c23
        have hm : isMap e = false := by simpa using c1
        have c2 := Nat.eq_of_beq_eq_true c2
        have c3 := Nat.eq_of_beq_eq_true c3
        replace hr1 : (match unlA rt ei.zero with
          | some o => M.setb n (.arr false e rt (l.take i.toNat ++ List.replicate (l.length - i.toNat) o)) (.ret (AV.tup []))
          | none => .fail).run st K = some r := hr1
        split at hr1
        · rename_i z0 hz0
          have hr : K (AV.tup []) (st.setB n (.arr false e rt (l.take i.toNat ++ List.replicate (l.length - i.toNat) z0))) = some r := hr1
          clear hr1
          have h0 := h.ents n
          rw [he] at h0
          obtain ⟨u, hu, h0⟩ := h0
          have hv : TlOk (ρ n) i z (a.eval x) := hv
          rw [hu] at hv
          obtain ⟨q, hq1, hq2, hq3, zv, hz, hz1, hz2⟩ := (T _ _ hei).info
          obtain ⟨hi0, ⟨rfl, rfl, hx⟩ | ⟨gb, m, cap, rfl, him, hmc, hx⟩⟩ := hv
          · rcases h0.slice hm with ⟨_, rfl⟩ | ⟨_, _, _, _, hbad, _⟩
            · refine good_value (hrun w ?_) hr ⟨#[], rfl, trivial⟩ (h.reEnt n ?_) (Ext.refl _ _) rfl
              · rw [hx]
                simp [Builtin.clear_, hn, run_underlying hd]
              · rw [hu]
                exact ⟨_, rfl, RowS.ok (.inl ⟨rfl, rfl⟩) hm⟩
            · cases hbad
          · rcases h0.slice hm with ⟨hbad, _⟩ | ⟨gb', cap', cs, fr, hs, hh, hun, hfz, hlc, hcs, hrow⟩
            · cases hbad
            · cases hs
              have hrep := unlA_ok hz0 (hz2 X ρ w)
              have hover := drop_over l i.toNat (List.replicate (l.length - i.toNat) z0) (by rw [List.length_replicate]; omega)
              have hvl : (Builtin.zeroCells zv.cells (l.length - i.toNat)).toList.length = (List.replicate (l.length - i.toNat) z0).length * rt.sz := by
                rw [size_zeros, List.length_replicate, hz1, c2, c3]
              obtain ⟨g1, g2⟩ := rowWrite h hm hu hh hun (hfz rfl) hlc hcs hrow (i := i.toNat) (m := List.replicate (l.length - i.toNat) z0) (vs := (Builtin.zeroCells zv.cells (l.length - i.toNat)).toList) hvl (fun j y hj => by
                have hjn : j < l.length - i.toNat := by
                  have := (List.getElem?_eq_some_iff.1 hj).1
                  simpa using this
                have hy : z0 = y := by
                  rw [List.getElem?_replicate, if_pos hjn] at hj
                  cases hj
                  rfl
                subst hy
                rw [show rt.sz = zv.cells.size by rw [hz1, c2, c3], zero_row _ _ _ hjn]
                exact hrep) (by rw [List.length_replicate]; omega)
              rw [hover] at g1
              refine good_value (hrun _ ?_) hr ⟨#[], rfl, trivial⟩ g1 g2 rfl
              rw [hx]
              by_cases hzero : l.length - i.toNat = 0
              · rw [hzero]
                have hnil : (Builtin.zeroCells zv.cells 0).toList = [] := List.eq_nil_of_length_eq_zero (by rw [size_zeros, Nat.zero_mul])
                rw [hnil]
                simp [Builtin.clear_, hn, run_underlying hd, World.setCells]
              · have hci : cap ≠ i.toNat := by omega
                rw [if_neg hci]
                have hzero' : (zeroValue ti.elem).run P w = .ok zv w := by simp [zeroValue, typeInfo, hq1, hz]
                have hone : ∀ u ∈ (Builtin.zeroCells zv.cells (l.length - i.toNat)).toList, u.oneCell' = true := by
                  intro u hu2
                  have hz2' := (hz2 X ρ w).one
                  obtain ⟨k, hk, rfl⟩ := List.getElem_of_mem hu2
                  have hlen := size_zeros zv.cells (l.length - i.toNat)
                  have hpos : 0 < zv.cells.size := by
                    rcases Nat.eq_zero_or_pos zv.cells.size with e0 | e0
                    · rw [hlen, e0, Nat.mul_zero] at hk; omega
                    · exact e0
                  have hmod : k % zv.cells.size < zv.cells.size := Nat.mod_lt _ hpos
                  have : (Builtin.zeroCells zv.cells (l.length - i.toNat)).toList[k] = zv.cells[k % zv.cells.size] := by simp [Builtin.zeroCells, hmod]
                  rw [this]
                  exact hz2' _ (by simp)
                have hst := cells_le (P := P) hh hun (i := i.toNat * z) (n := (l.length - i.toNat) * z) (by
                  rw [hcs, ← Nat.add_mul, c2]
                  exact Nat.mul_le_mul_right _ (by omega)) (by rw [size_zeros, hz1, c3]) hone
                obtain ⟨p, hp⟩ : ∃ p, l.length - i.toNat = p + 1 := ⟨l.length - i.toNat - 1, by omega⟩
                rw [c2]
                rw [hp] at hst ⊢
                simp [Builtin.clear_, hn, run_underlying hd, hzero', hst]
        · cases hr1
    · cases hr1
  · cases hr1
theorem copyL_over {α : Type} (l : List α) (i : Nat) (m : List α) (h : i ≤ l.length) : copyL l i m = overL l i (m.take (l.length - i)) := by
  unfold copyL overL
  rw [List.length_take]
  rcases Nat.le_total m.length (l.length - i) with h1 | h1
  · rw [Nat.min_eq_right h1]
  · rw [Nat.min_eq_left h1, List.drop_eq_nil_of_le (by omega), List.drop_eq_nil_of_le (by omega)]
theorem good_copy (T : TiOk P C.ti) (h : Rel X ρ st a w) (hg : Held a g) {c : Call} {x y : Operand} (ho : o.op = .call c) (hc : c.callee = .builtin .copy) (ha : c.args.toList = [x, y])
    (hr : ((opd g x).bind fun v => (opd g y).bind fun u => arg0 c fun t => copyOf C t v u).run st K = some r) : Good P o a w X ρ st K r := by
  rw [M.run_bind] at hr
  obtain ⟨v, hr1, hv⟩ := opd_sound h hg hr
  clear hr
  rw [M.run_bind] at hr1
  obtain ⟨yv, hr, hy⟩ := opd_sound h hg hr1
  clear hr1
  obtain ⟨t, hn, hr1⟩ := arg0_run hr
  clear hr
  unfold copyOf at hr1
  obtain ⟨ti, ei, hti, hei, hk, hr⟩ := rowTI_run hr1
  clear hr1
  obtain ⟨d, hd, _, _, _, hd3, _⟩ := (T _ _ hti).und
  have := hd3 hk
  subst this
  obtain ⟨consts, hb⟩ := run_builtin (P := P) (w := w) (a := a) ho hc
  have hrun : ∀ w' v, (Builtin.copy_ c.argTypes o.type #[a.eval x, a.eval y]).run P w = .ok v w' → (execOp a.eval o).run P w = .ok (.value v) w' := by
    intro w' v h1
    rw [hb, toList_two ha]
    simp [Go.builtin, h1]
  have key : ∀ (n : Nat) (i : Int) (z : Nat) (q : Σ r : Ty, List r.T), AvOk X ρ w (.tl n i z) (a.eval x) → Reads w (Fix X ρ w) (a.eval y) q.1 q.2 → (copyE n i z ei q (st.ent n)).run st K = some r → Good P o a w X ρ st K r := by
    intro n i z q hv hsrc hr1
    unfold copyE at hr1
    split at hr1
    · rename_i e rt l he
      cases hcc : (!(isMap e) && (Nat.beq rt.sz z && Nat.beq ei.sz z)) with
      | false => rw [hcc] at hr1; cases hr1
      | true =>
        rw [hcc] at hr1
        obtain ⟨c1, c23⟩ := (Bool.and_eq_true _ _).mp hcc
        obtain ⟨c2, c3⟩ := (Bool.and_eq_true _ _).mp c23
        have hm : isMap e = false := by simpa using c1
        have c2 := Nat.eq_of_beq_eq_true c2
        have c3 := Nat.eq_of_beq_eq_true c3
        replace hr1 : (match Ty.same q.1 rt with
          | some h => M.setb n (.arr false e rt (copyL l i.toNat (h.down ▸ q.2))) (.ret AV.unk)
          | none => .fail).run st K = some r := hr1
        split at hr1
        · rename_i hsame _
          obtain ⟨qt, m⟩ := q
          have hqt : qt = rt := hsame.down
          subst hqt
          have hr : K AV.unk (st.setB n (.arr false e qt (copyL l i.toNat m))) = some r := hr1
          clear hr1
          have h0 := h.ents n
          rw [he] at h0
          obtain ⟨u, hu, h0⟩ := h0
          have hv : TlOk (ρ n) i z (a.eval x) := hv
          rw [hu] at hv
          obtain ⟨A, sc, hsv, hsrc⟩ := hsrc
          replace hsv : a.eval y = .slice A m.length sc := hsv
          have hl0 : ∀ (q : Addr), (loadCells q 0).run P w = .ok #[] w := fun q => by simpa using run_loadCells_list (P := P) w q [] (by simp)
          obtain ⟨hi0, ⟨rfl, rfl, hx⟩ | ⟨gb, p, cap, rfl, him, hmc, hx⟩⟩ := hv
          · rcases h0.slice hm with ⟨_, rfl⟩ | ⟨_, _, _, _, hbad, _⟩
            · have hcl : copyL ([] : List qt.T) (0 : Int).toNat m = [] := by simp [copyL]
              rw [hcl] at hr
              refine good_value (v := goInt 0) (hrun w _ ?_) hr trivial (h.reEnt n ?_) (Ext.refl _ _) rfl
              · rw [hx, hsv]
                cases A <;> simp [Builtin.copy_, hn, run_underlying hd, run_sizeOf (T _ _ hei), Builtin.lenOf, Builtin.firstCells, hl0]
              · rw [hu]
                exact ⟨_, rfl, RowS.ok (.inl ⟨rfl, rfl⟩) hm⟩
            · cases hbad
          · rcases h0.slice hm with ⟨hbad, _⟩ | ⟨gb', cap', cs, fr, hs, hh, hun, hfz, hlc, hcs, hrow⟩
            · cases hbad
            · cases hs
              rw [copyL_over l i.toNat m him] at hr
              have hnl : (m.take (l.length - i.toNat)).length = Nat.min m.length (l.length - i.toNat) := by rw [List.length_take, Nat.min_comm]
              -- the cells that are read
              obtain ⟨vs, v1, v2, v3, v4⟩ : ∃ vs : List Value, vs.length = (m.take (l.length - i.toNat)).length * qt.sz ∧ (∀ u ∈ vs, u.oneCell' = true) ∧ (∀ (j : Nat) (x : qt.T), (m.take (l.length - i.toNat))[j]? = some x → Rep w (Fix X ρ w) qt x ((vs.drop (j * qt.sz)).take qt.sz)) ∧
                  (Builtin.firstCells z (Nat.min m.length (l.length - i.toNat)) (.slice A m.length sc)).run P w = .ok vs.toArray w := by
                rcases hsrc with hnil | ⟨gs, os, rfl, hgs, hcells⟩
                · replace hnil : m = [] := hnil
                  subst hnil
                  refine ⟨[], by simp, (fun u hu => by cases hu), (fun j x hj => by simp at hj), ?_⟩
                  cases A <;> simp [Builtin.firstCells, hl0]
                · have hcells2 : ∀ (j : Nat) (x : qt.T), (m.take (l.length - i.toNat))[j]? = some x → ∃ c, CellsAt w gs (os + j * qt.sz) c ∧ Rep w (Fix X ρ w) qt x c := fun j x hj => by
                    rw [List.getElem?_take] at hj
                    split at hj
                    · exact hcells j x hj
                    · cases hj
                  obtain ⟨vs, v1, v2, v3, v4⟩ := reads_cells hcells2
                  refine ⟨vs, v1, v3, v4, ?_⟩
                  have hld := run_loadCells_list (P := P) w ⟨gs, os, none⟩ vs (fun j v hv => by rw [add_none]; exact v2 j v hv)
                  rw [v1, hnl, c2] at hld
                  simpa [Builtin.firstCells] using hld
              obtain ⟨g1, g2⟩ := rowWrite h hm hu hh hun (hfz rfl) hlc hcs hrow (i := i.toNat) (m := m.take (l.length - i.toNat)) (vs := vs) v1 v3 (by rw [List.length_take]; omega)
              refine good_value (v := goInt (Nat.min m.length (l.length - i.toNat))) (hrun _ _ ?_) hr trivial g1 g2 rfl
              rw [hx, hsv]
              have hst : (storeCells ⟨gb, if cap = i.toNat then 0 else i.toNat * z, none⟩ vs).run P w = .ok () (w.setCells gb (i.toNat * qt.sz) vs) := by
                by_cases hci : cap = i.toNat
                · have : vs = [] := List.eq_nil_of_length_eq_zero (by rw [v1, List.length_take, show l.length - i.toNat = 0 by omega, Nat.zero_min, Nat.zero_mul])
                  subst this
                  rfl
                · rw [if_neg hci, ← c2]
                  exact cells_le (P := P) hh hun (n := vs.length) (by
                    rw [hcs, v1, ← Nat.add_mul]
                    exact Nat.mul_le_mul_right _ (by rw [List.length_take]; omega)) rfl v2
              simp [Builtin.copy_, hn, run_underlying hd, run_sizeOf (T _ _ hei), Builtin.lenOf, c3, v4, hst]
        · cases hr1
    · cases hr1
  split at hr
  · rename_i n i z rt l
    exact key n i z ⟨rt, l⟩ hv (rep_reads hy) hr
  · rename_i n i z rt l
    cases hf : flat rt with
    | false => rw [hf] at hr; cases hr
    | true =>
      rw [hf] at hr
      exact key n i z ⟨rt, l⟩ hv (Reads.flat hf (brw_reads hy)) hr
  · cases hr
end
end Go.Proofs.YtaajcllchbnjiaaDoorE

namespace Go.Proofs.YtaajcllchbnjiaaDoorE
open Go Go.RowKit
set_option linter.unusedVariables false

/-! ### contracts -/
/-- F: where data lies that may be kept; B: where data lies that may be read. -/
def DLeaf (w : World) (F B : Nat → Prop) : Leaf → Value → Prop
  | .int k n, v => v = .int k n
  | .bool b, v => v = .bool b
  | .kb b, v => v = .bool b
  | .str s, v => v = .string (ba s)
  | .nil, v => v = .slice none 0 0
  | .list r l, v => Rep w F (.sl r) l [v]
  | .bor r l, v => Rep w B (.sl r) l [v]
  | _, _ => False
def DLeaves (w : World) (F B : Nat → Prop) : List Leaf → List Value → Prop
  | [], [] => True
  | x :: xs, v :: vs => DLeaf w F B x v ∧ DLeaves w F B xs vs
  | _, _ => False
/-- What is lent: a variable's block; a row; nil in a row's place. -/
inductive GI where
  | blk (g : Nat)
  | row (v : Value)
  | no
def GI.blocks : List GI → List Nat
  | [] => []
  | .blk g :: L => g :: GI.blocks L
  | .row v :: L => (ownB v).toList ++ GI.blocks L
  | .no :: L => GI.blocks L
/-- The leaves of a value: rows are lent. -/
def VLs (w : World) (F B : Nat → Prop) : List CL → List Value → List GI → Prop
  | [], [], L => L = []
  | .leaf x :: xs, v :: vs, L => DLeaf w F B x v ∧ VLs w F B xs vs L
  | .row e r l :: xs, v :: vs, .row u :: L => u = v ∧ RowOk w F false e r v l ∧ VLs w F B xs vs L
  | .nil :: xs, v :: vs, .no :: L => v = .slice none 0 0 ∧ VLs w F B xs vs L
  | _, _, _ => False
/-- The leaves of a variable: rows go along. -/
def MLs (w : World) (F B : Nat → Prop) : List CL → List Value → List Value → Prop
  | [], [], M => M = []
  | .leaf x :: xs, v :: vs, M => DLeaf w F B x v ∧ MLs w F B xs vs M
  | .row e r l :: xs, v :: vs, u :: M => u = v ∧ RowOk w F false e r v l ∧ MLs w F B xs vs M
  | .nil :: xs, v :: vs, M => v = .slice none 0 0 ∧ MLs w F B xs vs M
  | _, _, _ => False
def BoxOk (w : World) (F B : Nat → Prop) (t : TypeId) (xs : List CL) (v : Value) (L : List GI) (M : List Value) : Prop :=
  ∃ g cs fr, L = [.blk g] ∧ v = .pointer (some ⟨g, 0, none⟩) ∧ w.heap[g]? = some (.cells cs t fr) ∧ Unfr fr cs.size ∧ MLs w F B xs cs.toList M
/-- A variable that is lent for reading. -/
def RpOk (w : World) (F B : Nat → Prop) (xs : List CL) (v : Value) (L : List GI) (M : List Value) : Prop :=
  L = [] ∧ M = [] ∧ ∃ g o cs, v = .pointer (some ⟨g, o, none⟩) ∧ B g ∧ CellsAt w g o cs ∧ VLs w F B xs cs []
def CapOk (w : World) (F B : Nat → Prop) (c : TypeId × List CL) (v : Value) (L : List GI) (M : List Value) : Prop :=
  if c.1 = roT then RpOk w F B c.2 v L M else BoxOk w F B c.1 c.2 v L M
def CapsOk (w : World) (F B : Nat → Prop) : List (TypeId × List CL) → List Value → List GI → List Value → Prop
  | [], [], L, M => L = [] ∧ M = []
  | c :: cs, v :: vs, L, M => ∃ L1 L2 M1 M2, L = L1 ++ L2 ∧ M = M1 ++ M2 ∧ CapOk w F B c v L1 M1 ∧ CapsOk w F B cs vs L2 M2
  | _, _, _, _ => False
def CArgOk (w : World) (F B : Nat → Prop) : CArg → Value → List GI → List Value → Prop
  | .val false xs, v, L, M => M = [] ∧ VLs w F B xs [v] L
  | .val true xs, v, L, M => M = [] ∧ ∃ cs, v = .agg cs ∧ VLs w F B xs cs.toList L
  | .rptr xs, v, L, M => L = [] ∧ M = [] ∧ ∃ g o cs, v = .pointer (some ⟨g, o, none⟩) ∧ B g ∧ CellsAt w g o cs ∧ DLeaves w F B xs cs
  | .ref t xs, v, L, M => BoxOk w F B t xs v L M
  | .fn f caps, v, L, M => ∃ cs, v = .func (.func f) #[] cs ∧ CapsOk w F B caps cs.toList L M
  | .mv e r l, v, L, M => L = [] ∧ M = [v] ∧ RowOk w F false e r v l
def CArgsOk (w : World) (F B : Nat → Prop) : List CArg → List Value → List GI → List Value → Prop
  | [], [], L, M => L = [] ∧ M = []
  | a :: asx, v :: vs, L, M => ∃ L1 L2 M1 M2, L = L1 ++ L2 ∧ M = M1 ++ M2 ∧ CArgOk w F B a v L1 M1 ∧ CArgsOk w F B asx vs L2 M2
  | _, _, _, _ => False
def cb : Conc → Option Nat
  | .blk g => some g
  | .row v => (ownB v)
  | _ => none
/-- Leaves of an answer; the rows (and variables) that the call hands on as its own. -/
def RLsOk (w : World) (F : Nat → Prop) : List RL → List Value → List Conc → Prop
  | [], [], O => O = []
  | .leaf x :: xs, v :: vs, O => DLeaf w F (fun _ => False) x v ∧ RLsOk w F xs vs O
  | .own e r l :: xs, v :: vs, c :: O => c = .row v ∧ RowOk w F false e r v l ∧ RLsOk w F xs vs O
  | _, _, _ => False
def RComp (w : World) (F : Nat → Prop) : RC → Value → List Conc → Prop
  | .val true xs, v, O => ∃ cs, v = .agg cs ∧ RLsOk w F xs cs.toList O
  | .val false xs, v, O => RLsOk w F xs [v] O
  | .box t xs, v, O => ∃ g cs fr O1, O = O1 ++ [.blk g] ∧ v = .pointer (some ⟨g, 0, none⟩) ∧ w.heap[g]? = some (.cells cs t fr) ∧ Unfr fr cs.size ∧ RLsOk w F xs cs.toList O1
def RComps (w : World) (F : Nat → Prop) : List RC → List Value → List Conc → Prop
  | [], [], O => O = []
  | p :: ps, v :: vs, O => ∃ O1 O2, O = O1 ++ O2 ∧ RComp w F p v O1 ∧ RComps w F ps vs O2
  | _, _, _ => False
def RRefs (w : World) (F : Nat → Prop) : List GI → List RF → List Conc → Prop
  | [], [], O => O = []
  | .blk g :: L, .box t xs :: rs, O => ∃ O1 O2 cs fr, O = O1 ++ O2 ∧ w.heap[g]? = some (.cells cs t fr) ∧ Unfr fr cs.size ∧ RLsOk w F xs cs.toList O1 ∧ RRefs w F L rs O2
  | .row v :: L, .row e r l :: rs, O => RowOk w F false e r v l ∧ RRefs w F L rs O
  | .no :: L, .row _ _ _ :: rs, O => RRefs w F L rs O
  | _, _, _ => False
def retOk (w : World) (F : Nat → Prop) (rs : List RC) (v : Value) (O : List Conc) : Prop :=
  match rs with
  | [p] => RComp w F p v O
  | rs => ∃ vs, v = .tuple vs ∧ RComps w F rs vs.toList O
def Keeps (G : List Nat) (w w' : World) : Prop := w'.os = w.os ∧ w'.tape = w.tape ∧ w'.output = w.output ∧ w.heap.size ≤ w'.heap.size ∧ ∀ b, b < w.heap.size → b ∉ G → w'.heap[b]? = w.heap[b]?
/-- Where an answer's data may lie. -/
def Out (F : Nat → Prop) (M : List Nat) (w w' : World) (O : List Conc) (b : Nat) : Prop := b < w'.heap.size ∧ (F b ∨ b ∈ M ∨ w.heap.size ≤ b) ∧ ∀ c ∈ O, cb c ≠ some b
def mBlocks (M : List Value) : List Nat := M.filterMap ownB
def Answer (rr : RR) (F : Nat → Prop) (L : List GI) (M : List Value) (w : World) (v : Value) (w' : World) : Prop :=
  Keeps (GI.blocks L ++ mBlocks M) w w' ∧ ∃ O1 O2, (∀ c ∈ O1 ++ O2, ∀ b, cb c = some b → (b ∈ mBlocks M ∨ w.heap.size ≤ b) ∧ b < w'.heap.size) ∧ ((O1 ++ O2).filterMap cb).Nodup ∧
    RRefs w' (Out F (mBlocks M) w w' (O1 ++ O2)) L rr.refs O1 ∧ retOk w' (Out F (mBlocks M) w w' (O1 ++ O2)) rr.res v O2
def Bor (w : World) (G : List Nat) (b : Nat) : Prop := b < w.heap.size ∧ b ∉ G
def ConOk (P : Program) (f : FuncId) (c : Con) : Prop :=
  (∀ args w, (callFunc f args).run P w = .ok (.enter f args) w) ∧
  ∀ (asx : List CArg) (rr : RR), (c.f asx).val = some rr → ∀ (w : World) (vs : List Value) (F : Nat → Prop) (L : List GI) (M : List Value), (∀ b, F b → Bor w (GI.blocks L ++ mBlocks M) b) → (GI.blocks L ++ mBlocks M).Nodup → Glx (GI.blocks L ++ mBlocks M) w →
    CArgsOk w F (Bor w (GI.blocks L ++ mBlocks M)) asx vs L M → Calls P f vs.toArray w fun e w' => ∃ v, e = .returned v ∧ Answer rr F L M w v w'
def ConsOk (P : Program) (con : FuncId → List Con) : Prop := ∀ f, ∀ c ∈ con f, ConOk P f c

section
variable {P : Program} {o : Oper} {X : Nat → Prop} {ρ ρ' : Rho} {st st' : St} {a : Act} {w w' : World} {g : Option (Nat × Bool)} {R : Type} {r : R} {K : AV → St → Option R} {C : Ctx} {F F' B B' : Nat → Prop}

theorem cb_owns {c : Conc} {b : Nat} : cb c = some b ↔ owns (some c) b := by
  cases c with
  | blk g => exact ⟨(fun h => by cases h; rfl), (fun h => by have h : b = g := h; rw [h]; rfl)⟩
  | row v => exact Iff.rfl
  | frz v => exact ⟨(fun h => nomatch h), (fun h => h.elim)⟩
  | dead => exact ⟨(fun h => nomatch h), (fun h => h.elim)⟩
theorem DLeaf.mono (hF : ∀ b, F b → F' b) (hB : ∀ b, B b → B' b) {x : Leaf} {v : Value} (h : DLeaf w F B x v) : DLeaf w F' B' x v := by
  cases x <;> first | exact h | exact Rep.move (fun b hb => ⟨rfl, hF b hb⟩) h | exact Rep.move (fun b hb => ⟨rfl, hB b hb⟩) h
theorem DLeaves.mono (hF : ∀ b, F b → F' b) (hB : ∀ b, B b → B' b) : ∀ {xs : List Leaf} {vs : List Value}, DLeaves w F B xs vs → DLeaves w F' B' xs vs
  | [], [], _ => trivial
  | _ :: _, _ :: _, h => ⟨h.1.mono hF hB, DLeaves.mono hF hB h.2⟩
  | [], _ :: _, h => h.elim
  | _ :: _, [], h => h.elim
theorem RowOk.mono (hF : ∀ b, F b → F' b) {z : Bool} {e : TypeId} {t : Ty} {v : Value} {l : List t.T} (h : RowOk w F z e t v l) : RowOk w F' z e t v l := by
  rcases h.cases with ⟨he, h | ⟨g, cap, cs, fr, h0, h1, h2, h3, h4, h5, h6⟩⟩ | ⟨he, rfl, hM⟩
  · exact RowS.ok (.inl h) he
  · exact RowS.ok (.inr ⟨g, cap, cs, fr, h0, h1, h2, h3, h4, h5, fun j x hj => Rep.move (fun b hf => ⟨rfl, hF b hf⟩) (h6 j x hj)⟩) he
  · exact RowM.ok hM he
theorem VLs.mono (hF : ∀ b, F b → F' b) (hB : ∀ b, B b → B' b) : ∀ {xs : List CL} {vs : List Value} {L : List GI}, VLs w F B xs vs L → VLs w F' B' xs vs L
  | [], [], _, h => h
  | .leaf _ :: _, _ :: _, _, h => ⟨h.1.mono hF hB, VLs.mono hF hB h.2⟩
  | .row _ _ _ :: _, _ :: _, .row _ :: _, h => ⟨h.1, h.2.1.mono hF, VLs.mono hF hB h.2.2⟩
  | .nil :: _, _ :: _, .no :: _, h => ⟨h.1, VLs.mono hF hB h.2⟩
theorem MLs.mono (hF : ∀ b, F b → F' b) (hB : ∀ b, B b → B' b) : ∀ {xs : List CL} {vs : List Value} {M : List Value}, MLs w F B xs vs M → MLs w F' B' xs vs M
  | [], [], _, h => h
  | .leaf _ :: _, _ :: _, _, h => ⟨h.1.mono hF hB, MLs.mono hF hB h.2⟩
  | .row _ _ _ :: _, _ :: _, _ :: _, h => ⟨h.1, h.2.1.mono hF, MLs.mono hF hB h.2.2⟩
  | .nil :: _, _ :: _, _, h => ⟨h.1, MLs.mono hF hB h.2⟩
theorem BoxOk.mono (hF : ∀ b, F b → F' b) (hB : ∀ b, B b → B' b) {t : TypeId} {xs : List CL} {v : Value} {L : List GI} {M : List Value} (h : BoxOk w F B t xs v L M) : BoxOk w F' B' t xs v L M := by
  obtain ⟨g, cs, fr, h1, h2, h3, h4, h5⟩ := h
  exact ⟨g, cs, fr, h1, h2, h3, h4, h5.mono hF hB⟩
theorem CapOk.mono (hF : ∀ b, F b → F' b) (hB : ∀ b, B b → B' b) {c : TypeId × List CL} {v : Value} {L : List GI} {M : List Value} (h : CapOk w F B c v L M) : CapOk w F' B' c v L M := by
  unfold CapOk at h ⊢
  split
  · rename_i hc
    rw [if_pos hc] at h
    obtain ⟨h1, h2, g, o, cs, h3, h4, h5, h6⟩ := h
    exact ⟨h1, h2, g, o, cs, h3, hB g h4, h5, VLs.mono hF hB h6⟩
  · rename_i hc
    rw [if_neg hc] at h
    exact h.mono hF hB
theorem CapsOk.mono (hF : ∀ b, F b → F' b) (hB : ∀ b, B b → B' b) : ∀ {xs : List (TypeId × List CL)} {vs : List Value} {L : List GI} {M : List Value}, CapsOk w F B xs vs L M → CapsOk w F' B' xs vs L M
  | [], [], _, _, h => h
  | _ :: _, _ :: _, _, _, ⟨L1, L2, M1, M2, h1, h2, h3, h4⟩ => ⟨L1, L2, M1, M2, h1, h2, h3.mono hF hB, CapsOk.mono hF hB h4⟩
theorem CArgOk.mono (hF : ∀ b, F b → F' b) (hB : ∀ b, B b → B' b) {x : CArg} {v : Value} {L : List GI} {M : List Value} (h : CArgOk w F B x v L M) : CArgOk w F' B' x v L M := by
  match x, h with
  | .val false xs, h => exact ⟨h.1, h.2.mono hF hB⟩
  | .val true xs, ⟨h1, cs, h2, h3⟩ => exact ⟨h1, cs, h2, h3.mono hF hB⟩
  | .rptr xs, ⟨h1, h2, g, o, cs, h3, h4, h5, h6⟩ => exact ⟨h1, h2, g, o, cs, h3, hB g h4, h5, h6.mono hF hB⟩
  | .ref t xs, h => exact BoxOk.mono hF hB h
  | .fn f caps, ⟨cs, h1, h2⟩ => exact ⟨cs, h1, h2.mono hF hB⟩
  | .mv e r l, ⟨h1, h2, h3⟩ => exact ⟨h1, h2, h3.mono hF⟩
theorem CArgsOk.mono (hF : ∀ b, F b → F' b) (hB : ∀ b, B b → B' b) : ∀ {xs : List CArg} {vs : List Value} {L : List GI} {M : List Value}, CArgsOk w F B xs vs L M → CArgsOk w F' B' xs vs L M
  | [], [], _, _, h => h
  | _ :: _, _ :: _, _, _, ⟨L1, L2, M1, M2, h1, h2, h3, h4⟩ => ⟨L1, L2, M1, M2, h1, h2, h3.mono hF hB, CArgsOk.mono hF hB h4⟩
/-! ### what is handed on -/
/-- Where what is handed on may be read: blocks that this call does not write, and those of some slots. -/
def B0 (ρ : Rho) (w : World) (ns : List Nat) (b : Nat) : Prop := Brw ρ w b ∨ ∃ n ∈ ns, owns (ρ n) b
theorem B0.left {ns ms : List Nat} {b : Nat} (h : B0 ρ w ns b) : B0 ρ w (ns ++ ms) b := h.imp id fun ⟨n, h1, h2⟩ => ⟨n, List.mem_append_left _ h1, h2⟩
theorem B0.right {ns ms : List Nat} {b : Nat} (h : B0 ρ w ms b) : B0 ρ w (ns ++ ms) b := h.imp id fun ⟨n, h1, h2⟩ => ⟨n, List.mem_append_right _ h1, h2⟩
theorem B0.frz (h : Rel X ρ st a w) (e : Ext ρ w ρ' w) (f : Frz ρ st ρ' st') {ns : List Nat} {b : Nat} (hb : B0 ρ w ns b) : B0 ρ' w ns b := by
  rcases hb with hb | ⟨n, h1, h2⟩
  · exact .inl (e.brw b hb).2
  · rcases f.conc n with k | ⟨v, k1, k2⟩
    · exact .inr ⟨n, h1, by rw [k]; exact h2⟩
    · refine .inl ⟨(h.lt n b h2).1, fun i hi => ?_⟩
      rcases f.conc i with q | ⟨u, _, q⟩
      · rw [q] at hi
        obtain rfl := h.sep i n b hi h2
        rw [q, k1] at k2
        cases k2
      · rw [q] at hi; exact hi
def SlOk (ρ : Rho) : List RS → List GI → Prop
  | [], [] => True
  | .box n :: sl, .blk g :: L => ρ n = some (.blk g) ∧ SlOk ρ sl L
  | .row n :: sl, .row v :: L => (ρ n = some (.row v) ∨ ρ n = some (.frz v)) ∧ SlOk ρ sl L
  | .no :: sl, .no :: L => SlOk ρ sl L
  | _, _ => False
theorem SlOk.frz (f : Frz ρ st ρ' st') : ∀ {sl : List RS} {L : List GI}, SlOk ρ sl L → SlOk ρ' sl L
  | [], [], _ => trivial
  | .box n :: _, .blk _ :: _, h => by
    refine ⟨?_, SlOk.frz f h.2⟩
    rcases f.conc n with k | ⟨v, k, _⟩
    · rw [k]; exact h.1
    · rw [h.1] at k; cases k
  | .row n :: _, .row _ :: _, h => by
    refine ⟨?_, SlOk.frz f h.2⟩
    rcases f.conc n with k | ⟨v, k1, k2⟩
    · rw [k]; exact h.1
    · rcases h.1 with h1 | h1
      · rw [h1] at k1; cases k1; exact .inr k2
      · rw [h1] at k1; cases k1
  | .no :: sl, .no :: L, h => SlOk.frz f (sl := sl) (L := L) h
theorem SlOk.append : ∀ {sl tl : List RS} {L N : List GI}, SlOk ρ sl L → SlOk ρ tl N → SlOk ρ (sl ++ tl) (L ++ N)
  | [], _, [], _, _, k => k
  | .box _ :: _, _, .blk _ :: _, _, h, k => ⟨h.1, SlOk.append h.2 k⟩
  | .row _ :: _, _, .row _ :: _, _, h, k => ⟨h.1, SlOk.append h.2 k⟩
  | .no :: sl, _, .no :: L, _, h, k => SlOk.append (sl := sl) (L := L) h k
def MvOk (ρ : Rho) (st : St) : List Nat → List Value → Prop
  | [], [] => True
  | n :: ns, v :: M => ρ n = some (.row v) ∧ st.ent n = .free ∧ MvOk ρ st ns M
  | _, _ => False
theorem MvOk.frz (f : Frz ρ st ρ' st') : ∀ {ns : List Nat} {M : List Value}, MvOk ρ st ns M → MvOk ρ' st' ns M
  | [], [], _ => trivial
  | _ :: _, _ :: _, h => ⟨(f.gone _ h.2.1).2.trans h.1, (f.gone _ h.2.1).1, MvOk.frz f h.2.2⟩
theorem MvOk.append : ∀ {ns ms : List Nat} {M N : List Value}, MvOk ρ st ns M → MvOk ρ st ms N → MvOk ρ st (ns ++ ms) (M ++ N)
  | [], _, [], _, _, k => k
  | _ :: _, _, _ :: _, _, h, k => ⟨h.1, h.2.1, MvOk.append h.2.2 k⟩
end
end Go.Proofs.YtaajcllchbnjiaaDoorE

namespace Go.Proofs.YtaajcllchbnjiaaDoorE
open Go Go.RowKit
set_option linter.unusedVariables false
section
variable {P : Program} {o : Oper} {X : Nat → Prop} {ρ ρ' : Rho} {st st' : St} {a : Act} {w w' : World} {g : Option (Nat × Bool)} {R : Type} {r : R} {C : Ctx} {F F' B B' : Nat → Prop}

theorem dleaf_of {x : Leaf} {v : Value} (h : LeafOk X ρ w x v) (hd : isData x) : DLeaf w (Fix X ρ w) B x v := by
  cases x <;> first | exact h | exact hd.elim
theorem leaf_of_d {x : Leaf} {v : Value} (h : DLeaf w (Fix X ρ w) (fun _ => False) x v) : LeafOk X ρ w x v := by
  cases x <;> first | exact h | exact h.elim | exact Rep.move (fun b hb => hb.elim) h
theorem row_rep {z : Bool} {e : TypeId} {t : Ty} {v : Value} {l : List t.T} (h : RowOk w F z e t v l) (hm : isMap e = false) (hF : ∀ b, F b → F' b) (hv : ∀ b, ownB v = some b → F' b) : Rep w F' (.sl t) l [v] := by
  rcases h.slice hm with ⟨rfl, rfl⟩ | ⟨g, cap, cs, fr, rfl, hg, hu, _, hl, hsz, hx⟩
  · exact ⟨none, 0, rfl, Nat.le_refl _, .inl rfl⟩
  · refine ⟨_, cap, rfl, hl, .inr ⟨g, 0, rfl, hv g rfl, ?_⟩⟩
    intro j y hj
    refine ⟨_, ?_, Rep.move (fun b hb => ⟨rfl, hF b hb⟩) (hx j y hj)⟩
    intro i u hu'
    rw [cell_of_row w g (0 + j * t.sz + i) cs e fr hg]
    rw [List.getElem?_take] at hu'
    split at hu'
    · rw [List.getElem?_drop] at hu'
      rw [Nat.zero_add]
      simpa using hu'
    · cases hu'
/-- A slot is not looked at any more. -/
theorem Rel.hide (h : Rel X ρ st a w) (n : Nat) : Rel X ρ (st.setB n .free) a w := by
  refine ⟨h.defers, h.size, h.sep, h.lt, ?_, h.tmps, h.gs, h.fresh, h.xlt, h.gl⟩
  intro i
  rw [ent_setB]
  split
  · trivial
  · exact h.ents i
theorem VLs.cons {c : CL} {v : Value} {cs : List CL} {vs : List Value} {L1 L2 : List GI} (h : VLs w F B [c] [v] L1) (k : VLs w F B cs vs L2) : VLs w F B (c :: cs) (v :: vs) (L1 ++ L2) := by
  cases c with
  | leaf x =>
    obtain ⟨h1, h2⟩ := h
    obtain rfl : L1 = [] := h2
    exact ⟨h1, k⟩
  | row e t l =>
    match L1, h with
    | .row u :: L1, ⟨h1, h2, h3⟩ =>
      obtain rfl : L1 = [] := h3
      exact ⟨h1, h2, k⟩
  | nil =>
    match L1, h with
    | .no :: L1, ⟨h1, h3⟩ =>
      obtain rfl : L1 = [] := h3
      exact ⟨h1, k⟩
theorem MLs.cons {c : CL} {v : Value} {cs : List CL} {vs : List Value} {M1 M2 : List Value} (h : MLs w F B [c] [v] M1) (k : MLs w F B cs vs M2) : MLs w F B (c :: cs) (v :: vs) (M1 ++ M2) := by
  cases c with
  | leaf x =>
    obtain ⟨h1, h2⟩ := h
    obtain rfl : M1 = [] := h2
    exact ⟨h1, k⟩
  | row e t l =>
    match M1, h with
    | u :: M1, ⟨h1, h2, h3⟩ =>
      obtain rfl : M1 = [] := h3
      exact ⟨h1, h2, k⟩
  | nil =>
    obtain ⟨h1, h2⟩ := h
    obtain rfl : M1 = [] := h2
    exact ⟨h1, k⟩
theorem vArg_sound {K : CL × AI → St → Option R} (h : Rel X ρ st a w) {x : Leaf} {v : Value} (hx : LeafOk X ρ w x v) (hr : (vArg x).run st K = some r) :
    ∃ y ρ' st', K (.leaf y, AI.none) st' = some r ∧ Rel X ρ' st' a w ∧ Ext ρ w ρ' w ∧ st'.n = st.n ∧ Frz ρ st ρ' st' ∧ DLeaf w (Fix X ρ' w) (B0 ρ' w []) y v := by
  unfold vArg at hr
  rw [M.run_bind] at hr
  obtain ⟨y, ρ1, st1, hr1, h1, e1, n1, l1, d1, f1⟩ := pureLeaf_sound h hx hr
  exact ⟨y, ρ1, st1, hr1, h1, e1, n1, f1, dleaf_of l1 d1⟩
theorem roArg_sound {K : CL × AI → St → Option R} (h : Rel X ρ st a w) {x : Leaf} {v : Value} (hx : LeafOk X ρ w x v) (hr : (roArg x).run st K = some r) :
    ∃ y ns, K (.leaf y, ⟨[], ns, []⟩) st = some r ∧ DLeaf w (Fix X ρ w) (B0 ρ w ns) y v := by
  unfold roArg at hr
  split at hr
  · rename_i n
    replace hr : (match st.ent n with
      | .arr _ e r l => bif isMap e then .fail else M.ret (CL.leaf (.bor r l), (⟨[], [n], []⟩ : AI))
      | .frz r l => .ret (.leaf (.list r l), AI.none)
      | _ => .fail : M (CL × AI)).run st K = some r := hr
    have h0 := h.ents n
    have hx := hx.2
    split at hr
    · rename_i z e t l he
      rw [he] at h0
      obtain ⟨u, hu, h0⟩ := h0
      rw [hu] at hx
      obtain rfl : v = u := hx
      cases hm : isMap e with
      | true => rw [hm] at hr; cases hr
      | false =>
      rw [hm] at hr
      refine ⟨_, _, hr, row_rep h0 hm (fun b hb => .inl hb.brw) fun b hb => .inr ⟨n, List.mem_singleton.2 rfl, ?_⟩⟩
      rw [hu]
      exact hb
    · rename_i t l he
      rw [he] at h0
      obtain ⟨u, hu, h0⟩ := h0
      rw [hu] at hx
      obtain rfl : v = u := hx
      exact ⟨_, _, hr, h0⟩
    · cases hr
  · cases hr
  · cases hr
  · cases hr
  · rename_i h1 h2 h3 h4
    refine ⟨x, [], hr, ?_⟩
    cases x <;> first | exact (h4 _ _ rfl).elim | exact hx | exact (h1 _ rfl).elim | exact (h2 rfl).elim | exact (h3 _ _ rfl).elim | exact Rep.move (fun b hb => ⟨rfl, .inl hb⟩) hx
theorem leafArg_sound {K : CL × AI → St → Option R} (h : Rel X ρ st a w) {m : LM} {x : Leaf} {v : Value} (hx : LeafOk X ρ w x v) (hr : (leafArg m x).run st K = some r) :
    ∃ c ai ρ' st' L, K (c, ai) st' = some r ∧ Rel X ρ' st' a w ∧ Ext ρ w ρ' w ∧ st'.n = st.n ∧ Frz ρ st ρ' st' ∧ VLs w (Fix X ρ' w) (B0 ρ' w ai.ro) [c] [v] L ∧ SlOk ρ' ai.sl L ∧ ai.mv = [] := by
  unfold leafArg at hr
  split at hr
  · obtain ⟨y, ρ1, st1, k1, k2, k3, k4, k5, k6⟩ := vArg_sound h hx hr
    exact ⟨_, _, ρ1, st1, [], k1, k2, k3, k4, k5, ⟨k6, rfl⟩, trivial, rfl⟩
  · obtain ⟨y, ns, k1, k2⟩ := roArg_sound h hx hr
    exact ⟨_, _, ρ, st, [], k1, h, Ext.refl _ _, rfl, Frz.refl _ _, ⟨k2, rfl⟩, trivial, rfl⟩
  · rename_i n
    replace hr : (match st.ent n with
      | .arr false t r l => M.ret (CL.row t r l, (⟨[.row n], [], []⟩ : AI))
      | _ => .fail : M (CL × AI)).run st K = some r := hr
    have h0 := h.ents n
    have hx := hx.2
    split at hr
    · rename_i e t l he
      rw [he] at h0
      obtain ⟨u, hu, h0⟩ := h0
      rw [hu] at hx
      obtain rfl : v = u := hx
      exact ⟨_, _, ρ, st, [.row v], hr, h, Ext.refl _ _, rfl, Frz.refl _ _, ⟨rfl, h0, rfl⟩, ⟨.inl hu, trivial⟩, rfl⟩
    · cases hr
  · exact ⟨_, _, ρ, st, [.no], hr, h, Ext.refl _ _, rfl, Frz.refl _ _, ⟨hx, rfl⟩, trivial, rfl⟩
  · cases hr
theorem leafMv_sound {K : CL × AI → St → Option R} (h : Rel X ρ st a w) {m : LM} {x : Leaf} {v : Value} (hx : LeafOk X ρ w x v) (hr : (leafMv m x).run st K = some r) :
    ∃ c ai ρ' st' M, K (c, ai) st' = some r ∧ Rel X ρ' st' a w ∧ Ext ρ w ρ' w ∧ st'.n = st.n ∧ Frz ρ st ρ' st' ∧ MLs w (Fix X ρ' w) (B0 ρ' w ai.ro) [c] [v] M ∧ MvOk ρ' st' ai.mv M ∧ ai.sl = [] := by
  unfold leafMv at hr
  split at hr
  · obtain ⟨y, ρ1, st1, k1, k2, k3, k4, k5, k6⟩ := vArg_sound h hx hr
    exact ⟨_, _, ρ1, st1, [], k1, k2, k3, k4, k5, ⟨k6, rfl⟩, trivial, rfl⟩
  · rename_i n
    replace hr : (match st.ent n with
      | .arr false t r l => M.setb n .free (.ret (CL.row t r l, (⟨[], [], [n]⟩ : AI)))
      | _ => .fail : M (CL × AI)).run st K = some r := hr
    have h0 := h.ents n
    have hx := hx.2
    split at hr
    · rename_i e t l he
      rw [he] at h0
      obtain ⟨u, hu, h0⟩ := h0
      rw [hu] at hx
      obtain rfl : v = u := hx
      refine ⟨_, _, ρ, st.setB n .free, [v], hr, h.hide n, Ext.refl _ _, rfl, ⟨fun i => .inl rfl, rfl, ?_, ?_⟩, ⟨rfl, h0, rfl⟩, ⟨hu, by rw [ent_setB, if_pos rfl], trivial⟩, rfl⟩
      · intro i t xs hi
        rw [ent_setB, if_neg (fun e => by subst e; rw [he] at hi; cases hi)]
        exact hi
      · intro i hi
        refine ⟨?_, rfl⟩
        rw [ent_setB]
        split
        · rfl
        · exact hi
    · cases hr
  · exact ⟨_, _, ρ, st, [], hr, h, Ext.refl _ _, rfl, Frz.refl _ _, ⟨hx, rfl⟩, trivial, rfl⟩
  · cases hr
theorem leavesArg_sound : ∀ {ms : List LM} {xs : List Leaf} {vs : List Value} {ρ : Rho} {st : St} {K : List CL × AI → St → Option R}, Rel X ρ st a w → LeavesOk X ρ w xs vs → (leavesArg leafArg ms xs).run st K = some r →
    ∃ c ai ρ' st' L, K (c, ai) st' = some r ∧ Rel X ρ' st' a w ∧ Ext ρ w ρ' w ∧ st'.n = st.n ∧ Frz ρ st ρ' st' ∧ VLs w (Fix X ρ' w) (B0 ρ' w ai.ro) c vs L ∧ SlOk ρ' ai.sl L ∧ ai.mv = []
  | [], [], [], ρ, st, K, h, _, hr => ⟨_, _, ρ, st, [], hr, h, Ext.refl _ _, rfl, Frz.refl _ _, rfl, trivial, rfl⟩
  | m :: ms, x :: xs, v :: vs, ρ, st, K, h, hx, hr => by
    unfold leavesArg at hr
    rw [M.run_bind] at hr
    obtain ⟨c1, ai1, ρ1, st1, L1, hr1, h1, e1, n1, f1, v1, s1, m1⟩ := leafArg_sound h hx.1 hr
    rw [M.run_bind] at hr1
    obtain ⟨c2, ai2, ρ2, st2, L2, hr2, h2, e2, n2, f2, v2, s2, m2⟩ := leavesArg_sound h1 (hx.2.ext e1) hr1
    refine ⟨_, _, ρ2, st2, L1 ++ L2, hr2, h2, e1.trans e2, n2.trans n1, f1.trans f2, ?_, (s1.frz f2).append s2, ?_⟩
    · refine VLs.cons (VLs.mono (fun b hb => (e2.fix b hb).2) (fun b hb => ?_) v1) (VLs.mono (fun b hb => hb) (fun b hb => B0.right hb) v2)
      exact B0.left (B0.frz h1 e2 f2 hb)
    · show ai1.mv ++ ai2.mv = []
      rw [m1, m2]
      rfl
  | [], _ :: _, _, _, _, _, _, _, hr => by cases hr
  | _ :: _, [], _, _, _, _, _, _, hr => by cases hr
  | _, [], _ :: _, _, _, _, _, h, _ => h.elim
  | _, _ :: _, [], _, _, _, _, h, _ => h.elim
theorem leavesMv_sound : ∀ {ms : List LM} {xs : List Leaf} {vs : List Value} {ρ : Rho} {st : St} {K : List CL × AI → St → Option R}, Rel X ρ st a w → LeavesOk X ρ w xs vs → (leavesArg leafMv ms xs).run st K = some r →
    ∃ c ai ρ' st' M, K (c, ai) st' = some r ∧ Rel X ρ' st' a w ∧ Ext ρ w ρ' w ∧ st'.n = st.n ∧ Frz ρ st ρ' st' ∧ MLs w (Fix X ρ' w) (B0 ρ' w ai.ro) c vs M ∧ MvOk ρ' st' ai.mv M ∧ ai.sl = []
  | [], [], [], ρ, st, K, h, _, hr => ⟨_, _, ρ, st, [], hr, h, Ext.refl _ _, rfl, Frz.refl _ _, rfl, trivial, rfl⟩
  | m :: ms, x :: xs, v :: vs, ρ, st, K, h, hx, hr => by
    unfold leavesArg at hr
    rw [M.run_bind] at hr
    obtain ⟨c1, ai1, ρ1, st1, M1, hr1, h1, e1, n1, f1, v1, s1, m1⟩ := leafMv_sound h hx.1 hr
    rw [M.run_bind] at hr1
    obtain ⟨c2, ai2, ρ2, st2, M2, hr2, h2, e2, n2, f2, v2, s2, m2⟩ := leavesMv_sound h1 (hx.2.ext e1) hr1
    refine ⟨_, _, ρ2, st2, M1 ++ M2, hr2, h2, e1.trans e2, n2.trans n1, f1.trans f2, ?_, (s1.frz f2).append s2, ?_⟩
    · refine MLs.cons (MLs.mono (fun b hb => (e2.fix b hb).2) (fun b hb => ?_) v1) (MLs.mono (fun b hb => hb) (fun b hb => B0.right hb) v2)
      exact B0.left (B0.frz h1 e2 f2 hb)
    · show ai1.sl ++ ai2.sl = []
      rw [m1, m2]
      rfl
  | [], _ :: _, _, _, _, _, _, _, hr => by cases hr
  | _ :: _, [], _, _, _, _, _, _, hr => by cases hr
  | _, [], _ :: _, _, _, _, _, h, _ => h.elim
  | _, _ :: _, [], _, _, _, _, h, _ => h.elim
end
end Go.Proofs.YtaajcllchbnjiaaDoorE

namespace Go.Proofs.YtaajcllchbnjiaaDoorE
open Go Go.RowKit
set_option linter.unusedVariables false
section
variable {P : Program} {o : Oper} {X : Nat → Prop} {ρ ρ' : Rho} {st st' : St} {a : Act} {w w' : World} {g : Option (Nat × Bool)} {R : Type} {r : R} {C : Ctx} {F F' B B' : Nat → Prop}

theorem roLeaf_sound {K : Leaf × List Nat → St → Option R} (h : Rel X ρ st a w) {x : Leaf} {v : Value} (hx : LeafOk X ρ w x v) (hr : (roLeaf x).run st K = some r) :
    ∃ y ns, K (y, ns) st = some r ∧ DLeaf w (Fix X ρ w) (B0 ρ w ns) y v := by
  unfold roLeaf at hr
  rw [M.run_bind] at hr
  obtain ⟨y, ns, hr1, hy⟩ := roArg_sound h hx hr
  clear hr
  cases y with
  | list t l => exact ⟨_, _, hr1, Rep.move (fun b hb => ⟨rfl, .inl hb.brw⟩) hy⟩
  | _ => exact ⟨_, _, hr1, hy⟩
theorem roLeaves_sound (h : Rel X ρ st a w) : ∀ {xs : List Leaf} {vs : List Value} {K : List (Leaf × List Nat) → St → Option R}, LeavesOk X ρ w xs vs → (M.mapL roLeaf xs).run st K = some r →
    ∃ ys, K ys st = some r ∧ DLeaves w (Fix X ρ w) (B0 ρ w (ys.flatMap (·.2))) (ys.map (·.1)) vs
  | [], [], K, _, hr => ⟨[], hr, trivial⟩
  | x :: xs, v :: vs, K, hx, hr => by
    unfold M.mapL at hr
    rw [M.run_bind] at hr
    obtain ⟨y, ns, hr1, hy⟩ := roLeaf_sound h hx.1 hr
    rw [M.run_bind] at hr1
    obtain ⟨ys, hr2, hys⟩ := roLeaves_sound h hx.2 hr1
    refine ⟨(y, ns) :: ys, hr2, ?_, ?_⟩
    · exact hy.mono (fun b hb => hb) fun b hb => by
        rw [List.flatMap_cons]
        exact hb.left
    · exact hys.mono (fun b hb => hb) fun b hb => by
        rw [List.flatMap_cons]
        exact hb.right
  | [], _ :: _, _, h, _ => h.elim
  | _ :: _, [], _, h, _ => h.elim
theorem refArg_sound {K : (TypeId × List CL) × AI → St → Option R} (h : Rel X ρ st a w) {ms : List LM} {b : Nat} {v : Value} (hv : LeafOk X ρ w (.ptr b 0) v) (hr : (refArg ms b (st.ent b)).run st K = some r) :
    ∃ c ai ρ' st' L M, K (c, ai) st' = some r ∧ Rel X ρ' st' a w ∧ Ext ρ w ρ' w ∧ st'.n = st.n ∧ Frz ρ st ρ' st' ∧ (BoxOk w (Fix X ρ' w) (B0 ρ' w ai.ro) c.1 c.2 v L M ∧ c.1 ≠ roT) ∧ SlOk ρ' ai.sl L ∧ MvOk ρ' st' ai.mv M := by
  have h0 := h.ents b
  unfold refArg at hr
  split at hr
  · rename_i t xs he
    rw [he] at h0
    obtain ⟨gb, cs, fr, hb, hh, hu, hxs⟩ := h0
    cases ht : Nat.beq t roT with
    | true => rw [ht] at hr; cases hr
    | false =>
    rw [ht] at hr
    replace hr : ((leavesArg leafMv ms xs).bind fun a => M.ret ((t, a.1), AI.app ⟨[.box b], [], []⟩ a.2)).run st K = some r := hr
    rw [M.run_bind] at hr
    obtain ⟨c, ai, ρ1, st1, M, hr1, h1, e1, n1, f1, m1, v1, s1⟩ := leavesMv_sound h hxs hr
    have h2 := hv.2
    rw [hb] at h2
    have hb1 : ρ1 b = some (.blk gb) := by
      rcases f1.conc b with k | ⟨u, k, _⟩
      · rw [k]; exact hb
      · rw [hb] at k; cases k
    refine ⟨_, _, ρ1, st1, [.blk gb], M, hr1, h1, e1, n1, f1, ⟨⟨gb, cs, fr, rfl, h2, hh, hu, m1⟩, Nat.ne_of_beq_eq_false ht⟩, ?_, v1⟩
    show SlOk ρ1 ([.box b] ++ ai.sl) [.blk gb]
    rw [s1]
    exact ⟨hb1, trivial⟩
  · cases hr
theorem CapsOk.cons {c : TypeId × List CL} {v : Value} {cs : List (TypeId × List CL)} {vs : List Value} {L1 L2 : List GI} {M1 M2 : List Value} (h : CapOk w F B c v L1 M1) (k : CapsOk w F B cs vs L2 M2) : CapsOk w F B (c :: cs) (v :: vs) (L1 ++ L2) (M1 ++ M2) :=
  ⟨L1, L2, M1, M2, rfl, rfl, h, k⟩
theorem vls_leaves : ∀ {xs : List Leaf} {vs : List Value}, DLeaves w F B xs vs → VLs w F B (xs.map .leaf) vs []
  | [], [], _ => rfl
  | _ :: _, _ :: _, h => ⟨h.1, vls_leaves h.2⟩
  | [], _ :: _, h => h.elim
  | _ :: _, [], h => h.elim
theorem rpArg_sound {K : (TypeId × List CL) × AI → St → Option R} (h : Rel X ρ st a w) {xs : List Leaf} {cs : List Value} {b o : Nat} {v : Value} (hx : LeavesOk X ρ w xs cs) (hv : v = .pointer (some ⟨b, o, none⟩)) (hc : CellsAt w b o cs) (hr : (rpArg xs).run st K = some r) :
    ∃ c ns, K (c, ⟨[], ns, []⟩) st = some r ∧ ∀ ms, B0 ρ w (ns ++ ms) b → CapOk w (Fix X ρ w) (B0 ρ w (ns ++ ms)) c v [] [] := by
  unfold rpArg at hr
  rw [M.run_bind] at hr
  obtain ⟨ys, hr1, hy⟩ := roLeaves_sound h hx hr
  refine ⟨_, _, hr1, fun ms hb => ?_⟩
  unfold CapOk
  rw [if_pos rfl]
  refine ⟨rfl, rfl, b, o, cs, hv, hb, hc, ?_⟩
  have := vls_leaves (hy.mono (fun b hb => hb) (fun b hb => (hb.left : B0 ρ w (ys.flatMap (·.2) ++ ms) b)))
  rwa [List.map_map] at this
theorem capArg_sound {K : (TypeId × List CL) × AI → St → Option R} (h : Rel X ρ st a w) {ms : List LM} {x : Leaf} {v : Value} (hv : LeafOk X ρ w x v) (hr : (capArg ms x).run st K = some r) :
    ∃ c ai ρ' st' L M, K (c, ai) st' = some r ∧ Rel X ρ' st' a w ∧ Ext ρ w ρ' w ∧ st'.n = st.n ∧ Frz ρ st ρ' st' ∧ CapOk w (Fix X ρ' w) (B0 ρ' w ai.ro) c v L M ∧ SlOk ρ' ai.sl L ∧ MvOk ρ' st' ai.mv M := by
  unfold capArg at hr
  split at hr
  · rename_i b
    replace hr : (bif roMs ms then capBox b (st.ent b) else refArg ms b (st.ent b)).run st K = some r := hr
    cases hm : roMs ms with
    | true =>
      rw [hm] at hr
      replace hr : (capBox b (st.ent b)).run st K = some r := hr
      have h0 := h.ents b
      unfold capBox at hr
      split at hr
      · rename_i t xs he
        rw [he] at h0
        obtain ⟨gb, cs, fr, hb, hh, hu, hxs⟩ := h0
        have h2 := hv.2
        rw [hb] at h2
        rw [M.run_bind] at hr
        obtain ⟨c, ns, hr1, hc⟩ := rpArg_sound h hxs (b := gb) (o := 0) h2 (cells_block hh) hr
        refine ⟨_, _, ρ, st, [], [], hr1, h, Ext.refl _ _, rfl, Frz.refl _ _, hc [b] (.inr ⟨b, List.mem_append_right _ (List.mem_singleton.2 rfl), by rw [hb]; rfl⟩), trivial, trivial⟩
      · cases hr
    | false =>
      rw [hm] at hr
      replace hr : (refArg ms b (st.ent b)).run st K = some r := hr
      obtain ⟨c, ai, ρ1, st1, L, M, hr1, h1, e1, n1, f1, v1, s1, m1⟩ := refArg_sound h hv hr
      refine ⟨_, _, ρ1, st1, L, M, hr1, h1, e1, n1, f1, ?_, s1, m1⟩
      have hne : c.1 ≠ roT := v1.2
      unfold CapOk
      rw [if_neg hne]
      exact v1.1
  · rename_i t x
    cases hm : roMs ms with
    | false => rw [hm] at hr; cases hr
    | true =>
      rw [hm] at hr
      replace hr : (rpArg ((leaves t x).map borL)).run st K = some r := hr
      obtain ⟨gb, o, cs, h1, h2, h3, h4⟩ := hv
      obtain ⟨c, ns, hr1, hc⟩ := rpArg_sound h (leavesB_ok h4) (b := gb) (o := o) h1 h3 hr
      have := hc [] (.inl h2)
      rw [List.append_nil] at this
      exact ⟨_, _, ρ, st, [], [], hr1, h, Ext.refl _ _, rfl, Frz.refl _ _, this, trivial, trivial⟩
  · cases hr
theorem capsArg_sound : ∀ {mss : List (List LM)} {xs : List Leaf} {vs : List Value} {ρ : Rho} {st : St} {K : List (TypeId × List CL) × AI → St → Option R}, Rel X ρ st a w → LeavesOk X ρ w xs vs → (capsArg mss xs).run st K = some r →
    ∃ c ai ρ' st' L M, K (c, ai) st' = some r ∧ Rel X ρ' st' a w ∧ Ext ρ w ρ' w ∧ st'.n = st.n ∧ Frz ρ st ρ' st' ∧ CapsOk w (Fix X ρ' w) (B0 ρ' w ai.ro) c vs L M ∧ SlOk ρ' ai.sl L ∧ MvOk ρ' st' ai.mv M
  | [], [], [], ρ, st, K, h, _, hr => ⟨_, _, ρ, st, [], [], hr, h, Ext.refl _ _, rfl, Frz.refl _ _, ⟨rfl, rfl⟩, trivial, trivial⟩
  | ms :: mss, x :: xs, v :: vs, ρ, st, K, h, hx, hr => by
    unfold capsArg at hr
    rw [M.run_bind] at hr
    obtain ⟨c1, ai1, ρ1, st1, L1, M1, hr1, h1, e1, n1, f1, v1, s1, m1⟩ := capArg_sound h hx.1 hr
    rw [M.run_bind] at hr1
    obtain ⟨c2, ai2, ρ2, st2, L2, M2, hr2, h2, e2, n2, f2, v2, s2, m2⟩ := capsArg_sound h1 (hx.2.ext e1) hr1
    refine ⟨_, _, ρ2, st2, L1 ++ L2, M1 ++ M2, hr2, h2, e1.trans e2, n2.trans n1, f1.trans f2, ?_, (s1.frz f2).append s2, (m1.frz f2).append m2⟩
    exact CapsOk.cons (CapOk.mono (fun b hb => (e2.fix b hb).2) (fun b hb => B0.left (B0.frz h1 e2 f2 hb)) v1) (CapsOk.mono (fun b hb => hb) (fun b hb => B0.right hb) v2)
  | [], _ :: _, _, _, _, _, _, _, hr => by cases hr
  | _ :: _, [], _, _, _, _, _, _, hr => by cases hr
  | [], [], _ :: _, _, _, _, _, h, _ => h.elim
  | _ :: _, _ :: _, [], _, _, _, _, h, _ => h.elim
theorem rptrArg_sound {K : CArg × AI → St → Option R} (h : Rel X ρ st a w) {xs : List Leaf} {cs : List Value} (hx : LeavesOk X ρ w xs cs) (hr : (rptrArg xs).run st K = some r) :
    ∃ ys ns, K (.rptr ys, ⟨[], ns, []⟩) st = some r ∧ DLeaves w (Fix X ρ w) (B0 ρ w ns) ys cs := by
  unfold rptrArg at hr
  rw [M.run_bind] at hr
  obtain ⟨ys, hr1, hy⟩ := roLeaves_sound h hx hr
  exact ⟨_, _, hr1, hy⟩
theorem argOf_sound {K : CArg × AI → St → Option R} (h : Rel X ρ st a w) {m : PM} {x : AV} {v : Value} (hx : AvOk X ρ w x v) (hr : (argOf m x).run st K = some r) :
    ∃ c ai ρ' st' L M, K (c, ai) st' = some r ∧ Rel X ρ' st' a w ∧ Ext ρ w ρ' w ∧ st'.n = st.n ∧ Frz ρ st ρ' st' ∧ CArgOk w (Fix X ρ' w) (B0 ρ' w ai.ro) c v L M ∧ SlOk ρ' ai.sl L ∧ MvOk ρ' st' ai.mv M := by
  unfold argOf at hr
  split at hr
  · rename_i ms y
    rw [M.run_bind] at hr
    obtain ⟨c, ai, ρ1, st1, L, hr1, h1, e1, n1, f1, v1, s1, m1⟩ := leavesArg_sound h (xs := [y]) (vs := [v]) ⟨hx, trivial⟩ hr
    exact ⟨_, _, ρ1, st1, L, [], hr1, h1, e1, n1, f1, ⟨rfl, v1⟩, s1, by show MvOk ρ1 st1 ai.mv []; rw [m1]; trivial⟩
  · rename_i ms ys
    obtain ⟨cs, hv, hxs⟩ := hx
    rw [M.run_bind] at hr
    obtain ⟨c, ai, ρ1, st1, L, hr1, h1, e1, n1, f1, v1, s1, m1⟩ := leavesArg_sound h hxs hr
    exact ⟨_, _, ρ1, st1, L, [], hr1, h1, e1, n1, f1, ⟨rfl, cs, hv, v1⟩, s1, by show MvOk ρ1 st1 ai.mv []; rw [m1]; trivial⟩
  · rename_i b off
    replace hr : (match st.ent b with
      | .box _ xs => (rptrArg (xs.drop off)).bind fun a => .ret (a.1, a.2.app ⟨[], [b], []⟩)
      | _ => .fail : M (CArg × AI)).run st K = some r := hr
    have h0 := h.ents b
    split at hr
    · rename_i t xs he
      rw [he] at h0
      obtain ⟨gb, cs, fr, hb, hh, hu, hxs⟩ := h0
      have h2 := hx.2
      rw [hb] at h2
      rw [M.run_bind] at hr
      obtain ⟨ys, ns, hr1, hy⟩ := rptrArg_sound h (hxs.drop off) hr
      refine ⟨_, _, ρ, st, [], [], hr1, h, Ext.refl _ _, rfl, Frz.refl _ _, ⟨rfl, rfl, gb, off, _, h2, .inr ⟨b, ?_, by rw [hb]; rfl⟩, ?_, hy.mono (fun b hb => hb) fun b hb => hb.left⟩, trivial, trivial⟩
      · exact List.mem_append_right _ (List.mem_singleton.2 rfl)
      · intro i u hi
        rw [List.getElem?_drop] at hi
        rw [cell_of_row w gb (off + i) cs t fr hh]
        simpa using hi
    · cases hr
  · rename_i xs
    obtain ⟨gb, off, cs, hv, hg, hc, hxs⟩ := hx
    obtain ⟨ys, ns, hr1, hy⟩ := rptrArg_sound h hxs hr
    exact ⟨_, _, ρ, st, [], [], hr1, h, Ext.refl _ _, rfl, Frz.refl _ _, ⟨rfl, rfl, gb, off, cs, hv, .inl hg, hc, hy⟩, trivial, trivial⟩
  · rename_i t y
    obtain ⟨gb, off, cs, hv, hg, hc, hrep⟩ := hx
    obtain ⟨ys, ns, hr1, hy⟩ := rptrArg_sound h (leavesB_ok hrep) hr
    exact ⟨_, _, ρ, st, [], [], hr1, h, Ext.refl _ _, rfl, Frz.refl _ _, ⟨rfl, rfl, gb, off, cs, hv, .inl hg, hc, hy⟩, trivial, trivial⟩
  · rename_i ms b
    replace hr : ((refArg ms b (st.ent b)).bind fun a => M.ret (CArg.ref a.1.1 a.1.2, a.2)).run st K = some r := hr
    rw [M.run_bind] at hr
    obtain ⟨c, ai, ρ1, st1, L, M, hr1, h1, e1, n1, f1, v1, s1, m1⟩ := refArg_sound h hx hr
    exact ⟨_, _, ρ1, st1, L, M, hr1, h1, e1, n1, f1, v1.1, s1, m1⟩
  · rename_i f mss f' xs
    obtain ⟨cs, hv, hxs⟩ := hx
    rw [M.run_bind] at hr
    obtain ⟨c, ai, ρ1, st1, L, M, hr1, h1, e1, n1, f1, v1, s1, m1⟩ := capsArg_sound h hxs hr
    exact ⟨_, _, ρ1, st1, L, M, hr1, h1, e1, n1, f1, ⟨cs, hv, v1⟩, s1, m1⟩
  · rename_i n
    replace hr : (match st.ent n with
      | .arr false t r l => M.setb n .free (.ret (CArg.mv t r l, (⟨[], [], [n]⟩ : AI)))
      | _ => .fail : M (CArg × AI)).run st K = some r := hr
    have h0 := h.ents n
    have hx := hx.2
    split at hr
    · rename_i e t l he
      rw [he] at h0
      obtain ⟨u, hu, h0⟩ := h0
      rw [hu] at hx
      obtain rfl : v = u := hx
      refine ⟨_, _, ρ, st.setB n .free, [], [v], hr, h.hide n, Ext.refl _ _, rfl, ⟨fun i => .inl rfl, rfl, ?_, ?_⟩, ⟨rfl, rfl, h0⟩, trivial, ⟨hu, by rw [ent_setB, if_pos rfl], trivial⟩⟩
      · intro i t xs hi
        rw [ent_setB, if_neg (fun e => by subst e; rw [he] at hi; cases hi)]
        exact hi
      · intro i hi
        refine ⟨?_, rfl⟩
        rw [ent_setB]
        split
        · rfl
        · exact hi
    · cases hr
  · cases hr
theorem argsOf_sound : ∀ {ms : List PM} {xs : List AV} {vs : List Value} {ρ : Rho} {st : St} {K : List CArg × AI → St → Option R}, Rel X ρ st a w → AvsOk X ρ w xs vs → (argsOf ms xs).run st K = some r →
    ∃ c ai ρ' st' L M, K (c, ai) st' = some r ∧ Rel X ρ' st' a w ∧ Ext ρ w ρ' w ∧ st'.n = st.n ∧ Frz ρ st ρ' st' ∧ CArgsOk w (Fix X ρ' w) (B0 ρ' w ai.ro) c vs L M ∧ SlOk ρ' ai.sl L ∧ MvOk ρ' st' ai.mv M
  | [], [], [], ρ, st, K, h, _, hr => ⟨_, _, ρ, st, [], [], hr, h, Ext.refl _ _, rfl, Frz.refl _ _, ⟨rfl, rfl⟩, trivial, trivial⟩
  | m :: ms, x :: xs, v :: vs, ρ, st, K, h, hx, hr => by
    unfold argsOf at hr
    rw [M.run_bind] at hr
    obtain ⟨c1, ai1, ρ1, st1, L1, M1, hr1, h1, e1, n1, f1, v1, s1, m1⟩ := argOf_sound h hx.1 hr
    rw [M.run_bind] at hr1
    obtain ⟨c2, ai2, ρ2, st2, L2, M2, hr2, h2, e2, n2, f2, v2, s2, m2⟩ := argsOf_sound h1 (hx.2.ext e1) hr1
    refine ⟨_, _, ρ2, st2, L1 ++ L2, M1 ++ M2, hr2, h2, e1.trans e2, n2.trans n1, f1.trans f2, ⟨L1, L2, M1, M2, rfl, rfl, ?_, ?_⟩, (s1.frz f2).append s2, (m1.frz f2).append m2⟩
    · exact v1.mono (fun b hb => (e2.fix b hb).2) (fun b hb => B0.left (B0.frz h1 e2 f2 hb))
    · exact v2.mono (fun b hb => hb) (fun b hb => B0.right hb)
  | [], _ :: _, _, _, _, _, _, _, hr => by cases hr
  | _ :: _, [], _, _, _, _, _, _, hr => by cases hr
  | _, [], _ :: _, _, _, _, _, h, _ => h.elim
  | _, _ :: _, [], _, _, _, _, h, _ => h.elim
end
end Go.Proofs.YtaajcllchbnjiaaDoorE

namespace Go.Proofs.YtaajcllchbnjiaaDoorE
open Go Go.RowKit
set_option linter.unusedVariables false

/-- All of 'Rel' but what it says of free names. -/
structure RelC (X : Nat → Prop) (ρ : Rho) (st : St) (a : Act) (w : World) : Prop where
  defers : a.defers = []
  size : a.tmps.size = st.n
  sep : ∀ i j b, owns (ρ i) b → owns (ρ j) b → i = j
  lt : ∀ i b, owns (ρ i) b → b < w.heap.size ∧ ¬ X b
  ents : ∀ i, EntOk X ρ w (st.ent i) (ρ i)
  tmps : ∀ i, AvOk X ρ w (getL .unk st.tmps i) (tmOf a i)
  gs : ∀ i t b x, (i, t, b, x) ∈ st.gs → GdOk X ρ w (tmOf a) t b x (tmOf a i)
  xlt : ∀ b, X b → b < w.heap.size
  gl : Glo ρ w
/-- Two states that differ in some blocks' slots alone. -/
structure Agree (bs : List Nat) (st sth : St) : Prop where
  n : st.n = sth.n
  tmps : st.tmps = sth.tmps
  gs : st.gs = sth.gs
  nb : st.nb = sth.nb
  ent : ∀ i, i ∉ bs → st.ent i = sth.ent i
/-- k names have been taken. -/
structure Grow (st st2 : St) (k : Nat) : Prop where
  nb : st2.nb = st.nb + k
  lim : k = 0 ∨ st.nb + k ≤ st.lim
  lim2 : st2.lim = st.lim
  res : st2.res = st.res
  n : st2.n = st.n
theorem Grow.refl (st : St) : Grow st st 0 := ⟨rfl, .inl rfl, rfl, rfl, rfl⟩
theorem Grow.trans {st st1 st2 : St} {j k : Nat} (h : Grow st st1 j) (g : Grow st1 st2 k) : Grow st st2 (j + k) := by
  refine ⟨?_, ?_, g.lim2.trans h.lim2, g.res.trans h.res, g.n.trans h.n⟩
  · rw [g.nb, h.nb, Nat.add_assoc]
  · rcases g.lim with k0 | k1
    · rcases h.lim with j0 | j1
      · exact .inl (by omega)
      · exact .inr (by omega)
    · rw [h.nb, h.lim2] at k1
      exact .inr (by omega)
def RowsAt (ρ : Rho) (n : Nat) (O : List Conc) : Prop := ∀ (j : Nat) (c : Conc), O[j]? = some c → ρ (n + j) = some c
theorem RowsAt.left {ρ : Rho} {n : Nat} {O1 O2 : List Conc} (h : RowsAt ρ n (O1 ++ O2)) : RowsAt ρ n O1 := fun j u hj => h j u (by rw [List.getElem?_append_left (List.getElem?_eq_some_iff.1 hj).1]; exact hj)
theorem RowsAt.right {ρ : Rho} {n : Nat} {O1 O2 : List Conc} (h : RowsAt ρ n (O1 ++ O2)) : RowsAt ρ (n + O1.length) O2 := fun j u hj => by
  have := h (O1.length + j) u (by rw [List.getElem?_append_right (by omega)]; simpa using hj)
  rwa [← Nat.add_assoc] at this
def SlR (ρ : Rho) : List RS → List GI → Prop
  | [], [] => True
  | .box n :: sl, .blk g :: L => ρ n = some (.blk g) ∧ SlR ρ sl L
  | .row n :: sl, .row v :: L => ρ n = some (.row v) ∧ SlR ρ sl L
  | .no :: sl, .no :: L => SlR ρ sl L
  | _, _ => False
section
variable {P : Program} {o : Oper} {X : Nat → Prop} {ρ ρ' : Rho} {st st' sth : St} {a : Act} {w w' : World} {R : Type} {r : R} {C : Ctx} {F F' B B' : Nat → Prop} {bs : List Nat}
theorem RelC.rel (h : RelC X ρ st a w) (f : Free ρ st) : Rel X ρ st a w := ⟨h.defers, h.size, h.sep, h.lt, h.ents, h.tmps, h.gs, f, h.xlt, h.gl⟩
theorem RelC.new (h : RelC X ρ sth a w) {e : Ent} (he : EntOk X ρ w e (ρ sth.nb)) : RelC X ρ (sth.newB e) a w := by
  refine ⟨h.defers, h.size, h.sep, h.lt, fun i => ?_, h.tmps, h.gs, h.xlt, h.gl⟩
  rw [ent_newB]
  split
  · rename_i hi; rw [← hi]; exact he
  · exact h.ents i
theorem RelC.set (h : RelC X ρ sth a w) {n : Nat} {e : Ent} (he : EntOk X ρ w e (ρ n)) : RelC X ρ (sth.setB n e) a w := by
  refine ⟨h.defers, h.size, h.sep, h.lt, fun i => ?_, h.tmps, h.gs, h.xlt, h.gl⟩
  rw [ent_setB]
  split
  · rename_i hi; rw [← hi]; exact he
  · exact h.ents i
theorem Agree.new (h : Agree bs st sth) (e : Ent) : Agree bs (st.newB e) (sth.newB e) := by
  refine ⟨h.n, h.tmps, h.gs, congrArg (· + 1) h.nb, fun i hi => ?_⟩
  rw [ent_newB, ent_newB, h.nb, h.ent i hi]
theorem Agree.set {b : Nat} (h : Agree (b :: bs) st sth) (e : Ent) : Agree bs (st.setB b e) (sth.setB b e) := by
  refine ⟨h.n, h.tmps, h.gs, h.nb, fun i hi => ?_⟩
  rw [ent_setB, ent_setB]
  by_cases hb : b = i
  · rw [if_pos hb, if_pos hb]
  · rw [if_neg hb, if_neg hb]
    exact h.ent i (fun hm => by
      rcases List.mem_cons.1 hm with k | k
      · exact hb k.symm
      · exact hi k)
theorem Agree.relC (h : Agree [] st sth) (k : RelC X ρ sth a w) : RelC X ρ st a w := by
  refine ⟨k.defers, by rw [h.n]; exact k.size, k.sep, k.lt, fun i => ?_, by rw [h.tmps]; exact k.tmps, by rw [h.gs]; exact k.gs, k.xlt, k.gl⟩
  rw [h.ent i (by simp)]
  exact k.ents i
theorem row_form {z : Bool} {e : TypeId} {t : Ty} {v : Value} {l : List t.T} (h : RowOk w F z e t v l) : RowV v := h.form
theorem newRLs_sound : ∀ {xs : List RL} {vs : List Value} {O : List Conc} {st : St} {K : List Leaf → St → Option R}, RLsOk w F xs vs O → (M.mapL newRL xs).run st K = some r →
    ∃ ys st2, K ys st2 = some r ∧ Grow st st2 O.length ∧ ∀ (X : Nat → Prop) (ρ : Rho) (a : Act) (sth : St) (bs : List Nat), RelC X ρ sth a w → Agree bs st sth → (∀ b, F b → Fix X ρ w b) → RowsAt ρ st.nb O →
      ∃ sth2, RelC X ρ sth2 a w ∧ Agree bs st2 sth2 ∧ LeavesOk X ρ w ys vs
  | [], [], O, st, K, h, hr => by
    obtain rfl : O = [] := h
    exact ⟨[], st, hr, Grow.refl st, fun X ρ a sth bs h1 h2 _ _ => ⟨sth, h1, h2, trivial⟩⟩
  | .leaf x :: xs, v :: vs, O, st, K, h, hr => by
    obtain ⟨h1, h2⟩ := h
    unfold M.mapL at hr
    rw [M.run_bind] at hr
    replace hr : ((M.mapL newRL xs).bind fun ys => M.ret (x :: ys)).run st K = some r := hr
    rw [M.run_bind] at hr
    obtain ⟨ys, st2, hr2, g2, k2⟩ := newRLs_sound h2 hr
    refine ⟨x :: ys, st2, hr2, g2, fun X ρ a sth bs c1 c2 c3 c4 => ?_⟩
    obtain ⟨sth2, d1, d2, d3⟩ := k2 X ρ a sth bs c1 c2 c3 c4
    exact ⟨sth2, d1, d2, leaf_of_d (h1.mono c3 fun b hb => hb), d3⟩
  | .own e t l :: xs, v :: vs, c :: O, st, K, h, hr => by
    obtain ⟨rfl, h1, h2⟩ := h
    unfold M.mapL at hr
    rw [M.run_bind] at hr
    obtain ⟨hlt, hr1⟩ := run_new hr
    replace hr1 : ((M.mapL newRL xs).bind fun ys => M.ret (Leaf.own st.nb :: ys)).run (st.newB (.arr false e t l)) K = some r := hr1
    rw [M.run_bind] at hr1
    obtain ⟨ys, st2, hr2, g2, k2⟩ := newRLs_sound h2 hr1
    have g1 : Grow st (st.newB (.arr false e t l)) 1 := ⟨rfl, .inr hlt, rfl, rfl, rfl⟩
    refine ⟨.own st.nb :: ys, st2, hr2, ?_, fun X ρ a sth bs c1 c2 c3 c4 => ?_⟩
    · have := g1.trans g2
      rwa [Nat.add_comm] at this
    · have hc : ρ st.nb = some (.row v) := c4 0 _ rfl
      have he : EntOk X ρ w (.arr false e t l) (ρ sth.nb) := by
        rw [← c2.nb, hc]
        exact ⟨v, rfl, h1.mono c3⟩
      obtain ⟨sth2, d1, d2, d3⟩ := k2 X ρ a (sth.newB (.arr false e t l)) bs (c1.new he) (c2.new _) c3 (fun j u hj => by
        have := c4 (j + 1) u hj
        rwa [show st.nb + (j + 1) = st.nb + 1 + j by omega] at this)
      exact ⟨sth2, d1, d2, ⟨row_form h1, by rw [hc]⟩, d3⟩
  | .own _ _ _ :: _, _ :: _, [], _, _, h, _ => h.elim
  | [], _ :: _, _, _, _, h, _ => h.elim
  | .leaf _ :: _, [], _, _, _, h, _ => h.elim
  | .own _ _ _ :: _, [], _, _, _, h, _ => h.elim
theorem putRefs_sound : ∀ {sl : List RS} {rs : List RF} {L : List GI} {O : List Conc} {st : St} {K : Unit → St → Option R}, RRefs w F L rs O → (putRefs sl rs).run st K = some r →
    ∃ st2, K () st2 = some r ∧ Grow st st2 O.length ∧ ∀ (X : Nat → Prop) (ρ : Rho) (a : Act) (sth : St) (bs : List Nat), RelC X ρ sth a w → Agree (RS.ids sl ++ bs) st sth → (∀ b, F b → Fix X ρ w b) → SlR ρ sl L → RowsAt ρ st.nb O →
      ∃ sth2, RelC X ρ sth2 a w ∧ Agree bs st2 sth2
  | [], [], [], O, st, K, h, hr => by
    obtain rfl : O = [] := h
    exact ⟨st, hr, Grow.refl st, fun X ρ a sth bs h1 h2 _ _ _ => ⟨sth, h1, h2⟩⟩
  | .box b :: sl, .box t xs :: rs, .blk gb :: L, O, st, K, h, hr => by
    obtain ⟨O1, O2, cs, fr, rfl, hh, hu, hx, hrest⟩ := h
    unfold putRefs at hr
    rw [M.run_bind] at hr
    obtain ⟨ys, st1, hr1, g1, k1⟩ := newRLs_sound hx hr
    replace hr1 : (putRefs sl rs).run (st1.setB b (.box t ys)) K = some r := hr1
    obtain ⟨st2, hr2, g2, k2⟩ := putRefs_sound hrest hr1
    have g1' : Grow st (st1.setB b (.box t ys)) O1.length := ⟨g1.nb, g1.lim, g1.lim2, g1.res, g1.n⟩
    refine ⟨st2, hr2, by rw [List.length_append]; exact g1'.trans g2, fun X ρ a sth bs c1 c2 c3 c4 c5 => ?_⟩
    obtain ⟨sth1, d1, d2, d3⟩ := k1 X ρ a sth _ c1 c2 c3 c5.left
    refine k2 X ρ a (sth1.setB b (.box t ys)) bs (d1.set ⟨gb, cs, fr, c4.1, hh, hu, d3⟩) (Agree.set (bs := RS.ids sl ++ bs) d2 _) c3 c4.2 ?_
    have := c5.right
    rwa [← g1.nb] at this
  | .row n :: sl, .row e t l :: rs, .row v :: L, O, st, K, h, hr => by
    obtain ⟨h1, h2⟩ := h
    replace hr : (putRefs sl rs).run (st.setB n (.arr false e t l)) K = some r := hr
    obtain ⟨st2, hr2, g2, k2⟩ := putRefs_sound h2 hr
    refine ⟨st2, hr2, ⟨g2.nb, g2.lim, g2.lim2, g2.res, g2.n⟩, fun X ρ a sth bs c1 c2 c3 c4 c5 => ?_⟩
    exact k2 X ρ a (sth.setB n (.arr false e t l)) bs (c1.set ⟨v, c4.1, h1.mono c3⟩) (Agree.set (bs := RS.ids sl ++ bs) c2 _) c3 c4.2 c5
  | .row n :: sl, .row e t l :: rs, .no :: L, O, st, K, h, hr => by
    replace hr : (putRefs sl rs).run (st.setB n (.arr false e t l)) K = some r := hr
    obtain ⟨st2, hr2, g2, k2⟩ := putRefs_sound (L := L) h hr
    exact ⟨st2, hr2, ⟨g2.nb, g2.lim, g2.lim2, g2.res, g2.n⟩, fun X ρ a sth bs c1 c2 c3 c4 c5 => c4.elim⟩
  | .no :: sl, .row e t l :: rs, .no :: L, O, st, K, h, hr => by
    obtain ⟨st2, hr2, g2, k2⟩ := putRefs_sound (sl := sl) (rs := rs) (L := L) h hr
    exact ⟨st2, hr2, g2, fun X ρ a sth bs c1 c2 c3 c4 c5 => k2 X ρ a sth bs c1 c2 c3 c4 c5⟩
  | .no :: sl, .row e t l :: rs, .row v :: L, O, st, K, h, hr => by
    obtain ⟨st2, hr2, g2, k2⟩ := putRefs_sound (sl := sl) (rs := rs) (L := L) h.2 hr
    exact ⟨st2, hr2, g2, fun X ρ a sth bs c1 c2 c3 c4 c5 => c4.elim⟩
  | .box _ :: _, .row _ _ _ :: _, _, _, _, _, _, hr => by cases hr
  | .row _ :: _, .box _ _ :: _, _, _, _, _, _, hr => by cases hr
  | .no :: _, .box _ _ :: _, _, _, _, _, _, hr => by cases hr
  | [], _ :: _, _, _, _, _, _, hr => by cases hr
  | .box _ :: _, [], _, _, _, _, _, hr => by cases hr
  | .row _ :: _, [], _, _, _, _, _, hr => by cases hr
  | .no :: _, [], _, _, _, _, _, hr => by cases hr
  | [], [], .blk _ :: _, _, _, _, h, _ => h.elim
  | [], [], .row _ :: _, _, _, _, h, _ => h.elim
  | [], [], .no :: _, _, _, _, h, _ => h.elim
theorem resC_sound {p : RC} {v : Value} {O : List Conc} {st : St} {K : Bool × List Leaf → St → Option R} (h : RComp w F p v O) (hr : (resC p).run st K = some r) :
    ∃ y st2, K y st2 = some r ∧ Grow st st2 O.length ∧ ∀ (X : Nat → Prop) (ρ : Rho) (a : Act) (sth : St) (bs : List Nat), RelC X ρ sth a w → Agree bs st sth → (∀ b, F b → Fix X ρ w b) → RowsAt ρ st.nb O →
      ∃ sth2, RelC X ρ sth2 a w ∧ Agree bs st2 sth2 ∧ CompOk X ρ w y v := by
  cases p with
  | val ag xs =>
    unfold resC at hr
    rw [M.run_bind] at hr
    cases ag with
    | false =>
      obtain ⟨ys, st1, hr1, g1, k1⟩ := newRLs_sound (vs := [v]) h hr
      exact ⟨_, st1, hr1, g1, fun X ρ a sth bs c1 c2 c3 c4 => k1 X ρ a sth bs c1 c2 c3 c4⟩
    | true =>
      obtain ⟨cs, rfl, h⟩ := h
      obtain ⟨ys, st1, hr1, g1, k1⟩ := newRLs_sound h hr
      refine ⟨_, st1, hr1, g1, fun X ρ a sth bs c1 c2 c3 c4 => ?_⟩
      obtain ⟨sth2, d1, d2, d3⟩ := k1 X ρ a sth bs c1 c2 c3 c4
      exact ⟨sth2, d1, d2, cs, rfl, d3⟩
  | box t xs =>
    obtain ⟨gb, cs, fr, O1, rfl, rfl, hh, hu, hx⟩ := h
    unfold resC at hr
    rw [M.run_bind] at hr
    obtain ⟨ys, st1, hr1, g1, k1⟩ := newRLs_sound hx hr
    obtain ⟨hlt, hr2⟩ := run_new hr1
    have g2 : Grow st1 (st1.newB (.box t ys)) 1 := ⟨rfl, .inr hlt, rfl, rfl, rfl⟩
    refine ⟨_, _, hr2, ?_, fun X ρ a sth bs c1 c2 c3 c4 => ?_⟩
    · rw [List.length_append]
      exact g1.trans g2
    · obtain ⟨sth1, d1, d2, d3⟩ := k1 X ρ a sth bs c1 c2 c3 c4.left
      have hc : ρ st1.nb = some (.blk gb) := by
        have := c4.right 0 _ rfl
        rwa [← g1.nb] at this
      refine ⟨sth1.newB (.box t ys), d1.new (by rw [← d2.nb, hc]; exact ⟨gb, cs, fr, rfl, hh, hu, d3⟩), d2.new _, ?_⟩
      exact ⟨⟨⟨_, rfl⟩, by rw [hc]⟩, trivial⟩
theorem resCs_sound : ∀ {ps : List RC} {vs : List Value} {O : List Conc} {st : St} {K : List (Bool × List Leaf) → St → Option R}, RComps w F ps vs O → (M.mapL resC ps).run st K = some r →
    ∃ ys st2, K ys st2 = some r ∧ ys.length = ps.length ∧ Grow st st2 O.length ∧ ∀ (X : Nat → Prop) (ρ : Rho) (a : Act) (sth : St) (bs : List Nat), RelC X ρ sth a w → Agree bs st sth → (∀ b, F b → Fix X ρ w b) → RowsAt ρ st.nb O →
      ∃ sth2, RelC X ρ sth2 a w ∧ Agree bs st2 sth2 ∧ CompsOk X ρ w ys vs
  | [], [], O, st, K, h, hr => by
    obtain rfl : O = [] := h
    exact ⟨[], st, hr, rfl, Grow.refl st, fun X ρ a sth bs h1 h2 _ _ => ⟨sth, h1, h2, trivial⟩⟩
  | p :: ps, v :: vs, O, st, K, h, hr => by
    obtain ⟨O1, O2, rfl, h1, h2⟩ := h
    unfold M.mapL at hr
    rw [M.run_bind] at hr
    obtain ⟨y, st1, hr1, g1, k1⟩ := resC_sound h1 hr
    rw [M.run_bind] at hr1
    obtain ⟨ys, st2, hr2, hl, g2, k2⟩ := resCs_sound h2 hr1
    refine ⟨y :: ys, st2, hr2, congrArg (· + 1) hl, by rw [List.length_append]; exact g1.trans g2, fun X ρ a sth bs c1 c2 c3 c4 => ?_⟩
    obtain ⟨sth1, d1, d2, d3⟩ := k1 X ρ a sth bs c1 c2 c3 c4.left
    have c5 := c4.right
    rw [← g1.nb] at c5
    obtain ⟨sth2, e1, e2, e3⟩ := k2 X ρ a sth1 bs d1 d2 c3 c5
    exact ⟨sth2, e1, e2, d3, e3⟩
  | [], _ :: _, _, _, _, h, _ => h.elim
  | _ :: _, [], _, _, _, h, _ => h.elim
theorem resOf_sound {rs : List RC} {v : Value} {O : List Conc} {st : St} {K : AV → St → Option R} (h : retOk w F rs v O) (hr : (resOf rs).run st K = some r) :
    ∃ y st2, K y st2 = some r ∧ Grow st st2 O.length ∧ ∀ (X : Nat → Prop) (ρ : Rho) (a : Act) (sth : St) (bs : List Nat), RelC X ρ sth a w → Agree bs st sth → (∀ b, F b → Fix X ρ w b) → RowsAt ρ st.nb O →
      ∃ sth2, RelC X ρ sth2 a w ∧ Agree bs st2 sth2 ∧ AvOk X ρ w y v := by
  unfold resOf at hr
  rw [M.run_bind] at hr
  unfold retOk at h
  split at h
  · rename_i p
    obtain ⟨ys, st2, hr2, hl, g2, k2⟩ := resCs_sound (ps := [p]) (vs := [v]) (O := O) ⟨O, [], by simp, h, rfl⟩ hr
    match ys, hl with
    | [q], _ =>
      refine ⟨_, st2, hr2, g2, fun X ρ a sth bs c1 c2 c3 c4 => ?_⟩
      obtain ⟨sth2, d1, d2, d3⟩ := k2 X ρ a sth bs c1 c2 c3 c4
      exact ⟨sth2, d1, d2, mk1_ok d3.1⟩
  · rename_i hne
    obtain ⟨vs, rfl, h⟩ := h
    obtain ⟨ys, st2, hr2, hl, g2, k2⟩ := resCs_sound h hr
    refine ⟨_, st2, hr2, g2, fun X ρ a sth bs c1 c2 c3 c4 => ?_⟩
    obtain ⟨sth2, d1, d2, d3⟩ := k2 X ρ a sth bs c1 c2 c3 c4
    refine ⟨sth2, d1, d2, ?_⟩
    unfold resFin
    split
    · rename_i b xs
      exfalso
      match rs, hl with
      | [p], _ => exact hne p rfl
    · exact ⟨vs, rfl, d3⟩
end
end Go.Proofs.YtaajcllchbnjiaaDoorE

namespace Go.Proofs.YtaajcllchbnjiaaDoorE
open Go Go.RowKit
set_option linter.unusedVariables false
section
variable {P : Program} {o : Oper} {X : Nat → Prop} {ρ ρ' : Rho} {st st' sth : St} {a : Act} {w w' : World} {g : Option (Nat × Bool)} {R : Type} {r : R} {K : AV → St → Option R} {C : Ctx}
theorem nodupB_ok : ∀ {bs : List Nat}, nodupB bs = true → bs.Nodup
  | [], _ => List.nodup_nil
  | b :: bs, h => by
    unfold nodupB at h
    obtain ⟨h1, h2⟩ := (Bool.and_eq_true _ _).mp h
    refine List.nodup_cons.2 ⟨fun hb => ?_, nodupB_ok h2⟩
    have : (bs.any (Nat.beq b)) = true := List.any_eq_true.2 ⟨b, hb, Nat.beq_refl b⟩
    rw [this] at h1
    cases h1
theorem disjB_ok {xs ys : List Nat} (h : disjB xs ys = true) : ∀ n, n ∈ xs → n ∈ ys → False := by
  intro n hx hy
  have h1 := List.all_eq_true.1 h n hx
  have h2 : (ys.any (Nat.beq n)) = true := List.any_eq_true.2 ⟨n, hy, Nat.beq_refl n⟩
  rw [h2] at h1
  cases h1
theorem fm_inj {α : Type} {f : α → Option Nat} : ∀ {O : List α} {p q : Nat} {u u' : α} {b : Nat}, (O.filterMap f).Nodup → O[p]? = some u → f u = some b → O[q]? = some u' → f u' = some b → p = q
  | [], p, _, _, _, _, _, h, _, _, _ => by simp at h
  | y :: O, p, q, u, u', b, hn, hp, hu, hq, hu' => by
    have tail : (O.filterMap f).Nodup := by
      cases hy : f y with
      | none => rwa [List.filterMap_cons_none hy] at hn
      | some c => rw [List.filterMap_cons_some hy] at hn; exact (List.nodup_cons.1 hn).2
    have notin : ∀ (k : Nat) (z : α), O[k]? = some z → f z = some b → f y ≠ some b := fun k z hk hz hy => by
      rw [List.filterMap_cons_some hy] at hn
      exact (List.nodup_cons.1 hn).1 (List.mem_filterMap.2 ⟨z, List.mem_of_getElem? hk, hz⟩)
    cases p with
    | zero =>
      cases hp
      cases q with
      | zero => rfl
      | succ q => exact absurd hu (notin q u' hq hu')
    | succ p =>
      cases q with
      | zero =>
        cases hq
        exact absurd hu' (notin p u hp hu)
      | succ q => rw [fm_inj tail (p := p) (q := q) hp hu hq hu']
theorem SlR.congr : ∀ {sl : List RS} {L : List GI}, SlR ρ sl L → (∀ n ∈ RS.ids sl, ρ' n = ρ n) → SlR ρ' sl L
  | [], [], _, _ => trivial
  | .box n :: sl, .blk _ :: _, h, k => ⟨(k n List.mem_cons_self).trans h.1, SlR.congr (sl := sl) h.2 fun c hc => k c (List.mem_cons_of_mem _ hc)⟩
  | .row n :: sl, .row _ :: _, h, k => ⟨(k n List.mem_cons_self).trans h.1, SlR.congr (sl := sl) h.2 fun c hc => k c (List.mem_cons_of_mem _ hc)⟩
  | .no :: sl, .no :: L, h, k => SlR.congr (sl := sl) (L := L) h k
theorem SlR.mem : ∀ {sl : List RS} {L : List GI}, SlR ρ sl L → (∀ n ∈ RS.ids sl, ∃ c, ρ n = some c) ∧ ∀ b ∈ GI.blocks L, ∃ n ∈ RS.ids sl, owns (ρ n) b
  | [], [], _ => ⟨(fun _ h => nomatch h), fun _ h => nomatch h⟩
  | .box n :: sl, .blk g :: L, h => by
    obtain ⟨h1, h3⟩ := h
    obtain ⟨i1, i2⟩ := SlR.mem h3
    refine ⟨fun c hc => ?_, fun b hb => ?_⟩
    · rcases List.mem_cons.1 hc with rfl | hc
      · exact ⟨_, h1⟩
      · exact i1 c hc
    · rcases List.mem_cons.1 hb with rfl | hb
      · exact ⟨n, List.mem_cons_self, by rw [h1]; rfl⟩
      · obtain ⟨k, hk, e⟩ := i2 b hb
        exact ⟨k, List.mem_cons_of_mem _ hk, e⟩
  | .row n :: sl, .row v :: L, h => by
    obtain ⟨h1, h3⟩ := h
    obtain ⟨i1, i2⟩ := SlR.mem h3
    refine ⟨fun c hc => ?_, fun b hb => ?_⟩
    · rcases List.mem_cons.1 hc with rfl | hc
      · exact ⟨_, h1⟩
      · exact i1 c hc
    · rcases List.mem_append.1 hb with hb | hb
      · exact ⟨n, List.mem_cons_self, by rw [h1]; exact Option.mem_toList.1 hb⟩
      · obtain ⟨k, hk, e⟩ := i2 b hb
        exact ⟨k, List.mem_cons_of_mem _ hk, e⟩
  | .no :: sl, .no :: L, h => SlR.mem (sl := sl) (L := L) h
theorem MvOk.mem : ∀ {ns : List Nat} {M : List Value}, MvOk ρ st ns M → (∀ n ∈ ns, (∃ v, ρ n = some (.row v)) ∧ st.ent n = .free) ∧ ∀ b ∈ mBlocks M, ∃ n ∈ ns, owns (ρ n) b
  | [], [], _ => ⟨(fun _ h => nomatch h), fun _ h => nomatch h⟩
  | n :: ns, v :: M, h => by
    obtain ⟨h1, h2, h3⟩ := h
    obtain ⟨i1, i2⟩ := MvOk.mem h3
    refine ⟨fun c hc => ?_, fun b hb => ?_⟩
    · rcases List.mem_cons.1 hc with rfl | hc
      · exact ⟨⟨_, h1⟩, h2⟩
      · exact i1 c hc
    · obtain ⟨u, hu, hub⟩ := List.mem_filterMap.1 hb
      rcases List.mem_cons.1 hu with rfl | hu
      · exact ⟨n, List.mem_cons_self, by rw [h1]; exact hub⟩
      · obtain ⟨k, hk, e⟩ := i2 b (List.mem_filterMap.2 ⟨u, hu, hub⟩)
        exact ⟨k, List.mem_cons_of_mem _ hk, e⟩
def hides : List Nat → St → St
  | [], st => st
  | n :: ns, st => hides ns (st.setB n .free)
theorem hides_ok : ∀ (ns : List Nat) (st : St), (hides ns st).n = st.n ∧ (hides ns st).tmps = st.tmps ∧ (hides ns st).gs = st.gs ∧ (hides ns st).nb = st.nb ∧ ∀ i, (hides ns st).ent i = if i ∈ ns then .free else st.ent i
  | [], st => ⟨rfl, rfl, rfl, rfl, fun i => by simp [hides]⟩
  | n :: ns, st => by
    obtain ⟨h1, h2, h3, h4, h5⟩ := hides_ok ns (st.setB n .free)
    refine ⟨h1, h2, h3, h4, fun i => ?_⟩
    show (hides ns (st.setB n .free)).ent i = _
    rw [h5, ent_setB]
    by_cases hi : i ∈ ns
    · rw [if_pos hi, if_pos (List.mem_cons_of_mem _ hi)]
    · rw [if_neg hi]
      by_cases hn : n = i
      · rw [if_pos hn, if_pos (by rw [hn]; exact List.mem_cons_self)]
      · rw [if_neg hn, if_neg (fun hm => by
          rcases List.mem_cons.1 hm with k | k
          · exact hn k.symm
          · exact hi k)]
theorem call_step (h : Rel X ρ st a w) {sl : List RS} {mv : List Nat} {L : List GI} {N : List Value} (hs : SlR ρ sl L) (hm : MvOk ρ st mv N) (hnd : (RS.ids sl ++ mv).Nodup) {rr : RR} {v : Value} (ans : Answer rr (Fix X ρ w) L N w v w')
    (hr : ((putRefs sl rr.refs).bind fun _ => resOf rr.res).run st K = some r) :
    ∃ av ρ' st', K av st' = some r ∧ Rel X ρ' st' a w' ∧ Ext ρ w ρ' w' ∧ st'.n = st.n ∧ AvOk X ρ' w' av v := by
  obtain ⟨⟨k1, k2, k3, k4, k5⟩, O1, O2, hO, hnO, hrefs, hret⟩ := ans
  rw [M.run_bind] at hr
  obtain ⟨st2, hr2, g1, p1⟩ := putRefs_sound hrefs hr
  obtain ⟨av, st3, hr3, g2, p2⟩ := resOf_sound hret hr2
  have gg := g1.trans g2
  rw [← List.length_append] at gg
  generalize hOO : O1 ++ O2 = O at *
  let ρ' : Rho := fun i => if st.nb ≤ i ∧ i < st.nb + O.length then O[i - st.nb]? else if i ∈ mv then (ρ i).map (fun _ => .dead) else ρ i
  have r1 : ∀ i, (st.nb ≤ i ∧ i < st.nb + O.length) → ρ' i = O[i - st.nb]? := fun i hi => if_pos hi
  have r2 : ∀ i, ¬ (st.nb ≤ i ∧ i < st.nb + O.length) → i ∈ mv → ρ' i = (ρ i).map (fun _ => .dead) := fun i hi hm => by
    show (if _ then _ else if _ then _ else _) = _
    rw [if_neg hi, if_pos hm]
  have r3 : ∀ i, ¬ (st.nb ≤ i ∧ i < st.nb + O.length) → i ∉ mv → ρ' i = ρ i := fun i hi hm => by
    show (if _ then _ else if _ then _ else _) = _
    rw [if_neg hi, if_neg hm]
  have non : ∀ i, (st.nb ≤ i ∧ i < st.nb + O.length) → ρ i = none := fun i hi => by
    rcases gg.lim with k | k
    · omega
    · exact h.fresh.1 i (.inl ⟨hi.1, by omega⟩)
  have old : ∀ i c, ρ i = some c → ¬ (st.nb ≤ i ∧ i < st.nb + O.length) := fun i c hc hi => by rw [non i hi] at hc; cases hc
  obtain ⟨s1, s2⟩ := hs.mem
  obtain ⟨m1, m2⟩ := hm.mem
  have dis : ∀ n, n ∈ RS.ids sl → n ∉ mv := fun n h1 h2 => (List.nodup_append.1 hnd).2.2 n h1 n h2 rfl
  have ownO : ∀ i b, (st.nb ≤ i ∧ i < st.nb + O.length) → owns (ρ' i) b → ∃ c, O[i - st.nb]? = some c ∧ cb c = some b := fun i b hi hb => by
    rw [r1 i hi] at hb
    cases hu : O[i - st.nb]? with
    | none => rw [hu] at hb; exact hb.elim
    | some c => rw [hu] at hb; exact ⟨c, rfl, cb_owns.2 hb⟩
  have ownR : ∀ i b, ¬ (st.nb ≤ i ∧ i < st.nb + O.length) → owns (ρ' i) b → i ∉ mv ∧ owns (ρ i) b := fun i b hi hb => by
    by_cases hmv : i ∈ mv
    · rw [r2 i hi hmv] at hb
      cases hc : ρ i with
      | none => rw [hc] at hb; exact hb.elim
      | some c => rw [hc] at hb; exact hb.elim
    · rw [r3 i hi hmv] at hb
      exact ⟨hmv, hb⟩
  have x : Ext ρ w ρ' w' := by
    refine ⟨k1, k2, k3, k4, ?_, ?_, ?_⟩
    · intro b hb hn
      refine k5 b hb fun hg => ?_
      rcases List.mem_append.1 hg with hg | hg
      · obtain ⟨n, _, hc⟩ := s2 b hg
        exact hn n hc
      · obtain ⟨n, _, hc⟩ := m2 b hg
        exact hn n hc
    · intro i b hi
      by_cases hrg : st.nb ≤ i ∧ i < st.nb + O.length
      · obtain ⟨c, hc, hcb⟩ := ownO i b hrg hi
        rcases (hO c (List.mem_of_getElem? hc) b hcb).1 with q | q
        · obtain ⟨n, _, hn⟩ := m2 b q
          exact .inl ⟨n, hn⟩
        · exact .inr q
      · exact .inl ⟨i, (ownR i b hrg hi).2⟩
    · intro i c hc
      by_cases hmv : i ∈ mv
      · rw [r2 i (old i c hc) hmv, hc]; exact .inr (.inl rfl)
      · rw [r3 i (old i c hc) hmv]; exact .inl hc
  have hF : ∀ b, Out (Fix X ρ w) (mBlocks N) w w' O b → Fix X ρ' w' b := by
    rintro b ⟨h1, h2, h3⟩
    refine ⟨h1, fun hx => ?_, fun i hi => ?_⟩
    · rcases h2 with h2 | h2 | h2
      · exact h2.2.1 hx
      · obtain ⟨n, _, hn⟩ := m2 b h2
        exact (h.lt n b hn).2 hx
      · have := h.xlt b hx; omega
    · by_cases hrg : st.nb ≤ i ∧ i < st.nb + O.length
      · obtain ⟨c, hc, hcb⟩ := ownO i b hrg hi
        exact h3 c (List.mem_of_getElem? hc) hcb
      · obtain ⟨q1, q2⟩ := ownR i b hrg hi
        rcases h2 with h2 | h2 | h2
        · exact h2.2.2 i q2
        · obtain ⟨n, hn, hb⟩ := m2 b h2
          rw [h.sep i n b q2 hb] at q1
          exact q1 hn
        · have := (h.lt i b q2).1; omega
  obtain ⟨d1, d2, d3, d4, d5⟩ := hides_ok (RS.ids sl) st
  have hc0 : RelC X ρ' (hides (RS.ids sl) st) a w' := by
    refine ⟨h.defers, by rw [d1]; exact h.size, ?_, ?_, ?_, ?_, ?_, fun b hb => Nat.lt_of_lt_of_le (h.xlt b hb) k4, h.gl.ext x⟩
    · intro i j b hi hj
      by_cases ri : st.nb ≤ i ∧ i < st.nb + O.length <;> by_cases rj : st.nb ≤ j ∧ j < st.nb + O.length
      · obtain ⟨c, hc, hcb⟩ := ownO i b ri hi
        obtain ⟨c', hc', hcb'⟩ := ownO j b rj hj
        have := fm_inj hnO hc hcb hc' hcb'
        omega
      · obtain ⟨c, hc, hcb⟩ := ownO i b ri hi
        obtain ⟨q1, q2⟩ := ownR j b rj hj
        exfalso
        rcases (hO c (List.mem_of_getElem? hc) b hcb).1 with q | q
        · obtain ⟨n, hn, hb⟩ := m2 b q
          rw [h.sep j n b q2 hb] at q1
          exact q1 hn
        · have := (h.lt j b q2).1; omega
      · obtain ⟨c, hc, hcb⟩ := ownO j b rj hj
        obtain ⟨q1, q2⟩ := ownR i b ri hi
        exfalso
        rcases (hO c (List.mem_of_getElem? hc) b hcb).1 with q | q
        · obtain ⟨n, hn, hb⟩ := m2 b q
          rw [h.sep i n b q2 hb] at q1
          exact q1 hn
        · have := (h.lt i b q2).1; omega
      · exact h.sep i j b (ownR i b ri hi).2 (ownR j b rj hj).2
    · intro i b hi
      by_cases ri : st.nb ≤ i ∧ i < st.nb + O.length
      · obtain ⟨c, hc, hcb⟩ := ownO i b ri hi
        have hb := hO c (List.mem_of_getElem? hc) b hcb
        refine ⟨hb.2, fun hx => ?_⟩
        rcases hb.1 with q | q
        · obtain ⟨n, _, hn⟩ := m2 b q
          exact (h.lt n b hn).2 hx
        · have := h.xlt b hx; omega
      · have q2 := (ownR i b ri hi).2
        exact ⟨Nat.lt_of_lt_of_le (h.lt i b q2).1 k4, (h.lt i b q2).2⟩
    · intro i
      rw [d5]
      split
      · trivial
      · rename_i hni
        by_cases ri : st.nb ≤ i ∧ i < st.nb + O.length
        · have h0 := h.ents i
          rw [non i ri] at h0
          cases he : st.ent i with
          | free => trivial
          | box t xs => rw [he] at h0; obtain ⟨_, _, _, e, _⟩ := h0; cases e
          | arr z e t l => rw [he] at h0; obtain ⟨_, e, _⟩ := h0; cases e
          | frz t l => rw [he] at h0; obtain ⟨_, e, _⟩ := h0; cases e
        · by_cases hmv : i ∈ mv
          · rw [(m1 i hmv).2]; trivial
          · refine EntOk.ext (h.ents i) x (r3 i ri hmv) fun b hb => k5 b (h.lt i b hb).1 fun hg => ?_
            rcases List.mem_append.1 hg with hg | hg
            · obtain ⟨n, hn, hnb⟩ := s2 b hg
              rw [h.sep i n b hb hnb] at hni
              exact hni hn
            · obtain ⟨n, hn, hnb⟩ := m2 b hg
              rw [h.sep i n b hb hnb] at hmv
              exact hmv hn
    · intro i
      rw [d2]
      exact (h.tmps i).ext x
    · intro i t b y hmem
      rw [d3] at hmem
      exact (h.gs i t b y hmem).imp (fun k => ⟨k.1, k.2.ext x⟩) id
  have hag : Agree (RS.ids sl ++ []) st (hides (RS.ids sl) st) := by
    refine ⟨d1.symm, d2.symm, d3.symm, d4.symm, fun i hi => ?_⟩
    rw [List.append_nil] at hi
    rw [d5, if_neg hi]
  have rows : RowsAt ρ' st.nb (O1 ++ O2) := fun j c hj => by
    rw [hOO] at hj
    have hjl := (List.getElem?_eq_some_iff.1 hj).1
    rw [r1 _ ⟨by omega, by omega⟩, show st.nb + j - st.nb = j by omega]
    exact hj
  have hsl : SlR ρ' sl L := hs.congr fun n hn => by
    obtain ⟨c, hc⟩ := s1 n hn
    exact r3 n (old n c hc) (dis n hn)
  obtain ⟨sth2, e1, e2⟩ := p1 X ρ' a _ [] hc0 hag hF hsl rows.left
  have rows2 := rows.right
  rw [← g1.nb] at rows2
  obtain ⟨sth3, f1, f2, f3⟩ := p2 X ρ' a sth2 [] e1 e2 hF rows2
  refine ⟨av, ρ', st3, hr3, (f2.relC f1).rel ⟨fun i hi => ?_, fun p hp => ?_⟩, x, gg.n, f3⟩
  · have nr : ¬ (st.nb ≤ i ∧ i < st.nb + O.length) ∧ ρ i = none := by
      rcases hi with hi | ⟨p, hp, hi⟩
      · rw [gg.nb, gg.lim2] at hi
        exact ⟨by omega, h.fresh.1 i (.inl ⟨by omega, hi.2⟩)⟩
      · rw [gg.res] at hp
        refine ⟨fun hrg => ?_, h.fresh.1 i (.inr ⟨p, hp, hi⟩)⟩
        rcases gg.lim with q | q
        · omega
        · rcases h.fresh.2 p hp with q2 | q2 <;> omega
    by_cases hmv : i ∈ mv
    · rw [r2 i nr.1 hmv, nr.2]; rfl
    · rw [r3 i nr.1 hmv]; exact nr.2
  · rw [gg.res] at hp
    rw [gg.nb, gg.lim2]
    rcases h.fresh.2 p hp with q | q
    · exact .inl (by omega)
    · exact .inr q
end
end Go.Proofs.YtaajcllchbnjiaaDoorE

namespace Go.Proofs.YtaajcllchbnjiaaDoorE
open Go Go.RowKit
set_option linter.unusedVariables false
section
variable {P : Program} {o : Oper} {X : Nat → Prop} {ρ ρ' : Rho} {st st' sth : St} {a : Act} {w w' : World} {g : Option (Nat × Bool)} {R : Type} {r : R} {K : AV → St → Option R} {C : Ctx}
theorem AvsOk.append : ∀ {xs ys : List AV} {us vs : List Value}, AvsOk X ρ w xs us → AvsOk X ρ w ys vs → AvsOk X ρ w (xs ++ ys) (us ++ vs)
  | [], _, [], _, _, k => k
  | _ :: _, _, _ :: _, _, h, k => ⟨h.1, AvsOk.append h.2 k⟩
  | [], _, _ :: _, _, h, _ => h.elim
  | _ :: _, _, [], _, h, _ => h.elim
theorem avs_leaves : ∀ {xs : List Leaf} {vs : List Value}, LeavesOk X ρ w xs vs → AvsOk X ρ w (xs.map .one) vs
  | [], [], _ => trivial
  | _ :: _, _ :: _, h => ⟨h.1, avs_leaves h.2⟩
  | [], _ :: _, h => h.elim
  | _ :: _, [], h => h.elim
theorem toM_run {c : CR} {K : RR → St → Option R} (hr : c.toM.run st K = some r) : ∃ rr, c.val = some rr ∧ K rr st = some r := by
  cases c with
  | fail => cases hr
  | ret q => exact ⟨q, rfl, hr⟩
  | opt β q f =>
    obtain ⟨b, hb, hr1⟩ := opt_run hr
    exact ⟨f b, by simp [CR.val, hb], hr1⟩
theorem lentOk_run : ∀ {sl : List RS} {K : Unit → St → Option R}, (lentOk sl).run st K = some r → K () st = some r ∧ ∀ n, RS.row n ∈ sl → ∃ z e t l, st.ent n = .arr z e t l
  | [], K, hr => ⟨hr, fun _ h => nomatch h⟩
  | .row n :: sl, K, hr => by
    replace hr : (match st.ent n with
      | .arr _ _ _ _ => lentOk sl
      | _ => .fail : M Unit).run st K = some r := hr
    split at hr
    · rename_i z e t l he
      obtain ⟨h1, h2⟩ := lentOk_run hr
      refine ⟨h1, fun m hm => ?_⟩
      rcases List.mem_cons.1 hm with k | k
      · cases k; exact ⟨_, _, _, _, he⟩
      · exact h2 m k
    · cases hr
  | .box n :: sl, K, hr => by
    obtain ⟨h1, h2⟩ := lentOk_run (sl := sl) hr
    refine ⟨h1, fun m hm => ?_⟩
    rcases List.mem_cons.1 hm with k | k
    · cases k
    · exact h2 m k
  | .no :: sl, K, hr => by
    obtain ⟨h1, h2⟩ := lentOk_run (sl := sl) hr
    refine ⟨h1, fun m hm => ?_⟩
    rcases List.mem_cons.1 hm with k | k
    · cases k
    · exact h2 m k
theorem SlOk.strict (h : Rel X ρ st a w) : ∀ {sl : List RS} {L : List GI}, SlOk ρ sl L → (∀ n, RS.row n ∈ sl → ∃ z e t l, st.ent n = .arr z e t l) → SlR ρ sl L
  | [], [], _, _ => trivial
  | .box n :: _, .blk _ :: _, k, q => ⟨k.1, SlOk.strict h k.2 fun m hm => q m (List.mem_cons_of_mem _ hm)⟩
  | .row n :: _, .row v :: _, k, q => by
    refine ⟨?_, SlOk.strict h k.2 fun m hm => q m (List.mem_cons_of_mem _ hm)⟩
    obtain ⟨z, e, t, l, he⟩ := q n List.mem_cons_self
    have h0 := h.ents n
    rw [he] at h0
    obtain ⟨u, hu, _⟩ := h0
    rcases k.1 with k1 | k1
    · exact k1
    · rw [k1] at hu; cases hu
  | .no :: sl, .no :: L, k, q => SlOk.strict h (sl := sl) (L := L) k fun m hm => q m (List.mem_cons_of_mem _ hm)
theorem fitB_run {ms : List LM} {e : Ent} {K : Bool → St → Option R} (hr : (fitB ms e).run st K = some r) : ∃ b, K b st = some r := by
  unfold fitB at hr
  split at hr <;> exact ⟨_, hr⟩
theorem fitCap_run {ms : List LM} {x : Leaf} {K : Bool → St → Option R} (hr : (fitCap ms x).run st K = some r) : ∃ b, K b st = some r := by
  unfold fitCap at hr
  split at hr
  · rename_i b
    replace hr : (bif roMs ms then fitB (ms.map fun _ => .ro) (st.ent b) else fitB ms (st.ent b)).run st K = some r := hr
    cases hm : roMs ms with
    | true => rw [hm] at hr; exact fitB_run hr
    | false => rw [hm] at hr; exact fitB_run hr
  · exact ⟨_, hr⟩
  · exact ⟨_, hr⟩
theorem fitCaps_run : ∀ {mss : List (List LM)} {xs : List Leaf} {K : Bool → St → Option R}, (fitCaps mss xs).run st K = some r → ∃ b, K b st = some r
  | [], [], K, hr => ⟨_, hr⟩
  | ms :: mss, x :: xs, K, hr => by
    unfold fitCaps at hr
    rw [M.run_bind] at hr
    obtain ⟨b1, hr1⟩ := fitCap_run hr
    rw [M.run_bind] at hr1
    obtain ⟨b2, hr2⟩ := fitCaps_run hr1
    exact ⟨_, hr2⟩
  | [], _ :: _, K, hr => ⟨_, hr⟩
  | _ :: _, [], K, hr => ⟨_, hr⟩
theorem fitA_run {m : PM} {x : AV} {K : Bool → St → Option R} (hr : (fitA m x).run st K = some r) : ∃ b, K b st = some r := by
  unfold fitA at hr
  split at hr
  all_goals first
    | exact ⟨_, hr⟩
    | exact fitB_run hr
    | skip
  rename_i f mss f' xs
  cases hf : Nat.beq f f' with
  | false => rw [hf] at hr; exact ⟨_, hr⟩
  | true => rw [hf] at hr; exact fitCaps_run hr
theorem fitAs_run : ∀ {ms : List PM} {xs : List AV} {K : Bool → St → Option R}, (fitAs ms xs).run st K = some r → ∃ b, K b st = some r
  | [], [], K, hr => ⟨_, hr⟩
  | m :: ms, x :: xs, K, hr => by
    unfold fitAs at hr
    rw [M.run_bind] at hr
    obtain ⟨b1, hr1⟩ := fitA_run hr
    rw [M.run_bind] at hr1
    obtain ⟨b2, hr2⟩ := fitAs_run hr1
    exact ⟨_, hr2⟩
  | [], _ :: _, K, hr => ⟨_, hr⟩
  | _ :: _, [], K, hr => ⟨_, hr⟩
theorem callAny_run {vs : List AV} : ∀ {cs : List Con}, (callAny cs vs).run st K = some r → ∃ c ∈ cs, (callC c vs).run st K = some r
  | [], hr => by cases hr
  | c :: cs, hr => by
    unfold callAny at hr
    rw [M.run_bind] at hr
    obtain ⟨b, hr1⟩ := fitAs_run hr
    cases b with
    | true => exact ⟨c, List.mem_cons_self, hr1⟩
    | false =>
      obtain ⟨d, hd, k⟩ := callAny_run (cs := cs) hr1
      exact ⟨d, List.mem_cons_of_mem _ hd, k⟩
theorem slots_nodup (h : Rel X ρ st a w) : ∀ {ns gs : List Nat}, ns.Nodup → (∃ f : Nat → Option Nat, gs = ns.filterMap f ∧ ∀ n ∈ ns, ∀ b, f n = some b → owns (ρ n) b) → gs.Nodup
  | [], _, _, ⟨f, rfl, _⟩ => List.nodup_nil
  | n :: ns, _, hn, ⟨f, rfl, hf⟩ => by
    obtain ⟨n1, n2⟩ := List.nodup_cons.1 hn
    have tail := slots_nodup h (gs := ns.filterMap f) n2 ⟨f, rfl, fun m hm => hf m (List.mem_cons_of_mem _ hm)⟩
    cases hb : f n with
    | none => rwa [List.filterMap_cons_none hb]
    | some b =>
      rw [List.filterMap_cons_some hb]
      refine List.nodup_cons.2 ⟨fun hm => ?_, tail⟩
      obtain ⟨m, hm1, hm2⟩ := List.mem_filterMap.1 hm
      have := h.sep n m b (hf n List.mem_cons_self b hb) (hf m (List.mem_cons_of_mem _ hm1) b hm2)
      rw [this] at n1
      exact n1 hm1
def cbO (c : Option Conc) : Option Nat := c.bind cb
theorem sl_blocks : ∀ {sl : List RS} {L : List GI}, SlR ρ sl L → GI.blocks L = (RS.ids sl).filterMap fun n => cbO (ρ n)
  | [], [], _ => rfl
  | .box n :: sl, .blk g :: L, h => by
    show g :: GI.blocks L = (n :: RS.ids sl).filterMap _
    rw [List.filterMap_cons_some (b := g) (by rw [h.1]; rfl), sl_blocks h.2]
  | .row n :: sl, .row v :: L, h => by
    show (ownB v).toList ++ GI.blocks L = (n :: RS.ids sl).filterMap _
    cases hv : (ownB v) with
    | none => rw [List.filterMap_cons_none (by rw [h.1]; exact hv), ← sl_blocks h.2]; rfl
    | some b => rw [List.filterMap_cons_some (b := b) (by rw [h.1]; exact hv), ← sl_blocks h.2]; rfl
  | .no :: sl, .no :: L, h => sl_blocks (sl := sl) (L := L) h
theorem mv_blocks : ∀ {ns : List Nat} {N : List Value}, MvOk ρ st ns N → mBlocks N = ns.filterMap fun n => cbO (ρ n)
  | [], [], _ => rfl
  | n :: ns, v :: N, h => by
    show (v :: N).filterMap _ = _
    cases hv : (ownB v) with
    | none =>
      rw [List.filterMap_cons_none hv, List.filterMap_cons_none (by rw [h.1]; exact hv)]
      exact mv_blocks h.2.2
    | some b =>
      rw [List.filterMap_cons_some hv, List.filterMap_cons_some (b := b) (by rw [h.1]; exact hv)]
      exact congrArg (b :: ·) (mv_blocks h.2.2)
theorem good_call (Co : ConsOk P C.con) (h : Rel X ρ st a w) (hg : Held a g) {c : Call} {f : Operand} (ho : o.op = .call c) (hc : c.callee = .value f)
    (hr : ((opd g f).bind fun fv => callV C g c.args.toList fv).run st K = some r) : Good P o a w X ρ st K r := by
  rw [M.run_bind] at hr
  obtain ⟨fv, hr1, hf⟩ := opd_sound h hg hr
  clear hr
  unfold callV at hr1
  split at hr1
  · rename_i k caps
    obtain ⟨cv, hfv, hcaps⟩ := hf
    rw [M.run_bind] at hr1
    obtain ⟨vs, hr, hvs⟩ := opds_sound h hg hr1
    clear hr1
    have hall := hvs.append (avs_leaves hcaps)
    unfold callF at hr
    obtain ⟨con, hcon, hr1⟩ := callAny_run hr
    clear hr
    obtain ⟨henter, hcall⟩ := Co k con hcon
    unfold callC at hr1
    rw [M.run_bind] at hr1
    obtain ⟨asx, ai, ρ1, st1, L, N, hr, h1, e1, n1, _, ca, sa, ma⟩ := argsOf_sound h hall hr1
    clear hr1
    dsimp only at hr
    rw [M.run_bind] at hr
    obtain ⟨hr1, hrow⟩ := lentOk_run hr
    clear hr
    cases hok : ai.ok with
    | false => rw [hok] at hr1; cases hr1
    | true =>
      rw [hok] at hr1
      obtain ⟨ok1, ok2⟩ := (Bool.and_eq_true _ _).mp hok
      have nd := nodupB_ok ok1
      have dj := disjB_ok ok2
      replace hr1 : ((con.f asx).toM.bind fun rr => (putRefs ai.sl rr.refs).bind fun _ => resOf rr.res).run st1 K = some r := hr1
      rw [M.run_bind] at hr1
      obtain ⟨rr, hrr, hr⟩ := toM_run hr1
      clear hr1
      have sr := sa.strict h1 hrow
      obtain ⟨s1, s2⟩ := sr.mem
      obtain ⟨m1, m2⟩ := ma.mem
      have hG : ∀ b, b ∈ GI.blocks L ++ mBlocks N → ∃ n ∈ RS.ids ai.sl ++ ai.mv, owns (ρ1 n) b := fun b hb => by
        rcases List.mem_append.1 hb with hb | hb
        · obtain ⟨n, hn, q⟩ := s2 b hb
          exact ⟨n, List.mem_append_left _ hn, q⟩
        · obtain ⟨n, hn, q⟩ := m2 b hb
          exact ⟨n, List.mem_append_right _ hn, q⟩
      have hnd : (GI.blocks L ++ mBlocks N).Nodup := by
        refine slots_nodup h1 nd ⟨fun n => cbO (ρ1 n), ?_, ?_⟩
        · rw [List.filterMap_append, ← sl_blocks sr, ← mv_blocks ma]
        · intro n _ b hb
          replace hb : cbO (ρ1 n) = some b := hb
          cases hc : ρ1 n with
          | none => rw [hc] at hb; cases hb
          | some c => rw [hc] at hb; exact cb_owns.1 hb
      have hFG : ∀ b, Fix X ρ1 w b → Bor w (GI.blocks L ++ mBlocks N) b := fun b hb => ⟨hb.1, fun hg => by
        obtain ⟨n, _, q⟩ := hG b hg
        exact hb.2.2 n q⟩
      have hBG : ∀ b, B0 ρ1 w ai.ro b → Bor w (GI.blocks L ++ mBlocks N) b := fun b hb => by
        rcases hb with hb | ⟨m, hm, q⟩
        · refine ⟨hb.1, fun hg => ?_⟩
          obtain ⟨n, _, q⟩ := hG b hg
          exact hb.2 n q
        · refine ⟨(h1.lt m b q).1, fun hg => ?_⟩
          obtain ⟨n, hn, q2⟩ := hG b hg
          rw [h1.sep n m b q2 q] at hn
          exact dj m hn hm
      have key := hcall asx rr hrr w _ (Fix X ρ1 w) L N hFG hnd ⟨h1.gl.1, fun n hn hm => by
        obtain ⟨i, _, q⟩ := hG n hm
        exact h1.gl.2 n hn i q⟩ (ca.mono (fun b hb => hb) hBG)
      intro next Q hq
      unfold Oper.wp
      have hx : (execOp a.eval o).run P w = .ok (.enter k (c.args.map a.eval ++ cv)) w := by
        unfold execOp
        rw [ho]
        simp [resolve, hc, hfv, Deferred.ofValue, invoke, henter]
      rw [hx, Oper.upon_enter]
      have harr : (List.map a.eval c.args.toList ++ cv.toList).toArray = c.args.map a.eval ++ cv := by
        apply Array.ext'
        simp
      rw [harr] at key
      refine key.mono ?_
      rintro e w' ⟨v, rfl, ans⟩
      obtain ⟨av, ρ2, st2, k0, k1, k2, k3, k4⟩ := call_step h1 sr ma nd ans hr
      exact hq av v ρ2 st2 w' k0 k4 k1 (e1.trans k2) (k3.trans n1)
  · cases hr1
end
end Go.Proofs.YtaajcllchbnjiaaDoorE
