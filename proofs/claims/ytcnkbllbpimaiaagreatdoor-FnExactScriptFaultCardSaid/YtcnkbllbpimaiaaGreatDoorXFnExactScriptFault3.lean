/- What the law FnExactScriptFault needs, part 4 of 11: the Lean functions of the Go functions that it reaches, with the proofs that the calls come to what they say, and plain facts about them. Conditions: those that each theorem states. Written by a session and by its programs (after the kit's printer). -/
import Derived.Orders
import Derived.Test.YtcnkbllbpimaiaaGreatDoorXFnExactScriptFault2
namespace Go.Proofs.YtcnkbllbpimaiaaGreatDoorE
open Go Go.RowKit
set_option linter.unusedVariables false
section
variable {P : Program} {o : Oper} {X : Nat → Prop} {ρ ρ' : Rho} {st st' : St} {a : Act} {w w' : World} {g : Option (Nat × Bool)} {R : Type} {r : R} {C : Ctx} {F F' B B' : Nat → Prop}

theorem dleaf_of {x : Leaf} {v : Value} (h : LeafOk X ρ w x v) (hd : isData x) : DLeaf w (Fix X ρ w) B x v := by
  cases x <;> first | exact h | exact hd.elim
theorem leaf_of_d {x : Leaf} {v : Value} (h : DLeaf w (Fix X ρ w) (fun _ => False) x v) : LeafOk X ρ w x v := by
  cases x <;> first | exact h | exact h.elim | exact Rep.move (fun b hb => hb.elim) h
theorem row_rep {z : Bool} {e : TypeId} {t : Ty} {v : Value} {l : List t.T} (h : RowOk w F z e t v l) (hm : isMap e = false) (hF : ∀ b, F b → F' b) (hv : ∀ b, ownB v = some b → F' b) : Rep w F' (.sl t) l [v] := by
  rcases h.slice hm with ⟨rfl, rfl⟩ | ⟨g, cap, cs, fr, rfl, hg, hu, _, hl, hsz, hx⟩
  · exact ⟨none, 0, rfl, Nat.le_refl _, .inl rfl⟩
  · refine ⟨_, cap, rfl, hl, .inr ⟨g, 0, rfl, hv g rfl, ?_⟩⟩
    intro j y hj
    refine ⟨_, ?_, Rep.move (fun b hb => ⟨rfl, hF b hb⟩) (hx j y hj)⟩
    intro i u hu'
    rw [cell_of_row w g (0 + j * t.sz + i) cs e fr hg]
    rw [List.getElem?_take] at hu'
    split at hu'
    · rw [List.getElem?_drop] at hu'
      rw [Nat.zero_add]
      simpa using hu'
    · cases hu'
/-- A slot is not looked at any more. -/
theorem Rel.hide (h : Rel X ρ st a w) (n : Nat) : Rel X ρ (st.setB n .free) a w := by
  refine ⟨h.defers, h.size, h.sep, h.lt, ?_, h.tmps, h.gs, h.fresh, h.xlt, h.gl⟩
  intro i
  rw [ent_setB]
  split
  · trivial
  · exact h.ents i
theorem VLs.cons {c : CL} {v : Value} {cs : List CL} {vs : List Value} {L1 L2 : List GI} (h : VLs w F B [c] [v] L1) (k : VLs w F B cs vs L2) : VLs w F B (c :: cs) (v :: vs) (L1 ++ L2) := by
  cases c with
  | leaf x =>
    obtain ⟨h1, h2⟩ := h
    obtain rfl : L1 = [] := h2
    exact ⟨h1, k⟩
  | row e t l =>
    match L1, h with
    | .row u :: L1, ⟨h1, h2, h3⟩ =>
      obtain rfl : L1 = [] := h3
      exact ⟨h1, h2, k⟩
  | nil =>
    match L1, h with
    | .no :: L1, ⟨h1, h3⟩ =>
      obtain rfl : L1 = [] := h3
      exact ⟨h1, k⟩
theorem MLs.cons {c : CL} {v : Value} {cs : List CL} {vs : List Value} {M1 M2 : List Value} (h : MLs w F B [c] [v] M1) (k : MLs w F B cs vs M2) : MLs w F B (c :: cs) (v :: vs) (M1 ++ M2) := by
  cases c with
  | leaf x =>
    obtain ⟨h1, h2⟩ := h
    obtain rfl : M1 = [] := h2
    exact ⟨h1, k⟩
  | row e t l =>
    match M1, h with
    | u :: M1, ⟨h1, h2, h3⟩ =>
      obtain rfl : M1 = [] := h3
      exact ⟨h1, h2, k⟩
  | nil =>
    obtain ⟨h1, h2⟩ := h
    obtain rfl : M1 = [] := h2
    exact ⟨h1, k⟩
theorem vArg_sound {K : CL × AI → St → Option R} (h : Rel X ρ st a w) {x : Leaf} {v : Value} (hx : LeafOk X ρ w x v) (hr : (vArg x).run st K = some r) :
    ∃ y ρ' st', K (.leaf y, AI.none) st' = some r ∧ Rel X ρ' st' a w ∧ Ext ρ w ρ' w ∧ st'.n = st.n ∧ Frz ρ st ρ' st' ∧ DLeaf w (Fix X ρ' w) (B0 ρ' w []) y v := by
  unfold vArg at hr
  rw [M.run_bind] at hr
  obtain ⟨y, ρ1, st1, hr1, h1, e1, n1, l1, d1, f1⟩ := pureLeaf_sound h hx hr
  exact ⟨y, ρ1, st1, hr1, h1, e1, n1, f1, dleaf_of l1 d1⟩
theorem roArg_sound {K : CL × AI → St → Option R} (h : Rel X ρ st a w) {x : Leaf} {v : Value} (hx : LeafOk X ρ w x v) (hr : (roArg x).run st K = some r) :
    ∃ y ns, K (.leaf y, ⟨[], ns, []⟩) st = some r ∧ DLeaf w (Fix X ρ w) (B0 ρ w ns) y v := by
  unfold roArg at hr
  split at hr
  · rename_i n
    replace hr : (match st.ent n with
      | .arr _ e r l => bif isMap e then .fail else M.ret (CL.leaf (.bor r l), (⟨[], [n], []⟩ : AI))
      | .frz r l => .ret (.leaf (.list r l), AI.none)
      | _ => .fail : M (CL × AI)).run st K = some r := hr
    have h0 := h.ents n
    have hx := hx.2
    split at hr
    · rename_i z e t l he
      rw [he] at h0
      obtain ⟨u, hu, h0⟩ := h0
      rw [hu] at hx
      obtain rfl : v = u := hx
      cases hm : isMap e with
      | true => rw [hm] at hr; cases hr
      | false =>
      rw [hm] at hr
      refine ⟨_, _, hr, row_rep h0 hm (fun b hb => .inl hb.brw) fun b hb => .inr ⟨n, List.mem_singleton.2 rfl, ?_⟩⟩
      rw [hu]
      exact hb
    · rename_i t l he
      rw [he] at h0
      obtain ⟨u, hu, h0⟩ := h0
      rw [hu] at hx
      obtain rfl : v = u := hx
      exact ⟨_, _, hr, h0⟩
    · cases hr
  · cases hr
  · cases hr
  · cases hr
  · rename_i h1 h2 h3 h4
    refine ⟨x, [], hr, ?_⟩
    cases x <;> first | exact (h4 _ _ rfl).elim | exact hx | exact (h1 _ rfl).elim | exact (h2 rfl).elim | exact (h3 _ _ rfl).elim | exact Rep.move (fun b hb => ⟨rfl, .inl hb⟩) hx
theorem leafArg_sound {K : CL × AI → St → Option R} (h : Rel X ρ st a w) {m : LM} {x : Leaf} {v : Value} (hx : LeafOk X ρ w x v) (hr : (leafArg m x).run st K = some r) :
    ∃ c ai ρ' st' L, K (c, ai) st' = some r ∧ Rel X ρ' st' a w ∧ Ext ρ w ρ' w ∧ st'.n = st.n ∧ Frz ρ st ρ' st' ∧ VLs w (Fix X ρ' w) (B0 ρ' w ai.ro) [c] [v] L ∧ SlOk ρ' ai.sl L ∧ ai.mv = [] := by
  unfold leafArg at hr
  split at hr
  · obtain ⟨y, ρ1, st1, k1, k2, k3, k4, k5, k6⟩ := vArg_sound h hx hr
    exact ⟨_, _, ρ1, st1, [], k1, k2, k3, k4, k5, ⟨k6, rfl⟩, trivial, rfl⟩
  · obtain ⟨y, ns, k1, k2⟩ := roArg_sound h hx hr
    exact ⟨_, _, ρ, st, [], k1, h, Ext.refl _ _, rfl, Frz.refl _ _, ⟨k2, rfl⟩, trivial, rfl⟩
  · rename_i n
    replace hr : (match st.ent n with
      | .arr false t r l => M.ret (CL.row t r l, (⟨[.row n], [], []⟩ : AI))
      | _ => .fail : M (CL × AI)).run st K = some r := hr
    have h0 := h.ents n
    have hx := hx.2
    split at hr
    · rename_i e t l he
      rw [he] at h0
      obtain ⟨u, hu, h0⟩ := h0
      rw [hu] at hx
      obtain rfl : v = u := hx
      exact ⟨_, _, ρ, st, [.row v], hr, h, Ext.refl _ _, rfl, Frz.refl _ _, ⟨rfl, h0, rfl⟩, ⟨.inl hu, trivial⟩, rfl⟩
    · cases hr
  · exact ⟨_, _, ρ, st, [.no], hr, h, Ext.refl _ _, rfl, Frz.refl _ _, ⟨hx, rfl⟩, trivial, rfl⟩
  · cases hr
theorem leafMv_sound {K : CL × AI → St → Option R} (h : Rel X ρ st a w) {m : LM} {x : Leaf} {v : Value} (hx : LeafOk X ρ w x v) (hr : (leafMv m x).run st K = some r) :
    ∃ c ai ρ' st' M, K (c, ai) st' = some r ∧ Rel X ρ' st' a w ∧ Ext ρ w ρ' w ∧ st'.n = st.n ∧ Frz ρ st ρ' st' ∧ MLs w (Fix X ρ' w) (B0 ρ' w ai.ro) [c] [v] M ∧ MvOk ρ' st' ai.mv M ∧ ai.sl = [] := by
  unfold leafMv at hr
  split at hr
  · obtain ⟨y, ρ1, st1, k1, k2, k3, k4, k5, k6⟩ := vArg_sound h hx hr
    exact ⟨_, _, ρ1, st1, [], k1, k2, k3, k4, k5, ⟨k6, rfl⟩, trivial, rfl⟩
  · rename_i n
    replace hr : (match st.ent n with
      | .arr false t r l => M.setb n .free (.ret (CL.row t r l, (⟨[], [], [n]⟩ : AI)))
      | _ => .fail : M (CL × AI)).run st K = some r := hr
    have h0 := h.ents n
    have hx := hx.2
    split at hr
    · rename_i e t l he
      rw [he] at h0
      obtain ⟨u, hu, h0⟩ := h0
      rw [hu] at hx
      obtain rfl : v = u := hx
      refine ⟨_, _, ρ, st.setB n .free, [v], hr, h.hide n, Ext.refl _ _, rfl, ⟨fun i => .inl rfl, rfl, ?_, ?_⟩, ⟨rfl, h0, rfl⟩, ⟨hu, by rw [ent_setB, if_pos rfl], trivial⟩, rfl⟩
      · intro i t xs hi
        rw [ent_setB, if_neg (fun e => by subst e; rw [he] at hi; cases hi)]
        exact hi
      · intro i hi
        refine ⟨?_, rfl⟩
        rw [ent_setB]
        split
        · rfl
        · exact hi
    · cases hr
  · exact ⟨_, _, ρ, st, [], hr, h, Ext.refl _ _, rfl, Frz.refl _ _, ⟨hx, rfl⟩, trivial, rfl⟩
  · cases hr
theorem leavesArg_sound : ∀ {ms : List LM} {xs : List Leaf} {vs : List Value} {ρ : Rho} {st : St} {K : List CL × AI → St → Option R}, Rel X ρ st a w → LeavesOk X ρ w xs vs → (leavesArg leafArg ms xs).run st K = some r →
    ∃ c ai ρ' st' L, K (c, ai) st' = some r ∧ Rel X ρ' st' a w ∧ Ext ρ w ρ' w ∧ st'.n = st.n ∧ Frz ρ st ρ' st' ∧ VLs w (Fix X ρ' w) (B0 ρ' w ai.ro) c vs L ∧ SlOk ρ' ai.sl L ∧ ai.mv = []
  | [], [], [], ρ, st, K, h, _, hr => ⟨_, _, ρ, st, [], hr, h, Ext.refl _ _, rfl, Frz.refl _ _, rfl, trivial, rfl⟩
  | m :: ms, x :: xs, v :: vs, ρ, st, K, h, hx, hr => by
    unfold leavesArg at hr
    rw [M.run_bind] at hr
    obtain ⟨c1, ai1, ρ1, st1, L1, hr1, h1, e1, n1, f1, v1, s1, m1⟩ := leafArg_sound h hx.1 hr
    rw [M.run_bind] at hr1
    obtain ⟨c2, ai2, ρ2, st2, L2, hr2, h2, e2, n2, f2, v2, s2, m2⟩ := leavesArg_sound h1 (hx.2.ext e1) hr1
    refine ⟨_, _, ρ2, st2, L1 ++ L2, hr2, h2, e1.trans e2, n2.trans n1, f1.trans f2, ?_, (s1.frz f2).append s2, ?_⟩
    · refine VLs.cons (VLs.mono (fun b hb => (e2.fix b hb).2) (fun b hb => ?_) v1) (VLs.mono (fun b hb => hb) (fun b hb => B0.right hb) v2)
      exact B0.left (B0.frz h1 e2 f2 hb)
    · show ai1.mv ++ ai2.mv = []
      rw [m1, m2]
      rfl
  | [], _ :: _, _, _, _, _, _, _, hr => by cases hr
  | _ :: _, [], _, _, _, _, _, _, hr => by cases hr
  | _, [], _ :: _, _, _, _, _, h, _ => h.elim
  | _, _ :: _, [], _, _, _, _, h, _ => h.elim
theorem leavesMv_sound : ∀ {ms : List LM} {xs : List Leaf} {vs : List Value} {ρ : Rho} {st : St} {K : List CL × AI → St → Option R}, Rel X ρ st a w → LeavesOk X ρ w xs vs → (leavesArg leafMv ms xs).run st K = some r →
    ∃ c ai ρ' st' M, K (c, ai) st' = some r ∧ Rel X ρ' st' a w ∧ Ext ρ w ρ' w ∧ st'.n = st.n ∧ Frz ρ st ρ' st' ∧ MLs w (Fix X ρ' w) (B0 ρ' w ai.ro) c vs M ∧ MvOk ρ' st' ai.mv M ∧ ai.sl = []
  | [], [], [], ρ, st, K, h, _, hr => ⟨_, _, ρ, st, [], hr, h, Ext.refl _ _, rfl, Frz.refl _ _, rfl, trivial, rfl⟩
  | m :: ms, x :: xs, v :: vs, ρ, st, K, h, hx, hr => by
    unfold leavesArg at hr
    rw [M.run_bind] at hr
    obtain ⟨c1, ai1, ρ1, st1, M1, hr1, h1, e1, n1, f1, v1, s1, m1⟩ := leafMv_sound h hx.1 hr
    rw [M.run_bind] at hr1
    obtain ⟨c2, ai2, ρ2, st2, M2, hr2, h2, e2, n2, f2, v2, s2, m2⟩ := leavesMv_sound h1 (hx.2.ext e1) hr1
    refine ⟨_, _, ρ2, st2, M1 ++ M2, hr2, h2, e1.trans e2, n2.trans n1, f1.trans f2, ?_, (s1.frz f2).append s2, ?_⟩
    · refine MLs.cons (MLs.mono (fun b hb => (e2.fix b hb).2) (fun b hb => ?_) v1) (MLs.mono (fun b hb => hb) (fun b hb => B0.right hb) v2)
      exact B0.left (B0.frz h1 e2 f2 hb)
    · show ai1.sl ++ ai2.sl = []
      rw [m1, m2]
      rfl
  | [], _ :: _, _, _, _, _, _, _, hr => by cases hr
  | _ :: _, [], _, _, _, _, _, _, hr => by cases hr
  | _, [], _ :: _, _, _, _, _, h, _ => h.elim
  | _, _ :: _, [], _, _, _, _, h, _ => h.elim
end
end Go.Proofs.YtcnkbllbpimaiaaGreatDoorE

namespace Go.Proofs.YtcnkbllbpimaiaaGreatDoorE
open Go Go.RowKit
set_option linter.unusedVariables false
section
variable {P : Program} {o : Oper} {X : Nat → Prop} {ρ ρ' : Rho} {st st' : St} {a : Act} {w w' : World} {g : Option (Nat × Bool)} {R : Type} {r : R} {C : Ctx} {F F' B B' : Nat → Prop}

theorem roLeaf_sound {K : Leaf × List Nat → St → Option R} (h : Rel X ρ st a w) {x : Leaf} {v : Value} (hx : LeafOk X ρ w x v) (hr : (roLeaf x).run st K = some r) :
    ∃ y ns, K (y, ns) st = some r ∧ DLeaf w (Fix X ρ w) (B0 ρ w ns) y v := by
  unfold roLeaf at hr
  rw [M.run_bind] at hr
  obtain ⟨y, ns, hr1, hy⟩ := roArg_sound h hx hr
  clear hr
  cases y with
  | list t l => exact ⟨_, _, hr1, Rep.move (fun b hb => ⟨rfl, .inl hb.brw⟩) hy⟩
  | _ => exact ⟨_, _, hr1, hy⟩
theorem roLeaves_sound (h : Rel X ρ st a w) : ∀ {xs : List Leaf} {vs : List Value} {K : List (Leaf × List Nat) → St → Option R}, LeavesOk X ρ w xs vs → (M.mapL roLeaf xs).run st K = some r →
    ∃ ys, K ys st = some r ∧ DLeaves w (Fix X ρ w) (B0 ρ w (ys.flatMap (·.2))) (ys.map (·.1)) vs
  | [], [], K, _, hr => ⟨[], hr, trivial⟩
  | x :: xs, v :: vs, K, hx, hr => by
    unfold M.mapL at hr
    rw [M.run_bind] at hr
    obtain ⟨y, ns, hr1, hy⟩ := roLeaf_sound h hx.1 hr
    rw [M.run_bind] at hr1
    obtain ⟨ys, hr2, hys⟩ := roLeaves_sound h hx.2 hr1
    refine ⟨(y, ns) :: ys, hr2, ?_, ?_⟩
    · exact hy.mono (fun b hb => hb) fun b hb => by
        rw [List.flatMap_cons]
        exact hb.left
    · exact hys.mono (fun b hb => hb) fun b hb => by
        rw [List.flatMap_cons]
        exact hb.right
  | [], _ :: _, _, h, _ => h.elim
  | _ :: _, [], _, h, _ => h.elim
theorem refArg_sound {K : (TypeId × List CL) × AI → St → Option R} (h : Rel X ρ st a w) {ms : List LM} {b : Nat} {v : Value} (hv : LeafOk X ρ w (.ptr b 0) v) (hr : (refArg ms b (st.ent b)).run st K = some r) :
    ∃ c ai ρ' st' L M, K (c, ai) st' = some r ∧ Rel X ρ' st' a w ∧ Ext ρ w ρ' w ∧ st'.n = st.n ∧ Frz ρ st ρ' st' ∧ (BoxOk w (Fix X ρ' w) (B0 ρ' w ai.ro) c.1 c.2 v L M ∧ c.1 ≠ roT) ∧ SlOk ρ' ai.sl L ∧ MvOk ρ' st' ai.mv M := by
  have h0 := h.ents b
  unfold refArg at hr
  split at hr
  · rename_i t xs he
    rw [he] at h0
    obtain ⟨gb, cs, fr, hb, hh, hu, hxs⟩ := h0
    cases ht : Nat.beq t roT with
    | true => rw [ht] at hr; cases hr
    | false =>
    rw [ht] at hr
    replace hr : ((leavesArg leafMv ms xs).bind fun a => M.ret ((t, a.1), AI.app ⟨[.box b], [], []⟩ a.2)).run st K = some r := hr
    rw [M.run_bind] at hr
    obtain ⟨c, ai, ρ1, st1, M, hr1, h1, e1, n1, f1, m1, v1, s1⟩ := leavesMv_sound h hxs hr
    have h2 := hv.2
    rw [hb] at h2
    have hb1 : ρ1 b = some (.blk gb) := by
      rcases f1.conc b with k | ⟨u, k, _⟩
      · rw [k]; exact hb
      · rw [hb] at k; cases k
    refine ⟨_, _, ρ1, st1, [.blk gb], M, hr1, h1, e1, n1, f1, ⟨⟨gb, cs, fr, rfl, h2, hh, hu, m1⟩, Nat.ne_of_beq_eq_false ht⟩, ?_, v1⟩
    show SlOk ρ1 ([.box b] ++ ai.sl) [.blk gb]
    rw [s1]
    exact ⟨hb1, trivial⟩
  · cases hr
theorem CapsOk.cons {c : TypeId × List CL} {v : Value} {cs : List (TypeId × List CL)} {vs : List Value} {L1 L2 : List GI} {M1 M2 : List Value} (h : CapOk w F B c v L1 M1) (k : CapsOk w F B cs vs L2 M2) : CapsOk w F B (c :: cs) (v :: vs) (L1 ++ L2) (M1 ++ M2) :=
  ⟨L1, L2, M1, M2, rfl, rfl, h, k⟩
theorem vls_leaves : ∀ {xs : List Leaf} {vs : List Value}, DLeaves w F B xs vs → VLs w F B (xs.map .leaf) vs []
  | [], [], _ => rfl
  | _ :: _, _ :: _, h => ⟨h.1, vls_leaves h.2⟩
  | [], _ :: _, h => h.elim
  | _ :: _, [], h => h.elim
theorem rpArg_sound {K : (TypeId × List CL) × AI → St → Option R} (h : Rel X ρ st a w) {xs : List Leaf} {cs : List Value} {b o : Nat} {v : Value} (hx : LeavesOk X ρ w xs cs) (hv : v = .pointer (some ⟨b, o, none⟩)) (hc : CellsAt w b o cs) (hr : (rpArg xs).run st K = some r) :
    ∃ c ns, K (c, ⟨[], ns, []⟩) st = some r ∧ ∀ ms, B0 ρ w (ns ++ ms) b → CapOk w (Fix X ρ w) (B0 ρ w (ns ++ ms)) c v [] [] := by
  unfold rpArg at hr
  rw [M.run_bind] at hr
  obtain ⟨ys, hr1, hy⟩ := roLeaves_sound h hx hr
  refine ⟨_, _, hr1, fun ms hb => ?_⟩
  unfold CapOk
  rw [if_pos rfl]
  refine ⟨rfl, rfl, b, o, cs, hv, hb, hc, ?_⟩
  have := vls_leaves (hy.mono (fun b hb => hb) (fun b hb => (hb.left : B0 ρ w (ys.flatMap (·.2) ++ ms) b)))
  rwa [List.map_map] at this
theorem capArg_sound {K : (TypeId × List CL) × AI → St → Option R} (h : Rel X ρ st a w) {ms : List LM} {x : Leaf} {v : Value} (hv : LeafOk X ρ w x v) (hr : (capArg ms x).run st K = some r) :
    ∃ c ai ρ' st' L M, K (c, ai) st' = some r ∧ Rel X ρ' st' a w ∧ Ext ρ w ρ' w ∧ st'.n = st.n ∧ Frz ρ st ρ' st' ∧ CapOk w (Fix X ρ' w) (B0 ρ' w ai.ro) c v L M ∧ SlOk ρ' ai.sl L ∧ MvOk ρ' st' ai.mv M := by
  unfold capArg at hr
  split at hr
  · rename_i b
    replace hr : (bif roMs ms then capBox b (st.ent b) else refArg ms b (st.ent b)).run st K = some r := hr
    cases hm : roMs ms with
    | true =>
      rw [hm] at hr
      replace hr : (capBox b (st.ent b)).run st K = some r := hr
      have h0 := h.ents b
      unfold capBox at hr
      split at hr
      · rename_i t xs he
        rw [he] at h0
        obtain ⟨gb, cs, fr, hb, hh, hu, hxs⟩ := h0
        have h2 := hv.2
        rw [hb] at h2
        rw [M.run_bind] at hr
        obtain ⟨c, ns, hr1, hc⟩ := rpArg_sound h hxs (b := gb) (o := 0) h2 (cells_block hh) hr
        refine ⟨_, _, ρ, st, [], [], hr1, h, Ext.refl _ _, rfl, Frz.refl _ _, hc [b] (.inr ⟨b, List.mem_append_right _ (List.mem_singleton.2 rfl), by rw [hb]; rfl⟩), trivial, trivial⟩
      · cases hr
    | false =>
      rw [hm] at hr
      replace hr : (refArg ms b (st.ent b)).run st K = some r := hr
      obtain ⟨c, ai, ρ1, st1, L, M, hr1, h1, e1, n1, f1, v1, s1, m1⟩ := refArg_sound h hv hr
      refine ⟨_, _, ρ1, st1, L, M, hr1, h1, e1, n1, f1, ?_, s1, m1⟩
      have hne : c.1 ≠ roT := v1.2
      unfold CapOk
      rw [if_neg hne]
      exact v1.1
  · rename_i t x
    cases hm : roMs ms with
    | false => rw [hm] at hr; cases hr
    | true =>
      rw [hm] at hr
      replace hr : (rpArg ((leaves t x).map borL)).run st K = some r := hr
      obtain ⟨gb, o, cs, h1, h2, h3, h4⟩ := hv
      obtain ⟨c, ns, hr1, hc⟩ := rpArg_sound h (leavesB_ok h4) (b := gb) (o := o) h1 h3 hr
      have := hc [] (.inl h2)
      rw [List.append_nil] at this
      exact ⟨_, _, ρ, st, [], [], hr1, h, Ext.refl _ _, rfl, Frz.refl _ _, this, trivial, trivial⟩
  · cases hr
theorem capsArg_sound : ∀ {mss : List (List LM)} {xs : List Leaf} {vs : List Value} {ρ : Rho} {st : St} {K : List (TypeId × List CL) × AI → St → Option R}, Rel X ρ st a w → LeavesOk X ρ w xs vs → (capsArg mss xs).run st K = some r →
    ∃ c ai ρ' st' L M, K (c, ai) st' = some r ∧ Rel X ρ' st' a w ∧ Ext ρ w ρ' w ∧ st'.n = st.n ∧ Frz ρ st ρ' st' ∧ CapsOk w (Fix X ρ' w) (B0 ρ' w ai.ro) c vs L M ∧ SlOk ρ' ai.sl L ∧ MvOk ρ' st' ai.mv M
  | [], [], [], ρ, st, K, h, _, hr => ⟨_, _, ρ, st, [], [], hr, h, Ext.refl _ _, rfl, Frz.refl _ _, ⟨rfl, rfl⟩, trivial, trivial⟩
  | ms :: mss, x :: xs, v :: vs, ρ, st, K, h, hx, hr => by
    unfold capsArg at hr
    rw [M.run_bind] at hr
    obtain ⟨c1, ai1, ρ1, st1, L1, M1, hr1, h1, e1, n1, f1, v1, s1, m1⟩ := capArg_sound h hx.1 hr
    rw [M.run_bind] at hr1
    obtain ⟨c2, ai2, ρ2, st2, L2, M2, hr2, h2, e2, n2, f2, v2, s2, m2⟩ := capsArg_sound h1 (hx.2.ext e1) hr1
    refine ⟨_, _, ρ2, st2, L1 ++ L2, M1 ++ M2, hr2, h2, e1.trans e2, n2.trans n1, f1.trans f2, ?_, (s1.frz f2).append s2, (m1.frz f2).append m2⟩
    exact CapsOk.cons (CapOk.mono (fun b hb => (e2.fix b hb).2) (fun b hb => B0.left (B0.frz h1 e2 f2 hb)) v1) (CapsOk.mono (fun b hb => hb) (fun b hb => B0.right hb) v2)
  | [], _ :: _, _, _, _, _, _, _, hr => by cases hr
  | _ :: _, [], _, _, _, _, _, _, hr => by cases hr
  | [], [], _ :: _, _, _, _, _, h, _ => h.elim
  | _ :: _, _ :: _, [], _, _, _, _, h, _ => h.elim
theorem rptrArg_sound {K : CArg × AI → St → Option R} (h : Rel X ρ st a w) {xs : List Leaf} {cs : List Value} (hx : LeavesOk X ρ w xs cs) (hr : (rptrArg xs).run st K = some r) :
    ∃ ys ns, K (.rptr ys, ⟨[], ns, []⟩) st = some r ∧ DLeaves w (Fix X ρ w) (B0 ρ w ns) ys cs := by
  unfold rptrArg at hr
  rw [M.run_bind] at hr
  obtain ⟨ys, hr1, hy⟩ := roLeaves_sound h hx hr
  exact ⟨_, _, hr1, hy⟩
theorem argOf_sound {K : CArg × AI → St → Option R} (h : Rel X ρ st a w) {m : PM} {x : AV} {v : Value} (hx : AvOk X ρ w x v) (hr : (argOf m x).run st K = some r) :
    ∃ c ai ρ' st' L M, K (c, ai) st' = some r ∧ Rel X ρ' st' a w ∧ Ext ρ w ρ' w ∧ st'.n = st.n ∧ Frz ρ st ρ' st' ∧ CArgOk w (Fix X ρ' w) (B0 ρ' w ai.ro) c v L M ∧ SlOk ρ' ai.sl L ∧ MvOk ρ' st' ai.mv M := by
  unfold argOf at hr
  split at hr
  · rename_i ms y
    rw [M.run_bind] at hr
    obtain ⟨c, ai, ρ1, st1, L, hr1, h1, e1, n1, f1, v1, s1, m1⟩ := leavesArg_sound h (xs := [y]) (vs := [v]) ⟨hx, trivial⟩ hr
    exact ⟨_, _, ρ1, st1, L, [], hr1, h1, e1, n1, f1, ⟨rfl, v1⟩, s1, by show MvOk ρ1 st1 ai.mv []; rw [m1]; trivial⟩
  · rename_i ms ys
    obtain ⟨cs, hv, hxs⟩ := hx
    rw [M.run_bind] at hr
    obtain ⟨c, ai, ρ1, st1, L, hr1, h1, e1, n1, f1, v1, s1, m1⟩ := leavesArg_sound h hxs hr
    exact ⟨_, _, ρ1, st1, L, [], hr1, h1, e1, n1, f1, ⟨rfl, cs, hv, v1⟩, s1, by show MvOk ρ1 st1 ai.mv []; rw [m1]; trivial⟩
  · rename_i b off
    replace hr : (match st.ent b with
      | .box _ xs => (rptrArg (xs.drop off)).bind fun a => .ret (a.1, a.2.app ⟨[], [b], []⟩)
      | _ => .fail : M (CArg × AI)).run st K = some r := hr
    have h0 := h.ents b
    split at hr
    · rename_i t xs he
      rw [he] at h0
      obtain ⟨gb, cs, fr, hb, hh, hu, hxs⟩ := h0
      have h2 := hx.2
      rw [hb] at h2
      rw [M.run_bind] at hr
      obtain ⟨ys, ns, hr1, hy⟩ := rptrArg_sound h (hxs.drop off) hr
      refine ⟨_, _, ρ, st, [], [], hr1, h, Ext.refl _ _, rfl, Frz.refl _ _, ⟨rfl, rfl, gb, off, _, h2, .inr ⟨b, ?_, by rw [hb]; rfl⟩, ?_, hy.mono (fun b hb => hb) fun b hb => hb.left⟩, trivial, trivial⟩
      · exact List.mem_append_right _ (List.mem_singleton.2 rfl)
      · intro i u hi
        rw [List.getElem?_drop] at hi
        rw [cell_of_row w gb (off + i) cs t fr hh]
        simpa using hi
    · cases hr
  · rename_i xs
    obtain ⟨gb, off, cs, hv, hg, hc, hxs⟩ := hx
    obtain ⟨ys, ns, hr1, hy⟩ := rptrArg_sound h hxs hr
    exact ⟨_, _, ρ, st, [], [], hr1, h, Ext.refl _ _, rfl, Frz.refl _ _, ⟨rfl, rfl, gb, off, cs, hv, .inl hg, hc, hy⟩, trivial, trivial⟩
  · rename_i t y
    obtain ⟨gb, off, cs, hv, hg, hc, hrep⟩ := hx
    obtain ⟨ys, ns, hr1, hy⟩ := rptrArg_sound h (leavesB_ok hrep) hr
    exact ⟨_, _, ρ, st, [], [], hr1, h, Ext.refl _ _, rfl, Frz.refl _ _, ⟨rfl, rfl, gb, off, cs, hv, .inl hg, hc, hy⟩, trivial, trivial⟩
  · rename_i ms b
    replace hr : ((refArg ms b (st.ent b)).bind fun a => M.ret (CArg.ref a.1.1 a.1.2, a.2)).run st K = some r := hr
    rw [M.run_bind] at hr
    obtain ⟨c, ai, ρ1, st1, L, M, hr1, h1, e1, n1, f1, v1, s1, m1⟩ := refArg_sound h hx hr
    exact ⟨_, _, ρ1, st1, L, M, hr1, h1, e1, n1, f1, v1.1, s1, m1⟩
  · rename_i f mss f' xs
    obtain ⟨cs, hv, hxs⟩ := hx
    rw [M.run_bind] at hr
    obtain ⟨c, ai, ρ1, st1, L, M, hr1, h1, e1, n1, f1, v1, s1, m1⟩ := capsArg_sound h hxs hr
    exact ⟨_, _, ρ1, st1, L, M, hr1, h1, e1, n1, f1, ⟨cs, hv, v1⟩, s1, m1⟩
  · rename_i n
    replace hr : (match st.ent n with
      | .arr false t r l => M.setb n .free (.ret (CArg.mv t r l, (⟨[], [], [n]⟩ : AI)))
      | _ => .fail : M (CArg × AI)).run st K = some r := hr
    have h0 := h.ents n
    have hx := hx.2
    split at hr
    · rename_i e t l he
      rw [he] at h0
      obtain ⟨u, hu, h0⟩ := h0
      rw [hu] at hx
      obtain rfl : v = u := hx
      refine ⟨_, _, ρ, st.setB n .free, [], [v], hr, h.hide n, Ext.refl _ _, rfl, ⟨fun i => .inl rfl, rfl, ?_, ?_⟩, ⟨rfl, rfl, h0⟩, trivial, ⟨hu, by rw [ent_setB, if_pos rfl], trivial⟩⟩
      · intro i t xs hi
        rw [ent_setB, if_neg (fun e => by subst e; rw [he] at hi; cases hi)]
        exact hi
      · intro i hi
        refine ⟨?_, rfl⟩
        rw [ent_setB]
        split
        · rfl
        · exact hi
    · cases hr
  · cases hr
theorem argsOf_sound : ∀ {ms : List PM} {xs : List AV} {vs : List Value} {ρ : Rho} {st : St} {K : List CArg × AI → St → Option R}, Rel X ρ st a w → AvsOk X ρ w xs vs → (argsOf ms xs).run st K = some r →
    ∃ c ai ρ' st' L M, K (c, ai) st' = some r ∧ Rel X ρ' st' a w ∧ Ext ρ w ρ' w ∧ st'.n = st.n ∧ Frz ρ st ρ' st' ∧ CArgsOk w (Fix X ρ' w) (B0 ρ' w ai.ro) c vs L M ∧ SlOk ρ' ai.sl L ∧ MvOk ρ' st' ai.mv M
  | [], [], [], ρ, st, K, h, _, hr => ⟨_, _, ρ, st, [], [], hr, h, Ext.refl _ _, rfl, Frz.refl _ _, ⟨rfl, rfl⟩, trivial, trivial⟩
  | m :: ms, x :: xs, v :: vs, ρ, st, K, h, hx, hr => by
    unfold argsOf at hr
    rw [M.run_bind] at hr
    obtain ⟨c1, ai1, ρ1, st1, L1, M1, hr1, h1, e1, n1, f1, v1, s1, m1⟩ := argOf_sound h hx.1 hr
    rw [M.run_bind] at hr1
    obtain ⟨c2, ai2, ρ2, st2, L2, M2, hr2, h2, e2, n2, f2, v2, s2, m2⟩ := argsOf_sound h1 (hx.2.ext e1) hr1
    refine ⟨_, _, ρ2, st2, L1 ++ L2, M1 ++ M2, hr2, h2, e1.trans e2, n2.trans n1, f1.trans f2, ⟨L1, L2, M1, M2, rfl, rfl, ?_, ?_⟩, (s1.frz f2).append s2, (m1.frz f2).append m2⟩
    · exact v1.mono (fun b hb => (e2.fix b hb).2) (fun b hb => B0.left (B0.frz h1 e2 f2 hb))
    · exact v2.mono (fun b hb => hb) (fun b hb => B0.right hb)
  | [], _ :: _, _, _, _, _, _, _, hr => by cases hr
  | _ :: _, [], _, _, _, _, _, _, hr => by cases hr
  | _, [], _ :: _, _, _, _, _, h, _ => h.elim
  | _, _ :: _, [], _, _, _, _, h, _ => h.elim
end
end Go.Proofs.YtcnkbllbpimaiaaGreatDoorE

namespace Go.Proofs.YtcnkbllbpimaiaaGreatDoorE
open Go Go.RowKit
set_option linter.unusedVariables false

/-- All of 'Rel' but what it says of free names. -/
structure RelC (X : Nat → Prop) (ρ : Rho) (st : St) (a : Act) (w : World) : Prop where
  defers : a.defers = []
  size : a.tmps.size = st.n
  sep : ∀ i j b, owns (ρ i) b → owns (ρ j) b → i = j
  lt : ∀ i b, owns (ρ i) b → b < w.heap.size ∧ ¬ X b
  ents : ∀ i, EntOk X ρ w (st.ent i) (ρ i)
  tmps : ∀ i, AvOk X ρ w (getL .unk st.tmps i) (tmOf a i)
  gs : ∀ i t b x, (i, t, b, x) ∈ st.gs → GdOk X ρ w (tmOf a) t b x (tmOf a i)
  xlt : ∀ b, X b → b < w.heap.size
  gl : Glo ρ w
/-- Two states that differ in some blocks' slots alone. -/
structure Agree (bs : List Nat) (st sth : St) : Prop where
  n : st.n = sth.n
  tmps : st.tmps = sth.tmps
  gs : st.gs = sth.gs
  nb : st.nb = sth.nb
  ent : ∀ i, i ∉ bs → st.ent i = sth.ent i
/-- k names have been taken. -/
structure Grow (st st2 : St) (k : Nat) : Prop where
  nb : st2.nb = st.nb + k
  lim : k = 0 ∨ st.nb + k ≤ st.lim
  lim2 : st2.lim = st.lim
  res : st2.res = st.res
  n : st2.n = st.n
theorem Grow.refl (st : St) : Grow st st 0 := ⟨rfl, .inl rfl, rfl, rfl, rfl⟩
theorem Grow.trans {st st1 st2 : St} {j k : Nat} (h : Grow st st1 j) (g : Grow st1 st2 k) : Grow st st2 (j + k) := by
  refine ⟨?_, ?_, g.lim2.trans h.lim2, g.res.trans h.res, g.n.trans h.n⟩
  · rw [g.nb, h.nb, Nat.add_assoc]
  · rcases g.lim with k0 | k1
    · rcases h.lim with j0 | j1
      · exact .inl (by omega)
      · exact .inr (by omega)
    · rw [h.nb, h.lim2] at k1
      exact .inr (by omega)
def RowsAt (ρ : Rho) (n : Nat) (O : List Conc) : Prop := ∀ (j : Nat) (c : Conc), O[j]? = some c → ρ (n + j) = some c
theorem RowsAt.left {ρ : Rho} {n : Nat} {O1 O2 : List Conc} (h : RowsAt ρ n (O1 ++ O2)) : RowsAt ρ n O1 := fun j u hj => h j u (by rw [List.getElem?_append_left (List.getElem?_eq_some_iff.1 hj).1]; exact hj)
theorem RowsAt.right {ρ : Rho} {n : Nat} {O1 O2 : List Conc} (h : RowsAt ρ n (O1 ++ O2)) : RowsAt ρ (n + O1.length) O2 := fun j u hj => by
  have := h (O1.length + j) u (by rw [List.getElem?_append_right (by omega)]; simpa using hj)
  rwa [← Nat.add_assoc] at this
def SlR (ρ : Rho) : List RS → List GI → Prop
  | [], [] => True
  | .box n :: sl, .blk g :: L => ρ n = some (.blk g) ∧ SlR ρ sl L
  | .row n :: sl, .row v :: L => ρ n = some (.row v) ∧ SlR ρ sl L
  | .no :: sl, .no :: L => SlR ρ sl L
  | _, _ => False
section
variable {P : Program} {o : Oper} {X : Nat → Prop} {ρ ρ' : Rho} {st st' sth : St} {a : Act} {w w' : World} {R : Type} {r : R} {C : Ctx} {F F' B B' : Nat → Prop} {bs : List Nat}
theorem RelC.rel (h : RelC X ρ st a w) (f : Free ρ st) : Rel X ρ st a w := ⟨h.defers, h.size, h.sep, h.lt, h.ents, h.tmps, h.gs, f, h.xlt, h.gl⟩
theorem RelC.new (h : RelC X ρ sth a w) {e : Ent} (he : EntOk X ρ w e (ρ sth.nb)) : RelC X ρ (sth.newB e) a w := by
  refine ⟨h.defers, h.size, h.sep, h.lt, fun i => ?_, h.tmps, h.gs, h.xlt, h.gl⟩
  rw [ent_newB]
  split
  · rename_i hi; rw [← hi]; exact he
  · exact h.ents i
theorem RelC.set (h : RelC X ρ sth a w) {n : Nat} {e : Ent} (he : EntOk X ρ w e (ρ n)) : RelC X ρ (sth.setB n e) a w := by
  refine ⟨h.defers, h.size, h.sep, h.lt, fun i => ?_, h.tmps, h.gs, h.xlt, h.gl⟩
  rw [ent_setB]
  split
  · rename_i hi; rw [← hi]; exact he
  · exact h.ents i
theorem Agree.new (h : Agree bs st sth) (e : Ent) : Agree bs (st.newB e) (sth.newB e) := by
  refine ⟨h.n, h.tmps, h.gs, congrArg (· + 1) h.nb, fun i hi => ?_⟩
  rw [ent_newB, ent_newB, h.nb, h.ent i hi]
theorem Agree.set {b : Nat} (h : Agree (b :: bs) st sth) (e : Ent) : Agree bs (st.setB b e) (sth.setB b e) := by
  refine ⟨h.n, h.tmps, h.gs, h.nb, fun i hi => ?_⟩
  rw [ent_setB, ent_setB]
  by_cases hb : b = i
  · rw [if_pos hb, if_pos hb]
  · rw [if_neg hb, if_neg hb]
    exact h.ent i (fun hm => by
      rcases List.mem_cons.1 hm with k | k
      · exact hb k.symm
      · exact hi k)
theorem Agree.relC (h : Agree [] st sth) (k : RelC X ρ sth a w) : RelC X ρ st a w := by
  refine ⟨k.defers, by rw [h.n]; exact k.size, k.sep, k.lt, fun i => ?_, by rw [h.tmps]; exact k.tmps, by rw [h.gs]; exact k.gs, k.xlt, k.gl⟩
  rw [h.ent i (by simp)]
  exact k.ents i
theorem row_form {z : Bool} {e : TypeId} {t : Ty} {v : Value} {l : List t.T} (h : RowOk w F z e t v l) : RowV v := h.form
theorem newRLs_sound : ∀ {xs : List RL} {vs : List Value} {O : List Conc} {st : St} {K : List Leaf → St → Option R}, RLsOk w F xs vs O → (M.mapL newRL xs).run st K = some r →
    ∃ ys st2, K ys st2 = some r ∧ Grow st st2 O.length ∧ ∀ (X : Nat → Prop) (ρ : Rho) (a : Act) (sth : St) (bs : List Nat), RelC X ρ sth a w → Agree bs st sth → (∀ b, F b → Fix X ρ w b) → RowsAt ρ st.nb O →
      ∃ sth2, RelC X ρ sth2 a w ∧ Agree bs st2 sth2 ∧ LeavesOk X ρ w ys vs
  | [], [], O, st, K, h, hr => by
    obtain rfl : O = [] := h
    exact ⟨[], st, hr, Grow.refl st, fun X ρ a sth bs h1 h2 _ _ => ⟨sth, h1, h2, trivial⟩⟩
  | .leaf x :: xs, v :: vs, O, st, K, h, hr => by
    obtain ⟨h1, h2⟩ := h
    unfold M.mapL at hr
    rw [M.run_bind] at hr
    replace hr : ((M.mapL newRL xs).bind fun ys => M.ret (x :: ys)).run st K = some r := hr
    rw [M.run_bind] at hr
    obtain ⟨ys, st2, hr2, g2, k2⟩ := newRLs_sound h2 hr
    refine ⟨x :: ys, st2, hr2, g2, fun X ρ a sth bs c1 c2 c3 c4 => ?_⟩
    obtain ⟨sth2, d1, d2, d3⟩ := k2 X ρ a sth bs c1 c2 c3 c4
    exact ⟨sth2, d1, d2, leaf_of_d (h1.mono c3 fun b hb => hb), d3⟩
  | .own e t l :: xs, v :: vs, c :: O, st, K, h, hr => by
    obtain ⟨rfl, h1, h2⟩ := h
    unfold M.mapL at hr
    rw [M.run_bind] at hr
    obtain ⟨hlt, hr1⟩ := run_new hr
    replace hr1 : ((M.mapL newRL xs).bind fun ys => M.ret (Leaf.own st.nb :: ys)).run (st.newB (.arr false e t l)) K = some r := hr1
    rw [M.run_bind] at hr1
    obtain ⟨ys, st2, hr2, g2, k2⟩ := newRLs_sound h2 hr1
    have g1 : Grow st (st.newB (.arr false e t l)) 1 := ⟨rfl, .inr hlt, rfl, rfl, rfl⟩
    refine ⟨.own st.nb :: ys, st2, hr2, ?_, fun X ρ a sth bs c1 c2 c3 c4 => ?_⟩
    · have := g1.trans g2
      rwa [Nat.add_comm] at this
    · have hc : ρ st.nb = some (.row v) := c4 0 _ rfl
      have he : EntOk X ρ w (.arr false e t l) (ρ sth.nb) := by
        rw [← c2.nb, hc]
        exact ⟨v, rfl, h1.mono c3⟩
      obtain ⟨sth2, d1, d2, d3⟩ := k2 X ρ a (sth.newB (.arr false e t l)) bs (c1.new he) (c2.new _) c3 (fun j u hj => by
        have := c4 (j + 1) u hj
        rwa [show st.nb + (j + 1) = st.nb + 1 + j by omega] at this)
      exact ⟨sth2, d1, d2, ⟨row_form h1, by rw [hc]⟩, d3⟩
  | .own _ _ _ :: _, _ :: _, [], _, _, h, _ => h.elim
  | [], _ :: _, _, _, _, h, _ => h.elim
  | .leaf _ :: _, [], _, _, _, h, _ => h.elim
  | .own _ _ _ :: _, [], _, _, _, h, _ => h.elim
theorem putRefs_sound : ∀ {sl : List RS} {rs : List RF} {L : List GI} {O : List Conc} {st : St} {K : Unit → St → Option R}, RRefs w F L rs O → (putRefs sl rs).run st K = some r →
    ∃ st2, K () st2 = some r ∧ Grow st st2 O.length ∧ ∀ (X : Nat → Prop) (ρ : Rho) (a : Act) (sth : St) (bs : List Nat), RelC X ρ sth a w → Agree (RS.ids sl ++ bs) st sth → (∀ b, F b → Fix X ρ w b) → SlR ρ sl L → RowsAt ρ st.nb O →
      ∃ sth2, RelC X ρ sth2 a w ∧ Agree bs st2 sth2
  | [], [], [], O, st, K, h, hr => by
    obtain rfl : O = [] := h
    exact ⟨st, hr, Grow.refl st, fun X ρ a sth bs h1 h2 _ _ _ => ⟨sth, h1, h2⟩⟩
  | .box b :: sl, .box t xs :: rs, .blk gb :: L, O, st, K, h, hr => by
    obtain ⟨O1, O2, cs, fr, rfl, hh, hu, hx, hrest⟩ := h
    unfold putRefs at hr
    rw [M.run_bind] at hr
    obtain ⟨ys, st1, hr1, g1, k1⟩ := newRLs_sound hx hr
    replace hr1 : (putRefs sl rs).run (st1.setB b (.box t ys)) K = some r := hr1
    obtain ⟨st2, hr2, g2, k2⟩ := putRefs_sound hrest hr1
    have g1' : Grow st (st1.setB b (.box t ys)) O1.length := ⟨g1.nb, g1.lim, g1.lim2, g1.res, g1.n⟩
    refine ⟨st2, hr2, by rw [List.length_append]; exact g1'.trans g2, fun X ρ a sth bs c1 c2 c3 c4 c5 => ?_⟩
    obtain ⟨sth1, d1, d2, d3⟩ := k1 X ρ a sth _ c1 c2 c3 c5.left
    refine k2 X ρ a (sth1.setB b (.box t ys)) bs (d1.set ⟨gb, cs, fr, c4.1, hh, hu, d3⟩) (Agree.set (bs := RS.ids sl ++ bs) d2 _) c3 c4.2 ?_
    have := c5.right
    rwa [← g1.nb] at this
  | .row n :: sl, .row e t l :: rs, .row v :: L, O, st, K, h, hr => by
    obtain ⟨h1, h2⟩ := h
    replace hr : (putRefs sl rs).run (st.setB n (.arr false e t l)) K = some r := hr
    obtain ⟨st2, hr2, g2, k2⟩ := putRefs_sound h2 hr
    refine ⟨st2, hr2, ⟨g2.nb, g2.lim, g2.lim2, g2.res, g2.n⟩, fun X ρ a sth bs c1 c2 c3 c4 c5 => ?_⟩
    exact k2 X ρ a (sth.setB n (.arr false e t l)) bs (c1.set ⟨v, c4.1, h1.mono c3⟩) (Agree.set (bs := RS.ids sl ++ bs) c2 _) c3 c4.2 c5
  | .row n :: sl, .row e t l :: rs, .no :: L, O, st, K, h, hr => by
    replace hr : (putRefs sl rs).run (st.setB n (.arr false e t l)) K = some r := hr
    obtain ⟨st2, hr2, g2, k2⟩ := putRefs_sound (L := L) h hr
    exact ⟨st2, hr2, ⟨g2.nb, g2.lim, g2.lim2, g2.res, g2.n⟩, fun X ρ a sth bs c1 c2 c3 c4 c5 => c4.elim⟩
  | .no :: sl, .row e t l :: rs, .no :: L, O, st, K, h, hr => by
    obtain ⟨st2, hr2, g2, k2⟩ := putRefs_sound (sl := sl) (rs := rs) (L := L) h hr
    exact ⟨st2, hr2, g2, fun X ρ a sth bs c1 c2 c3 c4 c5 => k2 X ρ a sth bs c1 c2 c3 c4 c5⟩
  | .no :: sl, .row e t l :: rs, .row v :: L, O, st, K, h, hr => by
    obtain ⟨st2, hr2, g2, k2⟩ := putRefs_sound (sl := sl) (rs := rs) (L := L) h.2 hr
    exact ⟨st2, hr2, g2, fun X ρ a sth bs c1 c2 c3 c4 c5 => c4.elim⟩
  | .box _ :: _, .row _ _ _ :: _, _, _, _, _, _, hr => by cases hr
  | .row _ :: _, .box _ _ :: _, _, _, _, _, _, hr => by cases hr
  | .no :: _, .box _ _ :: _, _, _, _, _, _, hr => by cases hr
  | [], _ :: _, _, _, _, _, _, hr => by cases hr
  | .box _ :: _, [], _, _, _, _, _, hr => by cases hr
  | .row _ :: _, [], _, _, _, _, _, hr => by cases hr
  | .no :: _, [], _, _, _, _, _, hr => by cases hr
  | [], [], .blk _ :: _, _, _, _, h, _ => h.elim
  | [], [], .row _ :: _, _, _, _, h, _ => h.elim
  | [], [], .no :: _, _, _, _, h, _ => h.elim
theorem resC_sound {p : RC} {v : Value} {O : List Conc} {st : St} {K : Bool × List Leaf → St → Option R} (h : RComp w F p v O) (hr : (resC p).run st K = some r) :
    ∃ y st2, K y st2 = some r ∧ Grow st st2 O.length ∧ ∀ (X : Nat → Prop) (ρ : Rho) (a : Act) (sth : St) (bs : List Nat), RelC X ρ sth a w → Agree bs st sth → (∀ b, F b → Fix X ρ w b) → RowsAt ρ st.nb O →
      ∃ sth2, RelC X ρ sth2 a w ∧ Agree bs st2 sth2 ∧ CompOk X ρ w y v := by
  cases p with
  | val ag xs =>
    unfold resC at hr
    rw [M.run_bind] at hr
    cases ag with
    | false =>
      obtain ⟨ys, st1, hr1, g1, k1⟩ := newRLs_sound (vs := [v]) h hr
      exact ⟨_, st1, hr1, g1, fun X ρ a sth bs c1 c2 c3 c4 => k1 X ρ a sth bs c1 c2 c3 c4⟩
    | true =>
      obtain ⟨cs, rfl, h⟩ := h
      obtain ⟨ys, st1, hr1, g1, k1⟩ := newRLs_sound h hr
      refine ⟨_, st1, hr1, g1, fun X ρ a sth bs c1 c2 c3 c4 => ?_⟩
      obtain ⟨sth2, d1, d2, d3⟩ := k1 X ρ a sth bs c1 c2 c3 c4
      exact ⟨sth2, d1, d2, cs, rfl, d3⟩
  | box t xs =>
    obtain ⟨gb, cs, fr, O1, rfl, rfl, hh, hu, hx⟩ := h
    unfold resC at hr
    rw [M.run_bind] at hr
    obtain ⟨ys, st1, hr1, g1, k1⟩ := newRLs_sound hx hr
    obtain ⟨hlt, hr2⟩ := run_new hr1
    have g2 : Grow st1 (st1.newB (.box t ys)) 1 := ⟨rfl, .inr hlt, rfl, rfl, rfl⟩
    refine ⟨_, _, hr2, ?_, fun X ρ a sth bs c1 c2 c3 c4 => ?_⟩
    · rw [List.length_append]
      exact g1.trans g2
    · obtain ⟨sth1, d1, d2, d3⟩ := k1 X ρ a sth bs c1 c2 c3 c4.left
      have hc : ρ st1.nb = some (.blk gb) := by
        have := c4.right 0 _ rfl
        rwa [← g1.nb] at this
      refine ⟨sth1.newB (.box t ys), d1.new (by rw [← d2.nb, hc]; exact ⟨gb, cs, fr, rfl, hh, hu, d3⟩), d2.new _, ?_⟩
      exact ⟨⟨⟨_, rfl⟩, by rw [hc]⟩, trivial⟩
theorem resCs_sound : ∀ {ps : List RC} {vs : List Value} {O : List Conc} {st : St} {K : List (Bool × List Leaf) → St → Option R}, RComps w F ps vs O → (M.mapL resC ps).run st K = some r →
    ∃ ys st2, K ys st2 = some r ∧ ys.length = ps.length ∧ Grow st st2 O.length ∧ ∀ (X : Nat → Prop) (ρ : Rho) (a : Act) (sth : St) (bs : List Nat), RelC X ρ sth a w → Agree bs st sth → (∀ b, F b → Fix X ρ w b) → RowsAt ρ st.nb O →
      ∃ sth2, RelC X ρ sth2 a w ∧ Agree bs st2 sth2 ∧ CompsOk X ρ w ys vs
  | [], [], O, st, K, h, hr => by
    obtain rfl : O = [] := h
    exact ⟨[], st, hr, rfl, Grow.refl st, fun X ρ a sth bs h1 h2 _ _ => ⟨sth, h1, h2, trivial⟩⟩
  | p :: ps, v :: vs, O, st, K, h, hr => by
    obtain ⟨O1, O2, rfl, h1, h2⟩ := h
    unfold M.mapL at hr
    rw [M.run_bind] at hr
    obtain ⟨y, st1, hr1, g1, k1⟩ := resC_sound h1 hr
    rw [M.run_bind] at hr1
    obtain ⟨ys, st2, hr2, hl, g2, k2⟩ := resCs_sound h2 hr1
    refine ⟨y :: ys, st2, hr2, congrArg (· + 1) hl, by rw [List.length_append]; exact g1.trans g2, fun X ρ a sth bs c1 c2 c3 c4 => ?_⟩
    obtain ⟨sth1, d1, d2, d3⟩ := k1 X ρ a sth bs c1 c2 c3 c4.left
    have c5 := c4.right
    rw [← g1.nb] at c5
    obtain ⟨sth2, e1, e2, e3⟩ := k2 X ρ a sth1 bs d1 d2 c3 c5
    exact ⟨sth2, e1, e2, d3, e3⟩
  | [], _ :: _, _, _, _, h, _ => h.elim
  | _ :: _, [], _, _, _, h, _ => h.elim
theorem resOf_sound {rs : List RC} {v : Value} {O : List Conc} {st : St} {K : AV → St → Option R} (h : retOk w F rs v O) (hr : (resOf rs).run st K = some r) :
    ∃ y st2, K y st2 = some r ∧ Grow st st2 O.length ∧ ∀ (X : Nat → Prop) (ρ : Rho) (a : Act) (sth : St) (bs : List Nat), RelC X ρ sth a w → Agree bs st sth → (∀ b, F b → Fix X ρ w b) → RowsAt ρ st.nb O →
      ∃ sth2, RelC X ρ sth2 a w ∧ Agree bs st2 sth2 ∧ AvOk X ρ w y v := by
  unfold resOf at hr
  rw [M.run_bind] at hr
  unfold retOk at h
  split at h
  · rename_i p
    obtain ⟨ys, st2, hr2, hl, g2, k2⟩ := resCs_sound (ps := [p]) (vs := [v]) (O := O) ⟨O, [], by simp, h, rfl⟩ hr
    match ys, hl with
    | [q], _ =>
      refine ⟨_, st2, hr2, g2, fun X ρ a sth bs c1 c2 c3 c4 => ?_⟩
      obtain ⟨sth2, d1, d2, d3⟩ := k2 X ρ a sth bs c1 c2 c3 c4
      exact ⟨sth2, d1, d2, mk1_ok d3.1⟩
  · rename_i hne
    obtain ⟨vs, rfl, h⟩ := h
    obtain ⟨ys, st2, hr2, hl, g2, k2⟩ := resCs_sound h hr
    refine ⟨_, st2, hr2, g2, fun X ρ a sth bs c1 c2 c3 c4 => ?_⟩
    obtain ⟨sth2, d1, d2, d3⟩ := k2 X ρ a sth bs c1 c2 c3 c4
    refine ⟨sth2, d1, d2, ?_⟩
    unfold resFin
    split
    · rename_i b xs
      exfalso
      match rs, hl with
      | [p], _ => exact hne p rfl
    · exact ⟨vs, rfl, d3⟩
end
end Go.Proofs.YtcnkbllbpimaiaaGreatDoorE

namespace Go.Proofs.YtcnkbllbpimaiaaGreatDoorE
open Go Go.RowKit
set_option linter.unusedVariables false
section
variable {P : Program} {o : Oper} {X : Nat → Prop} {ρ ρ' : Rho} {st st' sth : St} {a : Act} {w w' : World} {g : Option (Nat × Bool)} {R : Type} {r : R} {K : AV → St → Option R} {C : Ctx}
theorem nodupB_ok : ∀ {bs : List Nat}, nodupB bs = true → bs.Nodup
  | [], _ => List.nodup_nil
  | b :: bs, h => by
    unfold nodupB at h
    obtain ⟨h1, h2⟩ := (Bool.and_eq_true _ _).mp h
    refine List.nodup_cons.2 ⟨fun hb => ?_, nodupB_ok h2⟩
    have : (bs.any (Nat.beq b)) = true := List.any_eq_true.2 ⟨b, hb, Nat.beq_refl b⟩
    rw [this] at h1
    cases h1
theorem disjB_ok {xs ys : List Nat} (h : disjB xs ys = true) : ∀ n, n ∈ xs → n ∈ ys → False := by
  intro n hx hy
  have h1 := List.all_eq_true.1 h n hx
  have h2 : (ys.any (Nat.beq n)) = true := List.any_eq_true.2 ⟨n, hy, Nat.beq_refl n⟩
  rw [h2] at h1
  cases h1
theorem fm_inj {α : Type} {f : α → Option Nat} : ∀ {O : List α} {p q : Nat} {u u' : α} {b : Nat}, (O.filterMap f).Nodup → O[p]? = some u → f u = some b → O[q]? = some u' → f u' = some b → p = q
  | [], p, _, _, _, _, _, h, _, _, _ => by simp at h
  | y :: O, p, q, u, u', b, hn, hp, hu, hq, hu' => by
    have tail : (O.filterMap f).Nodup := by
      cases hy : f y with
      | none => rwa [List.filterMap_cons_none hy] at hn
      | some c => rw [List.filterMap_cons_some hy] at hn; exact (List.nodup_cons.1 hn).2
    have notin : ∀ (k : Nat) (z : α), O[k]? = some z → f z = some b → f y ≠ some b := fun k z hk hz hy => by
      rw [List.filterMap_cons_some hy] at hn
      exact (List.nodup_cons.1 hn).1 (List.mem_filterMap.2 ⟨z, List.mem_of_getElem? hk, hz⟩)
    cases p with
    | zero =>
      cases hp
      cases q with
      | zero => rfl
      | succ q => exact absurd hu (notin q u' hq hu')
    | succ p =>
      cases q with
      | zero =>
        cases hq
        exact absurd hu' (notin p u hp hu)
      | succ q => rw [fm_inj tail (p := p) (q := q) hp hu hq hu']
theorem SlR.congr : ∀ {sl : List RS} {L : List GI}, SlR ρ sl L → (∀ n ∈ RS.ids sl, ρ' n = ρ n) → SlR ρ' sl L
  | [], [], _, _ => trivial
  | .box n :: sl, .blk _ :: _, h, k => ⟨(k n List.mem_cons_self).trans h.1, SlR.congr (sl := sl) h.2 fun c hc => k c (List.mem_cons_of_mem _ hc)⟩
  | .row n :: sl, .row _ :: _, h, k => ⟨(k n List.mem_cons_self).trans h.1, SlR.congr (sl := sl) h.2 fun c hc => k c (List.mem_cons_of_mem _ hc)⟩
  | .no :: sl, .no :: L, h, k => SlR.congr (sl := sl) (L := L) h k
theorem SlR.mem : ∀ {sl : List RS} {L : List GI}, SlR ρ sl L → (∀ n ∈ RS.ids sl, ∃ c, ρ n = some c) ∧ ∀ b ∈ GI.blocks L, ∃ n ∈ RS.ids sl, owns (ρ n) b
  | [], [], _ => ⟨(fun _ h => nomatch h), fun _ h => nomatch h⟩
  | .box n :: sl, .blk g :: L, h => by
    obtain ⟨h1, h3⟩ := h
    obtain ⟨i1, i2⟩ := SlR.mem h3
    refine ⟨fun c hc => ?_, fun b hb => ?_⟩
    · rcases List.mem_cons.1 hc with rfl | hc
      · exact ⟨_, h1⟩
      · exact i1 c hc
    · rcases List.mem_cons.1 hb with rfl | hb
      · exact ⟨n, List.mem_cons_self, by rw [h1]; rfl⟩
      · obtain ⟨k, hk, e⟩ := i2 b hb
        exact ⟨k, List.mem_cons_of_mem _ hk, e⟩
  | .row n :: sl, .row v :: L, h => by
    obtain ⟨h1, h3⟩ := h
    obtain ⟨i1, i2⟩ := SlR.mem h3
    refine ⟨fun c hc => ?_, fun b hb => ?_⟩
    · rcases List.mem_cons.1 hc with rfl | hc
      · exact ⟨_, h1⟩
      · exact i1 c hc
    · rcases List.mem_append.1 hb with hb | hb
      · exact ⟨n, List.mem_cons_self, by rw [h1]; exact Option.mem_toList.1 hb⟩
      · obtain ⟨k, hk, e⟩ := i2 b hb
        exact ⟨k, List.mem_cons_of_mem _ hk, e⟩
  | .no :: sl, .no :: L, h => SlR.mem (sl := sl) (L := L) h
theorem MvOk.mem : ∀ {ns : List Nat} {M : List Value}, MvOk ρ st ns M → (∀ n ∈ ns, (∃ v, ρ n = some (.row v)) ∧ st.ent n = .free) ∧ ∀ b ∈ mBlocks M, ∃ n ∈ ns, owns (ρ n) b
  | [], [], _ => ⟨(fun _ h => nomatch h), fun _ h => nomatch h⟩
  | n :: ns, v :: M, h => by
    obtain ⟨h1, h2, h3⟩ := h
    obtain ⟨i1, i2⟩ := MvOk.mem h3
    refine ⟨fun c hc => ?_, fun b hb => ?_⟩
    · rcases List.mem_cons.1 hc with rfl | hc
      · exact ⟨⟨_, h1⟩, h2⟩
      · exact i1 c hc
    · obtain ⟨u, hu, hub⟩ := List.mem_filterMap.1 hb
      rcases List.mem_cons.1 hu with rfl | hu
      · exact ⟨n, List.mem_cons_self, by rw [h1]; exact hub⟩
      · obtain ⟨k, hk, e⟩ := i2 b (List.mem_filterMap.2 ⟨u, hu, hub⟩)
        exact ⟨k, List.mem_cons_of_mem _ hk, e⟩
def hides : List Nat → St → St
  | [], st => st
  | n :: ns, st => hides ns (st.setB n .free)
theorem hides_ok : ∀ (ns : List Nat) (st : St), (hides ns st).n = st.n ∧ (hides ns st).tmps = st.tmps ∧ (hides ns st).gs = st.gs ∧ (hides ns st).nb = st.nb ∧ ∀ i, (hides ns st).ent i = if i ∈ ns then .free else st.ent i
  | [], st => ⟨rfl, rfl, rfl, rfl, fun i => by simp [hides]⟩
  | n :: ns, st => by
    obtain ⟨h1, h2, h3, h4, h5⟩ := hides_ok ns (st.setB n .free)
    refine ⟨h1, h2, h3, h4, fun i => ?_⟩
    show (hides ns (st.setB n .free)).ent i = _
    rw [h5, ent_setB]
    by_cases hi : i ∈ ns
    · rw [if_pos hi, if_pos (List.mem_cons_of_mem _ hi)]
    · rw [if_neg hi]
      by_cases hn : n = i
      · rw [if_pos hn, if_pos (by rw [hn]; exact List.mem_cons_self)]
      · rw [if_neg hn, if_neg (fun hm => by
          rcases List.mem_cons.1 hm with k | k
          · exact hn k.symm
          · exact hi k)]
theorem call_step (h : Rel X ρ st a w) {sl : List RS} {mv : List Nat} {L : List GI} {N : List Value} (hs : SlR ρ sl L) (hm : MvOk ρ st mv N) (hnd : (RS.ids sl ++ mv).Nodup) {rr : RR} {v : Value} (ans : Answer rr (Fix X ρ w) L N w v w')
    (hr : ((putRefs sl rr.refs).bind fun _ => resOf rr.res).run st K = some r) :
    ∃ av ρ' st', K av st' = some r ∧ Rel X ρ' st' a w' ∧ Ext ρ w ρ' w' ∧ st'.n = st.n ∧ AvOk X ρ' w' av v := by
  obtain ⟨⟨k1, k2, k3, k4, k5⟩, O1, O2, hO, hnO, hrefs, hret⟩ := ans
  rw [M.run_bind] at hr
  obtain ⟨st2, hr2, g1, p1⟩ := putRefs_sound hrefs hr
  obtain ⟨av, st3, hr3, g2, p2⟩ := resOf_sound hret hr2
  have gg := g1.trans g2
  rw [← List.length_append] at gg
  generalize hOO : O1 ++ O2 = O at *
  let ρ' : Rho := fun i => if st.nb ≤ i ∧ i < st.nb + O.length then O[i - st.nb]? else if i ∈ mv then (ρ i).map (fun _ => .dead) else ρ i
  have r1 : ∀ i, (st.nb ≤ i ∧ i < st.nb + O.length) → ρ' i = O[i - st.nb]? := fun i hi => if_pos hi
  have r2 : ∀ i, ¬ (st.nb ≤ i ∧ i < st.nb + O.length) → i ∈ mv → ρ' i = (ρ i).map (fun _ => .dead) := fun i hi hm => by
    show (if _ then _ else if _ then _ else _) = _
    rw [if_neg hi, if_pos hm]
  have r3 : ∀ i, ¬ (st.nb ≤ i ∧ i < st.nb + O.length) → i ∉ mv → ρ' i = ρ i := fun i hi hm => by
    show (if _ then _ else if _ then _ else _) = _
    rw [if_neg hi, if_neg hm]
  have non : ∀ i, (st.nb ≤ i ∧ i < st.nb + O.length) → ρ i = none := fun i hi => by
    rcases gg.lim with k | k
    · omega
    · exact h.fresh.1 i (.inl ⟨hi.1, by omega⟩)
  have old : ∀ i c, ρ i = some c → ¬ (st.nb ≤ i ∧ i < st.nb + O.length) := fun i c hc hi => by rw [non i hi] at hc; cases hc
  obtain ⟨s1, s2⟩ := hs.mem
  obtain ⟨m1, m2⟩ := hm.mem
  have dis : ∀ n, n ∈ RS.ids sl → n ∉ mv := fun n h1 h2 => (List.nodup_append.1 hnd).2.2 n h1 n h2 rfl
  have ownO : ∀ i b, (st.nb ≤ i ∧ i < st.nb + O.length) → owns (ρ' i) b → ∃ c, O[i - st.nb]? = some c ∧ cb c = some b := fun i b hi hb => by
    rw [r1 i hi] at hb
    cases hu : O[i - st.nb]? with
    | none => rw [hu] at hb; exact hb.elim
    | some c => rw [hu] at hb; exact ⟨c, rfl, cb_owns.2 hb⟩
  have ownR : ∀ i b, ¬ (st.nb ≤ i ∧ i < st.nb + O.length) → owns (ρ' i) b → i ∉ mv ∧ owns (ρ i) b := fun i b hi hb => by
    by_cases hmv : i ∈ mv
    · rw [r2 i hi hmv] at hb
      cases hc : ρ i with
      | none => rw [hc] at hb; exact hb.elim
      | some c => rw [hc] at hb; exact hb.elim
    · rw [r3 i hi hmv] at hb
      exact ⟨hmv, hb⟩
  have x : Ext ρ w ρ' w' := by
    refine ⟨k1, k2, k3, k4, ?_, ?_, ?_⟩
    · intro b hb hn
      refine k5 b hb fun hg => ?_
      rcases List.mem_append.1 hg with hg | hg
      · obtain ⟨n, _, hc⟩ := s2 b hg
        exact hn n hc
      · obtain ⟨n, _, hc⟩ := m2 b hg
        exact hn n hc
    · intro i b hi
      by_cases hrg : st.nb ≤ i ∧ i < st.nb + O.length
      · obtain ⟨c, hc, hcb⟩ := ownO i b hrg hi
        rcases (hO c (List.mem_of_getElem? hc) b hcb).1 with q | q
        · obtain ⟨n, _, hn⟩ := m2 b q
          exact .inl ⟨n, hn⟩
        · exact .inr q
      · exact .inl ⟨i, (ownR i b hrg hi).2⟩
    · intro i c hc
      by_cases hmv : i ∈ mv
      · rw [r2 i (old i c hc) hmv, hc]; exact .inr (.inl rfl)
      · rw [r3 i (old i c hc) hmv]; exact .inl hc
  have hF : ∀ b, Out (Fix X ρ w) (mBlocks N) w w' O b → Fix X ρ' w' b := by
    rintro b ⟨h1, h2, h3⟩
    refine ⟨h1, fun hx => ?_, fun i hi => ?_⟩
    · rcases h2 with h2 | h2 | h2
      · exact h2.2.1 hx
      · obtain ⟨n, _, hn⟩ := m2 b h2
        exact (h.lt n b hn).2 hx
      · have := h.xlt b hx; omega
    · by_cases hrg : st.nb ≤ i ∧ i < st.nb + O.length
      · obtain ⟨c, hc, hcb⟩ := ownO i b hrg hi
        exact h3 c (List.mem_of_getElem? hc) hcb
      · obtain ⟨q1, q2⟩ := ownR i b hrg hi
        rcases h2 with h2 | h2 | h2
        · exact h2.2.2 i q2
        · obtain ⟨n, hn, hb⟩ := m2 b h2
          rw [h.sep i n b q2 hb] at q1
          exact q1 hn
        · have := (h.lt i b q2).1; omega
  obtain ⟨d1, d2, d3, d4, d5⟩ := hides_ok (RS.ids sl) st
  have hc0 : RelC X ρ' (hides (RS.ids sl) st) a w' := by
    refine ⟨h.defers, by rw [d1]; exact h.size, ?_, ?_, ?_, ?_, ?_, fun b hb => Nat.lt_of_lt_of_le (h.xlt b hb) k4, h.gl.ext x⟩
    · intro i j b hi hj
      by_cases ri : st.nb ≤ i ∧ i < st.nb + O.length <;> by_cases rj : st.nb ≤ j ∧ j < st.nb + O.length
      · obtain ⟨c, hc, hcb⟩ := ownO i b ri hi
        obtain ⟨c', hc', hcb'⟩ := ownO j b rj hj
        have := fm_inj hnO hc hcb hc' hcb'
        omega
      · obtain ⟨c, hc, hcb⟩ := ownO i b ri hi
        obtain ⟨q1, q2⟩ := ownR j b rj hj
        exfalso
        rcases (hO c (List.mem_of_getElem? hc) b hcb).1 with q | q
        · obtain ⟨n, hn, hb⟩ := m2 b q
          rw [h.sep j n b q2 hb] at q1
          exact q1 hn
        · have := (h.lt j b q2).1; omega
      · obtain ⟨c, hc, hcb⟩ := ownO j b rj hj
        obtain ⟨q1, q2⟩ := ownR i b ri hi
        exfalso
        rcases (hO c (List.mem_of_getElem? hc) b hcb).1 with q | q
        · obtain ⟨n, hn, hb⟩ := m2 b q
          rw [h.sep i n b q2 hb] at q1
          exact q1 hn
        · have := (h.lt i b q2).1; omega
      · exact h.sep i j b (ownR i b ri hi).2 (ownR j b rj hj).2
    · intro i b hi
      by_cases ri : st.nb ≤ i ∧ i < st.nb + O.length
      · obtain ⟨c, hc, hcb⟩ := ownO i b ri hi
        have hb := hO c (List.mem_of_getElem? hc) b hcb
        refine ⟨hb.2, fun hx => ?_⟩
        rcases hb.1 with q | q
        · obtain ⟨n, _, hn⟩ := m2 b q
          exact (h.lt n b hn).2 hx
        · have := h.xlt b hx; omega
      · have q2 := (ownR i b ri hi).2
        exact ⟨Nat.lt_of_lt_of_le (h.lt i b q2).1 k4, (h.lt i b q2).2⟩
    · intro i
      rw [d5]
      split
      · trivial
      · rename_i hni
        by_cases ri : st.nb ≤ i ∧ i < st.nb + O.length
        · have h0 := h.ents i
          rw [non i ri] at h0
          cases he : st.ent i with
          | free => trivial
          | box t xs => rw [he] at h0; obtain ⟨_, _, _, e, _⟩ := h0; cases e
          | arr z e t l => rw [he] at h0; obtain ⟨_, e, _⟩ := h0; cases e
          | frz t l => rw [he] at h0; obtain ⟨_, e, _⟩ := h0; cases e
        · by_cases hmv : i ∈ mv
          · rw [(m1 i hmv).2]; trivial
          · refine EntOk.ext (h.ents i) x (r3 i ri hmv) fun b hb => k5 b (h.lt i b hb).1 fun hg => ?_
            rcases List.mem_append.1 hg with hg | hg
            · obtain ⟨n, hn, hnb⟩ := s2 b hg
              rw [h.sep i n b hb hnb] at hni
              exact hni hn
            · obtain ⟨n, hn, hnb⟩ := m2 b hg
              rw [h.sep i n b hb hnb] at hmv
              exact hmv hn
    · intro i
      rw [d2]
      exact (h.tmps i).ext x
    · intro i t b y hmem
      rw [d3] at hmem
      exact (h.gs i t b y hmem).imp (fun k => ⟨k.1, k.2.ext x⟩) id
  have hag : Agree (RS.ids sl ++ []) st (hides (RS.ids sl) st) := by
    refine ⟨d1.symm, d2.symm, d3.symm, d4.symm, fun i hi => ?_⟩
    rw [List.append_nil] at hi
    rw [d5, if_neg hi]
  have rows : RowsAt ρ' st.nb (O1 ++ O2) := fun j c hj => by
    rw [hOO] at hj
    have hjl := (List.getElem?_eq_some_iff.1 hj).1
    rw [r1 _ ⟨by omega, by omega⟩, show st.nb + j - st.nb = j by omega]
    exact hj
  have hsl : SlR ρ' sl L := hs.congr fun n hn => by
    obtain ⟨c, hc⟩ := s1 n hn
    exact r3 n (old n c hc) (dis n hn)
  obtain ⟨sth2, e1, e2⟩ := p1 X ρ' a _ [] hc0 hag hF hsl rows.left
  have rows2 := rows.right
  rw [← g1.nb] at rows2
  obtain ⟨sth3, f1, f2, f3⟩ := p2 X ρ' a sth2 [] e1 e2 hF rows2
  refine ⟨av, ρ', st3, hr3, (f2.relC f1).rel ⟨fun i hi => ?_, fun p hp => ?_⟩, x, gg.n, f3⟩
  · have nr : ¬ (st.nb ≤ i ∧ i < st.nb + O.length) ∧ ρ i = none := by
      rcases hi with hi | ⟨p, hp, hi⟩
      · rw [gg.nb, gg.lim2] at hi
        exact ⟨by omega, h.fresh.1 i (.inl ⟨by omega, hi.2⟩)⟩
      · rw [gg.res] at hp
        refine ⟨fun hrg => ?_, h.fresh.1 i (.inr ⟨p, hp, hi⟩)⟩
        rcases gg.lim with q | q
        · omega
        · rcases h.fresh.2 p hp with q2 | q2 <;> omega
    by_cases hmv : i ∈ mv
    · rw [r2 i nr.1 hmv, nr.2]; rfl
    · rw [r3 i nr.1 hmv]; exact nr.2
  · rw [gg.res] at hp
    rw [gg.nb, gg.lim2]
    rcases h.fresh.2 p hp with q | q
    · exact .inl (by omega)
    · exact .inr q
end
end Go.Proofs.YtcnkbllbpimaiaaGreatDoorE

namespace Go.Proofs.YtcnkbllbpimaiaaGreatDoorE
open Go Go.RowKit
set_option linter.unusedVariables false
section
variable {P : Program} {o : Oper} {X : Nat → Prop} {ρ ρ' : Rho} {st st' sth : St} {a : Act} {w w' : World} {g : Option (Nat × Bool)} {R : Type} {r : R} {K : AV → St → Option R} {C : Ctx}
theorem AvsOk.append : ∀ {xs ys : List AV} {us vs : List Value}, AvsOk X ρ w xs us → AvsOk X ρ w ys vs → AvsOk X ρ w (xs ++ ys) (us ++ vs)
  | [], _, [], _, _, k => k
  | _ :: _, _, _ :: _, _, h, k => ⟨h.1, AvsOk.append h.2 k⟩
  | [], _, _ :: _, _, h, _ => h.elim
  | _ :: _, _, [], _, h, _ => h.elim
theorem avs_leaves : ∀ {xs : List Leaf} {vs : List Value}, LeavesOk X ρ w xs vs → AvsOk X ρ w (xs.map .one) vs
  | [], [], _ => trivial
  | _ :: _, _ :: _, h => ⟨h.1, avs_leaves h.2⟩
  | [], _ :: _, h => h.elim
  | _ :: _, [], h => h.elim
theorem toM_run {c : CR} {K : RR → St → Option R} (hr : c.toM.run st K = some r) : ∃ rr, c.val = some rr ∧ K rr st = some r := by
  cases c with
  | fail => cases hr
  | ret q => exact ⟨q, rfl, hr⟩
  | opt β q f =>
    obtain ⟨b, hb, hr1⟩ := opt_run hr
    exact ⟨f b, by simp [CR.val, hb], hr1⟩
theorem lentOk_run : ∀ {sl : List RS} {K : Unit → St → Option R}, (lentOk sl).run st K = some r → K () st = some r ∧ ∀ n, RS.row n ∈ sl → ∃ z e t l, st.ent n = .arr z e t l
  | [], K, hr => ⟨hr, fun _ h => nomatch h⟩
  | .row n :: sl, K, hr => by
    replace hr : (match st.ent n with
      | .arr _ _ _ _ => lentOk sl
      | _ => .fail : M Unit).run st K = some r := hr
    split at hr
    · rename_i z e t l he
      obtain ⟨h1, h2⟩ := lentOk_run hr
      refine ⟨h1, fun m hm => ?_⟩
      rcases List.mem_cons.1 hm with k | k
      · cases k; exact ⟨_, _, _, _, he⟩
      · exact h2 m k
    · cases hr
  | .box n :: sl, K, hr => by
    obtain ⟨h1, h2⟩ := lentOk_run (sl := sl) hr
    refine ⟨h1, fun m hm => ?_⟩
    rcases List.mem_cons.1 hm with k | k
    · cases k
    · exact h2 m k
  | .no :: sl, K, hr => by
    obtain ⟨h1, h2⟩ := lentOk_run (sl := sl) hr
    refine ⟨h1, fun m hm => ?_⟩
    rcases List.mem_cons.1 hm with k | k
    · cases k
    · exact h2 m k
theorem SlOk.strict (h : Rel X ρ st a w) : ∀ {sl : List RS} {L : List GI}, SlOk ρ sl L → (∀ n, RS.row n ∈ sl → ∃ z e t l, st.ent n = .arr z e t l) → SlR ρ sl L
  | [], [], _, _ => trivial
  | .box n :: _, .blk _ :: _, k, q => ⟨k.1, SlOk.strict h k.2 fun m hm => q m (List.mem_cons_of_mem _ hm)⟩
  | .row n :: _, .row v :: _, k, q => by
    refine ⟨?_, SlOk.strict h k.2 fun m hm => q m (List.mem_cons_of_mem _ hm)⟩
    obtain ⟨z, e, t, l, he⟩ := q n List.mem_cons_self
    have h0 := h.ents n
    rw [he] at h0
    obtain ⟨u, hu, _⟩ := h0
    rcases k.1 with k1 | k1
    · exact k1
    · rw [k1] at hu; cases hu
  | .no :: sl, .no :: L, k, q => SlOk.strict h (sl := sl) (L := L) k fun m hm => q m (List.mem_cons_of_mem _ hm)
theorem fitB_run {ms : List LM} {e : Ent} {K : Bool → St → Option R} (hr : (fitB ms e).run st K = some r) : ∃ b, K b st = some r := by
  unfold fitB at hr
  split at hr <;> exact ⟨_, hr⟩
theorem fitCap_run {ms : List LM} {x : Leaf} {K : Bool → St → Option R} (hr : (fitCap ms x).run st K = some r) : ∃ b, K b st = some r := by
  unfold fitCap at hr
  split at hr
  · rename_i b
    replace hr : (bif roMs ms then fitB (ms.map fun _ => .ro) (st.ent b) else fitB ms (st.ent b)).run st K = some r := hr
    cases hm : roMs ms with
    | true => rw [hm] at hr; exact fitB_run hr
    | false => rw [hm] at hr; exact fitB_run hr
  · exact ⟨_, hr⟩
  · exact ⟨_, hr⟩
theorem fitCaps_run : ∀ {mss : List (List LM)} {xs : List Leaf} {K : Bool → St → Option R}, (fitCaps mss xs).run st K = some r → ∃ b, K b st = some r
  | [], [], K, hr => ⟨_, hr⟩
  | ms :: mss, x :: xs, K, hr => by
    unfold fitCaps at hr
    rw [M.run_bind] at hr
    obtain ⟨b1, hr1⟩ := fitCap_run hr
    rw [M.run_bind] at hr1
    obtain ⟨b2, hr2⟩ := fitCaps_run hr1
    exact ⟨_, hr2⟩
  | [], _ :: _, K, hr => ⟨_, hr⟩
  | _ :: _, [], K, hr => ⟨_, hr⟩
theorem fitA_run {m : PM} {x : AV} {K : Bool → St → Option R} (hr : (fitA m x).run st K = some r) : ∃ b, K b st = some r := by
  unfold fitA at hr
  split at hr
  all_goals first
    | exact ⟨_, hr⟩
    | exact fitB_run hr
    | skip
  rename_i f mss f' xs
  cases hf : Nat.beq f f' with
  | false => rw [hf] at hr; exact ⟨_, hr⟩
  | true => rw [hf] at hr; exact fitCaps_run hr
theorem fitAs_run : ∀ {ms : List PM} {xs : List AV} {K : Bool → St → Option R}, (fitAs ms xs).run st K = some r → ∃ b, K b st = some r
  | [], [], K, hr => ⟨_, hr⟩
  | m :: ms, x :: xs, K, hr => by
    unfold fitAs at hr
    rw [M.run_bind] at hr
    obtain ⟨b1, hr1⟩ := fitA_run hr
    rw [M.run_bind] at hr1
    obtain ⟨b2, hr2⟩ := fitAs_run hr1
    exact ⟨_, hr2⟩
  | [], _ :: _, K, hr => ⟨_, hr⟩
  | _ :: _, [], K, hr => ⟨_, hr⟩
theorem callAny_run {vs : List AV} : ∀ {cs : List Con}, (callAny cs vs).run st K = some r → ∃ c ∈ cs, (callC c vs).run st K = some r
  | [], hr => by cases hr
  | c :: cs, hr => by
    unfold callAny at hr
    rw [M.run_bind] at hr
    obtain ⟨b, hr1⟩ := fitAs_run hr
    cases b with
    | true => exact ⟨c, List.mem_cons_self, hr1⟩
    | false =>
      obtain ⟨d, hd, k⟩ := callAny_run (cs := cs) hr1
      exact ⟨d, List.mem_cons_of_mem _ hd, k⟩
theorem slots_nodup (h : Rel X ρ st a w) : ∀ {ns gs : List Nat}, ns.Nodup → (∃ f : Nat → Option Nat, gs = ns.filterMap f ∧ ∀ n ∈ ns, ∀ b, f n = some b → owns (ρ n) b) → gs.Nodup
  | [], _, _, ⟨f, rfl, _⟩ => List.nodup_nil
  | n :: ns, _, hn, ⟨f, rfl, hf⟩ => by
    obtain ⟨n1, n2⟩ := List.nodup_cons.1 hn
    have tail := slots_nodup h (gs := ns.filterMap f) n2 ⟨f, rfl, fun m hm => hf m (List.mem_cons_of_mem _ hm)⟩
    cases hb : f n with
    | none => rwa [List.filterMap_cons_none hb]
    | some b =>
      rw [List.filterMap_cons_some hb]
      refine List.nodup_cons.2 ⟨fun hm => ?_, tail⟩
      obtain ⟨m, hm1, hm2⟩ := List.mem_filterMap.1 hm
      have := h.sep n m b (hf n List.mem_cons_self b hb) (hf m (List.mem_cons_of_mem _ hm1) b hm2)
      rw [this] at n1
      exact n1 hm1
def cbO (c : Option Conc) : Option Nat := c.bind cb
theorem sl_blocks : ∀ {sl : List RS} {L : List GI}, SlR ρ sl L → GI.blocks L = (RS.ids sl).filterMap fun n => cbO (ρ n)
  | [], [], _ => rfl
  | .box n :: sl, .blk g :: L, h => by
    show g :: GI.blocks L = (n :: RS.ids sl).filterMap _
    rw [List.filterMap_cons_some (b := g) (by rw [h.1]; rfl), sl_blocks h.2]
  | .row n :: sl, .row v :: L, h => by
    show (ownB v).toList ++ GI.blocks L = (n :: RS.ids sl).filterMap _
    cases hv : (ownB v) with
    | none => rw [List.filterMap_cons_none (by rw [h.1]; exact hv), ← sl_blocks h.2]; rfl
    | some b => rw [List.filterMap_cons_some (b := b) (by rw [h.1]; exact hv), ← sl_blocks h.2]; rfl
  | .no :: sl, .no :: L, h => sl_blocks (sl := sl) (L := L) h
theorem mv_blocks : ∀ {ns : List Nat} {N : List Value}, MvOk ρ st ns N → mBlocks N = ns.filterMap fun n => cbO (ρ n)
  | [], [], _ => rfl
  | n :: ns, v :: N, h => by
    show (v :: N).filterMap _ = _
    cases hv : (ownB v) with
    | none =>
      rw [List.filterMap_cons_none hv, List.filterMap_cons_none (by rw [h.1]; exact hv)]
      exact mv_blocks h.2.2
    | some b =>
      rw [List.filterMap_cons_some hv, List.filterMap_cons_some (b := b) (by rw [h.1]; exact hv)]
      exact congrArg (b :: ·) (mv_blocks h.2.2)
theorem good_call (Co : ConsOk P C.con) (h : Rel X ρ st a w) (hg : Held a g) {c : Call} {f : Operand} (ho : o.op = .call c) (hc : c.callee = .value f)
    (hr : ((opd g f).bind fun fv => callV C g c.args.toList fv).run st K = some r) : Good P o a w X ρ st K r := by
  rw [M.run_bind] at hr
  obtain ⟨fv, hr1, hf⟩ := opd_sound h hg hr
  clear hr
  unfold callV at hr1
  split at hr1
  · rename_i k caps
    obtain ⟨cv, hfv, hcaps⟩ := hf
    rw [M.run_bind] at hr1
    obtain ⟨vs, hr, hvs⟩ := opds_sound h hg hr1
    clear hr1
    have hall := hvs.append (avs_leaves hcaps)
    unfold callF at hr
    obtain ⟨con, hcon, hr1⟩ := callAny_run hr
    clear hr
    obtain ⟨henter, hcall⟩ := Co k con hcon
    unfold callC at hr1
    rw [M.run_bind] at hr1
    obtain ⟨asx, ai, ρ1, st1, L, N, hr, h1, e1, n1, _, ca, sa, ma⟩ := argsOf_sound h hall hr1
    clear hr1
    dsimp only at hr
    rw [M.run_bind] at hr
    obtain ⟨hr1, hrow⟩ := lentOk_run hr
    clear hr
    cases hok : ai.ok with
    | false => rw [hok] at hr1; cases hr1
    | true =>
      rw [hok] at hr1
      obtain ⟨ok1, ok2⟩ := (Bool.and_eq_true _ _).mp hok
      have nd := nodupB_ok ok1
      have dj := disjB_ok ok2
      replace hr1 : ((con.f asx).toM.bind fun rr => (putRefs ai.sl rr.refs).bind fun _ => resOf rr.res).run st1 K = some r := hr1
      rw [M.run_bind] at hr1
      obtain ⟨rr, hrr, hr⟩ := toM_run hr1
      clear hr1
      have sr := sa.strict h1 hrow
      obtain ⟨s1, s2⟩ := sr.mem
      obtain ⟨m1, m2⟩ := ma.mem
      have hG : ∀ b, b ∈ GI.blocks L ++ mBlocks N → ∃ n ∈ RS.ids ai.sl ++ ai.mv, owns (ρ1 n) b := fun b hb => by
        rcases List.mem_append.1 hb with hb | hb
        · obtain ⟨n, hn, q⟩ := s2 b hb
          exact ⟨n, List.mem_append_left _ hn, q⟩
        · obtain ⟨n, hn, q⟩ := m2 b hb
          exact ⟨n, List.mem_append_right _ hn, q⟩
      have hnd : (GI.blocks L ++ mBlocks N).Nodup := by
        refine slots_nodup h1 nd ⟨fun n => cbO (ρ1 n), ?_, ?_⟩
        · rw [List.filterMap_append, ← sl_blocks sr, ← mv_blocks ma]
        · intro n _ b hb
          replace hb : cbO (ρ1 n) = some b := hb
          cases hc : ρ1 n with
          | none => rw [hc] at hb; cases hb
          | some c => rw [hc] at hb; exact cb_owns.1 hb
      have hFG : ∀ b, Fix X ρ1 w b → Bor w (GI.blocks L ++ mBlocks N) b := fun b hb => ⟨hb.1, fun hg => by
        obtain ⟨n, _, q⟩ := hG b hg
        exact hb.2.2 n q⟩
      have hBG : ∀ b, B0 ρ1 w ai.ro b → Bor w (GI.blocks L ++ mBlocks N) b := fun b hb => by
        rcases hb with hb | ⟨m, hm, q⟩
        · refine ⟨hb.1, fun hg => ?_⟩
          obtain ⟨n, _, q⟩ := hG b hg
          exact hb.2 n q
        · refine ⟨(h1.lt m b q).1, fun hg => ?_⟩
          obtain ⟨n, hn, q2⟩ := hG b hg
          rw [h1.sep n m b q2 q] at hn
          exact dj m hn hm
      have key := hcall asx rr hrr w _ (Fix X ρ1 w) L N hFG hnd ⟨h1.gl.1, fun n hn hm => by
        obtain ⟨i, _, q⟩ := hG n hm
        exact h1.gl.2 n hn i q⟩ (ca.mono (fun b hb => hb) hBG)
      intro next Q hq
      unfold Oper.wp
      have hx : (execOp a.eval o).run P w = .ok (.enter k (c.args.map a.eval ++ cv)) w := by
        unfold execOp
        rw [ho]
        simp [resolve, hc, hfv, Deferred.ofValue, invoke, henter]
      rw [hx, Oper.upon_enter]
      have harr : (List.map a.eval c.args.toList ++ cv.toList).toArray = c.args.map a.eval ++ cv := by
        apply Array.ext'
        simp
      rw [harr] at key
      refine key.mono ?_
      rintro e w' ⟨v, rfl, ans⟩
      obtain ⟨av, ρ2, st2, k0, k1, k2, k3, k4⟩ := call_step h1 sr ma nd ans hr
      exact hq av v ρ2 st2 w' k0 k4 k1 (e1.trans k2) (k3.trans n1)
  · cases hr1
end
end Go.Proofs.YtcnkbllbpimaiaaGreatDoorE

namespace Go.Proofs.YtcnkbllbpimaiaaGreatDoorE
open Go Go.RowKit
set_option linter.unusedVariables false
section
variable {P : Program} {o : Oper} {X : Nat → Prop} {ρ ρ' : Rho} {st st' : St} {a : Act} {w w' : World} {g : Option (Nat × Bool)} {R : Type} {r : R} {K : AV → St → Option R} {C : Ctx}
structure CtxOk (P : Program) (C : Ctx) : Prop where
  ti : TiOk P C.ti
  con : ConsOk P C.con
  mix : P.follows .mixedOrders = true
theorem evalCall_sound (H : CtxOk P C) (h : Rel X ρ st a w) (hg : Held a g) {c : Call} (ho : o.op = .call c) (hr : (evalCall C g c).run st K = some r) : Good P o a w X ρ st K r := by
  unfold evalCall at hr
  split at hr
  · exact good_len H.ti h hg ho (by assumption) (by assumption) hr
  · exact good_append H.ti h hg ho (by assumption) (by assumption) hr
  · exact good_call H.con h hg ho (by assumption) hr
  · exact good_max (mx := true) h hg ho (by assumption) (by assumption) hr
  · exact good_max (mx := false) h hg ho (by assumption) (by assumption) hr
  · exact good_clear H.ti h hg ho (by assumption) (by assumption) hr
  · exact good_copy H.ti h hg ho (by assumption) (by assumption) hr
  · cases hr
theorem evalOp_sound (H : CtxOk P C) (h : Rel X ρ st a w) (hg : Held a g) (hr : (evalOp C g o).run st K = some r) : Good P o a w X ρ st K r := by
  unfold evalOp at hr
  split at hr
  · exact good_move h hg (.inl (by assumption)) hr
  · exact good_move h hg (.inr (by assumption)) hr
  · exact good_pick h hg (by assumption) hr
  · exact good_alloc H.ti h (by assumption) hr
  · exact good_box h hg (by assumption) hr
  · exact good_build H.ti h hg (by assumption) hr
  · exact good_buildSlice H.ti h hg (by assumption) hr
  · exact good_load H.ti h hg (by assumption) hr
  · exact good_store H.ti h hg (by assumption) hr
  · exact good_nilCheck h hg (by assumption) hr
  · exact good_binOp H.ti h hg (by assumption) hr
  · exact good_unOp h hg (by assumption) hr
  · exact good_convertM H.ti h hg (by assumption) hr
  · exact good_makeFunc h hg (by assumption) hr
  · exact good_makeSlice H.ti h hg (by assumption) hr
  · exact good_glSlice H.ti h (by assumption) hr
  · exact good_slice3 H.ti h hg (by assumption) hr
  · exact good_slice H.ti h hg (by assumption) hr
  · exact good_makeMap H.ti h (by assumption) hr
  · exact good_lookup H.ti h hg (by assumption) hr
  · exact good_mapUpdate H.ti h hg (by assumption) hr
  · exact good_fieldAddr H.ti h hg (by assumption) hr
  · exact good_field H.ti h hg (by assumption) hr
  · exact good_glAddr H.ti h hg (by assumption) hr
  · exact good_indexAddr H.ti h hg (by assumption) hr
  · exact good_index H.ti h hg (by assumption) hr
  · exact good_extract h hg (by assumption) hr
  · exact evalCall_sound H h hg (by assumption) hr
  · cases hr
/-! ### a bool that is known -/
theorem known_sound : ∀ (k t : Nat) {st : St} {K : St → Option R}, Rel X ρ st a w → known k t st K = some r → ∃ st', K st' = some r ∧ Rel X ρ st' a w ∧ st'.n = st.n
  | 0, _, _, _, _, hr => by cases hr
  | k + 1, t, st, K, h, hr => by
    unfold known at hr
    have ht := h.tmp t
    split at hr
    · exact ⟨st, hr, h, rfl⟩
    · exact ⟨st, hr, h, rfl⟩
    · rename_i b hb
      rw [hb] at ht
      have ht : tmOf a t = .bool b := by
        rcases ht with ht | ⟨_, _, _, e, _⟩
        · exact ht
        · cases e
      cases b with
      | true => exact ⟨_, hr, h.refT ht, rfl⟩
      | false => exact ⟨_, hr, h.refT ht, rfl⟩
    · rename_i t1 w1 x hb
      rw [hb] at ht
      have ht : GdOk X ρ w (tmOf a) t1 w1 x (tmOf a t) := by
        rcases ht with ht | ⟨_, _, _, e, ht⟩
        · exact ht.elim
        · cases e; exact ht
      obtain ⟨st1, hr1, h1, n1⟩ := known_sound k t1 h hr
      have ht1 := h1.tmp t1
      split at hr1
      · rename_i b hb1
        rw [hb1] at ht1
        have ht1 : tmOf a t1 = .bool b := by
          rcases ht1 with ht1 | ⟨_, _, _, e, _⟩
          · exact ht1
          · cases e
        cases hbw : (b == w1) with
        | true =>
          rw [hbw] at hr1
          have : b = w1 := by simpa using hbw
          subst this
          have hx : AvOk X ρ w x (tmOf a t) := by
            rcases ht with ht | ht
            · exact ht.2
            · exact absurd ht1 ht.1
          obtain ⟨st2, hr2, h2, n2⟩ := known_sound k t (h1.refT hx) hr1
          exact ⟨st2, hr2, h2, n2.trans n1⟩
        | false =>
          rw [hbw] at hr1
          refine ⟨_, hr1, h1.refT ?_, n1⟩
          show tmOf a t = undef
          rcases ht with ht | ht
          · rw [ht.1] at ht1
            cases ht1
            simp at hbw
          · exact ht.2
      · rename_i hb1
        rw [hb1] at ht1
        have ht1 : tmOf a t1 = undef := by
          rcases ht1 with ht1 | ⟨_, _, _, e, _⟩
          · exact ht1
          · cases e
        refine ⟨_, hr1, h1.refT ?_, n1⟩
        show tmOf a t = undef
        rcases ht with ht | ht
        · rw [ht.1] at ht1
          cases ht1
        · exact ht.2
      · cases hr1
    · cases hr
/-! ### regions -/
theorem wanted_true {ops : Array Oper} {j t : Nat} {b : Bool} (hg : o.guard = some (j, b)) (ht : (ops[j]?).bind (·.dst) = some t) (h : tmOf a t = .bool b) : Region.wanted o (yielded ops a.tmps) = true := by
  unfold Region.wanted yielded
  rw [hg]
  have h1 : a.tmps[t]? = some (.bool b) := by
    unfold tmOf at h
    rw [Array.getD_eq_getD_getElem?] at h
    cases h2 : a.tmps[t]? with
    | none => rw [h2] at h; cases h
    | some v => rw [h2] at h; exact congrArg some h
  simp [ht, h1]
theorem wanted_false {ops : Array Oper} {j t : Nat} {b : Bool} (hg : o.guard = some (j, b)) (ht : (ops[j]?).bind (·.dst) = some t) (h : tmOf a t ≠ .bool b) : Region.wanted o (yielded ops a.tmps) = false := by
  unfold Region.wanted yielded
  rw [hg]
  simp only [ht, Option.bind_some]
  unfold tmOf at h
  rw [Array.getD_eq_getD_getElem?] at h
  cases h2 : a.tmps[t]? with
  | none => simp
  | some v =>
    rw [h2] at h
    have h : v ≠ .bool b := h
    cases v with
    | bool b' =>
      have hb : b' ≠ b := fun e => h (congrArg Value.bool e)
      simpa using hb
    | _ => rfl
/-- Slots that no operation of a list writes are as they were. -/
def SameBut (ds : List Nat) (a a' : Act) : Prop := ∀ i, i ∉ ds → tmOf a' i = tmOf a i
theorem SameBut.refl (ds : List Nat) (a : Act) : SameBut ds a a := fun _ _ => rfl
theorem tmOf_aput {d : Option Tmp} {v : Value} {i : Nat} (h : d ≠ some i) : tmOf (a.put d v) i = tmOf a i := by
  cases d with
  | none => rfl
  | some d =>
    have hd : d ≠ i := fun e => h (by rw [e])
    unfold tmOf Act.put
    simp only [Array.getD_eq_getD_getElem?, Array.getElem?_setIfInBounds]
    rw [if_neg hd]
theorem dstOk_lt (h : dstOk st o = true) : ∀ i, o.dst = some i → i < st.n := by
  intro i hi
  unfold dstOk at h
  rw [hi] at h
  exact Nat.le_of_ble_eq_true h
theorem runOps_sound (H : CtxOk P C) (ops : Array Oper) : ∀ (l : List Oper) {ρ : Rho} {st : St} {a : Act} {w : World} {K : St → Option R}, Rel X ρ st a w → runOps C ops l st K = some r →
    ∀ Q : Exit → Act → World → Prop, (∀ ρ' st' a' w', K st' = some r → Rel X ρ' st' a' w' → Ext ρ w ρ' w' → st'.n = st.n → SameBut (l.filterMap (·.dst)) a a' → Q .normal a' w') → wpList P ops Q l a w
  | [], ρ, st, a, w, K, h, hr, Q, hq => hq ρ _ a w hr h.clear (Ext.refl _ _) rfl (SameBut.refl _ _)
  | o :: rest, ρ, st, a, w, K, h, hr, Q, hq => by
    unfold runOps at hr
    cases hd : dstOk st o with
    | false => rw [hd] at hr; cases hr
    | true =>
      rw [hd] at hr
      have hlt := dstOk_lt hd
      -- what follows an operation that is carried out
      have exec : ∀ {st1 : St} {K2 : AV → St → Option R}, Rel X ρ st1 a w → st1.n = st.n → (evalOp C none o).run st1 (fun v st' => runOps C ops rest (st'.put o.dst v) K) = some r → Region.wanted o (yielded ops a.tmps) = true → wpList P ops Q (o :: rest) a w := by
        intro st1 K2 h1 n1 hr1 hw
        unfold wpList
        rw [if_pos hw]
        refine .inl (evalOp_sound H h1 (fun t b (e : none = some (t, b)) => nomatch e) hr1 _ _ ?_)
        intro av v ρ' st' w' hk hv hrel hx hn
        refine runOps_sound H ops rest (hrel.put (fun i hi => by rw [hn, n1]; exact hlt i hi) hv) hk Q ?_
        intro ρ2 st2 a2 w2 k1 k2 k3 k4 k5
        refine hq ρ2 st2 a2 w2 k1 k2 (hx.trans k3) (k4.trans ?_) ?_
        · have : (st'.put o.dst av).n = st'.n := by cases o.dst <;> rfl
          rw [this, hn, n1]
        · intro i hi
          have h1 : o.dst ≠ some i := fun e => hi (List.mem_filterMap.2 ⟨o, List.mem_cons_self, e⟩)
          rw [k5 i (fun hm => hi (by
            obtain ⟨q, hq1, hq2⟩ := List.mem_filterMap.1 hm
            exact List.mem_filterMap.2 ⟨q, List.mem_cons_of_mem _ hq1, hq2⟩))]
          exact tmOf_aput h1
      have skip : ∀ {st1 : St} (st2 : St), Rel X ρ st2 (a.put o.dst undef) w → st2.n = st.n → runOps C ops rest st2 K = some r → Region.wanted o (yielded ops a.tmps) = false → wpList P ops Q (o :: rest) a w := by
        intro st1 st2 h1 n1 hr1 hw
        unfold wpList
        rw [if_neg (by rw [hw]; simp)]
        refine runOps_sound H ops rest h1 hr1 Q ?_
        intro ρ2 st3 a2 w2 k1 k2 k3 k4 k5
        refine hq ρ2 st3 a2 w2 k1 k2 k3 (k4.trans n1) ?_
        intro i hi
        have h1 : o.dst ≠ some i := fun e => hi (List.mem_filterMap.2 ⟨o, List.mem_cons_self, e⟩)
        rw [k5 i (fun hm => hi (by
          obtain ⟨q, hq1, hq2⟩ := List.mem_filterMap.1 hm
          exact List.mem_filterMap.2 ⟨q, List.mem_cons_of_mem _ hq1, hq2⟩))]
        exact tmOf_aput h1
      replace hr : (match o.guard with
        | none => (evalOp C none o).run st fun v st' => runOps C ops rest (st'.put o.dst v) K
        | some (j, w) => match (ops[j]?).bind (·.dst) with
          | none => none
          | some t => runGd C o (fun v st' => runOps C ops rest (st'.put o.dst v) K) (fun st' => runOps C ops rest st' K) t w st) = some r := hr
      split at hr
      · rename_i hgd
        exact exec (K2 := fun _ _ => none) h rfl hr (by simp [Region.wanted, hgd])
      · rename_i j wb hgd
        split at hr
        · cases hr
        · rename_i t ht
          have goes : ∀ {st1 : St}, Rel X ρ st1 a w → st1.n = st.n → runKb C o (fun v st' => runOps C ops rest (st'.put o.dst v) K) (fun st' => runOps C ops rest st' K) t wb st1 = some r → wpList P ops Q (o :: rest) a w := by
            intro st1 h1 n1 hr1
            unfold runKb at hr1
            have ht1 := h1.tmp t
            split at hr1
            · rename_i b hb
              rw [hb] at ht1
              have ht1 : tmOf a t = .bool b := by
                rcases ht1 with ht1 | ⟨_, _, _, e, _⟩
                · exact ht1
                · cases e
              cases hbw : (b == wb) with
              | true =>
                rw [hbw] at hr1
                have : b = wb := by simpa using hbw
                subst this
                exact exec (K2 := fun _ _ => none) h1 n1 hr1 (wanted_true hgd ht ht1)
              | false =>
                rw [hbw] at hr1
                refine skip (st1 := st) _ (h1.put (av := .undef) (v := undef) (fun i hi => by rw [n1]; exact hlt i hi) rfl) ?_ hr1 (wanted_false hgd ht ?_)
                · rw [show (st1.put o.dst .undef).n = st1.n by cases o.dst <;> rfl, n1]
                · rw [ht1]
                  intro e
                  cases e
                  simp at hbw
            · rename_i hb
              rw [hb] at ht1
              have ht1 : tmOf a t = undef := by
                rcases ht1 with ht1 | ⟨_, _, _, e, _⟩
                · exact ht1
                · cases e
              refine skip (st1 := st) _ (h1.put (av := .undef) (v := undef) (fun i hi => by rw [n1]; exact hlt i hi) rfl) ?_ hr1 (wanted_false hgd ht ?_)
              · rw [show (st1.put o.dst .undef).n = st1.n by cases o.dst <;> rfl, n1]
              · rw [ht1]; intro e; cases e
            · cases hr1
          unfold runGd at hr
          split at hr
          · exact goes h rfl hr
          · exact goes h rfl hr
          · split at hr
            · rename_i v hstill
              by_cases hw : tmOf a t = .bool wb
              · unfold wpList
                rw [if_pos (wanted_true hgd ht hw)]
                have hgood := evalOp_sound (g := some (t, wb)) (K := fun av st' => some (av, st')) (r := (v, st)) H h (fun t' b' e => by cases e; exact hw) (M.run_still _ _ _ hstill _)
                refine .inl (hgood _ _ ?_)
                intro av u ρ' st' w' hk hv hrel hx hn
                obtain ⟨rfl, rfl⟩ : av = v ∧ st' = st := by simpa using hk
                refine runOps_sound H ops rest (hrel.putG (t := t) (b := wb) hlt (.inl ⟨hw, hv⟩)) hr Q ?_
                intro ρ2 st2 a2 w2 k1 k2 k3 k4 k5
                refine hq ρ2 st2 a2 w2 k1 k2 (hx.trans k3) (k4.trans ?_) ?_
                · cases o.dst <;> rfl
                · intro i hi
                  have h1 : o.dst ≠ some i := fun e => hi (List.mem_filterMap.2 ⟨o, List.mem_cons_self, e⟩)
                  rw [k5 i (fun hm => hi (by
                    obtain ⟨q, hq1, hq2⟩ := List.mem_filterMap.1 hm
                    exact List.mem_filterMap.2 ⟨q, List.mem_cons_of_mem _ hq1, hq2⟩))]
                  exact tmOf_aput h1
              · refine skip (st1 := st) _ (h.putG (t := t) (b := wb) hlt (.inr ⟨hw, rfl⟩)) ?_ hr (wanted_false hgd ht hw)
                cases o.dst <;> rfl
            · obtain ⟨st1, hr1, h1, n1⟩ := known_sound 4 t h hr
              exact goes h1 n1 hr1
end
end Go.Proofs.YtcnkbllbpimaiaaGreatDoorE

namespace Go.Proofs.YtcnkbllbpimaiaaGreatDoorE
open Go Go.RowKit
set_option linter.unusedVariables false
/-! ### footprints -/
structure FP.le (f f' : FP) : Prop where
  rt : ∀ t, t ∈ f.rt → t ∈ f'.rt
  rb : ∀ t, t ∈ f.rb → t ∈ f'.rb
  wb : ∀ t, t ∈ f.wb → t ∈ f'.wb
theorem FP.le.refl (f : FP) : f.le f := ⟨fun _ h => h, fun _ h => h, fun _ h => h⟩
theorem FP.le.trans {f g h : FP} (a : f.le g) (b : g.le h) : f.le h := ⟨fun t k => b.rt t (a.rt t k), fun t k => b.rb t (a.rb t k), fun t k => b.wb t (a.wb t k)⟩
/-- Two states that agree on what a footprint touches. -/
structure Agr (f : FP) (st st2 : St) : Prop where
  tm : ∀ t, t ∈ f.rt → st2.tmp t = st.tmp t
  en : ∀ b, b ∈ f.rb ∨ b ∈ f.wb → st2.ent b = st.ent b
/-- All but the blocks is as it was. -/
structure Still (st st' : St) : Prop where
  tmps : st'.tmps = st.tmps
  gs : st'.gs = st.gs
  n : st'.n = st.n
  lim : st'.lim = st.lim
  res : st'.res = st.res
theorem Still.refl (st : St) : Still st st := ⟨rfl, rfl, rfl, rfl, rfl⟩
theorem Still.trans {a b c : St} (h : Still a b) (k : Still b c) : Still a c := ⟨k.tmps.trans h.tmps, k.gs.trans h.gs, k.n.trans h.n, k.lim.trans h.lim, k.res.trans h.res⟩
theorem Still.tmp {a b : St} (h : Still a b) (i : Nat) : b.tmp i = a.tmp i := by
  unfold St.tmp
  rw [h.gs, h.tmps]
/-- What a program did: from any state that agrees on its footprint it does the same. -/
structure Did {α : Type} (p : M α) (st : St) (a : α) (st' : St) (f : FP) : Prop where
  still : Still st st'
  nb : st.nb ≤ st'.nb
  lim : st.nb = st'.nb ∨ st'.nb ≤ st.lim
  out : ∀ b, b ∉ f.wb → st'.ent b = st.ent b
  loc : ∀ st2 : St, Agr f st st2 → st2.nb = st.nb → (st.nb = st'.nb ∨ st'.nb ≤ st2.lim) → ∃ st2' : St, (p.run st2 fun a st' => some (a, st')) = some (a, st2') ∧ Still st2 st2' ∧ st2'.nb = st'.nb ∧
    (∀ b, b ∈ f.rb ∨ b ∈ f.wb → st2'.ent b = st'.ent b) ∧ ∀ b, b ∉ f.wb → st2'.ent b = st2.ent b
theorem runF_did {α R : Type} {r : R} : ∀ (p : M α) {st : St} {f : FP} {K : α → St → FP → Option R}, p.runF st f K = some r → ∃ a st' f', K a st' f' = some r ∧ f.le f' ∧ Did p st a st' f'
  | .ret a, st, f, K, h => ⟨a, st, f, h, FP.le.refl f, Still.refl st, Nat.le_refl _, .inl rfl, fun _ _ => rfl, fun st2 ha hn _ => ⟨st2, rfl, Still.refl st2, hn, fun b hb => ha.en b hb, fun _ _ => rfl⟩⟩
  | .get i k, st, f, K, h => by
    obtain ⟨a, st', f', h1, h2, d⟩ := runF_did (k (st.tmp i)) (show (k (st.tmp i)).runF st { f with rt := i :: f.rt } K = some r from h)
    refine ⟨a, st', f', h1, ⟨fun t ht => h2.rt t (List.mem_cons_of_mem _ ht), h2.rb, h2.wb⟩, d.still, d.nb, d.lim, d.out, fun st2 ha hn hl => ?_⟩
    have e := ha.tm i (h2.rt i List.mem_cons_self)
    obtain ⟨st2', g1, g2⟩ := d.loc st2 ha hn hl
    exact ⟨st2', by show (k (st2.tmp i)).run st2 _ = _; rw [e]; exact g1, g2⟩
  | .getb i k, st, f, K, h => by
    obtain ⟨a, st', f', h1, h2, d⟩ := runF_did (k (st.ent i)) (show (k (st.ent i)).runF st { f with rb := i :: f.rb } K = some r from h)
    refine ⟨a, st', f', h1, ⟨h2.rt, fun t ht => h2.rb t (List.mem_cons_of_mem _ ht), h2.wb⟩, d.still, d.nb, d.lim, d.out, fun st2 ha hn hl => ?_⟩
    have e := ha.en i (.inl (h2.rb i List.mem_cons_self))
    obtain ⟨st2', g1, g2⟩ := d.loc st2 ha hn hl
    exact ⟨st2', by show (k (st2.ent i)).run st2 _ = _; rw [e]; exact g1, g2⟩
  | .setb i e k, st, f, K, h => by
    obtain ⟨a, st', f', h1, h2, d⟩ := runF_did k (show k.runF (st.setB i e) { f with wb := i :: f.wb } K = some r from h)
    have hi := h2.wb i List.mem_cons_self
    refine ⟨a, st', f', h1, ⟨h2.rt, h2.rb, fun t ht => h2.wb t (List.mem_cons_of_mem _ ht)⟩, ⟨d.still.tmps, d.still.gs, d.still.n, d.still.lim, d.still.res⟩, d.nb, d.lim, fun b hb => ?_, fun st2 ha hn hl => ?_⟩
    · rw [d.out b hb, ent_setB, if_neg (fun q : i = b => hb (q ▸ hi))]
    · obtain ⟨st2', g1, g2, g3, g4, g5⟩ := d.loc (st2.setB i e) ⟨ha.tm, fun b hb => by rw [ent_setB, ent_setB, ha.en b hb]⟩ hn hl
      exact ⟨st2', g1, ⟨g2.tmps, g2.gs, g2.n, g2.lim, g2.res⟩, g3, g4, fun b hb => by rw [g5 b hb, ent_setB, if_neg (fun q : i = b => hb (q ▸ hi))]⟩
  | .new e k, st, f, K, h => by
    cases hlt : Nat.blt st.nb st.lim with
    | false =>
      replace h : (bif Nat.blt st.nb st.lim then (k st.nb).runF (st.newB e) { f with wb := st.nb :: f.wb } K else none) = some r := h
      rw [hlt] at h; cases h
    | true =>
      replace h : (bif Nat.blt st.nb st.lim then (k st.nb).runF (st.newB e) { f with wb := st.nb :: f.wb } K else none) = some r := h
      rw [hlt] at h
      obtain ⟨a, st', f', h1, h2, d⟩ := runF_did (k st.nb) (show (k st.nb).runF (st.newB e) { f with wb := st.nb :: f.wb } K = some r from h)
      have hi := h2.wb st.nb List.mem_cons_self
      have hn1 : st.nb + 1 ≤ st'.nb := d.nb
      have hlt := (Nat.blt_eq).mp hlt
      refine ⟨a, st', f', h1, ⟨h2.rt, h2.rb, fun t ht => h2.wb t (List.mem_cons_of_mem _ ht)⟩, ⟨d.still.tmps, d.still.gs, d.still.n, d.still.lim, d.still.res⟩, by omega, ?_, fun b hb => ?_, fun st2 ha hn hl => ?_⟩
      · rcases d.lim with k1 | k1
        · have k1 : st.nb + 1 = st'.nb := k1
          exact .inr (by omega)
        · exact .inr k1
      · rw [d.out b hb, ent_newB, if_neg (fun q : st.nb = b => hb (q ▸ hi))]
      · have hl' : st'.nb ≤ st2.lim := by
          rcases hl with hl | hl
          · omega
          · exact hl
        obtain ⟨st2', g1, g2, g3, g4, g5⟩ := d.loc (st2.newB e) ⟨ha.tm, fun b hb => by rw [ent_newB, ent_newB, hn, ha.en b hb]⟩ (congrArg (· + 1) hn) (.inr hl')
        refine ⟨st2', ?_, ⟨g2.tmps, g2.gs, g2.n, g2.lim, g2.res⟩, g3, g4, fun b hb => by rw [g5 b hb, ent_newB, hn, if_neg (fun q : st.nb = b => hb (q ▸ hi))]⟩
        show (bif Nat.blt st2.nb st2.lim then (k st2.nb).run (st2.newB e) _ else none) = _
        rw [(Nat.blt_eq).mpr (by omega : st2.nb < st2.lim), hn]
        exact g1
  | .opt β o k, st, f, K, h => by
    cases ho : o with
    | none =>
      replace h : (o.bind fun b => (k b).runF st f K) = some r := h
      rw [ho] at h; cases h
    | some b =>
      replace h : (o.bind fun b => (k b).runF st f K) = some r := h
      rw [ho] at h
      obtain ⟨a, st', f', h1, h2, d⟩ := runF_did (k b) h
      refine ⟨a, st', f', h1, h2, d.still, d.nb, d.lim, d.out, fun st2 ha hn hl => ?_⟩
      obtain ⟨st2', g1, g2⟩ := d.loc st2 ha hn hl
      exact ⟨st2', g1, g2⟩
  | .fail, _, _, _, h => by cases h
/-! ### one operation -/
/-- What an operation does, from any state that agrees on its footprint. -/
structure StepOk (P : Program) (ops : Array Oper) (k : Nat) (pre post : St) (rc : Rec) : Prop where
  n : post.n = pre.n
  gs : pre.gs = [] → post.gs = []
  lim : post.lim = pre.lim
  res : post.res = pre.res
  nb : pre.nb ≤ post.nb
  outB : ∀ b, b ∉ rc.fp.wb → post.ent b = pre.ent b
  outT : ∀ t, t ∉ rc.dst → getL .unk post.tmps t = getL .unk pre.tmps t
  dst : ∀ t, t ∈ rc.dst → ∃ o, ops[k]? = some o ∧ o.dst = some t
  exec : ∀ (X : Nat → Prop) (ρ : Rho) (st2 : St) (a : Act) (w : World), Rel X ρ st2 a w → st2.gs = [] → Agr rc.fp pre st2 → st2.n = pre.n → st2.nb = pre.nb → post.nb ≤ st2.lim → ∀ (Q : Exit → Act → World → Prop) (K : Act → World → Prop),
    (∀ ρ' st2' a' w', Rel X ρ' st2' a' w' → Ext ρ w ρ' w' → st2'.gs = [] → st2'.n = st2.n → st2'.nb = post.nb → st2'.lim = st2.lim → st2'.res = st2.res → (∀ b, b ∈ rc.fp.wb → st2'.ent b = post.ent b) → (∀ b, b ∉ rc.fp.wb → st2'.ent b = st2.ent b) →
      (∀ t, t ∈ rc.dst → getL .unk st2'.tmps t = getL .unk post.tmps t) → (∀ t, t ∉ rc.dst → getL .unk st2'.tmps t = getL .unk st2.tmps t) → (∀ t, t ∉ rc.dst → tmOf a' t = tmOf a t) → K a' w') → wpOp P ops Q k K a w
theorem put_fields (st : St) (d : Option Tmp) (v : AV) : (st.put d v).n = st.n ∧ (st.put d v).nb = st.nb ∧ (st.put d v).lim = st.lim ∧ (st.put d v).res = st.res ∧ (st.put d v).heap = st.heap ∧ (st.gs = [] → (st.put d v).gs = []) ∧
    (∀ t, t ∉ d.toList → getL .unk (st.put d v).tmps t = getL .unk st.tmps t) ∧ ∀ t, t ∈ d.toList → getL .unk (st.put d v).tmps t = v := by
  cases d with
  | none => exact ⟨rfl, rfl, rfl, rfl, rfl, id, fun _ _ => rfl, fun t ht => nomatch ht⟩
  | some i =>
    refine ⟨rfl, rfl, rfl, rfl, rfl, fun h => ?_, fun t ht => ?_, fun t ht => ?_⟩
    · show dropG st.gs i = []
      rw [h]; rfl
    · show getL .unk (setL .unk st.tmps i v) t = _
      rw [getL_setL, if_neg (fun e => ht (by rw [e]; exact List.mem_singleton.2 rfl))]
    · show getL .unk (setL .unk st.tmps i v) t = _
      rw [getL_setL, if_pos (List.mem_singleton.1 ht).symm]
theorem tmp_nil {st : St} (h : st.gs = []) (t : Nat) : st.tmp t = getL .unk st.tmps t := by
  unfold St.tmp
  rw [h]
  rfl
section
variable {P : Program} {o : Oper} {X : Nat → Prop} {ρ ρ' : Rho} {st st' : St} {a : Act} {w w' : World} {R : Type} {r : R} {C : Ctx} {ops : Array Oper}
theorem split_some {g : Bool} {v : AV} {K : AV → Option R} (h : splitB g v K = some r) : ∃ v', K v' = some r ∧ ∀ (X : Nat → Prop) (ρ : Rho) (w : World) (u : Value), AvOk X ρ w v u → AvOk X ρ w v' u := by
  unfold splitB at h
  split at h
  · rename_i b
    cases b with
    | true => exact ⟨_, h, fun X ρ w u hu => hu⟩
    | false => exact ⟨_, h, fun X ρ w u hu => hu⟩
  · exact ⟨v, h, fun X ρ w u hu => hu⟩
theorem drawOp_ok (H : CtxOk P C) {k : Nat} (hk : ops[k]? = some o) (hlt : ∀ i, o.dst = some i → i < st.n) {g : Bool} {rs : List Rec} {m : Nat} {f : FP} {K : St → List Rec → Option R}
    (hw : ∀ a : Act, (∀ t, t ∈ f.rt → ∃ X ρ w, AvOk X ρ w (st.tmp t) (tmOf a t)) → Region.wanted o (yielded ops a.tmps) = true) (hr : drawOp C g o rs m f st K = some r) :
    ∃ st' rc, K st' (rc :: rs) = some r ∧ okR rs rc = true ∧ rc.anc = m ∧ StepOk P ops k st st' rc := by
  unfold drawOp at hr
  obtain ⟨v0, st1, f1, hr1, hle, d⟩ := runF_did _ hr
  obtain ⟨v, hr2, hsp⟩ := split_some hr1
  clear hr hr1
  cases hok : okR rs ⟨o.dst.toList, f1, m⟩ with
  | false => rw [hok] at hr2; cases hr2
  | true =>
    rw [hok] at hr2
    refine ⟨st1.put o.dst v, ⟨o.dst.toList, f1, m⟩, hr2, hok, rfl, ?_⟩
    obtain ⟨p1, p2, p3, p4, p5, p6, p7, p8⟩ := put_fields st1 o.dst v
    refine ⟨p1.trans d.still.n, fun h => p6 (d.still.gs.trans h), p3.trans d.still.lim, p4.trans d.still.res, by rw [p2]; exact d.nb, fun b hb => ?_, fun t ht => ?_, fun t ht => ⟨o, hk, ?_⟩, ?_⟩
    · have := d.out b hb
      unfold St.ent at this ⊢
      rw [p5]; exact this
    · rw [p7 t ht, d.still.tmps]
    · cases hd : o.dst with
      | none =>
        replace ht : t ∈ o.dst.toList := ht
        rw [hd] at ht; cases ht
      | some i =>
        replace ht : t ∈ o.dst.toList := ht
        rw [hd] at ht; rw [List.mem_singleton.1 ht]
    · intro X ρ st2 a w hrel hgs ha hn hnb hlim Q K2 hq
      obtain ⟨st2', g1, g2, g3, g4, g5⟩ := d.loc st2 ha hnb (.inr (by rw [← p2]; exact hlim))
      unfold wpOp
      rw [hk]
      dsimp only
      have hwanted := hw a fun t ht => ⟨X, ρ, w, by
        rw [← ha.tm t (hle.rt t ht), tmp_nil hgs]
        exact hrel.tmps t⟩
      rw [if_pos hwanted]
      refine .inl (evalOp_sound H hrel (fun t b (e : none = some (t, b)) => nomatch e) g1 _ _ ?_)
      intro av u ρ' st3 w' hk3 hv hrel3 hx hn3
      obtain ⟨rfl, rfl⟩ : v0 = av ∧ st2' = st3 := by
        have := Option.some.inj hk3
        exact ⟨(congrArg Prod.fst this).symm, (congrArg Prod.snd this).symm⟩
      obtain ⟨q1, q2, q3, q4, q5, q6, q7, q8⟩ := put_fields st2' o.dst v
      refine hq ρ' (st2'.put o.dst v) _ w' (hrel3.put (fun i hi => by rw [hn3, hn]; exact hlt i hi) (hsp X ρ' w' u hv)) hx (q6 (g2.gs.trans hgs)) (q1.trans hn3) ?_ (q3.trans g2.lim) (q4.trans g2.res) ?_ ?_ ?_ ?_ ?_
      · rw [q2, p2]; exact g3
      · intro b hb
        have := g4 b (.inr hb)
        unfold St.ent at this ⊢
        rw [q5, p5]; exact this
      · intro b hb
        have := g5 b hb
        unfold St.ent at this ⊢
        rw [q5]; exact this
      · intro t ht; rw [q8 t ht, p8 t ht]
      · intro t ht; rw [q7 t ht, g2.tmps]
      · intro t ht
        exact tmOf_aput (fun e => ht (by show t ∈ o.dst.toList; rw [e]; exact List.mem_singleton.2 rfl))
theorem drawSkip_ok {k : Nat} (hk : ops[k]? = some o) (hlt : ∀ i, o.dst = some i → i < st.n) {rs : List Rec} {m : Nat} {f : FP} {K : St → List Rec → Option R} (hfb : f.wb = [])
    (hw : ∀ a : Act, (∀ t, t ∈ f.rt → ∃ X ρ w, AvOk X ρ w (st.tmp t) (tmOf a t)) → Region.wanted o (yielded ops a.tmps) = false) (hr : drawSkip o rs m f st K = some r) :
    ∃ st' rc, K st' (rc :: rs) = some r ∧ okR rs rc = true ∧ rc.anc = m ∧ StepOk P ops k st st' rc := by
  unfold drawSkip at hr
  cases hok : okR rs ⟨o.dst.toList, f, m⟩ with
  | false => rw [hok] at hr; cases hr
  | true =>
    rw [hok] at hr
    refine ⟨st.put o.dst .undef, ⟨o.dst.toList, f, m⟩, hr, hok, rfl, ?_⟩
    obtain ⟨p1, p2, p3, p4, p5, p6, p7, p8⟩ := put_fields st o.dst .undef
    refine ⟨p1, p6, p3, p4, by rw [p2]; exact Nat.le_refl _, fun b hb => by unfold St.ent; rw [p5], fun t ht => p7 t ht, fun t ht => ⟨o, hk, ?_⟩, ?_⟩
    · cases hd : o.dst with
      | none =>
        replace ht : t ∈ o.dst.toList := ht
        rw [hd] at ht; cases ht
      | some i =>
        replace ht : t ∈ o.dst.toList := ht
        rw [hd] at ht; rw [List.mem_singleton.1 ht]
    · intro X ρ st2 a w hrel hgs ha hn hnb hlim Q K2 hq
      unfold wpOp
      rw [hk]
      dsimp only
      have hwanted := hw a fun t ht => ⟨X, ρ, w, by
        rw [← ha.tm t ht, tmp_nil hgs]
        exact hrel.tmps t⟩
      rw [if_neg (by rw [hwanted]; simp)]
      obtain ⟨q1, q2, q3, q4, q5, q6, q7, q8⟩ := put_fields st2 o.dst .undef
      refine hq ρ (st2.put o.dst .undef) _ w (hrel.put (fun i hi => by rw [hn]; exact hlt i hi) rfl) (Ext.refl _ _) (q6 hgs) q1 ?_ q3 q4 ?_ ?_ ?_ ?_ ?_
      · rw [q2, p2]; exact hnb
      · intro b hb
        replace hb : b ∈ f.wb := hb
        rw [hfb] at hb; cases hb
      · intro b hb; unfold St.ent; rw [q5]
      · intro t ht; rw [q8 t ht, p8 t ht]
      · intro t ht; exact q7 t ht
      · intro t ht
        exact tmOf_aput (fun e => ht (by show t ∈ o.dst.toList; rw [e]; exact List.mem_singleton.2 rfl))
theorem drawOne_ok (H : CtxOk P C) {k : Nat} (hk : ops[k]? = some o) (hlt : ∀ i, o.dst = some i → i < st.n) {rs : List Rec} {m : Nat} {K : St → List Rec → Option R} (hr : drawOne C ops o rs m st K = some r) :
    ∃ st' rc, K st' (rc :: rs) = some r ∧ okR rs rc = true ∧ rc.anc = m ∧ StepOk P ops k st st' rc := by
  unfold drawOne at hr
  split at hr
  · rename_i hgd
    exact drawOp_ok H hk hlt (fun a _ => by simp [Region.wanted, hgd]) hr
  · rename_i j wb hgd
    split at hr
    · cases hr
    · rename_i t ht
      split at hr
      · rename_i b hb
        have tm : ∀ a : Act, (∀ s, s ∈ [t] → ∃ X ρ w, AvOk X ρ w (st.tmp s) (tmOf a s)) → tmOf a t = .bool b := fun a ha => by
          obtain ⟨X, ρ, w, h⟩ := ha t (List.mem_singleton.2 rfl)
          rw [hb] at h
          exact h
        cases hbw : (b == wb) with
        | true =>
          rw [hbw] at hr
          have : b = wb := by simpa using hbw
          subst this
          exact drawOp_ok H hk hlt (fun a ha => wanted_true hgd ht (tm a ha)) hr
        | false =>
          rw [hbw] at hr
          exact drawSkip_ok hk hlt rfl (fun a ha => wanted_false hgd ht (by
            rw [tm a ha]
            intro e
            cases e
            simp at hbw)) hr
      · rename_i hb
        exact drawSkip_ok hk hlt rfl (fun a ha => wanted_false hgd ht (by
          obtain ⟨X, ρ, w, h⟩ := ha t (List.mem_singleton.2 rfl)
          rw [hb] at h
          have h : tmOf a t = undef := h
          rw [h]
          intro e
          cases e)) hr
      · cases hr
/-! ### the text's order -/
def below (rc : Nat → Rec) : Nat → List Rec
  | 0 => []
  | k + 1 => rc k :: below rc k
theorem below_congr {rc rc' : Nat → Rec} : ∀ {k : Nat}, (∀ i, i < k → rc i = rc' i) → below rc k = below rc' k
  | 0, _ => rfl
  | k + 1, h => by
    show rc k :: below rc k = rc' k :: below rc' k
    rw [h k (Nat.lt_succ_self k), below_congr fun i hi => h i (Nat.lt_succ_of_lt hi)]
theorem below_len (rc : Nat → Rec) : ∀ k, (below rc k).length = k
  | 0 => rfl
  | k + 1 => congrArg (· + 1) (below_len rc k)
structure Info (P : Program) (ops : Array Oper) (s : Nat → St) (rc : Nat → Rec) (i : Nat) : Prop where
  step : StepOk P ops i (s i) (s (i + 1)) (rc i)
  ok : okR (below rc i) (rc i) = true
  anc : ∃ o, ops[i]? = some o ∧ ancOf (below rc i) o.after.toList = some (rc i).anc
theorem runDraw_info (H : CtxOk P C) : ∀ (rest : List Oper) (k : Nat) (s0 : Nat → St) (rc0 : Nat → Rec) {K : St → Option R}, (∀ i, rest[i]? = ops[k + i]?) → runDraw C ops rest (below rc0 k) (s0 k) K = some r →
    ∃ s rc, (∀ i, i ≤ k → s i = s0 i) ∧ (∀ i, i < k → rc i = rc0 i) ∧ (∀ i, k ≤ i → i < k + rest.length → Info P ops s rc i) ∧ K (s (k + rest.length)) = some r ∧ (s (k + rest.length)).nb ≤ 1000000
  | [], k, s0, rc0, K, _, hr => by
    unfold runDraw at hr
    cases hb : Nat.ble (s0 k).nb 1000000 with
    | false => rw [hb] at hr; cases hr
    | true =>
      rw [hb] at hr
      exact ⟨s0, rc0, fun _ _ => rfl, fun _ _ => rfl, fun i h1 h2 => absurd h2 (by simp; omega), hr, Nat.le_of_ble_eq_true hb⟩
  | o :: rest, k, s0, rc0, K, hops, hr => by
    unfold runDraw at hr
    have hk : ops[k]? = some o := by
      have := hops 0
      rw [Nat.add_zero] at this
      rw [← this]; rfl
    cases hd : dstOk (s0 k) o with
    | false => rw [hd] at hr; cases hr
    | true =>
      rw [hd] at hr
      replace hr : (match ancOf (below rc0 k) o.after.toList with
        | some m => drawOne C ops o (below rc0 k) m (s0 k) fun st' rs' => runDraw C ops rest rs' st' K
        | none => none) = some r := hr
      split at hr
      · rename_i m hm
        obtain ⟨st', rc, hr1, hok, hanc, hstep⟩ := drawOne_ok H hk (dstOk_lt hd) hr
        let s1 : Nat → St := fun i => if i = k + 1 then st' else s0 i
        let rc1 : Nat → Rec := fun i => if i = k then rc else rc0 i
        have hb1 : below rc1 (k + 1) = rc :: below rc0 k := by
          show rc1 k :: below rc1 k = _
          rw [show rc1 k = rc from if_pos rfl, below_congr (rc' := rc0) fun i hi => if_neg (Nat.ne_of_lt hi)]
        have hr2 : runDraw C ops rest (below rc1 (k + 1)) (s1 (k + 1)) K = some r := by
          rw [hb1, show s1 (k + 1) = st' from if_pos rfl]
          exact hr1
        obtain ⟨s, rcs, e1, e2, e3, e4, e5⟩ := runDraw_info H rest (k + 1) s1 rc1 (fun i => by
          have := hops (i + 1)
          rw [List.getElem?_cons_succ] at this
          rw [this, Nat.add_assoc, Nat.add_comm 1 i]) hr2
        have hlen : k + 1 + rest.length = k + (o :: rest).length := by
          rw [List.length_cons]; omega
        rw [hlen] at e3 e4 e5
        have hb2 : below rcs k = below rc0 k := below_congr fun i hi => by
          rw [e2 i (Nat.lt_succ_of_lt hi)]
          exact if_neg (Nat.ne_of_lt hi)
        refine ⟨s, rcs, fun i hi => ?_, fun i hi => ?_, fun i h1 h2 => ?_, e4, e5⟩
        · rw [e1 i (Nat.le_succ_of_le hi)]
          exact if_neg (by omega)
        · rw [e2 i (Nat.lt_succ_of_lt hi)]
          exact if_neg (Nat.ne_of_lt hi)
        · rcases Nat.eq_or_lt_of_le h1 with h1 | h1
          · subst h1
            have ek : s k = s0 k := by
              rw [e1 k (Nat.le_succ k)]
              exact if_neg (by omega)
            have ek1 : s (k + 1) = st' := by
              rw [e1 (k + 1) (Nat.le_refl _)]
              exact if_pos rfl
            have er : rcs k = rc := by
              rw [e2 k (Nat.lt_succ_self k)]
              exact if_pos rfl
            refine ⟨?_, ?_, o, hk, ?_⟩
            · rw [ek, ek1, er]; exact hstep
            · rw [hb2, er]; exact hok
            · rw [hb2, er, hanc]; exact hm
          · exact e3 i h1 h2
      · cases hr
end
end Go.Proofs.YtcnkbllbpimaiaaGreatDoorE

namespace Go.Proofs.YtcnkbllbpimaiaaGreatDoorE
open Go Go.RowKit
set_option linter.unusedVariables false
section
variable {P : Program} {o : Oper} {X : Nat → Prop} {ρ ρ' : Rho} {st st' : St} {a : Act} {w w' : World} {R : Type} {r : R} {C : Ctx} {ops : Array Oper} {s : Nat → St} {rc : Nat → Rec}
/-! ### what comes before -/
/-- All that an operation waits for is done. -/
def Rdy (ops : Array Oper) (S : Nat → Prop) (i : Nat) : Prop := ∀ o, ops[i]? = some o → ∀ e ∈ o.after.toList, Region.binds .any e = true → S e.on
theorem anc_spec {rs : List Rec} : ∀ {es : List Edge} {m : Nat}, ancOf rs es = some m → (∀ e ∈ es, Region.binds .any e = true → ∃ q, rs.reverse[e.on]? = some q) ∧ ∀ j, m.testBit j = true → ∃ e ∈ es, Region.binds .any e = true ∧ ∃ q, rs.reverse[e.on]? = some q ∧ (j = e.on ∨ q.anc.testBit j = true)
  | [], m, h => by
    cases h
    exact ⟨(fun e he => nomatch he), fun j hj => by simp at hj⟩
  | e :: es, m, h => by
    unfold ancOf at h
    cases hb : Region.binds .any e with
    | false =>
      rw [hb] at h
      obtain ⟨i1, i2⟩ := anc_spec (es := es) h
      refine ⟨fun x hx hxb => ?_, fun j hj => ?_⟩
      · rcases List.mem_cons.1 hx with rfl | hx
        · rw [hb] at hxb; cases hxb
        · exact i1 x hx hxb
      · obtain ⟨x, h1, h2⟩ := i2 j hj
        exact ⟨x, List.mem_cons_of_mem _ h1, h2⟩
    | true =>
      rw [hb] at h
      replace h : (match rs.reverse[e.on]?, ancOf rs es with
        | some r, some m => some (r.anc ||| (1 <<< e.on) ||| m)
        | _, _ => none) = some m := h
      split at h
      · rename_i q m' hq hm'
        cases h
        obtain ⟨i1, i2⟩ := anc_spec hm'
        refine ⟨fun x hx hxb => ?_, fun j hj => ?_⟩
        · rcases List.mem_cons.1 hx with rfl | hx
          · exact ⟨q, hq⟩
          · exact i1 x hx hxb
        · rw [Nat.testBit_or, Nat.testBit_or] at hj
          rcases (Bool.or_eq_true _ _).mp hj with hj | hj
          · rcases (Bool.or_eq_true _ _).mp hj with hj | hj
            · exact ⟨e, List.mem_cons_self, hb, q, hq, .inr hj⟩
            · refine ⟨e, List.mem_cons_self, hb, q, hq, .inl ?_⟩
              rw [Nat.one_shiftLeft, Nat.testBit_two_pow] at hj
              exact (of_decide_eq_true hj).symm
          · obtain ⟨x, h1, h2⟩ := i2 j hj
            exact ⟨x, List.mem_cons_of_mem _ h1, h2⟩
      · cases h
theorem below_get (rc : Nat → Rec) : ∀ (k i : Nat) (q : Rec), (below rc k).reverse[i]? = some q → i < k ∧ q = rc i
  | 0, i, q, h => by simp [below] at h
  | k + 1, i, q, h => by
    rw [show below rc (k + 1) = rc k :: below rc k from rfl, List.reverse_cons] at h
    rcases Nat.lt_or_ge i k with hlt | hge
    · rw [List.getElem?_append_left (by rw [List.length_reverse, below_len]; exact hlt)] at h
      obtain ⟨h1, h2⟩ := below_get rc k i q h
      exact ⟨Nat.lt_succ_of_lt h1, h2⟩
    · rw [List.getElem?_append_right (by rw [List.length_reverse, below_len]; exact hge), List.length_reverse, below_len] at h
      have : i - k = 0 := by
        rcases Nat.eq_zero_or_pos (i - k) with h0 | h0
        · exact h0
        · rw [List.getElem?_eq_none (by rw [List.length_singleton]; omega)] at h; cases h
      rw [this] at h
      cases h
      have : i = k := by omega
      subst this
      exact ⟨Nat.lt_succ_self i, rfl⟩
theorem anc_ok {n : Nat} (hI : ∀ i, i < n → Info P ops s rc i) {S : Nat → Prop} (hC : ∀ i, S i → Rdy ops S i) : ∀ k, k < n → Rdy ops S k → ∀ j, (rc k).anc.testBit j = true → S j := by
  intro k
  induction k using Nat.strongRecOn with
  | _ k ih =>
    intro hk hr j hj
    obtain ⟨o, ho, ha⟩ := (hI k hk).anc
    obtain ⟨e, he, hb, q, hq, hj⟩ := (anc_spec ha).2 j hj
    obtain ⟨h1, rfl⟩ := below_get rc k _ q hq
    have hS := hr o ho e he hb
    rcases hj with rfl | hj
    · exact hS
    · exact ih e.on h1 (by omega) (hC _ hS) j hj
theorem okR_spec (rc : Nat → Rec) {q : Rec} : ∀ {k : Nat}, okR (below rc k) q = true → ∀ j, j < k → q.anc.testBit j = true ∨ apartR (rc j) q = true
  | 0, _, j, hj => nomatch hj
  | k + 1, h, j, hj => by
    replace h : ((Nat.testBit q.anc (below rc k).length || apartR (rc k) q) && okR (below rc k) q) = true := h
    obtain ⟨h1, h2⟩ := (Bool.and_eq_true _ _).mp h
    rcases Nat.eq_or_lt_of_le (Nat.le_of_lt_succ hj) with rfl | hj
    · rw [below_len] at h1
      exact (Bool.or_eq_true _ _).mp h1
    · exact okR_spec rc h2 j hj
theorem disjN_ok {xs ys : List Nat} (h : disjN xs ys = true) {n : Nat} (hx : n ∈ xs) (hy : n ∈ ys) : False := disjB_ok h n hx hy
structure Apart (j k : Rec) : Prop where
  a : ∀ t, t ∈ j.dst → t ∈ k.fp.rt → False
  b : ∀ t, t ∈ j.dst → t ∈ k.dst → False
  c : ∀ t, t ∈ k.dst → t ∈ j.fp.rt → False
  d : ∀ t, t ∈ j.fp.wb → t ∈ k.fp.rb → False
  e : ∀ t, t ∈ j.fp.wb → t ∈ k.fp.wb → False
  f : ∀ t, t ∈ j.fp.rb → t ∈ k.fp.wb → False
theorem apart_ok {j k : Rec} (h : apartR j k = true) : Apart j k := by
  unfold apartR at h
  simp only [Bool.and_eq_true] at h
  obtain ⟨⟨⟨⟨⟨h1, h2⟩, h3⟩, h4⟩, h5⟩, h6⟩ := h
  exact ⟨fun t x y => disjN_ok h1 x y, fun t x y => disjN_ok h2 x y, fun t x y => disjN_ok h3 x y, fun t x y => disjN_ok h4 x y, fun t x y => disjN_ok h5 x y, fun t x y => disjN_ok h6 x y⟩
/-! ### the last writer -/
def last {α : Type} (S wr : Nat → Bool) (val : Nat → α) : Nat → α → α
  | 0, e => e
  | n + 1, e => if S n && wr n then val n else last S wr val n e
theorem last_congr {α : Type} {S S' wr : Nat → Bool} {val : Nat → α} {e : α} : ∀ {n : Nat}, (∀ j, j < n → wr j = true → S j = S' j) → last S wr val n e = last S' wr val n e
  | 0, _ => rfl
  | n + 1, h => by
    unfold last
    rw [last_congr (n := n) fun j hj => h j (Nat.lt_succ_of_lt hj)]
    cases hw : wr n with
    | false => simp
    | true => rw [h n (Nat.lt_succ_self n) hw]
theorem last_text {α : Type} {wr : Nat → Bool} {x : Nat → α} : ∀ {n : Nat}, (∀ j, j < n → wr j = false → x (j + 1) = x j) → last (fun _ => true) wr (fun j => x (j + 1)) n (x 0) = x n
  | 0, _ => rfl
  | n + 1, h => by
    unfold last
    cases hw : wr n with
    | false =>
      rw [h n (Nat.lt_succ_self n) hw]
      exact last_text fun j hj => h j (Nat.lt_succ_of_lt hj)
    | true => rfl
theorem last_lt {α : Type} {wr : Nat → Bool} {val : Nat → α} {e : α} {k : Nat} : ∀ {n : Nat}, k ≤ n → last (fun j => decide (j < k)) wr val n e = last (fun _ => true) wr val k e
  | 0, h => by
    obtain rfl : k = 0 := by omega
    rfl
  | n + 1, h => by
    rcases Nat.eq_or_lt_of_le h with rfl | h
    · refine last_congr fun j hj _ => by simpa using hj
    · rw [← last_lt (n := n) (by omega)]
      show (if decide (n < k) && wr n then val n else last _ wr val n e) = _
      rw [decide_eq_false (by omega : ¬ n < k)]
      rfl
/-- A thing that an operation touches is, before the operation, as it is in the text's order; and so behind it. -/
theorem last_at {α : Type} {S wr : Nat → Bool} {x : Nat → α} {n k : Nat} (hx : ∀ j, j < n → wr j = false → x (j + 1) = x j) (hk : k ≤ n) (hS : ∀ j, j < n → wr j = true → S j = decide (j < k)) : last S wr (fun j => x (j + 1)) n (x 0) = x k := by
  rw [last_congr hS, last_lt hk]
  exact last_text fun j hj => hx j (by omega)
/-! ### any order -/
def wrB (rc : Nat → Rec) (b : Nat) (j : Nat) : Bool := (rc j).fp.wb.any (Nat.beq b)
def wrT (rc : Nat → Rec) (t : Nat) (j : Nat) : Bool := (rc j).dst.any (Nat.beq t)
theorem any_mem {l : List Nat} {n : Nat} : l.any (Nat.beq n) = true ↔ n ∈ l := by
  constructor
  · intro h
    obtain ⟨x, h1, h2⟩ := List.any_eq_true.1 h
    rw [Nat.eq_of_beq_eq_true h2]
    exact h1
  · exact fun h => List.any_eq_true.2 ⟨n, h, Nat.beq_refl n⟩
theorem any_not {l : List Nat} {n : Nat} (h : n ∉ l) : l.any (Nat.beq n) = false := by
  cases hb : l.any (Nat.beq n) with
  | false => rfl
  | true => exact absurd (any_mem.1 hb) h
theorem not_any {l : List Nat} {n : Nat} (h : l.any (Nat.beq n) = false) : n ∉ l := fun hm => by
  rw [any_mem.2 hm] at h; cases h
/-- The state when some operations are done. -/
structure Inv (ops : Array Oper) (s : Nat → St) (rc : Nat → Rec) (N : Nat) (X : Nat → Prop) (S : Nat → Bool) (ρ : Rho) (st : St) (a : Act) (w : World) : Prop where
  rel : Rel X ρ st a w
  n : st.n = (s 0).n
  gs : st.gs = []
  tm : ∀ t, getL .unk st.tmps t = last S (wrT rc t) (fun j => getL .unk (s (j + 1)).tmps t) N (getL .unk (s 0).tmps t)
  en : ∀ b, st.ent b = last S (wrB rc b) (fun j => (s (j + 1)).ent b) N ((s 0).ent b)
  free : ∀ i, (∃ j, j < N ∧ S j = false ∧ (s j).nb ≤ i ∧ i < (s (j + 1)).nb) ∨ ((s N).nb ≤ i ∧ i < 1000000) → ρ i = none
theorem Rel.names (h : Rel X ρ st a w) {nb lim : Nat} {res : List (Nat × Nat)} (f : Free ρ { st with nb := nb, lim := lim, res := res }) : Rel X ρ { st with nb := nb, lim := lim, res := res } a w :=
  ⟨h.defers, h.size, h.sep, h.lt, h.ents, h.tmps, h.gs, f, h.xlt, h.gl⟩
/-- The same facts of a state that is the same to all that ask. -/
theorem Rel.same (h : Rel X ρ st a w) (hn : st'.n = st.n) (hg : st'.gs = []) (ht : ∀ t, getL .unk st'.tmps t = getL .unk st.tmps t) (he : ∀ b, st'.ent b = st.ent b) (f : Free ρ st') : Rel X ρ st' a w :=
  ⟨h.defers, by rw [hn]; exact h.size, h.sep, h.lt, fun i => by rw [he]; exact h.ents i, fun i => by rw [ht]; exact h.tmps i, (fun i t b x hm => by rw [hg] at hm; cases hm), f, h.xlt, h.gl⟩
theorem mono_nb {N : Nat} (hI : ∀ i, i < N → Info P ops s rc i) : ∀ {i j : Nat}, i ≤ j → j ≤ N → (s i).nb ≤ (s j).nb
  | i, 0, h, _ => by
    obtain rfl : i = 0 := by omega
    exact Nat.le_refl _
  | i, j + 1, h, hj => by
    rcases Nat.eq_or_lt_of_le h with rfl | h
    · exact Nat.le_refl _
    · exact Nat.le_trans (mono_nb hI (Nat.le_of_lt_succ h) (by omega)) (hI j (by omega)).step.nb
theorem same_n {N : Nat} (hI : ∀ i, i < N → Info P ops s rc i) (hg : (s 0).gs = []) : ∀ {i : Nat}, i ≤ N → (s i).n = (s 0).n ∧ (s i).gs = [] ∧ (s i).lim = (s 0).lim ∧ (s i).res = (s 0).res
  | 0, _ => ⟨rfl, hg, rfl, rfl⟩
  | i + 1, h => by
    obtain ⟨h1, h2, h3, h4⟩ := same_n hI hg (i := i) (by omega)
    have := (hI i (by omega)).step
    exact ⟨this.n.trans h1, this.gs h2, this.lim.trans h3, this.res.trans h4⟩
/-- One more operation. -/
theorem inv_step {N : Nat} (hN : (s N).nb ≤ 1000000) (hI : ∀ i, i < N → Info P ops s rc i) (hg0 : (s 0).gs = []) {S : Nat → Bool} (hC : ∀ i, S i = true → Rdy ops (fun j => S j = true) i) {k : Nat} (hk : k < N) (hkS : S k = false) (hR : Rdy ops (fun j => S j = true) k)
    (h : Inv ops s rc N X S ρ st a w) {S' : Nat → Bool} (hS' : ∀ j, S' j = if j = k then true else S j) (Q : Exit → Act → World → Prop) (K : Act → World → Prop)
    (hq : ∀ ρ' st' a' w', Inv ops s rc N X S' ρ' st' a' w' → Ext ρ w ρ' w' → (∀ t, (∀ o, ops[k]? = some o → o.dst ≠ some t) → tmOf a' t = tmOf a t) → K a' w') : wpOp P ops Q k K a w := by
  have info := hI k hk
  have hlt := okR_spec rc info.ok
  have hanc := anc_ok hI hC k hk hR
  -- which writers of what this operation touches are done
  have done : ∀ (wr : Nat → Bool), (∀ j, j < k → wr j = true → apartR (rc j) (rc k) = true → False) → (∀ j, k < j → j < N → wr j = true → apartR (rc k) (rc j) = true → False) → ∀ j, j < N → wr j = true → j ≠ k → S j = decide (j < k) := by
    intro wr h1 h2 j hj hw hne
    rcases Nat.lt_or_gt_of_ne hne with hlt' | hgt
    · rw [decide_eq_true hlt']
      rcases hlt j hlt' with h | h
      · exact hanc j h
      · exact (h1 j hlt' hw h).elim
    · rw [decide_eq_false (by omega)]
      cases hSj : S j with
      | false => rfl
      | true =>
        rcases okR_spec rc (hI j hj).ok k hgt with h | h
        · have := anc_ok hI hC j hj (hC j hSj) k h
          rw [hkS] at this; cases this
        · exact (h2 j hgt hj hw h).elim
  have doneB : ∀ b, b ∈ (rc k).fp.rb ∨ b ∈ (rc k).fp.wb → ∀ j, j < N → wrB rc b j = true → j ≠ k → S j = decide (j < k) := fun b hb => done _ (fun j _ hw hap => by
      have hap := apart_ok hap
      rcases hb with hb | hb
      · exact hap.d b (any_mem.1 hw) hb
      · exact hap.e b (any_mem.1 hw) hb) fun j _ _ hw hap => by
      have hap := apart_ok hap
      rcases hb with hb | hb
      · exact hap.f b hb (any_mem.1 hw)
      · exact hap.e b hb (any_mem.1 hw)
  have doneT : ∀ t, t ∈ (rc k).fp.rt ∨ t ∈ (rc k).dst → ∀ j, j < N → wrT rc t j = true → j ≠ k → S j = decide (j < k) := fun t ht => done _ (fun j _ hw hap => by
      have hap := apart_ok hap
      rcases ht with ht | ht
      · exact hap.a t (any_mem.1 hw) ht
      · exact hap.b t (any_mem.1 hw) ht) fun j _ _ hw hap => by
      have hap := apart_ok hap
      rcases ht with ht | ht
      · exact hap.c t (any_mem.1 hw) ht
      · exact hap.b t ht (any_mem.1 hw)
  have before : ∀ {wr : Nat → Bool}, (∀ j, j < N → wr j = true → j ≠ k → S j = decide (j < k)) → ∀ j, j < N → wr j = true → S j = decide (j < k) := fun hd j hj hw => by
    by_cases e : j = k
    · subst e; rw [hkS]; simp
    · exact hd j hj hw e
  have after : ∀ {wr : Nat → Bool}, (∀ j, j < N → wr j = true → j ≠ k → S j = decide (j < k)) → ∀ j, j < N → wr j = true → S' j = decide (j < k + 1) := fun hd j hj hw => by
    rw [hS' j]
    by_cases e : j = k
    · subst e; rw [if_pos rfl]; simp
    · rw [if_neg e, hd j hj hw e]
      by_cases hjk : j < k
      · rw [decide_eq_true hjk, decide_eq_true (by omega)]
      · rw [decide_eq_false hjk, decide_eq_false (by omega)]
  have other : ∀ {wr : Nat → Bool}, wr k = false → ∀ j, j < N → wr j = true → S' j = S j := fun hw j _ hw2 => by
    rw [hS' j, if_neg (fun e => by rw [e, hw] at hw2; cases hw2)]
  have textB : ∀ b j, j < N → wrB rc b j = false → (s (j + 1)).ent b = (s j).ent b := fun b j hj hw => (hI j hj).step.outB b (not_any hw)
  have textT : ∀ t j, j < N → wrT rc t j = false → getL .unk (s (j + 1)).tmps t = getL .unk (s j).tmps t := fun t j hj hw => (hI j hj).step.outT t (not_any hw)
  -- the state in which the operation is carried out
  let wins : List (Nat × Nat) := ((List.range N).filter fun j => !S j && !(Nat.beq j k)).map fun j => ((s j).nb, (s (j + 1)).nb)
  have hwins : ∀ p, p ∈ wins ↔ ∃ j, j < N ∧ S j = false ∧ j ≠ k ∧ p = ((s j).nb, (s (j + 1)).nb) := by
    intro p
    constructor
    · intro hp
      obtain ⟨j, hj, rfl⟩ := List.mem_map.1 hp
      obtain ⟨h1, h2⟩ := List.mem_filter.1 hj
      obtain ⟨h3, h4⟩ := (Bool.and_eq_true _ _).mp h2
      refine ⟨j, List.mem_range.1 h1, by simpa using h3, fun e => ?_, rfl⟩
      subst e
      rw [Nat.beq_refl] at h4; cases h4
    · rintro ⟨j, h1, h2, h3, rfl⟩
      refine List.mem_map.2 ⟨j, List.mem_filter.2 ⟨List.mem_range.2 h1, ?_⟩, rfl⟩
      rw [h2]
      cases hb : Nat.beq j k with
      | false => rfl
      | true => exact absurd (Nat.eq_of_beq_eq_true hb) h3
  let st2 : St := { st with nb := (s k).nb, lim := (s (k + 1)).nb, res := ((s N).nb, 1000000) :: wins }
  have hfree : Free ρ st2 := by
    refine ⟨fun i hi => h.free i ?_, fun p hp => ?_⟩
    · rcases hi with hi | ⟨p, hp, hi⟩
      · exact .inl ⟨k, hk, hkS, hi⟩
      · rcases List.mem_cons.1 hp with rfl | hp
        · exact .inr hi
        · obtain ⟨j, h1, h2, _, rfl⟩ := (hwins p).1 hp
          exact .inl ⟨j, h1, h2, hi⟩
    · rcases List.mem_cons.1 hp with rfl | hp
      · exact .inr (mono_nb hI hk (Nat.le_refl _))
      · obtain ⟨j, h1, h2, h3, rfl⟩ := (hwins p).1 hp
        rcases Nat.lt_or_gt_of_ne h3 with h4 | h4
        · exact .inl (mono_nb hI h4 (by omega))
        · exact .inr (mono_nb hI h4 (by omega))
  have hrel2 : Rel X ρ st2 a w := h.rel.names hfree
  obtain ⟨kn, kg, _, _⟩ := same_n hI hg0 (i := k) (by omega)
  have hagr : Agr (rc k).fp (s k) st2 := by
    refine ⟨fun t ht => ?_, fun b hb => ?_⟩
    · rw [tmp_nil (show st2.gs = [] from h.gs), tmp_nil kg]
      show getL .unk st.tmps t = _
      rw [h.tm t]
      exact last_at (x := fun j => getL .unk (s j).tmps t) (textT t) (by omega) (before (doneT t (.inl ht)))
    · show st.ent b = _
      rw [h.en b]
      exact last_at (x := fun j => (s j).ent b) (textB b) (by omega) (before (doneB b hb))
  refine info.step.exec X ρ st2 a w hrel2 h.gs hagr (h.n.trans kn.symm) rfl (Nat.le_refl _) Q K ?_
  intro ρ' st2' a' w' q1 q2 q3 q4 q5 q6 q7 q8 q9 q10 q11 q12
  refine hq ρ' st2' a' w' ⟨q1, q4.trans h.n, q3, fun t => ?_, fun b => ?_, fun i hi => q1.fresh.1 i ?_⟩ q2 fun t ht => q12 t fun hm => ?_
  · by_cases ht : t ∈ (rc k).dst
    · rw [q10 t ht]
      exact (last_at (x := fun j => getL .unk (s j).tmps t) (textT t) (by omega : k + 1 ≤ N) (after (doneT t (.inr ht)))).symm
    · rw [q11 t ht]
      show getL .unk st.tmps t = _
      rw [h.tm t]
      exact (last_congr (other (any_not ht))).symm
  · by_cases hb : b ∈ (rc k).fp.wb
    · rw [q8 b hb]
      exact (last_at (x := fun j => (s j).ent b) (textB b) (by omega : k + 1 ≤ N) (after (doneB b (.inr hb)))).symm
    · rw [q9 b hb]
      show st.ent b = _
      rw [h.en b]
      exact (last_congr (other (any_not hb))).symm
  · unfold St.fr
    rw [q7]
    rcases hi with ⟨j, h1, h2, h3⟩ | hi
    · rw [hS' j] at h2
      by_cases e : j = k
      · rw [if_pos e] at h2; cases h2
      · rw [if_neg e] at h2
        exact .inr ⟨_, List.mem_cons_of_mem _ ((hwins _).2 ⟨j, h1, h2, e, rfl⟩), h3⟩
    · exact .inr ⟨_, List.mem_cons_self, hi⟩
  · obtain ⟨o, ho1, ho2⟩ := info.step.dst t hm
    exact ht o ho1 ho2
theorem mem_ready {listed : Array Bool} {i : Nat} : i ∈ Region.ready .any ops listed ↔ i < ops.size ∧ listed.getD i true = false ∧ ((ops[i]?).map (·.after.all fun e => !Region.binds .any e || listed.getD e.on false)).getD false = true := by
  unfold Region.ready
  rw [List.mem_filter, List.mem_range, Bool.and_eq_true]
  constructor
  · rintro ⟨h1, h2, h3⟩
    exact ⟨h1, by simpa using h2, h3⟩
  · rintro ⟨h1, h2, h3⟩
    exact ⟨h1, by rw [h2]; rfl, h3⟩
theorem ready_rdy {listed : Array Bool} {i : Nat} (h : i ∈ Region.ready .any ops listed) : Rdy ops (fun j => listed.getD j false = true) i := by
  obtain ⟨_, _, h3⟩ := mem_ready.1 h
  intro o ho e he hb
  rw [ho] at h3
  have := Array.all_eq_true_iff_forall_mem.1 (show (o.after.all fun e => !Region.binds .any e || listed.getD e.on false) = true from h3) e (Array.mem_toList_iff.1 he)
  rw [hb] at this
  simpa using this
def cnt (S : Nat → Bool) : Nat → Nat
  | 0 => 0
  | n + 1 => cnt S n + (if S n then 0 else 1)
theorem cnt_zero {S : Nat → Bool} : ∀ {n : Nat}, cnt S n = 0 → ∀ i, i < n → S i = true
  | 0, _, i, h => nomatch h
  | n + 1, h, i, hi => by
    unfold cnt at h
    cases hs : S n with
    | false => rw [hs] at h; simp at h
    | true =>
      rw [hs] at h
      rcases Nat.eq_or_lt_of_le (Nat.le_of_lt_succ hi) with rfl | hi
      · exact hs
      · exact cnt_zero (by simpa using h) i hi
theorem cnt_set {S S' : Nat → Bool} {k : Nat} (hkS : S k = false) (hS' : ∀ j, S' j = if j = k then true else S j) : ∀ {n : Nat}, (k < n → cnt S n = cnt S' n + 1) ∧ (n ≤ k → cnt S n = cnt S' n)
  | 0 => ⟨(fun h => nomatch h), fun _ => rfl⟩
  | n + 1 => by
    obtain ⟨i1, i2⟩ := cnt_set hkS hS' (n := n)
    refine ⟨fun h => ?_, fun h => ?_⟩
    · unfold cnt
      rcases Nat.eq_or_lt_of_le (Nat.le_of_lt_succ h) with rfl | h
      · rw [i2 (Nat.le_refl _), hkS, hS' k, if_pos rfl]
        simp
      · have hne : ¬ n = k := by omega
        rw [i1 h, hS' n, if_neg hne]
        omega
    · unfold cnt
      have hne : ¬ n = k := by omega
      rw [i2 (by omega), hS' n, if_neg hne]
theorem any_order {N : Nat} (hNs : ops.size = N) (hN : (s N).nb ≤ 1000000) (hI : ∀ i, i < N → Info P ops s rc i) (hg0 : (s 0).gs = []) (hl0 : (s 0).lim = 1000000) (hr0 : (s 0).res = []) {Q : Exit → Act → World → Prop} : ∀ (fuel : Nat) (listed : Array Bool) (ρ : Rho) (st : St) (a : Act) (w : World), listed.size = N → (∀ i, listed.getD i false = true → Rdy ops (fun j => listed.getD j false = true) i) → cnt (fun i => listed.getD i false) N ≤ fuel →
    Inv ops s rc N X (fun i => listed.getD i false) ρ st a w → (∀ ρ' a' w', Rel X ρ' (s N) a' w' → Ext ρ w ρ' w' → (∀ t, (∀ (i : Nat) (o : Oper), ops[i]? = some o → o.dst ≠ some t) → tmOf a' t = tmOf a t) → Q .normal a' w') →
    wpAny P .any ops Q fuel listed a w := by
  intro fuel
  have fin : ∀ (listed : Array Bool) (ρ : Rho) (st : St) (a : Act) (w : World), (∀ i, i < N → listed.getD i false = true) → Inv ops s rc N X (fun i => listed.getD i false) ρ st a w → (∀ ρ' a' w', Rel X ρ' (s N) a' w' → Ext ρ w ρ' w' → (∀ t, (∀ (i : Nat) (o : Oper), ops[i]? = some o → o.dst ≠ some t) → tmOf a' t = tmOf a t) → Q .normal a' w') → Q .normal a w := by
    intro listed ρ st a w hall h hq
    obtain ⟨n1, n2, n3, n4⟩ := same_n hI hg0 (i := N) (Nat.le_refl _)
    refine hq ρ a w (h.rel.same (n1.trans h.n.symm) n2 (fun t => ?_) (fun b => ?_) ⟨fun i hi => ?_, fun p hp => ?_⟩) (Ext.refl _ _) fun _ _ => rfl
    · rw [h.tm t]
      exact (last_at (S := fun i => listed.getD i false) (x := fun j => getL .unk (s j).tmps t) (fun j hj hw => (hI j hj).step.outT t (not_any hw)) (Nat.le_refl _) fun j hj _ => (hall j hj).trans (decide_eq_true hj).symm).symm
    · rw [h.en b]
      exact (last_at (S := fun i => listed.getD i false) (x := fun j => (s j).ent b) (fun j hj hw => (hI j hj).step.outB b (not_any hw)) (Nat.le_refl _) fun j hj _ => (hall j hj).trans (decide_eq_true hj).symm).symm
    · rcases hi with hi | ⟨p, hp, _⟩
      · exact h.free i (.inr ⟨hi.1, by rw [← hl0, ← n3]; exact hi.2⟩)
      · rw [n4, hr0] at hp; cases hp
    · rw [n4, hr0] at hp; cases hp
  -- as long as something is left, something is ready
  have live : ∀ (listed : Array Bool), listed.size = N → Region.ready .any ops listed = [] → ∀ i, i < N → listed.getD i false = true := by
    intro listed hsz hnil i
    induction i using Nat.strongRecOn with
    | _ i ih =>
      intro hi
      cases hl : listed.getD i false with
      | true => rfl
      | false =>
        exfalso
        have hmem : i ∈ Region.ready .any ops listed := by
          refine mem_ready.2 ⟨by omega, ?_, ?_⟩
          · rw [Array.getD_eq_getD_getElem?] at hl ⊢
            rw [Array.getElem?_eq_getElem (by omega)] at hl ⊢
            exact hl
          · obtain ⟨o, ho, ha⟩ := (hI i hi).anc
            rw [ho]
            show (o.after.all fun e => !Region.binds .any e || listed.getD e.on false) = true
            refine Array.all_eq_true_iff_forall_mem.2 fun e he => ?_
            cases hb : Region.binds .any e with
            | false => rfl
            | true =>
              obtain ⟨q, hq⟩ := (anc_spec ha).1 e (Array.mem_toList_iff.2 he) hb
              obtain ⟨h1, _⟩ := below_get rc i _ q hq
              rw [ih e.on h1 (by omega)]
              rfl
        rw [hnil] at hmem
        cases hmem
  induction fuel with
  | zero =>
    intro listed ρ st a w hsz hC hc h hq
    have hall := cnt_zero (Nat.le_zero.1 hc)
    refine ⟨?_, fin listed ρ st a w hall h hq⟩
    cases hr : Region.ready .any ops listed with
    | nil => rfl
    | cons i is =>
      exfalso
      have hm : i ∈ Region.ready .any ops listed := by rw [hr]; exact List.mem_cons_self
      obtain ⟨h1, h2, _⟩ := mem_ready.1 hm
      have := hall i (by omega)
      rw [Array.getD_eq_getD_getElem?, Array.getElem?_eq_getElem (by omega)] at this h2
      have h2 : listed[i] = false := h2
      have this : listed[i] = true := this
      rw [h2] at this
      cases this
  | succ fuel ih =>
    intro listed ρ st a w hsz hC hc h hq
    refine ⟨fun hnil => fin listed ρ st a w (live listed hsz hnil) h hq, fun k hk => ?_⟩
    obtain ⟨k1, k2, _⟩ := mem_ready.1 hk
    have hkN : k < N := by omega
    have hkS : listed.getD k false = false := by
      rw [Array.getD_eq_getD_getElem?, Array.getElem?_eq_getElem (by omega)] at k2 ⊢
      exact k2
    have hS' : ∀ j, (listed.setIfInBounds k true).getD j false = if j = k then true else listed.getD j false := fun j => by
      rw [Array.getD_eq_getD_getElem?, Array.getElem?_setIfInBounds]
      by_cases e : k = j
      · subst e; rw [if_pos rfl, if_pos rfl, if_pos (by omega)]; rfl
      · rw [if_neg e, if_neg (fun q => e q.symm), Array.getD_eq_getD_getElem?]
    refine inv_step hN hI hg0 hC hkN hkS (ready_rdy hk) h (S' := fun i => (listed.setIfInBounds k true).getD i false) hS' Q _ ?_
    intro ρ' st' a' w' h' hx hs
    refine ih (listed.setIfInBounds k true) ρ' st' a' w' (by simpa using hsz) ?_ ?_ h' fun ρ2 a2 w2 e1 e2 e3 => hq ρ2 a2 w2 e1 (hx.trans e2) fun t ht => (e3 t ht).trans (hs t (ht k))
    · intro i hi o ho e he hb
      rw [hS' e.on]
      by_cases q : e.on = k
      · rw [if_pos q]
      · rw [if_neg q]
        rw [hS' i] at hi
        by_cases q2 : i = k
        · subst q2
          exact ready_rdy hk o ho e he hb
        · rw [if_neg q2] at hi
          exact hC i hi o ho e he hb
    · have := (cnt_set (S := fun i => listed.getD i false) (S' := fun i => (listed.setIfInBounds k true).getD i false) hkS hS' (n := N)).1 hkN
      omega
theorem Rel.drawn (h : Rel X ρ st a w) : Rel X ρ st a { w with drawn := w.drawn + 1 } ∧ Ext ρ w ρ { w with drawn := w.drawn + 1 } := by
  have x : Ext ρ w ρ { w with drawn := w.drawn + 1 } := ⟨rfl, rfl, rfl, Nat.le_refl _, fun _ _ _ => rfl, fun i _ h => .inl ⟨i, h⟩, fun _ _ h => .inl h⟩
  exact ⟨⟨h.defers, h.size, h.sep, h.lt, fun i => EntOk.ext (h.ents i) x rfl fun b hb => rfl, fun i => (h.tmps i).ext x, fun i t b y hm => (h.gs i t b y hm).imp (fun h => ⟨h.1, h.2.ext x⟩) id, h.fresh, h.xlt, h.gl.ext x⟩, x⟩
theorem drawAll_sound (H : CtxOk P C) {K : St → Option R} {id : Nat} (h : Rel X ρ st a w) (hr : drawAll C ops st K = some r) (Q : Exit → Act → World → Prop)
    (hq : ∀ ρ' st' a' w', K st' = some r → Rel X ρ' st' a' w' → Ext ρ w ρ' w' → st'.n = st.n → SameBut (ops.toList.filterMap (·.dst)) a a' → Q .normal a' w') : (Code.region id ops true).wp P Q a w := by
  unfold drawAll at hr
  cases hc : (plainB st) with
  | false => rw [hc] at hr; cases hr
  | true =>
    rw [hc] at hr
    obtain ⟨c1a, c1b⟩ := (Bool.and_eq_true _ _).mp hc
    have c1a := Nat.eq_of_beq_eq_true c1a
    have c1b : st.res = [] := by
      cases hres : st.res with
      | nil => rfl
      | cons _ _ => rw [hres] at c1b; cases c1b
    replace hr : runDraw C ops ops.toList [] { st with gs := [] } K = some r := hr
    obtain ⟨s, rc, e1, e2, e3, e4, e5⟩ := runDraw_info H ops.toList 0 (fun _ => { st with gs := [] }) (fun _ => ⟨[], ⟨[], [], []⟩, 0⟩) (fun i => by rw [Nat.zero_add, Array.getElem?_toList]) hr
    have hlen : 0 + ops.toList.length = ops.size := by rw [Nat.zero_add, Array.length_toList]
    rw [hlen] at e3 e4 e5
    have hI : ∀ i, i < ops.size → Info P ops s rc i := fun i hi => e3 i (Nat.zero_le _) hi
    have s0 : s 0 = { st with gs := [] } := e1 0 (Nat.le_refl _)
    obtain ⟨hd, xd⟩ := h.drawn
    refine wp_region_draw fun t => ?_
    have hsch : Region.schedule (P.follows .mixedOrders) ops t = Region.linearise .any ops t := by
      unfold Region.schedule
      rw [H.mix]
      simp
    rw [hsch]
    unfold Region.linearise
    have hff : ∀ i, (Array.replicate ops.size false).getD i false = false := fun i => by
      rw [Array.getD_eq_getD_getElem?, Array.getElem?_replicate]
      split <;> rfl
    refine wpAny_sound ops.size t _ a _ (any_order (X := X) rfl e5 hI (by rw [s0]) (by rw [s0]; exact c1a) (by rw [s0]; exact c1b) ops.size _ ρ { st with gs := [] } a _ (by simp) (fun i hi => by rw [hff i] at hi; cases hi) ?_ ⟨hd.clear, by rw [s0], rfl, fun t => ?_, fun b => ?_, fun i hi => ?_⟩ ?_)
    · have : ∀ n, cnt (fun i => (Array.replicate ops.size false).getD i false) n = n := by
        intro n
        induction n with
        | zero => rfl
        | succ n ih =>
          unfold cnt
          rw [ih, hff n]
          rfl
      rw [this]
      exact Nat.le_refl _
    · have : ∀ n, last (fun i => (Array.replicate ops.size false).getD i false) (wrT rc t) (fun j => getL .unk (s (j + 1)).tmps t) n (getL .unk (s 0).tmps t) = getL .unk (s 0).tmps t := by
        intro n
        induction n with
        | zero => rfl
        | succ n ih =>
          unfold last
          rw [hff n, ih]
          rfl
      rw [this, s0]
    · have : ∀ n, last (fun i => (Array.replicate ops.size false).getD i false) (wrB rc b) (fun j => (s (j + 1)).ent b) n ((s 0).ent b) = (s 0).ent b := by
        intro n
        induction n with
        | zero => rfl
        | succ n ih =>
          unfold last
          rw [hff n, ih]
          rfl
      rw [this, s0]
    · have m0 := mono_nb hI (i := 0) (j := ops.size) (Nat.zero_le _) (Nat.le_refl _)
      have s0n : (s 0).nb = st.nb := by rw [s0]
      refine h.fresh.1 i (.inl ⟨?_, ?_⟩)
      · rcases hi with ⟨j, h1, _, h2, h3⟩ | hi
        · have := mono_nb hI (i := 0) (j := j) (Nat.zero_le _) (by omega)
          omega
        · omega
      · rw [c1a]
        rcases hi with ⟨j, h1, _, h2, h3⟩ | hi
        · have := mono_nb hI (i := j + 1) (j := ops.size) h1 (Nat.le_refl _)
          omega
        · exact hi.2
    · intro ρ' a' w' k1 k2 k3
      refine hq ρ' (s ops.size) a' w' e4 k1 (xd.trans k2) ?_ fun t ht => k3 t fun i o ho e => ht (List.mem_filterMap.2 ⟨o, ?_, e⟩)
      · rw [(same_n hI (by rw [s0]) (i := ops.size) (Nat.le_refl _)).1, s0]
      · exact Array.mem_toList_iff.2 (Array.mem_of_getElem? ho)
end
end Go.Proofs.YtcnkbllbpimaiaaGreatDoorE

namespace Go.Proofs.YtcnkbllbpimaiaaGreatDoorE
open Go Go.RowKit
set_option linter.unusedVariables false
def exOf : Ex → Exit
  | .nrm => .normal
  | .exit id => .exit id
  | .ret => .ret
def CGood {R : Type} (P : Program) (c : Code) (a : Act) (w : World) (X : Nat → Prop) (ρ : Rho) (st : St) (K : Ex → St → Option R) (r : R) : Prop :=
  ∀ Q : Exit → Act → World → Prop, (∀ e ρ' st' a' w', K e st' = some r → Rel X ρ' st' a' w' → Ext ρ w ρ' w' → st'.n = st.n → SameBut (dsts c) a a' → Q (exOf e) a' w') → c.wp P Q a w
def SumOk (P : Program) (C : Ctx) (c : Code) (s : Summ) : Prop :=
  ∀ (R : Type) (X : Nat → Prop) (ρ : Rho) (st : St) (a : Act) (w : World) (K : Ex → St → Option R) (r : R), Rel X ρ st a w → V C (.sum s) c st K = some r → CGood P c a w X ρ st K r
def PlanOk (P : Program) (C : Ctx) : Plan → Code → Prop
  | .sum s, c => SumOk P C c s
  | p, .seq a b => PlanOk P C p.l a ∧ PlanOk P C p.r b
  | p, .cond _ a b => PlanOk P C p.l a ∧ PlanOk P C p.r b
  | p, .block _ a => PlanOk P C p.o a
  | _, _ => True
section
variable {P : Program} {X : Nat → Prop} {ρ ρ' : Rho} {st st' : St} {a : Act} {w w' : World} {R : Type} {r : R} {C : Ctx}
theorem SameBut.mono {ds es : List Nat} {a a' : Act} (h : SameBut ds a a') (hs : ∀ i, i ∈ ds → i ∈ es) : SameBut es a a' := fun i hi => h i fun hm => hi (hs i hm)
theorem SameBut.trans {ds : List Nat} {a b c : Act} (h : SameBut ds a b) (k : SameBut ds b c) : SameBut ds a c := fun i hi => (k i hi).trans (h i hi)
theorem V_auto {p : Plan} (hp : ∀ s, p ≠ .sum s) (c : Code) (st : St) (K : Ex → St → Option R) : V C p c st K = match c with
    | .skip => K .nrm st
    | .region _ ops false => runOps C ops ops.toList st fun st' => K .nrm st'
    | .region _ ops true => drawAll C ops st fun st' => K .nrm st'
    | .seq a b => V C p.l a st fun e st' => match e with
      | .nrm => V C p.r b st' K
      | e => K e st'
    | .cond x a b => match x with
      | .tmp t => known 1 t st fun st' => match st'.tmp t with
        | .one (.kb true) => V C p.l a st' K
        | .one (.kb false) => V C p.r b st' K
        | _ => none
      | .const (.bool true) => V C p.l a st K
      | .const (.bool false) => V C p.r b st K
      | _ => none
    | .block id a => V C p.o a st fun e st' => match e with
      | .exit j => bif Nat.beq j id then K .nrm st' else K (.exit j) st'
      | e => K e st'
    | .exit id => K (.exit id) st
    | .ret => K .ret st
    | _ => none := by
  cases p with
  | sum s => exact absurd rfl (hp s)
  | auto => cases c <;> first | rfl | (rename_i draw; cases draw <;> rfl)
  | two p q => cases c <;> first | rfl | (rename_i draw; cases draw <;> rfl)
  | one p => cases c <;> first | rfl | (rename_i draw; cases draw <;> rfl)
theorem plan_auto {p : Plan} (hp : ∀ s, p ≠ .sum s) (c : Code) (h : PlanOk P C p c) : match c with
    | .seq a b => PlanOk P C p.l a ∧ PlanOk P C p.r b
    | .cond _ a b => PlanOk P C p.l a ∧ PlanOk P C p.r b
    | .block _ a => PlanOk P C p.o a
    | _ => True := by
  cases p with
  | sum s => exact absurd rfl (hp s)
  | auto => cases c <;> first | exact h | trivial
  | two p q => cases c <;> first | exact h | trivial
  | one p => cases c <;> first | exact h | trivial
theorem V_sound (H : CtxOk P C) : ∀ (c : Code) {p : Plan} {ρ : Rho} {st : St} {a : Act} {w : World} {K : Ex → St → Option R}, PlanOk P C p c → Rel X ρ st a w → V C p c st K = some r → CGood P c a w X ρ st K r := by
  intro c
  induction c with
  | skip =>
    intro p ρ st a w K hp h hr
    by_cases hs : ∃ s, p = .sum s
    · obtain ⟨s, rfl⟩ := hs; exact hp R X ρ st a w K r h hr
    · rw [V_auto (fun s e => hs ⟨s, e⟩)] at hr
      exact fun Q hq => wp_skip (hq .nrm ρ st a w hr h (Ext.refl _ _) rfl (SameBut.refl _ _))
  | region id ops draw =>
    intro p ρ st a w K hp h hr
    by_cases hs : ∃ s, p = .sum s
    · obtain ⟨s, rfl⟩ := hs; exact hp R X ρ st a w K r h hr
    · rw [V_auto (fun s e => hs ⟨s, e⟩)] at hr
      cases draw with
      | true =>
        intro Q hq
        refine drawAll_sound H h hr Q ?_
        intro ρ' st' a' w' k1 k2 k3 k4 k5
        exact hq .nrm ρ' st' a' w' k1 k2 k3 k4 k5
      | false =>
        intro Q hq
        refine wp_region_list (runOps_sound H ops ops.toList h hr Q ?_)
        intro ρ' st' a' w' k1 k2 k3 k4 k5
        exact hq .nrm ρ' st' a' w' k1 k2 k3 k4 k5
  | seq x y ihx ihy =>
    intro p ρ st a w K hp h hr
    by_cases hs : ∃ s, p = .sum s
    · obtain ⟨s, rfl⟩ := hs; exact hp R X ρ st a w K r h hr
    · have hs' : ∀ s, p ≠ .sum s := fun s e => hs ⟨s, e⟩
      rw [V_auto hs'] at hr
      obtain ⟨hp1, hp2⟩ := plan_auto hs' _ hp
      intro Q hq
      refine wp_seq (ihx hp1 h hr _ ?_)
      intro e ρ1 st1 a1 w1 k1 k2 k3 k4 k5
      have k5' : SameBut (dsts (.seq x y)) a a1 := k5.mono fun i hi => List.mem_append_left _ hi
      cases e with
      | nrm =>
        refine ihy hp2 k2 k1 Q ?_
        intro e2 ρ2 st2 a2 w2 m1 m2 m3 m4 m5
        exact hq e2 ρ2 st2 a2 w2 m1 m2 (k3.trans m3) (m4.trans k4) (k5'.trans (m5.mono fun i hi => List.mem_append_right _ hi))
      | exit id => exact hq _ ρ1 st1 a1 w1 k1 k2 k3 k4 k5'
      | ret => exact hq _ ρ1 st1 a1 w1 k1 k2 k3 k4 k5'
  | cond x t e iht ihe =>
    intro p ρ st a w K hp h hr
    by_cases hs : ∃ s, p = .sum s
    · obtain ⟨s, rfl⟩ := hs; exact hp R X ρ st a w K r h hr
    · have hs' : ∀ s, p ≠ .sum s := fun s e => hs ⟨s, e⟩
      rw [V_auto hs'] at hr
      obtain ⟨hp1, hp2⟩ := plan_auto hs' _ hp
      have goT : ∀ {st1 : St}, Rel X ρ st1 a w → st1.n = st.n → V C p.l t st1 K = some r → a.eval x = .bool true → CGood P (.cond x t e) a w X ρ st K r := by
        intro st1 h1 n1 hr1 hx Q hq
        refine wp_cond_true hx (iht hp1 h1 hr1 Q ?_)
        intro e2 ρ2 st2 a2 w2 m1 m2 m3 m4 m5
        exact hq e2 ρ2 st2 a2 w2 m1 m2 m3 (m4.trans n1) (m5.mono fun i hi => List.mem_append_left _ hi)
      have goF : ∀ {st1 : St}, Rel X ρ st1 a w → st1.n = st.n → V C p.r e st1 K = some r → a.eval x = .bool false → CGood P (.cond x t e) a w X ρ st K r := by
        intro st1 h1 n1 hr1 hx Q hq
        refine wp_cond_false hx (ihe hp2 h1 hr1 Q ?_)
        intro e2 ρ2 st2 a2 w2 m1 m2 m3 m4 m5
        exact hq e2 ρ2 st2 a2 w2 m1 m2 m3 (m4.trans n1) (m5.mono fun i hi => List.mem_append_right _ hi)
      dsimp only at hr
      split at hr
      · rename_i tt
        obtain ⟨st1, hr1, h1, n1⟩ := known_sound 1 tt h hr
        have ht := h1.tmp tt
        split at hr1
        · rename_i hb
          rw [hb] at ht
          refine goT h1 n1 hr1 ?_
          rcases ht with ht | ⟨_, _, _, e, _⟩
          · exact ht
          · cases e
        · rename_i hb
          rw [hb] at ht
          refine goF h1 n1 hr1 ?_
          rcases ht with ht | ⟨_, _, _, e, _⟩
          · exact ht
          · cases e
        · cases hr1
      · exact goT h rfl hr rfl
      · exact goF h rfl hr rfl
      · cases hr
  | block id x ih =>
    intro p ρ st a w K hp h hr
    by_cases hs : ∃ s, p = .sum s
    · obtain ⟨s, rfl⟩ := hs; exact hp R X ρ st a w K r h hr
    · have hs' : ∀ s, p ≠ .sum s := fun s e => hs ⟨s, e⟩
      rw [V_auto hs'] at hr
      have hp1 := plan_auto hs' _ hp
      intro Q hq
      refine wp_block (ih hp1 h hr _ ?_)
      intro e ρ1 st1 a1 w1 k1 k2 k3 k4 k5
      cases e with
      | nrm => exact hq .nrm ρ1 st1 a1 w1 k1 k2 k3 k4 k5
      | ret => exact hq .ret ρ1 st1 a1 w1 k1 k2 k3 k4 k5
      | exit j =>
        replace k1 : (bif Nat.beq j id then K .nrm st1 else K (.exit j) st1) = some r := k1
        show (if j = id then Q .normal a1 w1 else Q (.exit j) a1 w1)
        cases hj : Nat.beq j id with
        | true =>
          rw [hj] at k1
          rw [if_pos (Nat.eq_of_beq_eq_true hj)]
          exact hq .nrm ρ1 st1 a1 w1 k1 k2 k3 k4 k5
        | false =>
          rw [hj] at k1
          rw [if_neg (Nat.ne_of_beq_eq_false hj)]
          exact hq (.exit j) ρ1 st1 a1 w1 k1 k2 k3 k4 k5
  | exit id =>
    intro p ρ st a w K hp h hr
    by_cases hs : ∃ s, p = .sum s
    · obtain ⟨s, rfl⟩ := hs; exact hp R X ρ st a w K r h hr
    · rw [V_auto (fun s e => hs ⟨s, e⟩)] at hr
      exact fun Q hq => wp_exit (hq (.exit id) ρ st a w hr h (Ext.refl _ _) rfl (SameBut.refl _ _))
  | ret =>
    intro p ρ st a w K hp h hr
    by_cases hs : ∃ s, p = .sum s
    · obtain ⟨s, rfl⟩ := hs; exact hp R X ρ st a w K r h hr
    · rw [V_auto (fun s e => hs ⟨s, e⟩)] at hr
      exact fun Q hq => wp_ret (hq .ret ρ st a w hr h (Ext.refl _ _) rfl (SameBut.refl _ _))
  | loop x ih =>
    intro p ρ st a w K hp h hr
    by_cases hs : ∃ s, p = .sum s
    · obtain ⟨s, rfl⟩ := hs; exact hp R X ρ st a w K r h hr
    · rw [V_auto (fun s e => hs ⟨s, e⟩)] at hr
      cases hr
  | rangeFunc f ps x y ihx ihy =>
    intro p ρ st a w K hp h hr
    by_cases hs : ∃ s, p = .sum s
    · obtain ⟨s, rfl⟩ := hs; exact hp R X ρ st a w K r h hr
    · rw [V_auto (fun s e => hs ⟨s, e⟩)] at hr
      cases hr
  | scope x ih =>
    intro p ρ st a w K hp h hr
    by_cases hs : ∃ s, p = .sum s
    · obtain ⟨s, rfl⟩ := hs; exact hp R X ρ st a w K r h hr
    · rw [V_auto (fun s e => hs ⟨s, e⟩)] at hr
      cases hr
  | label l =>
    intro p ρ st a w K hp h hr
    by_cases hs : ∃ s, p = .sum s
    · obtain ⟨s, rfl⟩ := hs; exact hp R X ρ st a w K r h hr
    · rw [V_auto (fun s e => hs ⟨s, e⟩)] at hr
      cases hr
  | goto l =>
    intro p ρ st a w K hp h hr
    by_cases hs : ∃ s, p = .sum s
    · obtain ⟨s, rfl⟩ := hs; exact hp R X ρ st a w K r h hr
    · rw [V_auto (fun s e => hs ⟨s, e⟩)] at hr
      cases hr
  | refuse y =>
    intro p ρ st a w K hp h hr
    by_cases hs : ∃ s, p = .sum s
    · obtain ⟨s, rfl⟩ := hs; exact hp R X ρ st a w K r h hr
    · rw [V_auto (fun s e => hs ⟨s, e⟩)] at hr
      cases hr
end
end Go.Proofs.YtcnkbllbpimaiaaGreatDoorE
