/- What the law FnExactStreamOf needs, part 6 of 9: the Lean functions of the Go functions that it reaches, with the proofs that the calls come to what they say, and plain facts about them. Conditions: those that each theorem states. Written by a session and by its programs (after the kit's printer). -/
import Derived.Ground.Names2Prog
import Derived.Shelf.Slices.Delete
import Derived.Shelf.Slices.Cells
import Derived.Shelf.Slices.Empties
import Derived.Test.YtaajcllchbnjiaaProg
import Derived.Test.YtaajcllchbnjiaaXFnExactStreamOf4
namespace Go.Proofs.YtaajcllchbnjiaaE
open Go Go.RowKit
set_option linter.unusedVariables false
def valS : DV → Option Value
  | .mk (.int k) n => some (.int k n)
  | .mk .bool b => some (.bool b)
  | .mk .str s => some (.string (ba s))
  | _ => none
def scalar : Ty → Bool
  | .int _ => true
  | .bool => true
  | .str => true
  | _ => false
def scalPs : List PK → Bool
  | [] => true
  | .val false t [.ro] :: ps => scalar t && scalPs ps
  | _ => false
def scalRs : List SK → Bool
  | [] => true
  | .val false [.v t] :: rs => scalar t && scalRs rs
  | _ => false
section
variable {P : Program} {w : World} {F B : Nat → Prop}
theorem enter_of {f : FuncId} {fn : Func} {c : Code} (hf : P.funcs[f]? = some fn) (hname : (fn.name == "runtime.NumGoroutine") = false) (hb : fn.body = some c) : ∀ args w, (callFunc f args).run P w = .ok (.enter f args) w := fun args w => by
  simp [callFunc, hf, hb, by simpa using hname]
theorem unl_scal {t : Ty} (ht : scalar t = true) {x : Leaf} {y : t.T} {v : Value} (h : unlA t [x] = some y) (hx : DLeaf w F B x v) : valS (.mk t y) = some v := by
  have key : ∃ y', unl t [x] = some (y', []) ∧ y' = y := by
    unfold unlA at h
    split at h
    · rename_i z hz; cases h; exact ⟨_, hz, rfl⟩
    · cases h
  obtain ⟨y', hu, rfl⟩ := key
  cases t with
  | int k =>
    replace hu : unlInt k [x] = some (y', []) := hu
    unfold unlInt at hu
    split at hu
    · rename_i k' n xs he
      cases he
      split at hu
      · rename_i hk
        subst hk
        cases hu
        exact congrArg (fun u => some u) (show v = _ from hx).symm
      · cases hu
    · cases hu
  | bool =>
    replace hu : unlBool [x] = some (y', []) := hu
    unfold unlBool at hu
    split at hu
    · rename_i b xs he; cases he; cases hu; exact congrArg (fun u => some u) (show v = _ from hx).symm
    · rename_i b xs he; cases he; cases hu; exact congrArg (fun u => some u) (show v = _ from hx).symm
    · cases hu
  | str =>
    replace hu : unlStr [x] = some (y', []) := hu
    unfold unlStr at hu
    split at hu
    · rename_i s xs he; cases he; cases hu; exact congrArg (fun u => some u) (show v = _ from hx).symm
    · cases hu
  | _ => cases ht
theorem scal_args : ∀ {ps : List PK} {asx : List CArg} {vs : List Value} {L : List GI} {M : List Value} {ds : List DV}, scalPs ps = true → CArgsOk w F B asx vs L M → decArgs ps asx = some ds → L = [] ∧ M = [] ∧ vs = ds.filterMap valS
  | [], [], [], L, M, ds, _, h, hd => by
    obtain ⟨rfl, rfl⟩ := h
    cases hd
    exact ⟨rfl, rfl, rfl⟩
  | p :: ps, a :: asx, v :: vs, L, M, ds, hp, h, hd => by
    obtain ⟨L1, L2, M1, M2, rfl, rfl, h1, h2⟩ := h
    unfold scalPs at hp
    split at hp
    · rename_i he; cases he
    · rename_i t ps' he
      cases he
      obtain ⟨ht, hp⟩ := (Bool.and_eq_true _ _).mp hp
      unfold decArgs at hd
      split at hd
      · rename_i d1 d2 hd1 hd2
        cases hd
        obtain ⟨rfl, rfl, rfl⟩ := scal_args hp h2 hd2
        unfold decArg at hd1
        split at hd1
        · rename_i ag t' ms ag' xs he
          cases he
          cases ag' with
          | true => cases hd1
          | false =>
            obtain ⟨rfl, h1⟩ := h1
            replace hd1 : (match dv t (decCLs [.ro] xs) with
              | some x => some [x]
              | none => none) = some d1 := hd1
            split at hd1
            · rename_i d hdv
              cases hd1
              unfold dv at hdv
              split at hdv
              · rename_i ys hys
                split at hdv
                · rename_i y hy
                  cases hdv
                  match xs, hys, h1 with
                  | [], hys, h1 => cases hys
                  | [.leaf z], hys, h1 =>
                    obtain ⟨h1, rfl⟩ := h1
                    have hz : ∃ z', ys = [z'] ∧ (z' = z ∨ ∃ r l, z = .bor r l ∧ z' = .list r l) := by
                      cases z <;> cases hys <;> first | exact ⟨_, rfl, .inl rfl⟩ | exact ⟨_, rfl, .inr ⟨_, _, rfl, rfl⟩⟩
                    obtain ⟨z', rfl, hz⟩ := hz
                    have hv : valS (.mk t y) = some v := by
                      rcases hz with rfl | ⟨r, l, rfl, rfl⟩
                      · exact unl_scal ht hy h1
                      · cases t <;> first | (cases ht; done) | cases hy
                    refine ⟨rfl, rfl, ?_⟩
                    show v :: _ = (DV.mk t y :: d2).filterMap valS
                    rw [List.filterMap_cons_some hv]
                  | [.row e r l], hys, h1 => cases hys
                  | [.nil], hys, h1 => cases hys
                  | _ :: _ :: _, hys, h1 => exact (by
                      unfold decCLs at hys
                      split at hys
                      · rename_i h5; cases h5
                      · cases hys)
                · cases hdv
              · cases hdv
            · cases hd1
        · rename_i he; cases he
        · rename_i he; cases he
        · rename_i he; cases he
        · rename_i he; cases he
        · cases hd1
      · cases hd
    · cases hp
  | [], _ :: _, _, _, _, _, _, _, hd => by cases hd
  | _ :: _, [], _, _, _, _, _, _, hd => by cases hd
  | [], [], _ :: _, _, _, _, _, h, _ => h.elim
  | _ :: _, _ :: _, [], _, _, _, _, h, _ => h.elim
theorem scal_back : ∀ {ps : List PK} (ds : List DV), scalPs ps = true → encBacks ps ds = []
  | [], _, _ => rfl
  | p :: ps, ds, hp => by
    unfold scalPs at hp
    split at hp
    · rename_i he; cases he
    · rename_i t ps' he
      cases he
      obtain ⟨ht, hp⟩ := (Bool.and_eq_true _ _).mp hp
      have e : rowKs (leafTys t) [.ro] = [] := by cases t <;> first | rfl | cases ht
      show (encRows (rowKs (leafTys t) [.ro]) ds).1 ++ encBacks ps _ = []
      rw [e]
      exact scal_back _ hp
    · cases hp
theorem valS_leaf {t : Ty} {y : t.T} {v : Value} (h : valS (.mk t y) = some v) : ∃ x, leaves t y = [x] ∧ DLeaf w F (fun _ => False) x v := by
  cases t with
  | int k => cases h; exact ⟨_, rfl, rfl⟩
  | bool => cases h; exact ⟨_, rfl, rfl⟩
  | str => cases h; exact ⟨_, rfl, rfl⟩
  | _ => cases h
theorem scal_res : ∀ {rs : List SK} {ds : List DV} {us : List Value}, scalRs rs = true → ds.map valS = us.map some → ds.length = rs.length → RComps w F (encRes rs ds).1 us []
  | [], [], [], _, _, _ => rfl
  | r :: rs, d :: ds, u :: us, hr, h, hl => by
    unfold scalRs at hr
    split at hr
    · rename_i he; cases he
    · rename_i t rs' he
      cases he
      obtain ⟨ht, hr⟩ := (Bool.and_eq_true _ _).mp hr
      obtain ⟨h1, h2⟩ : valS d = some u ∧ ds.map valS = us.map some := by
        simpa using h
      obtain ⟨t', y⟩ := d
      obtain ⟨x, e, hx⟩ := valS_leaf (w := w) (F := F) h1
      refine ⟨[], [], rfl, ?_, show RComps w F (encRes rs ds).1 us [] from scal_res hr h2 (by simpa using hl)⟩
      show RLsOk w F ((leaves t' y).map .leaf ++ []) [u] []
      rw [e]
      exact ⟨hx, rfl⟩
    · cases hr
  | [], _ :: _, _, _, _, hl => by cases hl
  | _ :: _, [], _, _, _, hl => by cases hl
  | [], [], _ :: _, _, h, _ => by cases h
  | _ :: _, _ :: _, [], _, h, _ => by cases h
/-- A function of scalars: its contract. -/
theorem hand_scal {f : FuncId} {s : Sig} {G : Prod' s.ins → Option (Prod' s.outs)} (henter : ∀ args w, (callFunc f args).run P w = .ok (.enter f args) w) (hps : scalPs s.ps = true) (hrs : scalRs s.rs = true)
    (hc : ∀ (x : Prod' s.ins) (y : Prod' s.outs) (w : World), G x = some y → Calls P f ((ofProd s.ins x).filterMap valS).toArray w fun e w' => ∃ us, e = .returned (tupOf us) ∧ (ofProd s.outs y).map valS = us.map some ∧ (ofProd s.outs y).length = s.rs.length ∧ Below w.heap.size w w') : ConOk P f (s.con G) := by
  refine ⟨henter, ?_⟩
  intro asx rr hrr w vs F0 L N hF0 hG hargs
  replace hrr : (s.run G asx).val = some rr := hrr
  unfold Sig.run at hrr
  split at hrr
  · rename_i ds hds
    split at hrr
    · rename_i x hx
      cases hFx : G x with
      | none => simp [CR.val, hFx] at hrr
      | some y =>
        have hrr : s.enc y = rr := by simpa [CR.val, hFx] using hrr
        subst hrr
        obtain ⟨rfl, rfl, rfl⟩ := scal_args hps hargs hds
        have hofx : ofProd s.ins x = ds := of_toProd hx
        have := hc x y w hFx
        rw [hofx] at this
        refine this.mono ?_
        rintro e w' ⟨us, rfl, hus, hlen, bel⟩
        refine ⟨_, rfl, ⟨bel.os, bel.tape, bel.output, bel.size, fun b hb _ => bel.block b hb⟩, [], [], (fun c hc => nomatch hc), List.nodup_nil, ?_, ?_⟩
        · show RRefs w' _ [] (encBacks s.ps (encRes s.rs (ofProd s.outs y)).2) []
          rw [scal_back _ hps]
          rfl
        · exact comps_ret (scal_res hrs hus hlen)
    · cases hrr
  · cases hrr
end
end Go.Proofs.YtaajcllchbnjiaaE

namespace Go.Proofs.YtaajcllchbnjiaaE
open Go Go.RowKit
set_option linter.unusedVariables false
section
variable {P : Program} {X : Nat → Prop} {ρ ρ' : Rho} {st st' : St} {a : Act} {w w' : World} {C : Ctx}
theorem sums_auto : ∀ c : Code, sumsOf .auto c = []
  | .seq a b => by
    show sumsOf .auto a ++ sumsOf .auto b = []
    rw [sums_auto a, sums_auto b]; rfl
  | .cond _ a b => by
    show sumsOf .auto a ++ sumsOf .auto b = []
    rw [sums_auto a, sums_auto b]; rfl
  | .block _ a => sums_auto a
  | .skip => rfl
  | .region _ _ _ => rfl
  | .exit _ => rfl
  | .ret => rfl
  | .loop _ => rfl
  | .rangeFunc _ _ _ _ => rfl
  | .scope _ => rfl
  | .label _ => rfl
  | .goto _ => rfl
  | .refuse _ => rfl
theorem plan_auto_ok (c : Code) : PlanOk P C .auto c := plan_of (sums_auto c) trivial
theorem run_eq_nil {t e : TypeId} (hu : P.underlying t = some (.slice e)) (A : Option Addr) (n c : Nat) : (Go.binOp .eql t (.slice A n c) (.slice none 0 0)).run P w = .ok (.bool A.isNone) w := by
  have h : (Op.equalIn (9999 + 1) t (.slice A n c) (.slice none 0 0)).run P w = .ok A.isNone w := by
    unfold Op.equalIn
    simp only [Sem.run_bind, run_underlying hu, Result.andThen_ok]
    cases A <;> rfl
  show ((Op.equalIn (9999 + 1) t (.slice A n c) (.slice none 0 0)) >>= fun b => pure (Value.bool b)).run P w = _
  simp only [Sem.run_bind, h, Result.andThen_ok, Sem.run_pure]
/-- Clone of a slice: of nil, nil; else a new row. -/
theorem clone_wp {f : FuncId} {fn : Func} {A N Z : Code} {o1 o2 : Oper} {i1 : Nat} {t e u : TypeId} {s : Sig} {G : Prod' s.ins → Option (Prod' s.outs)} (H : CtxOk P C) (hf : P.funcs[f]? = some fn) (hname : (fn.name == "runtime.NumGoroutine") = false)
    (hb : fn.body = some (.seq A (.seq (.seq (.region i1 #[o1, o2] false) (.cond (.tmp 4) N .skip)) Z))) (hn : fn.ntmps = s.ntmps) (hps : Nat.ble s.ps.length s.ntmps = true) (hlt : Nat.blt 4 s.ntmps = true)
    (g1 : o1.guard = none) (p1 : o1.op = .move (.tmp 0)) (d1 : o1.dst = some 3) (g2 : o2.guard = none) (p2 : o2.op = .binOp .eql t (.tmp 3) (.const (.slice none 0 0)) u) (d2 : o2.dst = some 4)
    (hu : P.underlying t = some (.slice e)) (hd : (dsts A).any (Nat.beq 0) = false)
    (hsl : ∀ x, ∃ (r : Ty) (l : List r.T), ((s.start x).tmps.headD .unk = .one (.bor r l) ∨ (s.start x).tmps.headD .unk = .one (.list r l)))
    (hno : ∀ x y, G x = some y → V C .auto A (s.start x) (fun e st => match e with
      | .nrm => V C .auto Z ((st.setT 3 .unk).setT 4 (.one (.kb false))) (s.done C.ti fn.results.toList)
      | _ => none) = some y)
    (hyes : ∀ x y, G x = some y → (∀ (r : Ty) (l : List r.T), ((s.start x).tmps.headD .unk = .one (.bor r l) ∨ (s.start x).tmps.headD .unk = .one (.list r l)) → l = []) → V C .auto A (s.start x) (fun e st => match e with
      | .nrm => V C .auto N ((st.setT 3 .unk).setT 4 (.one (.kb true))) (fun e st => match e with
        | .ret => s.done C.ti fn.results.toList .ret st
        | _ => none)
      | _ => none) = some y) : ConOk P f (s.con G) := by
  refine sig_wp H.ti hf hname hb hn hps fun x y hx X ρ a w hrel => ?_
  have h4 : 4 < s.ntmps := Nat.le_of_ble_eq_true hlt
  have hsn : (s.start x).n = s.ntmps := rfl
  have hslice : ∃ B n c, tmOf a 0 = .slice B n c ∧ (B = none → ∀ (r : Ty) (l : List r.T), ((s.start x).tmps.headD .unk = .one (.bor r l) ∨ (s.start x).tmps.headD .unk = .one (.list r l)) → l = []) := by
    have h0 := hrel.tmps 0
    have e0 : getL .unk (s.start x).tmps 0 = (s.start x).tmps.headD .unk := by cases (s.start x).tmps <;> rfl
    rw [e0] at h0
    obtain ⟨r, l, hl⟩ := hsl x
    have key : ∀ (r : Ty) (l : List r.T), ((s.start x).tmps.headD .unk = .one (.bor r l) ∨ (s.start x).tmps.headD .unk = .one (.list r l)) → ∃ B c, tmOf a 0 = .slice B l.length c ∧ (B = none → l = []) := by
      intro r l hl
      rcases hl with hl | hl
      · rw [hl] at h0
        obtain ⟨B, c, hv, _, h1⟩ := h0
        refine ⟨B, c, List.singleton_inj.1 hv, fun hB => ?_⟩
        rcases h1 with h1 | ⟨_, _, h1, _⟩
        · exact h1
        · rw [hB] at h1; cases h1
      · rw [hl] at h0
        obtain ⟨B, c, hv, _, h1⟩ := h0
        refine ⟨B, c, List.singleton_inj.1 hv, fun hB => ?_⟩
        rcases h1 with h1 | ⟨_, _, h1, _⟩
        · exact h1
        · rw [hB] at h1; cases h1
    obtain ⟨B, c, hv, _⟩ := key r l hl
    refine ⟨B, l.length, c, hv, fun hB r' l' hl' => ?_⟩
    obtain ⟨B', c', hv', h'⟩ := key r' l' hl'
    have e := hv.symm.trans hv'
    injection e with e1 e2 e3
    exact h' (e1 ▸ hB)
  obtain ⟨B, n, c, hv, hnil⟩ := hslice
  intro Q hq
  -- the region of the test, whatever comes behind
  have test : ∀ {ρ1 : Rho} {st1 : St} {a1 : Act} {w1 : World} (Q2 : Exit → Act → World → Prop), Rel X ρ1 st1 a1 w1 → st1.n = s.ntmps → tmOf a1 0 = .slice B n c →
      (∀ a2, Rel X ρ1 ((st1.setT 3 .unk).setT 4 (.one (.kb B.isNone))) a2 w1 → a2.eval (.tmp 4) = .bool B.isNone → SameBut [3, 4] a1 a2 → Q2 .normal a2 w1) → (Code.region i1 #[o1, o2] false).wp P Q2 a1 w1 := by
    intro ρ1 st1 a1 w1 Q2 h1 hn1 hv1 hk
    refine wp_region_list ?_
    show wpList P #[o1, o2] Q2 [o1, o2] a1 w1
    unfold wpList
    rw [if_pos (by simp [Region.wanted, g1])]
    have hx1 : (execOp a1.eval o1).run P w1 = .ok (.value (.slice B n c)) w1 := by
      unfold execOp
      rw [p1]
      have : a1.eval (.tmp 0) = .slice B n c := hv1
      simp [this]
    have hs3 : 3 < a1.tmps.size := by rw [h1.size, hn1]; omega
    have r2 : Rel X ρ1 (st1.setT 3 .unk) (actPut a1 3 (.slice B n c)) w1 := h1.setT (by rw [hn1]; omega) trivial
    have hs4 : 4 < (actPut a1 3 (.slice B n c)).tmps.size := by rw [r2.size]; show 4 < st1.n; rw [hn1]; exact h4
    refine .inl ?_
    unfold Oper.wp
    rw [hx1]
    show wpList P #[o1, o2] Q2 [o2] (a1.put o1.dst (.slice B n c)) w1
    rw [d1]
    show wpList P #[o1, o2] Q2 [o2] (actPut a1 3 (.slice B n c)) w1
    unfold wpList
    rw [if_pos (by simp [Region.wanted, g2])]
    have hx2 : (execOp (actPut a1 3 (.slice B n c)).eval o2).run P w1 = .ok (.value (.bool B.isNone)) w1 := by
      unfold execOp
      rw [p2]
      have e3 : (actPut a1 3 (.slice B n c)).eval (.tmp 3) = .slice B n c := (tmOf_put a1 3 (.slice B n c) hs3 3).trans (if_pos rfl)
      have e5 : (actPut a1 3 (.slice B n c)).eval (.const (.slice none 0 0)) = .slice none 0 0 := rfl
      simp [e3, e5, run_eq_nil hu, Go.eqGuard]
    refine .inl ?_
    unfold Oper.wp
    rw [hx2]
    show wpList P #[o1, o2] Q2 [] ((actPut a1 3 (.slice B n c)).put o2.dst (.bool B.isNone)) w1
    rw [d2]
    refine hk (actPut (actPut a1 3 (.slice B n c)) 4 (.bool B.isNone)) (r2.setT (by show 4 < st1.n; rw [hn1]; exact h4) rfl) ((tmOf_put _ 4 _ hs4 4).trans (if_pos rfl)) fun i hi => ?_
    rw [tmOf_put _ 4 _ hs4 i, if_neg (fun q => hi (by rw [q]; simp)), tmOf_put a1 3 _ hs3 i, if_neg (fun q => hi (by rw [q]; simp))]
  have h0A : (0 : Nat) ∉ dsts A := fun hm => by
    have : (dsts A).any (Nat.beq 0) = true := List.any_eq_true.2 ⟨0, hm, rfl⟩
    rw [hd] at this; cases this
  have hdR : dsts (.region i1 #[o1, o2] false) = [3, 4] := by
    show [o1, o2].filterMap (·.dst) = _
    simp [d1, d2]
  have subA : ∀ i, i ∈ dsts A → i ∈ dsts (.seq A (.seq (.seq (.region i1 #[o1, o2] false) (.cond (.tmp 4) N .skip)) Z)) := fun i hi => List.mem_append_left _ hi
  have subR : ∀ i, i ∈ ([3, 4] : List Nat) → i ∈ dsts (.seq A (.seq (.seq (.region i1 #[o1, o2] false) (.cond (.tmp 4) N .skip)) Z)) := fun i hi => List.mem_append_right _ (List.mem_append_left _ (List.mem_append_left _ (by rw [hdR]; exact hi)))
  have subN : ∀ i, i ∈ dsts N → i ∈ dsts (.seq A (.seq (.seq (.region i1 #[o1, o2] false) (.cond (.tmp 4) N .skip)) Z)) := fun i hi => List.mem_append_right _ (List.mem_append_left _ (List.mem_append_right _ (List.mem_append_left _ hi)))
  have subZ : ∀ i, i ∈ dsts Z → i ∈ dsts (.seq A (.seq (.seq (.region i1 #[o1, o2] false) (.cond (.tmp 4) N .skip)) Z)) := fun i hi => List.mem_append_right _ (List.mem_append_right _ hi)
  cases hB : B with
  | none =>
    refine wp_seq (V_sound H A (plan_auto_ok A) hrel (hyes x y hx (hnil hB)) _ ?_)
    intro e1 ρ1 st1 a1 w1 k1 k2 k3 k4 k5
    cases e1 with
    | exit _ => cases k1
    | ret => cases k1
    | nrm =>
      refine wp_seq (wp_seq (test _ k2 (k4.trans hsn) ((k5 0 h0A).trans hv) ?_))
      intro a2 r3 e4 sb
      rw [hB] at r3 e4
      refine wp_cond_true e4 (V_sound H N (plan_auto_ok N) r3 k1 _ ?_)
      intro e2 ρ2 st2 a3 w2 m1 m2 m3 m4 m5
      cases e2 with
      | nrm => cases m1
      | exit _ => cases m1
      | ret => exact hq .ret ρ2 st2 a3 w2 m1 m2 (k3.trans m3) (m4.trans k4) ((k5.mono subA).trans ((SameBut.mono sb subR).trans (m5.mono subN)))
  | some b =>
    refine wp_seq (V_sound H A (plan_auto_ok A) hrel (hno x y hx) _ ?_)
    intro e1 ρ1 st1 a1 w1 k1 k2 k3 k4 k5
    cases e1 with
    | exit _ => cases k1
    | ret => cases k1
    | nrm =>
      refine wp_seq (wp_seq (test _ k2 (k4.trans hsn) ((k5 0 h0A).trans hv) ?_))
      intro a2 r3 e4 sb
      rw [hB] at r3 e4
      refine wp_cond_false e4 (wp_skip ?_)
      refine V_sound H Z (plan_auto_ok Z) r3 k1 Q ?_
      intro e2 ρ2 st2 a3 w2 m1 m2 m3 m4 m5
      exact hq e2 ρ2 st2 a3 w2 m1 m2 (k3.trans m3) (m4.trans k4) ((k5.mono subA).trans ((SameBut.mono sb subR).trans (m5.mono subZ)))
end
end Go.Proofs.YtaajcllchbnjiaaE

section
namespace Go.Proofs
open Go.Shelf
def Try.laysNm223_ren : Go.Shelf.Ren := ⟨fun | 23 => 50 | n => n, fun | 22 => 72 | 3 => 3 | 4 => 4 | 0 => 0 | n => n, fun | n => n⟩
theorem Try.laysNm223 : Go.Proofs.Lays2.n23 Try.prog Try.laysNm223_ren := {
  mixed := by kernel_rfl
  f23 := Try.func50.trans (congrArg some (by kernel_rfl))
  t0 := Try.underlying0
  a0 := Try.isAgg0
  z0 := Try.sizeOf0
  v0 := Try.zeroValue0
  t3 := Try.underlying3
  a3 := Try.isAgg3
  z3 := Try.sizeOf3
  v3 := Try.zeroValue3
  t4 := Try.underlying4
  a4 := Try.isAgg4
  z4 := Try.sizeOf4
  v4 := Try.zeroValue4
  t22 := Try.underlying72
  a22 := Try.isAgg72
  z22 := Try.sizeOf72
  v22 := Try.zeroValue72
  i3 := by kernel_rfl }
open Go.RowKit Go.Lib Go.Sort in
theorem Try.slices_Delete_int_arr (blk off cap i j : Nat) (d : Array Int) (w : World) (hH : Holds encI w blk off d) (hcap : d.size ≤ cap) (hm : cap ≤ 9223372036854775807) (hij : i ≤ j) (hj : j ≤ d.size) :
    Calls Try.prog 50 #[.slice (some ⟨blk, off, none⟩) d.size cap, .int .i64 i, .int .i64 j] w fun e w' => e = .returned (.slice (some ⟨blk, off, none⟩) (d.size - (j - i)) cap) ∧ ∃ q, w' = putRow encI (Sort.ahead w q) blk off (d.toList.take i ++ d.toList.drop j ++ List.replicate (j - i) 0).toArray := Any.slices_Delete_int_arr Try.laysNm223 blk off cap i j d w hH hcap hm hij hj
open Go.RowKit Go.Lib Go.Sort in
theorem Try.slices_Delete_int (blk off cap i j : Nat) (zs : List Int) (w : World) (hH : Holds (Value.int .i64) w blk off zs.toArray) (hcap : zs.length ≤ cap) (hm : cap ≤ 9223372036854775807) (hij : i ≤ j) (hj : j ≤ zs.length) :
    Calls Try.prog 50 #[.slice (some ⟨blk, off, none⟩) zs.length cap, .int .i64 i, .int .i64 j] w fun e w' => e = .returned (.slice (some ⟨blk, off, none⟩) (zs.length - (j - i)) cap) ∧ ∃ q, w' = putRow (Value.int .i64) (Sort.ahead w q) blk off (zs.take i ++ zs.drop j ++ List.replicate (j - i) 0).toArray := Any.slices_Delete_int Try.laysNm223 blk off cap i j zs w hH hcap hm hij hj
open Go.RowKit Go.Lib Go.Sort in
theorem Try.slices_Delete_int_cells (b off n c i j : Nat) (zs : List Int) (w : World) (hz : n ≤ zs.length) (hcap : n ≤ c) (hm : c ≤ 9223372036854775807) (hij : i ≤ j) (hj : j ≤ n) (hc : ∀ j, j < zs.length → w.cell? ⟨b, off + j, none⟩ = some (.int .i64 (zs.getD j 0))) (hf : ∀ j, j < n → w.frozen? ⟨b, off + j, none⟩ = false) :
    Calls Try.prog 50 #[.slice (some ⟨b, off, none⟩) n c, .int .i64 i, .int .i64 j] w fun e w' => e = .returned (.slice (some ⟨b, off, none⟩) (n - (j - i)) c) ∧ ∃ q, w' = (w.drewN q).setCells b off (((zs.take n).take i ++ (zs.take n).drop j ++ List.replicate (j - i) 0).map (Value.int .i64)) := Any.slices_Delete_int_cells Try.laysNm223 b off n c i j zs w hz hcap hm hij hj hc hf
open Go.RowKit Go.Lib in
theorem Try.slices_Delete_int_empty (a : Option Addr) (c : Nat) (w : World) :
    Calls Try.prog 50 #[.slice a 0 c, .int .i64 0, .int .i64 0] w fun e w' => e = .returned (.slice a 0 c) ∧ w' = w := Any.slices_Delete_int_empty Try.laysNm223 a c w
end Go.Proofs
end

namespace Go.Proofs.YtaajcllchbnjiaaE
open Go Go.RowKit
set_option linter.unusedVariables false
abbrev T45 : Ty := (.pair (.int .i64) (.pair (.int .i64) (.pair (.int .i64) .str)))
abbrev G45 := Int × Int × Int × Str
abbrev T70 : Ty := (.pair (.int .i64) (.pair (.int .i64) (.pair (.int .i64) (.int .i64))))
abbrev G70 := Int × Int × Int × Int
abbrev T62 : Ty := (.pair (.sl T70) (.int .i64))
abbrev G62 := List G70 × Int
abbrev T24 : Ty := (.pair (.int .i64) (.pair .str (.sl T45)))
abbrev G24 := Int × Str × List G45
abbrev T26 : Ty := (.pair T24 .bool)
abbrev G26 := G24 × Bool
def TAB : Tab TI := (.node (.node (.node (.node (.node (.node .nil (some { sz := 3, agg := true, offs := [(0, 2), (1, 9), (2, 29)], elem := 0, kind := 4, ik := .i64, bytes := 48, zero := [.int .i64 0, .str [], .nil], ty := T24, eqs := false }) .nil) none .nil) none (.node .nil none (.node .nil (some { sz := 1, agg := false, offs := [], elem := 70, kind := 3, ik := .i64, bytes := 24, zero := [.nil], ty := (.sl T70), eqs := false }) .nil))) (some { sz := 1, agg := false, offs := [], elem := 0, kind := 1, ik := .i64, bytes := 8, zero := [.int .i64 0], ty := (.int .i64), eqs := false }) (.node (.node .nil none (.node (.node .nil (some { sz := 1, agg := false, offs := [], elem := 5, kind := 3, ik := .i64, bytes := 24, zero := [.nil], ty := (.sl (.int .u8)), eqs := false }) .nil) none .nil)) none .nil)) none (.node (.node (.node (.node (.node .nil (some { sz := 4, agg := true, offs := [(0, 2), (1, 2), (2, 2), (3, 9)], elem := 0, kind := 4, ik := .i64, bytes := 40, zero := [.int .i64 0, .int .i64 0, .int .i64 0, .str []], ty := T45, eqs := true }) .nil) (some { sz := 4, agg := true, offs := [(0, 31), (3, 4)], elem := 0, kind := 4, ik := .i64, bytes := 56, zero := [.int .i64 0, .str [], .nil, .kb false], ty := T26, eqs := false }) .nil) none .nil) (some { sz := 1, agg := false, offs := [], elem := 0, kind := 2, ik := .i64, bytes := 16, zero := [.str []], ty := .str, eqs := false }) (.node (.node (.node .nil (some { sz := 1, agg := false, offs := [], elem := 1000073, kind := 6, ik := .i64, bytes := 8, zero := [.unk], ty := (.sl (.int .i64)), eqs := false }) .nil) none .nil) none .nil)) (some { sz := 1, agg := false, offs := [], elem := 0, kind := 1, ik := .u8, bytes := 1, zero := [.int .u8 0], ty := (.int .u8), eqs := false }) (.node (.node .nil none (.node (.node .nil (some { sz := 1, agg := false, offs := [], elem := 0, kind := 1, ik := .u64, bytes := 8, zero := [.int .u64 0], ty := (.int .u64), eqs := false }) .nil) none .nil)) none (.node (.node .nil (some { sz := 4, agg := true, offs := [(0, 2), (1, 2), (2, 2), (3, 9)], elem := 0, kind := 4, ik := .i64, bytes := 40, zero := [.int .i64 0, .int .i64 0, .int .i64 0, .str []], ty := T45, eqs := true }) .nil) (some { sz := 1, agg := false, offs := [], elem := 52, kind := 3, ik := .i64, bytes := 24, zero := [.nil], ty := (.sl T45), eqs := false }) (.node (.node .nil (some { sz := 1, agg := false, offs := [], elem := 4, kind := 3, ik := .i64, bytes := 24, zero := [.nil], ty := (.sl .bool), eqs := false }) .nil) none .nil))))) none (.node (.node (.node (.node .nil none (.node (.node .nil (some { sz := 1, agg := false, offs := [], elem := 0, kind := 1, ik := .u32, bytes := 4, zero := [.int .u32 0], ty := (.int .u32), eqs := false }) .nil) none .nil)) none (.node (.node (.node .nil (some { sz := 1, agg := false, offs := [], elem := 3, kind := 3, ik := .i64, bytes := 24, zero := [.nil], ty := (.sl (.int .i64)), eqs := false }) .nil) none .nil) (some { sz := 3, agg := true, offs := [(0, 2), (1, 9), (2, 22)], elem := 0, kind := 4, ik := .i64, bytes := 48, zero := [.int .i64 0, .str [], .nil], ty := T24, eqs := false }) .nil)) (some { sz := 1, agg := false, offs := [], elem := 0, kind := 5, ik := .i64, bytes := 1, zero := [.kb false], ty := .bool, eqs := false }) (.node (.node .nil none (.node .nil (some { sz := 4, agg := true, offs := [(0, 2), (1, 2), (2, 2), (3, 9)], elem := 0, kind := 4, ik := .i64, bytes := 40, zero := [.int .i64 0, .int .i64 0, .int .i64 0, .str []], ty := T45, eqs := true }) .nil)) none (.node .nil none (.node (.node .nil (some { sz := 1, agg := false, offs := [], elem := 2, kind := 3, ik := .i64, bytes := 24, zero := [.nil], ty := (.sl (.int .i64)), eqs := false }) .nil) none .nil)))) (some { sz := 1, agg := false, offs := [], elem := 0, kind := 1, ik := .i64, bytes := 8, zero := [.int .i64 0], ty := (.int .i64), eqs := false }) (.node (.node .nil none (.node .nil (some { sz := 4, agg := true, offs := [(0, 24), (3, 4)], elem := 0, kind := 4, ik := .i64, bytes := 56, zero := [.int .i64 0, .str [], .nil, .kb false], ty := T26, eqs := false }) .nil)) none (.node (.node (.node (.node .nil (some { sz := 4, agg := true, offs := [(0, 2), (1, 2), (2, 2), (3, 2)], elem := 0, kind := 4, ik := .i64, bytes := 32, zero := [.int .i64 0, .int .i64 0, .int .i64 0, .int .i64 0], ty := T70, eqs := true }) .nil) none .nil) (some { sz := 1, agg := false, offs := [], elem := 65, kind := 3, ik := .i64, bytes := 24, zero := [.nil], ty := (.sl T45), eqs := false }) .nil) none (.node .nil none (.node .nil (some { sz := 2, agg := true, offs := [(0, 55), (1, 2)], elem := 0, kind := 4, ik := .i64, bytes := 32, zero := [.nil, .int .i64 0], ty := T62, eqs := false }) .nil))))))
theorem TABok : TiOk Try.prog TAB ∧ Try.prog.follows .mixedOrders = true := ⟨ti_ok (by kernel_rfl), by kernel_rfl⟩
end Go.Proofs.YtaajcllchbnjiaaE

namespace Go.Proofs.YtaajcllchbnjiaaE
open Go Go.RowKit
set_option linter.unusedVariables false
def laws_szStep (a1 : G45) (a2 : Int) : Option (Int) :=
  let e3 := IntKind.wrap .i64 (a2 - ((a1.2.2.2.length) : Int))
  bif decide (e3 < 0) then
    some (-1)
  else
  some e3
def laws_szStep.sig : Sig := { ps := [.val true T45 (ros T45), .val false (.int .i64) (ros (.int .i64))], rs := [.val false [.v (.int .i64)]], ntmps := 13 }
def laws_szStep.con (k : Nat) : Con := laws_szStep.sig.con (fun x => laws_szStep x.1 x.2)
def laws_szStep.C (k : Nat) : Ctx := { ti := TAB, con := conL [] }
theorem laws_szStep.cok (k : Nat) : CtxOk Try.prog (laws_szStep.C k) := ctx_ok TABok trivial
theorem laws_szStep.ev (k : Nat) (x : Prod' laws_szStep.sig.ins) : laws_szStep.sig.ev (laws_szStep.C k) .auto Try.f38.results.toList (cB Try.f38) x = laws_szStep x.1 x.2 := by kernel_rfl
theorem laws_szStep.ok (k : Nat) : ConOk Try.prog 38 (laws_szStep.con k) := sig_ok (p := .auto) (laws_szStep.cok k) Try.func38 (by kernel_rfl) (show Try.f38.body = some (cB Try.f38) by kernel_rfl) (by kernel_rfl) (by kernel_rfl) (plan_of (L := []) (by kernel_rfl) trivial) (fun x y h => (laws_szStep.ev k x).trans h)
def laws_szStepS.l0 : Nat → List G45 → Int → Int → Option (Int ⊕ Int)
  | 0, _, _, _ => none
  | j + 1, a1, a2, a3 =>
    bif decide (a3 < ((a1.length) : Int)) then
      Option.bind (at? a1 a3) fun v4 =>
      Option.bind (laws_szStep v4 a2) fun v5 =>
      bif decide (v5 < 0) then
        some (.inr (-1))
      else
      laws_szStepS.l0 j a1 v5 (IntKind.wrap .i64 (a3 + 1))
    else
    some (.inl a2)
def laws_szStepS (k : Nat) (a1 : List G45) (a2 : Int) : Option (Int) :=
  let e3 := IntKind.wrap .i64 (a2 - ((a1.length) : Int))
  bif decide (e3 < 0) then
    some (-1)
  else
  Option.bind (laws_szStepS.l0 k a1 e3 0) fun
    | .inl y4 =>
      some y4
    | .inr y5 =>
      some y5
def laws_szStepS.sig : Sig := { ps := [.val false (.sl T45) (ros (.sl T45)), .val false (.int .i64) (ros (.int .i64))], rs := [.val false [.v (.int .i64)]], ntmps := 27 }
def laws_szStepS.con (k : Nat) : Con := laws_szStepS.sig.con (fun x => laws_szStepS k x.1 x.2)
def laws_szStepS.C (k : Nat) : Ctx := { ti := TAB, con := conL [(38, laws_szStep.con k)] }
theorem laws_szStepS.cok (k : Nat) : CtxOk Try.prog (laws_szStepS.C k) := ctx_ok TABok ⟨laws_szStep.ok k, trivial⟩
def laws_szStepS.l0.ish : Shape := { tmps := [(0, .one (.bor T45)), (1, .one (.v (.int .i64))), (5, .one (.v (.int .i64)))], slots := [], nb := 0 }
def laws_szStepS.l0.outs : List (Ex × Shape) := [(.exit 0, { tmps := [(1, .one (.v (.int .i64)))], slots := [], nb := 0 }), (.ret, { tmps := [(4, .one (.v (.int .i64)))], slots := [], nb := 0 })]
def laws_szStepS.l0.F (k j : Nat) (x : Prod' laws_szStepS.l0.ish.tys) : Option (Outs laws_szStepS.l0.outs) := laws_szStepS.l0 j x.1 x.2.1 x.2.2
def laws_szStepS.l0.s (k : Nat) : Summ := { n := 27, ish := laws_szStepS.l0.ish, outs := laws_szStepS.l0.outs, f := laws_szStepS.l0.F k k }
theorem laws_szStepS.l0.ev (k j : Nat) (x : Prod' laws_szStepS.l0.ish.tys) : V (laws_szStepS.C k) .auto (cO (cO (cR (cL (cR (cR (cR (cB Try.f19)))))))) (mk laws_szStepS.l0.ish 27 x) (fun e st' => match e with | .nrm => (rd laws_szStepS.l0.ish st').bind (laws_szStepS.l0.F k j) | e => rdOut e st' laws_szStepS.l0.outs) = laws_szStepS.l0.F k (j + 1) x := by kernel_rfl
theorem laws_szStepS.l0.ok (k : Nat) : SumOk Try.prog (laws_szStepS.C k) (.loop (cO (cO (cR (cL (cR (cR (cR (cB Try.f19))))))))) (laws_szStepS.l0.s k) := sum_ok (by kernel_rfl) (sum_loop (p := .auto) (F := laws_szStepS.l0.F k) (laws_szStepS.cok k) (by kernel_rfl) (plan_of (L := []) (by kernel_rfl) trivial) (fun _ => rfl) (fun j x y h => (laws_szStepS.l0.ev k j x).trans h) k rfl)
theorem laws_szStepS.ev (k : Nat) (x : Prod' laws_szStepS.sig.ins) : laws_szStepS.sig.ev (laws_szStepS.C k) (.two .auto (.two .auto (.two .auto (.two (.two .auto (.one (.sum (laws_szStepS.l0.s k)))) .auto)))) Try.f19.results.toList (cB Try.f19) x = laws_szStepS k x.1 x.2 := by kernel_rfl
theorem laws_szStepS.ok (k : Nat) : ConOk Try.prog 19 (laws_szStepS.con k) := sig_ok (p := (.two .auto (.two .auto (.two .auto (.two (.two .auto (.one (.sum (laws_szStepS.l0.s k)))) .auto))))) (laws_szStepS.cok k) Try.func19 (by kernel_rfl) (show Try.f19.body = some (cB Try.f19) by kernel_rfl) (by kernel_rfl) (by kernel_rfl) (plan_of (L := [(laws_szStepS.l0.s k, cO (cR (cL (cR (cR (cR (cB Try.f19)))))))]) (by kernel_rfl) ⟨laws_szStepS.l0.ok k, trivial⟩) (fun x y h => (laws_szStepS.ev k x).trans h)
def laws_szPackage (k : Nat) (a1 : G24) (a2 : Int) : Option (Int) :=
  let e3 := IntKind.wrap .i64 (a2 - ((a1.2.1.length) : Int))
  bif decide (e3 < 0) then
    some (-1)
  else
  Option.bind (laws_szStepS k a1.2.2 e3) fun v4 =>
  bif decide (v4 < 0) then
    some (-1)
  else
  some v4
def laws_szPackage.sig : Sig := { ps := [.val true T24 (ros T24), .val false (.int .i64) (ros (.int .i64))], rs := [.val false [.v (.int .i64)]], ntmps := 19 }
def laws_szPackage.con (k : Nat) : Con := laws_szPackage.sig.con (fun x => laws_szPackage k x.1 x.2)
def laws_szPackage.C (k : Nat) : Ctx := { ti := TAB, con := conL [(19, laws_szStepS.con k)], rob := true }
theorem laws_szPackage.cok (k : Nat) : CtxOk Try.prog (laws_szPackage.C k) := ctx_ok TABok ⟨laws_szStepS.ok k, trivial⟩
theorem laws_szPackage.ev (k : Nat) (x : Prod' laws_szPackage.sig.ins) : laws_szPackage.sig.ev (laws_szPackage.C k) .auto Try.f10.results.toList (cB Try.f10) x = laws_szPackage k x.1 x.2 := by kernel_rfl
theorem laws_szPackage.ok (k : Nat) : ConOk Try.prog 10 (laws_szPackage.con k) := sig_ok (p := .auto) (laws_szPackage.cok k) Try.func10 (by kernel_rfl) (show Try.f10.body = some (cB Try.f10) by kernel_rfl) (by kernel_rfl) (by kernel_rfl) (plan_of (L := []) (by kernel_rfl) trivial) (fun x y h => (laws_szPackage.ev k x).trans h)
def laws_szAgent (k : Nat) (a1 : G26) (a2 : Int) : Option (Int) :=
  Option.bind (laws_szPackage k a1.1 a2) fun v3 =>
  bif decide (v3 < 0) then
    some (-1)
  else
  some v3
def laws_szAgent.sig : Sig := { ps := [.val true T26 (ros T26), .val false (.int .i64) (ros (.int .i64))], rs := [.val false [.v (.int .i64)]], ntmps := 12 }
def laws_szAgent.con (k : Nat) : Con := laws_szAgent.sig.con (fun x => laws_szAgent k x.1 x.2)
def laws_szAgent.C (k : Nat) : Ctx := { ti := TAB, con := conL [(10, laws_szPackage.con k)], rob := true }
theorem laws_szAgent.cok (k : Nat) : CtxOk Try.prog (laws_szAgent.C k) := ctx_ok TABok ⟨laws_szPackage.ok k, trivial⟩
theorem laws_szAgent.ev (k : Nat) (x : Prod' laws_szAgent.sig.ins) : laws_szAgent.sig.ev (laws_szAgent.C k) .auto Try.f5.results.toList (cB Try.f5) x = laws_szAgent k x.1 x.2 := by kernel_rfl
theorem laws_szAgent.ok (k : Nat) : ConOk Try.prog 5 (laws_szAgent.con k) := sig_ok (p := .auto) (laws_szAgent.cok k) Try.func5 (by kernel_rfl) (show Try.f5.body = some (cB Try.f5) by kernel_rfl) (by kernel_rfl) (by kernel_rfl) (plan_of (L := []) (by kernel_rfl) trivial) (fun x y h => (laws_szAgent.ev k x).trans h)
def spec_l03Is (a1 : Int) (a2 : Int) (a3 : Int) : Option (Bool) :=
  some ((decide (a2 ≤ a1)) && (decide (a1 ≤ a3)))
def spec_l03Is.sig : Sig := { ps := [.val false (.int .i64) (ros (.int .i64)), .val false (.int .i64) (ros (.int .i64)), .val false (.int .i64) (ros (.int .i64))], rs := [.val false [.v .bool]], ntmps := 15 }
def spec_l03Is.con (k : Nat) : Con := spec_l03Is.sig.con (fun x => spec_l03Is x.1 x.2.1 x.2.2)
def spec_l03Is.C (k : Nat) : Ctx := { ti := TAB, con := conL [] }
theorem spec_l03Is.cok (k : Nat) : CtxOk Try.prog (spec_l03Is.C k) := ctx_ok TABok trivial
theorem spec_l03Is.ev (k : Nat) (x : Prod' spec_l03Is.sig.ins) : spec_l03Is.sig.ev (spec_l03Is.C k) .auto Try.f35.results.toList (cB Try.f35) x = spec_l03Is x.1 x.2.1 x.2.2 := by kernel_rfl
theorem spec_l03Is.ok (k : Nat) : ConOk Try.prog 35 (spec_l03Is.con k) := sig_ok (p := .auto) (spec_l03Is.cok k) Try.func35 (by kernel_rfl) (show Try.f35.body = some (cB Try.f35) by kernel_rfl) (by kernel_rfl) (by kernel_rfl) (plan_of (L := []) (by kernel_rfl) trivial) (fun x y h => (spec_l03Is.ev k x).trans h)
def spec_StepRight (a1 : G45) (a2 : Int) : Option (Bool) :=
  Option.bind (spec_l03Is a2 1 8) fun v3 =>
  bif !v3 then
    some false
  else
  let e4 := IntKind.wrap .i64 (a2 - 1)
  Option.bind (spec_l03Is a1.2.1 0 e4) fun v5 =>
  Option.bind (spec_l03Is a1.2.2.1 0 e4) fun v6 =>
  let e7 := a1.2.2.2 == []
  let e8 := v5 && (a1.2.2.1 == 0)
  bif a1.1 == 1 then
    some (e8 && e7)
  else
  let e9 := ((a1.2.2.2.length) : Int) == 8
  bif a1.1 == 2 then
    some (e8 && e9)
  else
  bif a1.1 == 3 then
    some ((v5 && v6) && e7)
  else
  bif a1.1 == 4 then
    some ((v5 && v6) && e9)
  else
  bif a1.1 == 5 then
    bif a1.2.1 == 0 then
      Option.bind (spec_l03Is a1.2.2.1 0 1000000) fun v10 =>
      some (v10 && e7)
    else
    some false
  else
  some false
def spec_StepRight.sig : Sig := { ps := [.val true T45 (ros T45), .val false (.int .i64) (ros (.int .i64))], rs := [.val false [.v .bool]], ntmps := 87 }
def spec_StepRight.con (k : Nat) : Con := spec_StepRight.sig.con (fun x => spec_StepRight x.1 x.2)
def spec_StepRight.C (k : Nat) : Ctx := { ti := TAB, con := conL [(35, spec_l03Is.con k)] }
theorem spec_StepRight.cok (k : Nat) : CtxOk Try.prog (spec_StepRight.C k) := ctx_ok TABok ⟨spec_l03Is.ok k, trivial⟩
theorem spec_StepRight.ev (k : Nat) (x : Prod' spec_StepRight.sig.ins) : spec_StepRight.sig.ev (spec_StepRight.C k) .auto Try.f55.results.toList (cB Try.f55) x = spec_StepRight x.1 x.2 := by kernel_rfl
theorem spec_StepRight.ok (k : Nat) : ConOk Try.prog 55 (spec_StepRight.con k) := sig_ok (p := .auto) (spec_StepRight.cok k) Try.func55 (by kernel_rfl) (show Try.f55.body = some (cB Try.f55) by kernel_rfl) (by kernel_rfl) (by kernel_rfl) (plan_of (L := []) (by kernel_rfl) trivial) (fun x y h => (spec_StepRight.ev k x).trans h)
def spec_StepsCode.l0 : Nat → List G45 → Int → Int → Option (Unit ⊕ Int)
  | 0, _, _, _ => none
  | j + 1, a1, a2, a3 =>
    bif decide (a3 < ((a1.length) : Int)) then
      Option.bind (at? a1 a3) fun v4 =>
      Option.bind (spec_StepRight v4 a2) fun v5 =>
      bif !v5 then
        some (.inr 1)
      else
      spec_StepsCode.l0 j a1 a2 (IntKind.wrap .i64 (a3 + 1))
    else
    some (.inl ())
def spec_StepsCode.l1 : Nat → List G45 → Int → Int → Option (Unit ⊕ Int)
  | 0, _, _, _ => none
  | j + 1, a1, a2, a3 =>
    bif decide (a3 < a2) then
      Option.bind (at? a1 a2) fun v4 =>
      let e5 := IntKind.wrap .i64 (a3 + 1)
      bif v4.1 != 5 then
        Option.bind (at? a1 a3) fun v6 =>
        bif v6.1 != 5 then
          Option.bind (at? a1 a2) fun v7 =>
          Option.bind (at? a1 a3) fun v8 =>
          bif v7.2.1 == v8.2.1 then
            some (.inr 12)
          else
          spec_StepsCode.l1 j a1 a2 e5
        else
        spec_StepsCode.l1 j a1 a2 e5
      else
      spec_StepsCode.l1 j a1 a2 e5
    else
    some (.inl ())
def spec_StepsCode.l2 (k : Nat) : Nat → List G45 → Int → Option (Unit ⊕ Int)
  | 0, _, _ => none
  | j + 1, a1, a2 =>
    bif decide (a2 < ((a1.length) : Int)) then
      Option.bind (spec_StepsCode.l1 k a1 a2 0) fun
        | .inl y3 =>
          spec_StepsCode.l2 k j a1 (IntKind.wrap .i64 (a2 + 1))
        | .inr y4 =>
          some (.inr y4)
    else
    some (.inl ())
def spec_StepsCode.l3 : Nat → List G45 → Int → Int → Option (Unit ⊕ Int)
  | 0, _, _, _ => none
  | j + 1, a1, a2, a3 =>
    bif decide (a3 < ((a1.length) : Int)) then
      Option.bind (at? a1 a3) fun v4 =>
      let e5 := IntKind.wrap .i64 (a3 + 1)
      bif v4.1 != 5 then
        spec_StepsCode.l3 j a1 a2 e5
      else
      Option.bind (at? a1 a3) fun v6 =>
      bif decide (v6.2.2.1 ≤ a2) then
        some (.inr 8)
      else
      Option.bind (at? a1 a3) fun v7 =>
      spec_StepsCode.l3 j a1 v7.2.2.1 e5
    else
    some (.inl ())
def spec_StepsCode (k : Nat) (a1 : List G45) (a2 : Int) : Option (Int) :=
  bif decide (20 < ((a1.length) : Int)) then
    some 1
  else
  Option.bind (spec_l03Is a2 1 8) fun v3 =>
  bif !v3 then
    some 1
  else
  Option.bind (spec_StepsCode.l0 k a1 a2 0) fun
    | .inl y4 =>
      Option.bind (spec_StepsCode.l2 k k a1 0) fun
        | .inl y5 =>
          Option.bind (spec_StepsCode.l3 k a1 (-1) 0) fun
            | .inl y6 =>
              some 0
            | .inr y7 =>
              some y7
        | .inr y8 =>
          some y8
    | .inr y9 =>
      some y9
def spec_StepsCode.sig : Sig := { ps := [.val false (.sl T45) (ros (.sl T45)), .val false (.int .i64) (ros (.int .i64))], rs := [.val false [.v (.int .i64)]], ntmps := 93 }
def spec_StepsCode.con (k : Nat) : Con := spec_StepsCode.sig.con (fun x => spec_StepsCode k x.1 x.2)
def spec_StepsCode.C (k : Nat) : Ctx := { ti := TAB, con := conL [(35, spec_l03Is.con k), (55, spec_StepRight.con k)] }
theorem spec_StepsCode.cok (k : Nat) : CtxOk Try.prog (spec_StepsCode.C k) := ctx_ok TABok ⟨spec_l03Is.ok k, spec_StepRight.ok k, trivial⟩
def spec_StepsCode.l0.ish : Shape := { tmps := [(0, .one (.bor T45)), (1, .one (.v (.int .i64))), (5, .one (.v (.int .i64)))], slots := [], nb := 0 }
def spec_StepsCode.l0.outs : List (Ex × Shape) := [(.exit 0, { tmps := [], slots := [], nb := 0 }), (.ret, { tmps := [(4, .one (.v (.int .i64)))], slots := [], nb := 0 })]
def spec_StepsCode.l0.F (k j : Nat) (x : Prod' spec_StepsCode.l0.ish.tys) : Option (Outs spec_StepsCode.l0.outs) := spec_StepsCode.l0 j x.1 x.2.1 x.2.2
def spec_StepsCode.l0.s (k : Nat) : Summ := { n := 93, ish := spec_StepsCode.l0.ish, outs := spec_StepsCode.l0.outs, f := spec_StepsCode.l0.F k k }
theorem spec_StepsCode.l0.ev (k j : Nat) (x : Prod' spec_StepsCode.l0.ish.tys) : V (spec_StepsCode.C k) .auto (cO (cO (cR (cL (cR (cR (cB Try.f34))))))) (mk spec_StepsCode.l0.ish 93 x) (fun e st' => match e with | .nrm => (rd spec_StepsCode.l0.ish st').bind (spec_StepsCode.l0.F k j) | e => rdOut e st' spec_StepsCode.l0.outs) = spec_StepsCode.l0.F k (j + 1) x := by kernel_rfl
theorem spec_StepsCode.l0.ok (k : Nat) : SumOk Try.prog (spec_StepsCode.C k) (.loop (cO (cO (cR (cL (cR (cR (cB Try.f34)))))))) (spec_StepsCode.l0.s k) := sum_ok (by kernel_rfl) (sum_loop (p := .auto) (F := spec_StepsCode.l0.F k) (spec_StepsCode.cok k) (by kernel_rfl) (plan_of (L := []) (by kernel_rfl) trivial) (fun _ => rfl) (fun j x y h => (spec_StepsCode.l0.ev k j x).trans h) k rfl)
def spec_StepsCode.l1.ish : Shape := { tmps := [(0, .one (.bor T45)), (6, .one (.v (.int .i64))), (7, .one (.v (.int .i64)))], slots := [], nb := 0 }
def spec_StepsCode.l1.outs : List (Ex × Shape) := [(.exit 4, { tmps := [], slots := [], nb := 0 }), (.ret, { tmps := [(4, .one (.v (.int .i64)))], slots := [], nb := 0 })]
def spec_StepsCode.l1.F (k j : Nat) (x : Prod' spec_StepsCode.l1.ish.tys) : Option (Outs spec_StepsCode.l1.outs) := spec_StepsCode.l1 j x.1 x.2.1 x.2.2
def spec_StepsCode.l1.s (k : Nat) : Summ := { n := 93, ish := spec_StepsCode.l1.ish, outs := spec_StepsCode.l1.outs, f := spec_StepsCode.l1.F k k }
theorem spec_StepsCode.l1.ev (k j : Nat) (x : Prod' spec_StepsCode.l1.ish.tys) : V (spec_StepsCode.C k) .auto (cO (cO (cR (cO (cL (cR (cO (cO (cR (cL (cR (cR (cR (cB Try.f34)))))))))))))) (mk spec_StepsCode.l1.ish 93 x) (fun e st' => match e with | .nrm => (rd spec_StepsCode.l1.ish st').bind (spec_StepsCode.l1.F k j) | e => rdOut e st' spec_StepsCode.l1.outs) = spec_StepsCode.l1.F k (j + 1) x := by kernel_rfl
theorem spec_StepsCode.l1.ok (k : Nat) : SumOk Try.prog (spec_StepsCode.C k) (.loop (cO (cO (cR (cO (cL (cR (cO (cO (cR (cL (cR (cR (cR (cB Try.f34))))))))))))))) (spec_StepsCode.l1.s k) := sum_ok (by kernel_rfl) (sum_loop (p := .auto) (F := spec_StepsCode.l1.F k) (spec_StepsCode.cok k) (by kernel_rfl) (plan_of (L := []) (by kernel_rfl) trivial) (fun _ => rfl) (fun j x y h => (spec_StepsCode.l1.ev k j x).trans h) k rfl)
def spec_StepsCode.l2.ish : Shape := { tmps := [(0, .one (.bor T45)), (6, .one (.v (.int .i64)))], slots := [], nb := 0 }
def spec_StepsCode.l2.outs : List (Ex × Shape) := [(.exit 2, { tmps := [], slots := [], nb := 0 }), (.ret, { tmps := [(4, .one (.v (.int .i64)))], slots := [], nb := 0 })]
def spec_StepsCode.l2.F (k j : Nat) (x : Prod' spec_StepsCode.l2.ish.tys) : Option (Outs spec_StepsCode.l2.outs) := spec_StepsCode.l2 k j x.1 x.2
def spec_StepsCode.l2.s (k : Nat) : Summ := { n := 93, ish := spec_StepsCode.l2.ish, outs := spec_StepsCode.l2.outs, f := spec_StepsCode.l2.F k k }
theorem spec_StepsCode.l2.ev (k j : Nat) (x : Prod' spec_StepsCode.l2.ish.tys) : V (spec_StepsCode.C k) (.two .auto (.two (.one (.two .auto (.one (.sum (spec_StepsCode.l1.s k))))) .auto)) (cO (cO (cR (cL (cR (cR (cR (cB Try.f34)))))))) (mk spec_StepsCode.l2.ish 93 x) (fun e st' => match e with | .nrm => (rd spec_StepsCode.l2.ish st').bind (spec_StepsCode.l2.F k j) | e => rdOut e st' spec_StepsCode.l2.outs) = spec_StepsCode.l2.F k (j + 1) x := by kernel_rfl
theorem spec_StepsCode.l2.ok (k : Nat) : SumOk Try.prog (spec_StepsCode.C k) (.loop (cO (cO (cR (cL (cR (cR (cR (cB Try.f34))))))))) (spec_StepsCode.l2.s k) := sum_ok (by kernel_rfl) (sum_loop (p := (.two .auto (.two (.one (.two .auto (.one (.sum (spec_StepsCode.l1.s k))))) .auto))) (F := spec_StepsCode.l2.F k) (spec_StepsCode.cok k) (by kernel_rfl) (plan_of (L := [(spec_StepsCode.l1.s k, cO (cR (cO (cL (cR (cO (cO (cR (cL (cR (cR (cR (cB Try.f34)))))))))))))]) (by kernel_rfl) ⟨spec_StepsCode.l1.ok k, trivial⟩) (fun _ => rfl) (fun j x y h => (spec_StepsCode.l2.ev k j x).trans h) k rfl)
def spec_StepsCode.l3.ish : Shape := { tmps := [(0, .one (.bor T45)), (8, .one (.v (.int .i64))), (9, .one (.v (.int .i64)))], slots := [], nb := 0 }
def spec_StepsCode.l3.outs : List (Ex × Shape) := [(.exit 6, { tmps := [], slots := [], nb := 0 }), (.ret, { tmps := [(4, .one (.v (.int .i64)))], slots := [], nb := 0 })]
def spec_StepsCode.l3.F (k j : Nat) (x : Prod' spec_StepsCode.l3.ish.tys) : Option (Outs spec_StepsCode.l3.outs) := spec_StepsCode.l3 j x.1 x.2.1 x.2.2
def spec_StepsCode.l3.s (k : Nat) : Summ := { n := 93, ish := spec_StepsCode.l3.ish, outs := spec_StepsCode.l3.outs, f := spec_StepsCode.l3.F k k }
theorem spec_StepsCode.l3.ev (k j : Nat) (x : Prod' spec_StepsCode.l3.ish.tys) : V (spec_StepsCode.C k) .auto (cO (cO (cR (cL (cR (cR (cR (cR (cR (cB Try.f34)))))))))) (mk spec_StepsCode.l3.ish 93 x) (fun e st' => match e with | .nrm => (rd spec_StepsCode.l3.ish st').bind (spec_StepsCode.l3.F k j) | e => rdOut e st' spec_StepsCode.l3.outs) = spec_StepsCode.l3.F k (j + 1) x := by kernel_rfl
theorem spec_StepsCode.l3.ok (k : Nat) : SumOk Try.prog (spec_StepsCode.C k) (.loop (cO (cO (cR (cL (cR (cR (cR (cR (cR (cB Try.f34))))))))))) (spec_StepsCode.l3.s k) := sum_ok (by kernel_rfl) (sum_loop (p := .auto) (F := spec_StepsCode.l3.F k) (spec_StepsCode.cok k) (by kernel_rfl) (plan_of (L := []) (by kernel_rfl) trivial) (fun _ => rfl) (fun j x y h => (spec_StepsCode.l3.ev k j x).trans h) k rfl)
theorem spec_StepsCode.ev (k : Nat) (x : Prod' spec_StepsCode.sig.ins) : spec_StepsCode.sig.ev (spec_StepsCode.C k) (.two .auto (.two .auto (.two (.two .auto (.one (.sum (spec_StepsCode.l0.s k)))) (.two (.two .auto (.one (.sum (spec_StepsCode.l2.s k)))) (.two .auto (.two (.two .auto (.one (.sum (spec_StepsCode.l3.s k)))) .auto)))))) Try.f34.results.toList (cB Try.f34) x = spec_StepsCode k x.1 x.2 := by kernel_rfl
theorem spec_StepsCode.ok (k : Nat) : ConOk Try.prog 34 (spec_StepsCode.con k) := sig_ok (p := (.two .auto (.two .auto (.two (.two .auto (.one (.sum (spec_StepsCode.l0.s k)))) (.two (.two .auto (.one (.sum (spec_StepsCode.l2.s k)))) (.two .auto (.two (.two .auto (.one (.sum (spec_StepsCode.l3.s k)))) .auto))))))) (spec_StepsCode.cok k) Try.func34 (by kernel_rfl) (show Try.f34.body = some (cB Try.f34) by kernel_rfl) (by kernel_rfl) (by kernel_rfl) (plan_of (L := [(spec_StepsCode.l0.s k, cO (cR (cL (cR (cR (cB Try.f34)))))), (spec_StepsCode.l2.s k, cO (cR (cL (cR (cR (cR (cB Try.f34))))))), (spec_StepsCode.l3.s k, cO (cR (cL (cR (cR (cR (cR (cR (cB Try.f34)))))))))]) (by kernel_rfl) ⟨spec_StepsCode.l0.ok k, spec_StepsCode.l2.ok k, spec_StepsCode.l3.ok k, trivial⟩) (fun x y h => (spec_StepsCode.ev k x).trans h)
def spec_PackageRight (k : Nat) (a1 : G24) : Option (Bool) :=
  Option.bind (spec_StepsCode k a1.2.2 a1.1) fun v2 =>
  some ((v2 == 0) && (((a1.2.1.length) : Int) == 32))
def spec_PackageRight.sig : Sig := { ps := [.val true T24 (ros T24)], rs := [.val false [.v .bool]], ntmps := 15 }
def spec_PackageRight.con (k : Nat) : Con := spec_PackageRight.sig.con (fun x => spec_PackageRight k x)
def spec_PackageRight.C (k : Nat) : Ctx := { ti := TAB, con := conL [(34, spec_StepsCode.con k)], rob := true }
theorem spec_PackageRight.cok (k : Nat) : CtxOk Try.prog (spec_PackageRight.C k) := ctx_ok TABok ⟨spec_StepsCode.ok k, trivial⟩
theorem spec_PackageRight.ev (k : Nat) (x : Prod' spec_PackageRight.sig.ins) : spec_PackageRight.sig.ev (spec_PackageRight.C k) .auto Try.f15.results.toList (cB Try.f15) x = spec_PackageRight k x := by kernel_rfl
theorem spec_PackageRight.ok (k : Nat) : ConOk Try.prog 15 (spec_PackageRight.con k) := sig_ok (p := .auto) (spec_PackageRight.cok k) Try.func15 (by kernel_rfl) (show Try.f15.body = some (cB Try.f15) by kernel_rfl) (by kernel_rfl) (by kernel_rfl) (plan_of (L := []) (by kernel_rfl) trivial) (fun x y h => (spec_PackageRight.ev k x).trans h)
def spec_HeadRight (a1 : G45) : Option (Bool) :=
  Option.bind (spec_l03Is a1.1 1 8) fun v2 =>
  bif v2 then
    Option.bind (spec_l03Is a1.2.1 1 20) fun v3 =>
    bif v3 then
      Option.bind (spec_l03Is a1.2.2.1 0 4) fun v4 =>
      some (v4 && (((a1.2.2.2.length) : Int) == 32))
    else
    some false
  else
  some false
def spec_HeadRight.sig : Sig := { ps := [.val true T45 (ros T45)], rs := [.val false [.v .bool]], ntmps := 22 }
def spec_HeadRight.con (k : Nat) : Con := spec_HeadRight.sig.con (fun x => spec_HeadRight x)
def spec_HeadRight.C (k : Nat) : Ctx := { ti := TAB, con := conL [(35, spec_l03Is.con k)] }
theorem spec_HeadRight.cok (k : Nat) : CtxOk Try.prog (spec_HeadRight.C k) := ctx_ok TABok ⟨spec_l03Is.ok k, trivial⟩
theorem spec_HeadRight.ev (k : Nat) (x : Prod' spec_HeadRight.sig.ins) : spec_HeadRight.sig.ev (spec_HeadRight.C k) .auto Try.f16.results.toList (cB Try.f16) x = spec_HeadRight x := by kernel_rfl
theorem spec_HeadRight.ok (k : Nat) : ConOk Try.prog 16 (spec_HeadRight.con k) := sig_ok (p := .auto) (spec_HeadRight.cok k) Try.func16 (by kernel_rfl) (show Try.f16.body = some (cB Try.f16) by kernel_rfl) (by kernel_rfl) (by kernel_rfl) (plan_of (L := []) (by kernel_rfl) trivial) (fun x y h => (spec_HeadRight.ev k x).trans h)
def spec_SlotsOf.l0 : Nat → List G70 → Int → Int → Option (Int)
  | 0, _, _, _ => none
  | j + 1, a1, a2, a3 =>
    bif (decide (a3 < ((a1.length) : Int))) && (decide (((a1.length) : Int) ≤ 40)) then
      Option.bind (at? a1 a3) fun v4 =>
      let e5 := IntKind.wrap .i64 (a3 + 1)
      bif v4.1 == 1 then
        spec_SlotsOf.l0 j a1 (IntKind.wrap .i64 (a2 + 1)) e5
      else
      spec_SlotsOf.l0 j a1 a2 e5
    else
    some a2
def spec_SlotsOf (k : Nat) (a1 : List G70) : Option (Int) :=
  Option.bind (spec_SlotsOf.l0 k a1 0 0) fun y2 =>
  some y2
def spec_SlotsOf.sig : Sig := { ps := [.val false (.sl T70) (ros (.sl T70))], rs := [.val false [.v (.int .i64)]], ntmps := 25 }
def spec_SlotsOf.con (k : Nat) : Con := spec_SlotsOf.sig.con (fun x => spec_SlotsOf k x)
def spec_SlotsOf.C (k : Nat) : Ctx := { ti := TAB, con := conL [] }
theorem spec_SlotsOf.cok (k : Nat) : CtxOk Try.prog (spec_SlotsOf.C k) := ctx_ok TABok trivial
def spec_SlotsOf.l0.ish : Shape := { tmps := [(0, .one (.bor T70)), (3, .one (.v (.int .i64))), (4, .one (.v (.int .i64)))], slots := [], nb := 0 }
def spec_SlotsOf.l0.outs : List (Ex × Shape) := [(.exit 0, { tmps := [(3, .one (.v (.int .i64)))], slots := [], nb := 0 })]
def spec_SlotsOf.l0.F (k j : Nat) (x : Prod' spec_SlotsOf.l0.ish.tys) : Option (Outs spec_SlotsOf.l0.outs) := spec_SlotsOf.l0 j x.1 x.2.1 x.2.2
def spec_SlotsOf.l0.s (k : Nat) : Summ := { n := 25, ish := spec_SlotsOf.l0.ish, outs := spec_SlotsOf.l0.outs, f := spec_SlotsOf.l0.F k k }
theorem spec_SlotsOf.l0.ev (k j : Nat) (x : Prod' spec_SlotsOf.l0.ish.tys) : V (spec_SlotsOf.C k) .auto (cO (cO (cR (cL (cR (cR (cB Try.f36))))))) (mk spec_SlotsOf.l0.ish 25 x) (fun e st' => match e with | .nrm => (rd spec_SlotsOf.l0.ish st').bind (spec_SlotsOf.l0.F k j) | e => rdOut e st' spec_SlotsOf.l0.outs) = spec_SlotsOf.l0.F k (j + 1) x := by kernel_rfl
theorem spec_SlotsOf.l0.ok (k : Nat) : SumOk Try.prog (spec_SlotsOf.C k) (.loop (cO (cO (cR (cL (cR (cR (cB Try.f36)))))))) (spec_SlotsOf.l0.s k) := sum_ok (by kernel_rfl) (sum_loop (p := .auto) (F := spec_SlotsOf.l0.F k) (spec_SlotsOf.cok k) (by kernel_rfl) (plan_of (L := []) (by kernel_rfl) trivial) (fun _ => rfl) (fun j x y h => (spec_SlotsOf.l0.ev k j x).trans h) k rfl)
theorem spec_SlotsOf.ev (k : Nat) (x : Prod' spec_SlotsOf.sig.ins) : spec_SlotsOf.sig.ev (spec_SlotsOf.C k) (.two .auto (.two .auto (.two (.two .auto (.one (.sum (spec_SlotsOf.l0.s k)))) .auto))) Try.f36.results.toList (cB Try.f36) x = spec_SlotsOf k x := by kernel_rfl
theorem spec_SlotsOf.ok (k : Nat) : ConOk Try.prog 36 (spec_SlotsOf.con k) := sig_ok (p := (.two .auto (.two .auto (.two (.two .auto (.one (.sum (spec_SlotsOf.l0.s k)))) .auto)))) (spec_SlotsOf.cok k) Try.func36 (by kernel_rfl) (show Try.f36.body = some (cB Try.f36) by kernel_rfl) (by kernel_rfl) (by kernel_rfl) (plan_of (L := [(spec_SlotsOf.l0.s k, cO (cR (cL (cR (cR (cB Try.f36))))))]) (by kernel_rfl) ⟨spec_SlotsOf.l0.ok k, trivial⟩) (fun x y h => (spec_SlotsOf.ev k x).trans h)
def spec_Writes.l0 : Nat → List G45 → Int → List G45 → Option ((List G45))
  | 0, _, _, _ => none
  | j + 1, a1, a2, a3 =>
    bif (decide (a2 < ((a1.length) : Int))) && (decide (((a1.length) : Int) ≤ 20)) then
      Option.bind (at? a1 a2) fun v4 =>
      let e5 := IntKind.wrap .i64 (a2 + 1)
      bif v4.1 != 5 then
        Option.bind (at? a1 a2) fun v6 =>
        Option.bind (app? 40 a3 [v6]) fun v7 =>
        spec_Writes.l0 j a1 e5 v7
      else
      spec_Writes.l0 j a1 e5 a3
    else
    some a3
def spec_Writes (k : Nat) (a1 : List G45) : Option (List G45) :=
  Option.bind (spec_Writes.l0 k a1 0 []) fun y2 =>
  some y2
def spec_Writes.sig : Sig := { ps := [.val false (.sl T45) (ros (.sl T45))], rs := [.val false [.own 52 T45]], ntmps := 31 }
def spec_Writes.con (k : Nat) : Con := spec_Writes.sig.con (fun x => spec_Writes k x)
def spec_Writes.C (k : Nat) : Ctx := { ti := TAB, con := conL [] }
theorem spec_Writes.cok (k : Nat) : CtxOk Try.prog (spec_Writes.C k) := ctx_ok TABok trivial
def spec_Writes.l0.ish : Shape := { tmps := [(0, .one (.bor T45)), (3, .one (.own 1)), (4, .one (.v (.int .i64)))], slots := [(1, .arr false 52 T45)], nb := 2 }
def spec_Writes.l0.outs : List (Ex × Shape) := [(.exit 0, { tmps := [(3, .one (.own 2))], slots := [(2, .arr false 52 T45)], nb := 3 })]
def spec_Writes.l0.F (k j : Nat) (x : Prod' spec_Writes.l0.ish.tys) : Option (Outs spec_Writes.l0.outs) := spec_Writes.l0 j x.1 x.2.1 x.2.2
def spec_Writes.l0.s (k : Nat) : Summ := { n := 31, ish := spec_Writes.l0.ish, outs := spec_Writes.l0.outs, f := spec_Writes.l0.F k k }
theorem spec_Writes.l0.ev (k j : Nat) (x : Prod' spec_Writes.l0.ish.tys) : V (spec_Writes.C k) .auto (cO (cO (cR (cL (cR (cR (cB Try.f66))))))) (mk spec_Writes.l0.ish 31 x) (fun e st' => match e with | .nrm => (rd spec_Writes.l0.ish st').bind (spec_Writes.l0.F k j) | e => rdOut e st' spec_Writes.l0.outs) = spec_Writes.l0.F k (j + 1) x := by kernel_rfl
theorem spec_Writes.l0.ok (k : Nat) : SumOk Try.prog (spec_Writes.C k) (.loop (cO (cO (cR (cL (cR (cR (cB Try.f66)))))))) (spec_Writes.l0.s k) := sum_ok (by kernel_rfl) (sum_loop (p := .auto) (F := spec_Writes.l0.F k) (spec_Writes.cok k) (by kernel_rfl) (plan_of (L := []) (by kernel_rfl) trivial) (fun _ => rfl) (fun j x y h => (spec_Writes.l0.ev k j x).trans h) k rfl)
theorem spec_Writes.ev (k : Nat) (x : Prod' spec_Writes.sig.ins) : spec_Writes.sig.ev (spec_Writes.C k) (.two .auto (.two .auto (.two (.two .auto (.one (.sum (spec_Writes.l0.s k)))) .auto))) Try.f66.results.toList (cB Try.f66) x = spec_Writes k x := by kernel_rfl
theorem spec_Writes.ok (k : Nat) : ConOk Try.prog 66 (spec_Writes.con k) := sig_ok (p := (.two .auto (.two .auto (.two (.two .auto (.one (.sum (spec_Writes.l0.s k)))) .auto)))) (spec_Writes.cok k) Try.func66 (by kernel_rfl) (show Try.f66.body = some (cB Try.f66) by kernel_rfl) (by kernel_rfl) (by kernel_rfl) (plan_of (L := [(spec_Writes.l0.s k, cO (cR (cL (cR (cR (cB Try.f66))))))]) (by kernel_rfl) ⟨spec_Writes.l0.ok k, trivial⟩) (fun x y h => (spec_Writes.ev k x).trans h)
def spec_l11Reads (a1 : G45) (a2 : Int) : Option (Bool) :=
  some (((a1.1 == 3) || (a1.1 == 4)) && (a1.2.2.1 == a2))
def spec_l11Reads.sig : Sig := { ps := [.val true T45 (ros T45), .val false (.int .i64) (ros (.int .i64))], rs := [.val false [.v .bool]], ntmps := 19 }
def spec_l11Reads.con (k : Nat) : Con := spec_l11Reads.sig.con (fun x => spec_l11Reads x.1 x.2)
def spec_l11Reads.C (k : Nat) : Ctx := { ti := TAB, con := conL [] }
theorem spec_l11Reads.cok (k : Nat) : CtxOk Try.prog (spec_l11Reads.C k) := ctx_ok TABok trivial
theorem spec_l11Reads.ev (k : Nat) (x : Prod' spec_l11Reads.sig.ins) : spec_l11Reads.sig.ev (spec_l11Reads.C k) .auto Try.f73.results.toList (cB Try.f73) x = spec_l11Reads x.1 x.2 := by kernel_rfl
theorem spec_l11Reads.ok (k : Nat) : ConOk Try.prog 73 (spec_l11Reads.con k) := sig_ok (p := .auto) (spec_l11Reads.cok k) Try.func73 (by kernel_rfl) (show Try.f73.body = some (cB Try.f73) by kernel_rfl) (by kernel_rfl) (by kernel_rfl) (plan_of (L := []) (by kernel_rfl) trivial) (fun x y h => (spec_l11Reads.ev k x).trans h)
def spec_l11Blocked.l0 : Nat → List G45 → List Bool → Int → Int → Option (Unit ⊕ Bool)
  | 0, _, _, _, _ => none
  | j + 1, a1, a2, a3, a4 =>
    bif decide (a4 < ((a1.length) : Int)) then
      let e5 := IntKind.wrap .i64 (a4 + 1)
      bif a4 != a3 then
        Option.bind (at? a2 a4) fun v6 =>
        bif v6 then
          Option.bind (at? a1 a4) fun v7 =>
          Option.bind (at? a1 a3) fun v8 =>
          Option.bind (spec_l11Reads v7 v8.2.1) fun v9 =>
          bif v9 then
            some (.inr true)
          else
          spec_l11Blocked.l0 j a1 a2 a3 e5
        else
        spec_l11Blocked.l0 j a1 a2 a3 e5
      else
      spec_l11Blocked.l0 j a1 a2 a3 e5
    else
    some (.inl ())
def spec_l11Blocked (k : Nat) (a1 : List G45) (a2 : List Bool) (a3 : List Bool) (a4 : Int) : Option (Bool) :=
  Option.bind (at? a1 a4) fun v5 =>
  Option.bind (at? a3 v5.2.1) fun v6 =>
  bif v6 then
    some false
  else
  Option.bind (spec_l11Blocked.l0 k a1 a2 a4 0) fun
    | .inl y7 =>
      some false
    | .inr y8 =>
      some y8
def spec_l11Blocked.sig : Sig := { ps := [.val false (.sl T45) (ros (.sl T45)), .val false (.sl .bool) (ros (.sl .bool)), .val false (.sl .bool) (ros (.sl .bool)), .val false (.int .i64) (ros (.int .i64))], rs := [.val false [.v .bool]], ntmps := 45 }
def spec_l11Blocked.con (k : Nat) : Con := spec_l11Blocked.sig.con (fun x => spec_l11Blocked k x.1 x.2.1 x.2.2.1 x.2.2.2)
def spec_l11Blocked.C (k : Nat) : Ctx := { ti := TAB, con := conL [(73, spec_l11Reads.con k)] }
theorem spec_l11Blocked.cok (k : Nat) : CtxOk Try.prog (spec_l11Blocked.C k) := ctx_ok TABok ⟨spec_l11Reads.ok k, trivial⟩
def spec_l11Blocked.l0.ish : Shape := { tmps := [(0, .one (.bor T45)), (1, .one (.bor .bool)), (3, .one (.v (.int .i64))), (9, .one (.v (.int .i64)))], slots := [], nb := 0 }
def spec_l11Blocked.l0.outs : List (Ex × Shape) := [(.exit 0, { tmps := [], slots := [], nb := 0 }), (.ret, { tmps := [(8, .one (.v .bool))], slots := [], nb := 0 })]
def spec_l11Blocked.l0.F (k j : Nat) (x : Prod' spec_l11Blocked.l0.ish.tys) : Option (Outs spec_l11Blocked.l0.outs) := spec_l11Blocked.l0 j x.1 x.2.1 x.2.2.1 x.2.2.2
def spec_l11Blocked.l0.s (k : Nat) : Summ := { n := 45, ish := spec_l11Blocked.l0.ish, outs := spec_l11Blocked.l0.outs, f := spec_l11Blocked.l0.F k k }
theorem spec_l11Blocked.l0.ev (k j : Nat) (x : Prod' spec_l11Blocked.l0.ish.tys) : V (spec_l11Blocked.C k) .auto (cO (cO (cR (cL (cR (cR (cB Try.f72))))))) (mk spec_l11Blocked.l0.ish 45 x) (fun e st' => match e with | .nrm => (rd spec_l11Blocked.l0.ish st').bind (spec_l11Blocked.l0.F k j) | e => rdOut e st' spec_l11Blocked.l0.outs) = spec_l11Blocked.l0.F k (j + 1) x := by kernel_rfl
theorem spec_l11Blocked.l0.ok (k : Nat) : SumOk Try.prog (spec_l11Blocked.C k) (.loop (cO (cO (cR (cL (cR (cR (cB Try.f72)))))))) (spec_l11Blocked.l0.s k) := sum_ok (by kernel_rfl) (sum_loop (p := .auto) (F := spec_l11Blocked.l0.F k) (spec_l11Blocked.cok k) (by kernel_rfl) (plan_of (L := []) (by kernel_rfl) trivial) (fun _ => rfl) (fun j x y h => (spec_l11Blocked.l0.ev k j x).trans h) k rfl)
theorem spec_l11Blocked.ev (k : Nat) (x : Prod' spec_l11Blocked.sig.ins) : spec_l11Blocked.sig.ev (spec_l11Blocked.C k) (.two .auto (.two .auto (.two (.two .auto (.one (.sum (spec_l11Blocked.l0.s k)))) .auto))) Try.f72.results.toList (cB Try.f72) x = spec_l11Blocked k x.1 x.2.1 x.2.2.1 x.2.2.2 := by kernel_rfl
theorem spec_l11Blocked.ok (k : Nat) : ConOk Try.prog 72 (spec_l11Blocked.con k) := sig_ok (p := (.two .auto (.two .auto (.two (.two .auto (.one (.sum (spec_l11Blocked.l0.s k)))) .auto)))) (spec_l11Blocked.cok k) Try.func72 (by kernel_rfl) (show Try.f72.body = some (cB Try.f72) by kernel_rfl) (by kernel_rfl) (by kernel_rfl) (plan_of (L := [(spec_l11Blocked.l0.s k, cO (cR (cL (cR (cR (cB Try.f72))))))]) (by kernel_rfl) ⟨spec_l11Blocked.l0.ok k, trivial⟩) (fun x y h => (spec_l11Blocked.ev k x).trans h)
def spec_l11Next.l0 (k : Nat) : Nat → List G45 → List Bool → List Bool → Int → Int → Int → Option ((Int × Int))
  | 0, _, _, _, _, _, _ => none
  | j + 1, a1, a2, a3, a4, a5, a6 =>
    bif decide (a6 < ((a1.length) : Int)) then
      Option.bind (at? a2 a6) fun v7 =>
      let e8 := IntKind.wrap .i64 (a6 + 1)
      bif !v7 then
        spec_l11Next.l0 k j a1 a2 a3 a4 a5 e8
      else
      bif decide (a5 < 0) then
        bif decide (a4 < 0) then
          Option.bind (spec_l11Blocked k a1 a2 a3 a6) fun v9 =>
          bif !v9 then
            spec_l11Next.l0 k j a1 a2 a3 a6 a6 e8
          else
          spec_l11Next.l0 k j a1 a2 a3 a4 a6 e8
        else
        spec_l11Next.l0 k j a1 a2 a3 a4 a6 e8
      else
      bif decide (a4 < 0) then
        Option.bind (spec_l11Blocked k a1 a2 a3 a6) fun v10 =>
        bif !v10 then
          spec_l11Next.l0 k j a1 a2 a3 a6 a5 e8
        else
        spec_l11Next.l0 k j a1 a2 a3 a4 a5 e8
      else
      spec_l11Next.l0 k j a1 a2 a3 a4 a5 e8
    else
    some (a4, a5)
def spec_l11Next (k : Nat) (a1 : List G45) (a2 : List Bool) (a3 : List Bool) : Option (Int × Int) :=
  Option.bind (spec_l11Next.l0 k k a1 a2 a3 (-1) (-1) 0) fun y4 =>
  some (y4.1, y4.2)
def spec_l11Next.sig : Sig := { ps := [.val false (.sl T45) (ros (.sl T45)), .val false (.sl .bool) (ros (.sl .bool)), .val false (.sl .bool) (ros (.sl .bool))], rs := [.val false [.v (.int .i64)], .val false [.v (.int .i64)]], ntmps := 38 }
def spec_l11Next.con (k : Nat) : Con := spec_l11Next.sig.con (fun x => spec_l11Next k x.1 x.2.1 x.2.2)
def spec_l11Next.C (k : Nat) : Ctx := { ti := TAB, con := conL [(72, spec_l11Blocked.con k)] }
theorem spec_l11Next.cok (k : Nat) : CtxOk Try.prog (spec_l11Next.C k) := ctx_ok TABok ⟨spec_l11Blocked.ok k, trivial⟩
def spec_l11Next.l0.ish : Shape := { tmps := [(0, .one (.bor T45)), (1, .one (.bor .bool)), (2, .one (.bor .bool)), (8, .one (.v (.int .i64))), (9, .one (.v (.int .i64))), (10, .one (.v (.int .i64)))], slots := [], nb := 0 }
def spec_l11Next.l0.outs : List (Ex × Shape) := [(.exit 0, { tmps := [(8, .one (.v (.int .i64))), (9, .one (.v (.int .i64)))], slots := [], nb := 0 })]
def spec_l11Next.l0.F (k j : Nat) (x : Prod' spec_l11Next.l0.ish.tys) : Option (Outs spec_l11Next.l0.outs) := spec_l11Next.l0 k j x.1 x.2.1 x.2.2.1 x.2.2.2.1 x.2.2.2.2.1 x.2.2.2.2.2
def spec_l11Next.l0.s (k : Nat) : Summ := { n := 38, ish := spec_l11Next.l0.ish, outs := spec_l11Next.l0.outs, f := spec_l11Next.l0.F k k }
theorem spec_l11Next.l0.ev (k j : Nat) (x : Prod' spec_l11Next.l0.ish.tys) : V (spec_l11Next.C k) .auto (cO (cO (cR (cL (cR (cR (cB Try.f67))))))) (mk spec_l11Next.l0.ish 38 x) (fun e st' => match e with | .nrm => (rd spec_l11Next.l0.ish st').bind (spec_l11Next.l0.F k j) | e => rdOut e st' spec_l11Next.l0.outs) = spec_l11Next.l0.F k (j + 1) x := by kernel_rfl
theorem spec_l11Next.l0.ok (k : Nat) : SumOk Try.prog (spec_l11Next.C k) (.loop (cO (cO (cR (cL (cR (cR (cB Try.f67)))))))) (spec_l11Next.l0.s k) := sum_ok (by kernel_rfl) (sum_loop (p := .auto) (F := spec_l11Next.l0.F k) (spec_l11Next.cok k) (by kernel_rfl) (plan_of (L := []) (by kernel_rfl) trivial) (fun _ => rfl) (fun j x y h => (spec_l11Next.l0.ev k j x).trans h) k rfl)
theorem spec_l11Next.ev (k : Nat) (x : Prod' spec_l11Next.sig.ins) : spec_l11Next.sig.ev (spec_l11Next.C k) (.two .auto (.two .auto (.two (.two .auto (.one (.sum (spec_l11Next.l0.s k)))) .auto))) Try.f67.results.toList (cB Try.f67) x = spec_l11Next k x.1 x.2.1 x.2.2 := by kernel_rfl
theorem spec_l11Next.ok (k : Nat) : ConOk Try.prog 67 (spec_l11Next.con k) := sig_ok (p := (.two .auto (.two .auto (.two (.two .auto (.one (.sum (spec_l11Next.l0.s k)))) .auto)))) (spec_l11Next.cok k) Try.func67 (by kernel_rfl) (show Try.f67.body = some (cB Try.f67) by kernel_rfl) (by kernel_rfl) (by kernel_rfl) (plan_of (L := [(spec_l11Next.l0.s k, cO (cR (cL (cR (cR (cB Try.f67))))))]) (by kernel_rfl) ⟨spec_l11Next.l0.ok k, trivial⟩) (fun x y h => (spec_l11Next.ev k x).trans h)
def spec_l11Plan.l0 : Nat → Int → List G45 → List Bool → Option ((List G45 × List Bool))
  | 0, _, _, _ => none
  | j + 1, a1, a2, a3 =>
    bif decide (a1 < ((a2.length) : Int)) then
      Option.bind (at? a3 a1) fun v4 =>
      Option.bind (at? a3 a1) fun v5 =>
      spec_l11Plan.l0 j (IntKind.wrap .i64 (a1 + 1)) a2 (List.set a3 (Int.toNat a1) true)
    else
    some (a2, a3)
def spec_l11Plan.l1 (k : Nat) : Nat → Int → List G45 → List Bool → List Bool → List G70 → Option ((List G70))
  | 0, _, _, _, _, _ => none
  | j + 1, a1, a2, a3, a4, a5 =>
    Option.bind (spec_l11Next k a2 a3 a4) fun v6 =>
    bif decide (v6.2 < 0) then
      some a5
    else
    bif decide (0 ≤ v6.1) then
      let e7 := at? a2 v6.1
      Option.bind (e7) fun v8 =>
      Option.bind (e7) fun v9 =>
      Option.bind (app? 32 a5 [(2, (v6.1, (v9.2.1, 0)))]) fun v10 =>
      let e11 := at? a3 v6.1
      Option.bind (e11) fun v12 =>
      Option.bind (e11) fun v13 =>
      spec_l11Plan.l1 k j a1 a2 (List.set a3 (Int.toNat v6.1) false) a4 v10
    else
    let e14 := at? a2 v6.2
    Option.bind (e14) fun v15 =>
    Option.bind (e14) fun v16 =>
    Option.bind (app? 32 a5 [(1, (v6.2, (v16.2.1, a1)))]) fun v17 =>
    Option.bind (e14) fun v18 =>
    Option.bind (e14) fun v19 =>
    let e20 := at? a4 v19.2.1
    Option.bind (e20) fun v21 =>
    Option.bind (e20) fun v22 =>
    spec_l11Plan.l1 k j (IntKind.wrap .i64 (a1 + 1)) a2 a3 (List.set a4 (Int.toNat v19.2.1) true) v17
def spec_l11Plan (k : Nat) (a1 : List G45) : Option (List G70) :=
  Option.bind (spec_Writes k a1) fun v2 =>
  Option.bind (make? 1 ((v2.length) : Int) ((v2.length) : Int) false) fun v3 =>
  Option.bind (spec_l11Plan.l0 k 0 v2 v3) fun y4 =>
  Option.bind (make? 1 8 8 false) fun v5 =>
  Option.bind (spec_l11Plan.l1 k k 0 y4.1 y4.2 v5 []) fun y6 =>
  some y6
def spec_l11Plan.sig : Sig := { ps := [.val false (.sl T45) (ros (.sl T45))], rs := [.val false [.own 70 T70]], ntmps := 74 }
def spec_l11Plan.con (k : Nat) : Con := spec_l11Plan.sig.con (fun x => spec_l11Plan k x)
def spec_l11Plan.C (k : Nat) : Ctx := { ti := TAB, con := conL [(66, spec_Writes.con k), (67, spec_l11Next.con k)] }
theorem spec_l11Plan.cok (k : Nat) : CtxOk Try.prog (spec_l11Plan.C k) := ctx_ok TABok ⟨spec_Writes.ok k, spec_l11Next.ok k, trivial⟩
def spec_l11Plan.l0.ish : Shape := { tmps := [(3, .one (.own 2)), (4, .one (.own 3)), (5, .one (.v (.int .i64)))], slots := [(2, .arr false 52 T45), (3, .arr false 4 .bool)], nb := 4 }
def spec_l11Plan.l0.outs : List (Ex × Shape) := [(.exit 0, { tmps := [(3, .one (.own 4)), (4, .one (.own 5))], slots := [(4, .arr false 52 T45), (5, .arr false 4 .bool)], nb := 6 })]
def spec_l11Plan.l0.F (k j : Nat) (x : Prod' spec_l11Plan.l0.ish.tys) : Option (Outs spec_l11Plan.l0.outs) := spec_l11Plan.l0 j x.1 x.2.1 x.2.2
def spec_l11Plan.l0.s (k : Nat) : Summ := { n := 74, ish := spec_l11Plan.l0.ish, outs := spec_l11Plan.l0.outs, f := spec_l11Plan.l0.F k k }
theorem spec_l11Plan.l0.ev (k j : Nat) (x : Prod' spec_l11Plan.l0.ish.tys) : V (spec_l11Plan.C k) .auto (cO (cO (cR (cL (cR (cR (cR (cB Try.f56)))))))) (mk spec_l11Plan.l0.ish 74 x) (fun e st' => match e with | .nrm => (rd spec_l11Plan.l0.ish st').bind (spec_l11Plan.l0.F k j) | e => rdOut e st' spec_l11Plan.l0.outs) = spec_l11Plan.l0.F k (j + 1) x := by kernel_rfl
theorem spec_l11Plan.l0.ok (k : Nat) : SumOk Try.prog (spec_l11Plan.C k) (.loop (cO (cO (cR (cL (cR (cR (cR (cB Try.f56))))))))) (spec_l11Plan.l0.s k) := sum_ok (by kernel_rfl) (sum_loop (p := .auto) (F := spec_l11Plan.l0.F k) (spec_l11Plan.cok k) (by kernel_rfl) (plan_of (L := []) (by kernel_rfl) trivial) (fun _ => rfl) (fun j x y h => (spec_l11Plan.l0.ev k j x).trans h) k rfl)
def spec_l11Plan.l1.ish : Shape := { tmps := [(3, .one (.own 8)), (4, .one (.own 9)), (6, .one (.own 10)), (7, .one (.own 11)), (8, .one (.v (.int .i64)))], slots := [(8, .arr false 52 T45), (9, .arr false 4 .bool), (10, .arr false 4 .bool), (11, .arr false 70 T70)], nb := 12 }
def spec_l11Plan.l1.outs : List (Ex × Shape) := [(.ret, { tmps := [(2, .one (.own 12))], slots := [(12, .arr false 70 T70)], nb := 13 })]
def spec_l11Plan.l1.F (k j : Nat) (x : Prod' spec_l11Plan.l1.ish.tys) : Option (Outs spec_l11Plan.l1.outs) := spec_l11Plan.l1 k j x.1 x.2.1 x.2.2.1 x.2.2.2.1 x.2.2.2.2
def spec_l11Plan.l1.s (k : Nat) : Summ := { n := 74, ish := spec_l11Plan.l1.ish, outs := spec_l11Plan.l1.outs, f := spec_l11Plan.l1.F k k }
theorem spec_l11Plan.l1.ev (k j : Nat) (x : Prod' spec_l11Plan.l1.ish.tys) : V (spec_l11Plan.C k) .auto (cO (cO (cR (cR (cR (cR (cR (cR (cR (cB Try.f56)))))))))) (mk spec_l11Plan.l1.ish 74 x) (fun e st' => match e with | .nrm => (rd spec_l11Plan.l1.ish st').bind (spec_l11Plan.l1.F k j) | e => rdOut e st' spec_l11Plan.l1.outs) = spec_l11Plan.l1.F k (j + 1) x := by kernel_rfl
theorem spec_l11Plan.l1.ok (k : Nat) : SumOk Try.prog (spec_l11Plan.C k) (.loop (cO (cO (cR (cR (cR (cR (cR (cR (cR (cB Try.f56))))))))))) (spec_l11Plan.l1.s k) := sum_ok (by kernel_rfl) (sum_loop (p := .auto) (F := spec_l11Plan.l1.F k) (spec_l11Plan.cok k) (by kernel_rfl) (plan_of (L := []) (by kernel_rfl) trivial) (fun _ => rfl) (fun j x y h => (spec_l11Plan.l1.ev k j x).trans h) k rfl)
theorem spec_l11Plan.ev (k : Nat) (x : Prod' spec_l11Plan.sig.ins) : spec_l11Plan.sig.ev (spec_l11Plan.C k) (.two .auto (.two .auto (.two .auto (.two (.two .auto (.one (.sum (spec_l11Plan.l0.s k)))) (.two .auto (.two .auto (.two .auto (.one (.sum (spec_l11Plan.l1.s k)))))))))) Try.f56.results.toList (cB Try.f56) x = spec_l11Plan k x := by kernel_rfl
theorem spec_l11Plan.ok (k : Nat) : ConOk Try.prog 56 (spec_l11Plan.con k) := sig_ok (p := (.two .auto (.two .auto (.two .auto (.two (.two .auto (.one (.sum (spec_l11Plan.l0.s k)))) (.two .auto (.two .auto (.two .auto (.one (.sum (spec_l11Plan.l1.s k))))))))))) (spec_l11Plan.cok k) Try.func56 (by kernel_rfl) (show Try.f56.body = some (cB Try.f56) by kernel_rfl) (by kernel_rfl) (by kernel_rfl) (plan_of (L := [(spec_l11Plan.l0.s k, cO (cR (cL (cR (cR (cR (cB Try.f56))))))), (spec_l11Plan.l1.s k, cO (cR (cR (cR (cR (cR (cR (cR (cB Try.f56)))))))))]) (by kernel_rfl) ⟨spec_l11Plan.l0.ok k, spec_l11Plan.l1.ok k, trivial⟩) (fun x y h => (spec_l11Plan.ev k x).trans h)
def spec_PlanOf (k : Nat) (a1 : List G45) (a2 : Int) : Option (List G70 × Int) :=
  bif decide (400 < ((a1.length) : Int)) then
    some ([], 2)
  else
  Option.bind (spec_StepsCode k a1 a2) fun v3 =>
  bif v3 != 0 then
    some ([], v3)
  else
  Option.bind (spec_l11Plan k a1) fun v4 =>
  some (v4, 0)
def spec_PlanOf.sig : Sig := { ps := [.val false (.sl T45) (ros (.sl T45)), .val false (.int .i64) (ros (.int .i64))], rs := [.val true [.own 70 T70, .v (.int .i64)]], ntmps := 20 }
def spec_PlanOf.con (k : Nat) : Con := spec_PlanOf.sig.con (fun x => spec_PlanOf k x.1 x.2)
def spec_PlanOf.C (k : Nat) : Ctx := { ti := TAB, con := conL [(34, spec_StepsCode.con k), (56, spec_l11Plan.con k)] }
theorem spec_PlanOf.cok (k : Nat) : CtxOk Try.prog (spec_PlanOf.C k) := ctx_ok TABok ⟨spec_StepsCode.ok k, spec_l11Plan.ok k, trivial⟩
theorem spec_PlanOf.ev (k : Nat) (x : Prod' spec_PlanOf.sig.ins) : spec_PlanOf.sig.ev (spec_PlanOf.C k) .auto Try.f37.results.toList (cB Try.f37) x = spec_PlanOf k x.1 x.2 := by kernel_rfl
theorem spec_PlanOf.ok (k : Nat) : ConOk Try.prog 37 (spec_PlanOf.con k) := sig_ok (p := .auto) (spec_PlanOf.cok k) Try.func37 (by kernel_rfl) (show Try.f37.body = some (cB Try.f37) by kernel_rfl) (by kernel_rfl) (by kernel_rfl) (plan_of (L := []) (by kernel_rfl) trivial) (fun x y h => (spec_PlanOf.ev k x).trans h)
def spec_l18Head (k : Nat) (a1 : G24) : Option (Int × Int × Int × Str) :=
  Option.bind (spec_PlanOf k a1.2.2 a1.1) fun v2 =>
  Option.bind (spec_SlotsOf k v2.1) fun v3 =>
  some (a1.1, ((a1.2.2.length) : Int), v3, a1.2.1)
def spec_l18Head.sig : Sig := { ps := [.val true T24 (ros T24)], rs := [.val true [.v (.int .i64), .v (.int .i64), .v (.int .i64), .v .str]], ntmps := 18 }
def spec_l18Head.con (k : Nat) : Con := spec_l18Head.sig.con (fun x => spec_l18Head k x)
def spec_l18Head.C (k : Nat) : Ctx := { ti := TAB, con := conL [(36, spec_SlotsOf.con k), (37, spec_PlanOf.con k)], rob := true }
theorem spec_l18Head.cok (k : Nat) : CtxOk Try.prog (spec_l18Head.C k) := ctx_ok TABok ⟨spec_SlotsOf.ok k, spec_PlanOf.ok k, trivial⟩
theorem spec_l18Head.ev (k : Nat) (x : Prod' spec_l18Head.sig.ins) : spec_l18Head.sig.ev (spec_l18Head.C k) .auto Try.f17.results.toList (cB Try.f17) x = spec_l18Head k x := by kernel_rfl
theorem spec_l18Head.ok (k : Nat) : ConOk Try.prog 17 (spec_l18Head.con k) := sig_ok (p := .auto) (spec_l18Head.cok k) Try.func17 (by kernel_rfl) (show Try.f17.body = some (cB Try.f17) by kernel_rfl) (by kernel_rfl) (by kernel_rfl) (plan_of (L := []) (by kernel_rfl) trivial) (fun x y h => (spec_l18Head.ev k x).trans h)
def spec_AgentRight (k : Nat) (a1 : G26) : Option (Bool) :=
  Option.bind (spec_PackageRight k a1.1) fun v2 =>
  bif v2 then
    Option.bind (spec_l18Head k a1.1) fun v3 =>
    Option.bind (spec_HeadRight v3) fun v4 =>
    some v4
  else
  some false
def spec_AgentRight.sig : Sig := { ps := [.val true T26 (ros T26)], rs := [.val false [.v .bool]], ntmps := 12 }
def spec_AgentRight.con (k : Nat) : Con := spec_AgentRight.sig.con (fun x => spec_AgentRight k x)
def spec_AgentRight.C (k : Nat) : Ctx := { ti := TAB, con := conL [(15, spec_PackageRight.con k), (16, spec_HeadRight.con k), (17, spec_l18Head.con k)], rob := true }
theorem spec_AgentRight.cok (k : Nat) : CtxOk Try.prog (spec_AgentRight.C k) := ctx_ok TABok ⟨spec_PackageRight.ok k, spec_HeadRight.ok k, spec_l18Head.ok k, trivial⟩
theorem spec_AgentRight.ev (k : Nat) (x : Prod' spec_AgentRight.sig.ins) : spec_AgentRight.sig.ev (spec_AgentRight.C k) .auto Try.f6.results.toList (cB Try.f6) x = spec_AgentRight k x := by kernel_rfl
theorem spec_AgentRight.ok (k : Nat) : ConOk Try.prog 6 (spec_AgentRight.con k) := sig_ok (p := .auto) (spec_AgentRight.cok k) Try.func6 (by kernel_rfl) (show Try.f6.body = some (cB Try.f6) by kernel_rfl) (by kernel_rfl) (by kernel_rfl) (plan_of (L := []) (by kernel_rfl) trivial) (fun x y h => (spec_AgentRight.ev k x).trans h)
def laws_toStep (a1 : G45) : Option (Int × Int × Int × Str) :=
  some (a1.1, a1.2.1, a1.2.2.1, a1.2.2.2)
def laws_toStep.sig : Sig := { ps := [.val true T45 (ros T45)], rs := [.val true [.v (.int .i64), .v (.int .i64), .v (.int .i64), .v .str]], ntmps := 17 }
def laws_toStep.con (k : Nat) : Con := laws_toStep.sig.con (fun x => laws_toStep x)
def laws_toStep.C (k : Nat) : Ctx := { ti := TAB, con := conL [] }
theorem laws_toStep.cok (k : Nat) : CtxOk Try.prog (laws_toStep.C k) := ctx_ok TABok trivial
theorem laws_toStep.ev (k : Nat) (x : Prod' laws_toStep.sig.ins) : laws_toStep.sig.ev (laws_toStep.C k) .auto Try.f42.results.toList (cB Try.f42) x = laws_toStep x := by kernel_rfl
theorem laws_toStep.ok (k : Nat) : ConOk Try.prog 42 (laws_toStep.con k) := sig_ok (p := .auto) (laws_toStep.cok k) Try.func42 (by kernel_rfl) (show Try.f42.body = some (cB Try.f42) by kernel_rfl) (by kernel_rfl) (by kernel_rfl) (plan_of (L := []) (by kernel_rfl) trivial) (fun x y h => (laws_toStep.ev k x).trans h)
def laws_toStepS.l0 : Nat → List G45 → Int → List G45 → Option ((List G45))
  | 0, _, _, _ => none
  | j + 1, a1, a2, a3 =>
    bif decide (a2 < ((a1.length) : Int)) then
      Option.bind (at? a1 a2) fun v4 =>
      Option.bind (laws_toStep v4) fun v5 =>
      Option.bind (at? a3 a2) fun v6 =>
      Option.bind (at? a3 a2) fun v7 =>
      laws_toStepS.l0 j a1 (IntKind.wrap .i64 (a2 + 1)) (List.set a3 (Int.toNat a2) v5)
    else
    some a3
def laws_toStepS (k : Nat) (a1 : List G45) : Option (List G45) :=
  Option.bind (make? 40 ((a1.length) : Int) ((a1.length) : Int) (0, (0, (0, [])))) fun v2 =>
  Option.bind (laws_toStepS.l0 k a1 0 v2) fun y3 =>
  some y3
def laws_toStepS.sig : Sig := { ps := [.val false (.sl T45) (ros (.sl T45))], rs := [.val false [.own 52 T45]], ntmps := 23 }
def laws_toStepS.con (k : Nat) : Con := laws_toStepS.sig.con (fun x => laws_toStepS k x)
def laws_toStepS.C (k : Nat) : Ctx := { ti := TAB, con := conL [(42, laws_toStep.con k)] }
theorem laws_toStepS.cok (k : Nat) : CtxOk Try.prog (laws_toStepS.C k) := ctx_ok TABok ⟨laws_toStep.ok k, trivial⟩
def laws_toStepS.l0.ish : Shape := { tmps := [(0, .one (.bor T45)), (3, .one (.own 1)), (4, .one (.v (.int .i64)))], slots := [(1, .arr false 52 T45)], nb := 2 }
def laws_toStepS.l0.outs : List (Ex × Shape) := [(.exit 0, { tmps := [(3, .one (.own 2))], slots := [(2, .arr false 52 T45)], nb := 3 })]
def laws_toStepS.l0.F (k j : Nat) (x : Prod' laws_toStepS.l0.ish.tys) : Option (Outs laws_toStepS.l0.outs) := laws_toStepS.l0 j x.1 x.2.1 x.2.2
def laws_toStepS.l0.s (k : Nat) : Summ := { n := 23, ish := laws_toStepS.l0.ish, outs := laws_toStepS.l0.outs, f := laws_toStepS.l0.F k k }
theorem laws_toStepS.l0.ev (k j : Nat) (x : Prod' laws_toStepS.l0.ish.tys) : V (laws_toStepS.C k) .auto (cO (cO (cR (cL (cR (cR (cB Try.f24))))))) (mk laws_toStepS.l0.ish 23 x) (fun e st' => match e with | .nrm => (rd laws_toStepS.l0.ish st').bind (laws_toStepS.l0.F k j) | e => rdOut e st' laws_toStepS.l0.outs) = laws_toStepS.l0.F k (j + 1) x := by kernel_rfl
theorem laws_toStepS.l0.ok (k : Nat) : SumOk Try.prog (laws_toStepS.C k) (.loop (cO (cO (cR (cL (cR (cR (cB Try.f24)))))))) (laws_toStepS.l0.s k) := sum_ok (by kernel_rfl) (sum_loop (p := .auto) (F := laws_toStepS.l0.F k) (laws_toStepS.cok k) (by kernel_rfl) (plan_of (L := []) (by kernel_rfl) trivial) (fun _ => rfl) (fun j x y h => (laws_toStepS.l0.ev k j x).trans h) k rfl)
theorem laws_toStepS.ev (k : Nat) (x : Prod' laws_toStepS.sig.ins) : laws_toStepS.sig.ev (laws_toStepS.C k) (.two .auto (.two .auto (.two (.two .auto (.one (.sum (laws_toStepS.l0.s k)))) .auto))) Try.f24.results.toList (cB Try.f24) x = laws_toStepS k x := by kernel_rfl
theorem laws_toStepS.ok (k : Nat) : ConOk Try.prog 24 (laws_toStepS.con k) := sig_ok (p := (.two .auto (.two .auto (.two (.two .auto (.one (.sum (laws_toStepS.l0.s k)))) .auto)))) (laws_toStepS.cok k) Try.func24 (by kernel_rfl) (show Try.f24.body = some (cB Try.f24) by kernel_rfl) (by kernel_rfl) (by kernel_rfl) (plan_of (L := [(laws_toStepS.l0.s k, cO (cR (cL (cR (cR (cB Try.f24))))))]) (by kernel_rfl) ⟨laws_toStepS.l0.ok k, trivial⟩) (fun x y h => (laws_toStepS.ev k x).trans h)
def laws_toPackage (k : Nat) (a1 : G24) : Option (Int × Str × List G45) :=
  Option.bind (laws_toStepS k a1.2.2) fun v2 =>
  some (a1.1, a1.2.1, v2)
def laws_toPackage.sig : Sig := { ps := [.val true T24 (ros T24)], rs := [.val true [.v (.int .i64), .v .str, .own 52 T45]], ntmps := 15 }
def laws_toPackage.con (k : Nat) : Con := laws_toPackage.sig.con (fun x => laws_toPackage k x)
def laws_toPackage.C (k : Nat) : Ctx := { ti := TAB, con := conL [(24, laws_toStepS.con k)], rob := true }
theorem laws_toPackage.cok (k : Nat) : CtxOk Try.prog (laws_toPackage.C k) := ctx_ok TABok ⟨laws_toStepS.ok k, trivial⟩
theorem laws_toPackage.ev (k : Nat) (x : Prod' laws_toPackage.sig.ins) : laws_toPackage.sig.ev (laws_toPackage.C k) .auto Try.f12.results.toList (cB Try.f12) x = laws_toPackage k x := by kernel_rfl
theorem laws_toPackage.ok (k : Nat) : ConOk Try.prog 12 (laws_toPackage.con k) := sig_ok (p := .auto) (laws_toPackage.cok k) Try.func12 (by kernel_rfl) (show Try.f12.body = some (cB Try.f12) by kernel_rfl) (by kernel_rfl) (by kernel_rfl) (plan_of (L := []) (by kernel_rfl) trivial) (fun x y h => (laws_toPackage.ev k x).trans h)
def laws_toAgent (k : Nat) (a1 : G26) : Option (Int × Str × List G45 × Bool) :=
  Option.bind (laws_toPackage k a1.1) fun v2 =>
  some (v2.1, v2.2.1, v2.2.2, a1.2)
def laws_toAgent.sig : Sig := { ps := [.val true T26 (ros T26)], rs := [.val true [.v (.int .i64), .v .str, .own 52 T45, .v .bool]], ntmps := 12 }
def laws_toAgent.con (k : Nat) : Con := laws_toAgent.sig.con (fun x => laws_toAgent k x)
def laws_toAgent.C (k : Nat) : Ctx := { ti := TAB, con := conL [(12, laws_toPackage.con k)], rob := true }
theorem laws_toAgent.cok (k : Nat) : CtxOk Try.prog (laws_toAgent.C k) := ctx_ok TABok ⟨laws_toPackage.ok k, trivial⟩
theorem laws_toAgent.ev (k : Nat) (x : Prod' laws_toAgent.sig.ins) : laws_toAgent.sig.ev (laws_toAgent.C k) .auto Try.f7.results.toList (cB Try.f7) x = laws_toAgent k x := by kernel_rfl
theorem laws_toAgent.ok (k : Nat) : ConOk Try.prog 7 (laws_toAgent.con k) := sig_ok (p := .auto) (laws_toAgent.cok k) Try.func7 (by kernel_rfl) (show Try.f7.body = some (cB Try.f7) by kernel_rfl) (by kernel_rfl) (by kernel_rfl) (plan_of (L := []) (by kernel_rfl) trivial) (fun x y h => (laws_toAgent.ev k x).trans h)
def impl_within (a1 : Int) (a2 : Int) (a3 : Int) : Option (Bool) :=
  some ((decide (a2 ≤ a1)) && (decide (a1 ≤ a3)))
def impl_within.sig : Sig := { ps := [.val false (.int .i64) (ros (.int .i64)), .val false (.int .i64) (ros (.int .i64)), .val false (.int .i64) (ros (.int .i64))], rs := [.val false [.v .bool]], ntmps := 15 }
def impl_within.con (k : Nat) : Con := impl_within.sig.con (fun x => impl_within x.1 x.2.1 x.2.2)
def impl_within.C (k : Nat) : Ctx := { ti := TAB, con := conL [] }
theorem impl_within.cok (k : Nat) : CtxOk Try.prog (impl_within.C k) := ctx_ok TABok trivial
theorem impl_within.ev (k : Nat) (x : Prod' impl_within.sig.ins) : impl_within.sig.ev (impl_within.C k) .auto Try.f68.results.toList (cB Try.f68) x = impl_within x.1 x.2.1 x.2.2 := by kernel_rfl
theorem impl_within.ok (k : Nat) : ConOk Try.prog 68 (impl_within.con k) := sig_ok (p := .auto) (impl_within.cok k) Try.func68 (by kernel_rfl) (show Try.f68.body = some (cB Try.f68) by kernel_rfl) (by kernel_rfl) (by kernel_rfl) (plan_of (L := []) (by kernel_rfl) trivial) (fun x y h => (impl_within.ev k x).trans h)
def impl_isBlocks (a1 : Int) : Option (Bool) :=
  Option.bind (impl_within a1 1 8) fun v2 =>
  some v2
def impl_isBlocks.sig : Sig := { ps := [.val false (.int .i64) (ros (.int .i64))], rs := [.val false [.v .bool]], ntmps := 5 }
def impl_isBlocks.con (k : Nat) : Con := impl_isBlocks.sig.con (fun x => impl_isBlocks x)
def impl_isBlocks.C (k : Nat) : Ctx := { ti := TAB, con := conL [(68, impl_within.con k)] }
theorem impl_isBlocks.cok (k : Nat) : CtxOk Try.prog (impl_isBlocks.C k) := ctx_ok TABok ⟨impl_within.ok k, trivial⟩
theorem impl_isBlocks.ev (k : Nat) (x : Prod' impl_isBlocks.sig.ins) : impl_isBlocks.sig.ev (impl_isBlocks.C k) .auto Try.f58.results.toList (cB Try.f58) x = impl_isBlocks x := by kernel_rfl
theorem impl_isBlocks.ok (k : Nat) : ConOk Try.prog 58 (impl_isBlocks.con k) := sig_ok (p := .auto) (impl_isBlocks.cok k) Try.func58 (by kernel_rfl) (show Try.f58.body = some (cB Try.f58) by kernel_rfl) (by kernel_rfl) (by kernel_rfl) (plan_of (L := []) (by kernel_rfl) trivial) (fun x y h => (impl_isBlocks.ev k x).trans h)
def impl_isTime (a1 : Int) : Option (Bool) :=
  Option.bind (impl_within a1 0 1000000) fun v2 =>
  some v2
def impl_isTime.sig : Sig := { ps := [.val false (.int .i64) (ros (.int .i64))], rs := [.val false [.v .bool]], ntmps := 5 }
def impl_isTime.con (k : Nat) : Con := impl_isTime.sig.con (fun x => impl_isTime x)
def impl_isTime.C (k : Nat) : Ctx := { ti := TAB, con := conL [(68, impl_within.con k)] }
theorem impl_isTime.cok (k : Nat) : CtxOk Try.prog (impl_isTime.C k) := ctx_ok TABok ⟨impl_within.ok k, trivial⟩
theorem impl_isTime.ev (k : Nat) (x : Prod' impl_isTime.sig.ins) : impl_isTime.sig.ev (impl_isTime.C k) .auto Try.f70.results.toList (cB Try.f70) x = impl_isTime x := by kernel_rfl
theorem impl_isTime.ok (k : Nat) : ConOk Try.prog 70 (impl_isTime.con k) := sig_ok (p := .auto) (impl_isTime.cok k) Try.func70 (by kernel_rfl) (show Try.f70.body = some (cB Try.f70) by kernel_rfl) (by kernel_rfl) (by kernel_rfl) (plan_of (L := []) (by kernel_rfl) trivial) (fun x y h => (impl_isTime.ev k x).trans h)
def impl_isStep.j0 (a1 : Int) (a2 : Bool) (a3 : Int) (a4 : Int) (a5 : Int) (a6 : Str) : Option ((Bool × Int × Int × Int × Str)) :=
  bif (a3 == 3) || (a3 == 4) then
    Option.bind (impl_within a5 0 (IntKind.wrap .i64 (a1 - 1))) fun v7 =>
    some (v7, a3, a4, a5, a6)
  else
  some (a2, a3, a4, a5, a6)
def impl_isStep.j1 (a1 : Bool) (a2 : Int) (a3 : Int) (a4 : Int) (a5 : Str) : Option ((Bool × Int × Int × Int × Str)) :=
  bif (a2 == 2) || (a2 == 4) then
    some (((a5.length) : Int) == 8, a2, a3, a4, a5)
  else
  some (a1, a2, a3, a4, a5)
def impl_isStep (a1 : G45) (a2 : Int) : Option (Bool) :=
  Option.bind (impl_within a1.2.1 0 (IntKind.wrap .i64 (a2 - 1))) fun v3 =>
  Option.bind (impl_isStep.j0 a2 (a1.2.2.1 == 0) a1.1 a1.2.1 a1.2.2.1 a1.2.2.2) fun y4 =>
  Option.bind (impl_isStep.j1 (a1.2.2.2 == []) y4.2.1 y4.2.2.1 y4.2.2.2.1 y4.2.2.2.2) fun y5 =>
  bif y5.2.1 == 5 then
    Option.bind (impl_isTime y5.2.2.2.1) fun v6 =>
    Option.bind (impl_within y5.2.1 1 5) fun v7 =>
    some (((v7 && (y5.2.2.1 == 0)) && v6) && y5.1)
  else
  Option.bind (impl_within y5.2.1 1 5) fun v8 =>
  some (((v8 && v3) && y4.1) && y5.1)
def impl_isStep.sig : Sig := { ps := [.val true T45 (ros T45), .val false (.int .i64) (ros (.int .i64))], rs := [.val false [.v .bool]], ntmps := 65 }
def impl_isStep.con (k : Nat) : Con := impl_isStep.sig.con (fun x => impl_isStep x.1 x.2)
def impl_isStep.C (k : Nat) : Ctx := { ti := TAB, con := conL [(68, impl_within.con k), (70, impl_isTime.con k)] }
theorem impl_isStep.cok (k : Nat) : CtxOk Try.prog (impl_isStep.C k) := ctx_ok TABok ⟨impl_within.ok k, impl_isTime.ok k, trivial⟩
def impl_isStep.j0.ish : Shape := { tmps := [(1, .one (.v (.int .i64))), (2, .one (.ptr 0 0)), (6, .one (.v .bool))], slots := [(0, .box 52 [.v (.int .i64), .v (.int .i64), .v (.int .i64), .v .str])], nb := 1 }
def impl_isStep.j0.outs : List (Ex × Shape) := [(.nrm, { tmps := [(6, .one (.v .bool))], slots := [(0, .box 52 [.v (.int .i64), .v (.int .i64), .v (.int .i64), .v .str])], nb := 1 })]
def impl_isStep.j0.F (k : Nat) (x : Prod' impl_isStep.j0.ish.tys) : Option (Outs impl_isStep.j0.outs) := impl_isStep.j0 x.1 x.2.1 x.2.2.1 x.2.2.2.1 x.2.2.2.2.1 x.2.2.2.2.2
def impl_isStep.j0.s (k : Nat) : Summ := { n := 65, ish := impl_isStep.j0.ish, outs := impl_isStep.j0.outs, f := impl_isStep.j0.F k }
theorem impl_isStep.j0.ev (k : Nat) (x : Prod' impl_isStep.j0.ish.tys) : V (impl_isStep.C k) .auto (cL (cR (cR (cB Try.f61)))) (mk impl_isStep.j0.ish 65 x) (fun e st' => rdOut e st' impl_isStep.j0.outs) = impl_isStep.j0.F k x := by kernel_rfl
theorem impl_isStep.j0.ok (k : Nat) : SumOk Try.prog (impl_isStep.C k) (cL (cR (cR (cB Try.f61)))) (impl_isStep.j0.s k) := sum_ok (by kernel_rfl) (sum_code (p := .auto) (impl_isStep.cok k) (by kernel_rfl) (plan_of (L := []) (by kernel_rfl) trivial) (fun x y h => (impl_isStep.j0.ev k x).trans h))
def impl_isStep.j1.ish : Shape := { tmps := [(2, .one (.ptr 0 0)), (7, .one (.v .bool))], slots := [(0, .box 52 [.v (.int .i64), .v (.int .i64), .v (.int .i64), .v .str])], nb := 1 }
def impl_isStep.j1.outs : List (Ex × Shape) := [(.nrm, { tmps := [(7, .one (.v .bool))], slots := [(0, .box 52 [.v (.int .i64), .v (.int .i64), .v (.int .i64), .v .str])], nb := 1 })]
def impl_isStep.j1.F (k : Nat) (x : Prod' impl_isStep.j1.ish.tys) : Option (Outs impl_isStep.j1.outs) := impl_isStep.j1 x.1 x.2.1 x.2.2.1 x.2.2.2.1 x.2.2.2.2
def impl_isStep.j1.s (k : Nat) : Summ := { n := 65, ish := impl_isStep.j1.ish, outs := impl_isStep.j1.outs, f := impl_isStep.j1.F k }
theorem impl_isStep.j1.ev (k : Nat) (x : Prod' impl_isStep.j1.ish.tys) : V (impl_isStep.C k) .auto (cL (cR (cR (cR (cB Try.f61))))) (mk impl_isStep.j1.ish 65 x) (fun e st' => rdOut e st' impl_isStep.j1.outs) = impl_isStep.j1.F k x := by kernel_rfl
theorem impl_isStep.j1.ok (k : Nat) : SumOk Try.prog (impl_isStep.C k) (cL (cR (cR (cR (cB Try.f61))))) (impl_isStep.j1.s k) := sum_ok (by kernel_rfl) (sum_code (p := .auto) (impl_isStep.cok k) (by kernel_rfl) (plan_of (L := []) (by kernel_rfl) trivial) (fun x y h => (impl_isStep.j1.ev k x).trans h))
theorem impl_isStep.ev (k : Nat) (x : Prod' impl_isStep.sig.ins) : impl_isStep.sig.ev (impl_isStep.C k) (.two .auto (.two .auto (.two (.sum (impl_isStep.j0.s k)) (.two (.sum (impl_isStep.j1.s k)) .auto)))) Try.f61.results.toList (cB Try.f61) x = impl_isStep x.1 x.2 := by kernel_rfl
theorem impl_isStep.ok (k : Nat) : ConOk Try.prog 61 (impl_isStep.con k) := sig_ok (p := (.two .auto (.two .auto (.two (.sum (impl_isStep.j0.s k)) (.two (.sum (impl_isStep.j1.s k)) .auto))))) (impl_isStep.cok k) Try.func61 (by kernel_rfl) (show Try.f61.body = some (cB Try.f61) by kernel_rfl) (by kernel_rfl) (by kernel_rfl) (plan_of (L := [(impl_isStep.j0.s k, cL (cR (cR (cB Try.f61)))), (impl_isStep.j1.s k, cL (cR (cR (cR (cB Try.f61)))))]) (by kernel_rfl) ⟨impl_isStep.j0.ok k, impl_isStep.j1.ok k, trivial⟩) (fun x y h => (impl_isStep.ev k x).trans h)
end Go.Proofs.YtaajcllchbnjiaaE
