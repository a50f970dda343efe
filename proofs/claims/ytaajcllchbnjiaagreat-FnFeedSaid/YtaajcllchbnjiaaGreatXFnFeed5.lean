/- What the law FnFeed needs, part 6 of 11: the Lean functions of the Go functions that it reaches, with the proofs that the calls come to what they say, and plain facts about them. Conditions: those that each theorem states. Written by a session and by its programs (after the kit's printer). -/
import Derived.Ground.Names2Prog
import Derived.Shelf.Slices.Delete
import Derived.Shelf.Slices.Cells
import Derived.Shelf.Slices.Empties
import Derived.Test.YtaajcllchbnjiaaGreatProg
import Derived.Test.YtaajcllchbnjiaaGreatXFnFeed4
namespace Go.Proofs.YtaajcllchbnjiaaGreatE
open Go Go.RowKit
set_option linter.unusedVariables false
def valS : DV → Option Value
  | .mk (.int k) n => some (.int k n)
  | .mk .bool b => some (.bool b)
  | .mk .str s => some (.string (ba s))
  | _ => none
def scalar : Ty → Bool
  | .int _ => true
  | .bool => true
  | .str => true
  | _ => false
def scalPs : List PK → Bool
  | [] => true
  | .val false t [.ro] :: ps => scalar t && scalPs ps
  | _ => false
def scalRs : List SK → Bool
  | [] => true
  | .val false [.v t] :: rs => scalar t && scalRs rs
  | _ => false
section
variable {P : Program} {w : World} {F B : Nat → Prop}
theorem enter_of {f : FuncId} {fn : Func} {c : Code} (hf : P.funcs[f]? = some fn) (hname : (fn.name == "runtime.NumGoroutine") = false) (hb : fn.body = some c) : ∀ args w, (callFunc f args).run P w = .ok (.enter f args) w := fun args w => by
  simp [callFunc, hf, hb, by simpa using hname]
theorem unl_scal {t : Ty} (ht : scalar t = true) {x : Leaf} {y : t.T} {v : Value} (h : unlA t [x] = some y) (hx : DLeaf w F B x v) : valS (.mk t y) = some v := by
  have key : ∃ y', unl t [x] = some (y', []) ∧ y' = y := by
    unfold unlA at h
    split at h
    · rename_i z hz; cases h; exact ⟨_, hz, rfl⟩
    · cases h
  obtain ⟨y', hu, rfl⟩ := key
  cases t with
  | int k =>
    replace hu : unlInt k [x] = some (y', []) := hu
    unfold unlInt at hu
    split at hu
    · rename_i k' n xs he
      cases he
      split at hu
      · rename_i hk
        subst hk
        cases hu
        exact congrArg (fun u => some u) (show v = _ from hx).symm
      · cases hu
    · cases hu
  | bool =>
    replace hu : unlBool [x] = some (y', []) := hu
    unfold unlBool at hu
    split at hu
    · rename_i b xs he; cases he; cases hu; exact congrArg (fun u => some u) (show v = _ from hx).symm
    · rename_i b xs he; cases he; cases hu; exact congrArg (fun u => some u) (show v = _ from hx).symm
    · cases hu
  | str =>
    replace hu : unlStr [x] = some (y', []) := hu
    unfold unlStr at hu
    split at hu
    · rename_i s xs he; cases he; cases hu; exact congrArg (fun u => some u) (show v = _ from hx).symm
    · cases hu
  | _ => cases ht
theorem scal_args : ∀ {ps : List PK} {asx : List CArg} {vs : List Value} {L : List GI} {M : List Value} {ds : List DV}, scalPs ps = true → CArgsOk w F B asx vs L M → decArgs ps asx = some ds → L = [] ∧ M = [] ∧ vs = ds.filterMap valS
  | [], [], [], L, M, ds, _, h, hd => by
    obtain ⟨rfl, rfl⟩ := h
    cases hd
    exact ⟨rfl, rfl, rfl⟩
  | p :: ps, a :: asx, v :: vs, L, M, ds, hp, h, hd => by
    obtain ⟨L1, L2, M1, M2, rfl, rfl, h1, h2⟩ := h
    unfold scalPs at hp
    split at hp
    · rename_i he; cases he
    · rename_i t ps' he
      cases he
      obtain ⟨ht, hp⟩ := (Bool.and_eq_true _ _).mp hp
      unfold decArgs at hd
      split at hd
      · rename_i d1 d2 hd1 hd2
        cases hd
        obtain ⟨rfl, rfl, rfl⟩ := scal_args hp h2 hd2
        unfold decArg at hd1
        split at hd1
        · rename_i ag t' ms ag' xs he
          cases he
          cases ag' with
          | true => cases hd1
          | false =>
            obtain ⟨rfl, h1⟩ := h1
            replace hd1 : (match dv t (decCLs [.ro] xs) with
              | some x => some [x]
              | none => none) = some d1 := hd1
            split at hd1
            · rename_i d hdv
              cases hd1
              unfold dv at hdv
              split at hdv
              · rename_i ys hys
                split at hdv
                · rename_i y hy
                  cases hdv
                  match xs, hys, h1 with
                  | [], hys, h1 => cases hys
                  | [.leaf z], hys, h1 =>
                    obtain ⟨h1, rfl⟩ := h1
                    have hz : ∃ z', ys = [z'] ∧ (z' = z ∨ ∃ r l, z = .bor r l ∧ z' = .list r l) := by
                      cases z <;> cases hys <;> first | exact ⟨_, rfl, .inl rfl⟩ | exact ⟨_, rfl, .inr ⟨_, _, rfl, rfl⟩⟩
                    obtain ⟨z', rfl, hz⟩ := hz
                    have hv : valS (.mk t y) = some v := by
                      rcases hz with rfl | ⟨r, l, rfl, rfl⟩
                      · exact unl_scal ht hy h1
                      · cases t <;> first | (cases ht; done) | cases hy
                    refine ⟨rfl, rfl, ?_⟩
                    show v :: _ = (DV.mk t y :: d2).filterMap valS
                    rw [List.filterMap_cons_some hv]
                  | [.row e r l], hys, h1 => cases hys
                  | [.nil], hys, h1 => cases hys
                  | _ :: _ :: _, hys, h1 => exact (by
                      unfold decCLs at hys
                      split at hys
                      · rename_i h5; cases h5
                      · cases hys)
                · cases hdv
              · cases hdv
            · cases hd1
        · rename_i he; cases he
        · rename_i he; cases he
        · rename_i he; cases he
        · rename_i he; cases he
        · cases hd1
      · cases hd
    · cases hp
  | [], _ :: _, _, _, _, _, _, _, hd => by cases hd
  | _ :: _, [], _, _, _, _, _, _, hd => by cases hd
  | [], [], _ :: _, _, _, _, _, h, _ => h.elim
  | _ :: _, _ :: _, [], _, _, _, _, h, _ => h.elim
theorem scal_back : ∀ {ps : List PK} (ds : List DV), scalPs ps = true → encBacks ps ds = []
  | [], _, _ => rfl
  | p :: ps, ds, hp => by
    unfold scalPs at hp
    split at hp
    · rename_i he; cases he
    · rename_i t ps' he
      cases he
      obtain ⟨ht, hp⟩ := (Bool.and_eq_true _ _).mp hp
      have e : rowKs (leafTys t) [.ro] = [] := by cases t <;> first | rfl | cases ht
      show (encRows (rowKs (leafTys t) [.ro]) ds).1 ++ encBacks ps _ = []
      rw [e]
      exact scal_back _ hp
    · cases hp
theorem valS_leaf {t : Ty} {y : t.T} {v : Value} (h : valS (.mk t y) = some v) : ∃ x, leaves t y = [x] ∧ DLeaf w F (fun _ => False) x v := by
  cases t with
  | int k => cases h; exact ⟨_, rfl, rfl⟩
  | bool => cases h; exact ⟨_, rfl, rfl⟩
  | str => cases h; exact ⟨_, rfl, rfl⟩
  | _ => cases h
theorem scal_res : ∀ {rs : List SK} {ds : List DV} {us : List Value}, scalRs rs = true → ds.map valS = us.map some → ds.length = rs.length → RComps w F (encRes rs ds).1 us []
  | [], [], [], _, _, _ => rfl
  | r :: rs, d :: ds, u :: us, hr, h, hl => by
    unfold scalRs at hr
    split at hr
    · rename_i he; cases he
    · rename_i t rs' he
      cases he
      obtain ⟨ht, hr⟩ := (Bool.and_eq_true _ _).mp hr
      obtain ⟨h1, h2⟩ : valS d = some u ∧ ds.map valS = us.map some := by
        simpa using h
      obtain ⟨t', y⟩ := d
      obtain ⟨x, e, hx⟩ := valS_leaf (w := w) (F := F) h1
      refine ⟨[], [], rfl, ?_, show RComps w F (encRes rs ds).1 us [] from scal_res hr h2 (by simpa using hl)⟩
      show RLsOk w F ((leaves t' y).map .leaf ++ []) [u] []
      rw [e]
      exact ⟨hx, rfl⟩
    · cases hr
  | [], _ :: _, _, _, _, hl => by cases hl
  | _ :: _, [], _, _, _, hl => by cases hl
  | [], [], _ :: _, _, h, _ => by cases h
  | _ :: _, _ :: _, [], _, h, _ => by cases h
/-- A function of scalars: its contract. -/
theorem hand_scal {f : FuncId} {s : Sig} {G : Prod' s.ins → Option (Prod' s.outs)} (henter : ∀ args w, (callFunc f args).run P w = .ok (.enter f args) w) (hps : scalPs s.ps = true) (hrs : scalRs s.rs = true)
    (hc : ∀ (x : Prod' s.ins) (y : Prod' s.outs) (w : World), G x = some y → Calls P f ((ofProd s.ins x).filterMap valS).toArray w fun e w' => ∃ us, e = .returned (tupOf us) ∧ (ofProd s.outs y).map valS = us.map some ∧ (ofProd s.outs y).length = s.rs.length ∧ Below w.heap.size w w') : ConOk P f (s.con G) := by
  refine ⟨henter, ?_⟩
  intro asx rr hrr w vs F0 L N hF0 hG hargs
  replace hrr : (s.run G asx).val = some rr := hrr
  unfold Sig.run at hrr
  split at hrr
  · rename_i ds hds
    split at hrr
    · rename_i x hx
      cases hFx : G x with
      | none => simp [CR.val, hFx] at hrr
      | some y =>
        have hrr : s.enc y = rr := by simpa [CR.val, hFx] using hrr
        subst hrr
        obtain ⟨rfl, rfl, rfl⟩ := scal_args hps hargs hds
        have hofx : ofProd s.ins x = ds := of_toProd hx
        have := hc x y w hFx
        rw [hofx] at this
        refine this.mono ?_
        rintro e w' ⟨us, rfl, hus, hlen, bel⟩
        refine ⟨_, rfl, ⟨bel.os, bel.tape, bel.output, bel.size, fun b hb _ => bel.block b hb⟩, [], [], (fun c hc => nomatch hc), List.nodup_nil, ?_, ?_⟩
        · show RRefs w' _ [] (encBacks s.ps (encRes s.rs (ofProd s.outs y)).2) []
          rw [scal_back _ hps]
          rfl
        · exact comps_ret (scal_res hrs hus hlen)
    · cases hrr
  · cases hrr
end
end Go.Proofs.YtaajcllchbnjiaaGreatE

namespace Go.Proofs.YtaajcllchbnjiaaGreatE
open Go Go.RowKit
set_option linter.unusedVariables false
section
variable {P : Program} {X : Nat → Prop} {ρ ρ' : Rho} {st st' : St} {a : Act} {w w' : World} {C : Ctx}
theorem sums_auto : ∀ c : Code, sumsOf .auto c = []
  | .seq a b => by
    show sumsOf .auto a ++ sumsOf .auto b = []
    rw [sums_auto a, sums_auto b]; rfl
  | .cond _ a b => by
    show sumsOf .auto a ++ sumsOf .auto b = []
    rw [sums_auto a, sums_auto b]; rfl
  | .block _ a => sums_auto a
  | .skip => rfl
  | .region _ _ _ => rfl
  | .exit _ => rfl
  | .ret => rfl
  | .loop _ => rfl
  | .rangeFunc _ _ _ _ => rfl
  | .scope _ => rfl
  | .label _ => rfl
  | .goto _ => rfl
  | .refuse _ => rfl
theorem plan_auto_ok (c : Code) : PlanOk P C .auto c := plan_of (sums_auto c) trivial
theorem run_eq_nil {t e : TypeId} (hu : P.underlying t = some (.slice e)) (A : Option Addr) (n c : Nat) : (Go.binOp .eql t (.slice A n c) (.slice none 0 0)).run P w = .ok (.bool A.isNone) w := by
  have h : (Op.equalIn (9999 + 1) t (.slice A n c) (.slice none 0 0)).run P w = .ok A.isNone w := by
    unfold Op.equalIn
    simp only [Sem.run_bind, run_underlying hu, Result.andThen_ok]
    cases A <;> rfl
  show ((Op.equalIn (9999 + 1) t (.slice A n c) (.slice none 0 0)) >>= fun b => pure (Value.bool b)).run P w = _
  simp only [Sem.run_bind, h, Result.andThen_ok, Sem.run_pure]
/-- Clone of a slice: of nil, nil; else a new row. -/
theorem clone_wp {f : FuncId} {fn : Func} {A N Z : Code} {o1 o2 : Oper} {i1 : Nat} {t e u : TypeId} {s : Sig} {G : Prod' s.ins → Option (Prod' s.outs)} (H : CtxOk P C) (hf : P.funcs[f]? = some fn) (hname : (fn.name == "runtime.NumGoroutine") = false)
    (hb : fn.body = some (.seq A (.seq (.seq (.region i1 #[o1, o2] false) (.cond (.tmp 4) N .skip)) Z))) (hn : fn.ntmps = s.ntmps) (hps : Nat.ble s.ps.length s.ntmps = true) (hlt : Nat.blt 4 s.ntmps = true)
    (g1 : o1.guard = none) (p1 : o1.op = .move (.tmp 0)) (d1 : o1.dst = some 3) (g2 : o2.guard = none) (p2 : o2.op = .binOp .eql t (.tmp 3) (.const (.slice none 0 0)) u) (d2 : o2.dst = some 4)
    (hu : P.underlying t = some (.slice e)) (hd : (dsts A).any (Nat.beq 0) = false)
    (hsl : ∀ x, ∃ (r : Ty) (l : List r.T), ((s.start x).tmps.headD .unk = .one (.bor r l) ∨ (s.start x).tmps.headD .unk = .one (.list r l)))
    (hno : ∀ x y, G x = some y → V C .auto A (s.start x) (fun e st => match e with
      | .nrm => V C .auto Z ((st.setT 3 .unk).setT 4 (.one (.kb false))) (s.done C.ti fn.results.toList)
      | _ => none) = some y)
    (hyes : ∀ x y, G x = some y → (∀ (r : Ty) (l : List r.T), ((s.start x).tmps.headD .unk = .one (.bor r l) ∨ (s.start x).tmps.headD .unk = .one (.list r l)) → l = []) → V C .auto A (s.start x) (fun e st => match e with
      | .nrm => V C .auto N ((st.setT 3 .unk).setT 4 (.one (.kb true))) (fun e st => match e with
        | .ret => s.done C.ti fn.results.toList .ret st
        | _ => none)
      | _ => none) = some y) : ConOk P f (s.con G) := by
  refine sig_wp H.ti hf hname hb hn hps fun x y hx X ρ a w hrel => ?_
  have h4 : 4 < s.ntmps := Nat.le_of_ble_eq_true hlt
  have hsn : (s.start x).n = s.ntmps := rfl
  have hslice : ∃ B n c, tmOf a 0 = .slice B n c ∧ (B = none → ∀ (r : Ty) (l : List r.T), ((s.start x).tmps.headD .unk = .one (.bor r l) ∨ (s.start x).tmps.headD .unk = .one (.list r l)) → l = []) := by
    have h0 := hrel.tmps 0
    have e0 : getL .unk (s.start x).tmps 0 = (s.start x).tmps.headD .unk := by cases (s.start x).tmps <;> rfl
    rw [e0] at h0
    obtain ⟨r, l, hl⟩ := hsl x
    have key : ∀ (r : Ty) (l : List r.T), ((s.start x).tmps.headD .unk = .one (.bor r l) ∨ (s.start x).tmps.headD .unk = .one (.list r l)) → ∃ B c, tmOf a 0 = .slice B l.length c ∧ (B = none → l = []) := by
      intro r l hl
      rcases hl with hl | hl
      · rw [hl] at h0
        obtain ⟨B, c, hv, _, h1⟩ := h0
        refine ⟨B, c, List.singleton_inj.1 hv, fun hB => ?_⟩
        rcases h1 with h1 | ⟨_, _, h1, _⟩
        · exact h1
        · rw [hB] at h1; cases h1
      · rw [hl] at h0
        obtain ⟨B, c, hv, _, h1⟩ := h0
        refine ⟨B, c, List.singleton_inj.1 hv, fun hB => ?_⟩
        rcases h1 with h1 | ⟨_, _, h1, _⟩
        · exact h1
        · rw [hB] at h1; cases h1
    obtain ⟨B, c, hv, _⟩ := key r l hl
    refine ⟨B, l.length, c, hv, fun hB r' l' hl' => ?_⟩
    obtain ⟨B', c', hv', h'⟩ := key r' l' hl'
    have e := hv.symm.trans hv'
    injection e with e1 e2 e3
    exact h' (e1 ▸ hB)
  obtain ⟨B, n, c, hv, hnil⟩ := hslice
  intro Q hq
  -- the region of the test, whatever comes behind
  have test : ∀ {ρ1 : Rho} {st1 : St} {a1 : Act} {w1 : World} (Q2 : Exit → Act → World → Prop), Rel X ρ1 st1 a1 w1 → st1.n = s.ntmps → tmOf a1 0 = .slice B n c →
      (∀ a2, Rel X ρ1 ((st1.setT 3 .unk).setT 4 (.one (.kb B.isNone))) a2 w1 → a2.eval (.tmp 4) = .bool B.isNone → SameBut [3, 4] a1 a2 → Q2 .normal a2 w1) → (Code.region i1 #[o1, o2] false).wp P Q2 a1 w1 := by
    intro ρ1 st1 a1 w1 Q2 h1 hn1 hv1 hk
    refine wp_region_list ?_
    show wpList P #[o1, o2] Q2 [o1, o2] a1 w1
    unfold wpList
    rw [if_pos (by simp [Region.wanted, g1])]
    have hx1 : (execOp a1.eval o1).run P w1 = .ok (.value (.slice B n c)) w1 := by
      unfold execOp
      rw [p1]
      have : a1.eval (.tmp 0) = .slice B n c := hv1
      simp [this]
    have hs3 : 3 < a1.tmps.size := by rw [h1.size, hn1]; omega
    have r2 : Rel X ρ1 (st1.setT 3 .unk) (actPut a1 3 (.slice B n c)) w1 := h1.setT (by rw [hn1]; omega) trivial
    have hs4 : 4 < (actPut a1 3 (.slice B n c)).tmps.size := by rw [r2.size]; show 4 < st1.n; rw [hn1]; exact h4
    refine .inl ?_
    unfold Oper.wp
    rw [hx1]
    show wpList P #[o1, o2] Q2 [o2] (a1.put o1.dst (.slice B n c)) w1
    rw [d1]
    show wpList P #[o1, o2] Q2 [o2] (actPut a1 3 (.slice B n c)) w1
    unfold wpList
    rw [if_pos (by simp [Region.wanted, g2])]
    have hx2 : (execOp (actPut a1 3 (.slice B n c)).eval o2).run P w1 = .ok (.value (.bool B.isNone)) w1 := by
      unfold execOp
      rw [p2]
      have e3 : (actPut a1 3 (.slice B n c)).eval (.tmp 3) = .slice B n c := (tmOf_put a1 3 (.slice B n c) hs3 3).trans (if_pos rfl)
      have e5 : (actPut a1 3 (.slice B n c)).eval (.const (.slice none 0 0)) = .slice none 0 0 := rfl
      simp [e3, e5, run_eq_nil hu, Go.eqGuard]
    refine .inl ?_
    unfold Oper.wp
    rw [hx2]
    show wpList P #[o1, o2] Q2 [] ((actPut a1 3 (.slice B n c)).put o2.dst (.bool B.isNone)) w1
    rw [d2]
    refine hk (actPut (actPut a1 3 (.slice B n c)) 4 (.bool B.isNone)) (r2.setT (by show 4 < st1.n; rw [hn1]; exact h4) rfl) ((tmOf_put _ 4 _ hs4 4).trans (if_pos rfl)) fun i hi => ?_
    rw [tmOf_put _ 4 _ hs4 i, if_neg (fun q => hi (by rw [q]; simp)), tmOf_put a1 3 _ hs3 i, if_neg (fun q => hi (by rw [q]; simp))]
  have h0A : (0 : Nat) ∉ dsts A := fun hm => by
    have : (dsts A).any (Nat.beq 0) = true := List.any_eq_true.2 ⟨0, hm, rfl⟩
    rw [hd] at this; cases this
  have hdR : dsts (.region i1 #[o1, o2] false) = [3, 4] := by
    show [o1, o2].filterMap (·.dst) = _
    simp [d1, d2]
  have subA : ∀ i, i ∈ dsts A → i ∈ dsts (.seq A (.seq (.seq (.region i1 #[o1, o2] false) (.cond (.tmp 4) N .skip)) Z)) := fun i hi => List.mem_append_left _ hi
  have subR : ∀ i, i ∈ ([3, 4] : List Nat) → i ∈ dsts (.seq A (.seq (.seq (.region i1 #[o1, o2] false) (.cond (.tmp 4) N .skip)) Z)) := fun i hi => List.mem_append_right _ (List.mem_append_left _ (List.mem_append_left _ (by rw [hdR]; exact hi)))
  have subN : ∀ i, i ∈ dsts N → i ∈ dsts (.seq A (.seq (.seq (.region i1 #[o1, o2] false) (.cond (.tmp 4) N .skip)) Z)) := fun i hi => List.mem_append_right _ (List.mem_append_left _ (List.mem_append_right _ (List.mem_append_left _ hi)))
  have subZ : ∀ i, i ∈ dsts Z → i ∈ dsts (.seq A (.seq (.seq (.region i1 #[o1, o2] false) (.cond (.tmp 4) N .skip)) Z)) := fun i hi => List.mem_append_right _ (List.mem_append_right _ hi)
  cases hB : B with
  | none =>
    refine wp_seq (V_sound H A (plan_auto_ok A) hrel (hyes x y hx (hnil hB)) _ ?_)
    intro e1 ρ1 st1 a1 w1 k1 k2 k3 k4 k5
    cases e1 with
    | exit _ => cases k1
    | ret => cases k1
    | nrm =>
      refine wp_seq (wp_seq (test _ k2 (k4.trans hsn) ((k5 0 h0A).trans hv) ?_))
      intro a2 r3 e4 sb
      rw [hB] at r3 e4
      refine wp_cond_true e4 (V_sound H N (plan_auto_ok N) r3 k1 _ ?_)
      intro e2 ρ2 st2 a3 w2 m1 m2 m3 m4 m5
      cases e2 with
      | nrm => cases m1
      | exit _ => cases m1
      | ret => exact hq .ret ρ2 st2 a3 w2 m1 m2 (k3.trans m3) (m4.trans k4) ((k5.mono subA).trans ((SameBut.mono sb subR).trans (m5.mono subN)))
  | some b =>
    refine wp_seq (V_sound H A (plan_auto_ok A) hrel (hno x y hx) _ ?_)
    intro e1 ρ1 st1 a1 w1 k1 k2 k3 k4 k5
    cases e1 with
    | exit _ => cases k1
    | ret => cases k1
    | nrm =>
      refine wp_seq (wp_seq (test _ k2 (k4.trans hsn) ((k5 0 h0A).trans hv) ?_))
      intro a2 r3 e4 sb
      rw [hB] at r3 e4
      refine wp_cond_false e4 (wp_skip ?_)
      refine V_sound H Z (plan_auto_ok Z) r3 k1 Q ?_
      intro e2 ρ2 st2 a3 w2 m1 m2 m3 m4 m5
      exact hq e2 ρ2 st2 a3 w2 m1 m2 (k3.trans m3) (m4.trans k4) ((k5.mono subA).trans ((SameBut.mono sb subR).trans (m5.mono subZ)))
end
end Go.Proofs.YtaajcllchbnjiaaGreatE

section
namespace Go.Proofs
open Go.Shelf
def Tryz.laysNm223_ren : Go.Shelf.Ren := ⟨fun | 23 => 60 | n => n, fun | 22 => 88 | 3 => 3 | 4 => 4 | 0 => 0 | n => n, fun | n => n⟩
theorem Tryz.laysNm223 : Go.Proofs.Lays2.n23 Tryz.prog Tryz.laysNm223_ren := {
  mixed := by kernel_rfl
  f23 := Tryz.func60.trans (congrArg some (by kernel_rfl))
  t0 := Tryz.underlying0
  a0 := Tryz.isAgg0
  z0 := Tryz.sizeOf0
  v0 := Tryz.zeroValue0
  t3 := Tryz.underlying3
  a3 := Tryz.isAgg3
  z3 := Tryz.sizeOf3
  v3 := Tryz.zeroValue3
  t4 := Tryz.underlying4
  a4 := Tryz.isAgg4
  z4 := Tryz.sizeOf4
  v4 := Tryz.zeroValue4
  t22 := Tryz.underlying88
  a22 := Tryz.isAgg88
  z22 := Tryz.sizeOf88
  v22 := Tryz.zeroValue88
  i3 := by kernel_rfl }
open Go.RowKit Go.Lib Go.Sort in
theorem Tryz.slices_Delete_int_arr (blk off cap i j : Nat) (d : Array Int) (w : World) (hH : Holds encI w blk off d) (hcap : d.size ≤ cap) (hm : cap ≤ 9223372036854775807) (hij : i ≤ j) (hj : j ≤ d.size) :
    Calls Tryz.prog 60 #[.slice (some ⟨blk, off, none⟩) d.size cap, .int .i64 i, .int .i64 j] w fun e w' => e = .returned (.slice (some ⟨blk, off, none⟩) (d.size - (j - i)) cap) ∧ ∃ q, w' = putRow encI (Sort.ahead w q) blk off (d.toList.take i ++ d.toList.drop j ++ List.replicate (j - i) 0).toArray := Any.slices_Delete_int_arr Tryz.laysNm223 blk off cap i j d w hH hcap hm hij hj
open Go.RowKit Go.Lib Go.Sort in
theorem Tryz.slices_Delete_int (blk off cap i j : Nat) (zs : List Int) (w : World) (hH : Holds (Value.int .i64) w blk off zs.toArray) (hcap : zs.length ≤ cap) (hm : cap ≤ 9223372036854775807) (hij : i ≤ j) (hj : j ≤ zs.length) :
    Calls Tryz.prog 60 #[.slice (some ⟨blk, off, none⟩) zs.length cap, .int .i64 i, .int .i64 j] w fun e w' => e = .returned (.slice (some ⟨blk, off, none⟩) (zs.length - (j - i)) cap) ∧ ∃ q, w' = putRow (Value.int .i64) (Sort.ahead w q) blk off (zs.take i ++ zs.drop j ++ List.replicate (j - i) 0).toArray := Any.slices_Delete_int Tryz.laysNm223 blk off cap i j zs w hH hcap hm hij hj
open Go.RowKit Go.Lib Go.Sort in
theorem Tryz.slices_Delete_int_cells (b off n c i j : Nat) (zs : List Int) (w : World) (hz : n ≤ zs.length) (hcap : n ≤ c) (hm : c ≤ 9223372036854775807) (hij : i ≤ j) (hj : j ≤ n) (hc : ∀ j, j < zs.length → w.cell? ⟨b, off + j, none⟩ = some (.int .i64 (zs.getD j 0))) (hf : ∀ j, j < n → w.frozen? ⟨b, off + j, none⟩ = false) :
    Calls Tryz.prog 60 #[.slice (some ⟨b, off, none⟩) n c, .int .i64 i, .int .i64 j] w fun e w' => e = .returned (.slice (some ⟨b, off, none⟩) (n - (j - i)) c) ∧ ∃ q, w' = (w.drewN q).setCells b off (((zs.take n).take i ++ (zs.take n).drop j ++ List.replicate (j - i) 0).map (Value.int .i64)) := Any.slices_Delete_int_cells Tryz.laysNm223 b off n c i j zs w hz hcap hm hij hj hc hf
open Go.RowKit Go.Lib in
theorem Tryz.slices_Delete_int_empty (a : Option Addr) (c : Nat) (w : World) :
    Calls Tryz.prog 60 #[.slice a 0 c, .int .i64 0, .int .i64 0] w fun e w' => e = .returned (.slice a 0 c) ∧ w' = w := Any.slices_Delete_int_empty Tryz.laysNm223 a c w
end Go.Proofs
end

namespace Go.Proofs.YtaajcllchbnjiaaGreatE
open Go Go.RowKit
set_option linter.unusedVariables false
abbrev T78 : Ty := (.pair .str (.pair (.int .i64) .bool))
abbrev G78 := Str × Int × Bool
abbrev T66 : Ty := (.pair .str (.pair (.int .i64) (.int .i64)))
abbrev G66 := Str × Int × Int
abbrev T112 : Ty := (.pair (.int .i64) (.pair (.int .i64) (.int .i64)))
abbrev G112 := Int × Int × Int
abbrev T29 : Ty := (.pair (.int .i64) (.pair (.int .i64) (.pair (.int .i64) .str)))
abbrev G29 := Int × Int × Int × Str
abbrev T86 : Ty := (.pair (.int .i64) T112)
abbrev G86 := Int × G112
abbrev T101 : Ty := (.pair (.sl (.int .u8)) (.pair (.int .i64) (.pair (.int .u64) (.int .i64))))
abbrev G101 := List Int × Int × Int × Int
abbrev T44 : Ty := (.pair T29 (.int .i64))
abbrev G44 := G29 × Int
abbrev T106 : Ty := (.pair (.sl T86) (.int .i64))
abbrev G106 := List G86 × Int
abbrev T31 : Ty := (.pair T29 (.pair (.int .i64) .str))
abbrev G31 := G29 × Int × Str
abbrev T25 : Ty := (.pair (.int .i64) (.pair .str (.sl T29)))
abbrev G25 := Int × Str × List G29
abbrev T125 : Ty := (.pair T25 (.int .i64))
abbrev G125 := G25 × Int
abbrev T51 : Ty := (.pair (.int .i64) (.pair (.int .i64) (.pair (.int .i64) (.pair .str T29))))
abbrev G51 := Int × Int × Int × Str × G29
abbrev T40 : Ty := (.pair T31 (.pair (.sl T51) (.int .i64)))
abbrev G40 := G31 × List G51 × Int
def TAB : Tab TI := (.node (.node (.node (.node (.node (.node .nil (some { sz := 6, agg := true, offs := [(0, 29), (4, 2), (5, 9)], elem := 0, kind := 4, ik := .i64, bytes := 64, zero := [.int .i64 0, .int .i64 0, .int .i64 0, .str [], .int .i64 0, .str []], ty := T31, eqs := true }) .nil) none .nil) none (.node (.node .nil none (.node .nil (some { sz := 1, agg := false, offs := [], elem := 2, kind := 3, ik := .i64, bytes := 24, zero := [.nil], ty := (.sl (.int .i64)), eqs := false }) .nil)) (some { sz := 1, agg := false, offs := [], elem := 49, kind := 3, ik := .i64, bytes := 24, zero := [.nil], ty := (.sl T29), eqs := false }) (.node .nil (some { sz := 1, agg := false, offs := [], elem := 86, kind := 3, ik := .i64, bytes := 24, zero := [.nil], ty := (.sl T86), eqs := false }) .nil))) (some { sz := 1, agg := false, offs := [], elem := 0, kind := 1, ik := .i64, bytes := 8, zero := [.int .i64 0], ty := (.int .i64), eqs := false }) (.node (.node (.node .nil none (.node .nil (some { sz := 1, agg := false, offs := [], elem := 0, kind := 1, ik := .u64, bytes := 8, zero := [.int .u64 0], ty := (.int .u64), eqs := false }) .nil)) none (.node .nil (some { sz := 8, agg := true, offs := [(0, 2), (1, 2), (2, 2), (3, 9), (4, 49)], elem := 0, kind := 4, ik := .i64, bytes := 80, zero := [.int .i64 0, .int .i64 0, .int .i64 0, .str [], .int .i64 0, .int .i64 0, .int .i64 0, .str []], ty := T51, eqs := true }) (.node .nil (some { sz := 5, agg := true, offs := [(0, 49), (4, 2)], elem := 0, kind := 4, ik := .i64, bytes := 48, zero := [.int .i64 0, .int .i64 0, .int .i64 0, .str [], .int .i64 0], ty := T44, eqs := true }) .nil))) none .nil)) none (.node (.node (.node .nil none (.node (.node (.node .nil (some { sz := 1, agg := false, offs := [], elem := 4, kind := 3, ik := .i64, bytes := 24, zero := [.nil], ty := (.sl .bool), eqs := false }) .nil) (some { sz := 1, agg := false, offs := [], elem := 9, kind := 3, ik := .i64, bytes := 24, zero := [.nil], ty := (.sl .str), eqs := false }) .nil) (some { sz := 4, agg := true, offs := [(0, 2), (1, 2), (2, 2), (3, 9)], elem := 0, kind := 4, ik := .i64, bytes := 40, zero := [.int .i64 0, .int .i64 0, .int .i64 0, .str []], ty := T29, eqs := true }) .nil)) (some { sz := 1, agg := false, offs := [], elem := 0, kind := 2, ik := .i64, bytes := 16, zero := [.str []], ty := .str, eqs := false }) (.node .nil (some { sz := 3, agg := true, offs := [(0, 2), (1, 9), (2, 23)], elem := 0, kind := 4, ik := .i64, bytes := 48, zero := [.int .i64 0, .str [], .nil], ty := T25, eqs := false }) (.node (.node .nil (some { sz := 1, agg := false, offs := [], elem := 1000089, kind := 6, ik := .i64, bytes := 8, zero := [.unk], ty := (.sl (.int .i64)), eqs := false }) .nil) none .nil))) (some { sz := 1, agg := false, offs := [], elem := 0, kind := 1, ik := .u8, bytes := 1, zero := [.int .u8 0], ty := (.int .u8), eqs := false }) (.node (.node (.node .nil none (.node .nil (some { sz := 4, agg := true, offs := [(0, 22), (1, 3), (2, 99), (3, 2)], elem := 0, kind := 4, ik := .i64, bytes := 48, zero := [.nil, .int .i64 0, .int .u64 0, .int .i64 0], ty := T101, eqs := false }) .nil)) none .nil) none (.node .nil (some { sz := 4, agg := true, offs := [(0, 2), (1, 2), (2, 2), (3, 9)], elem := 0, kind := 4, ik := .i64, bytes := 40, zero := [.int .i64 0, .int .i64 0, .int .i64 0, .str []], ty := T29, eqs := true }) (.node .nil none (.node .nil (some { sz := 4, agg := true, offs := [(0, 25), (3, 2)], elem := 0, kind := 4, ik := .i64, bytes := 56, zero := [.int .i64 0, .str [], .nil, .int .i64 0], ty := T125, eqs := false }) .nil)))))) none (.node (.node (.node (.node (.node .nil none (.node .nil (some { sz := 1, agg := false, offs := [], elem := 0, kind := 1, ik := .u32, bytes := 4, zero := [.int .u32 0], ty := (.int .u32), eqs := false }) .nil)) none (.node .nil none (.node .nil (some { sz := 3, agg := true, offs := [(0, 2), (1, 2), (2, 2)], elem := 0, kind := 4, ik := .i64, bytes := 24, zero := [.int .i64 0, .int .i64 0, .int .i64 0], ty := T112, eqs := true }) .nil))) none (.node (.node .nil (some { sz := 8, agg := true, offs := [(0, 31), (6, 38), (7, 2)], elem := 0, kind := 4, ik := .i64, bytes := 96, zero := [.int .i64 0, .int .i64 0, .int .i64 0, .str [], .int .i64 0, .str [], .nil, .int .i64 0], ty := T40, eqs := false }) .nil) none (.node (.node .nil (some { sz := 1, agg := false, offs := [], elem := 3, kind := 3, ik := .i64, bytes := 24, zero := [.nil], ty := (.sl (.int .i64)), eqs := false }) .nil) none .nil))) (some { sz := 1, agg := false, offs := [], elem := 0, kind := 5, ik := .i64, bytes := 1, zero := [.kb false], ty := .bool, eqs := false }) (.node .nil none (.node (.node .nil (some { sz := 5, agg := true, offs := [(0, 29), (4, 2)], elem := 0, kind := 4, ik := .i64, bytes := 48, zero := [.int .i64 0, .int .i64 0, .int .i64 0, .str [], .int .i64 0], ty := T44, eqs := true }) .nil) none .nil))) (some { sz := 1, agg := false, offs := [], elem := 0, kind := 1, ik := .i64, bytes := 8, zero := [.int .i64 0], ty := (.int .i64), eqs := false }) (.node (.node (.node (.node (.node .nil (some { sz := 3, agg := true, offs := [(0, 9), (1, 2), (2, 2)], elem := 0, kind := 4, ik := .i64, bytes := 32, zero := [.str [], .int .i64 0, .int .i64 0], ty := T66, eqs := true }) .nil) none (.node .nil (some { sz := 1, agg := false, offs := [], elem := 0, kind := 1, ik := .u64, bytes := 8, zero := [.int .u64 0], ty := (.int .u64), eqs := false }) .nil)) none .nil) none (.node (.node .nil none (.node .nil (some { sz := 2, agg := true, offs := [(0, 55), (1, 2)], elem := 0, kind := 4, ik := .i64, bytes := 32, zero := [.nil, .int .i64 0], ty := T106, eqs := false }) .nil)) none (.node (.node (.node .nil (some { sz := 1, agg := false, offs := [], elem := 96, kind := 3, ik := .i64, bytes := 24, zero := [.nil], ty := (.sl (.int .u32)), eqs := false }) .nil) none .nil) none (.node .nil (some { sz := 3, agg := true, offs := [(0, 9), (1, 2), (2, 4)], elem := 0, kind := 4, ik := .i64, bytes := 32, zero := [.str [], .int .i64 0, .kb false], ty := T78, eqs := true }) .nil)))) none (.node (.node (.node .nil (some { sz := 1, agg := false, offs := [], elem := 51, kind := 3, ik := .i64, bytes := 24, zero := [.nil], ty := (.sl T51), eqs := false }) .nil) (some { sz := 1, agg := false, offs := [], elem := 5, kind := 3, ik := .i64, bytes := 24, zero := [.nil], ty := (.sl (.int .u8)), eqs := false }) (.node (.node .nil (some { sz := 4, agg := true, offs := [(0, 2), (1, 2), (2, 2), (3, 2)], elem := 0, kind := 4, ik := .i64, bytes := 32, zero := [.int .i64 0, .int .i64 0, .int .i64 0, .int .i64 0], ty := T86, eqs := true }) .nil) none .nil)) none (.node (.node (.node .nil (some { sz := 3, agg := true, offs := [(0, 9), (1, 2), (2, 4)], elem := 0, kind := 4, ik := .i64, bytes := 32, zero := [.str [], .int .i64 0, .kb false], ty := T78, eqs := true }) .nil) none .nil) none .nil)))))
theorem TABok : TiOk Tryz.prog TAB ∧ Tryz.prog.follows .mixedOrders = true := ⟨ti_ok (by kernel_rfl), by kernel_rfl⟩
end Go.Proofs.YtaajcllchbnjiaaGreatE

namespace Go.Proofs.YtaajcllchbnjiaaGreatE
open Go Go.RowKit
set_option linter.unusedVariables false
def spec_l01Source.l0 : Nat → List Int → Int → List Int → Int → Int → Int → Option ((List Int × Int × Int × Int))
  | 0, _, _, _, _, _, _ => none
  | j + 1, a1, a2, a3, a4, a5, a6 =>
    bif (decide (a2 < ((a1.length) : Int))) && (decide (a2 < 64)) then
      Option.bind (at? a1 a2) fun v7 =>
      spec_l01Source.l0 j a1 (IntKind.wrap .i64 (a2 + 1)) a3 a4 (IntKind.wrap .u64 ((intBits .xor .u64 a5 (IntKind.wrap .u64 v7)) * 1099511628211)) a6
    else
    some (a3, a4, a5, a6)
def spec_l01Source (k : Nat) (a1 : List Int) : Option (List Int × Int × Int × Int) :=
  Option.bind (spec_l01Source.l0 k a1 0 a1 0 88172645463325252 0) fun y2 =>
  Option.bind (nz? 20) fun v3 =>
  let e4 := IntKind.wrap .i64 (Int.tdiv ((a1.length) : Int) 20)
  bif decide (12 < e4) then
    some (y2.1, y2.2.1, y2.2.2.1, 12)
  else
  some (y2.1, y2.2.1, y2.2.2.1, e4)
def spec_l01Source.sig : Sig := { ps := [.val false (.sl (.int .u8)) (kept (.sl (.int .u8)))], rs := [.box 101 [.v (.sl (.int .u8)), .v (.int .i64), .v (.int .u64), .v (.int .i64)]], ntmps := 47 }
def spec_l01Source.con (k : Nat) : Con := spec_l01Source.sig.con (fun x => spec_l01Source k x)
def spec_l01Source.C (k : Nat) : Ctx := { ti := TAB, con := conL [] }
theorem spec_l01Source.cok (k : Nat) : CtxOk Tryz.prog (spec_l01Source.C k) := ctx_ok TABok trivial
def spec_l01Source.l0.ish : Shape := { tmps := [(0, .one (.v (.sl (.int .u8)))), (3, .one (.ptr 0 0)), (4, .one (.v (.int .i64)))], slots := [(0, .box 101 [.v (.sl (.int .u8)), .v (.int .i64), .v (.int .u64), .v (.int .i64)])], nb := 1 }
def spec_l01Source.l0.outs : List (Ex × Shape) := [(.exit 0, { tmps := [], slots := [(0, .box 101 [.v (.sl (.int .u8)), .v (.int .i64), .v (.int .u64), .v (.int .i64)])], nb := 1 })]
def spec_l01Source.l0.F (k j : Nat) (x : Prod' spec_l01Source.l0.ish.tys) : Option (Outs spec_l01Source.l0.outs) := spec_l01Source.l0 j x.1 x.2.1 x.2.2.1 x.2.2.2.1 x.2.2.2.2.1 x.2.2.2.2.2
def spec_l01Source.l0.s (k : Nat) : Summ := { n := 47, ish := spec_l01Source.l0.ish, outs := spec_l01Source.l0.outs, f := spec_l01Source.l0.F k k }
theorem spec_l01Source.l0.ev (k j : Nat) (x : Prod' spec_l01Source.l0.ish.tys) : V (spec_l01Source.C k) .auto (cO (cO (cR (cL (cR (cR (cB Tryz.f31))))))) (mk spec_l01Source.l0.ish 47 x) (fun e st' => match e with | .nrm => (rd spec_l01Source.l0.ish st').bind (spec_l01Source.l0.F k j) | e => rdOut e st' spec_l01Source.l0.outs) = spec_l01Source.l0.F k (j + 1) x := by kernel_rfl
theorem spec_l01Source.l0.ok (k : Nat) : SumOk Tryz.prog (spec_l01Source.C k) (.loop (cO (cO (cR (cL (cR (cR (cB Tryz.f31)))))))) (spec_l01Source.l0.s k) := sum_ok (by kernel_rfl) (sum_loop (p := .auto) (F := spec_l01Source.l0.F k) (spec_l01Source.cok k) (by kernel_rfl) (plan_of (L := []) (by kernel_rfl) trivial) (fun _ => rfl) (fun j x y h => (spec_l01Source.l0.ev k j x).trans h) k rfl)
theorem spec_l01Source.ev (k : Nat) (x : Prod' spec_l01Source.sig.ins) : spec_l01Source.sig.ev (spec_l01Source.C k) (.two .auto (.two .auto (.two (.two .auto (.one (.sum (spec_l01Source.l0.s k)))) .auto))) Tryz.f31.results.toList (cB Tryz.f31) x = spec_l01Source k x := by kernel_rfl
theorem spec_l01Source.ok (k : Nat) : ConOk Tryz.prog 31 (spec_l01Source.con k) := sig_ok (p := (.two .auto (.two .auto (.two (.two .auto (.one (.sum (spec_l01Source.l0.s k)))) .auto)))) (spec_l01Source.cok k) Tryz.func31 (by kernel_rfl) (show Tryz.f31.body = some (cB Tryz.f31) by kernel_rfl) (by kernel_rfl) (by kernel_rfl) (plan_of (L := [(spec_l01Source.l0.s k, cO (cR (cL (cR (cR (cB Tryz.f31))))))]) (by kernel_rfl) ⟨spec_l01Source.l0.ok k, trivial⟩) (fun x y h => (spec_l01Source.ev k x).trans h)
def spec_l01Src_n.j0 (a1 : Int) (a2 : List Int) (a3 : Int) (a4 : Int) (a5 : Int) : Option ((Int × List Int × Int × Int × Int)) :=
  bif decide (a3 < ((a2.length) : Int)) then
    Option.bind (at? a2 a3) fun v6 =>
    some (IntKind.wrap .u64 v6, a2, IntKind.wrap .i64 (a3 + 1), a4, a5)
  else
  some (a1, a2, a3, a4, a5)
def spec_l01Src_n (a1 : G101) (a2 : Int) : Option (Int × List Int × Int × Int × Int) :=
  bif decide (a2 ≤ 1) then
    some (0, a1.1, a1.2.1, a1.2.2.1, a1.2.2.2)
  else
  Option.bind (spec_l01Src_n.j0 0 a1.1 a1.2.1 a1.2.2.1 a1.2.2.2) fun y3 =>
  Option.bind (nneg? 13) fun v4 =>
  Option.bind (nneg? 7) fun v5 =>
  Option.bind (nneg? 17) fun v6 =>
  Option.bind (nneg? 20) fun v7 =>
  Option.bind (nz? (IntKind.wrap .u64 a2)) fun v8 =>
  let e9 := intBits .xor .u64 y3.2.2.2.1 (shl .u64 y3.2.2.2.1 13)
  let e10 := intBits .xor .u64 e9 (shr .u64 e9 7)
  let e11 := intBits .xor .u64 e10 (shl .u64 e10 17)
  some (IntKind.wrap .i64 (Int.tmod (IntKind.wrap .u64 (y3.1 + (shr .u64 e11 20))) (IntKind.wrap .u64 a2)), y3.2.1, y3.2.2.1, e11, y3.2.2.2.2)
def spec_l01Src_n.sig : Sig := { ps := [.ref 101 T101 (kept T101), .val false (.int .i64) (ros (.int .i64))], rs := [.val false [.v (.int .i64)]], ntmps := 87 }
def spec_l01Src_n.con (k : Nat) : Con := spec_l01Src_n.sig.con (fun x => spec_l01Src_n x.1 x.2)
def spec_l01Src_n.C (k : Nat) : Ctx := { ti := TAB, con := conL [] }
theorem spec_l01Src_n.cok (k : Nat) : CtxOk Tryz.prog (spec_l01Src_n.C k) := ctx_ok TABok trivial
def spec_l01Src_n.j0.ish : Shape := { tmps := [(0, .one (.ptr 0 0)), (5, .one (.v (.int .u64)))], slots := [(0, .box 101 [.v (.sl (.int .u8)), .v (.int .i64), .v (.int .u64), .v (.int .i64)])], nb := 1 }
def spec_l01Src_n.j0.outs : List (Ex × Shape) := [(.nrm, { tmps := [(5, .one (.v (.int .u64)))], slots := [(0, .box 101 [.v (.sl (.int .u8)), .v (.int .i64), .v (.int .u64), .v (.int .i64)])], nb := 1 })]
def spec_l01Src_n.j0.F (k : Nat) (x : Prod' spec_l01Src_n.j0.ish.tys) : Option (Outs spec_l01Src_n.j0.outs) := spec_l01Src_n.j0 x.1 x.2.1 x.2.2.1 x.2.2.2.1 x.2.2.2.2
def spec_l01Src_n.j0.s (k : Nat) : Summ := { n := 87, ish := spec_l01Src_n.j0.ish, outs := spec_l01Src_n.j0.outs, f := spec_l01Src_n.j0.F k }
theorem spec_l01Src_n.j0.ev (k : Nat) (x : Prod' spec_l01Src_n.j0.ish.tys) : V (spec_l01Src_n.C k) .auto (cL (cR (cR (cR (cB Tryz.f35))))) (mk spec_l01Src_n.j0.ish 87 x) (fun e st' => rdOut e st' spec_l01Src_n.j0.outs) = spec_l01Src_n.j0.F k x := by kernel_rfl
theorem spec_l01Src_n.j0.ok (k : Nat) : SumOk Tryz.prog (spec_l01Src_n.C k) (cL (cR (cR (cR (cB Tryz.f35))))) (spec_l01Src_n.j0.s k) := sum_ok (by kernel_rfl) (sum_code (p := .auto) (spec_l01Src_n.cok k) (by kernel_rfl) (plan_of (L := []) (by kernel_rfl) trivial) (fun x y h => (spec_l01Src_n.j0.ev k x).trans h))
theorem spec_l01Src_n.ev (k : Nat) (x : Prod' spec_l01Src_n.sig.ins) : spec_l01Src_n.sig.ev (spec_l01Src_n.C k) (.two .auto (.two .auto (.two .auto (.two (.sum (spec_l01Src_n.j0.s k)) .auto)))) Tryz.f35.results.toList (cB Tryz.f35) x = spec_l01Src_n x.1 x.2 := by kernel_rfl
theorem spec_l01Src_n.ok (k : Nat) : ConOk Tryz.prog 35 (spec_l01Src_n.con k) := sig_ok (p := (.two .auto (.two .auto (.two .auto (.two (.sum (spec_l01Src_n.j0.s k)) .auto))))) (spec_l01Src_n.cok k) Tryz.func35 (by kernel_rfl) (show Tryz.f35.body = some (cB Tryz.f35) by kernel_rfl) (by kernel_rfl) (by kernel_rfl) (plan_of (L := [(spec_l01Src_n.j0.s k, cL (cR (cR (cR (cB Tryz.f35)))))]) (by kernel_rfl) ⟨spec_l01Src_n.j0.ok k, trivial⟩) (fun x y h => (spec_l01Src_n.ev k x).trans h)
def spec_l01Src_one (a1 : G101) (a2 : Int) : Option (Bool × List Int × Int × Int × Int) :=
  Option.bind (spec_l01Src_n a1 a2) fun v3 =>
  some (v3.1 == 0, v3.2.1, v3.2.2.1, v3.2.2.2.1, v3.2.2.2.2)
def spec_l01Src_one.sig : Sig := { ps := [.ref 101 T101 (kept T101), .val false (.int .i64) (ros (.int .i64))], rs := [.val false [.v .bool]], ntmps := 9 }
def spec_l01Src_one.con (k : Nat) : Con := spec_l01Src_one.sig.con (fun x => spec_l01Src_one x.1 x.2)
def spec_l01Src_one.C (k : Nat) : Ctx := { ti := TAB, con := conL [(35, spec_l01Src_n.con k)] }
theorem spec_l01Src_one.cok (k : Nat) : CtxOk Tryz.prog (spec_l01Src_one.C k) := ctx_ok TABok ⟨spec_l01Src_n.ok k, trivial⟩
theorem spec_l01Src_one.ev (k : Nat) (x : Prod' spec_l01Src_one.sig.ins) : spec_l01Src_one.sig.ev (spec_l01Src_one.C k) .auto Tryz.f65.results.toList (cB Tryz.f65) x = spec_l01Src_one x.1 x.2 := by kernel_rfl
theorem spec_l01Src_one.ok (k : Nat) : ConOk Tryz.prog 65 (spec_l01Src_one.con k) := sig_ok (p := .auto) (spec_l01Src_one.cok k) Tryz.func65 (by kernel_rfl) (show Tryz.f65.body = some (cB Tryz.f65) by kernel_rfl) (by kernel_rfl) (by kernel_rfl) (plan_of (L := []) (by kernel_rfl) trivial) (fun x y h => (spec_l01Src_one.ev k x).trans h)
def spec_l01Src_pick (a1 : G101) (a2 : List Str) : Option (Str × List Int × Int × Int × Int) :=
  Option.bind (spec_l01Src_n a1 ((a2.length) : Int)) fun v3 =>
  Option.bind (at? a2 v3.1) fun v4 =>
  some (v4, v3.2.1, v3.2.2.1, v3.2.2.2.1, v3.2.2.2.2)
def spec_l01Src_pick.sig : Sig := { ps := [.ref 101 T101 (kept T101), .val false (.sl .str) (ros (.sl .str))], rs := [.val false [.v .str]], ntmps := 12 }
def spec_l01Src_pick.con (k : Nat) : Con := spec_l01Src_pick.sig.con (fun x => spec_l01Src_pick x.1 x.2)
def spec_l01Src_pick.C (k : Nat) : Ctx := { ti := TAB, con := conL [(35, spec_l01Src_n.con k)] }
theorem spec_l01Src_pick.cok (k : Nat) : CtxOk Tryz.prog (spec_l01Src_pick.C k) := ctx_ok TABok ⟨spec_l01Src_n.ok k, trivial⟩
theorem spec_l01Src_pick.ev (k : Nat) (x : Prod' spec_l01Src_pick.sig.ins) : spec_l01Src_pick.sig.ev (spec_l01Src_pick.C k) .auto Tryz.f115.results.toList (cB Tryz.f115) x = spec_l01Src_pick x.1 x.2 := by kernel_rfl
theorem spec_l01Src_pick.ok (k : Nat) : ConOk Tryz.prog 115 (spec_l01Src_pick.con k) := sig_ok (p := .auto) (spec_l01Src_pick.cok k) Tryz.func115 (by kernel_rfl) (show Tryz.f115.body = some (cB Tryz.f115) by kernel_rfl) (by kernel_rfl) (by kernel_rfl) (plan_of (L := []) (by kernel_rfl) trivial) (fun x y h => (spec_l01Src_pick.ev k x).trans h)
def spec_l01Src_l06Data (a1 : G101) : Option (Str × List Int × Int × Int × Int) :=
  Option.bind (spec_l01Src_pick a1 ([([97, 97, 97, 97, 97, 97, 97, 97] : Str), ([97, 98, 97, 98, 97, 98, 97, 98] : Str), ([104, 101, 108, 108, 111, 32, 32, 33] : Str), ([0, 0, 0, 0, 0, 0, 0, 0] : Str), ([0, 0, 0, 1, 0, 0, 0, 0] : Str)])) fun v2 =>
  some (v2.1, v2.2.1, v2.2.2.1, v2.2.2.2.1, v2.2.2.2.2)
def spec_l01Src_l06Data.sig : Sig := { ps := [.ref 101 T101 (kept T101)], rs := [.val false [.v .str]], ntmps := 6 }
def spec_l01Src_l06Data.con (k : Nat) : Con := spec_l01Src_l06Data.sig.con (fun x => spec_l01Src_l06Data x)
def spec_l01Src_l06Data.C (k : Nat) : Ctx := { ti := TAB, con := conL [(115, spec_l01Src_pick.con k)] }
theorem spec_l01Src_l06Data.cok (k : Nat) : CtxOk Tryz.prog (spec_l01Src_l06Data.C k) := ctx_ok TABok ⟨spec_l01Src_pick.ok k, trivial⟩
theorem spec_l01Src_l06Data.ev (k : Nat) (x : Prod' spec_l01Src_l06Data.sig.ins) : spec_l01Src_l06Data.sig.ev (spec_l01Src_l06Data.C k) .auto Tryz.f101.results.toList (cB Tryz.f101) x = spec_l01Src_l06Data x := by kernel_rfl
theorem spec_l01Src_l06Data.ok (k : Nat) : ConOk Tryz.prog 101 (spec_l01Src_l06Data.con k) := sig_ok (p := .auto) (spec_l01Src_l06Data.cok k) Tryz.func101 (by kernel_rfl) (show Tryz.f101.body = some (cB Tryz.f101) by kernel_rfl) (by kernel_rfl) (by kernel_rfl) (plan_of (L := []) (by kernel_rfl) trivial) (fun x y h => (spec_l01Src_l06Data.ev k x).trans h)
def spec_l01Src_l07Image.l0 : Nat → Int → List Int → Int → Int → Int → List Str → Option ((List Int × Int × Int × Int × List Str))
  | 0, _, _, _, _, _, _ => none
  | j + 1, a1, a2, a3, a4, a5, a6 =>
    bif decide (0 < a1) then
      Option.bind (spec_l01Src_l06Data (a2, (a3, (a4, a5)))) fun v7 =>
      Option.bind (app? 16 a6 [v7.1]) fun v8 =>
      spec_l01Src_l07Image.l0 j (IntKind.wrap .i64 (a1 - 1)) v7.2.1 v7.2.2.1 v7.2.2.2.1 v7.2.2.2.2 v8
    else
    some (a2, a3, a4, a5, a6)
def spec_l01Src_l07Image (k : Nat) (a1 : G101) (a2 : Int) : Option (List Str × List Int × Int × Int × Int) :=
  Option.bind (spec_l01Src_l07Image.l0 k a2 a1.1 a1.2.1 a1.2.2.1 a1.2.2.2 []) fun y3 =>
  some (y3.2.2.2.2, y3.1, y3.2.1, y3.2.2.1, y3.2.2.2.1)
def spec_l01Src_l07Image.sig : Sig := { ps := [.ref 101 T101 (kept T101), .val false (.int .i64) (ros (.int .i64))], rs := [.val false [.own 9 .str]], ntmps := 17 }
def spec_l01Src_l07Image.con (k : Nat) : Con := spec_l01Src_l07Image.sig.con (fun x => spec_l01Src_l07Image k x.1 x.2)
def spec_l01Src_l07Image.C (k : Nat) : Ctx := { ti := TAB, con := conL [(101, spec_l01Src_l06Data.con k)] }
theorem spec_l01Src_l07Image.cok (k : Nat) : CtxOk Tryz.prog (spec_l01Src_l07Image.C k) := ctx_ok TABok ⟨spec_l01Src_l06Data.ok k, trivial⟩
def spec_l01Src_l07Image.l0.ish : Shape := { tmps := [(0, .one (.ptr 0 0)), (1, .one (.v (.int .i64))), (5, .one (.own 2))], slots := [(0, .box 101 [.v (.sl (.int .u8)), .v (.int .i64), .v (.int .u64), .v (.int .i64)]), (2, .arr false 9 .str)], nb := 3 }
def spec_l01Src_l07Image.l0.outs : List (Ex × Shape) := [(.exit 0, { tmps := [(5, .one (.own 3))], slots := [(0, .box 101 [.v (.sl (.int .u8)), .v (.int .i64), .v (.int .u64), .v (.int .i64)]), (3, .arr false 9 .str)], nb := 4 })]
def spec_l01Src_l07Image.l0.F (k j : Nat) (x : Prod' spec_l01Src_l07Image.l0.ish.tys) : Option (Outs spec_l01Src_l07Image.l0.outs) := spec_l01Src_l07Image.l0 j x.1 x.2.1 x.2.2.1 x.2.2.2.1 x.2.2.2.2.1 x.2.2.2.2.2
def spec_l01Src_l07Image.l0.s (k : Nat) : Summ := { n := 17, ish := spec_l01Src_l07Image.l0.ish, outs := spec_l01Src_l07Image.l0.outs, f := spec_l01Src_l07Image.l0.F k k }
theorem spec_l01Src_l07Image.l0.ev (k j : Nat) (x : Prod' spec_l01Src_l07Image.l0.ish.tys) : V (spec_l01Src_l07Image.C k) .auto (cO (cO (cL (cR (cR (cB Tryz.f82)))))) (mk spec_l01Src_l07Image.l0.ish 17 x) (fun e st' => match e with | .nrm => (rd spec_l01Src_l07Image.l0.ish st').bind (spec_l01Src_l07Image.l0.F k j) | e => rdOut e st' spec_l01Src_l07Image.l0.outs) = spec_l01Src_l07Image.l0.F k (j + 1) x := by kernel_rfl
theorem spec_l01Src_l07Image.l0.ok (k : Nat) : SumOk Tryz.prog (spec_l01Src_l07Image.C k) (.loop (cO (cO (cL (cR (cR (cB Tryz.f82))))))) (spec_l01Src_l07Image.l0.s k) := sum_ok (by kernel_rfl) (sum_loop (p := .auto) (F := spec_l01Src_l07Image.l0.F k) (spec_l01Src_l07Image.cok k) (by kernel_rfl) (plan_of (L := []) (by kernel_rfl) trivial) (fun _ => rfl) (fun j x y h => (spec_l01Src_l07Image.l0.ev k j x).trans h) k rfl)
theorem spec_l01Src_l07Image.ev (k : Nat) (x : Prod' spec_l01Src_l07Image.sig.ins) : spec_l01Src_l07Image.sig.ev (spec_l01Src_l07Image.C k) (.two .auto (.two .auto (.two (.one (.sum (spec_l01Src_l07Image.l0.s k))) .auto))) Tryz.f82.results.toList (cB Tryz.f82) x = spec_l01Src_l07Image k x.1 x.2 := by kernel_rfl
theorem spec_l01Src_l07Image.ok (k : Nat) : ConOk Tryz.prog 82 (spec_l01Src_l07Image.con k) := sig_ok (p := (.two .auto (.two .auto (.two (.one (.sum (spec_l01Src_l07Image.l0.s k))) .auto)))) (spec_l01Src_l07Image.cok k) Tryz.func82 (by kernel_rfl) (show Tryz.f82.body = some (cB Tryz.f82) by kernel_rfl) (by kernel_rfl) (by kernel_rfl) (plan_of (L := [(spec_l01Src_l07Image.l0.s k, cO (cL (cR (cR (cB Tryz.f82)))))]) (by kernel_rfl) ⟨spec_l01Src_l07Image.l0.ok k, trivial⟩) (fun x y h => (spec_l01Src_l07Image.ev k x).trans h)
def spec_l02Start  : Option (List Int) :=
  some ([1779033703, 3144134277, 1013904242, 2773480762, 1359893119, 2600822924, 528734635, 1541459225])
def spec_l02Start.sig : Sig := { ps := [], rs := [.val false [.own 2 (.int .i64)]], ntmps := 2 }
def spec_l02Start.con (k : Nat) : Con := spec_l02Start.sig.con (fun x => spec_l02Start )
def spec_l02Start.C (k : Nat) : Ctx := { ti := TAB, con := conL [] }
theorem spec_l02Start.cok (k : Nat) : CtxOk Tryz.prog (spec_l02Start.C k) := ctx_ok TABok trivial
theorem spec_l02Start.ev (k : Nat) (x : Prod' spec_l02Start.sig.ins) : spec_l02Start.sig.ev (spec_l02Start.C k) .auto Tryz.f119.results.toList (cB Tryz.f119) x = spec_l02Start  := by kernel_rfl
theorem spec_l02Start.ok (k : Nat) : ConOk Tryz.prog 119 (spec_l02Start.con k) := sig_ok (p := .auto) (spec_l02Start.cok k) Tryz.func119 (by kernel_rfl) (show Tryz.f119.body = some (cB Tryz.f119) by kernel_rfl) (by kernel_rfl) (by kernel_rfl) (plan_of (L := []) (by kernel_rfl) trivial) (fun x y h => (spec_l02Start.ev k x).trans h)
def spec_l02Turn (a1 : Int) (a2 : Int) : Option (Int) :=
  Option.bind (nneg? a2) fun v3 =>
  let e4 := IntKind.wrap .u64 (32 - a2)
  Option.bind (nneg? e4) fun v5 =>
  some (intBits .or .u32 (shr .u32 a1 a2) (shl .u32 a1 e4))
def spec_l02Turn.sig : Sig := { ps := [.val false (.int .u32) (ros (.int .u32)), .val false (.int .u64) (ros (.int .u64))], rs := [.val false [.v (.int .u32)]], ntmps := 13 }
def spec_l02Turn.con (k : Nat) : Con := spec_l02Turn.sig.con (fun x => spec_l02Turn x.1 x.2)
def spec_l02Turn.C (k : Nat) : Ctx := { ti := TAB, con := conL [] }
theorem spec_l02Turn.cok (k : Nat) : CtxOk Tryz.prog (spec_l02Turn.C k) := ctx_ok TABok trivial
theorem spec_l02Turn.ev (k : Nat) (x : Prod' spec_l02Turn.sig.ins) : spec_l02Turn.sig.ev (spec_l02Turn.C k) .auto Tryz.f123.results.toList (cB Tryz.f123) x = spec_l02Turn x.1 x.2 := by kernel_rfl
theorem spec_l02Turn.ok (k : Nat) : ConOk Tryz.prog 123 (spec_l02Turn.con k) := sig_ok (p := .auto) (spec_l02Turn.cok k) Tryz.func123 (by kernel_rfl) (show Tryz.f123.body = some (cB Tryz.f123) by kernel_rfl) (by kernel_rfl) (by kernel_rfl) (plan_of (L := []) (by kernel_rfl) trivial) (fun x y h => (spec_l02Turn.ev k x).trans h)
def spec_l02Keys  : Option (List Int) :=
  some ([1116352408, 1899447441, 3049323471, 3921009573, 961987163, 1508970993, 2453635748, 2870763221, 3624381080, 310598401, 607225278, 1426881987, 1925078388, 2162078206, 2614888103, 3248222580, 3835390401, 4022224774, 264347078, 604807628, 770255983, 1249150122, 1555081692, 1996064986, 2554220882, 2821834349, 2952996808, 3210313671, 3336571891, 3584528711, 113926993, 338241895, 666307205, 773529912, 1294757372, 1396182291, 1695183700, 1986661051, 2177026350, 2456956037, 2730485921, 2820302411, 3259730800, 3345764771, 3516065817, 3600352804, 4094571909, 275423344, 430227734, 506948616, 659060556, 883997877, 958139571, 1322822218, 1537002063, 1747873779, 1955562222, 2024104815, 2227730452, 2361852424, 2428436474, 2756734187, 3204031479, 3329325298])
def spec_l02Keys.sig : Sig := { ps := [], rs := [.val false [.own 96 (.int .u32)]], ntmps := 2 }
def spec_l02Keys.con (k : Nat) : Con := spec_l02Keys.sig.con (fun x => spec_l02Keys )
def spec_l02Keys.C (k : Nat) : Ctx := { ti := TAB, con := conL [] }
theorem spec_l02Keys.cok (k : Nat) : CtxOk Tryz.prog (spec_l02Keys.C k) := ctx_ok TABok trivial
theorem spec_l02Keys.ev (k : Nat) (x : Prod' spec_l02Keys.sig.ins) : spec_l02Keys.sig.ev (spec_l02Keys.C k) .auto Tryz.f124.results.toList (cB Tryz.f124) x = spec_l02Keys  := by kernel_rfl
theorem spec_l02Keys.ok (k : Nat) : ConOk Tryz.prog 124 (spec_l02Keys.con k) := sig_ok (p := .auto) (spec_l02Keys.cok k) Tryz.func124 (by kernel_rfl) (show Tryz.f124.body = some (cB Tryz.f124) by kernel_rfl) (by kernel_rfl) (by kernel_rfl) (plan_of (L := []) (by kernel_rfl) trivial) (fun x y h => (spec_l02Keys.ev k x).trans h)
def spec_l02Block.l0 : Nat → Str → Int → List Int → Option ((List Int))
  | 0, _, _, _ => none
  | j + 1, a1, a2, a3 =>
    bif decide (a2 < 16) then
      let e4 := IntKind.wrap .i64 (4 * a2)
      Option.bind (at? a1 e4) fun v5 =>
      Option.bind (nneg? 24) fun v6 =>
      Option.bind (at? a1 (IntKind.wrap .i64 (e4 + 1))) fun v7 =>
      Option.bind (nneg? 16) fun v8 =>
      Option.bind (at? a1 (IntKind.wrap .i64 (e4 + 2))) fun v9 =>
      Option.bind (nneg? 8) fun v10 =>
      Option.bind (at? a1 (IntKind.wrap .i64 (e4 + 3))) fun v11 =>
      Option.bind (at? a3 a2) fun v12 =>
      Option.bind (at? a3 a2) fun v13 =>
      spec_l02Block.l0 j a1 (IntKind.wrap .i64 (a2 + 1)) (List.set a3 (Int.toNat a2) (intBits .or .u32 (intBits .or .u32 (intBits .or .u32 (shl .u32 (IntKind.wrap .u32 (v5.toNat : Int)) 24) (shl .u32 (IntKind.wrap .u32 (v7.toNat : Int)) 16)) (shl .u32 (IntKind.wrap .u32 (v9.toNat : Int)) 8)) (IntKind.wrap .u32 (v11.toNat : Int))))
    else
    some a3
def spec_l02Block.l1 : Nat → Int → List Int → Option ((List Int))
  | 0, _, _ => none
  | j + 1, a1, a2 =>
    bif decide (a1 < 64) then
      let e3 := at? a2 (IntKind.wrap .i64 (a1 - 15))
      Option.bind (e3) fun v4 =>
      Option.bind (e3) fun v5 =>
      let e6 := at? a2 (IntKind.wrap .i64 (a1 - 2))
      Option.bind (e6) fun v7 =>
      Option.bind (e6) fun v8 =>
      let e9 := at? a2 (IntKind.wrap .i64 (a1 - 16))
      Option.bind (e9) fun v10 =>
      Option.bind (e9) fun v11 =>
      Option.bind (spec_l02Turn v5 7) fun v12 =>
      Option.bind (spec_l02Turn v5 18) fun v13 =>
      Option.bind (nneg? 3) fun v14 =>
      let e15 := at? a2 (IntKind.wrap .i64 (a1 - 7))
      Option.bind (e15) fun v16 =>
      Option.bind (e15) fun v17 =>
      Option.bind (spec_l02Turn v8 17) fun v18 =>
      Option.bind (spec_l02Turn v8 19) fun v19 =>
      Option.bind (nneg? 10) fun v20 =>
      Option.bind (at? a2 a1) fun v21 =>
      Option.bind (at? a2 a1) fun v22 =>
      spec_l02Block.l1 j (IntKind.wrap .i64 (a1 + 1)) (List.set a2 (Int.toNat a1) (IntKind.wrap .u32 ((IntKind.wrap .u32 ((IntKind.wrap .u32 (v11 + (intBits .xor .u32 (intBits .xor .u32 v12 v13) (shr .u32 v5 3)))) + v17)) + (intBits .xor .u32 (intBits .xor .u32 v18 v19) (shr .u32 v8 10)))))
    else
    some a2
def spec_l02Block.l2 : Nat → Int → Int → Int → Int → Int → Int → Int → Int → Int → List Int → List Int → Option ((Int × Int × Int × Int × Int × Int × Int × Int))
  | 0, _, _, _, _, _, _, _, _, _, _, _ => none
  | j + 1, a1, a2, a3, a4, a5, a6, a7, a8, a9, a10, a11 =>
    bif decide (a9 < 64) then
      Option.bind (spec_l02Turn a5 6) fun v12 =>
      Option.bind (spec_l02Turn a5 11) fun v13 =>
      Option.bind (spec_l02Turn a5 25) fun v14 =>
      Option.bind (at? a11 a9) fun v15 =>
      Option.bind (at? a11 a9) fun v16 =>
      Option.bind (at? a10 a9) fun v17 =>
      Option.bind (at? a10 a9) fun v18 =>
      Option.bind (spec_l02Turn a1 2) fun v19 =>
      Option.bind (spec_l02Turn a1 13) fun v20 =>
      Option.bind (spec_l02Turn a1 22) fun v21 =>
      let e22 := IntKind.wrap .u32 ((IntKind.wrap .u32 ((IntKind.wrap .u32 ((IntKind.wrap .u32 (a8 + (intBits .xor .u32 (intBits .xor .u32 v12 v13) v14))) + (intBits .xor .u32 (intBits .and .u32 a5 a6) (intBits .and .u32 (intBits .xor .u32 (IntKind.max .u32) a5) a7)))) + v16)) + v18)
      spec_l02Block.l2 j (IntKind.wrap .u32 (e22 + (IntKind.wrap .u32 ((intBits .xor .u32 (intBits .xor .u32 v19 v20) v21) + (intBits .xor .u32 (intBits .xor .u32 (intBits .and .u32 a1 a2) (intBits .and .u32 a1 a3)) (intBits .and .u32 a2 a3)))))) a1 a2 a3 (IntKind.wrap .u32 (a4 + e22)) a5 a6 a7 (IntKind.wrap .i64 (a9 + 1)) a10 a11
    else
    some (a1, a2, a3, a4, a5, a6, a7, a8)
def spec_l02Block.l3 : Nat → List Int → Int → List Int → List Int → Option ((List Int))
  | 0, _, _, _, _ => none
  | j + 1, a1, a2, a3, a4 =>
    bif decide (a2 < 8) then
      Option.bind (at? a1 a2) fun v5 =>
      Option.bind (at? a3 a2) fun v6 =>
      Option.bind (at? a3 a2) fun v7 =>
      Option.bind (app? 8 a4 [(IntKind.wrap .i64 (IntKind.wrap .u32 ((IntKind.wrap .u32 v5) + v7)))]) fun v8 =>
      spec_l02Block.l3 j a1 (IntKind.wrap .i64 (a2 + 1)) a3 v8
    else
    some a4
def spec_l02Block (k : Nat) (a1 : List Int) (a2 : Str) : Option (List Int) :=
  Option.bind (make? 4 64 64 0) fun v3 =>
  Option.bind (spec_l02Block.l0 k a2 0 v3) fun y4 =>
  Option.bind (spec_l02Block.l1 k 16 y4) fun y5 =>
  Option.bind (at? a1 0) fun v6 =>
  Option.bind (at? a1 1) fun v7 =>
  Option.bind (at? a1 2) fun v8 =>
  Option.bind (at? a1 3) fun v9 =>
  Option.bind (at? a1 4) fun v10 =>
  Option.bind (at? a1 5) fun v11 =>
  Option.bind (at? a1 6) fun v12 =>
  Option.bind (at? a1 7) fun v13 =>
  Option.bind (spec_l02Keys ) fun v14 =>
  Option.bind (spec_l02Block.l2 k (IntKind.wrap .u32 v6) (IntKind.wrap .u32 v7) (IntKind.wrap .u32 v8) (IntKind.wrap .u32 v9) (IntKind.wrap .u32 v10) (IntKind.wrap .u32 v11) (IntKind.wrap .u32 v12) (IntKind.wrap .u32 v13) 0 y5 v14) fun y15 =>
  Option.bind (spec_l02Block.l3 k a1 0 [y15.1, y15.2.1, y15.2.2.1, y15.2.2.2.1, y15.2.2.2.2.1, y15.2.2.2.2.2.1, y15.2.2.2.2.2.2.1, y15.2.2.2.2.2.2.2] []) fun y16 =>
  some y16
def spec_l02Block.sig : Sig := { ps := [.val false (.sl (.int .i64)) (ros (.sl (.int .i64))), .val false .str (ros .str)], rs := [.val false [.own 2 (.int .i64)]], ntmps := 235 }
def spec_l02Block.con (k : Nat) : Con := spec_l02Block.sig.con (fun x => spec_l02Block k x.1 x.2)
def spec_l02Block.C (k : Nat) : Ctx := { ti := TAB, con := conL [(123, spec_l02Turn.con k), (124, spec_l02Keys.con k)] }
theorem spec_l02Block.cok (k : Nat) : CtxOk Tryz.prog (spec_l02Block.C k) := ctx_ok TABok ⟨spec_l02Turn.ok k, spec_l02Keys.ok k, trivial⟩
def spec_l02Block.l0.ish : Shape := { tmps := [(1, .one (.v .str)), (5, .one (.own 1)), (6, .one (.v (.int .i64)))], slots := [(1, .arr false 96 (.int .u32))], nb := 2 }
def spec_l02Block.l0.outs : List (Ex × Shape) := [(.exit 0, { tmps := [(5, .one (.own 2))], slots := [(2, .arr false 96 (.int .u32))], nb := 3 })]
def spec_l02Block.l0.F (k j : Nat) (x : Prod' spec_l02Block.l0.ish.tys) : Option (Outs spec_l02Block.l0.outs) := spec_l02Block.l0 j x.1 x.2.1 x.2.2
def spec_l02Block.l0.s (k : Nat) : Summ := { n := 235, ish := spec_l02Block.l0.ish, outs := spec_l02Block.l0.outs, f := spec_l02Block.l0.F k k }
theorem spec_l02Block.l0.ev (k j : Nat) (x : Prod' spec_l02Block.l0.ish.tys) : V (spec_l02Block.C k) .auto (cO (cO (cR (cL (cR (cR (cB Tryz.f120))))))) (mk spec_l02Block.l0.ish 235 x) (fun e st' => match e with | .nrm => (rd spec_l02Block.l0.ish st').bind (spec_l02Block.l0.F k j) | e => rdOut e st' spec_l02Block.l0.outs) = spec_l02Block.l0.F k (j + 1) x := by kernel_rfl
theorem spec_l02Block.l0.ok (k : Nat) : SumOk Tryz.prog (spec_l02Block.C k) (.loop (cO (cO (cR (cL (cR (cR (cB Tryz.f120)))))))) (spec_l02Block.l0.s k) := sum_ok (by kernel_rfl) (sum_loop (p := .auto) (F := spec_l02Block.l0.F k) (spec_l02Block.cok k) (by kernel_rfl) (plan_of (L := []) (by kernel_rfl) trivial) (fun _ => rfl) (fun j x y h => (spec_l02Block.l0.ev k j x).trans h) k rfl)
def spec_l02Block.l1.ish : Shape := { tmps := [(5, .one (.own 3)), (7, .one (.v (.int .i64)))], slots := [(3, .arr false 96 (.int .u32))], nb := 4 }
def spec_l02Block.l1.outs : List (Ex × Shape) := [(.exit 2, { tmps := [(5, .one (.own 4))], slots := [(4, .arr false 96 (.int .u32))], nb := 5 })]
def spec_l02Block.l1.F (k j : Nat) (x : Prod' spec_l02Block.l1.ish.tys) : Option (Outs spec_l02Block.l1.outs) := spec_l02Block.l1 j x.1 x.2
def spec_l02Block.l1.s (k : Nat) : Summ := { n := 235, ish := spec_l02Block.l1.ish, outs := spec_l02Block.l1.outs, f := spec_l02Block.l1.F k k }
theorem spec_l02Block.l1.ev (k j : Nat) (x : Prod' spec_l02Block.l1.ish.tys) : V (spec_l02Block.C k) .auto (cO (cO (cR (cL (cR (cR (cR (cB Tryz.f120)))))))) (mk spec_l02Block.l1.ish 235 x) (fun e st' => match e with | .nrm => (rd spec_l02Block.l1.ish st').bind (spec_l02Block.l1.F k j) | e => rdOut e st' spec_l02Block.l1.outs) = spec_l02Block.l1.F k (j + 1) x := by kernel_rfl
theorem spec_l02Block.l1.ok (k : Nat) : SumOk Tryz.prog (spec_l02Block.C k) (.loop (cO (cO (cR (cL (cR (cR (cR (cB Tryz.f120))))))))) (spec_l02Block.l1.s k) := sum_ok (by kernel_rfl) (sum_loop (p := .auto) (F := spec_l02Block.l1.F k) (spec_l02Block.cok k) (by kernel_rfl) (plan_of (L := []) (by kernel_rfl) trivial) (fun _ => rfl) (fun j x y h => (spec_l02Block.l1.ev k j x).trans h) k rfl)
def spec_l02Block.l2.ish : Shape := { tmps := [(5, .one (.own 6)), (10, .one (.v (.int .u32))), (11, .one (.v (.int .u32))), (12, .one (.v (.int .u32))), (13, .one (.v (.int .u32))), (14, .one (.v (.int .u32))), (15, .one (.v (.int .u32))), (16, .one (.v (.int .u32))), (17, .one (.v (.int .u32))), (18, .one (.own 7)), (19, .one (.v (.int .i64)))], slots := [(6, .arr false 96 (.int .u32)), (7, .arr false 96 (.int .u32))], nb := 8 }
def spec_l02Block.l2.outs : List (Ex × Shape) := [(.exit 4, { tmps := [(10, .one (.v (.int .u32))), (11, .one (.v (.int .u32))), (12, .one (.v (.int .u32))), (13, .one (.v (.int .u32))), (14, .one (.v (.int .u32))), (15, .one (.v (.int .u32))), (16, .one (.v (.int .u32))), (17, .one (.v (.int .u32)))], slots := [], nb := 8 })]
def spec_l02Block.l2.F (k j : Nat) (x : Prod' spec_l02Block.l2.ish.tys) : Option (Outs spec_l02Block.l2.outs) := spec_l02Block.l2 j x.1 x.2.1 x.2.2.1 x.2.2.2.1 x.2.2.2.2.1 x.2.2.2.2.2.1 x.2.2.2.2.2.2.1 x.2.2.2.2.2.2.2.1 x.2.2.2.2.2.2.2.2.1 x.2.2.2.2.2.2.2.2.2.1 x.2.2.2.2.2.2.2.2.2.2
def spec_l02Block.l2.s (k : Nat) : Summ := { n := 235, ish := spec_l02Block.l2.ish, outs := spec_l02Block.l2.outs, f := spec_l02Block.l2.F k k }
theorem spec_l02Block.l2.ev (k j : Nat) (x : Prod' spec_l02Block.l2.ish.tys) : V (spec_l02Block.C k) .auto (cO (cO (cR (cL (cR (cR (cR (cR (cR (cR (cR (cB Tryz.f120)))))))))))) (mk spec_l02Block.l2.ish 235 x) (fun e st' => match e with | .nrm => (rd spec_l02Block.l2.ish st').bind (spec_l02Block.l2.F k j) | e => rdOut e st' spec_l02Block.l2.outs) = spec_l02Block.l2.F k (j + 1) x := by kernel_rfl
theorem spec_l02Block.l2.ok (k : Nat) : SumOk Tryz.prog (spec_l02Block.C k) (.loop (cO (cO (cR (cL (cR (cR (cR (cR (cR (cR (cR (cB Tryz.f120))))))))))))) (spec_l02Block.l2.s k) := sum_ok (by kernel_rfl) (sum_loop (p := .auto) (F := spec_l02Block.l2.F k) (spec_l02Block.cok k) (by kernel_rfl) (plan_of (L := []) (by kernel_rfl) trivial) (fun _ => rfl) (fun j x y h => (spec_l02Block.l2.ev k j x).trans h) k rfl)
def spec_l02Block.l3.ish : Shape := { tmps := [(0, .one (.bor (.int .i64))), (22, .one (.own 10)), (23, .one (.own 11)), (24, .one (.v (.int .i64)))], slots := [(10, .arr false 96 (.int .u32)), (11, .arr false 2 (.int .i64))], nb := 12 }
def spec_l02Block.l3.outs : List (Ex × Shape) := [(.exit 6, { tmps := [(23, .one (.own 12))], slots := [(12, .arr false 2 (.int .i64))], nb := 13 })]
def spec_l02Block.l3.F (k j : Nat) (x : Prod' spec_l02Block.l3.ish.tys) : Option (Outs spec_l02Block.l3.outs) := spec_l02Block.l3 j x.1 x.2.1 x.2.2.1 x.2.2.2
def spec_l02Block.l3.s (k : Nat) : Summ := { n := 235, ish := spec_l02Block.l3.ish, outs := spec_l02Block.l3.outs, f := spec_l02Block.l3.F k k }
theorem spec_l02Block.l3.ev (k j : Nat) (x : Prod' spec_l02Block.l3.ish.tys) : V (spec_l02Block.C k) .auto (cO (cO (cR (cL (cR (cR (cR (cR (cR (cR (cR (cR (cR (cR (cB Tryz.f120))))))))))))))) (mk spec_l02Block.l3.ish 235 x) (fun e st' => match e with | .nrm => (rd spec_l02Block.l3.ish st').bind (spec_l02Block.l3.F k j) | e => rdOut e st' spec_l02Block.l3.outs) = spec_l02Block.l3.F k (j + 1) x := by kernel_rfl
theorem spec_l02Block.l3.ok (k : Nat) : SumOk Tryz.prog (spec_l02Block.C k) (.loop (cO (cO (cR (cL (cR (cR (cR (cR (cR (cR (cR (cR (cR (cR (cB Tryz.f120)))))))))))))))) (spec_l02Block.l3.s k) := sum_ok (by kernel_rfl) (sum_loop (p := .auto) (F := spec_l02Block.l3.F k) (spec_l02Block.cok k) (by kernel_rfl) (plan_of (L := []) (by kernel_rfl) trivial) (fun _ => rfl) (fun j x y h => (spec_l02Block.l3.ev k j x).trans h) k rfl)
theorem spec_l02Block.ev (k : Nat) (x : Prod' spec_l02Block.sig.ins) : spec_l02Block.sig.ev (spec_l02Block.C k) (.two .auto (.two .auto (.two (.two .auto (.one (.sum (spec_l02Block.l0.s k)))) (.two (.two .auto (.one (.sum (spec_l02Block.l1.s k)))) (.two .auto (.two .auto (.two .auto (.two (.two .auto (.one (.sum (spec_l02Block.l2.s k)))) (.two .auto (.two .auto (.two (.two .auto (.one (.sum (spec_l02Block.l3.s k)))) .auto))))))))))) Tryz.f120.results.toList (cB Tryz.f120) x = spec_l02Block k x.1 x.2 := by kernel_rfl
theorem spec_l02Block.ok (k : Nat) : ConOk Tryz.prog 120 (spec_l02Block.con k) := sig_ok (p := (.two .auto (.two .auto (.two (.two .auto (.one (.sum (spec_l02Block.l0.s k)))) (.two (.two .auto (.one (.sum (spec_l02Block.l1.s k)))) (.two .auto (.two .auto (.two .auto (.two (.two .auto (.one (.sum (spec_l02Block.l2.s k)))) (.two .auto (.two .auto (.two (.two .auto (.one (.sum (spec_l02Block.l3.s k)))) .auto)))))))))))) (spec_l02Block.cok k) Tryz.func120 (by kernel_rfl) (show Tryz.f120.body = some (cB Tryz.f120) by kernel_rfl) (by kernel_rfl) (by kernel_rfl) (plan_of (L := [(spec_l02Block.l0.s k, cO (cR (cL (cR (cR (cB Tryz.f120)))))), (spec_l02Block.l1.s k, cO (cR (cL (cR (cR (cR (cB Tryz.f120))))))), (spec_l02Block.l2.s k, cO (cR (cL (cR (cR (cR (cR (cR (cR (cR (cB Tryz.f120))))))))))), (spec_l02Block.l3.s k, cO (cR (cL (cR (cR (cR (cR (cR (cR (cR (cR (cR (cR (cB Tryz.f120))))))))))))))]) (by kernel_rfl) ⟨spec_l02Block.l0.ok k, spec_l02Block.l1.ok k, spec_l02Block.l2.ok k, spec_l02Block.l3.ok k, trivial⟩) (fun x y h => (spec_l02Block.ev k x).trans h)
def spec_l02All.l0 : Nat → List Int → Option ((List Int))
  | 0, _ => none
  | j + 1, a1 =>
    Option.bind (nz? 64) fun v2 =>
    bif (Int.tmod ((a1.length) : Int) 64) != 56 then
      Option.bind (app? 1 a1 [0]) fun v3 =>
      spec_l02All.l0 j v3
    else
    some a1
def spec_l02All.l1 : Nat → Int → Int → List Int → Option ((List Int))
  | 0, _, _, _ => none
  | j + 1, a1, a2, a3 =>
    bif decide (0 ≤ a2) then
      Option.bind (nneg? (IntKind.wrap .u64 a2)) fun v4 =>
      Option.bind (app? 1 a3 [(IntKind.wrap .u8 (shr .u64 a1 (IntKind.wrap .u64 a2)))]) fun v5 =>
      spec_l02All.l1 j a1 (IntKind.wrap .i64 (a2 - 8)) v5
    else
    some a3
def spec_l02All.l2 (k : Nat) : Nat → List Int → Int → List Int → Option ((List Int))
  | 0, _, _, _ => none
  | j + 1, a1, a2, a3 =>
    bif decide (a2 < ((a1.length) : Int)) then
      let e4 := IntKind.wrap .i64 (a2 + 64)
      Option.bind (cut? a1 a2 e4) fun v5 =>
      Option.bind (spec_l02Block k a3 (listByte v5)) fun v6 =>
      spec_l02All.l2 k j a1 e4 v6
    else
    some a3
def spec_l02All.l3 : Nat → Int → List Int → List Int → Option ((List Int))
  | 0, _, _, _ => none
  | j + 1, a1, a2, a3 =>
    bif decide (a1 < 8) then
      Option.bind (at? a2 a1) fun v4 =>
      Option.bind (at? a2 a1) fun v5 =>
      Option.bind (nneg? 24) fun v6 =>
      Option.bind (nneg? 16) fun v7 =>
      Option.bind (nneg? 8) fun v8 =>
      Option.bind (app? 1 a3 [(IntKind.wrap .u8 (shr .i64 v5 24)), (IntKind.wrap .u8 (shr .i64 v5 16)), (IntKind.wrap .u8 (shr .i64 v5 8)), (IntKind.wrap .u8 v5)]) fun v9 =>
      spec_l02All.l3 j (IntKind.wrap .i64 (a1 + 1)) a2 v9
    else
    some a3
def spec_l02All (k : Nat) (a1 : Str) : Option (Str) :=
  Option.bind (room? (a1.length) 1) fun v2 =>
  Option.bind (app? 1 (byteList a1) [128]) fun v3 =>
  Option.bind (spec_l02All.l0 k v3) fun y4 =>
  Option.bind (spec_l02All.l1 k (IntKind.wrap .u64 (IntKind.wrap .i64 (8 * ((a1.length) : Int)))) 56 y4) fun y5 =>
  Option.bind (spec_l02Start ) fun v6 =>
  Option.bind (spec_l02All.l2 k k y5 0 v6) fun y7 =>
  Option.bind (spec_l02All.l3 k 0 y7 []) fun y8 =>
  some (listByte y8)
def spec_l02All.sig : Sig := { ps := [.val false .str (ros .str)], rs := [.val false [.v .str]], ntmps := 78 }
def spec_l02All.con (k : Nat) : Con := spec_l02All.sig.con (fun x => spec_l02All k x)
def spec_l02All.C (k : Nat) : Ctx := { ti := TAB, con := conL [(119, spec_l02Start.con k), (120, spec_l02Block.con k)] }
theorem spec_l02All.cok (k : Nat) : CtxOk Tryz.prog (spec_l02All.C k) := ctx_ok TABok ⟨spec_l02Start.ok k, spec_l02Block.ok k, trivial⟩
def spec_l02All.l0.ish : Shape := { tmps := [(3, .one (.own 3))], slots := [(3, .arr true 5 (.int .u8))], nb := 4 }
def spec_l02All.l0.outs : List (Ex × Shape) := [(.exit 0, { tmps := [(3, .one (.own 4))], slots := [(4, .arr true 5 (.int .u8))], nb := 5 })]
def spec_l02All.l0.F (k j : Nat) (x : Prod' spec_l02All.l0.ish.tys) : Option (Outs spec_l02All.l0.outs) := spec_l02All.l0 j x
def spec_l02All.l0.s (k : Nat) : Summ := { n := 78, ish := spec_l02All.l0.ish, outs := spec_l02All.l0.outs, f := spec_l02All.l0.F k k }
theorem spec_l02All.l0.ev (k j : Nat) (x : Prod' spec_l02All.l0.ish.tys) : V (spec_l02All.C k) .auto (cO (cO (cL (cR (cR (cB Tryz.f108)))))) (mk spec_l02All.l0.ish 78 x) (fun e st' => match e with | .nrm => (rd spec_l02All.l0.ish st').bind (spec_l02All.l0.F k j) | e => rdOut e st' spec_l02All.l0.outs) = spec_l02All.l0.F k (j + 1) x := by kernel_rfl
theorem spec_l02All.l0.ok (k : Nat) : SumOk Tryz.prog (spec_l02All.C k) (.loop (cO (cO (cL (cR (cR (cB Tryz.f108))))))) (spec_l02All.l0.s k) := sum_ok (by kernel_rfl) (sum_loop (p := .auto) (F := spec_l02All.l0.F k) (spec_l02All.cok k) (by kernel_rfl) (plan_of (L := []) (by kernel_rfl) trivial) (fun _ => rfl) (fun j x y h => (spec_l02All.l0.ev k j x).trans h) k rfl)
def spec_l02All.l1.ish : Shape := { tmps := [(3, .one (.own 5)), (4, .one (.v (.int .u64))), (5, .one (.v (.int .i64)))], slots := [(5, .arr true 5 (.int .u8))], nb := 6 }
def spec_l02All.l1.outs : List (Ex × Shape) := [(.exit 2, { tmps := [(3, .one (.own 6))], slots := [(6, .arr true 5 (.int .u8))], nb := 7 })]
def spec_l02All.l1.F (k j : Nat) (x : Prod' spec_l02All.l1.ish.tys) : Option (Outs spec_l02All.l1.outs) := spec_l02All.l1 j x.1 x.2.1 x.2.2
def spec_l02All.l1.s (k : Nat) : Summ := { n := 78, ish := spec_l02All.l1.ish, outs := spec_l02All.l1.outs, f := spec_l02All.l1.F k k }
theorem spec_l02All.l1.ev (k j : Nat) (x : Prod' spec_l02All.l1.ish.tys) : V (spec_l02All.C k) .auto (cO (cO (cR (cL (cR (cR (cR (cR (cB Tryz.f108))))))))) (mk spec_l02All.l1.ish 78 x) (fun e st' => match e with | .nrm => (rd spec_l02All.l1.ish st').bind (spec_l02All.l1.F k j) | e => rdOut e st' spec_l02All.l1.outs) = spec_l02All.l1.F k (j + 1) x := by kernel_rfl
theorem spec_l02All.l1.ok (k : Nat) : SumOk Tryz.prog (spec_l02All.C k) (.loop (cO (cO (cR (cL (cR (cR (cR (cR (cB Tryz.f108)))))))))) (spec_l02All.l1.s k) := sum_ok (by kernel_rfl) (sum_loop (p := .auto) (F := spec_l02All.l1.F k) (spec_l02All.cok k) (by kernel_rfl) (plan_of (L := []) (by kernel_rfl) trivial) (fun _ => rfl) (fun j x y h => (spec_l02All.l1.ev k j x).trans h) k rfl)
def spec_l02All.l2.ish : Shape := { tmps := [(3, .one (.v (.sl (.int .u8)))), (6, .one (.own 8)), (7, .one (.v (.int .i64)))], slots := [(8, .arr false 2 (.int .i64))], nb := 9 }
def spec_l02All.l2.outs : List (Ex × Shape) := [(.exit 4, { tmps := [(6, .one (.own 9))], slots := [(9, .arr false 2 (.int .i64))], nb := 10 })]
def spec_l02All.l2.F (k j : Nat) (x : Prod' spec_l02All.l2.ish.tys) : Option (Outs spec_l02All.l2.outs) := spec_l02All.l2 k j x.1 x.2.1 x.2.2
def spec_l02All.l2.s (k : Nat) : Summ := { n := 78, ish := spec_l02All.l2.ish, outs := spec_l02All.l2.outs, f := spec_l02All.l2.F k k }
theorem spec_l02All.l2.ev (k j : Nat) (x : Prod' spec_l02All.l2.ish.tys) : V (spec_l02All.C k) .auto (cO (cO (cR (cL (cR (cR (cR (cR (cR (cR (cB Tryz.f108))))))))))) (mk spec_l02All.l2.ish 78 x) (fun e st' => match e with | .nrm => (rd spec_l02All.l2.ish st').bind (spec_l02All.l2.F k j) | e => rdOut e st' spec_l02All.l2.outs) = spec_l02All.l2.F k (j + 1) x := by kernel_rfl
theorem spec_l02All.l2.ok (k : Nat) : SumOk Tryz.prog (spec_l02All.C k) (.loop (cO (cO (cR (cL (cR (cR (cR (cR (cR (cR (cB Tryz.f108)))))))))))) (spec_l02All.l2.s k) := sum_ok (by kernel_rfl) (sum_loop (p := .auto) (F := spec_l02All.l2.F k) (spec_l02All.cok k) (by kernel_rfl) (plan_of (L := []) (by kernel_rfl) trivial) (fun _ => rfl) (fun j x y h => (spec_l02All.l2.ev k j x).trans h) k rfl)
def spec_l02All.l3.ish : Shape := { tmps := [(6, .one (.own 11)), (8, .one (.own 12)), (9, .one (.v (.int .i64)))], slots := [(11, .arr false 2 (.int .i64)), (12, .arr false 5 (.int .u8))], nb := 13 }
def spec_l02All.l3.outs : List (Ex × Shape) := [(.exit 6, { tmps := [(8, .one (.own 13))], slots := [(13, .arr false 5 (.int .u8))], nb := 14 })]
def spec_l02All.l3.F (k j : Nat) (x : Prod' spec_l02All.l3.ish.tys) : Option (Outs spec_l02All.l3.outs) := spec_l02All.l3 j x.1 x.2.1 x.2.2
def spec_l02All.l3.s (k : Nat) : Summ := { n := 78, ish := spec_l02All.l3.ish, outs := spec_l02All.l3.outs, f := spec_l02All.l3.F k k }
theorem spec_l02All.l3.ev (k j : Nat) (x : Prod' spec_l02All.l3.ish.tys) : V (spec_l02All.C k) .auto (cO (cO (cR (cL (cR (cR (cR (cR (cR (cR (cR (cR (cB Tryz.f108))))))))))))) (mk spec_l02All.l3.ish 78 x) (fun e st' => match e with | .nrm => (rd spec_l02All.l3.ish st').bind (spec_l02All.l3.F k j) | e => rdOut e st' spec_l02All.l3.outs) = spec_l02All.l3.F k (j + 1) x := by kernel_rfl
theorem spec_l02All.l3.ok (k : Nat) : SumOk Tryz.prog (spec_l02All.C k) (.loop (cO (cO (cR (cL (cR (cR (cR (cR (cR (cR (cR (cR (cB Tryz.f108)))))))))))))) (spec_l02All.l3.s k) := sum_ok (by kernel_rfl) (sum_loop (p := .auto) (F := spec_l02All.l3.F k) (spec_l02All.cok k) (by kernel_rfl) (plan_of (L := []) (by kernel_rfl) trivial) (fun _ => rfl) (fun j x y h => (spec_l02All.l3.ev k j x).trans h) k rfl)
theorem spec_l02All.ev (k : Nat) (x : Prod' spec_l02All.sig.ins) : spec_l02All.sig.ev (spec_l02All.C k) (.two .auto (.two .auto (.two (.one (.sum (spec_l02All.l0.s k))) (.two .auto (.two (.two .auto (.one (.sum (spec_l02All.l1.s k)))) (.two .auto (.two (.two .auto (.one (.sum (spec_l02All.l2.s k)))) (.two .auto (.two (.two .auto (.one (.sum (spec_l02All.l3.s k)))) .auto))))))))) Tryz.f108.results.toList (cB Tryz.f108) x = spec_l02All k x := by kernel_rfl
theorem spec_l02All.ok (k : Nat) : ConOk Tryz.prog 108 (spec_l02All.con k) := sig_ok (p := (.two .auto (.two .auto (.two (.one (.sum (spec_l02All.l0.s k))) (.two .auto (.two (.two .auto (.one (.sum (spec_l02All.l1.s k)))) (.two .auto (.two (.two .auto (.one (.sum (spec_l02All.l2.s k)))) (.two .auto (.two (.two .auto (.one (.sum (spec_l02All.l3.s k)))) .auto)))))))))) (spec_l02All.cok k) Tryz.func108 (by kernel_rfl) (show Tryz.f108.body = some (cB Tryz.f108) by kernel_rfl) (by kernel_rfl) (by kernel_rfl) (plan_of (L := [(spec_l02All.l0.s k, cO (cL (cR (cR (cB Tryz.f108))))), (spec_l02All.l1.s k, cO (cR (cL (cR (cR (cR (cR (cB Tryz.f108)))))))), (spec_l02All.l2.s k, cO (cR (cL (cR (cR (cR (cR (cR (cR (cB Tryz.f108)))))))))), (spec_l02All.l3.s k, cO (cR (cL (cR (cR (cR (cR (cR (cR (cR (cR (cB Tryz.f108))))))))))))]) (by kernel_rfl) ⟨spec_l02All.l0.ok k, spec_l02All.l1.ok k, spec_l02All.l2.ok k, spec_l02All.l3.ok k, trivial⟩) (fun x y h => (spec_l02All.ev k x).trans h)
def spec_Digest (k : Nat) (a1 : Str) : Option (Str) :=
  bif decide (8000 < ((a1.length) : Int)) then
    some ([])
  else
  Option.bind (spec_l02All k a1) fun v2 =>
  some v2
def spec_Digest.sig : Sig := { ps := [.val false .str (ros .str)], rs := [.val false [.v .str]], ntmps := 8 }
def spec_Digest.con (k : Nat) : Con := spec_Digest.sig.con (fun x => spec_Digest k x)
def spec_Digest.C (k : Nat) : Ctx := { ti := TAB, con := conL [(108, spec_l02All.con k)] }
theorem spec_Digest.cok (k : Nat) : CtxOk Tryz.prog (spec_Digest.C k) := ctx_ok TABok ⟨spec_l02All.ok k, trivial⟩
theorem spec_Digest.ev (k : Nat) (x : Prod' spec_Digest.sig.ins) : spec_Digest.sig.ev (spec_Digest.C k) .auto Tryz.f87.results.toList (cB Tryz.f87) x = spec_Digest k x := by kernel_rfl
theorem spec_Digest.ok (k : Nat) : ConOk Tryz.prog 87 (spec_Digest.con k) := sig_ok (p := .auto) (spec_Digest.cok k) Tryz.func87 (by kernel_rfl) (show Tryz.f87.body = some (cB Tryz.f87) by kernel_rfl) (by kernel_rfl) (by kernel_rfl) (plan_of (L := []) (by kernel_rfl) trivial) (fun x y h => (spec_Digest.ev k x).trans h)
def spec_ImageRight.l0 : Nat → List Str → Int → Option (Unit ⊕ Bool)
  | 0, _, _ => none
  | j + 1, a1, a2 =>
    bif decide (a2 < ((a1.length) : Int)) then
      Option.bind (at? a1 a2) fun v3 =>
      bif ((v3.length) : Int) != 8 then
        some (.inr false)
      else
      spec_ImageRight.l0 j a1 (IntKind.wrap .i64 (a2 + 1))
    else
    some (.inl ())
def spec_ImageRight (k : Nat) (a1 : List Str) : Option (Bool) :=
  bif (decide (((a1.length) : Int) < 1)) || (decide (8 < ((a1.length) : Int))) then
    some false
  else
  Option.bind (spec_ImageRight.l0 k a1 0) fun
    | .inl y2 =>
      some true
    | .inr y3 =>
      some y3
def spec_ImageRight.sig : Sig := { ps := [.val false (.sl .str) (ros (.sl .str))], rs := [.val false [.v .bool]], ntmps := 24 }
def spec_ImageRight.con (k : Nat) : Con := spec_ImageRight.sig.con (fun x => spec_ImageRight k x)
def spec_ImageRight.C (k : Nat) : Ctx := { ti := TAB, con := conL [] }
theorem spec_ImageRight.cok (k : Nat) : CtxOk Tryz.prog (spec_ImageRight.C k) := ctx_ok TABok trivial
def spec_ImageRight.l0.ish : Shape := { tmps := [(0, .one (.bor .str)), (3, .one (.v (.int .i64)))], slots := [], nb := 0 }
def spec_ImageRight.l0.outs : List (Ex × Shape) := [(.exit 0, { tmps := [], slots := [], nb := 0 }), (.ret, { tmps := [(2, .one (.v .bool))], slots := [], nb := 0 })]
def spec_ImageRight.l0.F (k j : Nat) (x : Prod' spec_ImageRight.l0.ish.tys) : Option (Outs spec_ImageRight.l0.outs) := spec_ImageRight.l0 j x.1 x.2
def spec_ImageRight.l0.s (k : Nat) : Summ := { n := 24, ish := spec_ImageRight.l0.ish, outs := spec_ImageRight.l0.outs, f := spec_ImageRight.l0.F k k }
theorem spec_ImageRight.l0.ev (k j : Nat) (x : Prod' spec_ImageRight.l0.ish.tys) : V (spec_ImageRight.C k) .auto (cO (cO (cR (cL (cR (cR (cB Tryz.f103))))))) (mk spec_ImageRight.l0.ish 24 x) (fun e st' => match e with | .nrm => (rd spec_ImageRight.l0.ish st').bind (spec_ImageRight.l0.F k j) | e => rdOut e st' spec_ImageRight.l0.outs) = spec_ImageRight.l0.F k (j + 1) x := by kernel_rfl
theorem spec_ImageRight.l0.ok (k : Nat) : SumOk Tryz.prog (spec_ImageRight.C k) (.loop (cO (cO (cR (cL (cR (cR (cB Tryz.f103)))))))) (spec_ImageRight.l0.s k) := sum_ok (by kernel_rfl) (sum_loop (p := .auto) (F := spec_ImageRight.l0.F k) (spec_ImageRight.cok k) (by kernel_rfl) (plan_of (L := []) (by kernel_rfl) trivial) (fun _ => rfl) (fun j x y h => (spec_ImageRight.l0.ev k j x).trans h) k rfl)
theorem spec_ImageRight.ev (k : Nat) (x : Prod' spec_ImageRight.sig.ins) : spec_ImageRight.sig.ev (spec_ImageRight.C k) (.two .auto (.two .auto (.two (.two .auto (.one (.sum (spec_ImageRight.l0.s k)))) .auto))) Tryz.f103.results.toList (cB Tryz.f103) x = spec_ImageRight k x := by kernel_rfl
theorem spec_ImageRight.ok (k : Nat) : ConOk Tryz.prog 103 (spec_ImageRight.con k) := sig_ok (p := (.two .auto (.two .auto (.two (.two .auto (.one (.sum (spec_ImageRight.l0.s k)))) .auto)))) (spec_ImageRight.cok k) Tryz.func103 (by kernel_rfl) (show Tryz.f103.body = some (cB Tryz.f103) by kernel_rfl) (by kernel_rfl) (by kernel_rfl) (plan_of (L := [(spec_ImageRight.l0.s k, cO (cR (cL (cR (cR (cB Tryz.f103))))))]) (by kernel_rfl) ⟨spec_ImageRight.l0.ok k, trivial⟩) (fun x y h => (spec_ImageRight.ev k x).trans h)
def spec_l07Join.l0 : Nat → List Str → Str → Int → Option (Str)
  | 0, _, _, _ => none
  | j + 1, a1, a2, a3 =>
    bif decide (a3 < ((a1.length) : Int)) then
      Option.bind (at? a1 a3) fun v4 =>
      Option.bind (cat? a2 v4) fun v5 =>
      spec_l07Join.l0 j a1 v5 (IntKind.wrap .i64 (a3 + 1))
    else
    some a2
def spec_l07Join (k : Nat) (a1 : List Str) : Option (Str) :=
  Option.bind (spec_l07Join.l0 k a1 [] 0) fun y2 =>
  some y2
def spec_l07Join.sig : Sig := { ps := [.val false (.sl .str) (ros (.sl .str))], rs := [.val false [.v .str]], ntmps := 18 }
def spec_l07Join.con (k : Nat) : Con := spec_l07Join.sig.con (fun x => spec_l07Join k x)
def spec_l07Join.C (k : Nat) : Ctx := { ti := TAB, con := conL [] }
theorem spec_l07Join.cok (k : Nat) : CtxOk Tryz.prog (spec_l07Join.C k) := ctx_ok TABok trivial
def spec_l07Join.l0.ish : Shape := { tmps := [(0, .one (.bor .str)), (3, .one (.v .str)), (4, .one (.v (.int .i64)))], slots := [], nb := 0 }
def spec_l07Join.l0.outs : List (Ex × Shape) := [(.exit 0, { tmps := [(3, .one (.v .str))], slots := [], nb := 0 })]
def spec_l07Join.l0.F (k j : Nat) (x : Prod' spec_l07Join.l0.ish.tys) : Option (Outs spec_l07Join.l0.outs) := spec_l07Join.l0 j x.1 x.2.1 x.2.2
def spec_l07Join.l0.s (k : Nat) : Summ := { n := 18, ish := spec_l07Join.l0.ish, outs := spec_l07Join.l0.outs, f := spec_l07Join.l0.F k k }
theorem spec_l07Join.l0.ev (k j : Nat) (x : Prod' spec_l07Join.l0.ish.tys) : V (spec_l07Join.C k) .auto (cO (cO (cR (cL (cR (cR (cB Tryz.f106))))))) (mk spec_l07Join.l0.ish 18 x) (fun e st' => match e with | .nrm => (rd spec_l07Join.l0.ish st').bind (spec_l07Join.l0.F k j) | e => rdOut e st' spec_l07Join.l0.outs) = spec_l07Join.l0.F k (j + 1) x := by kernel_rfl
theorem spec_l07Join.l0.ok (k : Nat) : SumOk Tryz.prog (spec_l07Join.C k) (.loop (cO (cO (cR (cL (cR (cR (cB Tryz.f106)))))))) (spec_l07Join.l0.s k) := sum_ok (by kernel_rfl) (sum_loop (p := .auto) (F := spec_l07Join.l0.F k) (spec_l07Join.cok k) (by kernel_rfl) (plan_of (L := []) (by kernel_rfl) trivial) (fun _ => rfl) (fun j x y h => (spec_l07Join.l0.ev k j x).trans h) k rfl)
theorem spec_l07Join.ev (k : Nat) (x : Prod' spec_l07Join.sig.ins) : spec_l07Join.sig.ev (spec_l07Join.C k) (.two .auto (.two .auto (.two (.two .auto (.one (.sum (spec_l07Join.l0.s k)))) .auto))) Tryz.f106.results.toList (cB Tryz.f106) x = spec_l07Join k x := by kernel_rfl
theorem spec_l07Join.ok (k : Nat) : ConOk Tryz.prog 106 (spec_l07Join.con k) := sig_ok (p := (.two .auto (.two .auto (.two (.two .auto (.one (.sum (spec_l07Join.l0.s k)))) .auto)))) (spec_l07Join.cok k) Tryz.func106 (by kernel_rfl) (show Tryz.f106.body = some (cB Tryz.f106) by kernel_rfl) (by kernel_rfl) (by kernel_rfl) (plan_of (L := [(spec_l07Join.l0.s k, cO (cR (cL (cR (cR (cB Tryz.f106))))))]) (by kernel_rfl) ⟨spec_l07Join.l0.ok k, trivial⟩) (fun x y h => (spec_l07Join.ev k x).trans h)
def spec_ImageDigest (k : Nat) (a1 : List Str) : Option (Str) :=
  Option.bind (spec_ImageRight k a1) fun v2 =>
  bif !v2 then
    some ([])
  else
  Option.bind (spec_l07Join k a1) fun v3 =>
  Option.bind (spec_Digest k v3) fun v4 =>
  some v4
def spec_ImageDigest.sig : Sig := { ps := [.val false (.sl .str) (ros (.sl .str))], rs := [.val false [.v .str]], ntmps := 9 }
def spec_ImageDigest.con (k : Nat) : Con := spec_ImageDigest.sig.con (fun x => spec_ImageDigest k x)
def spec_ImageDigest.C (k : Nat) : Ctx := { ti := TAB, con := conL [(87, spec_Digest.con k), (103, spec_ImageRight.con k), (106, spec_l07Join.con k)] }
theorem spec_ImageDigest.cok (k : Nat) : CtxOk Tryz.prog (spec_ImageDigest.C k) := ctx_ok TABok ⟨spec_Digest.ok k, spec_ImageRight.ok k, spec_l07Join.ok k, trivial⟩
theorem spec_ImageDigest.ev (k : Nat) (x : Prod' spec_ImageDigest.sig.ins) : spec_ImageDigest.sig.ev (spec_ImageDigest.C k) .auto Tryz.f85.results.toList (cB Tryz.f85) x = spec_ImageDigest k x := by kernel_rfl
theorem spec_ImageDigest.ok (k : Nat) : ConOk Tryz.prog 85 (spec_ImageDigest.con k) := sig_ok (p := .auto) (spec_ImageDigest.cok k) Tryz.func85 (by kernel_rfl) (show Tryz.f85.body = some (cB Tryz.f85) by kernel_rfl) (by kernel_rfl) (by kernel_rfl) (plan_of (L := []) (by kernel_rfl) trivial) (fun x y h => (spec_ImageDigest.ev k x).trans h)
def spec_l08Ill (a1 : Int) : Option (Int × Str × List G29 × Int) :=
  some (0, [], [], a1)
def spec_l08Ill.sig : Sig := { ps := [.val false (.int .i64) (ros (.int .i64))], rs := [.val true [.v (.int .i64), .v .str, .own 49 T29, .v (.int .i64)]], ntmps := 5 }
def spec_l08Ill.con (k : Nat) : Con := spec_l08Ill.sig.con (fun x => spec_l08Ill x)
def spec_l08Ill.C (k : Nat) : Ctx := { ti := TAB, con := conL [] }
theorem spec_l08Ill.cok (k : Nat) : CtxOk Tryz.prog (spec_l08Ill.C k) := ctx_ok TABok trivial
theorem spec_l08Ill.ev (k : Nat) (x : Prod' spec_l08Ill.sig.ins) : spec_l08Ill.sig.ev (spec_l08Ill.C k) .auto Tryz.f102.results.toList (cB Tryz.f102) x = spec_l08Ill x := by kernel_rfl
theorem spec_l08Ill.ok (k : Nat) : ConOk Tryz.prog 102 (spec_l08Ill.con k) := sig_ok (p := .auto) (spec_l08Ill.cok k) Tryz.func102 (by kernel_rfl) (show Tryz.f102.body = some (cB Tryz.f102) by kernel_rfl) (by kernel_rfl) (by kernel_rfl) (plan_of (L := []) (by kernel_rfl) trivial) (fun x y h => (spec_l08Ill.ev k x).trans h)
def spec_l07Zero  : Option (Str) :=
  Option.bind (make? 1 8 8 0) fun v1 =>
  some (listByte v1)
def spec_l07Zero.sig : Sig := { ps := [], rs := [.val false [.v .str]], ntmps := 3 }
def spec_l07Zero.con (k : Nat) : Con := spec_l07Zero.sig.con (fun x => spec_l07Zero )
def spec_l07Zero.C (k : Nat) : Ctx := { ti := TAB, con := conL [] }
theorem spec_l07Zero.cok (k : Nat) : CtxOk Tryz.prog (spec_l07Zero.C k) := ctx_ok TABok trivial
theorem spec_l07Zero.ev (k : Nat) (x : Prod' spec_l07Zero.sig.ins) : spec_l07Zero.sig.ev (spec_l07Zero.C k) .auto Tryz.f117.results.toList (cB Tryz.f117) x = spec_l07Zero  := by kernel_rfl
theorem spec_l07Zero.ok (k : Nat) : ConOk Tryz.prog 117 (spec_l07Zero.con k) := sig_ok (p := .auto) (spec_l07Zero.cok k) Tryz.func117 (by kernel_rfl) (show Tryz.f117.body = some (cB Tryz.f117) by kernel_rfl) (by kernel_rfl) (by kernel_rfl) (plan_of (L := []) (by kernel_rfl) trivial) (fun x y h => (spec_l07Zero.ev k x).trans h)
def spec_Xored.l0 : Nat → Str → Str → Int → List Int → Option ((List Int))
  | 0, _, _, _, _ => none
  | j + 1, a1, a2, a3, a4 =>
    bif decide (a3 < 8) then
      Option.bind (at? a1 a3) fun v5 =>
      Option.bind (at? a2 a3) fun v6 =>
      Option.bind (at? a4 a3) fun v7 =>
      Option.bind (at? a4 a3) fun v8 =>
      spec_Xored.l0 j a1 a2 (IntKind.wrap .i64 (a3 + 1)) (List.set a4 (Int.toNat a3) (intBits .xor .u8 (v5.toNat : Int) (v6.toNat : Int)))
    else
    some a4
def spec_Xored (k : Nat) (a1 : Str) (a2 : Str) : Option (Str) :=
  bif (((a1.length) : Int) != 8) || (((a2.length) : Int) != 8) then
    some ([])
  else
  Option.bind (make? 1 8 8 0) fun v3 =>
  Option.bind (spec_Xored.l0 k a1 a2 0 v3) fun y4 =>
  some (listByte y4)
def spec_Xored.sig : Sig := { ps := [.val false .str (ros .str), .val false .str (ros .str)], rs := [.val false [.v .str]], ntmps := 32 }
def spec_Xored.con (k : Nat) : Con := spec_Xored.sig.con (fun x => spec_Xored k x.1 x.2)
def spec_Xored.C (k : Nat) : Ctx := { ti := TAB, con := conL [] }
theorem spec_Xored.cok (k : Nat) : CtxOk Tryz.prog (spec_Xored.C k) := ctx_ok TABok trivial
def spec_Xored.l0.ish : Shape := { tmps := [(0, .one (.v .str)), (1, .one (.v .str)), (5, .one (.own 1)), (6, .one (.v (.int .i64)))], slots := [(1, .arr false 5 (.int .u8))], nb := 2 }
def spec_Xored.l0.outs : List (Ex × Shape) := [(.exit 0, { tmps := [(5, .one (.own 2))], slots := [(2, .arr false 5 (.int .u8))], nb := 3 })]
def spec_Xored.l0.F (k j : Nat) (x : Prod' spec_Xored.l0.ish.tys) : Option (Outs spec_Xored.l0.outs) := spec_Xored.l0 j x.1 x.2.1 x.2.2.1 x.2.2.2
def spec_Xored.l0.s (k : Nat) : Summ := { n := 32, ish := spec_Xored.l0.ish, outs := spec_Xored.l0.outs, f := spec_Xored.l0.F k k }
theorem spec_Xored.l0.ev (k j : Nat) (x : Prod' spec_Xored.l0.ish.tys) : V (spec_Xored.C k) .auto (cO (cO (cR (cL (cR (cR (cR (cB Tryz.f118)))))))) (mk spec_Xored.l0.ish 32 x) (fun e st' => match e with | .nrm => (rd spec_Xored.l0.ish st').bind (spec_Xored.l0.F k j) | e => rdOut e st' spec_Xored.l0.outs) = spec_Xored.l0.F k (j + 1) x := by kernel_rfl
theorem spec_Xored.l0.ok (k : Nat) : SumOk Tryz.prog (spec_Xored.C k) (.loop (cO (cO (cR (cL (cR (cR (cR (cB Tryz.f118))))))))) (spec_Xored.l0.s k) := sum_ok (by kernel_rfl) (sum_loop (p := .auto) (F := spec_Xored.l0.F k) (spec_Xored.cok k) (by kernel_rfl) (plan_of (L := []) (by kernel_rfl) trivial) (fun _ => rfl) (fun j x y h => (spec_Xored.l0.ev k j x).trans h) k rfl)
theorem spec_Xored.ev (k : Nat) (x : Prod' spec_Xored.sig.ins) : spec_Xored.sig.ev (spec_Xored.C k) (.two .auto (.two .auto (.two .auto (.two (.two .auto (.one (.sum (spec_Xored.l0.s k)))) .auto)))) Tryz.f118.results.toList (cB Tryz.f118) x = spec_Xored k x.1 x.2 := by kernel_rfl
theorem spec_Xored.ok (k : Nat) : ConOk Tryz.prog 118 (spec_Xored.con k) := sig_ok (p := (.two .auto (.two .auto (.two .auto (.two (.two .auto (.one (.sum (spec_Xored.l0.s k)))) .auto))))) (spec_Xored.cok k) Tryz.func118 (by kernel_rfl) (show Tryz.f118.body = some (cB Tryz.f118) by kernel_rfl) (by kernel_rfl) (by kernel_rfl) (plan_of (L := [(spec_Xored.l0.s k, cO (cR (cL (cR (cR (cR (cB Tryz.f118)))))))]) (by kernel_rfl) ⟨spec_Xored.l0.ok k, trivial⟩) (fun x y h => (spec_Xored.ev k x).trans h)
def spec_l07Other.l0 : Nat → Str → Str → Int → Int → Option (Int)
  | 0, _, _, _, _ => none
  | j + 1, a1, a2, a3, a4 =>
    bif decide (a4 < 8) then
      Option.bind (at? a1 a4) fun v5 =>
      Option.bind (at? a2 a4) fun v6 =>
      let e7 := IntKind.wrap .i64 (a4 + 1)
      bif (v5.toNat : Int) != (v6.toNat : Int) then
        spec_l07Other.l0 j a1 a2 (IntKind.wrap .i64 (a3 + 1)) e7
      else
      spec_l07Other.l0 j a1 a2 a3 e7
    else
    some a3
def spec_l07Other (k : Nat) (a1 : Str) (a2 : Str) : Option (Int) :=
  Option.bind (spec_l07Other.l0 k a1 a2 0 0) fun y3 =>
  some y3
def spec_l07Other.sig : Sig := { ps := [.val false .str (ros .str), .val false .str (ros .str)], rs := [.val false [.v (.int .i64)]], ntmps := 21 }
def spec_l07Other.con (k : Nat) : Con := spec_l07Other.sig.con (fun x => spec_l07Other k x.1 x.2)
def spec_l07Other.C (k : Nat) : Ctx := { ti := TAB, con := conL [] }
theorem spec_l07Other.cok (k : Nat) : CtxOk Tryz.prog (spec_l07Other.C k) := ctx_ok TABok trivial
def spec_l07Other.l0.ish : Shape := { tmps := [(0, .one (.v .str)), (1, .one (.v .str)), (5, .one (.v (.int .i64))), (6, .one (.v (.int .i64)))], slots := [], nb := 0 }
def spec_l07Other.l0.outs : List (Ex × Shape) := [(.exit 0, { tmps := [(5, .one (.v (.int .i64)))], slots := [], nb := 0 })]
def spec_l07Other.l0.F (k j : Nat) (x : Prod' spec_l07Other.l0.ish.tys) : Option (Outs spec_l07Other.l0.outs) := spec_l07Other.l0 j x.1 x.2.1 x.2.2.1 x.2.2.2
def spec_l07Other.l0.s (k : Nat) : Summ := { n := 21, ish := spec_l07Other.l0.ish, outs := spec_l07Other.l0.outs, f := spec_l07Other.l0.F k k }
theorem spec_l07Other.l0.ev (k j : Nat) (x : Prod' spec_l07Other.l0.ish.tys) : V (spec_l07Other.C k) .auto (cO (cO (cR (cL (cR (cR (cB Tryz.f122))))))) (mk spec_l07Other.l0.ish 21 x) (fun e st' => match e with | .nrm => (rd spec_l07Other.l0.ish st').bind (spec_l07Other.l0.F k j) | e => rdOut e st' spec_l07Other.l0.outs) = spec_l07Other.l0.F k (j + 1) x := by kernel_rfl
theorem spec_l07Other.l0.ok (k : Nat) : SumOk Tryz.prog (spec_l07Other.C k) (.loop (cO (cO (cR (cL (cR (cR (cB Tryz.f122)))))))) (spec_l07Other.l0.s k) := sum_ok (by kernel_rfl) (sum_loop (p := .auto) (F := spec_l07Other.l0.F k) (spec_l07Other.cok k) (by kernel_rfl) (plan_of (L := []) (by kernel_rfl) trivial) (fun _ => rfl) (fun j x y h => (spec_l07Other.l0.ev k j x).trans h) k rfl)
theorem spec_l07Other.ev (k : Nat) (x : Prod' spec_l07Other.sig.ins) : spec_l07Other.sig.ev (spec_l07Other.C k) (.two .auto (.two .auto (.two (.two .auto (.one (.sum (spec_l07Other.l0.s k)))) .auto))) Tryz.f122.results.toList (cB Tryz.f122) x = spec_l07Other k x.1 x.2 := by kernel_rfl
theorem spec_l07Other.ok (k : Nat) : ConOk Tryz.prog 122 (spec_l07Other.con k) := sig_ok (p := (.two .auto (.two .auto (.two (.two .auto (.one (.sum (spec_l07Other.l0.s k)))) .auto)))) (spec_l07Other.cok k) Tryz.func122 (by kernel_rfl) (show Tryz.f122.body = some (cB Tryz.f122) by kernel_rfl) (by kernel_rfl) (by kernel_rfl) (plan_of (L := [(spec_l07Other.l0.s k, cO (cR (cL (cR (cR (cB Tryz.f122))))))]) (by kernel_rfl) ⟨spec_l07Other.l0.ok k, trivial⟩) (fun x y h => (spec_l07Other.ev k x).trans h)
def spec_l07For.l0 : Nat → List Str → Int → Str → Int → Int → Int → Int → Str → Option ((Int × Int × Int × Str) ⊕ (Int × Int × Int × Str))
  | 0, _, _, _, _, _, _, _, _ => none
  | j + 1, a1, a2, a3, a4, a5, a6, a7, a8 =>
    bif decide (a4 < ((a1.length) : Int)) then
      Option.bind (at? a1 a4) fun v9 =>
      bif v9 == a3 then
        some (.inr (3, a2, a4, []))
      else
      spec_l07For.l0 j a1 a2 a3 (IntKind.wrap .i64 (a4 + 1)) a5 a6 a7 a8
    else
    some (.inl (a5, a6, a7, a8))
def spec_l07For.l1 (k : Nat) : Nat → List Str → Int → Str → Int → Int → Int → Int → Str → Option ((Int × Int × Int × Str) ⊕ (Int × Int × Int × Str))
  | 0, _, _, _, _, _, _, _, _ => none
  | j + 1, a1, a2, a3, a4, a5, a6, a7, a8 =>
    bif decide (a4 < ((a1.length) : Int)) then
      Option.bind (at? a1 a4) fun v9 =>
      Option.bind (spec_l07Other k v9 a3) fun v10 =>
      bif decide (v10 ≤ 2) then
        Option.bind (at? a1 a4) fun v11 =>
        Option.bind (spec_Xored k v11 a3) fun v12 =>
        some (.inr (4, a2, a4, v12))
      else
      spec_l07For.l1 k j a1 a2 a3 (IntKind.wrap .i64 (a4 + 1)) a5 a6 a7 a8
    else
    some (.inl (a5, a6, a7, a8))
def spec_l07For (k : Nat) (a1 : List Str) (a2 : Int) (a3 : Str) : Option (Int × Int × Int × Str) :=
  Option.bind (spec_l07Zero ) fun v4 =>
  bif a3 == v4 then
    some (1, a2, 0, [])
  else
  Option.bind (spec_l07For.l0 k a1 a2 a3 0 0 0 0 []) fun
    | .inl y5 =>
      Option.bind (spec_l07For.l1 k k a1 a2 a3 0 y5.1 y5.2.1 y5.2.2.1 y5.2.2.2) fun
        | .inl y6 =>
          some (2, a2, 0, a3)
        | .inr y7 =>
          some (y7.1, y7.2.1, y7.2.2.1, y7.2.2.2)
    | .inr y8 =>
      some (y8.1, y8.2.1, y8.2.2.1, y8.2.2.2)
def spec_l07For.sig : Sig := { ps := [.val false (.sl .str) (ros (.sl .str)), .val false (.int .i64) (ros (.int .i64)), .val false .str (ros .str)], rs := [.val true [.v (.int .i64), .v (.int .i64), .v (.int .i64), .v .str]], ntmps := 54 }
def spec_l07For.con (k : Nat) : Con := spec_l07For.sig.con (fun x => spec_l07For k x.1 x.2.1 x.2.2)
def spec_l07For.C (k : Nat) : Ctx := { ti := TAB, con := conL [(117, spec_l07Zero.con k), (118, spec_Xored.con k), (122, spec_l07Other.con k)] }
theorem spec_l07For.cok (k : Nat) : CtxOk Tryz.prog (spec_l07For.C k) := ctx_ok TABok ⟨spec_l07Zero.ok k, spec_Xored.ok k, spec_l07Other.ok k, trivial⟩
def spec_l07For.l0.ish : Shape := { tmps := [(0, .one (.bor .str)), (1, .one (.v (.int .i64))), (2, .one (.v .str)), (6, .one (.ptr 0 0)), (7, .one (.v (.int .i64)))], slots := [(0, .box 49 [.v (.int .i64), .v (.int .i64), .v (.int .i64), .v .str])], nb := 1 }
def spec_l07For.l0.outs : List (Ex × Shape) := [(.exit 0, { tmps := [], slots := [(0, .box 49 [.v (.int .i64), .v (.int .i64), .v (.int .i64), .v .str])], nb := 1 }), (.ret, { tmps := [], slots := [(0, .box 49 [.v (.int .i64), .v (.int .i64), .v (.int .i64), .v .str])], nb := 1 })]
def spec_l07For.l0.F (k j : Nat) (x : Prod' spec_l07For.l0.ish.tys) : Option (Outs spec_l07For.l0.outs) := spec_l07For.l0 j x.1 x.2.1 x.2.2.1 x.2.2.2.1 x.2.2.2.2.1 x.2.2.2.2.2.1 x.2.2.2.2.2.2.1 x.2.2.2.2.2.2.2
def spec_l07For.l0.s (k : Nat) : Summ := { n := 54, ish := spec_l07For.l0.ish, outs := spec_l07For.l0.outs, f := spec_l07For.l0.F k k }
theorem spec_l07For.l0.ev (k j : Nat) (x : Prod' spec_l07For.l0.ish.tys) : V (spec_l07For.C k) .auto (cO (cO (cR (cL (cR (cR (cB Tryz.f116))))))) (mk spec_l07For.l0.ish 54 x) (fun e st' => match e with | .nrm => (rd spec_l07For.l0.ish st').bind (spec_l07For.l0.F k j) | e => rdOut e st' spec_l07For.l0.outs) = spec_l07For.l0.F k (j + 1) x := by kernel_rfl
theorem spec_l07For.l0.ok (k : Nat) : SumOk Tryz.prog (spec_l07For.C k) (.loop (cO (cO (cR (cL (cR (cR (cB Tryz.f116)))))))) (spec_l07For.l0.s k) := sum_ok (by kernel_rfl) (sum_loop (p := .auto) (F := spec_l07For.l0.F k) (spec_l07For.cok k) (by kernel_rfl) (plan_of (L := []) (by kernel_rfl) trivial) (fun _ => rfl) (fun j x y h => (spec_l07For.l0.ev k j x).trans h) k rfl)
def spec_l07For.l1.ish : Shape := { tmps := [(0, .one (.bor .str)), (1, .one (.v (.int .i64))), (2, .one (.v .str)), (6, .one (.ptr 0 0)), (8, .one (.v (.int .i64)))], slots := [(0, .box 49 [.v (.int .i64), .v (.int .i64), .v (.int .i64), .v .str])], nb := 1 }
def spec_l07For.l1.outs : List (Ex × Shape) := [(.exit 2, { tmps := [], slots := [(0, .box 49 [.v (.int .i64), .v (.int .i64), .v (.int .i64), .v .str])], nb := 1 }), (.ret, { tmps := [], slots := [(0, .box 49 [.v (.int .i64), .v (.int .i64), .v (.int .i64), .v .str])], nb := 1 })]
def spec_l07For.l1.F (k j : Nat) (x : Prod' spec_l07For.l1.ish.tys) : Option (Outs spec_l07For.l1.outs) := spec_l07For.l1 k j x.1 x.2.1 x.2.2.1 x.2.2.2.1 x.2.2.2.2.1 x.2.2.2.2.2.1 x.2.2.2.2.2.2.1 x.2.2.2.2.2.2.2
def spec_l07For.l1.s (k : Nat) : Summ := { n := 54, ish := spec_l07For.l1.ish, outs := spec_l07For.l1.outs, f := spec_l07For.l1.F k k }
theorem spec_l07For.l1.ev (k j : Nat) (x : Prod' spec_l07For.l1.ish.tys) : V (spec_l07For.C k) .auto (cO (cO (cR (cL (cR (cR (cR (cB Tryz.f116)))))))) (mk spec_l07For.l1.ish 54 x) (fun e st' => match e with | .nrm => (rd spec_l07For.l1.ish st').bind (spec_l07For.l1.F k j) | e => rdOut e st' spec_l07For.l1.outs) = spec_l07For.l1.F k (j + 1) x := by kernel_rfl
theorem spec_l07For.l1.ok (k : Nat) : SumOk Tryz.prog (spec_l07For.C k) (.loop (cO (cO (cR (cL (cR (cR (cR (cB Tryz.f116))))))))) (spec_l07For.l1.s k) := sum_ok (by kernel_rfl) (sum_loop (p := .auto) (F := spec_l07For.l1.F k) (spec_l07For.cok k) (by kernel_rfl) (plan_of (L := []) (by kernel_rfl) trivial) (fun _ => rfl) (fun j x y h => (spec_l07For.l1.ev k j x).trans h) k rfl)
theorem spec_l07For.ev (k : Nat) (x : Prod' spec_l07For.sig.ins) : spec_l07For.sig.ev (spec_l07For.C k) (.two .auto (.two .auto (.two (.two .auto (.one (.sum (spec_l07For.l0.s k)))) (.two (.two .auto (.one (.sum (spec_l07For.l1.s k)))) .auto)))) Tryz.f116.results.toList (cB Tryz.f116) x = spec_l07For k x.1 x.2.1 x.2.2 := by kernel_rfl
theorem spec_l07For.ok (k : Nat) : ConOk Tryz.prog 116 (spec_l07For.con k) := sig_ok (p := (.two .auto (.two .auto (.two (.two .auto (.one (.sum (spec_l07For.l0.s k)))) (.two (.two .auto (.one (.sum (spec_l07For.l1.s k)))) .auto))))) (spec_l07For.cok k) Tryz.func116 (by kernel_rfl) (show Tryz.f116.body = some (cB Tryz.f116) by kernel_rfl) (by kernel_rfl) (by kernel_rfl) (plan_of (L := [(spec_l07For.l0.s k, cO (cR (cL (cR (cR (cB Tryz.f116)))))), (spec_l07For.l1.s k, cO (cR (cL (cR (cR (cR (cB Tryz.f116)))))))]) (by kernel_rfl) ⟨spec_l07For.l0.ok k, spec_l07For.l1.ok k, trivial⟩) (fun x y h => (spec_l07For.ev k x).trans h)
end Go.Proofs.YtaajcllchbnjiaaGreatE
