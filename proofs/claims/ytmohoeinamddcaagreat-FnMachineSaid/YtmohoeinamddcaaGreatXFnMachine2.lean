/- What the law FnMachine needs, part 3 of 16: the Lean functions of the Go functions that it reaches, with the proofs that the calls come to what they say, and plain facts about them. Conditions: those that each theorem states. Written by a session and by its programs (after the kit's printer). -/
import Derived.Laws.MakeOwn
import Derived.Laws.BytesString
import Derived.Laws.IdiomStrings
import Derived.Lib.AppendStr
import Derived.Test.YtmohoeinamddcaaGreatXFnMachine1
open Nat renaming eq_of_beq_eq_true → Ya, beq → Yb, add_mul → Yc, le_refl → Ye, mul_le_mul_right → Yg, one_mul → Yi, mul_one → Yl, zero_add → Ym, add_zero → Yq, zero_le → Yx, blt → Y2, le_mul_of_pos_right → Y3, le_trans → Y4, le_of_ble_eq_true → Yda, zero_mul → Yea, lt_of_lt_of_le → Yoa, add_comm → Yta, lt_irrefl → Yua, lt_or_ge → Yva, mod_eq_of_lt → Ywa
open List renaming length_append → Yd, getElem?_eq_some_iff → Yh, getElem?_append_left → Yj, length_take → Yk, getElem?_append_right → Yo, getElem?_take → Yp, append_assoc → Ys, drop_eq_nil_of_le → Yt, ext_getElem? → Yu, getElem?_map → Yv, replicate → Yw, length_replicate → Y0, nil_append → Y1, drop_append_of_le_length → Y6, drop_eq_getElem_cons → Y7, eq_nil_of_length_eq_zero → Y8, length_nil → Y9, size_toArray → Yaa, take_append_of_le_length → Yba, toList_toArray → Yca, append_nil → Yha, drop_append → Yia, getElem?_drop → Yja, getElem?_eq_none → Yka, getElem?_take_of_lt → Yla, length_cons → Yma, length_drop → Yna, getElem?_replicate → Yqa, length → Yra, take_left → Ysa
open Bool renaming and_eq_true → Yf
open Array renaming toList_append → Yn, getElem?_eq_some_iff → Yr, getElem?_setIfInBounds → Yy, length_toList → Yz, size_append → Y5, empty_append → Yfa, toList_map → Ypa
open Int renaming le_refl → Yga
open Option renaming map_eq_some_iff → Yxa
namespace Go.Proofs.Qz
open Go Go.RowKit Go.Lib
set_option linter.unusedVariables false
section
variable {P:Program} {o:Oper} {X:Nat→Prop} {ρ ρ':Rho} {st st':St} {a:Act} {w w':World} {g:Option (Nat×Bool)} {R:Type} {r:R} {K:AV→St→Option R} {C:Ctx}
theorem Zqnb (z:Array Value) (n j:Nat) (hj:j<n) (hz:0<z.size):((madeCells z (n*z.size)).toList.drop (j*z.size)).take z.size=z.toList:=by
 apply Yu
 intro k
 rw [Zki]
 by_cases hk:k<z.size
 ·rw [Xc hk]
  have h1:(j+1)*z.size≤n*z.size:=Yg _ hj;rw [Yc,Yi] at h1;have h2:j*z.size+k<n*z.size:=by omega
  have h3:(j*z.size+k)%z.size=k:=by
   rw [Nat.mul_comm,Nat.mul_add_mod,Ywa hk]
  simp only [madeCells,Ypa,Yv,Array.toList_range,List.getElem?_range h2,Option.map_some,h3];simp [hk]
 ·rw [Xd hk,Yka (by simpa using hk)]
theorem Z7kb (T:Zob P C.ti) (h:Rel X ρ st a w) (hg:Zyc a g) {t:TypeId} {x y:Operand} (ho:o.op = .makeSlice t x y)
  (hr:(Zvi C t fun ti ei=>(opd g x).bind fun v=>(opd g y).bind fun u=>Z84 ti ei v u).run st K=some r):Zdb P o a w X ρ st K r:=by
 obtain ⟨ti,ei,hti,hei,hk,hr1⟩:=Zfm hr
 clear hr
 rw [M.run_bind] at hr1
 obtain ⟨v,hr,hv⟩:=Zyb h hg hr1
 clear hr1
 rw [M.run_bind] at hr
 obtain ⟨u,hr1,hu⟩:=Zyb h hg hr
 clear hr
 unfold Z84 at hr1
 rw [M.run_bind] at hr1
 obtain ⟨k1,n,hn,hr⟩:=Z9j hv hr1
 clear hr1
 rw [M.run_bind] at hr
 obtain ⟨k2,c,hc,hr1⟩:=Z9j hu hr
 clear hr
 cases hb:(Yb ei.ty.sz ei.sz&&Y2 0 ei.sz) with
 | false=>rw [hb] at hr1;cases hr1
 | true=>
  rw [hb] at hr1;obtain ⟨c3,c4⟩:=(Yf _ _).mp hb;have c3:=Ya c3;have c4:0<ei.sz:=Yda c4
  replace hr1:(match Z9h ei.ty ei.zero with
   | some z=>M.opt (List ei.ty.T) (Z9g ei.bytes n c z) fun xs=>.new (.arr false ti.elem ei.ty xs) fun m=>.ret (AV.one (.own m))
   | none=>.fail).run st K=some r:=hr1
  split at hr1
  ·rename_i z0 hz0
   obtain ⟨l,hl,hr2⟩:=Zyf hr1;unfold Z9g at hl;split at hl
   ·rename_i hcond
    cases hl;obtain ⟨hnl,hr2⟩:=Zvj hr2;obtain ⟨q0,q1,q2⟩:=hcond;obtain ⟨q,hq1,hq2,hq3,z,hz,hz1,hz2⟩:=(T _ _ hei).info;have hund:=Zxq T hti hk;have hpos:=(T _ _ hei).pos c4;have hc47:c.toNat≤140737488355328:=Y4 (Y3 _ hpos) q2
    have hbytes:(q.bytes:Int)*c≤281474976710656:=by
     have h1:((c.toNat*ei.bytes:Nat):Int)≤140737488355328:=by omega
     rw [Int.natCast_mul] at h1;rw [hq3,Int.mul_comm];have h2:((c.toNat:Nat):Int)=c:=by omega
     rw [h2] at h1;omega
    have hrun:=run_make (P:=P) w t ti.elem q z hund hq1 hz k1 k2 n c q0 q1 hbytes (by omega);rw [hq2,← hz1] at hrun;have hms:(madeCells z.cells (c.toNat*z.cells.size)).size=c.toNat*z.cells.size:=size_madeCells _ _;have x:=Zqp ρ w (.cells (madeCells z.cells (c.toNat*z.cells.size)) ti.elem)
    have e2:=x.slot (n:=st.nb) (c:=.row (.slice (some ⟨w.heap.size,0,none⟩) n.toNat c.toNat)) (h.fresh.1 _ (.inl ⟨Ye _,hnl⟩)) (fun b hb=>by
     have hb:some w.heap.size=some b:=hb;cases hb;exact Ye _)
    have hrep:=Zrx hz0 (hz2 X ρ w)
    have hrow:Zac (w.alloc (.cells (madeCells z.cells (c.toNat*z.cells.size)) ti.elem)) (Fix X (upd ρ st.nb (some (.row (.slice (some ⟨w.heap.size,0,none⟩) n.toNat c.toNat)))) (w.alloc (.cells (madeCells z.cells (c.toNat*z.cells.size)) ti.elem)))
      false ti.elem ei.ty (.slice (some ⟨w.heap.size,0,none⟩) n.toNat c.toNat) (Yw n.toNat z0):=by
     refine Zfc.ok (.inr ⟨w.heap.size,c.toNat,_,(0,0),by rw [Y0],heap_alloc_new w _,.inl rfl,fun _=>⟨rfl,by unfold maxLen;omega⟩,by rw [Y0];omega,by rw [hms,hz1,c3],?_⟩) ((T _ _ hti).low hk);intro j y hj
     have hjn:j<n.toNat:=by
      have:=(Yh.1 hj).1;simpa using this
     have hy:z0=y:=by
      rw [Yqa,Xc hjn] at hj;cases hj;rfl
     subst hy;have hsz:ei.ty.sz=z.cells.size:=by rw [c3,hz1]
     rw [hsz,Zqnb z.cells c.toNat j (by omega) (by omega)];exact hrep.ext e2
    obtain ⟨ρ',m1,m2,m3⟩:=h.row hnl x (fun j b hb=>Zfo w _ (h.lt j b hb).1) (v:=.slice (some ⟨w.heap.size,0,none⟩) n.toNat c.toNat) (fun b hb=>by cases hb;exact Ye _) hrow;refine Zmh (v:=.slice (some ⟨w.heap.size,0,none⟩) n.toNat c.toNat) ?_ hr2 ?_ m1 m2 rfl
    ·unfold execOp
     rw [ho];simp [hn,hc,hrun]
    ·show Zlb X ρ' (w.alloc (.cells (madeCells z.cells (c.toNat*z.cells.size)) ti.elem)) (.own st.nb) _
     exact ⟨.inl ⟨_,_,_,rfl⟩,by rw [m3]⟩
   ·cases hl
  ·cases hr1
theorem Zmu {F:Nat→Prop} {t:Ty}:∀{l:List t.T} {b q:Nat},(∀(j:Nat) (x:t.T),l[j]? = some x→∃c,Zig w b (q+j*t.sz) c∧Rep w F t x c) →
  ∃cs:List Value,cs.length=l.length*t.sz∧Zig w b q cs∧(∀u∈cs,u.oneCell'=true)∧∀(j:Nat) (x:t.T),l[j]? = some x→Rep w F t x ((cs.drop (j*t.sz)).take t.sz)
 | [],b,q,_=>⟨[],by simp,fun i v hv=>by simp at hv,fun u hu=>by simp at hu,fun j x hj=>by simp at hj⟩
 | y::l,b,q,h=>by
  obtain ⟨c,hc,hrep⟩:=h 0 y rfl;rw [Yea,Yq] at hc;have hcl:=hrep.len
  obtain ⟨cs,h1,h2,h3,h4⟩:=Zmu (l:=l) (b:=b) (q:=q+t.sz) (fun j x hj=>by
   obtain ⟨c',hc',hr'⟩:=h (j+1) x hj;refine ⟨c',?_,hr'⟩
   rwa [show q+t.sz+j*t.sz=q+(j+1)*t.sz by rw [Yc,Yi];omega])
  refine ⟨c++cs,by rw [Yd,h1,hcl,Yma,Yc,Yi,Yta],?_,?_,?_⟩
  ·intro i v hv
   by_cases hi:i<c.length
   ·rw [Yj hi] at hv
    exact hc i v hv
   ·rw [Yo (by omega)] at hv
    have:=h2 _ v hv
    rwa [show q+t.sz+(i-c.length)=q+i by omega] at this
  ·intro u hu
   rcases List.mem_append.1 hu with hu | hu
   ·exact hrep.one u hu
   ·exact h3 u hu
  ·intro j x hj
   cases j with
   | zero=>
    cases hj;rw [Yea,List.drop_zero,List.take_append,← hcl];simpa using hrep
   | succ j=>
    have:=h4 j x hj;rw [show (j+1)*t.sz=c.length+j*t.sz by rw [Yc,Yi,hcl];omega,Yia,Yt (by omega)];simpa using this
theorem Zr7 {α:Type} (xs:List α) (n j s:Nat) (hj:j<n):((xs.take (n*s)).drop (j*s)).take s=(xs.drop (j*s)).take s:=by
 have h1:(j+1)*s≤n*s:=Yg _ hj
 rw [Yc,Yi] at h1
 apply Yu
 intro k
 rw [Zki,Zki]
 by_cases hk:k<s
 ·rw [Xc hk,Xc hk,Yp,Xc (by omega)]
 ·rw [Xd hk,Xd hk]
theorem Zfc.own {F:Nat→Prop} {z:Bool} {e:TypeId} {t:Ty} {v:Value} {l:List t.T} (h:Zfc w F z e t v l):Zzf v=v.ownBlock:=by
 rcases h with ⟨rfl,rfl⟩ | ⟨g,cap,cs,fr,rfl,_⟩ <;> exact Zoob _ _ _
theorem Zpob {F:Nat→Prop} {e:TypeId} {t:Ty} {v:Value} {l:List t.T} (h:Zfc w F false e t v l):
  ∃xs,w.ownsRow 0 e t.sz v l.length xs∧∀(j:Nat) (x:t.T),l[j]? = some x→Rep w F t x ((xs.drop (j*t.sz)).take t.sz):=by
 rcases h with ⟨rfl,rfl⟩ | ⟨g,cap,cs,fr,rfl,hg,_,hz,hl,hsz,hx⟩
 ·exact ⟨[],⟨by simp,.inl ⟨rfl,rfl⟩⟩,fun j x hj=>by simp at hj⟩
 ·obtain ⟨rfl,hcap⟩:=hz rfl
  have hle:l.length*t.sz≤cs.size:=by rw [hsz];exact Yg _ hl
  refine ⟨cs.toList.take (l.length*t.sz),⟨by simp;omega,.inr ⟨g,cap,cs,rfl,Yx _,hg,hl,hcap,hsz,rfl⟩⟩,?_⟩;intro j x hj;rw [Zr7 _ _ _ _ (Yh.1 hj).1];exact hx j x hj
theorem Zns {F:Nat→Prop} {e:TypeId} {t:Ty} {v:Value} {l:List t.T} {xs:List Value} (h:w.ownsRow 0 e t.sz v l.length xs) (hx:∀(j:Nat) (x:t.T),l[j]? = some x→Rep w F t x ((xs.drop (j*t.sz)).take t.sz)):Zfc w F false e t v l:=by
 obtain ⟨h1,h2⟩:=h
 rcases h2 with ⟨rfl,h2⟩ | ⟨g,cap,cur,rfl,_,hg,hl,hcap,hsz,htake⟩
 ·exact .inl ⟨rfl,List.length_eq_zero_iff.1 h2⟩
 ·refine .inr ⟨g,cap,cur,(0,0),rfl,hg,.inl rfl,fun _=>⟨rfl,hcap⟩,hl,hsz,?_⟩
  intro j x hj;have:=hx j x hj
  rwa [← htake,Zr7 _ _ _ _ (Yh.1 hj).1] at this
theorem Z7x {α:Type} {bytes:Nat} {l m k:List α} (h:Zw bytes l m=some k):(l.length+m.length)*bytes≤140737488355328∧k=l++m:=by
 unfold Zw at h
 split at h
 ·rename_i hc
  cases h;exact ⟨hc,rfl⟩
 ·cases h
theorem Zq0 {F:Nat→Prop} {t:Ty} {l m:List t.T} {xs ys:List Value} (hl:xs.length=l.length*t.sz) (hm:ys.length=m.length*t.sz)
  (h1:∀(j:Nat) (x:t.T),l[j]? = some x→Rep w F t x ((xs.drop (j*t.sz)).take t.sz)) (h2:∀(j:Nat) (x:t.T),m[j]? = some x→Rep w F t x ((ys.drop (j*t.sz)).take t.sz)):
  ∀(j:Nat) (x:t.T),(l++m)[j]? = some x→Rep w F t x (((xs++ys).drop (j*t.sz)).take t.sz):=by
 intro j x hj
 by_cases hjl:j<l.length
 ·rw [Yj hjl] at hj
  have h3:(j+1)*t.sz≤l.length*t.sz:=Yg _ hjl;rw [Yc,Yi] at h3;have:=h1 j x hj;rw [Y6 (by omega),Yba (by simp;omega)];exact this
 ·rw [Yo (by omega)] at hj
  have:=h2 _ x hj
  have h3:l.length*t.sz+(j-l.length)*t.sz=j*t.sz:=by
   rw [← Yc];congr 1;omega
  rw [Yia,Yt (by omega)];rw [show j*t.sz-xs.length=(j-l.length)*t.sz by omega];simpa using this
theorem Z0eb {F:Nat→Prop} {t ty:TypeId} {ti ei:TI} {et:Ty} (hu:P.underlying t=some (.slice ti.elem)) (Te:TiFor P ti.elem ei) (hsz:et.sz=ei.sz) (hpos:0<ei.sz) {v xv:Value} {n:Nat} {xs:List Value} {m:List et.T}
  (hown:w.ownsRow 0 ti.elem et.sz v n xs) (hx:Zai w F xv et m) (hb:(n+m.length)*ei.bytes≤140737488355328):
  ∃v' w' ys,(Builtin.append_ #[t,t] ty #[v,xv]).run P w = .ok v' w'∧w'.ownsRow 0 ti.elem et.sz v' (n+m.length) (xs++ys)∧w.grownBy w' v.ownBlock∧(v'.ownBlock=v.ownBlock∨v'.ownBlock=some w.heap.size) ∧
   ys.length=m.length*et.sz∧∀(j:Nat) (x:et.T),m[j]? = some x→Rep w F et x ((ys.drop (j*et.sz)).take et.sz):=by
 obtain ⟨q,hq,hq2,hq3,z,hz,hz1,_⟩:=Te.info
 have hbp:=Te.pos hpos
 obtain ⟨A,c,rfl,hx⟩:=hx
 have nilCase:m=[]→∀A,A=none→∃v' w' ys,(Builtin.append_ #[t,t] ty #[v,.slice A m.length c]).run P w = .ok v' w'∧w'.ownsRow 0 ti.elem et.sz v' (n+m.length) (xs++ys)∧w.grownBy w' v.ownBlock∧(v'.ownBlock=v.ownBlock∨v'.ownBlock=some w.heap.size) ∧
   ys.length=m.length*et.sz∧∀(j:Nat) (x:et.T),m[j]? = some x→Rep w F et x ((ys.drop (j*et.sz)).take et.sz):=by
  rintro rfl A rfl;refine ⟨v,w,[],?_,by simpa using hown,⟨rfl,rfl,rfl,Ye _,fun _ _ _=>rfl⟩,.inl rfl,by simp,fun j x hj=>by simp at hj⟩;rcases hown.2 with ⟨rfl,rfl⟩ | ⟨g,cap,cur,rfl,_,hg,hl,hcap,hcs,htake⟩
  ·simp [Builtin.append_,run_underlying hu,sizeOf,typeInfo,hq,Builtin.lenOf,Builtin.firstCells]
  ·simp [Builtin.append_,run_underlying hu,sizeOf,typeInfo,hq,Builtin.lenOf,Builtin.firstCells,hl,storeCells]
 have someCase:∀b p,(∀(j:Nat) (x:et.T),m[j]? = some x→∃c,Zig w b (p+j*et.sz) c∧Rep w F et x c)→∃v' w' ys,(Builtin.append_ #[t,t] ty #[v,.slice (some ⟨b,p,none⟩) m.length c]).run P w = .ok v' w'∧w'.ownsRow 0 ti.elem et.sz v' (n+m.length) (xs++ys)∧w.grownBy w' v.ownBlock∧(v'.ownBlock=v.ownBlock∨v'.ownBlock=some w.heap.size) ∧
   ys.length=m.length*et.sz∧∀(j:Nat) (x:et.T),m[j]? = some x→Rep w F et x ((ys.drop (j*et.sz)).take et.sz):=by
  intro b p hrow;obtain ⟨ys,h1,h2,h3,h4⟩:=Zmu hrow;have hlen:n+m.length≤140737488355328:=Y4 (Y3 _ hbp) hb
  obtain ⟨v',w',hr,ho',hg,_,hat⟩:=run_append_own_at (P:=P) w 0 t ty ti.elem q z et.sz ei.bytes hu hq hz (by rw [hq2,hsz]) hq3 (by rw [hz1,hsz]) (by omega) v n xs hown ⟨b,p,none⟩ m.length c ys h1
   (fun j u hj=>by rw [Ztg];exact h2 j u hj) h3 (by unfold maxLen;omega) hb (Yx _)
  exact ⟨v',w',ys,hr,ho',hg,hat,h1,h4⟩
 rcases hx with rfl | ⟨b,p,rfl,_,hrow⟩
 ·cases A with
  | none=>exact nilCase rfl none rfl
  | some ad=>
   have hlen:n≤140737488355328:=Y4 (Y3 _ hbp) (by simpa using hb)
   obtain ⟨v',w',hr,ho',hg,_,hat⟩:=run_append_own_at (P:=P) w 0 t ty ti.elem q z et.sz ei.bytes hu hq hz (by rw [hq2,hsz]) hq3 (by rw [hz1,hsz]) (by omega) v n xs hown ad 0 c [] (by simp)
    (fun j u hj=>by simp at hj) (fun u hu=>by cases hu) (by unfold maxLen;omega) (by simpa using hb) (Yx _)
   exact ⟨v',w',[],hr,ho',hg,hat,by simp,fun j x hj=>by simp at hj⟩
 ·exact someCase b p hrow
theorem Rel.appended (h:Rel X ρ st a w) (hnl:st.nb<st.lim) {m:Nat} {v v':Value} (hm:ρ m=some (.row v)) (hg:w.grownBy w' v.ownBlock) (hat:v'.ownBlock=v.ownBlock∨v'.ownBlock=some w.heap.size) {z:Bool} {e:TypeId} {t:Ty} {l:List t.T}
  (hlt:∀b,v'.ownBlock=some b→b<w'.heap.size)
  (hl:Z0 e=false) (hsl:Zzf v=v.ownBlock) (hrow:∀F,(∀b,Fix X ρ w b→w'.heap[b]? = w.heap[b]?∧F b)→Zfc w' F z e t v' l):
  ∃ρ',Rel X ρ' ((st.setB m .free).newB (.arr z e t l)) a w'∧Ext ρ w ρ' w'∧ρ' st.nb=some (.row v'):=by
 have hnb:ρ st.nb=none:=h.fresh.1 _ (.inl ⟨Ye _,hnl⟩)
 have hmn:m≠st.nb:=fun e=>by rw [e,hnb] at hm;cases hm
 have hown:∀b,v.ownBlock=some b→owns (ρ m) b:=fun b hb=>by rw [hm];exact hsl.trans hb
 have hsl':Zzf v'=v'.ownBlock:=(hrow (fun _=>True) fun b hb=>⟨hg.block b hb.1 (fun e=>hb.2.2 m (hown b e.symm)),trivial⟩).own
 let ρ':=upd (upd ρ m (some .dead)) st.nb (some (.row v'))
 have r1:ρ' st.nb=some (.row v'):=Zzi _ _ _
 have r2:ρ' m=some .dead:=by
  show upd _ _ _ m=_;rw [Z4g _ _ (by omega),Zzi]
 have r3:∀i,i≠m→i≠st.nb→ρ' i=ρ i:=fun i h1 h2=>by
  show upd _ _ _ i=_;rw [Z4g _ _ h2,Z4g _ _ h1]
 have x:Ext ρ w ρ' w':=by
  refine ⟨hg.os,hg.tape,hg.output,hg.size,?_,?_,?_⟩
  ·intro b hb hn
   exact hg.block b hb (fun e=>hn m (hown b e.symm))
  ·intro i b hi
   by_cases h1:i=st.nb
   ·subst h1
    rw [r1] at hi;have hi:v'.ownBlock=some b:=hsl'.symm.trans hi;rcases hat with hat | hat
    ·rw [hat] at hi
     exact .inl ⟨m,hown b hi⟩
    ·rw [hat] at hi
     cases hi;exact .inr (Ye _)
   ·by_cases h2:i=m
    ·subst h2;rw [r2] at hi;exact hi.elim
    ·rw [r3 i h2 h1] at hi;exact .inl ⟨i,hi⟩
  ·intro i c hi
   by_cases h1:i=st.nb
   ·subst h1;rw [hnb] at hi;cases hi
   ·by_cases h2:i=m
    ·subst h2;exact .inr (.inl r2)
    ·rw [r3 i h2 h1];exact .inl hi
 refine ⟨ρ',?_,x,r1⟩
 have hkeep:∀j b,j≠m→owns (ρ j) b→w'.heap[b]? = w.heap[b]? :=fun j b hj hb=>hg.block b (h.lt j b hb).1 (fun e=>hj (h.sep j m b hb (hown b e.symm)))
 have hnew:∀j b,j≠m→owns (ρ j) b→v'.ownBlock≠some b:=fun j b hj hb e=>by
  rcases hat with hat | hat
  ·rw [hat] at e
   exact hj (h.sep j m b hb (hown b e))
  ·rw [hat] at e
   cases e;exact Yua _ (h.lt j _ hb).1
 refine ⟨h.defers,h.size,?_,?_,?_,?_,?_,?_,fun b hb=>Yoa (h.xlt b hb) x.size,h.gl.ext x⟩
 ·intro i j b hi hj
  by_cases i1:i=st.nb
  ·by_cases j1:j=st.nb
   ·rw [i1,j1]
   ·by_cases j2:j=m
    ·rw [j2,r2] at hj;exact hj.elim
    ·rw [r3 j j2 j1] at hj
     rw [i1,r1] at hi;exact absurd (hsl'.symm.trans hi) (hnew j b j2 hj)
  ·by_cases i2:i=m
   ·rw [i2,r2] at hi;exact hi.elim
   ·rw [r3 i i2 i1] at hi
    by_cases j1:j=st.nb
    ·rw [j1,r1] at hj
     exact absurd (hsl'.symm.trans hj) (hnew i b i2 hi)
    ·by_cases j2:j=m
     ·rw [j2,r2] at hj;exact hj.elim
     ·rw [r3 j j2 j1] at hj
      exact h.sep i j b hi hj
 ·intro i b hi
  by_cases i1:i=st.nb
  ·rw [i1,r1] at hi
   have hi:v'.ownBlock=some b:=hsl'.symm.trans hi;refine ⟨hlt b hi,?_⟩;rcases hat with hat | hat
   ·rw [hat] at hi
    exact (h.lt m b (hown b hi)).2
   ·rw [hat] at hi
    cases hi;exact fun hx=>Yua _ (h.xlt _ hx)
  ·by_cases i2:i=m
   ·rw [i2,r2] at hi;exact hi.elim
   ·rw [r3 i i2 i1] at hi
    exact ⟨Yoa (h.lt i b hi).1 x.size,(h.lt i b hi).2⟩
 ·intro i
  have hne:((st.setB m .free).newB (.arr z e t l)).ent i=if st.nb=i then .arr z e t l else if m=i then .free else st.ent i:=by
   rw [Zck,Zkg];rfl
  rw [hne]
  by_cases i1:st.nb=i
  ·rw [Xc i1,← i1,r1]
   exact ⟨v',rfl,(hrow _ (fun b hb=>x.fix b hb)).ok hl⟩
  ·rw [Xd i1]
   by_cases i2:m=i
   ·rw [Xc i2];trivial
   ·rw [Xd i2]
    exact Zid.ext (h.ents i) x (r3 i (fun e=>i2 e.symm) (fun e=>i1 e.symm)) (fun b hb=>hkeep i b (fun e=>i2 e.symm) hb)
 ·intro i
  exact (h.tmps i).ext x
 ·intro i t b y hm
  exact (h.gs i t b y hm).imp (fun k=>⟨k.1,k.2.ext x⟩) id
 ·exact (h.fresh.upd (st':=st.setB m .free) (c:=some .dead) (by rw [hm];exact nofun) rfl rfl rfl).newB hnl _ _
theorem Zp6 {c:Call} {t:TypeId} {s x:Operand} (ho:o.op = .call c) (hc:c.callee = .builtin .append) (ha:c.args.toList=[s,x]) (ht:c.argTypes = #[t,t]) {v:Value}
  (hr:(Builtin.append_ #[t,t] o.type #[a.eval s,a.eval x]).run P w = .ok v w'):(execOp a.eval o).run P w = .ok (.value v) w':=by
 obtain ⟨consts,hb⟩:=Zru (P:=P) (w:=w) (a:=a) ho hc
 rw [hb,Zzs ha,ht]
 simp [Go.builtin,hr]
theorem Zq9 {z:Bool} {e:TypeId} {t' t:Ty} (h:t'=t) {l:List t'.T}:Ent.arr z e t' l = .arr z e t (h▸l:List t.T):=by subst h;rfl
def Z5s (P:Program) (o:Oper) (a:Act) (w:World) (s:Operand) (F:Nat→Prop) (elem:TypeId) (t:Ty) (bytes:Nat) (dl:List t.T):Prop:=∀(v:Value) (n:Nat) (xs:List Value),a.eval s=v→w.ownsRow 0 elem t.sz v n xs→(n+dl.length)*bytes≤140737488355328 → ∃v' w' ys,(execOp a.eval o).run P w = .ok (.value v') w'∧w'.ownsRow 0 elem t.sz v' (n+dl.length) (xs++ys)∧w.grownBy w' v.ownBlock∧(v'.ownBlock=v.ownBlock∨v'.ownBlock=some w.heap.size) ∧ ys.length=dl.length*t.sz∧∀(j:Nat) (x:t.T),dl[j]? = some x→Rep w F t x ((ys.drop (j*t.sz)).take t.sz)
theorem Z5s.cast {s:Operand} {F:Nat→Prop} {elem:TypeId} {t' t:Ty} {bytes:Nat} (h:t'=t) {l:List t'.T} (k:Z5s P o a w s F elem t' bytes l):Z5s P o a w s F elem t bytes (h▸l:List t.T):=by subst h;exact k
theorem Zwhb {c:Call} {t:TypeId} {s x:Operand} (ho:o.op = .call c) (hc:c.callee = .builtin .append) (ha:c.args.toList=[s,x]) (ht:c.argTypes = #[t,t])
  {F:Nat→Prop} {ti ei:TI} {et:Ty} (hu:P.underlying t=some (.slice ti.elem)) (Te:TiFor P ti.elem ei) (hsz:et.sz=ei.sz) (hpos:0<ei.sz) {m:List et.T} (hx:Zai w F (a.eval x) et m):Z5s P o a w s F ti.elem et ei.bytes m:=by
 intro v n xs hs hown hb
 obtain ⟨v',w',ys,hrun,h2⟩:=Z0eb (P:=P) (ty:=o.type) hu Te hsz hpos hown hx hb
 exact ⟨v',w',ys,Zp6 ho hc ha ht (by rw [hs];exact hrun),h2⟩
theorem Z1eb {c:Call} {t u:TypeId} {s x:Operand} (ho:o.op = .call c) (hc:c.callee = .builtin .append) (ha:c.args.toList=[s,x]) (ht:c.argTypes = #[t,u]) {v:Value}
  (hr:(Builtin.append_ #[t,u] o.type #[a.eval s,a.eval x]).run P w = .ok v w'):(execOp a.eval o).run P w = .ok (.value v) w':=by
 obtain ⟨consts,hb⟩:=Zru (P:=P) (w:=w) (a:=a) ho hc
 rw [hb,Zzs ha,ht]
 simp [Go.builtin,hr]
theorem Zt8 {t u ty e:TypeId} {i:TypeInfo} (ht:P.underlying t=some (.slice e)) (hu:P.underlying u=some .string) (hi:P.info? e=some i) (hz:i.zero=some (.int .u8 0)) (hsize:i.size=1) (hby:i.bytes=1)
  {v:Value} {n:Nat} {xs:List Value} (hown:w.ownsRow 0 e 1 v n xs) {s:ByteArray} (hb:n+s.size≤140737488355328):
  ∃v' w',(Builtin.append_ #[t,u] ty #[v,.string s]).run P w = .ok v' w'∧w'.ownsRow 0 e 1 v' (n+s.size) (xs++strCells s)∧w.grownBy w' v.ownBlock∧(v'.ownBlock=v.ownBlock∨v'.ownBlock=some w.heap.size):=by
 have h63:n+s.size≤maxLen:=by unfold maxLen;omega
 obtain ⟨v',w',hr,h1,h2,h3⟩:=run_append_own_string (P:=P) w 0 t u ty e i ht hu hi hz hsize hby v n xs hown s h63 hb (Yx _)
 refine ⟨v',w',hr,h1,h2,?_⟩
 have hxl:xs.length=n:=by simpa using hown.1
 rcases hown.2 with ⟨rfl,rfl⟩ | ⟨g,cap,cur,rfl,hbg,hg,hnc,hcm,hcs,htake⟩
 ·by_cases hm:s.size=0
  ·rw [h3.2 ⟨rfl,hm⟩];exact .inl rfl
  ·have hr2:=run_append_nil_string (P:=P) w t u ty e i (.int .u8 0) ht hu hi hz s (by omega) (by omega) (by rw [hby];omega)
   rw [hr] at hr2;cases hr2;exact .inr rfl
 ·by_cases hroom:n+s.size≤cap
  ·have hcs':cur.size=cap:=by simpa using hcs
   have hr2:=run_append_room_string (P:=P) w t u ty e i ht hu hi hsize g n cap cur hg s hroom (by omega);rw [hr] at hr2;cases hr2;exact .inl rfl
  ·have holds:∀j u,xs[j]? = some u→w.cell? ((⟨g,0,none⟩:Addr).add j)=some u:=hown.cells (g:=g) rfl
   have hr2:=run_append_grow_string (P:=P) w t u ty e i (.int .u8 0) ht hu hi hz ⟨g,0,none⟩ n cap xs (by rw [hsize];simpa using hxl) holds s (by omega) (by omega) (by rw [hby];exact growslice_fits (by omega) (by omega));rw [hr] at hr2;cases hr2;exact .inr rfl
theorem Zbgb (y:Str):strCells (ba y)=(Zgb y).map fun n=>Value.int .u8 n:=by
 simp [strCells,Zgb,ba]
theorem Zxhb {c:Call} {t u:TypeId} {s x:Operand} (ho:o.op = .call c) (hc:c.callee = .builtin .append) (ha:c.args.toList=[s,x]) (ht:c.argTypes = #[t,u]) {F:Nat→Prop} {ti ei:TI} (hu:P.underlying t=some (.slice ti.elem)) (hus:P.underlying u=some .string)
  (Te:TiFor P ti.elem ei) (hz:Zkp ei=true) {y:Str} (hx:a.eval x = .string (ba y)):Z5s P o a w s F ti.elem (.int .u8) ei.bytes (Zgb y):=by
 intro v n xs hs hown hb
 unfold Zkp at hz
 split at hz
 ·rename_i m hzero
  simp only [Yf] at hz;obtain ⟨⟨⟨z1,z2⟩,z3⟩,z4⟩:=hz;have z1:=of_decide_eq_true z1;have z2:ei.agg=false:=by simpa using z2
  have z3:=Ya z3;have z4:=Ya z4;obtain ⟨q,hq,hq2,hq3,z,hzz,hz1,hl⟩:=Te.info;have hone:=Te.one z2 q z hq hzz;have hl:=hl (fun _=>False) (fun _=>none) w;rw [hzero,hone] at hl;have hzv:z = .int .u8 m:=hl.1;rw [z1] at hzv;subst hzv;have hlen:(Zgb y).length=(ba y).size:=by simp [Zgb,ba,ByteArray.size]
  rw [hlen] at hb ⊢;obtain ⟨v',w',hrun,h1,h2,h3⟩:=Zt8 (P:=P) (w:=w) (t:=t) (u:=u) (ty:=o.type) hu hus hq hzz (hq2.trans z3) (hq3.trans z4) hown (s:=ba y) (by rw [z4] at hb;simpa using hb);refine ⟨v',w',strCells (ba y),Z1eb ho hc ha ht (by rw [hs,hx];exact hrun),h1,h2,h3,?_,fun j r hj=>?_⟩
  ·rw [strCells_length]
   show _=_*1;omega
  ·show ((strCells (ba y)).drop (j*1)).take 1=[.int .u8 r]
   have hj2:(strCells (ba y))[j]? = some (.int .u8 r):=by
    rw [Zbgb,Yv,hj];rfl
   rw [Yl];obtain ⟨hlt,e⟩:=Yh.1 hj2;rw [Y7 hlt,e];rfl
 ·cases hz
theorem Zs8 (T:Zob P C.ti) (h:Rel X ρ st a w) {t:TypeId} {s:Operand}
  {ti ei:TI} (hti:C.ti.get t=some ti) (hei:C.ti.get ti.elem=some ei) (hk:ti.kind=3) (hsz:ei.ty.sz=ei.sz) (hpos:0<ei.sz) {sv:AV} (hs:Z4 X ρ w sv (a.eval s)) {d:Σ r:Ty,List r.T} (hx:Z5s P o a w s (Fix X ρ w) ti.elem d.1 ei.bytes d.2)
  (hr:(Zhv ti ei sv d).run st K=some r):Zdb P o a w X ρ st K r:=by
 unfold Zhv at hr
 have hu:=Zxq T hti hk
 split at hr
 ·cases hr
 ·rename_i hd _
  replace hx:=hx.cast hd.down;generalize (hd.down▸d.2:List ei.ty.T)=dl at hr hx;split at hr
  ·unfold Zc2 at hr
   obtain ⟨l,hl,hr1⟩:=Zyf hr;obtain ⟨hnl,hr1⟩:=Zvj hr1;obtain ⟨hb,rfl⟩:=Z7x hl;have hs:a.eval s = .slice none 0 0:=hs;obtain ⟨v',w',ys,hrun,ho',hg,hat,hyl,hy⟩:=hx _ _ _ hs (World.ownsRow_nil w 0 ti.elem ei.ty.sz) hb;have x1:Ext ρ w ρ w':=⟨hg.os,hg.tape,hg.output,hg.size,fun b hb _=>hg.block b hb (by simp [Value.ownBlock]),fun i b hi=>.inl ⟨i,hi⟩,fun _ _ hi=>.inl hi⟩;have hlo:Z0 ti.elem=false:=(T _ _ hti).low hk
   have hvb:∀b,Zzf v'=some b→w.heap.size≤b:=fun b hb=>by
    rw [(Zns (t:=ei.ty) (F:=fun _=>True) (xs:=[]++ys) (l:=l) (by simpa using ho') (fun j y hj=>Rep.move (F:=Fix X ρ w) (fun b hb=>⟨hg.block b hb.1 (by simp [Value.ownBlock]),trivial⟩) (Zq0 (xs:=[]) (ys:=ys) (l:=[]) (by simp) hyl (fun j y hj=>by simp at hj) hy j y hj))).own] at hb;rcases hat with hat | hat
    ·rw [hat] at hb;cases hb
    ·rw [hat] at hb;cases hb;exact Ye _
   have e2:=x1.slot (n:=st.nb) (c:=.row v') (h.fresh.1 _ (.inl ⟨Ye _,hnl⟩)) hvb
   obtain ⟨ρ',m1,m2,m3⟩:=h.row hnl (z:=false) (et:=ti.elem) (t:=ei.ty) (l:=l) x1 (fun j b hb=>hg.block b (h.lt j b hb).1 (by simp [Value.ownBlock])) hvb
    ((Zns (xs:=[]++ys) (by simpa using ho') (fun j y hj=>(Zq0 (xs:=[]) (ys:=ys) (l:=[]) (by simp) hyl (fun j y hj=>by simp at hj) hy j y hj).ext e2)).ok hlo)
   refine Zmh hrun hr1 ?_ m1 m2 rfl;show Zlb X ρ' w' (.own st.nb) _;refine ⟨?_,by rw [m3]⟩;have h0:=m1.ents st.nb;rw [m3,Zck,Xc rfl] at h0;obtain ⟨v2,hv2,h0⟩:=h0;cases hv2;exact h0.form
  ·rename_i m
   replace hr:(Zgv ti ei dl m (st.ent m)).run st K=some r:=hr;unfold Zgv at hr;split at hr
   ·rename_i et rt l he
    split at hr
    ·cases hr
    ·rename_i hd2 _
     have he2:st.ent m = .arr false et ei.ty (hd2.down▸l:List ei.ty.T):=by rw [he];exact Zq9 hd2.down
     clear he;generalize (hd2.down▸l:List ei.ty.T)=l at hr he2
     rename st.ent m=_=>he
     cases hee:Yb et ti.elem with
     | false=>rw [hee] at hr;cases hr
     | true=>
      rw [hee] at hr;obtain rfl:=Ya hee;obtain ⟨l2,hl2,hr1⟩:=Zyf hr;replace hr1:(M.new (.arr false ti.elem ei.ty l2) fun n=>.ret (AV.one (.own n))).run (st.setB m .free) K=some r:=hr1;obtain ⟨hnl,hr1⟩:=Zvj hr1;obtain ⟨hb,rfl⟩:=Z7x hl2;have h0:=h.ents m;rw [he] at h0;obtain ⟨v,hv,h0⟩:=h0;have hs2:=hs.2;rw [hv] at hs2;have hs2:a.eval s=v:=hs2;have hlo:Z0 ti.elem=false:=(T _ _ hti).low hk;obtain ⟨xs,hown,hxs⟩:=Zpob (h0.slice hlo);obtain ⟨v',w',ys,hrun,ho',hg,hat,hyl,hy⟩:=hx _ _ _ hs2 hown hb;have hvl:∀b,v'.ownBlock=some b→b<w'.heap.size:=fun b hb=>(World.ownsRow.lt ho' b hb).2
      obtain ⟨ρ',m1,m2,m3⟩:=h.appended hnl (e:=ti.elem) (t:=ei.ty) (l:=l++dl) hv hg hat hvl hlo (h0.slice hlo).own (fun F hF=>Zns (xs:=xs++ys) (by simpa using ho')
       (fun j y hj=>Rep.move hF (Zq0 hown.1 hyl hxs hy j y hj)))
      refine Zmh hrun hr1 ?_ m1 m2 rfl;show Zlb X ρ' w' (.own st.nb) _;refine ⟨?_,by rw [m3]⟩;have h0:=m1.ents st.nb;rw [m3,Zck,show (st.setB m .free).nb=st.nb from rfl,Xc rfl] at h0;obtain ⟨v2,hv2,h0⟩:=h0;cases hv2;exact h0.form
   ·cases hr
  ·cases hr
theorem Zr6 {g o:Nat} {t:TypeId} {fr:Nat×Nat}:∀(vs:List Value) (i:Nat) (cur:Array Value) (w:World),w.heap[g]? = some (.cells cur t fr)→Z8n fr cur.size→o+i+vs.length≤cur.size→(∀v∈vs,v.oneCell'=true) →
  ∃cur':Array Value,(storeCells ⟨g,o,none⟩ vs i).run P w = .ok () (w.setRow g cur')∧cur'.toList=cur.toList.take (o+i)++vs++cur.toList.drop (o+i+vs.length)
 | [],i,cur,w,hg,_,_,_=>by
  refine ⟨cur,?_,by simp⟩;rw [setRow_self w g cur t fr hg];rfl
 | v::vs,i,cur,w,hg,hu,hl,h1=>by
  rw [Yma] at hl;have hi:o+i<cur.size:=by omega
  have ha:(⟨g,o,none⟩:Addr).add i=⟨g,o+i,none⟩:=Ztg g o i
  have hf:w.frozen? ⟨g,o+i,none⟩=false:=by
   obtain ⟨p,q⟩:=fr;simp only [World.frozen?,hg];rcases hu with hu | hu
   ·cases hu;simp
   ·have hu:cur.size≤p:=hu
    rw [Bool.and_eq_false_iff];left;rw [decide_eq_false_iff_not];omega
  have hs:(Go.store ((⟨g,o,none⟩:Addr).add i) v).run P w = .ok () (w.setRow g (cur.setIfInBounds (o+i) v)):=by
   have hc:w.cell? ⟨g,o+i,none⟩=some cur[o+i]:=by simp [World.cell?,hg,hi]
   rw [ha,run_store P w _ v _ (h1 v List.mem_cons_self),hc,← setCell_eq_setRow w g (o+i) cur t fr v hg];simp [hf]
  obtain ⟨cur',h2,h3⟩:=Zr6 (o:=o) vs (i+1) (cur.setIfInBounds (o+i) v) (w.setRow g (cur.setIfInBounds (o+i) v)) (setRow_heap w g cur _ t fr hg) (by simpa using hu) (by simp;omega) (fun x hx=>h1 x (List.mem_cons_of_mem _ hx));refine ⟨cur',?_,?_⟩
  ·have e:(storeCells ⟨g,o,none⟩ (v::vs) i)=(Go.store ((⟨g,o,none⟩:Addr).add i) v >>= fun _=>storeCells ⟨g,o,none⟩ vs (i+1)):=rfl
   rw [e,Sem.run_bind,hs,Result.andThen_ok,h2,setRow_setRow]
  ·rw [h3,Array.toList_setIfInBounds,Yma]
   exact list_seg_step cur.toList (o+i) v vs (by simp;omega)
theorem Zp0 {F:Nat→Prop} {z:Bool} {e:TypeId} {t:Ty} {v:Value} {l:List t.T} (h:Zfc w F z e t v l):Zfc w F true e t v l:=by
 rcases h with h | ⟨g,cap,cs,fr,h1,h2,h3,_,h4,h5,h6⟩
 ·exact .inl h
 ·exact .inr ⟨g,cap,cs,fr,h1,h2,h3,nofun,h4,h5,h6⟩
theorem Zipb {F:Nat→Prop} {t ty:TypeId} {ti ei:TI} {et:Ty} (hu:P.underlying t=some (.slice ti.elem)) (Te:TiFor P ti.elem ei) (hsz:et.sz=ei.sz) (hpos:0<ei.sz) {v xv:Value} {l m:List et.T}
  (hown:Zfc w F true ti.elem et v l) (hx:Zai w F xv et m) (hb:(l.length+m.length)*ei.bytes≤140737488355328):
  ∃v' w',(Builtin.append_ #[t,t] ty #[v,xv]).run P w = .ok v' w'∧w.grownBy w' v.ownBlock∧(v'.ownBlock=v.ownBlock∨v'.ownBlock=some w.heap.size)∧(∀b,v'.ownBlock=some b→b<w'.heap.size) ∧
   ∀F',(∀b,F b→w'.heap[b]? = w.heap[b]?∧F' b)→Zfc w' F' true ti.elem et v' (l++m):=by
 obtain ⟨q,hq,hq2,hq3,z,hz,hz1,_⟩:=Te.info
 have hbp:=Te.pos hpos
 have hlen:l.length+m.length≤140737488355328:=Y4 (Y3 _ hbp) hb
 rcases hown with ⟨rfl,rfl⟩ | ⟨g,cap,cs,fr,rfl,hg,hfr,_,hl,hcs,hrep⟩
 ·obtain ⟨v',w',ys,hr,ho',hgr,hat,hyl,hy⟩:=Z0eb (P:=P) (ty:=ty) hu Te hsz hpos (World.ownsRow_nil w 0 ti.elem et.sz) hx (by simpa using hb)
  refine ⟨v',w',hr,hgr,hat,fun b hb=>(World.ownsRow.lt ho' b hb).2,fun F' hF=>Zp0 (Zns (xs:=ys) (by simpa using ho') (fun j y hj=>Rep.move hF (hy j y (by simpa using hj))))⟩
 ·have hgl:g<w.heap.size:=(Yr.1 hg).1
  have hxs:(cs.toList.take (l.length*et.sz)).length=l.length*et.sz:=by
   have:l.length*et.sz≤cs.size:=by rw [hcs];exact Yg _ hl
   simp;omega
  have hold:∀(j:Nat) (x:et.T),l[j]? = some x→Rep w F et x (((cs.toList.take (l.length*et.sz)).drop (j*et.sz)).take et.sz):=fun j x hj=>by
   rw [Zr7 _ _ _ _ (Yh.1 hj).1];exact hrep j x hj
  obtain ⟨A,c,rfl,hx⟩:=hx
  have some_arm:∀b p (ys:List Value),ys.length=m.length*et.sz→Zig w b p ys→(∀u∈ys,u.oneCell'=true)→(∀(j:Nat) (x:et.T),m[j]? = some x→Rep w F et x ((ys.drop (j*et.sz)).take et.sz)) →
    ∃v' w',(Builtin.append_ #[t,t] ty #[.slice (some ⟨g,0,none⟩) l.length cap,.slice (some ⟨b,p,none⟩) m.length c]).run P w = .ok v' w'∧w.grownBy w' (some g)∧(v'.ownBlock=some g∨v'.ownBlock=some w.heap.size)∧(∀b,v'.ownBlock=some b→b<w'.heap.size) ∧
     ∀F',(∀b,F b→w'.heap[b]? = w.heap[b]?∧F' b)→Zfc w' F' true ti.elem et v' (l++m):=by
   intro b p ys h1 h2 h3 h4;have hall:=fun (F':Nat→Prop) (w':World) (hF:∀b,F b→w'.heap[b]? = w.heap[b]?∧F' b) (j:Nat) (x:et.T) hj=>Rep.move hF (Zq0 hxs h1 hold h4 j x hj)
   by_cases hroom:l.length+m.length≤cap
   ·have hfit:l.length*et.sz+0+ys.length≤cs.size:=by rw [h1,hcs,Yq,← Yc];exact Yg _ hroom
    obtain ⟨cur',hst,hcur⟩:=Zr6 (P:=P) (o:=l.length*et.sz) ys 0 cs w hg hfr hfit h3;have hf:=run_firstCells_some (P:=P) w q.size m.length ⟨b,p,none⟩ m.length c ys (by rw [h1,hq2,hsz]) (fun j u hj=>by rw [Ztg];exact h2 j u hj);have hqs:q.size=et.sz:=by rw [hq2,hsz]
    have hcl:cur'.size=cs.size:=by
     have:=congrArg Yra hcur;simp only [Yd,Yk,Yna,Yz] at this;omega
    rw [hqs] at hf;refine ⟨.slice (some ⟨g,0,none⟩) (l.length+m.length) cap,w.setRow g cur',?_,⟨rfl,rfl,rfl,by simp,fun k _ hk=>setRow_other w g k _ (fun e=>hk (by rw [e]))⟩,.inl rfl,fun b hb=>by cases hb;simpa using hgl,fun F' hF=>?_⟩
    ·simp [Builtin.append_,run_underlying hu,sizeOf,typeInfo,hq,hqs,Builtin.lenOf,hroom,hf,Addr.add_lit,hst]
    ·refine .inr ⟨g,cap,cur',fr,by rw [Yd],setRow_heap w g cs cur' ti.elem fr hg,by rw [hcl];exact hfr,nofun,by rw [Yd];exact hroom,by rw [hcl];exact hcs,?_⟩
     intro j x hj;have h5:=hall F' _ hF j x hj;have hjl:=(Yh.1 hj).1;rw [Yd] at hjl;have h6:(j+1)*et.sz≤(l.length+m.length)*et.sz:=Yg _ hjl;rw [Yc,Yi,Yc] at h6;rw [hcur,Yq,Y6 (by rw [Yd,hxs,h1];omega),Yba (by rw [Yna,Yd,hxs,h1];omega)];exact h5
   ·have holds:∀j u,(cs.toList.take (l.length*et.sz))[j]? = some u→w.cell? ((⟨g,0,none⟩:Addr).add j)=some u:=by
     intro j u hj;rw [Yp] at hj;split at hj
     ·rw [Ztg,Ym,cell_of_row w g j cs _ _ hg]
      simpa using hj
     ·cases hj
    have hqs:q.size=et.sz:=by rw [hq2,hsz]
    have hr:=run_append_grow (P:=P) w t ty ti.elem q z hu hq hz ⟨g,0,none⟩ l.length cap (cs.toList.take (l.length*et.sz)) (by rw [hqs];exact hxs) holds ⟨b,p,none⟩ m.length c ys (by rw [hqs];exact h1) (fun j u hj=>by rw [Ztg];exact h2 j u hj) (by omega) (by omega) (by rw [hq3];exact growslice_fits (by omega) hb);have hcap:=grownCap_ge w (l.length+m.length) cap ti.elem;have hlq:((cs.toList.take (l.length*et.sz))++ys).length=(l.length+m.length)*et.sz:=by rw [Yd,hxs,h1,Yc]
    refine ⟨_,_,hr,⟨rfl,rfl,rfl,by simp,fun k hk _=>heap_alloc_old w.drew _ hk⟩,.inr rfl,fun b hb=>by cases hb;simp,fun F' hF=>?_⟩;refine Zp0 (z:=false) (Zns (xs:=cs.toList.take (l.length*et.sz)++ys) ⟨by rw [hlq,Yd],.inr ⟨w.heap.size,_,_,by rw [Yd],Yx _,heap_alloc_new w.drew _,by rw [Yd];exact hcap,grownCap_le_maxLen w _ cap ti.elem (by unfold maxLen;omega),?_,?_⟩⟩ (hall F' _ hF))
    ·simp only [Y5,Yaa,size_zeroCells,hz1,← hsz,hxs,h1,← Yc]
     congr 1;omega
    ·simp only [Yn,Ys]
     rw [← Ys,Yd,← hlq];exact Ysa
  rcases hx with rfl | ⟨b,p,rfl,_,hrow⟩
  ·cases A with
   | none=>
    refine ⟨.slice (some ⟨g,0,none⟩) l.length cap,w,?_,⟨rfl,rfl,rfl,Ye _,fun _ _ _=>rfl⟩,.inl rfl,fun b hb=>by cases hb;exact hgl,fun F' hF=>?_⟩
    ·simp [Builtin.append_,run_underlying hu,sizeOf,typeInfo,hq,Builtin.lenOf,Builtin.firstCells,hl,storeCells]
    ·rw [Yha]
     exact .inr ⟨g,cap,cs,fr,rfl,hg,hfr,nofun,hl,hcs,fun j x hj=>Rep.move hF (hrep j x hj)⟩
   | some ad=>
    refine ⟨.slice (some ⟨g,0,none⟩) l.length cap,w,?_,⟨rfl,rfl,rfl,Ye _,fun _ _ _=>rfl⟩,.inl rfl,fun b hb=>by cases hb;exact hgl,fun F' hF=>?_⟩
    ·simp [Builtin.append_,run_underlying hu,sizeOf,typeInfo,hq,Builtin.lenOf,Builtin.firstCells,hl,storeCells,loadCells,loadCellsFrom]
    ·rw [Yha]
     exact .inr ⟨g,cap,cs,fr,rfl,hg,hfr,nofun,hl,hcs,fun j x hj=>Rep.move hF (hrep j x hj)⟩
  ·obtain ⟨ys,h1,h2,h3,h4⟩:=Zmu hrow
   exact some_arm b p ys h1 h2 h3 h4
theorem Zjpb {F:Nat→Prop} {t u ty:TypeId} {ti ei:TI} (hu:P.underlying t=some (.slice ti.elem)) (hus:P.underlying u=some .string) (Te:TiFor P ti.elem ei) (hz:Zkp ei=true) {v:Value} {l:List Int}
  (hown:Zfc w F true ti.elem (.int .u8) v l) {y:Str} (hb:(l.length+(Zgb y).length)*ei.bytes≤140737488355328):
  ∃v' w',(Builtin.append_ #[t,u] ty #[v,.string (ba y)]).run P w = .ok v' w'∧w.grownBy w' v.ownBlock∧(v'.ownBlock=v.ownBlock∨v'.ownBlock=some w.heap.size)∧(∀b,v'.ownBlock=some b→b<w'.heap.size) ∧
   ∀F',(∀b,F b→w'.heap[b]? = w.heap[b]?∧F' b)→Zfc w' F' true ti.elem (.int .u8) v' (l++Zgb y):=by
 unfold Zkp at hz
 split at hz
 ·rename_i m hzero
  simp only [Yf] at hz;obtain ⟨⟨⟨z1,z2⟩,z3⟩,z4⟩:=hz;have z1:=of_decide_eq_true z1;have z2:ei.agg=false:=by simpa using z2
  have z3:=Ya z3;have z4:=Ya z4;obtain ⟨q,hq,hq2,hq3,z,hzz,hz1,hl⟩:=Te.info;have hone:=Te.one z2 q z hq hzz;have hl:=hl (fun _=>False) (fun _=>none) w;rw [hzero,hone] at hl;have hzv:z = .int .u8 m:=hl.1;rw [z1] at hzv;subst hzv;have hsize:q.size=1:=hq2.trans z3;have hby:q.bytes=1:=hq3.trans z4;have hlen:(Zgb y).length=(ba y).size:=by simp [Zgb,ba,ByteArray.size]
  rw [z4,Yl,hlen] at hb;have hsc:(strCells (ba y)).length=(ba y).size:=strCells_length _;have hval:∀(j:Nat) (x:Int),(Zgb y)[j]? = some x→(strCells (ba y))[j]? = some (.int .u8 x):=fun j x hj=>by rw [Zbgb,Yv,hj];rfl
  rcases hown with ⟨rfl,rfl⟩ | ⟨g,cap,cs,fr,rfl,hg,hfr,_,hlc,hcs,hrep⟩
  ·obtain ⟨v',w',hr,ho',hgr,hat⟩:=Zt8 (P:=P) (w:=w) (t:=t) (u:=u) (ty:=ty) hu hus hq hzz hsize hby (World.ownsRow_nil w 0 ti.elem 1) (s:=ba y) (by simpa using hb)
   refine ⟨v',w',hr,hgr,hat,fun b hb=>(World.ownsRow.lt ho' b hb).2,fun F' hF=>Zp0 (Zns (t:=.int .u8) (xs:=[]++strCells (ba y)) (by
    have h:=ho';rw [Ym,Y1] at h;rw [Y1,hlen];exact h) (fun j x hj=>?_))⟩
   have hj2:=hval j x (by simpa using hj);show ((([]:List Value)++strCells (ba y)).drop (j*1)).take 1=[.int .u8 x];obtain ⟨hlt,e⟩:=Yh.1 hj2;rw [Y1,Yl,Y7 hlt,e];rfl
  ·have hgl:g<w.heap.size:=(Yr.1 hg).1
   have hcs1:cs.size=cap:=by rw [hcs];show cap*1=cap;omega
   have hval0:∀(j:Nat) (x:Int),l[j]? = some x→cs.toList[j]? = some (.int .u8 x):=fun j x hj=>by
    have h1:(cs.toList.drop (j*1)).take 1=[.int .u8 x]:=hrep j x hj;rw [Yl] at h1;have:=congrArg (fun z=>z[0]?) h1;rw [Yla (by omega),Yja,Yq] at this;exact this
   have hxs:(cs.toList.take l.length).length=l.length:=by simp only [Yk,Yz];omega
   by_cases hroom:l.length+(ba y).size≤cap
   ·obtain ⟨cur',hst,hcur⟩:=Zr6 (P:=P) (o:=l.length) (strCells (ba y)) 0 cs w hg hfr (by rw [hsc,hcs1];omega) (strCells_oneCell (ba y))
    have hf:=run_firstCells_string (P:=P) w 1 (ba y);rw [Yq] at hcur
    have hcl:cur'.size=cs.size:=by
     have:=congrArg Yra hcur;simp only [Yd,Yk,Yna,Yz] at this;omega
    refine ⟨.slice (some ⟨g,0,none⟩) (l.length+(ba y).size) cap,w.setRow g cur',?_,⟨rfl,rfl,rfl,by simp,fun k _ hk=>setRow_other w g k _ (fun e=>hk (by rw [e];rfl))⟩,.inl rfl,fun b hb=>by cases hb;simpa using hgl,fun F' hF=>?_⟩
    ·simp [Builtin.append_,run_underlying hu,run_underlying hus,sizeOf,typeInfo,hq,hsize,Builtin.lenOf,hroom,hf,Addr.add_lit,hst]
    ·refine .inr ⟨g,cap,cur',fr,by rw [Yd,hlen],setRow_heap w g cs cur' ti.elem fr hg,by rw [hcl];exact hfr,nofun,by rw [Yd,hlen];exact hroom,by rw [hcl];exact hcs,fun j x hj=>?_⟩
     show (cur'.toList.drop (j*1)).take 1=[.int .u8 x]
     have hj2:cur'.toList[j]? = some (.int .u8 x):=by
      rw [hcur]
      by_cases hjl:j<l.length
      ·rw [Yj (by rw [Yd,hxs];omega),Yj (by rw [hxs];exact hjl),Yla hjl]
       rw [Yj hjl] at hj;exact hval0 j x hj
      ·rw [Yo (by omega)] at hj
       have h2:=hval _ x hj;have h3:=(Yh.1 h2).1;rw [Yj (by rw [Yd,hxs];omega),Yo (by rw [hxs];omega),hxs];exact h2
     obtain ⟨hlt,e⟩:=Yh.1 hj2;rw [Yl,Y7 hlt,e];rfl
   ·have holds:∀j u,(cs.toList.take l.length)[j]? = some u→w.cell? ((⟨g,0,none⟩:Addr).add j)=some u:=by
     intro j u hj;rw [Yp] at hj;split at hj
     ·rw [Ztg,Ym,cell_of_row w g j cs _ _ hg]
      simpa using hj
     ·cases hj
    have hr:=run_append_grow_string (P:=P) w t u ty ti.elem q (.int .u8 0) hu hus hq hzz ⟨g,0,none⟩ l.length cap (cs.toList.take l.length) (by rw [hsize,Yl];exact hxs) holds (ba y) (by omega) (by omega) (by rw [hby];exact growslice_fits (by omega) (by omega));have hcap:=grownCap_ge w (l.length+(ba y).size) cap ti.elem;have hlq:((cs.toList.take l.length)++strCells (ba y)).length=l.length+(ba y).size:=by rw [Yd,hxs,hsc]
    refine ⟨_,_,hr,⟨rfl,rfl,rfl,by simp,fun k hk _=>heap_alloc_old w.drew _ hk⟩,.inr rfl,fun b hb=>by cases hb;simp,fun F' hF=>?_⟩;refine Zp0 (z:=false) (Zns (t:=.int .u8) (xs:=cs.toList.take l.length++strCells (ba y)) ⟨by rw [hlq,Yd,hlen];show _=_*1;omega,.inr ⟨w.heap.size,_,_,by rw [Yd,hlen],Yx _,heap_alloc_new w.drew _,by rw [Yd,hlen];exact hcap,grownCap_le_maxLen w _ cap ti.elem (by unfold maxLen;omega),?_,?_⟩⟩ fun j x hj=>?_)
    ·simp only [Y5,Yaa,size_zeroCells,hxs,hsc]
     show l.length+(ba y).size+(grownCap w (l.length+(ba y).size) cap ti.elem-(l.length+(ba y).size))*1=_*1;omega
    ·simp only [Yn,Ys]
     rw [← Ys,Yd,hlen];show List.take ((l.length+(ba y).size)*1) _=_;rw [Yl,← hlq];exact Ysa
    ·show ((cs.toList.take l.length++strCells (ba y)).drop (j*1)).take 1=[.int .u8 x]
     have hj2:(cs.toList.take l.length++strCells (ba y))[j]? = some (.int .u8 x):=by
      by_cases hjl:j<l.length
      ·rw [Yj (by rw [hxs];exact hjl),Yla hjl]
       rw [Yj hjl] at hj;exact hval0 j x hj
      ·rw [Yo (by omega)] at hj
       rw [Yo (by rw [hxs];omega),hxs];exact hval _ x hj
     obtain ⟨hlt,e⟩:=Yh.1 hj2;rw [Yl,Y7 hlt,e];rfl
 ·cases hz
theorem Zkpb {F:Nat→Prop} {t u ty:TypeId} {ti ei:TI} {et:Ty} (he:Ty.int .u8=et) (hu:P.underlying t=some (.slice ti.elem)) (hus:P.underlying u=some .string) (Te:TiFor P ti.elem ei) (hz:Zkp ei=true) {v:Value} {l:List et.T}
  (hown:Zfc w F true ti.elem et v l) {y:Str} (hb:(l.length+(he▸Zgb y:List et.T).length)*ei.bytes≤140737488355328):
  ∃v' w',(Builtin.append_ #[t,u] ty #[v,.string (ba y)]).run P w = .ok v' w'∧w.grownBy w' v.ownBlock∧(v'.ownBlock=v.ownBlock∨v'.ownBlock=some w.heap.size)∧(∀b,v'.ownBlock=some b→b<w'.heap.size) ∧
   ∀F',(∀b,F b→w'.heap[b]? = w.heap[b]?∧F' b)→Zfc w' F' true ti.elem et v' (l++(he▸Zgb y:List et.T)):=by
 subst he
 exact Zjpb hu hus Te hz hown hb
theorem Zq8 (T:Zob P C.ti) (h:Rel X ρ st a w) {t:TypeId} {s:Operand}
  {ti ei:TI} (hti:C.ti.get t=some ti) (hk:ti.kind=3) {sv:AV} (hs:Z4 X ρ w sv (a.eval s)) {d:Σ r:Ty,List r.T}
  (old:(Zhv ti ei sv d).run st K=some r→Zdb P o a w X ρ st K r)
  (mkr:∀(hd:d.1=ei.ty) (v:Value) (l:List ei.ty.T),a.eval s=v→Zfc w (Fix X ρ w) true ti.elem ei.ty v l→(l.length+(hd▸d.2:List ei.ty.T).length)*ei.bytes≤140737488355328 →
   ∃v' w',(execOp a.eval o).run P w = .ok (.value v') w'∧w.grownBy w' v.ownBlock∧(v'.ownBlock=v.ownBlock∨v'.ownBlock=some w.heap.size)∧(∀b,v'.ownBlock=some b→b<w'.heap.size) ∧
    ∀F',(∀b,Fix X ρ w b→w'.heap[b]? = w.heap[b]?∧F' b)→Zfc w' F' true ti.elem ei.ty v' (l++(hd▸d.2:List ei.ty.T)))
  (hr:(Z0m ti ei sv d).run st K=some r):Zdb P o a w X ρ st K r:=by
 unfold Zhv at old
 unfold Z0m at hr
 split at hr
 ·cases hr
 ·rename_i hd hdd
  rw [hdd] at old;split at hr
  ·exact old hr
  ·rename_i m
   replace hr:(Zb2 ti ei (hd.down▸d.2) m (st.ent m)).run st K=some r:=hr;replace old:(Zgv ti ei (hd.down▸d.2) m (st.ent m)).run st K=some r→Zdb P o a w X ρ st K r:=old;unfold Zb2 at hr;split at hr
   ·rename_i et rt l he
    split at hr
    ·cases hr
    ·rename_i hd2 _
     have mkr:=mkr hd.down;have he2:st.ent m = .arr true et ei.ty (hd2.down▸l:List ei.ty.T):=by rw [he];exact Zq9 hd2.down
     clear he old;generalize (hd2.down▸l:List ei.ty.T)=l at hr he2;generalize (hd.down▸d.2:List ei.ty.T)=dl at hr mkr
     rename st.ent m=_=>he
     cases hee:Yb et ti.elem with
     | false=>rw [hee] at hr;cases hr
     | true=>
      rw [hee] at hr;obtain rfl:=Ya hee;obtain ⟨l2,hl2,hr1⟩:=Zyf hr;replace hr1:(M.new (.arr true ti.elem ei.ty l2) fun n=>.ret (AV.one (.own n))).run (st.setB m .free) K=some r:=hr1;obtain ⟨hnl,hr1⟩:=Zvj hr1;obtain ⟨hb,rfl⟩:=Z7x hl2;have h0:=h.ents m;rw [he] at h0;obtain ⟨v,hv,h0⟩:=h0;have hs2:=hs.2;rw [hv] at hs2;have hs2:a.eval s=v:=hs2;have hlo:Z0 ti.elem=false:=(T _ _ hti).low hk;obtain ⟨v',w',hrun,hg,hat,hvl,hrow⟩:=mkr v l hs2 (h0.slice hlo) hb;obtain ⟨ρ',m1,m2,m3⟩:=h.appended hnl (z:=true) (e:=ti.elem) (t:=ei.ty) (l:=l++dl) hv hg hat hvl hlo (h0.slice hlo).own hrow;refine Zmh hrun hr1 ?_ m1 m2 rfl;show Zlb X ρ' w' (.own st.nb) _;refine ⟨?_,by rw [m3]⟩;have h0:=m1.ents st.nb;rw [m3,Zck,show (st.setB m .free).nb=st.nb from rfl,Xc rfl] at h0;obtain ⟨v2,hv2,h0⟩:=h0;cases hv2;exact h0.form
   ·exact old hr
  ·cases hr
theorem Zr8 (T:Zob P C.ti) (h:Rel X ρ st a w) {c:Call} {t:TypeId} {s x:Operand} (ho:o.op = .call c) (hc:c.callee = .builtin .append) (ha:c.args.toList=[s,x]) (ht:c.argTypes = #[t,t])
  {ti ei:TI} (hti:C.ti.get t=some ti) (hei:C.ti.get ti.elem=some ei) (hk:ti.kind=3) (hsz:ei.ty.sz=ei.sz) (hpos:0<ei.sz) {sv:AV} (hs:Z4 X ρ w sv (a.eval s)) {d:Σ r:Ty,List r.T} (hx:Zai w (Fix X ρ w) (a.eval x) d.1 d.2)
  (hr:(Z0m ti ei sv d).run st K=some r):Zdb P o a w X ρ st K r:=by
 have hu:=Zxq T hti hk
 refine Zq8 T h hti hk hs (fun hr=>?_) (fun hd v l hv hrow hb=>?_) hr
 ·by_cases hd:d.1.sz=ei.sz
  ·exact Zs8 T h hti hei hk hsz hpos hs (Zwhb ho hc ha ht hu (T _ _ hei) hd hpos hx) hr
  ·unfold Zhv at hr
   split at hr
   ·cases hr
   ·rename_i hd2 _
    exact absurd (by rw [hd2.down];exact hsz) hd
 ·have hx2:Zai w (Fix X ρ w) (a.eval x) ei.ty (hd▸d.2:List ei.ty.T):=by
   obtain ⟨dt,dl⟩:=d;cases hd;exact hx
  obtain ⟨v',w',hrun,h1,h2,h3,h4⟩:=Zipb (P:=P) (t:=t) (ty:=o.type) hu (T _ _ hei) hsz hpos hrow hx2 hb;exact ⟨v',w',Zp6 ho hc ha ht (by rw [hv];exact hrun),h1,h2,h3,h4⟩
theorem Zhpb {F F':Nat→Prop} {t ty:TypeId} {ti ei:TI} {et:Ty} (hu:P.underlying t=some (.slice ti.elem)) (Te:TiFor P ti.elem ei) (hsz:et.sz=ei.sz) (hpos:0<ei.sz) {A:Option Addr} {xv:Value} {l m:List et.T}
  (hl:Rep w F' (.sl et) l [.slice A l.length l.length]) (hx:Zai w F xv et m) (hm:0<m.length) (hb:(l.length+m.length)*ei.bytes≤140737488355328):
  ∃c cs,(Builtin.append_ #[t,t] ty #[.slice A l.length l.length,xv]).run P w = .ok (.slice (some ⟨w.heap.size,0,none⟩) (l.length+m.length) c) (w.drew.alloc (.cells cs ti.elem))∧l.length+m.length≤c∧c≤maxLen∧cs.size=c*et.sz ∧
   (∀(j:Nat) (x:et.T),l[j]? = some x→Rep w F' et x ((cs.toList.drop (j*et.sz)).take et.sz))∧∀(j:Nat) (x:et.T),m[j]? = some x→Rep w F et x ((cs.toList.drop ((l.length+j)*et.sz)).take et.sz):=by
 obtain ⟨q,hq,hq2,hq3,z,hz,hz1,_⟩:=Te.info
 have hbp:=Te.pos hpos
 obtain ⟨B,c,rfl,hx⟩:=hx
 rcases hx with rfl | ⟨b,p,rfl,_,hrow⟩
 ·cases hm
 obtain ⟨ys,y1,y2,y3,y4⟩:=Zmu hrow
 have hlen:l.length+m.length≤140737488355328:=Y4 (Y3 _ hbp) hb
 have hqs:q.size=et.sz:=by rw [hq2,hsz]
 have hys:ys.length=m.length*q.size:=by rw [hqs];exact y1
 have hnews:∀j v,ys[j]? = some v→w.cell? ((⟨b,p,none⟩:Addr).add j)=some v:=fun j u hj=>by rw [Ztg];exact y2 j u hj
 obtain ⟨A',c',hA,_,hrowl⟩:=hl
 cases hA
 have hfin:∀(xs:List Value) (c:Nat),xs.length=l.length*et.sz→l.length+m.length≤c→(∀(j:Nat) (x:et.T),l[j]? = some x→Rep w F' et x ((xs.drop (j*et.sz)).take et.sz)) →
   ((xs.toArray++ys.toArray++Builtin.zeroCells z.cells (c-(l.length+m.length))).size=c*et.sz) ∧
   (∀(j:Nat) (x:et.T),l[j]? = some x→Rep w F' et x (((xs.toArray++ys.toArray++Builtin.zeroCells z.cells (c-(l.length+m.length))).toList.drop (j*et.sz)).take et.sz)) ∧
   ∀(j:Nat) (x:et.T),m[j]? = some x→Rep w F et x (((xs.toArray++ys.toArray++Builtin.zeroCells z.cells (c-(l.length+m.length))).toList.drop ((l.length+j)*et.sz)).take et.sz):=by
  intro xs c hxl hc hxs;have hzs:z.cells.size=et.sz:=by rw [hz1,hsz]
  refine ⟨?_,?_,?_⟩
  ·simp only [Y5,Yaa,hxl,y1,Builtin.zeroCells]
   simp [hzs];rw [← Yc,← Yc];congr 1;omega
  ·intro j x hj
   have hjl:=(Yh.1 hj).1;have h3:(j+1)*et.sz≤l.length*et.sz:=Yg _ hjl;rw [Yc,Yi] at h3;have:=hxs j x hj;rw [Yn,Yn,Ys,Yca,Y6 (by omega),Yba (by simp;omega)];exact this
  ·intro j x hj
   have hjl:=(Yh.1 hj).1;have h3:(j+1)*et.sz≤m.length*et.sz:=Yg _ hjl;rw [Yc,Yi] at h3;have:=y4 j x hj;rw [Yn,Yn,Ys,Yca,Yia,Yt (by rw [hxl,Yc];omega),Y1,show (l.length+j)*et.sz-xs.length=j*et.sz by rw [hxl,Yc];omega,Yca,Y6 (by omega),Yba (by simp;omega)];exact this
 have hcap:∀old,l.length+m.length≤grownCap w (l.length+m.length) old ti.elem∧grownCap w (l.length+m.length) old ti.elem≤maxLen:=fun old=>⟨grownCap_ge w _ old _,grownCap_le_maxLen w _ old _ (by unfold maxLen;omega)⟩
 rcases hrowl with rfl | ⟨b',p',rfl,_,hrowl⟩
 ·cases A with
  | none=>
   have hr:=run_append_nil (P:=P) (w:=w) t ty ti.elem q z hu hq hz ⟨b,p,none⟩ m.length c ys hys hnews hm (by omega) (by rw [hq3];simp at hb;omega);have hc:=hcap 0;simp only [Y9,Ym] at hc;obtain ⟨f1,f2,f3⟩:=hfin [] (grownCap w m.length 0 ti.elem) (by simp) (by simpa using hc.1) (fun j x hj=>by simp at hj);simp only [Y9,Ym] at f1 f2 f3 ⊢;refine ⟨_,_,hr,hc.1,hc.2,?_,?_,?_⟩
   ·rw [Yfa] at f1;exact f1
   ·rw [Yfa] at f2;exact f2
   ·rw [Yfa] at f3;exact f3
  | some ad=>
   have hr:=run_append_grow (P:=P) (w:=w) t ty ti.elem q z hu hq hz ad 0 0 [] (by simp) (fun j v hj=>by simp at hj) ⟨b,p,none⟩ m.length c ys hys hnews (by omega) (by omega) (by rw [hq3];exact growslice_fits (by omega) (by simpa using hb));have hc:=hcap 0;simp only [Y9,Ym] at hc hr;obtain ⟨f1,f2,f3⟩:=hfin [] (grownCap w m.length 0 ti.elem) (by simp) (by simpa using hc.1) (fun j x hj=>by simp at hj);simp only [Y9,Ym] at f1 f2 f3 ⊢;exact ⟨_,_,hr,hc.1,hc.2,f1,f2,f3⟩
 ·obtain ⟨xs,x1,x2,x3,x4⟩:=Zmu hrowl
  have hr:=run_append_grow (P:=P) (w:=w) t ty ti.elem q z hu hq hz ⟨b',p',none⟩ l.length l.length xs (by rw [hqs];exact x1) (fun j u hj=>by rw [Ztg];exact x2 j u hj) ⟨b,p,none⟩ m.length c ys hys hnews (by omega) (by omega) (by rw [hq3];exact growslice_fits (by omega) hb);obtain ⟨c1,c2⟩:=hcap l.length;obtain ⟨f1,f2,f3⟩:=hfin xs _ x1 c1 x4;exact ⟨_,_,hr,c1,c2,f1,f2,f3⟩
theorem Zvhb (T:Zob P C.ti) (h:Rel X ρ st a w) {c:Call} {t:TypeId} {s x:Operand} (ho:o.op = .call c) (hc:c.callee = .builtin .append) (ha:c.args.toList=[s,x]) (ht:c.argTypes = #[t,t])
  {rt:Ty} {l0:List rt.T} {xv:AV} (hs:Z4 X ρ w (.full rt l0) (a.eval s)) (hx:Z4 X ρ w xv (a.eval x))
  (hr:(Zvi C t fun ti ei=>bif Yb ei.ty.sz ei.sz&&(Y2 0 ei.sz&&flat ei.ty) then Z6x ti ei rt l0 xv else .fail).run st K=some r):Zdb P o a w X ρ st K r:=by
 obtain ⟨ti,ei,hti,hei,hk,hr1⟩:=Zfm hr
 clear hr
 cases hb:(Yb ei.ty.sz ei.sz&&(Y2 0 ei.sz&&flat ei.ty)) with
 | false=>rw [hb] at hr1;cases hr1
 | true=>
  rw [hb] at hr1;obtain ⟨c3,c45⟩:=(Yf _ _).mp hb;obtain ⟨c4,c5⟩:=(Yf _ _).mp c45;have c3:=Ya c3;have c4:0<ei.sz:=Yda c4;replace hr1:(Z6x ti ei rt l0 xv).run st K=some r:=hr1;unfold Z6x at hr1;split at hr1
  ·rw [M.run_bind] at hr1
   obtain ⟨d,hr,hd⟩:=Zqy h hx hr1;clear hr1;obtain ⟨dt,dl⟩:=d;unfold Zp8 at hr;split at hr
   ·rename_i h1 h2 _ _
    obtain rfl:=h1.down;have hdt:dt=ei.ty:=h2.down;subst hdt;replace hr:(Zo8 ti ei l0 dl).run st K=some r:=hr;cases dl with
    | nil=>cases hr
    | cons y ys=>
     obtain ⟨k,hk2,hr1⟩:=Zyf hr;clear hr;obtain ⟨hnl,hr1⟩:=Zvj hr1;obtain ⟨hbb,rfl⟩:=Z7x hk2;obtain ⟨⟨A,hA⟩,hrep⟩:=hs;rw [hA] at hrep;have hu:=Zxq T hti hk;obtain ⟨cp,cs,hrun,k1,k2,k3,k4,k5⟩:=Zhpb (P:=P) (ty:=o.type) hu (T _ _ hei) c3 c4 hrep hd (by simp) hbb;have hlo:Z0 ti.elem=false:=(T _ _ hti).low hk;have x0:Ext ρ w ρ (w.drew.alloc (.cells cs ti.elem)):=(Z1ab ρ w).trans (Zqp ρ w.drew (.cells cs ti.elem));have hsz:w.drew.heap.size=w.heap.size:=rfl;have hnew:(w.drew.alloc (.cells cs ti.elem)).heap[w.heap.size]? = some (.cells cs ti.elem (0,0)):=heap_alloc_new w.drew _
     have e2:=x0.slot (n:=st.nb) (c:=.row (.slice (some ⟨w.heap.size,0,none⟩) (l0.length+(y::ys).length) cp)) (h.fresh.1 _ (.inl ⟨Ye _,hnl⟩)) (fun b hb=>by
      have hb:some w.heap.size=some b:=hb;cases hb;exact Ye _)
     have hrow:Zac (w.drew.alloc (.cells cs ti.elem)) (Fix X (upd ρ st.nb (some (.row (.slice (some ⟨w.heap.size,0,none⟩) (l0.length+(y::ys).length) cp)))) (w.drew.alloc (.cells cs ti.elem)))
       false ti.elem ei.ty (.slice (some ⟨w.heap.size,0,none⟩) (l0.length+(y::ys).length) cp) (l0++(y::ys)):=by
      refine Zfc.ok (.inr ⟨w.heap.size,cp,cs,(0,0),by rw [Yd],hnew,.inl rfl,fun _=>⟨rfl,k2⟩,by rw [Yd];exact k1,k3,?_⟩) hlo;intro j z hj
      by_cases hjl:j<l0.length
      ·rw [Yj hjl] at hj
       exact Rep.ext (X:=X) (ρ:=ρ) (Rep.flat (F:=Brw ρ w) c5 (k4 j z hj)) e2
      ·rw [Yo (by omega)] at hj
       have:=k5 _ z hj;rw [show l0.length+(j-l0.length)=j by omega] at this;exact Rep.ext (X:=X) (ρ:=ρ) this e2
     obtain ⟨ρ',m1,m2,m3⟩:=h.row hnl x0 (fun j b hb=>(Zfo w.drew _ (h.lt j b hb).1)) (v:=.slice (some ⟨w.heap.size,0,none⟩) (l0.length+(y::ys).length) cp) (fun b hb=>by cases hb;exact Ye _) hrow;refine Zmh (Zp6 ho hc ha ht (by rw [hA];exact hrun)) hr1 ?_ m1 m2 rfl;show Zlb X ρ' (w.drew.alloc (.cells cs ti.elem)) (.own st.nb) _;exact ⟨.inl ⟨_,_,_,rfl⟩,by rw [m3]⟩
   ·cases hr
  ·cases hr1
theorem Zjkb (T:Zob P C.ti) (h:Rel X ρ st a w) (hg:Zyc a g) {c:Call} {s x:Operand} (ho:o.op = .call c) (hc:c.callee = .builtin .append) (ha:c.args.toList=[s,x])
  (hr:(bif Zay c then (opd g s).bind fun sv=>(opd g x).bind fun xv=>Zmj c fun t=>Z8x C t sv xv else bif Zby C c then (opd g s).bind fun sv=>(opd g x).bind fun xv=>Zmj c fun t=>Z9x C t sv xv else .fail).run st K=some r):Zdb P o a w X ρ st K r:=by
 cases h1:Zay c with
 | false=>
  rw [h1] at hr;cases h2:Zby C c with
  | false=>rw [h2] at hr;cases hr
  | true=>
   rw [h2] at hr;replace hr:((opd g s).bind fun sv=>(opd g x).bind fun xv=>Zmj c fun t=>Z9x C t sv xv).run st K=some r:=hr;rw [M.run_bind] at hr;obtain ⟨sv,hr1,hs⟩:=Zyb h hg hr;clear hr;rw [M.run_bind] at hr1;obtain ⟨xv,hr,hx⟩:=Zyb h hg hr1;clear hr1;obtain ⟨t,ht,hr1⟩:=Ziv hr;clear hr
   obtain ⟨u,ui,ht2,hui,huk⟩:∃u ui,c.argTypes = #[t,u]∧C.ti.get u=some ui∧ui.kind=2:=by
    unfold Zby at h2;split at h2
    ·rename_i p u hpq
     split at h2
     ·rename_i ui hui
      have h3:=Zzs hpq;rw [h3] at ht;simp at ht;exact ⟨u,ui,by rw [h3,ht],hui,Ya h2⟩
     ·cases h2
    ·cases h2
   obtain ⟨ud,hud,_,_,hu2,_⟩:=(T _ _ hui).und;have hus:P.underlying u=some .string:=by rw [hud,hu2 huk]
   unfold Z9x at hr1;obtain ⟨ti,ei,hti,hei,hk,hr⟩:=Zfm hr1;clear hr1;cases hb:(Yb ei.ty.sz ei.sz&&Zkp ei) with
   | false=>rw [hb] at hr;cases hr
   | true=>
    rw [hb] at hr;obtain ⟨c3,c4⟩:=(Yf _ _).mp hb;have c3:=Ya c3
    have hpos:0<ei.sz:=by
     unfold Zkp at c4;split at c4
     ·simp only [Yf] at c4
      rw [Ya c4.1.2];omega
     ·cases c4
    replace hr:(match xv with
     | .one (.str y)=>Z0m ti ei sv ⟨.int .u8,Zgb y⟩
     | _=>.fail).run st K=some r:=hr
    split at hr
    ·rename_i y
     have hx:a.eval x = .string (ba y):=hx;refine Zq8 T h hti hk hs (fun hr=>Zs8 T h hti hei hk c3 hpos hs (Zxhb ho hc ha ht2 (Zxq T hti hk) hus (T _ _ hei) c4 hx) hr) (fun hd v l hv hrow hb=>?_) hr;obtain ⟨v',w',hrun,h1,h2,h3,h4⟩:=Zkpb (P:=P) (t:=t) (ty:=o.type) hd (Zxq T hti hk) hus (T _ _ hei) c4 hrow hb;exact ⟨v',w',Z1eb ho hc ha ht2 (by rw [hv,hx];exact hrun),h1,h2,h3,h4⟩
    ·cases hr
 | true=>
  rw [h1] at hr;replace hr:((opd g s).bind fun sv=>(opd g x).bind fun xv=>Zmj c fun t=>Z8x C t sv xv).run st K=some r:=hr;rw [M.run_bind] at hr;obtain ⟨sv,hr1,hs⟩:=Zyb h hg hr;clear hr;rw [M.run_bind] at hr1;obtain ⟨xv,hr,hx⟩:=Zyb h hg hr1;clear hr1;obtain ⟨t,ht,hr1⟩:=Ziv hr;clear hr
  have ht2:c.argTypes = #[t,t]:=by
   unfold Zay at h1;split at h1
   ·rename_i p q hpq
    obtain rfl:=Ya h1;have h2:=Zzs hpq;rw [h2] at ht;simp at ht;rw [h2,ht]
   ·cases h1
  unfold Z8x at hr1;split at hr1
  ·exact Zvhb T h ho hc ha ht2 hs hx hr1
  unfold append at hr1;obtain ⟨ti,ei,hti,hei,hk,hr⟩:=Zfm hr1;clear hr1;cases hb:(Yb ei.ty.sz ei.sz&&Y2 0 ei.sz) with
  | false=>rw [hb] at hr;cases hr
  | true=>
   rw [hb] at hr;obtain ⟨c3,c4⟩:=(Yf _ _).mp hb;have c3:=Ya c3;have c4:0<ei.sz:=Yda c4
   replace hr:(match xv with
    | .one .nil=>Z0m ti ei sv ⟨ei.ty,[]⟩
    | .one y=>(Z1r y).bind fun c=>Z0m ti ei sv c
    | _=>.fail).run st K=some r:=hr
   split at hr
   ·have hx:a.eval x = .slice none 0 0:=hx
    exact Zr8 T h ho hc ha ht2 hti hei hk c3 c4 hs ⟨none,0,by rw [hx];rfl,.inl rfl⟩ hr
   ·rw [M.run_bind] at hr
    obtain ⟨d,hr1,hd⟩:=Zqy h hx hr;obtain ⟨dt,dl⟩:=d
    by_cases hdt:dt.sz=ei.sz
    ·exact Zr8 T h ho hc ha ht2 hti hei hk c3 c4 hs hd hr1
    ·exfalso
     unfold Z0m at hr1;split at hr1
     ·cases hr1
     ·rename_i hsame _
      have hsame:dt=ei.ty:=hsame.down;exact hdt (by rw [hsame];exact c3)
   ·cases hr
end
end Go.Proofs.Qz
namespace Go.Proofs.Qz
open Go Go.RowKit
set_option linter.unusedVariables false
section
variable {P:Program} {o:Oper} {X:Nat→Prop} {ρ ρ':Rho} {st st':St} {a:Act} {w w':World} {g:Option (Nat×Bool)} {R:Type} {r:R} {K:AV→St→Option R} {C:Ctx}
theorem Zr4 (T:Zob P C.ti) {t:TypeId} {f:M AV} (hr:(Zbw C t f).run st K=some r):P.underlying t=some (.int .u8)∧f.run st K=some r:=by
 unfold Zbw at hr
 obtain ⟨e,he,hr1⟩:=Z2f hr
 cases hk:Yb e.kind 1 with
 | false=>rw [hk] at hr1;cases hr1
 | true=>
  rw [hk] at hr1;obtain ⟨d,hd,_,h1,_⟩:=(T _ _ he).und;have hk:=h1 (Ya hk)
  replace hr1:(match e.ik with
   | .u8=>f
   | _=>.fail).run st K=some r:=hr1
  split at hr1
  ·rename_i hu
   exact ⟨by rw [hd,hk,hu],hr1⟩
  ·cases hr1
theorem Zhbb:∀(l:List Int) (s:Str),l.foldl (fun r n=>r.push (UInt8.ofNat n.toNat)) (ba s)=ba (s++Ztb l)
 | [],s=>by simp [Ztb]
 | n::l,s=>by
  have h:(ba s).push (UInt8.ofNat n.toNat)=ba (s++[UInt8.ofNat n.toNat]):=by
   apply ByteArray.ext;simp [ba,ByteArray.push]
  rw [List.foldl_cons,h,Zhbb l];simp [Ztb]
theorem Zlpb {F:Nat→Prop} {v:Value} {l:List Int} (hx:Zai w F v (.int .u8) l):(Conv.bytesToString v).run P w = .ok (.string (ba (Ztb l))) w:=by
 obtain ⟨A,c,rfl,hx⟩:=hx
 cases A with
 | none=>
  rcases hx with rfl | ⟨_,_,h,_⟩
  ·rfl
  ·cases h
 | some ad=>
  have hl:(loadCells ad l.length).run P w = .ok (l.map (Value.int .u8)).toArray w:=by
   have:=run_loadCells_list (P:=P) w ad (l.map (Value.int .u8)) (fun j v hj=>by
    rcases hx with rfl | ⟨b,q,hA,_,hrow⟩
    ·simp at hj
    ·cases hA
     rw [Yv] at hj;obtain ⟨n,hn,rfl⟩:=Yxa.1 hj;obtain ⟨cs,hc,hrep⟩:=hrow j n hn;have hrep:cs=[.int .u8 n]:=hrep;subst hrep;have:=hc 0 _ rfl;rw [Ztg];simpa [Ty.sz] using this)
   simpa using this
  rw [run_bytesToString w ad _ c l hl];have:=Zhbb l [];rw [Y1] at this;rw [← this];rfl
theorem Zobb (T:Zob P C.ti) (h:Rel X ρ st a w) {s d:TypeId} {x:Operand} (ho:o.op = .convert s d x) {xv:AV} (hx:Z4 X ρ w xv (a.eval x))
  (hr1:(convert C s d xv).run st K=some r):Zdb P o a w X ρ st K r:=by
 unfold convert at hr1
 obtain ⟨si,hsi,hr⟩:=Z2f hr1
 clear hr1
 obtain ⟨di,hdi,hr1⟩:=Z2f hr
 clear hr
 obtain ⟨sd,hsd,_,_,hs2,hs3,_⟩:=(T _ _ hsi).und
 obtain ⟨dd,hdd,_,hd1,hd2,hd3,_⟩:=(T _ _ hdi).und
 unfold Z39 at hr1
 split at hr1
 ·rename_i k n
  cases hk:Yb di.kind 1 with
  | false=>rw [hk] at hr1;cases hr1
  | true=>
   rw [hk] at hr1;have:=hd1 (Ya hk);subst this;have hx:a.eval x = .int k n:=hx;refine Zib (v:=.int di.ik (di.ik.wrap n)) ?_ hr1 rfl h;unfold execOp;rw [ho];simp [Go.convert,hx,run_underlying hsd,run_underlying hdd,Conv.intToInt]
 ·rename_i t
  have hx:a.eval x = .string (ba t):=hx;cases hk:Yb di.kind 2 with
  | true=>
   rw [hk] at hr1;have:=hd2 (Ya hk);subst this;refine Zib (v:=.string (ba t)) ?_ hr1 rfl h;unfold execOp;rw [ho];simp [Go.convert,hx,run_underlying hsd,run_underlying hdd]
  | false=>
   rw [hk] at hr1;cases hk2:(Yb si.kind 2&&Yb di.kind 3) with
   | false=>rw [hk2] at hr1;cases hr1
   | true=>
    rw [hk2] at hr1;obtain ⟨c1,c2⟩:=(Yf _ _).mp hk2;have:=hs2 (Ya c1);subst this;have:=hd3 (Ya c2);subst this;obtain ⟨hbt,hr⟩:=Zr4 T hr1;clear hr1;obtain ⟨u,hu,hr1⟩:=Zyf hr;clear hr;obtain ⟨hnl,hr1⟩:=Zvj hr1
    have hroom:t.length≤140737488355328:=by
     unfold Z7w at hu;split at hu
     ·rename_i hc;simpa using hc
     ·cases hu
    have hb:=run_bytes_of_string (P:=P) w s d di.elem (ba t) hsd hdd hbt;generalize hcap:grownCap w (ba t).size 0 di.elem=cap at hb
    have hcap1:t.length≤cap:=by
     rw [← hcap];exact grownCap_ge w (ba t).size 0 di.elem
    have hrs:(bytesRow (ba t) cap).size=cap:=by
     have:(ba t).size=t.length:=rfl;have:(ba t).data.size=t.length:=rfl;simp only [bytesRow,Y5,Array.size_map,Array.size_replicate];omega
    have x0:=(Z1ab ρ w).trans (Zqp ρ w.drew (.cells (bytesRow (ba t) cap) di.elem ((bytesRow (ba t) cap).size,(bytesRow (ba t) cap).size+1)))
    have e2:=x0.slot (n:=st.nb) (c:=.row (.slice (some ⟨w.heap.size,0,none⟩) (ba t).size cap)) (h.fresh.1 _ (.inl ⟨Ye _,hnl⟩)) (fun b hb=>by
     have hb:some w.heap.size=some b:=hb;cases hb;exact Ye _)
    have hrow:Zac (w.drew.alloc (.cells (bytesRow (ba t) cap) di.elem ((bytesRow (ba t) cap).size,(bytesRow (ba t) cap).size+1))) (Fix X (upd ρ st.nb (some (.row (.slice (some ⟨w.heap.size,0,none⟩) (ba t).size cap)))) (w.drew.alloc (.cells (bytesRow (ba t) cap) di.elem ((bytesRow (ba t) cap).size,(bytesRow (ba t) cap).size+1))))
      true di.elem (.int .u8) (.slice (some ⟨w.heap.size,0,none⟩) (ba t).size cap) (Zgb t):=by
     have hbl:(Zgb t).length=t.length:=by simp [Zgb]
     refine Zfc.ok (.inr ⟨w.heap.size,cap,bytesRow (ba t) cap,_,by rw [hbl];rfl,heap_alloc_new w.drew _,.inr (Ye _),(fun hz=>by cases hz),by rw [hbl];exact hcap1,by rw [hrs];simp [Ty.sz],?_⟩) ((T _ _ hdi).low (Ya c2));intro j y hj
     have hjl:j<t.length:=by
      rw [← hbl];exact (Yh.1 hj).1
     show _=_;apply Yu;intro k;rw [Zki];show (if k<1 then (bytesRow (ba t) cap).toList[j*1+k]? else none)=_
     by_cases hk:k<1
     ·rw [Xc hk]
      have hk0:k=0:=by omega
      subst hk0;rw [Yl,Yq];have hdl:(ba t).data.toList=t:=rfl;simp only [bytesRow,Yn,Ypa,hdl];rw [Yj (by simpa using hjl),Yv];simp only [Zgb,Yv] at hj;obtain ⟨bb,hbb,rfl⟩:=Yxa.1 hj;rw [hbb];rfl
     ·rw [Xd hk,Yka (by simp;omega)]
    obtain ⟨ρ',m1,m2,m3⟩:=h.row hnl x0 (fun j b hb=>Zfo w.drew _ (h.lt j b hb).1) (v:=.slice (some ⟨w.heap.size,0,none⟩) (ba t).size cap) (fun b hb=>by cases hb;exact Ye _) hrow;refine Zmh (v:=.slice (some ⟨w.heap.size,0,none⟩) (ba t).size cap) ?_ hr1 ⟨.inl ⟨_,_,_,rfl⟩,by rw [m3]⟩ m1 m2 rfl;unfold execOp;rw [ho];simp [hx,hb]
 ·rename_i y _ _
  cases hk2:(Yb si.kind 3&&Yb di.kind 2) with
  | false=>rw [hk2] at hr1;cases hr1
  | true=>
   rw [hk2] at hr1;obtain ⟨c1,c2⟩:=(Yf _ _).mp hk2;have:=hs3 (Ya c1);subst this;have:=hd2 (Ya c2);subst this;obtain ⟨hbt,hr⟩:=Zr4 T hr1;clear hr1
   have key:∀l,Zai w (Fix X ρ w) (a.eval x) (.int .u8) l→K (.one (.str (Ztb l))) st=some r→Zdb P o a w X ρ st K r:=by
    intro l hl hk;have hb:=Zlpb (P:=P) hl;obtain ⟨A,c,hx2,_⟩:=hl;refine Zib (v:=.string (ba (Ztb l))) ?_ hk rfl h;unfold execOp;rw [ho];rw [hx2] at hb;simp only [hx2,Sem.run_bind,run_convert_bytes_string w s d si.elem A l.length c hsd hbt hdd,hb,Result.andThen_ok];rfl
   unfold Z49 at hr;split at hr
   ·have hx:a.eval x = .slice none 0 0:=hx
    exact key [] ⟨none,0,by rw [hx];rfl,.inl rfl⟩ hr
   ·rw [M.run_bind] at hr
    obtain ⟨c,hr1,hc⟩:=Zqy h hx hr;split at hr1
    ·exact key _ hc hr1
    ·cases hr1
 ·cases hr1
def Z4u (v:Option Value) (d i:Int):Prop:=(v=none∧i=d)∨∃k,v=some (.int k i)
theorem Zwp {x:Option AV} {v:Option Value} {d:Int} {K:Int→St→Option R} (hx:∀y,x=some y→∃u,v=some u∧Z4 X ρ w y u) (hn:x=none→v=none) (hr:(Zcn x d).run st K=some r):∃i,K i st=some r∧Z4u v d i:=by
 unfold Zcn at hr
 split at hr
 ·exact ⟨d,hr,.inl ⟨hn rfl,rfl⟩⟩
 ·rename_i y
  obtain ⟨u,hu,hy⟩:=hx y rfl;obtain ⟨k,n,hv,hk⟩:=Z9j hy hr;exact ⟨n,hk,.inr ⟨k,by rw [hu,hv]⟩⟩
theorem Zt0 {b:Bool} {len cap:Nat} {lo hi:Option Value} {i j:Int} (h1:Z4u lo 0 i) (h2:Z4u hi len j) (hi0:0≤i) (hij:i≤j) (hjc:j≤cap):
  (Instr.sliceBounds b len cap lo hi none).run P w = .ok (i.toNat,j.toNat,cap) w:=by
 have hj0:0≤j:=by omega
 have hij2:i≤(j.toNat:Int):=by omega
 rcases h1 with ⟨rfl,rfl⟩ | ⟨k,rfl⟩ <;> rcases h2 with ⟨rfl,rfl⟩ | ⟨k2,rfl⟩
 ·simp [Instr.sliceBounds]
 ·simp [Instr.sliceBounds,run_sliceBound (P:=P) w k2 j cap _ hj0 hjc]
 ·simp only [Int.toNat_natCast] at hij2
  simp [Instr.sliceBounds,run_sliceBound (P:=P) w k i len _ hi0 hij2]
 ·simp [Instr.sliceBounds,run_sliceBound (P:=P) w k2 j cap _ hj0 hjc,run_sliceBound (P:=P) w k i j.toNat _ hi0 hij2]
theorem Zty {α:Type} {l m:List α} {i j:Int} (h:Z2b l i j=some m):0≤i∧i≤j∧j≤l.length∧m=(l.take j.toNat).drop i.toNat:=by
 unfold Z2b at h
 split at h
 ·rename_i hc
  cases h;exact ⟨hc.1,hc.2.1,hc.2.2,rfl⟩
 ·cases h
theorem Zax {t:TypeId} {x:Operand} {lo hi:Option Operand} (ho:o.op = .slice t x lo hi none) {v:Value} (hr:(Instr.sliceAt t (a.eval x) (lo.map a.eval) (hi.map a.eval) none).run P w = .ok v w):(execOp a.eval o).run P w = .ok (.value v) w:=by
 unfold execOp
 rw [ho]
 simp [hr]
theorem Z89 (T:Zob P C.ti) {F:Nat→Prop} {t:TypeId} {x:Operand} {lo hi:Option Operand} (ho:o.op = .slice t x lo hi none) {e:TypeId} {ei:TI} (hu:P.underlying t=some (.slice e)) (hei:C.ti.get e=some ei)
  {rt:Ty} {l:List rt.T} {i j:Int} (hy:Rep w F (.sl rt) l [a.eval x]) (hs:rt.sz=ei.sz) (hbi:Z4u (lo.map a.eval) 0 i) (hbj:Z4u (hi.map a.eval) l.length j) (h1:0≤i) (h2:i≤j) (h3:j≤l.length):
  ∃v,(execOp a.eval o).run P w = .ok (.value v) w∧Rep w F (.sl rt) ((l.take j.toNat).drop i.toNat) [v]:=by
 obtain ⟨A,c,hx,hlc,hrow⟩:=hy
 have hx2:a.eval x = .slice A l.length c:=by
  cases hx3:a.eval x <;> rw [hx3] at hx <;> cases hx;rfl
 have hb:=Zt0 (P:=P) (w:=w) (b:=true) (cap:=c) hbi hbj h1 h2 (by omega)
 refine ⟨.slice (if c=i.toNat then A else A.map (·.add (i.toNat*ei.sz))) (j.toNat-i.toNat) (c-i.toNat),Zax ho ?_,?_⟩
 ·rw [hx2]
  simp [Instr.sliceAt,Instr.slice,run_underlying hu,hb,Zxg (T _ _ hei)]
 ·have hlen:((l.take j.toNat).drop i.toNat).length=j.toNat-i.toNat:=by simp;omega
  refine ⟨_,c-i.toNat,by rw [hlen],by rw [hlen];omega,?_⟩
  by_cases he:(l.take j.toNat).drop i.toNat=[]
  ·exact .inl he
  ·refine .inr ?_
   have hne:i.toNat<j.toNat:=by
    rcases Yva i.toNat j.toNat with hlt | hge
    ·exact hlt
    ·exact absurd (Y8 (by rw [hlen];omega)) he
   rcases hrow with rfl | ⟨b,q,rfl,hfix,hrow⟩
   ·simp at h3;omega
   ·rw [Xd (by omega)]
    refine ⟨b,q+i.toNat*ei.sz,by simp [Ztg],hfix,?_⟩;intro k z hk;rw [Yja,Yp] at hk;split at hk
    ·obtain ⟨cs,hc,hrep⟩:=hrow _ z hk
     refine ⟨cs,?_,hrep⟩;rw [← hs]
     rwa [show q+i.toNat*rt.sz+k*rt.sz=q+(i.toNat+k)*rt.sz by rw [Yc];omega]
    ·cases hk
theorem Zd7 (T:Zob P C.ti) (h:Rel X ρ st a w) {t:TypeId} {x:Operand} {lo hi:Option Operand} (ho:o.op = .slice t x lo hi none) {lv hv:Option AV}
  (hl:∀y,lv=some y→∃u,lo.map a.eval=some u∧Z4 X ρ w y u) (hl0:lv=none→lo.map a.eval=none) (hh:∀y,hv=some y→∃u,hi.map a.eval=some u∧Z4 X ρ w y u) (hh0:hv=none→hi.map a.eval=none)
  {e:TypeId} {ei:TI} (hu:P.underlying t=some (.slice e)) (hei:C.ti.get e=some ei) {y:Leaf} (hy:Zlb X ρ w y (a.eval x)) (hsz:∀rt l,y = .list rt l∨y = .bor rt l→rt.sz=ei.sz)
  (hr:(Zix lv hv y).run st K=some r):Zdb P o a w X ρ st K r:=by
 unfold Zix at hr
 split at hr
 ·rename_i rt l
  rw [M.run_bind] at hr;obtain ⟨i,hr1,hbi⟩:=Zwp hl hl0 hr;clear hr;rw [M.run_bind] at hr1;obtain ⟨j,hr,hbj⟩:=Zwp hh hh0 hr1;clear hr1;obtain ⟨m,hm,hr1⟩:=Zyf hr;obtain ⟨h1,h2,h3,rfl⟩:=Zty hm;obtain ⟨v,k1,k2⟩:=Z89 T ho hu hei hy (hsz rt l (.inl rfl)) hbi hbj h1 h2 h3;exact Zib k1 hr1 k2 h
 ·rename_i rt l
  rw [M.run_bind] at hr;obtain ⟨i,hr1,hbi⟩:=Zwp hl hl0 hr;clear hr;rw [M.run_bind] at hr1;obtain ⟨j,hr,hbj⟩:=Zwp hh hh0 hr1;clear hr1;obtain ⟨m,hm,hr1⟩:=Zyf hr;obtain ⟨h1,h2,h3,rfl⟩:=Zty hm;obtain ⟨v,k1,k2⟩:=Z89 T ho hu hei hy (hsz rt l (.inr rfl)) hbi hbj h1 h2 h3;exact Zib k1 hr1 k2 h
 ·rw [M.run_bind] at hr
  obtain ⟨i,hr1,hbi⟩:=Zwp hl hl0 hr;clear hr;rw [M.run_bind] at hr1;obtain ⟨j,hr,hbj⟩:=Zwp hh hh0 hr1;clear hr1;cases hc:(decide (i=0)&&decide (j=0)) with
  | false=>rw [hc] at hr;cases hr
  | true=>
   rw [hc] at hr;obtain ⟨c1,c2⟩:=(Yf _ _).mp hc;have c1:i=0:=of_decide_eq_true c1;have c2:j=0:=of_decide_eq_true c2;subst c1;subst c2;have hx:a.eval x = .slice none 0 0:=hy;have hb:=Zt0 (P:=P) (w:=w) (b:=true) (len:=0) (cap:=0) hbi hbj (Yga _) (Yga _) (by simp);refine Zib (v:=.slice none 0 0) (Zax ho ?_) hr rfl h;rw [hx];simp [Instr.sliceAt,Instr.slice,run_underlying hu,hb,Zxg (T _ _ hei)]
 ·cases hr
theorem Zjrb (T:Zob P C.ti) (h:Rel X ρ st a w) {t:TypeId} {x:Operand} {lo hi:Option Operand} (ho:o.op = .slice t x lo hi none) {xv:AV} {lv hv:Option AV} (hx:Z4 X ρ w xv (a.eval x))
  (hl:∀y,lv=some y→∃u,lo.map a.eval=some u∧Z4 X ρ w y u) (hl0:lv=none→lo.map a.eval=none) (hh:∀y,hv=some y→∃u,hi.map a.eval=some u∧Z4 X ρ w y u) (hh0:hv=none→hi.map a.eval=none)
  (hr1:(Ze7 C t xv lv hv).run st K=some r):Zdb P o a w X ρ st K r:=by
 unfold Ze7 at hr1
 obtain ⟨ti,hti,hr⟩:=Z2f hr1
 clear hr1
 obtain ⟨d,hd,_,_,hd2,hd3,_⟩:=(T _ _ hti).und
 split at hr
 ·rename_i s hk
  have:=hd2 hk;subst this;have hx:a.eval x = .string (ba s):=hx;rw [M.run_bind] at hr;obtain ⟨i,hr1,hbi⟩:=Zwp hl hl0 hr;clear hr;rw [M.run_bind] at hr1;obtain ⟨j,hr,hbj⟩:=Zwp hh hh0 hr1;clear hr1;obtain ⟨m,hm,hr1⟩:=Zyf hr;obtain ⟨h1,h2,h3,rfl⟩:=Zty hm;have hb:=Zt0 (P:=P) (w:=w) (b:=false) (len:=s.length) (cap:=s.length) hbi hbj h1 h2 h3;refine Zib (v:=.string (ba ((s.take j.toNat).drop i.toNat))) (Zax ho ?_) hr1 rfl h;rw [hx];have hsz:(ba s).size=s.length:=rfl
  have hex:(ba s).extract i.toNat j.toNat=ba ((s.take j.toNat).drop i.toNat):=by
   apply ByteArray.ext;simp [ba,ByteArray.data_extract,List.extract];rw [List.drop_take]
  simp [Instr.sliceAt,Instr.slice,run_underlying hd,hsz,hb,hex]
 ·rename_i y hk
  have:=hd3 hk;subst this;obtain ⟨ei,hei,hr1⟩:=Z2f hr;clear hr;split at hr1
  ·rename_i rt l
   cases hz:Yb rt.sz ei.sz with
   | false=>rw [hz] at hr1;cases hr1
   | true=>
    rw [hz] at hr1;have hx:Zlb X ρ w (.bor rt l) (a.eval x):=hx
    exact Zd7 T h ho hl hl0 hh hh0 hd hei hx (fun rt' l' he=>by
     rcases he with he | he
     ·cases he
     ·cases he;exact Ya hz) hr1
  rw [M.run_bind] at hr1;obtain ⟨y',ρ1,st1,hr,hrel,e1,n1,hy,hdat,_⟩:=Za6 h hx hr1;clear hr1
  have up:∀(q:Option Operand) (lv:Option AV),(∀y,lv=some y→∃u,q.map a.eval=some u∧Z4 X ρ w y u)→∀y,lv=some y→∃u,q.map a.eval=some u∧Z4 X ρ1 w y u:=
   fun q lv hq y hy=>by
    obtain ⟨u,h1,h2⟩:=hq y hy;exact ⟨u,h1,h2.ext e1⟩
  have fin:Zdb P o a w X ρ1 st1 K r→Zdb P o a w X ρ st K r:=fun hgood next Q hq=>
   hgood next Q fun av v ρ' st' w' k1 k2 k3 k4 k5=>hq av v ρ' st' w' k1 k2 k3 (e1.trans k4) (k5.trans n1)
  split at hr
  ·rename_i rt l
   cases hz:Yb rt.sz ei.sz with
   | false=>rw [hz] at hr;cases hr
   | true=>
    rw [hz] at hr
    exact fin (Zd7 T hrel ho (up lo lv hl) hl0 (up hi hv hh) hh0 hd hei hy (fun rt' l' he=>by
     rcases he with he | he
     ·cases he;exact Ya hz
     ·cases he) hr)
  ·rename_i hne
   exact fin (Zd7 T hrel ho (up lo lv hl) hl0 (up hi hv hh) hh0 hd hei hy (fun rt' l' he=>by
    rcases he with he | he
    ·exact absurd he (hne rt' l')
    ·rw [he] at hdat;exact hdat.elim) hr)
 ·cases hr
theorem Zweb {x:Leaf} {v:Value} {q:Σ t:Ty,t.T} (h:Zlb X ρ w x v) (e:rp1 x=some q):Rep w (Brw ρ w) q.1 q.2 [v]:=by
 unfold rp1 at e
 split at e
 ·cases e;exact congrArg (fun y=>[y]) h
 ·cases e;exact congrArg (fun y=>[y]) h
 ·cases e;exact congrArg (fun y=>[y]) h
 ·cases e;exact h
 ·cases e;exact Rep.move (fun b hb=>⟨rfl,hb.brw⟩) h
 ·cases e
theorem Zyeb:∀{xs:List Leaf} {vs:List Value} {q:Σ t:Ty,t.T},Zq X ρ w xs vs→Zr0 xs=some q→Rep w (Brw ρ w) q.1 q.2 vs
 | [x],[v],q,h,e=>Zweb h.1 e
 | x::y::xs,v::u::vs,q,h,e=>by
  unfold Zr0 at e;split at e
  ·rename_i q1 q2 h1 h2
   cases e;exact ⟨[v],u::vs,rfl,Zweb h.1 h1,Zyeb h.2 h2⟩
  ·cases e
 | [],[],_,_,e=>by cases e
 | [],_::_,_,h,_=>h.elim
 | _::_,[],_,h,_=>h.elim
 | [_],_::_::_,_,h,_=>h.2.elim
 | _::_::_,[_],_,h,_=>h.2.elim
theorem Zpib {v:AV} {u:Value} {K:Leaf→St→Option R} (h:Z4 X ρ w v u) (hr:(Zqv v).run st K=some r):∃x,K x st=some r∧Zlb X ρ w x u:=by
 unfold Zqv at hr
 split at hr
 ·exact ⟨_,hr,h⟩
 ·split at hr
  ·rename_i xs q hq
   obtain ⟨g,o,cs,h1,h2,h3,h4⟩:=h;exact ⟨_,hr,g,o,cs,h1,h2,h3,Zyeb h4 hq⟩
  ·cases hr
 ·cases hr
theorem Zm9:∀{vs:List AV} {us:List Value} {K:List Leaf→St→Option R},Zni X ρ w vs us→(M.mapL Zqv vs).run st K=some r→∃xs,K xs st=some r∧Zq X ρ w xs us
 | [],[],K,_,hr=>⟨[],hr,trivial⟩
 | v::vs,u::us,K,h,hr=>by
  unfold M.mapL at hr;rw [M.run_bind] at hr;obtain ⟨x,hr1,hx⟩:=Zpib h.1 hr;rw [M.run_bind] at hr1;obtain ⟨xs,hr2,hxs⟩:=Zm9 h.2 hr1;exact ⟨x::xs,hr2,hx,hxs⟩
 | [],_::_,_,h,_=>h.elim
 | _::_,[],_,h,_=>h.elim
theorem Z5kb (h:Rel X ρ st a w) (hg:Zyc a g) {f:FuncId} {caps:Array Operand} (ho:o.op = .makeFunc (.func f) #[] caps)
  (hr:((M.mapL (opd g) caps.toList).bind fun vs=>(M.mapL Zqv vs).bind fun xs=>.ret (.fn f xs)).run st K=some r):Zdb P o a w X ρ st K r:=by
 rw [M.run_bind] at hr
 obtain ⟨vs,hr1,hv⟩:=Zw5 h hg hr
 clear hr
 rw [M.run_bind] at hr1
 obtain ⟨xs,hr,hx⟩:=Zm9 hv hr1
 refine Zib (v:=.func (.func f) #[] (caps.map a.eval)) ?_ hr ⟨_,rfl,by simpa using hx⟩ h
 unfold execOp
 rw [ho]
 simp [Instr.makeFunc]
end
section
variable {P:Program} {o:Oper} {X:Nat→Prop} {ρ ρ':Rho} {st st':St} {a:Act} {w w':World} {g:Option (Nat×Bool)} {R:Type} {r:R} {K:AV→St→Option R} {C:Ctx}
theorem Z6kb (T:Zob P C.ti) (h:Rel X ρ st a w) {t:TypeId} (ho:o.op = .makeMap t none)
  (hr:(Z6t C t (.new (.arr false (1000000+t) (.int .i64) []) fun n=>.ret (.one (.own n)))).run st K=some r):Zdb P o a w X ρ st K r:=by
 obtain ⟨hr1,_⟩:=Zb5 T hr
 obtain ⟨hlt,hr2⟩:=Zvj hr1
 have hm:Z0 (1000000+t)=true:=Nat.ble_eq.mpr (Nat.le_add_right _ _)
 obtain ⟨ρ1,h1,e1,h3⟩:=h.row (w':=w.alloc (.map #[] 0)) hlt (Zqp ρ w _) (fun j b hb=>Zfo w _ (h.lt j b hb).1) (z:=false) (et:=1000000+t) (t:=.int .i64) (l:=[]) (v:=.map (some w.heap.size))
  (fun b hb=>by cases hb;exact Ye _) (Z6n.ok ⟨w.heap.size,#[],0,rfl,rfl,heap_alloc_new w _,trivial⟩ hm)
 refine Zmh (v:=.map (some w.heap.size)) ?_ hr2 ⟨.inr (.inl ⟨_,rfl⟩),by rw [h3]⟩ h1 e1 rfl
 unfold execOp
 rw [ho]
 simp [Instr.makeMap,newObj]
 rfl
theorem Zrpb (k:Int):(Instr.keyThatStays (.int .i64 k) (.int .i64 k)).run P w = .ok (.int .i64 k) w:=by
 have:Instr.sameBits 10000 (.int .i64 k) (.int .i64 k)=true:=by simp [Instr.sameBits]
 simp [Instr.keyThatStays,this]
theorem Zhh.push:∀{es:List MapEntry} {l:List Int} (k:Int) (b:Nat),Zhh es l→Zhh (es++[⟨.int .i64 k,.bool true,b⟩]) (l++[k])
 | [],[],k,b,_=>⟨rfl,rfl,trivial⟩
 | _::_,_::_,k,b,h=>⟨h.1,h.2.1,Zhh.push k b h.2.2⟩
 | [],_::_,_,_,h=>h.elim
 | _::_,[],_,_,h=>h.elim
theorem Zhh.set:∀{es:List MapEntry} {l:List Int} (k:Int) (j:Nat),Zhh es l→l[j]? = some k→Zhh (es.modify j fun e=>{ e with key:=.int .i64 k,val:=.bool true }) l
 | x::es,q::l,k,0,h,hj=>by
  cases hj;exact ⟨rfl,rfl,h.2.2⟩
 | x::es,q::l,k,j+1,h,hj=>⟨h.1,h.2.1,Zhh.set k j h.2.2 hj⟩
 | [],[],_,_,_,hj=>by simp at hj
 | [],_::_,_,_,h,_=>h.elim
 | _::_,[],_,_,h,_=>h.elim
theorem Zhh.at:∀{es:List MapEntry} {l:List Int} (k:Int) (j:Nat),Zhh es l→l[j]? = some k→∃x,es[j]? = some x∧x.key = .int .i64 k
 | x::es,q::l,k,0,h,hj=>by
  cases hj;exact ⟨x,rfl,h.1⟩
 | x::es,q::l,k,j+1,h,hj=>Zhh.at k j h.2.2 hj
 | [],[],_,_,_,hj=>by simp at hj
 | [],_::_,_,_,h,_=>h.elim
 | _::_,[],_,_,h,_=>h.elim
theorem Zs3 {i b:Nat} {ob:Obj} (h:Rel X ρ st a w) (hb:owns (ρ i) b):Ext ρ w ρ { w with heap:=w.heap.setIfInBounds b ob }:=
 ⟨rfl,rfl,rfl,by simp,fun k hk hn=>by
  show (w.heap.setIfInBounds b ob)[k]? = _;rw [Yy,Xd (fun (e:b=k)=>hn i (e▸hb))],fun i b h=>.inl ⟨i,h⟩,fun _ _ h=>.inl h⟩
theorem Rel.writeObj {i b:Nat} {ob:Obj} (h:Rel X ρ st a w) (hb:owns (ρ i) b) (e:Ent) (he:Zid X ρ { w with heap:=w.heap.setIfInBounds b ob } e (ρ i)):Rel X ρ (st.setB i e) a { w with heap:=w.heap.setIfInBounds b ob }:=by
 have x:=Zs3 (ob:=ob) h hb
 have key:=h.step (w':={ w with heap:=w.heap.setIfInBounds b ob }) i e (ρ i) (by rw [Zor rfl];exact x) (fun k hk=>⟨Yoa (h.lt i k hk).1 x.size,(h.lt i k hk).2⟩)
  (fun j k hk hj=>h.sep j i k hj hk) (fun j k hj hk=>by
   show (w.heap.setIfInBounds b ob)[k]? = _;rw [Yy,Xd (fun (ek:b=k)=>hj (h.sep j i b (ek▸hk) hb))]) (by rw [Zor rfl];exact he)
  (st':=st.setB i e) rfl rfl rfl (fun j=>Zkg st i e j) (by rw [Zor rfl];exact h.fresh)
 rwa [Zor rfl] at key
theorem Zckb {gb:Nat} {cs:Array Value} {e:TypeId} (hh:w.heap[gb]? = some (.cells cs e (0,0))):w.freeze ⟨gb,cs.size,none⟩ 1={ w with heap:=w.heap.setIfInBounds gb (.cells cs e (cs.size,cs.size+1)) }:=by
 unfold World.freeze
 rw [Xd (by decide)]
 obtain ⟨hlt,hg⟩:=Yr.1 hh
 have:(w.heap.modify gb fun
   | .cells c elem (lo,hi)=>.cells c elem (if lo==hi then (cs.size,cs.size+1) else (min lo cs.size,max hi (cs.size+1)))
   | o=>o)=w.heap.setIfInBounds gb (.cells cs e (cs.size,cs.size+1)):=by
  apply Array.ext
  ·simp
  ·intro i h1 h2
   rw [Array.getElem_modify,Array.getElem_setIfInBounds]
   by_cases hi:gb=i
   ·subst hi
    rw [Xc rfl,Xc rfl,hg];rfl
   ·rw [Xd hi,Xd hi]
 rw [← this]
 rfl
theorem Zrkb (T:Zob P C.ti) (h:Rel X ρ st a w) (hg:Zyc a g) {s d:TypeId} {x:Operand} (ho:o.op = .convert s d x)
  (hr:((opd g x).bind fun v=>Zc3 C s d v).run st K=some r):Zdb P o a w X ρ st K r:=by
 rw [M.run_bind] at hr
 obtain ⟨xv,hr1,hx⟩:=Zyb h hg hr
 clear hr
 unfold Zc3 at hr1
 cases hsd:Yb s d with
 | false=>
  rw [hsd,Xf] at hr1;exact Zobb T h ho hx hr1
 | true=>
  rw [hsd,Xe] at hr1;split at hr1
  ·rename_i n
   have hsd:=Ya hsd;subst hsd;replace hr1:(Ze5 C s n (st.ent n)).run st K=some r:=hr1;unfold Ze5 at hr1;split at hr1
   ·rename_i e y l he
    cases hm:Z0 e with
    | true=>rw [hm] at hr1;cases hr1
    | false=>
     rw [hm,Xf] at hr1;obtain ⟨si,hsi,hr⟩:=Z2f hr1;clear hr1;cases hc:(Yb si.kind 3&&Yb si.elem e) with
     | false=>rw [hc] at hr;cases hr
     | true=>
      rw [hc,Xe] at hr;obtain ⟨c1,c2⟩:=(Yf _ _).mp hc;obtain ⟨hu8,hr1⟩:=Zr4 T hr;clear hr;have c2:=Ya c2;obtain ⟨sd,hsd,_,_,_,hs3,_⟩:=(T _ _ hsi).und;have:=hs3 (Ya c1);subst this;rw [c2] at hsd;have hent:=h.ents n;rw [he] at hent;obtain ⟨v,hρ,hrow⟩:=hent;have hrowS:=hrow.slice hm;rcases hrowS with ⟨_,hl⟩ | ⟨gb,cap,cs,fr,hv,hgb,hun,hfz,hlc,hcs,hx'⟩
      ·cases hl
      ·have hfr:=(hfz rfl).1
       subst hfr
       have hxv:a.eval x=v:=by
        have h2:=hx.2;rw [hρ] at h2;exact h2
       have hown:owns (ρ n) gb:=by rw [hρ,hv];rfl
       have hsh:w.shape? gb=some (e,cs.size):=by unfold World.shape?;rw [hgb]
       refine Zmh (v:=v) ?_ hr1 ?_ (h.writeObj (ob:=.cells cs e (cs.size,cs.size+1)) hown (.arr true e (.int .u8) (y::l)) ?_) (Zs3 h hown) rfl
       ·unfold execOp
        rw [ho];simp [Go.convert,hxv,hv,run_underlying hsd,run_underlying hu8,markStringish,hsh];exact Zckb hgb
       ·exact ⟨hx.1.imp (fun q=>by rw [hxv] at q;exact q) (fun q=>by rw [hxv] at q;exact q),by rw [hρ]⟩
       ·rw [hρ]
        refine ⟨v,rfl,Zfc.ok (.inr ⟨gb,cap,cs,(cs.size,cs.size+1),hv,?_,.inr (Ye _),(fun q=>nomatch q),hlc,hcs,fun j z hj=>Rep.move (fun b hb=>⟨?_,?_⟩) (hx' j z hj)⟩) hm⟩
        ·show (w.heap.setIfInBounds gb _)[gb]? = _
         rw [Yy,Xc rfl,Xc (Yr.1 hgb).1]
        ·show (w.heap.setIfInBounds gb _)[b]? = _
         rw [Yy,Xd (fun q=>hb.2.2 n (by rw [← q];exact hown))]
        ·exact ⟨by show b<(w.heap.setIfInBounds gb _).size;rw [Array.size_setIfInBounds];exact hb.1,hb.2.1,hb.2.2⟩
   ·cases hr1
  ·exact Zobb T h ho hx hr1
theorem Z8kb (T:Zob P C.ti) (h:Rel X ρ st a w) (hg:Zyc a g) {t:TypeId} {m i x:Operand} (ho:o.op = .mapUpdate t m i x)
  (hr:((opd g m).bind fun v=>(opd g i).bind fun j=>(opd g x).bind fun y=>Z17 C t v j y).run st K=some r):Zdb P o a w X ρ st K r:=by
 rw [M.run_bind] at hr
 obtain ⟨v,hr1,hv⟩:=Zyb h hg hr
 clear hr
 rw [M.run_bind] at hr1
 obtain ⟨jv,hr,hj⟩:=Zyb h hg hr1
 clear hr1
 rw [M.run_bind] at hr
 obtain ⟨yv,hr1,hy⟩:=Zyb h hg hr
 clear hr
 unfold Z17 at hr1
 obtain ⟨hr,kt,et,q,hu,hk,hq,hz⟩:=Zb5 T hr1
 clear hr1
 split at hr
 ·rename_i n k
  replace hr:(Z07 n k (st.ent n)).run st K=some r:=hr;unfold Z07 at hr;split at hr
  ·rename_i z e l he
   cases hm:Z0 e with
   | false=>rw [hm] at hr;cases hr
   | true=>
    rw [hm] at hr;obtain ⟨gb,es,clk,hx,hρ,hgb,hks,rfl⟩:=Zd5 h he hm hv;have hj:a.eval i = .int .i64 k:=hj;have hy:a.eval x = .bool true:=hy;have hown:owns (ρ n) gb:=by rw [hρ];rfl
    have hgl:=(Yr.1 hgb).1
    have fin:∀es' clk',(Instr.mapUpdate t (a.eval m) (a.eval i) (a.eval x)).run P w = .ok () { w with heap:=w.heap.setIfInBounds gb (.map es' clk') }→Zhh es'.toList (Z6d k l)→Zdb P o a w X ρ st K r:=by
     intro es' clk' hrun hks';refine Z8v ?_ hr rfl (h.writeObj (ob:=.map es' clk') hown _ ?_) (Zs3 h hown) rfl
     ·unfold execOp
      rw [ho];simp [hrun]
     ·rw [hρ]
      refine ⟨_,rfl,Z6n.ok ⟨gb,es',clk',rfl,rfl,?_,hks'⟩ hm⟩;show (w.heap.setIfInBounds gb (.map es' clk'))[gb]? = _;rw [Yy,Xc rfl,Xc hgl]
    rw [hx,hj,hy] at fin;rcases Zx3 k 0 hks with ⟨k1,j,k2,k3,k4⟩ | ⟨k1,k2⟩
    ·rw [Ym] at k4
     obtain ⟨x0,hx0,hxk⟩:=hks.at k j k3;refine fin (es.modify j fun e=>{ e with key:=.int .i64 k,val:=.bool true }) clk ?_ ?_
     ·have hx1:es[j]? = some x0:=by rw [← Array.getElem?_toList];exact hx0
      simp [Instr.mapUpdate,run_underlying hu,MapKept.run_getObj_map hgb,Zu0 hk,Zv0 hk k4,hx1,hxk,Zrpb,MapKept.run_setObj_map _ hgb,Result.andThen]
     ·have:Z6d k l=l:=by unfold Z6d;rw [k1];rfl
      rw [this,Array.toList_modify];exact hks.set k j k3
    ·refine fin (es.push ⟨.int .i64 k,.bool true,clk⟩) (clk+1) ?_ ?_
     ·simp [Instr.mapUpdate,run_underlying hu,MapKept.run_getObj_map hgb,Zu0 hk,Zv0 hk k2,MapKept.run_setObj_map _ hgb,Result.andThen]
     ·have:Z6d k l=l++[k]:=by unfold Z6d;rw [k1];rfl
      rw [this,Array.toList_push];exact hks.push k clk
  ·cases hr
 ·cases hr
theorem Zseb (h:Rel X ρ st a w) {n:Nat} {e:TypeId} {t:Ty} {l m:List t.T} {gb i cap:Nat} {cs:Array Value} {fr:Nat×Nat} {vs:List Value}
  (hm:Z0 e=false) (hn:ρ n=some (.row (.slice (some ⟨gb,0,none⟩) l.length cap))) (hh:w.heap[gb]? = some (.cells cs e fr)) (hun:Z8n fr cs.size) (hfz:fr=(0,0)∧cap≤maxLen) (hlc:l.length≤cap) (hcs:cs.size=cap*t.sz)
  (hrow:∀(j:Nat) (x:t.T),l[j]? = some x→Rep w (Fix X ρ w) t x ((cs.toList.drop (j*t.sz)).take t.sz))
  (hvl:vs.length=m.length*t.sz) (hvs:∀(j:Nat) (x:t.T),m[j]? = some x→Rep w (Fix X ρ w) t x ((vs.drop (j*t.sz)).take t.sz)) (hil:i+m.length≤l.length):
  Rel X ρ (st.setB n (.arr false e t (overL l i m))) a (w.setCells gb (i*t.sz) vs)∧Ext ρ w ρ (w.setCells gb (i*t.sz) vs):=by
 have hown:owns (ρ n) gb:=by rw [hn];rfl
 have hle:i*t.sz+vs.length≤cs.size:=by
  rw [hvl,hcs,← Yc];exact Yg _ (by omega)
 have hblk:=Zrs gb vs (i*t.sz) cs w hh hle
 have x1:=Zot (p:=i*t.sz) (vs:=vs) h hown
 have hle3:i*t.sz+vs.length≤cs.toList.length:=by rw [Yz];exact hle
 have hlen2:(overL cs.toList (i*t.sz) vs).toArray.size=cs.size:=by
  rw [Yaa,Zks _ _ _ hle3,Yz]
 have hll:(overL l i m).length=l.length:=Zks _ _ _ hil
 refine ⟨h.write hown _ ?_,x1⟩
 rw [hn]
 refine ⟨_,rfl,Zfc.ok (.inr ⟨gb,cap,_,fr,by rw [hll],hblk,by rw [hlen2];exact hun,fun _=>hfz,by rw [hll];exact hlc,by rw [hlen2];exact hcs,?_⟩) hm⟩
 intro j q hj
 rw [Z9m _ _ _ hil] at hj
 rw [Yca]
 have far:∀b,(∀k,k<t.sz→j*t.sz+k<i*t.sz∨i*t.sz+vs.length≤j*t.sz+k)→l[j]? = some b→Rep (w.setCells gb (i*t.sz) vs) (Fix X ρ (w.setCells gb (i*t.sz) vs)) t b (((overL cs.toList (i*t.sz) vs).drop (j*t.sz)).take t.sz):=by
  intro b hk hb
  have heq:((overL cs.toList (i*t.sz) vs).drop (j*t.sz)).take t.sz=(cs.toList.drop (j*t.sz)).take t.sz:=by
   apply Yu;intro k;rw [Zki,Zki,Z9m _ _ _ hle3]
   by_cases hk2:k<t.sz
   ·rw [Xc hk2,Xc hk2]
    rcases hk k hk2 with h1 | h1
    ·rw [Xc h1]
    ·rw [Xd (by omega),Xd (by omega)]
   ·rw [Xd hk2,Xd hk2]
  rw [heq];exact (hrow j b hb).ext x1
 by_cases h1:j<i
 ·rw [Xc h1] at hj
  refine far q (fun k hk=>.inl ?_) hj;have:(j+1)*t.sz≤i*t.sz:=Yg _ h1;rw [Yc,Yi] at this;omega
 ·rw [Xd h1] at hj
  by_cases h2:j<i+m.length
  ·rw [Xc h2] at hj
   have hij:j*t.sz=i*t.sz+(j-i)*t.sz:=by rw [← Yc];congr 1;omega
   have hjm:(j-i+1)*t.sz≤m.length*t.sz:=Yg _ (by omega);rw [Yc,Yi] at hjm
   have heq:((overL cs.toList (i*t.sz) vs).drop (j*t.sz)).take t.sz=(vs.drop ((j-i)*t.sz)).take t.sz:=by
    apply Yu;intro k;rw [Zki,Zki,Z9m _ _ _ hle3]
    by_cases hk2:k<t.sz
    ·rw [Xc hk2,Xc hk2,Xd (by omega),Xc (by omega)]
     congr 1;omega
    ·rw [Xd hk2,Xd hk2]
   rw [heq];exact (hvs (j-i) q hj).ext x1
  ·rw [Xd h2] at hj
   refine far q (fun k hk=>.inr ?_) hj;have:(i+m.length)*t.sz≤j*t.sz:=Yg _ (by omega);rw [Yc] at this;omega
theorem Zmdb (h:Rel X ρ st a w) (hg:Zyc a g) {q:Option Operand} {K:Option AV→St→Option R} (hq:(Zcu g q).run st K=some r):∃lv,K lv st=some r∧(∀y,lv=some y→∃u,q.map a.eval=some u∧Z4 X ρ w y u)∧(lv=none→q.map a.eval=none):=by
 cases q with
 | none=>exact ⟨none,hq,(fun y hy=>nomatch hy),fun _=>rfl⟩
 | some p=>
  unfold Zcu at hq;rw [M.run_bind] at hq;obtain ⟨av,hk,hv⟩:=Zyb h hg hq;exact ⟨some av,hk,(fun y hy=>by cases hy;exact ⟨_,rfl,hv⟩),fun hn=>nomatch hn⟩
theorem Zblb (T:Zob P C.ti) (h:Rel X ρ st a w) (hg:Zyc a g) {t:TypeId} {x:Operand} {lo hi:Option Operand} (ho:o.op = .slice t x lo hi none)
  (hr:((opd g x).bind fun v=>(Zcu g lo).bind fun l=>(Zcu g hi).bind fun u=>Zf7 C t v l u).run st K=some r):Zdb P o a w X ρ st K r:=by
 rw [M.run_bind] at hr
 obtain ⟨xv,hr1,hx⟩:=Zyb h hg hr
 clear hr
 rw [M.run_bind] at hr1
 obtain ⟨lv,hr,hl,hl0⟩:=Zmdb h hg hr1
 clear hr1
 rw [M.run_bind] at hr
 obtain ⟨hv,hr1,hh,hh0⟩:=Zmdb h hg hr
 clear hr
 unfold Zf7 at hr1
 split at hr1
 ·rename_i n v _
  obtain ⟨ti,ei,hti,hei,hk,hr⟩:=Zfm hr1;clear hr1;obtain ⟨d,hd,_,_,_,hd3,_⟩:=(T _ _ hti).und;have:=hd3 hk;subst this;obtain ⟨lu,hlu,hlv⟩:=hl _ rfl;rw [M.run_bind] at hr;obtain ⟨kk,i,rfl,hr1⟩:=Z9j hlv hr;clear hr;replace hr1:(Zq7 n i ei (st.ent n)).run st K=some r:=hr1;unfold Zq7 at hr1;split at hr1
  ·rename_i e rt l he
   cases hc:(!(Z0 e)&&Yb rt.sz ei.sz) with
   | false=>rw [hc] at hr1;cases hr1
   | true=>
    rw [hc] at hr1;obtain ⟨c1,c2⟩:=(Yf _ _).mp hc;have hm:Z0 e=false:=by simpa using c1
    have c2:=Ya c2;obtain ⟨_,hti2,hr⟩:=Zyf hr1;unfold Zmr at hti2;split at hti2
    ·rename_i hin
     obtain ⟨h1,h2⟩:=hin;have h0:=h.ents n;rw [he] at h0;obtain ⟨u,hu,h0⟩:=h0;have hx2:=hx.2;rw [hu] at hx2;have hx2:a.eval x=u:=hx2
     have hb:∀cap,(Instr.sliceBounds true l.length cap (lo.map a.eval) (hi.map a.eval) none).run P w = .ok (i.toNat,l.length,cap) w:=by
      intro cap;rw [hlu,hh0 rfl];have:=run_sliceBound (P:=P) w kk i l.length .sliceB h1 h2;simp [Instr.sliceBounds,this]
     have fin:∀v,(Instr.sliceAt t (a.eval x) (lo.map a.eval) (hi.map a.eval) none).run P w = .ok v w→Z7n (some (.row u)) i rt.sz v→Zdb P o a w X ρ st K r:=fun v k1 k2=>
      Zib (Zax ho k1) hr (show Z7n (ρ n) i rt.sz v by rw [hu];exact k2) h
     rw [hx2] at fin;rcases h0.slice hm with ⟨rfl,rfl⟩ | ⟨gb,cap,cs,fr,rfl,_,_,_,hlc,_⟩
     ·obtain rfl:i=0:=by
       have:(([]:List rt.T).length:Int)=0:=rfl;omega
      have hb0:=hb 0;rw [show ([]:List rt.T).length=0 from rfl] at hb0;refine fin (.slice none 0 0) ?_ ⟨by omega,.inl ⟨rfl,rfl,rfl⟩⟩;simp [Instr.sliceAt,Instr.slice,run_underlying hd,hb0,Zxg (T _ _ hei)]
     ·refine fin (.slice (some ⟨gb,if cap=i.toNat then 0 else i.toNat*rt.sz,none⟩) (l.length-i.toNat) (cap-i.toNat)) ?_ ⟨h1,.inr ⟨gb,_,cap,rfl,by omega,hlc,rfl⟩⟩
      simp [Instr.sliceAt,Instr.slice,run_underlying hd,hb cap,Zxg (T _ _ hei)]
      by_cases hci:cap=i.toNat
      ·simp [hci]
      ·simp [hci,Ztg,c2]
    ·cases hti2
  ·cases hr1
 ·rename_i n v _
  obtain ⟨ti,ei,hti,hei,hk,hr⟩:=Zfm hr1;clear hr1;obtain ⟨d,hd,_,_,_,hd3,_⟩:=(T _ _ hti).und;have:=hd3 hk;subst this;obtain ⟨hu2,hhu,hhv⟩:=hh _ rfl;rw [M.run_bind] at hr;obtain ⟨kk,j,rfl,hr1⟩:=Z9j hhv hr;clear hr;replace hr1:(Z73 n j ei (st.ent n)).run st K=some r:=hr1;unfold Z73 at hr1;split at hr1
  ·rename_i z e rt l he
   cases hc:(!(Z0 e)&&Yb rt.sz ei.sz) with
   | false=>rw [hc] at hr1;cases hr1
   | true=>
    rw [hc] at hr1;obtain ⟨c1,c2⟩:=(Yf _ _).mp hc;have hm:Z0 e=false:=by simpa using c1
    have c2:=Ya c2;obtain ⟨m,hcut,hr⟩:=Zyf hr1;obtain ⟨_,h1,h2,hmm⟩:=Zty hcut;have hmm:m=l.take j.toNat:=hmm;subst hmm;replace hr:(M.new (.arr z e rt (l.take j.toNat)) fun q=>.ret (AV.one (.own q))).run (st.setB n .free) K=some r:=hr;obtain ⟨hnl,hr⟩:=Zvj hr;have h0:=h.ents n;rw [he] at h0;obtain ⟨u,hu,h0⟩:=h0;have hx2:=hx.2;rw [hu] at hx2;have hx2:a.eval x=u:=hx2;have hrow:=h0.slice hm;have hb:∀cap:Nat,j≤cap→(Instr.sliceBounds true l.length cap (lo.map a.eval) (hi.map a.eval) none).run P w = .ok (0,j.toNat,cap) w:=fun cap hc=>Zt0 (i:=0) (.inl ⟨hl0 rfl,rfl⟩) (.inr ⟨kk,hhu⟩) (Yga _) h1 hc
    have fin:∀v',(Instr.sliceAt t (a.eval x) (lo.map a.eval) (hi.map a.eval) none).run P w = .ok v' w→v'.ownBlock=u.ownBlock→(∀F,(∀b,Fix X ρ w b→w.heap[b]? = w.heap[b]?∧F b)→Zfc w F z e rt v' (l.take j.toNat))→(∀b,v'.ownBlock=some b→b<w.heap.size)→Zdb P o a w X ρ st K r:=fun v' k1 k2 k3 k4=>by
     obtain ⟨ρ',m1,m2,m3⟩:=h.appended hnl (e:=e) (t:=rt) (l:=l.take j.toNat) hu (w':=w) ⟨rfl,rfl,rfl,Ye _,fun _ _ _=>rfl⟩ (.inl k2) k4 hm hrow.own k3;refine Zmh (Zax ho k1) hr ?_ m1 m2 rfl;show Zlb X ρ' w (.own st.nb) _;refine ⟨?_,by rw [m3]⟩;have h0:=m1.ents st.nb;rw [m3,Zck,show (st.setB n .free).nb=st.nb from rfl,Xc rfl] at h0;obtain ⟨v2,hv2,h0⟩:=h0;cases hv2;exact h0.form
    rw [hx2] at fin;rcases hrow with ⟨rfl,rfl⟩ | ⟨gb,cap,cs,fr,rfl,hg2,q2,q3,hlc,q5,q6⟩
    ·have hb0:=hb 0 h2
     rw [show ([]:List rt.T).length=0 from rfl] at hb0
     have hj:j=0:=by
      have:(([]:List rt.T).length:Int)=0:=rfl;omega
     subst hj;refine fin (.slice none 0 0) ?_ rfl (fun F hF=>.inl ⟨rfl,rfl⟩) (fun b hb=>by cases hb);simp [Instr.sliceAt,Instr.slice,run_underlying hd,hb0,Zxg (T _ _ hei)]
    ·have hlen:(l.take j.toNat).length=j.toNat:=by rw [Yk];omega
     refine fin (.slice (some ⟨gb,0,none⟩) j.toNat cap) ?_ rfl (fun F hF=>.inr ⟨gb,cap,cs,fr,by rw [hlen],hg2,q2,q3,by omega,q5,fun k y hk2=>?_⟩) (fun b hb=>by
      cases hb;exact (Yr.1 hg2).1)
     ·simp [Instr.sliceAt,Instr.slice,run_underlying hd,hb cap (by omega),Zxg (T _ _ hei)]
      by_cases hci:cap=0
      ·simp [hci]
      ·simp [hci,Ztg]
     ·rw [Yp] at hk2
      split at hk2
      ·exact Rep.move hF (q6 k y hk2)
      ·cases hk2
  ·cases hr1
 ·exact Zjrb T h ho hx hl hl0 hh hh0 hr1
theorem Zykb (T:Zob P C.ti) (h:Rel X ρ st a w) {t:TypeId} {n:Nat} (ho:o.op = .slice t (.global n) none none none)
  (hr:(Z53 C t n).run st K=some r):Zdb P o a w X ρ st K r:=by
 unfold Z53 at hr
 obtain ⟨ti,hti,hr1⟩:=Z2f hr
 clear hr
 cases hk:Yb ti.kind 7 with
 | false=>rw [hk] at hr1;cases hr1
 | true=>
  rw [hk] at hr1;have hk:=Ya hk;rw [Xe] at hr1;obtain ⟨ei,hei,hr⟩:=Z2f hr1;clear hr1
  rename _=some r=>hr1
  obtain ⟨len,y,hoff,hd⟩:=(T _ _ hti).arr hk;rw [hoff] at hr1;cases hgl:GL n with
  | none=>rw [hgl] at hr1;cases hr1
  | some p=>
   obtain ⟨rt,l⟩:=p;rw [hgl] at hr1;dsimp only at hr1;cases hz:(Y2 0 len&&Yb len l.length) with
   | false=>rw [hz] at hr1;cases hr1
   | true=>
    rw [hz] at hr1;obtain ⟨hz1,hz2⟩:=(Yf _ _).mp hz;have hz1:0<len:=Yda hz1;have hz2:=Ya hz2;have hl0:0<l.length:=by omega
    obtain ⟨g1,hrep,_⟩:=(h.gl.1 n rt l hgl).row (List.getElem?_eq_getElem hl0);have hbrw:Brw ρ w n:=⟨g1,fun i=>h.gl.2 n (by rw [hgl];exact fun q=>nomatch q) i⟩;have hev:a.eval (.global n) = .pointer (some ⟨n,0,none⟩):=rfl
    have hrun:(execOp a.eval o).run P w = .ok (.value (.slice (some ⟨n,0,none⟩) l.length l.length)) w:=by
     unfold execOp;rw [ho];have:¬(len=0):=by omega
     simp [Instr.sliceAt,Instr.sureAddr,Instr.sliceBounds,run_underlying hd,hev,Zxg (T _ _ hei),Ztg,hz2]
    exact Zib hrun hr1 (show Zlb X ρ w (.bor rt l) _ from Rep.move (fun b hb=>by subst hb;exact ⟨rfl,hbrw⟩) hrep) h
theorem Z6ib {α:Type} {l m:List α} {i j k:Int} (h:Zvv l i j k=some m):0≤i∧i≤j∧j=k∧k≤l.length∧m=(l.take j.toNat).drop i.toNat:=by
 unfold Zvv at h
 split at h
 ·rename_i hc
  cases h;exact ⟨hc.1,hc.2.1,hc.2.2.1,hc.2.2.2,rfl⟩
 ·cases h
theorem Zclb (T:Zob P C.ti) (h:Rel X ρ st a w) (hg:Zyc a g) {t:TypeId} {x lo hi mx:Operand} (ho:o.op = .slice t x (some lo) (some hi) (some mx))
  (hr:((opd g x).bind fun v=>(opd g lo).bind fun l=>(opd g hi).bind fun u=>(opd g mx).bind fun m=>Zc7 C t v l u m).run st K=some r):Zdb P o a w X ρ st K r:=by
 rw [M.run_bind] at hr
 obtain ⟨xv,hr1,hx⟩:=Zyb h hg hr
 clear hr
 rw [M.run_bind] at hr1
 obtain ⟨lv,hr,hl⟩:=Zyb h hg hr1
 clear hr1
 rw [M.run_bind] at hr
 obtain ⟨hv,hr1,hh⟩:=Zyb h hg hr
 clear hr
 rw [M.run_bind] at hr1
 obtain ⟨mv,hr,hm⟩:=Zyb h hg hr1
 clear hr1
 unfold Zc7 at hr
 obtain ⟨ti,ei,hti,hei,hk,hr1⟩:=Zfm hr
 clear hr
 rw [M.run_bind] at hr1
 obtain ⟨k1,i,hl,hr⟩:=Z9j hl hr1
 clear hr1
 rw [M.run_bind] at hr
 obtain ⟨k2,j,hh,hr1⟩:=Z9j hh hr
 clear hr
 rw [M.run_bind] at hr1
 obtain ⟨k3,m,hm,hr⟩:=Z9j hm hr1
 clear hr1
 have hu:=Zxq T hti hk
 have key:∀(rt:Ty) (l:List rt.T),Rep w (Brw ρ w) (.sl rt) l [a.eval x]→(bif flat rt&&Yb rt.sz ei.sz then M.opt (List rt.T) (Zvv l i j m) fun t=>.ret (AV.full rt t) else .fail).run st K=some r→Zdb P o a w X ρ st K r:=by
  intro rt l hrep hr;cases hz:(flat rt&&Yb rt.sz ei.sz) with
  | false=>rw [hz] at hr;cases hr
  | true=>
   rw [hz] at hr;obtain ⟨hz1,hz2⟩:=(Yf _ _).mp hz;have hz2:=Ya hz2;obtain ⟨s,hs,hr1⟩:=Zyf hr;obtain ⟨h1,h2,h3,h4,rfl⟩:=Z6ib hs;subst h3;obtain ⟨A,c,hx3,hlc,hrow⟩:=hrep
   have hx2:a.eval x = .slice A l.length c:=by
    cases hx4:a.eval x <;> rw [hx4] at hx3 <;> cases hx3;rfl
   have hlen:((l.take j.toNat).drop i.toNat).length=j.toNat-i.toNat:=by simp;omega
   have hb:(Instr.sliceBounds true l.length c (some (.int k1 i)) (some (.int k2 j)) (some (.int k3 j))).run P w = .ok (i.toNat,j.toNat,j.toNat) w:=by
    have e1:=run_sliceBound (P:=P) w k3 j c .slice3Acap (by omega) (by omega);have e2:=run_sliceBound (P:=P) w k2 j j.toNat .slice3B (by omega) (by omega);have e3:=run_sliceBound (P:=P) w k1 i j.toNat .slice3C h1 (by omega);simp [Instr.sliceBounds,e1,e2,e3]
   refine Zib (v:=.slice (if j.toNat=i.toNat then A else A.map (·.add (i.toNat*ei.sz))) (j.toNat-i.toNat) (j.toNat-i.toNat)) ?_ hr1 ⟨⟨_,by rw [hlen]⟩,⟨_,_,by rw [hlen],by rw [hlen];exact Ye _,?_⟩⟩ h
   ·unfold execOp
    rw [ho];simp [Instr.sliceAt,Instr.slice,run_underlying hu,hx2,hl,hh,hm,hb,Zxg (T _ _ hei)]
   ·by_cases he:(l.take j.toNat).drop i.toNat=[]
    ·exact .inl he
    ·refine .inr ?_
     have hne:i.toNat<j.toNat:=by
      rcases Yva i.toNat j.toNat with hlt | hge
      ·exact hlt
      ·exact absurd (Y8 (by rw [hlen];omega)) he
     rcases hrow with rfl | ⟨b,q,rfl,hfix,hrow⟩
     ·simp at h4;omega
     ·rw [Xd (by omega)]
      refine ⟨b,q+i.toNat*ei.sz,by simp [Ztg],hfix,?_⟩;intro k z hk;rw [Yja,Yp] at hk;split at hk
      ·obtain ⟨cs,hc,hrep⟩:=hrow _ z hk
       refine ⟨cs,?_,hrep⟩;rw [← hz2]
       rwa [show q+i.toNat*rt.sz+k*rt.sz=q+(i.toNat+k)*rt.sz by rw [Yc];omega]
      ·cases hk
 split at hr
 ·rename_i rt l
  exact key rt l hx hr
 ·rename_i rt l
  exact key rt l (Rep.move (fun b hb=>⟨rfl,hb.brw⟩) (show Rep w (Fix X ρ w) (.sl rt) l [a.eval x] from hx)) hr
 ·cases hr
theorem Rel.reEnt (h:Rel X ρ st a w) (n:Nat) {e:Ent} (he:Zid X ρ w e (ρ n)):Rel X ρ (st.setB n e) a w:=by
 refine ⟨h.defers,h.size,h.sep,h.lt,?_,h.tmps,h.gs,h.fresh,h.xlt,h.gl⟩
 intro i
 rw [Zkg]
 split
 ·rename_i hi;subst hi;exact he
 ·exact h.ents i
theorem Zg1 (zs:Array Value) (n:Nat):(Builtin.zeroCells zs n).toList.length=n*zs.size:=by simp [Builtin.zeroCells]
theorem Zqsb (zs:Array Value) (n j:Nat) (hj:j<n):((Builtin.zeroCells zs n).toList.drop (j*zs.size)).take zs.size=zs.toList:=by
 apply Yu
 intro k
 rw [Zki]
 by_cases hk:k<zs.size
 ·rw [Xc hk]
  have hlt:j*zs.size+k<n*zs.size:=by
   have:(j+1)*zs.size≤n*zs.size:=Yg _ hj;rw [Yc,Yi] at this;omega
  have hmod:(j*zs.size+k)%zs.size=k:=by rw [Yta,Nat.add_mul_mod_self_right,Ywa hk]
  simp [Builtin.zeroCells,hlt,hmod,hk]
 ·rw [Xd hk,Yka (by simpa using hk)]
theorem Zu9 {gb i n:Nat} {cs:Array Value} {e:TypeId} {fr:Nat×Nat} (hh:w.heap[gb]? = some (.cells cs e fr)) (hun:Z8n fr cs.size) (hle:i+n≤cs.size) {vs:List Value} (hv:vs.length=n) (h1:∀u∈vs,u.oneCell'=true):
  (storeCells ⟨gb,i,none⟩ vs).run P w = .ok () (w.setCells gb i vs):=by
 have hst:=run_storeCells_cells (P:=P) gb i vs 0 w (fun j hj=>by
   rw [cell_of_row w gb _ cs e fr hh];have:i+j<cs.size:=by omega
   simp [this]) (fun j hj=>by
   have hj':i+j<cs.size:=by omega
   simp only [World.frozen?,hh,Yq];rcases hun with rfl | hu
   ·simp
   ·have:¬(fr.1≤i+j):=by omega
    simp [this]) h1
 simpa using hst
theorem Zsjb {α:Type} (l:List α) (i:Nat) (m:List α) (h:l.length≤i+m.length):overL l i m=l.take i++m:=by
 unfold overL
 rw [Yt h,Yha]
theorem Zqkb (T:Zob P C.ti) (h:Rel X ρ st a w) (hg:Zyc a g) {c:Call} {x:Operand} (ho:o.op = .call c) (hc:c.callee = .builtin .clear) (ha:c.args.toList=[x])
  (hr:((opd g x).bind fun v=>Zmj c fun t=>Z62 C t v).run st K=some r):Zdb P o a w X ρ st K r:=by
 rw [M.run_bind] at hr
 obtain ⟨v,hr1,hv⟩:=Zyb h hg hr
 clear hr
 obtain ⟨t,hn,hr⟩:=Ziv hr1
 clear hr1
 unfold Z62 at hr
 obtain ⟨ti,ei,hti,hei,hk,hr1⟩:=Zfm hr
 clear hr
 obtain ⟨d,hd,_,_,_,hd3,_⟩:=(T _ _ hti).und
 have:=hd3 hk
 subst this
 obtain ⟨consts,hb⟩:=Zru (P:=P) (w:=w) (a:=a) ho hc
 have hrun:∀w',(Builtin.clear_ c.argTypes o.type #[a.eval x]).run P w = .ok (.tuple #[]) w'→(execOp a.eval o).run P w = .ok (.value (.tuple #[])) w':=by
  intro w' h1;rw [hb,Zngb ha];simp [Go.builtin,h1]
 split at hr1
 ·rename_i n i z
  replace hr1:(Z52 n i z ei (st.ent n)).run st K=some r:=hr1;unfold Z52 at hr1;split at hr1
  ·rename_i e rt l he
   cases hcc:(!(Z0 e)&&(Yb rt.sz z&&Yb ei.sz z)) with
   | false=>rw [hcc] at hr1;cases hr1
   | true=>
    rw [hcc] at hr1;obtain ⟨c1,c23⟩:=(Yf _ _).mp hcc;obtain ⟨c2,c3⟩:=(Yf _ _).mp c23;have hm:Z0 e=false:=by simpa using c1
    have c2:=Ya c2;have c3:=Ya c3
    replace hr1:(match Z9h rt ei.zero with
     | some o=>M.setb n (.arr false e rt (l.take i.toNat++Yw (l.length-i.toNat) o)) (.ret (AV.tup []))
     | none=>.fail).run st K=some r:=hr1
    split at hr1
    ·rename_i z0 hz0
     have hr:K (AV.tup []) (st.setB n (.arr false e rt (l.take i.toNat++Yw (l.length-i.toNat) z0)))=some r:=hr1;clear hr1;have h0:=h.ents n;rw [he] at h0;obtain ⟨u,hu,h0⟩:=h0;have hv:Z7n (ρ n) i z (a.eval x):=hv;rw [hu] at hv;obtain ⟨q,hq1,hq2,hq3,zv,hz,hz1,hz2⟩:=(T _ _ hei).info;obtain ⟨hi0,⟨rfl,rfl,hx⟩ | ⟨gb,m,cap,rfl,him,hmc,hx⟩⟩:=hv
     ·rcases h0.slice hm with ⟨_,rfl⟩ | ⟨_,_,_,_,hbad,_⟩
      ·refine Zmh (hrun w ?_) hr ⟨#[],rfl,trivial⟩ (h.reEnt n ?_) (Ext.refl _ _) rfl
       ·rw [hx]
        simp [Builtin.clear_,hn,run_underlying hd]
       ·rw [hu]
        exact ⟨_,rfl,Zfc.ok (.inl ⟨rfl,rfl⟩) hm⟩
      ·cases hbad
     ·rcases h0.slice hm with ⟨hbad,_⟩ | ⟨gb',cap',cs,fr,hs,hh,hun,hfz,hlc,hcs,hrow⟩
      ·cases hbad
      ·cases hs
       have hrep:=Zrx hz0 (hz2 X ρ w);have hover:=Zsjb l i.toNat (Yw (l.length-i.toNat) z0) (by rw [Y0];omega)
       have hvl:(Builtin.zeroCells zv.cells (l.length-i.toNat)).toList.length=(Yw (l.length-i.toNat) z0).length*rt.sz:=by
        rw [Zg1,Y0,hz1,c2,c3]
       obtain ⟨g1,g2⟩:=Zseb h hm hu hh hun (hfz rfl) hlc hcs hrow (i:=i.toNat) (m:=Yw (l.length-i.toNat) z0) (vs:=(Builtin.zeroCells zv.cells (l.length-i.toNat)).toList) hvl (fun j y hj=>by
        have hjn:j<l.length-i.toNat:=by
         have:=(Yh.1 hj).1;simpa using this
        have hy:z0=y:=by
         rw [Yqa,Xc hjn] at hj;cases hj;rfl
        subst hy;rw [show rt.sz=zv.cells.size by rw [hz1,c2,c3],Zqsb _ _ _ hjn];exact hrep) (by rw [Y0];omega)
       rw [hover] at g1;refine Zmh (hrun _ ?_) hr ⟨#[],rfl,trivial⟩ g1 g2 rfl;rw [hx]
       by_cases hzero:l.length-i.toNat=0
       ·rw [hzero]
        have hnil:(Builtin.zeroCells zv.cells 0).toList=[]:=Y8 (by rw [Zg1,Yea]);rw [hnil];simp [Builtin.clear_,hn,run_underlying hd,World.setCells]
       ·have hci:cap≠i.toNat:=by omega
        rw [Xd hci];have hzero':(zeroValue ti.elem).run P w = .ok zv w:=by simp [zeroValue,typeInfo,hq1,hz]
        have hone:∀u∈(Builtin.zeroCells zv.cells (l.length-i.toNat)).toList,u.oneCell'=true:=by
         intro u hu2;have hz2':=(hz2 X ρ w).one;obtain ⟨k,hk,rfl⟩:=List.getElem_of_mem hu2;have hlen:=Zg1 zv.cells (l.length-i.toNat)
         have hpos:0<zv.cells.size:=by
          rcases Nat.eq_zero_or_pos zv.cells.size with e0 | e0
          ·rw [hlen,e0,Nat.mul_zero] at hk;omega
          ·exact e0
         have hmod:k%zv.cells.size<zv.cells.size:=Nat.mod_lt _ hpos;have:(Builtin.zeroCells zv.cells (l.length-i.toNat)).toList[k]=zv.cells[k%zv.cells.size]:=by simp [Builtin.zeroCells,hmod]
         rw [this];exact hz2' _ (by simp)
        have hst:=Zu9 (P:=P) hh hun (i:=i.toNat*z) (n:=(l.length-i.toNat)*z) (by
         rw [hcs,← Yc,c2];exact Yg _ (by omega)) (by rw [Zg1,hz1,c3]) hone
        obtain ⟨p,hp⟩:∃p,l.length-i.toNat=p+1:=⟨l.length-i.toNat-1,by omega⟩;rw [c2];rw [hp] at hst ⊢;simp [Builtin.clear_,hn,run_underlying hd,hzero',hst]
    ·cases hr1
  ·cases hr1
 ·cases hr1
theorem Z5ib {α:Type} (l:List α) (i:Nat) (m:List α) (h:i≤l.length):Z6m l i m=overL l i (m.take (l.length-i)):=by
 unfold Z6m overL
 rw [Yk]
 rcases Nat.le_total m.length (l.length-i) with h1 | h1
 ·rw [Nat.min_eq_right h1]
 ·rw [Nat.min_eq_left h1,Yt (by omega),Yt (by omega)]
theorem Zskb (T:Zob P C.ti) (h:Rel X ρ st a w) (hg:Zyc a g) {c:Call} {x y:Operand} (ho:o.op = .call c) (hc:c.callee = .builtin .copy) (ha:c.args.toList=[x,y])
  (hr:((opd g x).bind fun v=>(opd g y).bind fun u=>Zmj c fun t=>Zd3 C t v u).run st K=some r):Zdb P o a w X ρ st K r:=by
 rw [M.run_bind] at hr
 obtain ⟨v,hr1,hv⟩:=Zyb h hg hr
 clear hr
 rw [M.run_bind] at hr1
 obtain ⟨yv,hr,hy⟩:=Zyb h hg hr1
 clear hr1
 obtain ⟨t,hn,hr1⟩:=Ziv hr
 clear hr
 unfold Zd3 at hr1
 obtain ⟨ti,ei,hti,hei,hk,hr⟩:=Zfm hr1
 clear hr1
 obtain ⟨d,hd,_,_,_,hd3,_⟩:=(T _ _ hti).und
 have:=hd3 hk
 subst this
 obtain ⟨consts,hb⟩:=Zru (P:=P) (w:=w) (a:=a) ho hc
 have hrun:∀w' v,(Builtin.copy_ c.argTypes o.type #[a.eval x,a.eval y]).run P w = .ok v w'→(execOp a.eval o).run P w = .ok (.value v) w':=by
  intro w' v h1;rw [hb,Zzs ha];simp [Go.builtin,h1]
 have key:∀(n:Nat) (i:Int) (z:Nat) (q:Σ r:Ty,List r.T),Z4 X ρ w (.tl n i z) (a.eval x)→Zai w (Fix X ρ w) (a.eval y) q.1 q.2→(Zry n i z ei q (st.ent n)).run st K=some r→Zdb P o a w X ρ st K r:=by
  intro n i z q hv hsrc hr1;unfold Zry at hr1;split at hr1
  ·rename_i e rt l he
   cases hcc:(!(Z0 e)&&(Yb rt.sz z&&Yb ei.sz z)) with
   | false=>rw [hcc] at hr1;cases hr1
   | true=>
    rw [hcc] at hr1;obtain ⟨c1,c23⟩:=(Yf _ _).mp hcc;obtain ⟨c2,c3⟩:=(Yf _ _).mp c23;have hm:Z0 e=false:=by simpa using c1
    have c2:=Ya c2;have c3:=Ya c3
    replace hr1:(match Ty.same q.1 rt with
     | some h=>M.setb n (.arr false e rt (Z6m l i.toNat (h.down▸q.2))) (.ret AV.unk)
     | none=>.fail).run st K=some r:=hr1
    split at hr1
    ·rename_i hsame _
     obtain ⟨qt,m⟩:=q;have hqt:qt=rt:=hsame.down;subst hqt;have hr:K AV.unk (st.setB n (.arr false e qt (Z6m l i.toNat m)))=some r:=hr1;clear hr1;have h0:=h.ents n;rw [he] at h0;obtain ⟨u,hu,h0⟩:=h0;have hv:Z7n (ρ n) i z (a.eval x):=hv;rw [hu] at hv;obtain ⟨A,sc,hsv,hsrc⟩:=hsrc;replace hsv:a.eval y = .slice A m.length sc:=hsv;have hl0:∀(q:Addr),(loadCells q 0).run P w = .ok #[] w:=fun q=>by simpa using run_loadCells_list (P:=P) w q [] (by simp)
     obtain ⟨hi0,⟨rfl,rfl,hx⟩ | ⟨gb,p,cap,rfl,him,hmc,hx⟩⟩:=hv
     ·rcases h0.slice hm with ⟨_,rfl⟩ | ⟨_,_,_,_,hbad,_⟩
      ·have hcl:Z6m ([]:List qt.T) (0:Int).toNat m=[]:=by simp [Z6m]
       rw [hcl] at hr;refine Zmh (v:=goInt 0) (hrun w _ ?_) hr trivial (h.reEnt n ?_) (Ext.refl _ _) rfl
       ·rw [hx,hsv]
        cases A <;> simp [Builtin.copy_,hn,run_underlying hd,Zxg (T _ _ hei),Builtin.lenOf,Builtin.firstCells,hl0]
       ·rw [hu]
        exact ⟨_,rfl,Zfc.ok (.inl ⟨rfl,rfl⟩) hm⟩
      ·cases hbad
     ·rcases h0.slice hm with ⟨hbad,_⟩ | ⟨gb',cap',cs,fr,hs,hh,hun,hfz,hlc,hcs,hrow⟩
      ·cases hbad
      ·cases hs
       rw [Z5ib l i.toNat m him] at hr;have hnl:(m.take (l.length-i.toNat)).length=Nat.min m.length (l.length-i.toNat):=by rw [Yk,Nat.min_comm]
       obtain ⟨vs,v1,v2,v3,v4⟩:∃vs:List Value,vs.length=(m.take (l.length-i.toNat)).length*qt.sz∧(∀u∈vs,u.oneCell'=true)∧(∀(j:Nat) (x:qt.T),(m.take (l.length-i.toNat))[j]? = some x→Rep w (Fix X ρ w) qt x ((vs.drop (j*qt.sz)).take qt.sz)) ∧
         (Builtin.firstCells z (Nat.min m.length (l.length-i.toNat)) (.slice A m.length sc)).run P w = .ok vs.toArray w:=by
        rcases hsrc with hnil | ⟨gs,os,rfl,hgs,hcells⟩
        ·replace hnil:m=[]:=hnil
         subst hnil;refine ⟨[],by simp,(fun u hu=>by cases hu),(fun j x hj=>by simp at hj),?_⟩;cases A <;> simp [Builtin.firstCells,hl0]
        ·have hcells2:∀(j:Nat) (x:qt.T),(m.take (l.length-i.toNat))[j]? = some x→∃c,Zig w gs (os+j*qt.sz) c∧Rep w (Fix X ρ w) qt x c:=fun j x hj=>by
          rw [Yp] at hj;split at hj
          ·exact hcells j x hj
          ·cases hj
         obtain ⟨vs,v1,v2,v3,v4⟩:=Zmu hcells2;refine ⟨vs,v1,v3,v4,?_⟩;have hld:=run_loadCells_list (P:=P) w ⟨gs,os,none⟩ vs (fun j v hv=>by rw [Ztg];exact v2 j v hv);rw [v1,hnl,c2] at hld;simpa [Builtin.firstCells] using hld
       obtain ⟨g1,g2⟩:=Zseb h hm hu hh hun (hfz rfl) hlc hcs hrow (i:=i.toNat) (m:=m.take (l.length-i.toNat)) (vs:=vs) v1 v3 (by rw [Yk];omega);refine Zmh (v:=goInt (Nat.min m.length (l.length-i.toNat))) (hrun _ _ ?_) hr trivial g1 g2 rfl;rw [hx,hsv]
       have hst:(storeCells ⟨gb,if cap=i.toNat then 0 else i.toNat*z,none⟩ vs).run P w = .ok () (w.setCells gb (i.toNat*qt.sz) vs):=by
        by_cases hci:cap=i.toNat
        ·have:vs=[]:=Y8 (by rw [v1,Yk,show l.length-i.toNat=0 by omega,Nat.zero_min,Yea])
         subst this;rfl
        ·rw [Xd hci,← c2]
         exact Zu9 (P:=P) hh hun (n:=vs.length) (by
          rw [hcs,v1,← Yc];exact Yg _ (by rw [Yk];omega)) rfl v2
       simp [Builtin.copy_,hn,run_underlying hd,Zxg (T _ _ hei),Builtin.lenOf,c3,v4,hst]
    ·cases hr1
  ·cases hr1
 split at hr
 ·rename_i n i z rt l
  exact key n i z ⟨rt,l⟩ hv (Zf6 hy) hr
 ·rename_i n i z rt l
  cases hf:flat rt with
  | false=>rw [hf] at hr;cases hr
  | true=>
   rw [hf] at hr;exact key n i z ⟨rt,l⟩ hv (Zai.flat hf (Zt2 hy)) hr
 ·cases hr
end
end Go.Proofs.Qz
