/- What the law FnMachine needs, part 6 of 16: the Lean functions of the Go functions that it reaches, with the proofs that the calls come to what they say, and plain facts about them. Conditions: those that each theorem states. Written by a session and by its programs (after the kit's printer). -/
import Derived.Laws.StructEq
import Derived.ChangeKeysEq
import Derived.OpenShut
import Derived.ChangeOld
import Derived.Below
import Derived.SizedLaws
import Derived.ChangeArms
import Derived.ChangeShapes
import Derived.WideShapes
import Derived.Test.YtmohoeinamddcaaGreatXFnMachine4
open Nat renaming beq → Ya, eq_of_beq_eq_true → Yd, le_of_ble_eq_true → Yj, blt → Yl, ble → Yp, blt_eq → Yt, zero_add → Yu, beq_refl → Y7, le_refl → Y8, le_trans → Y9, lt_of_lt_of_le → Yaa, lt_or_ge → Yba, ne_of_beq_eq_false → Yca
open Bool renaming and_eq_true → Yb, or_eq_true → Yw
open List renaming mem_cons → Yc, mem_cons_of_mem → Ye, mem_cons_self → Yf, all_eq_true → Yg, mem_append_right → Yh, mem_append_left → Yi, mem_map → Yk, mem_append → Ym, mem_singleton → Yn, append_assoc → Yq, nodup_cons → Yr, take_of_length_le → Ys, all_append → Yx, any_eq_true → Yy, drop_drop → Yz, drop_eq_getElem_cons → Y0, drop_zero → Y1, getElem?_eq_some_iff → Y2, getElem?_nil → Y3, lookup_cons → Y4, singleton_inj → Y5, take_take → Y6
open Array renaming length_toList → Yo, getElem?_toList → Yv
namespace Go.Proofs.Qz
open Go Go.RowKit
set_option linter.unusedVariables false
section
variable {P:Program} {X X':Nat→Prop} {ρ ρ':Rho} {st st':St} {a:Act} {w w':World} {R:Type} {r:R} {C:Ctx} {m:List (Nat×Nat)} {sh:Shape}
def Zep (c:Option Conc):Prop:=(∃g,c=some (.blk g))∨∃v,c=some (.row v)
theorem Zfv {n:Nat} {l:List Nat} (h:l.any (Ya n)=true):n∈l:=by
 obtain ⟨x,h1,h2⟩:=Yy.1 h
 rw [Yd h2]
 exact h1
theorem Zi8:∀{m:List (Nat×Nat)},Zdv m=true→∀p∈m,∀q∈m,(p.1=q.1 ↔ p.2=q.2)
 | [],_,p,hp,_,_=>nomatch hp
 | (n,o)::rest,h,p,hp,q,hq=>by
  unfold Zdv at h;obtain ⟨h1,h2⟩:=(Yb _ _).mp h
  have hd:∀p∈rest,(p.1=n ↔ p.2=o):=fun p hp=>by
   have:=Yg.1 h1 p hp;have e:Ya p.1 n=Ya p.2 o:=by simpa using this
   constructor
   ·intro e1
    exact Yd (by rw [← e,e1];exact Y7 n)
   ·intro e1
    exact Yd (by rw [e,e1];exact Y7 o)
  rcases Yc.1 hp with rfl | hp <;> rcases Yc.1 hq with rfl | hq
  ·exact ⟨fun _=>rfl,fun _=>rfl⟩
  ·exact ⟨fun e=>((hd q hq).1 e.symm).symm,fun e=>((hd q hq).2 e.symm).symm⟩
  ·exact hd p hp
  ·exact Zi8 h2 p hp q hq
theorem Zoq:∀{m:List (Nat×Nat)} {n o:Nat},m.lookup n=some o→(n,o)∈m
 | [],_,_,h=>by cases h
 | (k,v)::m,n,o,h=>by
  rw [Y4] at h;cases hk:(n==k) with
  | true=>
   rw [hk] at h;cases h;rw [show n=k by simpa using hk];exact Yf
  | false=>
   rw [hk] at h;exact Ye _ (Zoq h)
theorem Zg5:∀{m:List (Nat×Nat)} {n o:Nat},(n,o)∈m→∃o',m.lookup n=some o'
 | (k,v)::m,n,o,h=>by
  rw [Y4];cases hk:(n==k) with
  | true=>exact ⟨v,rfl⟩
  | false=>
   rcases Yc.1 h with h | h
   ·cases h;simp at hk
   ·exact Zg5 h
structure RdOk (X X':Nat→Prop) (ρ ρ':Rho) (w:World) (sh:Shape) (m:List (Nat×Nat)):Prop where
 ptr:∀b,b∈Zvb sh.slots→ρ' b=ρ b
 own:∀n o,(n,o)∈m→n∈Zjh sh.slots→o<1000000→ρ' n=ρ o
 nil:∀n,(n,3000000+n)∈m→n∈Zjh sh.slots→ρ' n=some (.row (.slice none 0 0))
 fix:∀b,Fix X ρ w b→Fix X' ρ' w b
 brw:∀b,Brw ρ w b→Brw ρ' w b
 pure:∀o,(1000000+o,o)∈m→∀b,owns (ρ o) b→Fix X' ρ' w b
 small:∀n∈Zjh sh.slots,n<1000000
theorem Zjob {t:Ty} {y:t.T} {v:Value} (h:Rep w (Fix X ρ w) t y [v]):Zlb X ρ w (Zrw (Z2 t y)) v:=by
 have h1:=Z5t h
 have h2:=h1.len
 generalize Z2 t y=ys at h1 h2
 match ys,h1,h2 with
 | [],_,h2=>cases h2
 | [z],h1,_=>exact h1.1
 | _::_::_,_,h2=>simp at h2
theorem Z0ob (H:RdOk X X' ρ ρ' w sh m) (h:Rel X ρ st a w) {t:Ty} {x:Leaf} {v:Value} {ds:List DV} {mm:List (Nat×Nat)} (hx:Zlb X ρ w x v) (hr:Zju st t x=some (ds,mm)):
  ∃l:List t.T,ds=[.mk (.sl t) l]∧mm=[]∧Rep w (Brw ρ' w) (.sl t) l [v]:=by
 have some1:∀{r':Ty} {l:List r'.T},Zyu t (Zpi l)=some (ds,mm)→Rep w (Brw ρ w) (.sl r') l [v]→∃l:List t.T,ds=[.mk (.sl t) l]∧mm=[]∧Rep w (Brw ρ' w) (.sl t) l [v]:=by
  intro r' l hs hrep;cases hc:Zpi (r:=t) l with
  | none=>rw [hc] at hs;cases hs
  | some l2=>
   rw [hc] at hs;cases hs;obtain ⟨e,rfl⟩:=Z0r hc;exact ⟨_,rfl,rfl,Zpy e (Rep.move (fun b hb=>⟨rfl,H.brw b hb⟩) hrep)⟩
 unfold Zju at hr
 split at hr
 ·exact some1 hr hx
 ·exact some1 hr (Rep.move (fun b hb=>⟨rfl,hb.brw⟩) hx)
 ·cases hr
  have hx:v = .slice none 0 0:=hx;exact ⟨[],rfl,rfl,none,0,by rw [hx];rfl,Y8 _,.inl rfl⟩
 ·rename_i n
  split at hr
  ·rename_i r' l he
   have h0:=h.ents n;rw [he] at h0;obtain ⟨u,hu,h0⟩:=h0;have hx2:=hx.2;rw [hu] at hx2;have hx2:v=u:=hx2;subst hx2;exact some1 hr (Rep.move (fun b hb=>⟨rfl,hb.brw⟩) h0)
  ·cases hr
 ·cases hr
theorem Z7db (H:RdOk X X' ρ ρ' w sh m) (h:Rel X ρ st a w) {k:LK} {x:Leaf} {v:Value} {ds:List DV} {mm:List (Nat×Nat)} (hk:Zrj sh k=true) (hx:Zlb X ρ w x v) (hr:Zl0 st k x=some (ds,mm)) (hm:∀p∈mm,p∈m) (rest:List DV):
  Zlb X' ρ' w (Zpo k (ds++rest)).1 v∧(Zpo k (ds++rest)).2=rest:=by
 cases k with
 | no=>
  cases hr;exact ⟨hx.one,rfl⟩
 | ptr b off=>
  replace hr:Z2w b off x=some (ds,mm):=hr;unfold Z2w at hr;split at hr
  ·rename_i b' off'
   cases hc:(Ya b b'&&Ya off off') with
   | false=>rw [hc] at hr;cases hr
   | true=>
    rw [hc] at hr;cases hr;obtain ⟨c1,c2⟩:=(Yb _ _).mp hc;obtain rfl:=Yd c1;obtain rfl:=Yd c2;refine ⟨⟨hx.1,?_⟩,rfl⟩;rw [H.ptr b (Zfv hk)];exact hx.2
  ·cases hr
 | own n=>
  have hn:=Zfv (show (Zjh sh.slots).any (Ya n)=true from hk);replace hr:Z0w n x=some (ds,mm):=hr;unfold Z0w at hr;split at hr
  ·rename_i o
   cases hc:Yl o 1000000 with
   | false=>rw [hc] at hr;cases hr
   | true=>
    rw [hc] at hr;cases hr;have e:=H.own n o (hm _ Yf) hn (Yj hc);refine ⟨⟨hx.1,?_⟩,rfl⟩;rw [e];exact hx.2
  ·cases hr
   have e:=H.nil n (hm _ Yf) hn;have hx:v = .slice none 0 0:=hx;refine ⟨⟨.inl ⟨_,_,_,hx⟩,?_⟩,rfl⟩;rw [e];exact hx
  ·cases hr
 | pin n=>
  replace hr:Z1w n x=some (ds,mm):=hr;unfold Z1w at hr;split at hr
  ·rename_i m'
   cases hc:Ya n m' with
   | false=>rw [hc] at hr;cases hr
   | true=>
    rw [hc] at hr;cases hr;obtain rfl:=Yd hc;refine ⟨⟨hx.1,?_⟩,rfl⟩;rw [H.ptr n (Zfv hk)];exact hx.2
  ·cases hr
 | rp t=>
  replace hr:Z3w t x=some (ds,mm):=hr;unfold Z3w at hr;split at hr
  ·rename_i t' y
   split at hr
   ·rename_i hs _
    cases hr;obtain ⟨g,o,cs,h1,h2,h3,h4⟩:=hx;have e:=hs.down;subst e;exact ⟨⟨g,o,cs,h1,H.brw g h2,h3,Rep.move (fun b hb=>⟨rfl,H.brw b hb⟩) h4⟩,rfl⟩
   ·cases hr
  ·cases hr
 | bor t=>
  obtain ⟨l,rfl,rfl,hrep⟩:=Z0ob H h hx (show Zju st t x=some (ds,mm) from hr);exact ⟨hrep,rfl⟩
 | v t=>
  replace hr:(match Zhu st t x with
   | some (y,ns)=>some ([DV.mk t y],ns.map fun o=>(1000000+o,o))
   | none=>none)=some (ds,mm):=hr
  split at hr
  ·rename_i y ns hy
   cases hr;refine ⟨Zjob (Rep.move (fun b hb=>⟨rfl,?_⟩) (Zwdb h hx hy)),rfl⟩;rcases hb with hb | ⟨o,ho,hb⟩
   ·exact H.fix b hb
   ·exact H.pure o (hm _ (Yk.2 ⟨o,ho,rfl⟩)) b hb
  ·cases hr
theorem Zyw (H:RdOk X X' ρ ρ' w sh m) (h:Rel X ρ st a w):∀{ks:List LK} {xs:List Leaf} {vs:List Value} {ds:List DV} {mm:List (Nat×Nat)},ks.all (Zrj sh)=true→Zq X ρ w xs vs→Zpk st ks xs=some (ds,mm)→(∀p∈mm,p∈m)→∀rest:List DV,
  Zq X' ρ' w (Zsj ks (ds++rest)).1 vs∧(Zsj ks (ds++rest)).2=rest
 | [],[],[],ds,mm,_,_,hr,_,rest=>by
  cases hr;exact ⟨trivial,rfl⟩
 | k::ks,x::xs,v::vs,ds,mm,hk,hx,hr,hm,rest=>by
  unfold Zpk at hr;split at hr
  ·rename_i a1 m1 a2 m2 h1 h2
   cases hr;obtain ⟨k1,k2⟩:=(Yb _ _).mp (show (Zrj sh k&&ks.all (Zrj sh))=true from hk);obtain ⟨i1,i2⟩:=Z7db H h k1 hx.1 h1 (fun p hp=>hm p (Yi _ hp)) (a2++rest);obtain ⟨j1,j2⟩:=Zyw H h k2 hx.2 h2 (fun p hp=>hm p (Yh _ hp)) rest;rw [Yq];refine ⟨⟨i1,?_⟩,?_⟩
   ·rw [i2];exact j1
   ·show (Zsj ks (Zpo k (a1++(a2++rest))).2).2=rest
    rw [i2];exact j2
  ·cases hr
 | [],_::_,_,_,_,_,_,hr,_,_=>by cases hr
 | _::_,[],_,_,_,_,_,hr,_,_=>by cases hr
 | [],[],_::_,_,_,_,h,_,_,_=>h.elim
 | _::_,_::_,[],_,_,_,h,_,_,_=>h.elim
theorem Z1ob (H:RdOk X X' ρ ρ' w sh m) (h:Rel X ρ st a w) {k:TK} {i:Nat} {ds:List DV} {mm:List (Nat×Nat)} (hk:k.lks.all (Zrj sh)=true) (hr:rdT st k (st.tmp i)=some (ds,mm)) (hm:∀p∈mm,p∈m) (rest:List DV):
  Z4 X' ρ' w (mkT k (ds++rest)).1 (Z1 a i)∧(mkT k (ds++rest)).2=rest:=by
 have ht:=h.tmp i
 unfold rdT at hr
 split at hr
 ·rename_i k x hx
  rw [hx] at ht
  have ht:Zlb X ρ w x (Z1 a i):=by
   rcases ht with ht | ⟨_,_,_,e,_⟩
   ·exact ht
   ·cases e
  obtain ⟨j1,j2⟩:=Z7db H h (by simpa [TK.lks] using hk) ht hr hm rest;exact ⟨j1,j2⟩
 ·rename_i ks xs hx
  rw [hx] at ht
  have ht:∃cs,Z1 a i = .agg cs∧Zq X ρ w xs cs.toList:=by
   rcases ht with ht | ⟨_,_,_,e,_⟩
   ·exact ht
   ·cases e
  obtain ⟨cs,e,ht⟩:=ht;obtain ⟨j1,j2⟩:=Zyw H h hk ht hr hm rest;exact ⟨⟨cs,e,j1⟩,j2⟩
 ·rename_i ks xs hx
  rw [hx] at ht
  have ht:Z4 X ρ w (.eptr xs) (Z1 a i):=by
   rcases ht with ht | ⟨_,_,_,e,_⟩
   ·exact ht
   ·cases e
  obtain ⟨gb,o,cs,e,hg,hc,ht⟩:=ht;obtain ⟨j1,j2⟩:=Zyw H h hk ht hr hm rest;exact ⟨⟨gb,o,cs,e,H.brw gb hg,hc,j1⟩,j2⟩
 ·rename_i f ks f' xs hx
  rw [hx] at ht
  have ht:∃cs,Z1 a i = .func (.func f') #[] cs∧Zq X ρ w xs cs.toList:=by
   rcases ht with ht | ⟨_,_,_,e,_⟩
   ·exact ht
   ·cases e
  obtain ⟨cs,e,ht2⟩:=ht;cases hf:Ya f f' with
  | false=>rw [hf] at hr;cases hr
  | true=>
   rw [hf] at hr;obtain rfl:=Yd hf;obtain ⟨j1,j2⟩:=Zyw H h hk ht2 hr hm rest;exact ⟨⟨cs,e,j1⟩,j2⟩
 ·cases hr
theorem Zaeb (H:RdOk X X' ρ ρ' w sh m) (h:Rel X ρ st a w):∀{ks:List (Nat×TK)} {ds:List DV} {mm:List (Nat×Nat)},(ks.all fun p=>p.2.lks.all (Zrj sh))=true→Zlu st ks=some (ds,mm)→(∀p∈mm,p∈m)→∀(rest:List DV) (ts:List AV),(∀j,Z4 X' ρ' w (Zz .unk ts j) (Z1 a j)) →
  (∀j,Z4 X' ρ' w (Zz .unk (Zzh ks (ds++rest) ts).1 j) (Z1 a j))∧(Zzh ks (ds++rest) ts).2=rest
 | [],ds,mm,_,hr,_,rest,ts,hts=>by
  cases hr;exact ⟨hts,rfl⟩
 | (i,k)::ks,ds,mm,hk,hr,hm,rest,ts,hts=>by
  unfold Zlu at hr;split at hr
  ·rename_i a1 m1 a2 m2 h1 h2
   cases hr;obtain ⟨k1,k2⟩:=(Yb _ _).mp (show (k.lks.all (Zrj sh)&&ks.all fun p=>p.2.lks.all (Zrj sh))=true from hk);obtain ⟨i1,i2⟩:=Z1ob H h k1 h1 (fun p hp=>hm p (Yi _ hp)) (a2++rest);rw [Yq];show (∀j,Z4 X' ρ' w (Zz .unk (Zzh ks (mkT k (a1++(a2++rest))).2 (Z7c .unk ts i (mkT k (a1++(a2++rest))).1)).1 j) (Z1 a j))∧(Zzh ks (mkT k (a1++(a2++rest))).2 (Z7c .unk ts i (mkT k (a1++(a2++rest))).1)).2=rest;rw [i2];refine Zaeb H h k2 h2 (fun p hp=>hm p (Yh _ hp)) rest _ ?_;intro j;rw [Zlh]
   by_cases hij:i=j
   ·subst hij;rw [Xc rfl];exact i1
   ·rw [Xd hij];exact hts j
  ·cases hr
theorem Zxw:∀{ss:List (Nat×BK)} {mm:List (Nat×Nat)},Zwq st ss=some mm→∀n t ks,(n,.box t ks)∈ss→∃t' xs ds m1,st.ent n = .box t' xs∧Zpk st ks xs=some (ds,m1)∧∀p∈m1,p∈mm
 | [],_,_,n,t,ks,h=>nomatch h
 | (n',.box t' ks')::ss,mm,hr,n,t,ks,h=>by
  unfold Zwq at hr;split at hr
  ·rename_i bt xs he
   split at hr
   ·rename_i a1 m1 m2 h1 h2
    cases hr;rcases Yc.1 h with h | h
    ·cases h
     exact ⟨bt,xs,a1,m1,he,h1,fun p hp=>Yi _ hp⟩
    ·obtain ⟨t2,ys,d2,m3,e1,e2,e3⟩:=Zxw h2 n t ks h
     exact ⟨t2,ys,d2,m3,e1,e2,fun p hp=>Yh _ (e3 p hp)⟩
   ·cases hr
  ·cases hr
 | (n',.arr _ _ _)::ss,mm,hr,n,t,ks,h=>by
  rcases Yc.1 h with h | h
  ·cases h
  ·exact Zxw (ss:=ss) hr n t ks h
 | (n',.pin _ _)::ss,mm,hr,n,t,ks,h=>by
  rcases Yc.1 h with h | h
  ·cases h
  ·exact Zxw (ss:=ss) hr n t ks h
theorem Zuib {t:Ty} (l:List t.T):Zpi (r:=t) l=some l:=by
 obtain ⟨h,e⟩:=Zd1 t
 unfold Zpi
 rw [e]
theorem Zi5 {z:Bool} {e:TypeId} {t:Ty} (l:List t.T):Znn z e t (.mk (.sl t) l) = .arr z e t l:=by
 show (match Zpi (r:=t) l with
  | some l=>Ent.arr z e t l
  | none=>.free)=_
 rw [Zuib]
theorem Zzob (H:RdOk X X' ρ ρ' w sh m) (h:Rel X ρ st a w) {n:Nat} {k:BK} {ds:List DV} (hk:k.lks.all (Zrj sh)=true) (hr:rdB st m n k=some ds) (hbox:∀t ks,k = .box t ks→n∈Zvb sh.slots∧∃t' xs ds m1,st.ent n = .box t' xs∧Zpk st ks xs=some (ds,m1)∧∀p∈m1,p∈m)
  (hpin:∀e t,k = .pin e t→n∈Zvb sh.slots) (harr:∀z e t,k = .arr z e t→n∈Zjh sh.slots∧(m.lookup n=none→ρ' n=some (.row (.slice none 0 0)))∧(∀o,m.lookup n=some o→3000000≤o→o=3000000+n)∧∀o,m.lookup n=some o→o<3000000→o<1000000) (rest:List DV):
  Zid X' ρ' w (mkB k (ds++rest)).1 (ρ' n)∧(mkB k (ds++rest)).2=rest:=by
 cases k with
 | box t ks=>
  obtain ⟨hn,t',xs,ds',m1,he,hrl,hmm⟩:=hbox t ks rfl;unfold rdB at hr;dsimp only at hr;rw [he] at hr;dsimp only at hr;rw [hrl] at hr;cases ht:Ya t t' with
  | false=>rw [ht] at hr;cases hr
  | true=>
   rw [ht] at hr;cases hr;obtain rfl:=Yd ht;have h0:=h.ents n;rw [he] at h0;obtain ⟨gb,cs,fr,hρ,hh,hu,hxs⟩:=h0;obtain ⟨j1,j2⟩:=Zyw H h hk hxs hrl hmm rest;refine ⟨⟨gb,cs,fr,by rw [H.ptr n hn];exact hρ,hh,hu,j1⟩,j2⟩
 | pin e t=>
  have hn:=hpin e t rfl;replace hr:Zvq st false e t n=some ds:=hr;unfold Zvq at hr;split at hr
  ·rename_i z' e' rt l he
   split at hr
   ·rename_i l2 hl2
    cases hz:(Ya e e'&&(false==z')) with
    | false=>rw [hz] at hr;cases hr
    | true=>
     rw [hz] at hr;have hr:some [DV.mk (.sl t) l2]=some ds:=hr;cases hr;obtain ⟨c1,c2⟩:=(Yb _ _).mp hz;obtain rfl:=Yd c1;obtain rfl:false=z':=by simpa using c2
     obtain ⟨et,rfl⟩:=Z0r hl2;have h0:=h.ents n;rw [he] at h0;obtain ⟨u,hu,h0⟩:=h0;refine ⟨?_,rfl⟩;show Zid X' ρ' w (Znn false e t (.mk (.sl t) _)) (ρ' n);rw [Zi5,H.ptr n hn];refine ⟨u,hu,?_⟩;have hm:=Zac.mono (F':=Fix X' ρ' w) (fun b hb=>H.fix b hb) h0;subst et;exact hm
   ·cases hr
  ·cases hr
 | arr z e t=>
  obtain ⟨hn,h1,h2,h3⟩:=harr z e t rfl
  have nilCase:(bif Z0 e then none else some [DV.mk (.sl t) []])=some ds→ρ' n=some (.row (.slice none 0 0))→Zid X' ρ' w (mkB (.arr z e t) (ds++rest)).1 (ρ' n)∧(mkB (.arr z e t) (ds++rest)).2=rest:=by
   intro hds hρ;cases hm:Z0 e with
   | true=>rw [hm] at hds;cases hds
   | false=>
   rw [hm] at hds;replace hds:some [DV.mk (.sl t) []]=some ds:=hds;cases hds;refine ⟨?_,rfl⟩;show Zid X' ρ' w (Znn z e t (.mk (.sl t) [])) (ρ' n);rw [Zi5 (t:=t) [],hρ];exact ⟨_,rfl,Zfc.ok (.inl ⟨rfl,rfl⟩) hm⟩
  unfold rdB at hr;dsimp only at hr;split at hr
  ·rename_i hl
   exact nilCase hr (h1 hl)
  ·rename_i o hl
   cases ho:Yp 3000000 o with
   | true=>
    rw [ho] at hr;have e:=h2 o hl (Yj ho);subst e;exact nilCase hr (H.nil n (Zoq hl) hn)
   | false=>
    rw [ho] at hr
    have ho:o<3000000:=by
     rcases Yba o 3000000 with h | h
     ·exact h
     ·rw [Nat.ble_eq_true_of_le h] at ho;cases ho
    have hr:Zvq st z e t o=some ds:=hr;unfold Zvq at hr;split at hr
    ·rename_i z' e' rt l he
     split at hr
     ·rename_i l2 hl2
      cases hz:(Ya e e'&&(z==z')) with
      | false=>rw [hz] at hr;cases hr
      | true=>
       rw [hz] at hr;have hr:some [DV.mk (.sl t) l2]=some ds:=hr;cases hr;obtain ⟨c1,c2⟩:=(Yb _ _).mp hz;obtain rfl:=Yd c1;obtain rfl:z=z':=by simpa using c2
       obtain ⟨et,rfl⟩:=Z0r hl2;have h0:=h.ents o;rw [he] at h0;obtain ⟨u,hu,h0⟩:=h0;have hρ:=H.own n o (Zoq hl) hn (h3 o hl ho);refine ⟨?_,rfl⟩;show Zid X' ρ' w (Znn z e t (.mk (.sl t) _)) (ρ' n);rw [Zi5,hρ];refine ⟨u,hu,?_⟩;have hm:=Zac.mono (F':=Fix X' ρ' w) (fun b hb=>H.fix b hb) h0;subst et;exact hm
     ·cases hr
    ·cases hr
theorem Z5db (H:RdOk X X' ρ ρ' w sh m) (h:Rel X ρ st a w):∀{ss:List (Nat×BK)} {ds:List DV},(ss.all fun p=>p.2.lks.all (Zrj sh))=true→Zku st m ss=some ds →
  (∀n k,(n,k)∈ss→(∀t ks,k = .box t ks→n∈Zvb sh.slots∧∃t' xs ds m1,st.ent n = .box t' xs∧Zpk st ks xs=some (ds,m1)∧∀p∈m1,p∈m)∧(∀e t,k = .pin e t→n∈Zvb sh.slots) ∧
   (∀z e t,k = .arr z e t→n∈Zjh sh.slots∧(m.lookup n=none→ρ' n=some (.row (.slice none 0 0)))∧(∀o,m.lookup n=some o→3000000≤o→o=3000000+n)∧∀o,m.lookup n=some o→o<3000000→o<1000000)) →
  ∀(hs:List Ent),(∀i,Zid X' ρ' w (Zz .free hs i) (ρ' i))→∀i,Zid X' ρ' w (Zz .free (Zel ss ds hs) i) (ρ' i)
 | [],ds,_,hr,_,hs,hh,i=>by
  cases hr;exact hh i
 | (n,k)::ss,ds,hk,hr,hc,hs,hh,i=>by
  unfold Zku at hr;split at hr
  ·rename_i a1 a2 h1 h2
   cases hr;obtain ⟨k1,k2⟩:=(Yb _ _).mp (show (k.lks.all (Zrj sh)&&ss.all fun p=>p.2.lks.all (Zrj sh))=true from hk);obtain ⟨c1,c0,c2⟩:=hc n k Yf;obtain ⟨i1,i2⟩:=Zzob H h k1 h1 c1 c0 c2 a2;show Zid X' ρ' w (Zz .free (Zel ss (mkB k (a1++a2)).2 (Z7c .free hs n (mkB k (a1++a2)).1)) i) (ρ' i);rw [i2];refine Z5db H h k2 h2 (fun n' k' hn=>hc n' k' (Ye _ hn)) _ ?_ i;intro j;rw [Zlh]
   by_cases hnj:n=j
   ·subst hnj;rw [Xc rfl];exact i1
   ·rw [Xd hnj];exact hh j
  ·cases hr
theorem Z6db (h:Rel X ρ st a w):∀{ss:List (Nat×BK)} {ds:List DV},Zku st m ss=some ds→∀n e t,(n,BK.pin e t)∈ss→∃v,ρ n=some (.row v)
 | [],ds,_,n,e,t,hm=>nomatch hm
 | (n',k)::ss,ds,hr,n,e,t,hm=>by
  unfold Zku at hr;split at hr
  ·rename_i a1 a2 h1 h2
   rcases Yc.1 hm with hm | hm
   ·cases hm
    replace h1:Zvq st false e t n'=some a1:=h1;unfold Zvq at h1;split at h1
    ·rename_i z' e' rt l he
     have h0:=h.ents n';rw [he] at h0;obtain ⟨u,hu,_⟩:=h0;exact ⟨u,hu⟩
    ·cases h1
   ·exact Z6db h h2 n e t hm
  ·cases hr
theorem Zjy:∀{ss:List (Nat×BK)} {i:Nat},i∈Zvb ss→(∃t ks,(i,BK.box t ks)∈ss)∨∃e t,(i,BK.pin e t)∈ss
 | (n,.box t ks)::ss,i,h=>by
  rcases Yc.1 h with rfl | h
  ·exact .inl ⟨t,ks,Yf⟩
  ·exact (Zjy h).imp (fun ⟨t,ks,h⟩=>⟨t,ks,Ye _ h⟩) fun ⟨e,t,h⟩=>⟨e,t,Ye _ h⟩
 | (n,.pin e t)::ss,i,h=>by
  rcases Yc.1 h with rfl | h
  ·exact .inr ⟨e,t,Yf⟩
  ·exact (Zjy h).imp (fun ⟨t,ks,h⟩=>⟨t,ks,Ye _ h⟩) fun ⟨e,t,h⟩=>⟨e,t,Ye _ h⟩
 | (n,.arr _ _ _)::ss,i,h=>(Zjy (ss:=ss) h).imp (fun ⟨t,ks,h⟩=>⟨t,ks,Ye _ h⟩) fun ⟨e,t,h⟩=>⟨e,t,Ye _ h⟩
theorem Zceb (h:Rel X ρ st a w) {ds:List DV} (hr:Zuq sh st=some (ds,m)):∀i∈Zvb sh.slots,Zep (ρ i):=by
 intro i hi
 unfold Zuq at hr
 split at hr
 ·rename_i h1 h2
  split at hr
  ·rename_i h3
   rcases Zjy hi with ⟨t,ks,hm⟩ | ⟨e,t,hm⟩
   ·obtain ⟨t',xs,_,_,he,_⟩:=Zxw h2 i t ks hm
    have h0:=h.ents i;rw [he] at h0;obtain ⟨g,_,_,hg,_⟩:=h0;exact .inl ⟨g,hg⟩
   ·exact .inr (Z6db h h3 i e t hm)
  ·cases hr
 ·cases hr
def Z9u (p:Nat×Nat):Prop:=p.1<1000000→p.2<1000000∨p.2=3000000+p.1
theorem Z8db {k:LK} {x:Leaf} {ds:List DV} {mm:List (Nat×Nat)} (hr:Zl0 st k x=some (ds,mm)):∀p∈mm,Z9u p:=by
 cases k with
 | no=>cases hr;exact fun p hp=>nomatch hp
 | ptr b off=>
  replace hr:Z2w b off x=some (ds,mm):=hr;unfold Z2w at hr;split at hr
  ·cases hc:(Ya b _&&Ya off _) with
   | false=>rw [hc] at hr;cases hr
   | true=>rw [hc] at hr;cases hr;exact fun p hp=>nomatch hp
  ·cases hr
 | pin n=>
  replace hr:Z1w n x=some (ds,mm):=hr;unfold Z1w at hr;split at hr
  ·cases hc:Ya n _ with
   | false=>rw [hc] at hr;cases hr
   | true=>rw [hc] at hr;cases hr;exact fun p hp=>nomatch hp
  ·cases hr
 | own n=>
  replace hr:Z0w n x=some (ds,mm):=hr;unfold Z0w at hr;split at hr
  ·rename_i o
   cases hc:Yl o 1000000 with
   | false=>rw [hc] at hr;cases hr
   | true=>
    rw [hc] at hr;cases hr;intro p hp _;rw [Yn.1 hp];exact .inl (Yj hc)
  ·cases hr
   intro p hp _;rw [Yn.1 hp];exact .inr rfl
  ·cases hr
 | rp t=>
  replace hr:Z3w t x=some (ds,mm):=hr
  have hm:mm=[]:=by
   unfold Z3w at hr;split at hr
   ·split at hr
    ·cases hr;rfl
    ·cases hr
   ·cases hr
  subst hm;exact fun p hp=>nomatch hp
 | bor t=>
  have hs:∀{o:Option (List t.T)},Zyu t o=some (ds,mm)→mm=[]:=by
   intro o ho;cases o <;> cases ho;rfl
  have hm:mm=[]:=by
   replace hr:Zju st t x=some (ds,mm):=hr;unfold Zju at hr;split at hr
   ·exact hs hr
   ·exact hs hr
   ·exact hs hr
   ·split at hr
    ·exact hs hr
    ·cases hr
   ·cases hr
  subst hm;exact fun p hp=>nomatch hp
 | v t=>
  replace hr:(match Zhu st t x with
   | some (y,ns)=>some ([DV.mk t y],ns.map fun o=>(1000000+o,o))
   | none=>none)=some (ds,mm):=hr
  split at hr
  ·cases hr
   intro p hp hlt;obtain ⟨o,_,rfl⟩:=Yk.1 hp;exact absurd hlt (by show ¬(1000000+o<1000000);omega)
  ·cases hr
theorem Zzw:∀{ks:List LK} {xs:List Leaf} {ds:List DV} {mm:List (Nat×Nat)},Zpk st ks xs=some (ds,mm)→∀p∈mm,Z9u p
 | [],[],_,_,hr=>by cases hr;exact fun p hp=>nomatch hp
 | k::ks,x::xs,ds,mm,hr=>by
  unfold Zpk at hr;split at hr
  ·rename_i h1 h2
   cases hr;intro p hp;rcases Ym.1 hp with hp | hp
   ·exact Z8db h1 p hp
   ·exact Zzw h2 p hp
  ·cases hr
 | [],_::_,_,_,hr=>by cases hr
 | _::_,[],_,_,hr=>by cases hr
theorem Zbeb:∀{ks:List (Nat×TK)} {ds:List DV} {mm:List (Nat×Nat)},Zlu st ks=some (ds,mm)→∀p∈mm,Z9u p
 | [],_,_,hr=>by cases hr;exact fun p hp=>nomatch hp
 | (i,k)::ks,ds,mm,hr=>by
  unfold Zlu at hr;split at hr
  ·rename_i h1 h2
   cases hr;intro p hp;rcases Ym.1 hp with hp | hp
   ·unfold rdT at h1
    split at h1
    ·exact Z8db h1 p hp
    ·exact Zzw h1 p hp
    ·exact Zzw h1 p hp
    ·rename_i f _ f' _ _
     cases hf:Ya f f' with
     | false=>rw [hf] at h1;cases h1
     | true=>rw [hf] at h1;exact Zzw h1 p hp
    ·cases h1
   ·exact Zbeb h2 p hp
  ·cases hr
theorem Zk0:∀{ss:List (Nat×BK)} {mm:List (Nat×Nat)},Zwq st ss=some mm→∀p∈mm,Z9u p
 | [],_,hr=>by cases hr;exact fun p hp=>nomatch hp
 | (n,.box t ks)::ss,mm,hr=>by
  unfold Zwq at hr;split at hr
  ·split at hr
   ·rename_i h1 h2
    cases hr;intro p hp;rcases Ym.1 hp with hp | hp
    ·exact Zzw h1 p hp
    ·exact Zk0 h2 p hp
   ·cases hr
  ·cases hr
 | (n,.arr _ _ _)::ss,mm,hr=>Zk0 (ss:=ss) hr
 | (n,.pin _ _)::ss,mm,hr=>Zk0 (ss:=ss) hr
theorem Zlw:∀{ss:List (Nat×BK)} {n:Nat} {e:TypeId} {t:Ty},(n,BK.pin e t)∈ss→n∈Zvb ss
 | (n',.box t' ks')::ss,n,e,t,h=>by
  rcases Yc.1 h with h | h
  ·cases h
  ·exact Ye _ (Zlw h)
 | (n',.pin _ _)::ss,n,e,t,h=>by
  rcases Yc.1 h with h | h
  ·cases h;exact Yf
  ·exact Ye _ (Zlw h)
 | (n',.arr _ _ _)::ss,n,e,t,h=>by
  rcases Yc.1 h with h | h
  ·cases h
  ·exact Zlw (ss:=ss) h
theorem Zkw:∀{ss:List (Nat×BK)} {n:Nat} {t:TypeId} {ks:List LK},(n,BK.box t ks)∈ss→n∈Zvb ss
 | (n',.pin _ _)::ss,n,t,ks,h=>by
  rcases Yc.1 h with h | h
  ·cases h
  ·exact Ye _ (Zkw h)
 | (n',.box t' ks')::ss,n,t,ks,h=>by
  rcases Yc.1 h with h | h
  ·cases h;exact Yf
  ·exact Ye _ (Zkw h)
 | (n',.arr _ _ _)::ss,n,t,ks,h=>by
  rcases Yc.1 h with h | h
  ·cases h
  ·exact Zkw (ss:=ss) h
theorem Zzz:∀{ss:List (Nat×BK)} {n:Nat} {z:Bool} {e:TypeId} {t:Ty},(n,BK.arr z e t)∈ss→n∈Zjh ss
 | (n',.pin _ _)::ss,n,z,e,t,h=>by
  rcases Yc.1 h with h | h
  ·cases h
  ·exact Zzz (ss:=ss) h
 | (n',.arr _ _ _)::ss,n,z,e,t,h=>by
  rcases Yc.1 h with h | h
  ·cases h;exact Yf
  ·exact Ye _ (Zzz h)
 | (n',.box _ _)::ss,n,z,e,t,h=>by
  rcases Yc.1 h with h | h
  ·cases h
  ·exact Zzz (ss:=ss) h
theorem Zoj:∀{ss:List (Nat×BK)} {n:Nat},n∈Zvb ss∨n∈Zjh ss→n∈ss.map (·.1)
 | [],n,h=>by rcases h with h | h <;> cases h
 | (n',.box _ _)::ss,n,h=>by
  rcases h with h | h
  ·rcases Yc.1 h with rfl | h
   ·exact Yf
   ·exact Ye _ (Zoj (.inl h))
  ·exact Ye _ (Zoj (ss:=ss) (.inr h))
 | (n',.pin _ _)::ss,n,h=>by
  rcases h with h | h
  ·rcases Yc.1 h with rfl | h
   ·exact Yf
   ·exact Ye _ (Zoj (.inl h))
  ·exact Ye _ (Zoj (ss:=ss) (.inr h))
 | (n',.arr _ _ _)::ss,n,h=>by
  rcases h with h | h
  ·exact Ye _ (Zoj (ss:=ss) (.inl h))
  ·rcases Yc.1 h with rfl | h
   ·exact Yf
   ·exact Ye _ (Zoj (.inr h))
theorem Zh1:∀{ss:List (Nat×BK)} {n:Nat},n∈ss.map (·.1)→n∈Zvb ss∨n∈Zjh ss
 | [],n,h=>by cases h
 | (n',.box _ _)::ss,n,h=>by
  rcases Yc.1 h with rfl | h
  ·exact .inl Yf
  ·exact (Zh1 h).imp (Ye _) id
 | (n',.pin _ _)::ss,n,h=>by
  rcases Yc.1 h with rfl | h
  ·exact .inl Yf
  ·exact (Zh1 h).imp (Ye _) id
 | (n',.arr _ _ _)::ss,n,h=>by
  rcases Yc.1 h with rfl | h
  ·exact .inr Yf
  ·exact (Zh1 h).imp id (Ye _)
theorem Zmz:∀{ss:List (Nat×BK)},(ss.map (·.1)).Nodup→∀n,n∈Zvb ss→n∈Zjh ss→False
 | [],_,n,h,_=>by cases h
 | (n',.box _ _)::ss,hn,n,h1,h2=>by
  obtain ⟨k1,k2⟩:=Yr.1 hn;rcases Yc.1 h1 with rfl | h1
  ·exact k1 (Zoj (ss:=ss) (.inr h2))
  ·exact Zmz k2 n h1 h2
 | (n',.pin _ _)::ss,hn,n,h1,h2=>by
  obtain ⟨k1,k2⟩:=Yr.1 hn;rcases Yc.1 h1 with rfl | h1
  ·exact k1 (Zoj (ss:=ss) (.inr h2))
  ·exact Zmz k2 n h1 h2
 | (n',.arr _ _ _)::ss,hn,n,h1,h2=>by
  obtain ⟨k1,k2⟩:=Yr.1 hn;rcases Yc.1 h2 with rfl | h2
  ·exact k1 (Zoj (ss:=ss) (.inl h1))
  ·exact Zmz k2 n h1 h2
theorem Zfeb (h:Rel X ρ st a w) (hok:Zrn sh=true) {ds:List DV} (hr:Zuq sh st=some (ds,m)) {x:Zpb sh.tys} (hx:Z2n sh.tys ds=some x) (hX1:∀b,X b→X' b) (hX2:∀b,X' b→b<w.heap.size)
  (hX3:∀b,X' b→X b∨∃j,j∉Zvb sh.slots++m.map (·.2)∧owns (ρ j) b):
  ∃ρ':Rho,Rel X' ρ' (mk sh st.n x) a w∧(∀i∈Zvb sh.slots,ρ' i=ρ i)∧(∀i,i∉sh.slots.map (·.1)→ρ' i=none)∧∀i b,owns (ρ' i) b→∃j∈Zvb sh.slots++m.map (·.2),owns (ρ j) b:=by
 unfold Zuq at hr
 split at hr
 ·rename_i da ma mb h1 h2
  split at hr
  ·rename_i db h3
   cases hc:(Zdv (ma++mb)&&Zit (Zvb sh.slots) ((ma++mb).map (·.2))) with
   | false=>rw [hc] at hr;cases hr
   | true=>
    rw [hc] at hr;have hr:some (da++db,ma++mb)=some (ds,m):=hr;cases hr;obtain ⟨c1,c2⟩:=(Yb _ _).mp hc;have hag:=Zi8 c1;have hdj:=Zxy c2;unfold Zrn at hok;simp only [Yb] at hok;obtain ⟨⟨⟨⟨s1,s2⟩,s3⟩,s4⟩,s5⟩:=hok;have hnd:=Zpw s1
    have hsm:∀n∈sh.slots.map (·.1),n<sh.nb∧n<1000000:=fun n hn=>by
     obtain ⟨p,hp,rfl⟩:=Yk.1 hn;obtain ⟨t1,t2⟩:=(Yb _ _).mp (Yg.1 s3 p hp);exact ⟨Yj t1,Yj t2⟩
    have hpairs:∀p∈ma++mb,Z9u p:=fun p hp=>by
     rcases Ym.1 hp with hp | hp
     ·exact Zbeb h1 p hp
     ·exact Zk0 h2 p hp
    let M:=ma++mb
    let ρ':Rho:=fun i=>if i∈Zvb sh.slots then ρ i else if i∈Zjh sh.slots then (match M.lookup i with | some o=>if 3000000≤o then some (.row (.slice none 0 0)) else ρ o | none=>some (.row (.slice none 0 0))) else none
    have r1:∀i∈Zvb sh.slots,ρ' i=ρ i:=fun i hi=>by
     show (if i∈Zvb sh.slots then ρ i else _)=_;rw [Xc hi]
    have rA:∀i,i∈Zjh sh.slots→ρ' i=(match M.lookup i with | some o=>if 3000000≤o then some (.row (.slice none 0 0)) else ρ o | none=>some (.row (.slice none 0 0))):=fun i hi=>by
     show (if i∈Zvb sh.slots then ρ i else if i∈Zjh sh.slots then _ else none)=_;rw [Xd (fun hb=>Zmz hnd i hb hi),Xc hi]
    have r0:∀i,i∉sh.slots.map (·.1)→ρ' i=none:=fun i hi=>by
     show (if i∈Zvb sh.slots then ρ i else if i∈Zjh sh.slots then _ else none)=_;rw [Xd (fun hb=>hi (Zoj (.inl hb))),Xd (fun hb=>hi (Zoj (.inr hb)))]
    have own':∀i b,owns (ρ' i) b→(i∈Zvb sh.slots∧owns (ρ i) b)∨(i∈Zjh sh.slots∧∃o,(i,o)∈M∧o<3000000∧owns (ρ o) b):=fun i b hb=>by
     by_cases hi:i∈Zvb sh.slots
     ·rw [r1 i hi] at hb
      exact .inl ⟨hi,hb⟩
     ·by_cases hi2:i∈Zjh sh.slots
      ·rw [rA i hi2] at hb
       cases hl:M.lookup i with
       | none=>rw [hl] at hb;cases hb
       | some o=>
        rw [hl] at hb;dsimp only at hb
        by_cases ho:3000000≤o
        ·rw [Xc ho] at hb;cases hb
        ·rw [Xd ho] at hb
         exact .inr ⟨hi2,o,Zoq hl,by omega,hb⟩
      ·rw [r0 i (fun hm=>(Zh1 hm).elim hi hi2)] at hb
       exact hb.elim
    have used:∀i b,owns (ρ' i) b→∃j∈Zvb sh.slots++M.map (·.2),owns (ρ j) b:=fun i b hb=>by
     rcases own' i b hb with ⟨hi,hb⟩ | ⟨_,o,ho,_,hb⟩
     ·exact ⟨i,Yi _ hi,hb⟩
     ·exact ⟨o,Yh _ (Yk.2 ⟨_,ho,rfl⟩),hb⟩
    have notX:∀j b,j∈Zvb sh.slots++M.map (·.2)→owns (ρ j) b→¬X' b:=fun j b hj hb hx=>by
     rcases hX3 b hx with hx | ⟨k,hk,hb'⟩
     ·exact (h.lt j b hb).2 hx
     ·have:=h.sep k j b hb' hb
      subst this;exact hk hj
    have hfix:∀b,Fix X ρ w b→Fix X' ρ' w b:=fun b hb=>by
     refine ⟨hb.1,fun hx=>?_,fun i hi=>?_⟩
     ·rcases hX3 b hx with hx | ⟨k,_,hb'⟩
      ·exact hb.2.1 hx
      ·exact hb.2.2 k hb'
     ·obtain ⟨j,_,hj⟩:=used i b hi
      exact hb.2.2 j hj
    have hbrw:∀b,Brw ρ w b→Brw ρ' w b:=fun b hb=>⟨hb.1,fun i hi=>by
     obtain ⟨j,_,hj⟩:=used i b hi;exact hb.2 j hj⟩
    have H:RdOk X X' ρ ρ' w sh M:=by
     refine ⟨r1,?_,?_,hfix,hbrw,?_,?_⟩
     ·intro n o hno h1 h2
      obtain ⟨o',ho'⟩:=Zg5 hno;have e:=(hag _ (Zoq ho') _ hno).1 rfl;have e:o'=o:=e;rw [rA n h1,ho'];dsimp only;rw [Xd (by omega),e]
     ·intro n hno h1
      obtain ⟨o',ho'⟩:=Zg5 hno;have e:=(hag _ (Zoq ho') _ hno).1 rfl;have e:o'=3000000+n:=e;rw [rA n h1,ho'];dsimp only;rw [Xc (by omega)]
     ·intro o hno b hb
      refine ⟨(h.lt o b hb).1,notX o b (Yh _ (Yk.2 ⟨_,hno,rfl⟩)) hb,fun i hi=>?_⟩;rcases own' i b hi with ⟨hi,hb'⟩ | ⟨hi,o',ho,_,hb'⟩
      ·have:=h.sep i o b hb' hb
       subst this;exact hdj i hi (Yk.2 ⟨_,hno,rfl⟩)
      ·have:=h.sep o' o b hb' hb
       subst this;have e:=(hag _ ho _ hno).2 rfl;have:=(hsm i (Zoj (.inr hi))).2;have e:i=1000000+o':=e;omega
     ·intro n hn
      exact (hsm n (Zoj (.inr hn))).2
    have hof:Z1h sh.tys x=da++db:=Z9z hx;obtain ⟨t1,t2⟩:=Zaeb H h s4 h1 (fun p hp=>Yi _ hp) db [] (fun j=>by rw [Zst];trivial)
    have hents:=Z5db H h s5 h3 (fun n k hn=>⟨fun t ks e=>by
      subst e;obtain ⟨t',xs,d1,m1,e1,e2,e3⟩:=Zxw h2 n t ks hn;exact ⟨Zkw hn,t',xs,d1,m1,e1,e2,fun p hp=>Yh _ (e3 p hp)⟩,(fun e t ek=>by subst ek;exact Zlw hn),fun z e t ek=>by
      subst ek;have hn1:=Zzz hn;have hn2:=(hsm n (Zoj (.inr hn1))).2;refine ⟨hn1,fun hl=>?_,fun o hl ho=>?_,fun o hl ho=>?_⟩
      ·rw [rA n hn1,hl]
      ·rcases hpairs _ (Zoq hl) hn2 with h | h
       ·exact absurd h (by show ¬(o<1000000);omega)
       ·exact h
      ·rcases hpairs _ (Zoq hl) hn2 with h | h
       ·exact h
       ·have h:o=3000000+n:=h
        omega⟩) [] (fun i=>by rw [Zst];trivial)
    refine ⟨ρ',⟨h.defers,h.size,?_,?_,?_,?_,(fun _ _ _ _ hm=>nomatch hm),?_,hX2,⟨h.gl.1,fun n hn i hi=>by
     obtain ⟨j,_,hj⟩:=used i n hi;exact h.gl.2 n hn j hj⟩⟩,r1,r0,used⟩
    ·intro i j b hi hj
     rcases own' i b hi with ⟨hi1,hi2⟩ | ⟨hi1,o1,ho1,_,hi2⟩ <;> rcases own' j b hj with ⟨hj1,hj2⟩ | ⟨hj1,o2,ho2,_,hj2⟩
     ·exact h.sep i j b hi2 hj2
     ·have:=h.sep i o2 b hi2 hj2
      subst this;exact (hdj i hi1 (Yk.2 ⟨_,ho2,rfl⟩)).elim
     ·have:=h.sep o1 j b hi2 hj2
      subst this;exact (hdj o1 hj1 (Yk.2 ⟨_,ho1,rfl⟩)).elim
     ·have:=h.sep o1 o2 b hi2 hj2
      exact (hag _ ho1 _ ho2).2 this
    ·intro i b hi
     obtain ⟨j,hj,hb⟩:=used i b hi;exact ⟨(h.lt j b hb).1,notX j b hj hb⟩
    ·intro i
     show Zid X' ρ' w (Zz .free (Zel sh.slots (Zzh sh.tmps (Z1h sh.tys x) []).2 []) i) (ρ' i);rw [hof,t2];exact hents i
    ·intro i
     show Z4 X' ρ' w (Zz .unk (Zzh sh.tmps (Z1h sh.tys x) []).1 i) (Z1 a i);rw [hof];exact t1 i
    ·refine ⟨fun i hi=>r0 i fun hm=>?_,fun p hp=>nomatch hp⟩
     have:=(hsm i hm).1;rcases hi with ⟨hi,_⟩ | ⟨p,hp,_⟩
     ·have hi:sh.nb≤i:=hi
      omega
     ·cases hp
  ·cases hr
 ·cases hr
end
structure Ext0 (ρ:Rho) (w:World) (ρ':Rho) (w':World):Prop where
 os:w'.os=w.os
 tape:w'.tape=w.tape
 output:w'.output=w.output
 size:w.heap.size≤w'.heap.size
 keep:∀b,b<w.heap.size→(∀i,¬owns (ρ i) b)→w'.heap[b]? = w.heap[b]?
 own:∀i b,owns (ρ' i) b→(∃j,owns (ρ j) b)∨w.heap.size≤b
theorem Ext.ext0 {ρ ρ':Rho} {w w':World} (h:Ext ρ w ρ' w'):Ext0 ρ w ρ' w':=⟨h.os,h.tape,h.output,h.size,h.keep,h.own⟩
theorem Ext0.refl (ρ:Rho) (w:World):Ext0 ρ w ρ w:=(Ext.refl ρ w).ext0
theorem Ext0.trans {ρ ρ1 ρ2:Rho} {w w1 w2:World} (h:Ext0 ρ w ρ1 w1) (k:Ext0 ρ1 w1 ρ2 w2):Ext0 ρ w ρ2 w2:=by
 refine ⟨k.os.trans h.os,k.tape.trans h.tape,k.output.trans h.output,Y9 h.size k.size,?_,?_⟩
 ·intro b hb hn
  refine (k.keep b (Yaa hb h.size) (fun i hi=>?_)).trans (h.keep b hb hn);rcases h.own i b hi with ⟨j,hj⟩ | hj
  ·exact hn j hj
  ·omega
 ·intro i b hi
  rcases k.own i b hi with ⟨j,hj⟩ | hj
  ·exact h.own j b hj
  ·exact .inr (Y9 h.size hj)
theorem Ext0.less {ρ ρ1 ρ2:Rho} {w w1:World} (h:Ext0 ρ w ρ1 w1) (k:∀i b,owns (ρ2 i) b→∃j,owns (ρ1 j) b):Ext0 ρ w ρ2 w1:=
 ⟨h.os,h.tape,h.output,h.size,h.keep,fun i b hi=>by
  obtain ⟨j,hj⟩:=k i b hi;exact h.own j b hj⟩
def Z8u:(os:List (Ex×Shape))→Zuh os→(Ex→(sh:Shape)→Zpb sh.tys→Prop)→Prop
 | [],y,_=>nomatch y
 | [o],y,Q=>Q o.1 o.2 y
 | o::o'::os,y,Q=>match y with
  | .inl y=>Q o.1 o.2 y
  | .inr y=>Z8u (o'::os) y Q
def Z61 (P:Program) (c:Code) (s:Summ):Prop:=∀(X:Nat→Prop) (ρ:Rho) (x:Zpb s.ish.tys) (y:Zuh s.outs) (a:Act) (w:World),s.f x=some y→Rel X ρ (mk s.ish s.n x) a w→(∀i∈Zvb s.ish.slots,Zep (ρ i))→(∀i,i∉s.ish.slots.map (·.1)→ρ i=none) → ∀Q:Exit→Act→World→Prop,Z8u s.outs y (fun e sh y'=>∀ρ' a' w',Rel X ρ' (mk sh s.n y') a' w'→Ext0 ρ w ρ' w'→(∀i∈Zvb sh.slots,i∈Zvb s.ish.slots→ρ' i=ρ i)→(∀i,i∉sh.slots.map (·.1)→ρ' i=none)→Zpf (Zjd c) a a'→Q (Z0v e) a' w')→c.wp P Q a w
section
variable {P:Program} {X X':Nat→Prop} {ρ ρ':Rho} {st st':St} {a:Act} {w w':World} {R:Type} {r:R} {C:Ctx} {m:List (Nat×Nat)} {sh:Shape}
theorem Z58 {e e':Ex} (h:e.beq e'=true):e=e':=by
 cases e <;> cases e' <;> first
  | rfl
  | cases h
  | (rw [Yd h])
theorem Zeeb {x:Zpb sh.tys} (h:rd sh st=some x):∃ds m,Zuq sh st=some (ds,m)∧Z2n sh.tys ds=some x:=by
 unfold rd at h
 split at h
 ·rename_i ds m hr
  exact ⟨ds,m,hr,h⟩
 ·cases h
theorem Zdeb (h:Rel X ρ st a w) (hok:Zrn sh=true) {x:Zpb sh.tys} (hx:rd sh st=some x):
  ∃ρ':Rho,Rel X ρ' (mk sh st.n x) a w∧(∀i∈Zvb sh.slots,ρ' i=ρ i)∧(∀i∈Zvb sh.slots,Zep (ρ i))∧(∀i,i∉sh.slots.map (·.1)→ρ' i=none)∧∀i b,owns (ρ' i) b→∃j,owns (ρ j) b:=by
 obtain ⟨ds,m,hr,hp⟩:=Zeeb hx
 obtain ⟨ρ',k1,k2,k3,k4⟩:=Zfeb h hok hr hp (fun _ hb=>hb) h.xlt (fun b hb=>.inl hb)
 refine ⟨ρ',k1,k2,?_,k3,fun i b hb=>?_⟩
 ·exact Zceb h hr
 ·obtain ⟨j,_,hj⟩:=k4 i b hb
  exact ⟨j,hj⟩
theorem Z9db:∀{os:List (Ex×Shape)} {e:Ex} {y:Zuh os} {Q:Ex→(sh:Shape)→Zpb sh.tys→Prop},Zhl e st os=some y→Z8u os y Q→∃o∈os,o.1=e∧∃y',rd o.2 st=some y'∧Q o.1 o.2 y'
 | [],e,y,Q,h,_=>by cases h
 | [o],e,y,Q,h,hq=>by
  have h:(bif o.1.beq e then rd o.2 st else none)=some y:=h;cases he:o.1.beq e with
  | false=>rw [he] at h;cases h
  | true=>
   rw [he] at h;exact ⟨o,Yf,Z58 he,y,h,hq⟩
 | o::o'::os,e,y,Q,h,hq=>by
  replace h:(bif o.1.beq e then (match rd o.2 st with
   | some y=>some (.inl y)
   | none=>none) else match Zhl e st (o'::os) with
   | some y=>some (.inr y)
   | none=>none)=some y:=h
  cases he:o.1.beq e with
  | true=>
   rw [he] at h
   replace h:(match rd o.2 st with
    | some y=>some (.inl y)
    | none=>none:Option (Zpb o.2.tys ⊕ Zuh (o'::os)))=some y:=h
   split at h
   ·rename_i y' hy'
    cases h;exact ⟨o,Yf,Z58 he,y',hy',hq⟩
   ·cases h
  | false=>
   rw [he] at h
   replace h:(match Zhl e st (o'::os) with
    | some y=>some (.inr y)
    | none=>none:Option (Zpb o.2.tys ⊕ Zuh (o'::os)))=some y:=h
   split at h
   ·rename_i y' hy'
    cases h;obtain ⟨p,hp,h1,h2⟩:=Z9db hy' hq;exact ⟨p,Ye _ hp,h1,h2⟩
   ·cases h
theorem Zpdb {s:Summ} (hok:s.ok=true) {c:Code} {ρ0:Rho} {a0:Act} {w0:World} (hbox:∀i∈Zvb s.ish.slots,Zep (ρ0 i)) {y:Zuh s.outs} {Q:Exit→Act→World→Prop}
  (hq:Z8u s.outs y (fun e sh y'=>∀ρ' a' w',Rel X ρ' (mk sh s.n y') a' w'→Ext0 ρ0 w0 ρ' w'→(∀i∈Zvb sh.slots,i∈Zvb s.ish.slots→ρ' i=ρ0 i)→(∀i,i∉sh.slots.map (·.1)→ρ' i=none)→Zpf (Zjd c) a0 a'→Q (Z0v e) a' w'))
  {e:Ex} (h:Rel X ρ st a w) (hn:st.n=s.n) (hr:Zhl e st s.outs=some y) (hx:Ext0 ρ0 w0 ρ w) (hkeep:∀i∈Zvb s.ish.slots,Zep (ρ i)→ρ i=ρ0 i) (hs:Zpf (Zjd c) a0 a):Q (Z0v e) a w:=by
 obtain ⟨o,ho,he,y',hy',hQ⟩:=Z9db hr hq
 have hsh:Zrn o.2=true:=by
  unfold Summ.ok at hok;have:=Yg.1 ((Yb _ _).mp hok).2 o ho;exact ((Yb _ _).mp this).2
 obtain ⟨ρ',k1,k2,k3,k4,k5⟩:=Zdeb h hsh hy'
 rw [hn] at k1
 rw [← he]
 refine hQ ρ' a w k1 (hx.less k5) ?_ k4 hs
 intro i hi hi2
 rw [k2 i hi]
 exact hkeep i hi2 (k3 i hi)
theorem Zecb {ρ0 ρ1:Rho} {w0 w1:World} {i:Nat} (hbox:Zep (ρ0 i)) (x:Ext ρ0 w0 ρ1 w1) (h:Zep (ρ1 i)):ρ1 i=ρ0 i:=by
 rcases hbox with ⟨g,hg⟩ | ⟨u,hg⟩
 ·rcases x.conc i _ hg with k | k | ⟨v,k,_⟩
  ·rw [k,hg]
  ·rcases h with ⟨g',hg'⟩ | ⟨v',hg'⟩ <;> (rw [k] at hg';cases hg')
  ·cases k
 ·rcases x.conc i _ hg with k | k | ⟨v,_,k⟩
  ·rw [k,hg]
  ·rcases h with ⟨g',hg'⟩ | ⟨v',hg'⟩ <;> (rw [k] at hg';cases hg')
  ·rcases h with ⟨g',hg'⟩ | ⟨v',hg'⟩ <;> (rw [k] at hg';cases hg')
theorem Z8rb (H:CtxOk P C) {c:Code} {p:Plan} {s:Summ} (hok:s.ok=true) (hp:Zjg P C p c) (hev:∀x y,s.f x=some y→V C p c (mk s.ish s.n x) (fun e st'=>Zhl e st' s.outs)=some y):Z61 P c s:=by
 intro X ρ x y a w hf h hbox hnone Q hq
 refine Zqr H c hp h (hev x y hf) Q ?_
 intro e ρ1 st1 a1 w1 k1 k2 k3 k4 k5
 exact Zpdb hok hbox hq k2 k4 k1 k3.ext0 (fun i hi hb=>Zecb (hbox i hi) k3 hb) k5
theorem Zv4 {p:Nat→Prop}:∀(n:Nat),p n→∃k,p k∧∀j,j<k→¬p j:=by
 intro n
 induction n using Nat.strongRecOn with
 | _ n ih=>
  intro hn
  by_cases h:∃j,j<n∧p j
  ·obtain ⟨j,hj,hp⟩:=h
   exact ih j hj hp
  ·exact ⟨n,hn,fun j hj hp=>h ⟨j,hj,hp⟩⟩
open Classical in
theorem sum_loop (H:CtxOk P C) {c:Code} {p:Plan} {s:Summ} {F:Nat→Zpb s.ish.tys→Option (Zuh s.outs)} (hok:s.ok=true) (hp:Zjg P C p c) (h0:∀x,F 0 x=none)
  (hev:∀k x y,F (k+1) x=some y→V C p c (mk s.ish s.n x) (fun e st'=>match e with
   | .nrm=>(rd s.ish st').bind (F k)
   | e=>Zhl e st' s.outs)=some y) (k:Nat) (hsf:s.f=F k):Z61 P (.loop c) s:=by
 intro X ρ0 x0 y a0 w0 hf0 hrel0 hbox hnone Q hq
 rw [hsf] at hf0
 have hsh:Zrn s.ish=true:=by
  unfold Summ.ok at hok;exact ((Yb _ _).mp hok).1
 let J:Nat→Act→World→Prop:=fun k a w=>∃x ρ,F k x=some y∧Rel X ρ (mk s.ish s.n x) a w∧Ext0 ρ0 w0 ρ w∧(∀i∈Zvb s.ish.slots,ρ i=ρ0 i)∧Zpf (Zjd c) a0 a
 let μ:Act→World→Nat:=fun a w=>if h:∃k,J k a w then Classical.choose (Zv4 (p:=fun k=>J k a w) (Classical.choose h) (Classical.choose_spec h)) else 0
 have hμ:∀a w,(∃k,J k a w)→J (μ a w) a w∧∀j,J j a w→μ a w≤j:=by
  intro a w h
  have e:μ a w=Classical.choose (Zv4 (p:=fun k=>J k a w) (Classical.choose h) (Classical.choose_spec h)):=by
   show (if h:∃k,J k a w then _ else 0)=_;rw [dif_pos h]
  have sp:=Classical.choose_spec (Zv4 (p:=fun k=>J k a w) (Classical.choose h) (Classical.choose_spec h));rw [e];exact ⟨sp.1,fun j hj=>Nat.le_of_not_lt fun hlt=>sp.2 j hlt hj⟩
 refine wp_loop (fun a w=>∃k,J k a w) μ ⟨k,x0,ρ0,hf0,hrel0,Ext0.refl _ _,fun _ _=>rfl,Zpf.refl _ _⟩ ?_
 intro a w hI
 obtain ⟨hJ,hmin⟩:=hμ a w hI
 generalize hk:μ a w=k1 at hJ
 obtain ⟨x,ρ,hfx,hrel,hx,hb,hs⟩:=hJ
 cases k1 with
 | zero=>rw [h0] at hfx;cases hfx
 | succ k1=>
  refine Zqr H c hp hrel (hev k1 x y hfx) _ ?_;intro e ρ1 st1 a1 w1 m1 m2 m3 m4 m5
  have hbk:∀i∈Zvb s.ish.slots,Zep (ρ1 i)→ρ1 i=ρ0 i:=fun i hi hg=>by
   rw [← hb i hi];exact Zecb (by rw [hb i hi];exact hbox i hi) m3 hg
  have other:∀e,(Zhl e st1 s.outs=some y)→Q (Z0v e) a1 w1:=fun e hr=>Zpdb (c:=.loop c) hok hbox hq m2 m4 hr (hx.trans m3.ext0) hbk (hs.trans m5)
  cases e with
  | nrm=>
   cases hrd:rd s.ish st1 with
   | none=>rw [hrd] at m1;cases m1
   | some x'=>
    rw [hrd] at m1;have m1:F k1 x'=some y:=m1;obtain ⟨ρ',q1,q2,q3,q4,q5⟩:=Zdeb m2 hsh hrd;rw [m4] at q1;have hJ':J k1 a1 w1:=⟨x',ρ',m1,q1,(hx.trans m3.ext0).less q5,fun i hi=>by rw [q2 i hi];exact hbk i hi (q3 i hi),hs.trans m5⟩;refine ⟨⟨k1,hJ'⟩,?_⟩;have:=(hμ a1 w1 ⟨k1,hJ'⟩).2 k1 hJ';omega
  | exit j=>exact other (.exit j) m1
  | ret=>exact other .ret m1
end
section
variable {P:Program} {X X':Nat→Prop} {ρ ρ':Rho} {st st':St} {a:Act} {w w':World} {R:Type} {r:R} {C:Ctx} {m:List (Nat×Nat)} {sh:Shape}
theorem Zfhb (C:Ctx) (s:Summ) (c:Code) (st:St) (K:Ex→St→Option R):V C (.sum s) c st K=(bif Ztw st&&Ya st.n s.n&&(Yp st.nb s.ish.nb&&(Zcm s.ish (Zgk st (Zcm s.ish st))).isEmpty) then match rd s.ish (Zgk st (Zcm s.ish st)) with
   | some x=>(s.f x).bind fun y=>Zdu (Zjd c) (Zwx s.ish (Zgk st (Zcm s.ish st))) (Zgk st (Zcm s.ish st)) K s.outs y
   | none=>none
  else none):=by
 cases c <;> rfl
theorem Zjbb:∀(os:List Nat) {ρ:Rho} {st:St},Rel X ρ st a w→∃ρ1,Rel X ρ1 (Zgk st os) a w∧Ext ρ w ρ1 w∧(Zgk st os).n=st.n∧(Zgk st os).nb=st.nb∧(Zgk st os).lim=st.lim∧(Zgk st os).res=st.res
 | [],ρ,st,h=>⟨ρ,h,Ext.refl _ _,rfl,rfl,rfl,rfl⟩
 | o::os,ρ,st,h=>by
  have one:∃ρ1,Rel X ρ1 (Z9r st o) a w∧Ext ρ w ρ1 w∧(Z9r st o).n=st.n∧(Z9r st o).nb=st.nb∧(Z9r st o).lim=st.lim∧(Z9r st o).res=st.res:=by
   unfold Z9r;split
   ·rename_i z e t l he
    cases hm:Z0 e with
    | true=>exact ⟨ρ,h,Ext.refl _ _,rfl,rfl,rfl,rfl⟩
    | false=>
    obtain ⟨u,hu,h1,h2,_⟩:=h.freeze he hm;exact ⟨_,h1,h2,rfl,rfl,rfl,rfl⟩
   ·exact ⟨ρ,h,Ext.refl _ _,rfl,rfl,rfl,rfl⟩
  obtain ⟨ρ1,h1,e1,n1,b1,l1,r1⟩:=one;obtain ⟨ρ2,h2,e2,n2,b2,l2,r2⟩:=Zjbb os h1;exact ⟨ρ2,h2,e1.trans e2,n2.trans n1,b2.trans b1,l2.trans l1,r2.trans r1⟩
theorem Z3z:∀(ks:List (Nat×TK)) (ds:List DV) (ts:List AV),(Zzh ks ds ts).2=(Zzh ks ds []).2∧∀j,Zz .unk (Zzh ks ds ts).1 j=if j∈ks.map (·.1) then Zz .unk (Zzh ks ds []).1 j else Zz .unk ts j
 | [],ds,ts=>⟨rfl,fun j=>by simp [Zzh]⟩
 | (i,k)::ks,ds,ts=>by
  obtain ⟨a1,a2⟩:=Z3z ks (mkT k ds).2 (Z7c .unk ts i (mkT k ds).1);obtain ⟨b1,b2⟩:=Z3z ks (mkT k ds).2 (Z7c .unk [] i (mkT k ds).1);refine ⟨a1.trans b1.symm,fun j=>?_⟩;show Zz .unk (Zzh ks (mkT k ds).2 (Z7c .unk ts i (mkT k ds).1)).1 j=if j∈i::ks.map (·.1) then Zz .unk (Zzh ks (mkT k ds).2 (Z7c .unk [] i (mkT k ds).1)).1 j else Zz .unk ts j
  rw [a2 j,b2 j,Zlh,Zlh]
  by_cases h1:j∈ks.map (·.1)
  ·rw [Xc h1,Xc (Ye _ h1),Xc h1]
  ·rw [Xd h1]
   by_cases h2:i=j
   ·subst h2
    rw [Xc rfl,Xc Yf,Xd h1,Xc rfl]
   ·rw [Xd h2,Xd (fun hm=>by
     rcases Yc.1 hm with e | hm
     ·exact h2 e.symm
     ·exact h1 hm)]
theorem Zj5:∀(ss:List (Nat×BK)) (ds:List DV) (hs:List Ent),∀j,Zz .free (Zel ss ds hs) j=if j∈ss.map (·.1) then Zz .free (Zel ss ds []) j else Zz .free hs j
 | [],ds,hs,j=>by simp [Zel]
 | (i,k)::ss,ds,hs,j=>by
  show Zz .free (Zel ss (mkB k ds).2 (Z7c .free hs i (mkB k ds).1)) j=if j∈i::ss.map (·.1) then Zz .free (Zel ss (mkB k ds).2 (Z7c .free [] i (mkB k ds).1)) j else Zz .free hs j
  rw [Zj5 ss _ _ j,Zj5 ss _ (Z7c .free [] i _) j,Zlh,Zlh]
  by_cases h1:j∈ss.map (·.1)
  ·rw [Xc h1,Xc (Ye _ h1),Xc h1]
  ·rw [Xd h1]
   by_cases h2:i=j
   ·subst h2
    rw [Xc rfl,Xc Yf,Xd h1,Xc rfl]
   ·rw [Xd h2,Xd (fun hm=>by
     rcases Yc.1 hm with e | hm
     ·exact h2 e.symm
     ·exact h1 hm)]
theorem Zpab:∀(ds:List Nat) (ts:List AV) (j:Nat),Zz .unk (Zkt ds ts) j=if j∈ds then .unk else Zz .unk ts j
 | [],ts,j=>by simp [Zkt]
 | d::ds,ts,j=>by
  show Zz .unk (Zkt ds (Z7c .unk ts d .unk)) j=_;rw [Zpab ds,Zlh]
  by_cases h1:j∈ds
  ·rw [Xc h1,Xc (Ye _ h1)]
  ·rw [Xd h1]
   by_cases h2:d=j
   ·subst h2;rw [Xc rfl,Xc Yf]
   ·rw [Xd h2,Xd (fun hm=>by
     rcases Yc.1 hm with e | hm
     ·exact h2 e.symm
     ·exact h1 hm)]
theorem Zoab:∀(ds:List Nat) (hs:List Ent) (j:Nat),Zz .free (Zyv ds hs) j=if j∈ds then .free else Zz .free hs j
 | [],hs,j=>by simp [Zyv]
 | d::ds,hs,j=>by
  show Zz .free (Zyv ds (Z7c .free hs d .free)) j=_;rw [Zoab ds,Zlh]
  by_cases h1:j∈ds
  ·rw [Xc h1,Xc (Ye _ h1)]
  ·rw [Xd h1]
   by_cases h2:d=j
   ·subst h2;rw [Xc rfl,Xc Yf]
   ·rw [Xd h2,Xd (fun hm=>by
     rcases Yc.1 hm with e | hm
     ·exact h2 e.symm
     ·exact h1 hm)]
def Leaf.nb:Leaf→Prop
 | .bor _ _=>False
 | .rp _ _=>False
 | _=>True
def AV.nb:AV→Prop
 | .one x=>x.nb
 | .agg xs=>∀x∈xs,x.nb
 | .tup xs=>∀p∈xs,∀x∈p.2,x.nb
 | .eptr _=>False
 | .full _ _=>False
 | .fn _ xs=>∀x∈xs,x.nb
 | _=>True
def Ent.nb:Ent→Prop
 | .box _ xs=>∀x∈xs,x.nb
 | _=>True
theorem Zm5:∀(t:Ty) (x:t.T),∀y∈Z2 t x,y.nb
 | .int _,_,y,h=>by rw [Yn.1 h];trivial
 | .bool,_,y,h=>by rw [Yn.1 h];trivial
 | .str,_,y,h=>by rw [Yn.1 h];trivial
 | .sl _,_,y,h=>by rw [Yn.1 h];trivial
 | .pair a b,x,y,h=>(Ym.1 h).elim (Zm5 a x.1 y) (Zm5 b x.2 y)
 | .unit,_,y,h=>nomatch h
theorem Z4nb {xs:List Leaf} (h:∀y∈xs,y.nb):(Zrw xs).nb:=by
 unfold Zrw
 split
 ·exact h _ Yf
 ·trivial
theorem Z9cb {k:LK} (h:k.nb=true) (ds:List DV):(Zpo k ds).1.nb:=by
 cases k with
 | v t=>cases ds with
  | nil=>trivial
  | cons d ds=>exact Z4nb (Zm5 d.1 d.2)
 | bor t=>cases h
 | rp t=>cases h
 | _=>trivial
theorem Z4z:∀{ks:List LK} (h:ks.all LK.nb=true) (ds:List DV),∀x∈(Zsj ks ds).1,x.nb
 | [],_,_,x,hx=>nomatch hx
 | k::ks,h,ds,x,hx=>by
  obtain ⟨h1,h2⟩:=(Yb _ _).mp (show (k.nb&&ks.all LK.nb)=true from h);rcases Yc.1 hx with rfl | hx
  ·exact Z9cb h1 ds
  ·exact Z4z h2 _ x hx
theorem Z3nb {k:TK} (h:k.nb=true) (ds:List DV):(mkT k ds).1.nb:=by
 cases k with
 | one k=>exact Z9cb h ds
 | agg ks=>exact Z4z h ds
 | eptr ks=>cases h
 | fn f ks=>exact Z4z h ds
theorem Zadb:∀{ks:List (Nat×TK)} (h:(ks.all fun p=>p.2.nb)=true) (ds:List DV) (ts:List AV),(∀j,(Zz .unk ts j).nb)→∀j,(Zz .unk (Zzh ks ds ts).1 j).nb
 | [],_,ds,ts,ht,j=>ht j
 | (i,k)::ks,h,ds,ts,ht,j=>by
  obtain ⟨h1,h2⟩:=(Yb _ _).mp (show (k.nb&&ks.all fun p=>p.2.nb)=true from h);refine Zadb h2 _ _ (fun j=>?_) j;rw [Zlh];split
  ·exact Z3nb h1 ds
  ·exact ht j
theorem Z2nb {k:BK} (h:k.nb=true) (ds:List DV):(mkB k ds).1.nb:=by
 cases k with
 | box t ks=>exact Z4z h ds
 | arr z e t=>cases ds with
  | nil=>trivial
  | cons d ds=>
   show (Znn z e t d).nb;unfold Znn;split
   ·split <;> trivial
   ·trivial
 | pin e t=>cases ds with
  | nil=>trivial
  | cons d ds=>
   show (Znn false e t d).nb;unfold Znn;split
   ·split <;> trivial
   ·trivial
theorem Z8cb:∀{ks:List (Nat×BK)} (h:(ks.all fun p=>p.2.nb)=true) (ds:List DV) (hs:List Ent),(∀j,(Zz .free hs j).nb)→∀j,(Zz .free (Zel ks ds hs) j).nb
 | [],_,ds,hs,ht,j=>ht j
 | (i,k)::ks,h,ds,hs,ht,j=>by
  obtain ⟨h1,h2⟩:=(Yb _ _).mp (show (k.nb&&ks.all fun p=>p.2.nb)=true from h);refine Z8cb h2 _ _ (fun j=>?_) j;rw [Zlh];split
  ·exact Z2nb h1 ds
  ·exact ht j
theorem Zlb.conv (hρ:∀n c,ρ n=some c→ρ' n=some c) (hF:∀b,Fix X ρ w b→Fix X' ρ' w b) {x:Leaf} {v:Value} (hb:x.nb) (h:Zlb X ρ w x v):Zlb X' ρ' w x v:=by
 cases x with
 | list r l=>exact Rep.move (fun b hb=>⟨rfl,hF b hb⟩) h
 | bor r l=>exact hb.elim
 | rp t y=>exact hb.elim
 | own n=>
  refine ⟨h.1,?_⟩;have h2:=h.2;cases hn:ρ n with
  | none=>rw [hn] at h2;exact h2.elim
  | some c=>rw [hn] at h2;rw [hρ n c hn];exact h2
 | ptr b off=>
  refine ⟨h.1,?_⟩;have h2:=h.2;cases hn:ρ b with
  | none=>rw [hn] at h2;exact h2.elim
  | some c=>rw [hn] at h2;rw [hρ b c hn];exact h2
 | _=>exact h
theorem Zq.conv (hρ:∀n c,ρ n=some c→ρ' n=some c) (hF:∀b,Fix X ρ w b→Fix X' ρ' w b):∀{xs:List Leaf} {vs:List Value},(∀x∈xs,x.nb)→Zq X ρ w xs vs→Zq X' ρ' w xs vs
 | [],[],_,_=>trivial
 | x::_,_::_,hb,h=>⟨h.1.conv hρ hF (hb x Yf),Zq.conv hρ hF (fun y hy=>hb y (Ye _ hy)) h.2⟩
 | [],_::_,_,h=>h.elim
 | _::_,[],_,h=>h.elim
theorem Zwl.conv (hρ:∀n c,ρ n=some c→ρ' n=some c) (hF:∀b,Fix X ρ w b→Fix X' ρ' w b):∀{xs:List (Bool×List Leaf)} {vs:List Value},(∀p∈xs,∀x∈p.2,x.nb)→Zwl X ρ w xs vs→Zwl X' ρ' w xs vs
 | [],[],_,_=>trivial
 | x::_,_::_,hb,h=>by
  refine ⟨?_,Zwl.conv hρ hF (fun y hy=>hb y (Ye _ hy)) h.2⟩;have hb1:=hb x Yf;have h1:=h.1;unfold Ztm at h1 ⊢;split
  ·rename_i hx
   rw [Xc hx] at h1;obtain ⟨cs,rfl,h1⟩:=h1;exact ⟨cs,rfl,h1.conv hρ hF hb1⟩
  ·rename_i hx
   rw [Xd hx] at h1;exact h1.conv hρ hF hb1
 | [],_::_,_,h=>h.elim
 | _::_,[],_,h=>h.elim
theorem Z4.conv (hρ:∀n c,ρ n=some c→ρ' n=some c) (hF:∀b,Fix X ρ w b→Fix X' ρ' w b) {x:AV} {v:Value} (hb:x.nb) (h:Z4 X ρ w x v):Z4 X' ρ' w x v:=by
 cases x with
 | unk=>trivial
 | undef=>exact h
 | one x=>exact Zlb.conv hρ hF hb h
 | agg xs=>obtain ⟨cs,rfl,h⟩:=h;exact ⟨cs,rfl,h.conv hρ hF hb⟩
 | tup xs=>obtain ⟨cs,rfl,h⟩:=h;exact ⟨cs,rfl,h.conv hρ hF hb⟩
 | eptr xs=>exact hb.elim
 | full r l=>exact hb.elim
 | aptr n i z off=>
  have h:Zsm (ρ n) i z off v:=h;show Zsm (ρ' n) i z off v;cases hn:ρ n with
  | none=>rw [hn] at h;exact h.elim
  | some c=>rw [hn] at h;rw [hρ n c hn];exact h
 | dptr n j=>
  have h:Zcp (ρ n) j v:=h;show Zcp (ρ' n) j v;cases hn:ρ n with
  | none=>rw [hn] at h;exact h.elim
  | some c=>rw [hn] at h;rw [hρ n c hn];exact h
 | tl n i z=>
  have h:Z7n (ρ n) i z v:=h;show Z7n (ρ' n) i z v;cases hn:ρ n with
  | none=>rw [hn] at h;exact h.elim
  | some c=>rw [hn] at h;rw [hρ n c hn];exact h
 | fn f xs=>obtain ⟨cs,rfl,h⟩:=h;exact ⟨cs,rfl,h.conv hρ hF hb⟩
 | gd t b x=>exact h.elim
theorem Zid.conv (hρ:∀n c,ρ n=some c→ρ' n=some c) (hF:∀b,Fix X ρ w b→Fix X' ρ' w b) {e:Ent} {c:Option Conc} (hb:e.nb) (h:Zid X ρ w e c):Zid X' ρ' w e c:=by
 cases e with
 | free=>trivial
 | box t xs=>obtain ⟨g,cs,fr,h0,h1,h2,h3⟩:=h;exact ⟨g,cs,fr,h0,h1,h2,h3.conv hρ hF hb⟩
 | arr z e t l=>obtain ⟨v,h0,h1⟩:=h;exact ⟨v,h0,h1.mono hF⟩
 | frz t l=>obtain ⟨v,h0,h1⟩:=h;exact ⟨v,h0,Rep.move (fun b hb=>⟨rfl,hF b hb⟩) h1⟩
theorem Zodb {ds us:List Nat} {K:Ex→St→Option R}:∀{os:List (Ex×Shape)} {y:Zuh os} {Q:Ex→(sh:Shape)→Zpb sh.tys→Prop},Zdu ds us st K os y=some r→(∀o∈os,∀y',K o.1 (Znv ds us o.2 st y')=some r→Q o.1 o.2 y')→Z8u os y Q
 | [],y,Q,h,_=>nomatch y
 | [o],y,Q,h,k=>k o Yf y h
 | o::o'::os,.inl y,Q,h,k=>k o Yf y h
 | o::o'::os,.inr y,Q,h,k=>Zodb (os:=o'::os) h fun p hp=>k p (Ye _ hp)
theorem Zdgb {c:Code} {s:Summ} (hok:s.ok=true) (h:Z61 P c s):Zl P C c s:=by
 intro R X ρ st a w K r hrel hr
 rw [Zfhb] at hr
 cases hc:(Ztw st&&Ya st.n s.n&&(Yp st.nb s.ish.nb&&(Zcm s.ish (Zgk st (Zcm s.ish st))).isEmpty)) with
 | false=>rw [hc] at hr;cases hr
 | true=>
  rw [hc] at hr;obtain ⟨c01,c2⟩:=(Yb _ _).mp hc;obtain ⟨c0,c1⟩:=(Yb _ _).mp c01;obtain ⟨c0a,c0b⟩:=(Yb _ _).mp c0;have c0a:=Yd c0a
  have c0b:st.res=[]:=by
   cases hres:st.res with
   | nil=>rfl
   | cons _ _=>rw [hres] at c0b;cases c0b
  obtain ⟨c2,_⟩:=(Yb _ _).mp c2;have c1:=Yd c1;have c2:=Yj c2;obtain ⟨ρ1,h1,e1,n1,b1,l1,q1⟩:=Zjbb (Zcm s.ish st) hrel;generalize hst1:Zgk st (Zcm s.ish st)=st1 at hr h1 n1 b1 l1 q1
  replace hr:(match rd s.ish st1 with
   | some x=>(s.f x).bind fun y=>Zdu (Zjd c) (Zwx s.ish st1) st1 K s.outs y
   | none=>none)=some r:=hr
  split at hr
  ·rename_i x hx
   obtain ⟨ds,m,hrd,hp⟩:=Zeeb hx
   have hus:Zwx s.ish st1=Zvb s.ish.slots++m.map (·.2):=by
    unfold Zwx;rw [hrd]
   rw [hus] at hr;generalize hu:Zvb s.ish.slots++m.map (·.2)=us at hr;cases hf:s.f x with
   | none=>rw [hf] at hr;cases hr
   | some y=>
    rw [hf] at hr;replace hr:Zdu (Zjd c) us st1 K s.outs y=some r:=hr
    have hish:Zrn s.ish=true:=by
     unfold Summ.ok at hok;exact ((Yb _ _).mp hok).1
    let X':Nat→Prop:=fun b=>X b∨∃j,j∉us∧owns (ρ1 j) b
    obtain ⟨ρi,k1,k2,k3,k4⟩:=Zfeb (X':=X') h1 hish hrd hp (fun b hb=>.inl hb) (fun b hb=>by
     rcases hb with hb | ⟨j,_,hb⟩
     ·exact h1.xlt b hb
     ·exact (h1.lt j b hb).1) (fun b hb=>by
     rcases hb with hb | ⟨j,hj,hb⟩
     ·exact .inl hb
     ·exact .inr ⟨j,by rw [hu];exact hj,hb⟩)
    rw [hu] at k4;have hb1:=Zceb h1 hrd;rw [n1,c1] at k1;intro Q hq;refine h X' ρi x y a w hf k1 (fun i hi=>by rw [k2 i hi];exact hb1 i hi) k3 Q (Zodb hr ?_);intro o ho y' hK ρ' a' w' m1 m2 m3 m4 m5
    have hoo:Z05 s.ish o.2=true∧Zrn o.2=true:=by
     unfold Summ.ok at hok;exact (Yb _ _).mp (Yg.1 ((Yb _ _).mp hok).2 o ho)
    obtain ⟨hoo1,hoo2⟩:=hoo
    have hsm:∀i∈o.2.slots.map (·.1),i<1000000:=fun i hi=>by
     unfold Zrn at hoo2;simp only [Yb] at hoo2;obtain ⟨p,hp,rfl⟩:=Yk.1 hi;have:=Yg.1 hoo2.1.1.2 p hp;obtain ⟨t1,t2⟩:=(Yb _ _).mp this;exact Yj t2
    unfold Z05 at hoo1;simp only [Yb] at hoo1;obtain ⟨⟨⟨⟨⟨nb1,nb2⟩,o1⟩,o2⟩,o3⟩,o4⟩:=hoo1;have o3:=Yj o3
    let ids:=o.2.slots.map (·.1)
    have hids:∀i∈ids,(i∈Zvb s.ish.slots∧i∈Zvb o.2.slots)∨s.ish.nb≤i:=fun i hi=>by
     obtain ⟨p,hp,rfl⟩:=Yk.1 hi;have:=Yg.1 o1 p hp;obtain ⟨pi,pk⟩:=p;rcases (Yw _ _).mp this with h | h
     ·cases pk with
      | box t ks=>exact .inl ⟨Zfv h,Zkw hp⟩
      | pin e t=>exact .inl ⟨Zfv h,Zlw hp⟩
      | arr z e t=>cases h
     ·exact .inr (Yj h)
    have hidlt:∀i∈ids,i<o.2.nb:=fun i hi=>by
     obtain ⟨p,hp,rfl⟩:=Yk.1 hi;exact Yj (Yg.1 o2 p hp)
    let ρ2:Rho:=fun i=>if i∈ids then ρ' i else if i∈us then (ρ1 i).map (fun _=>.dead) else ρ1 i
    have q1:∀i∈ids,ρ2 i=ρ' i:=fun i hi=>by
     show (if i∈ids then ρ' i else _)=_;rw [Xc hi]
    have q2:∀i,i∉ids→i∈us→ρ2 i=(ρ1 i).map (fun _=>.dead):=fun i hi hi2=>by
     show (if i∈ids then ρ' i else if i∈us then _ else _)=_;rw [Xd hi,Xc hi2]
    have q3:∀i,i∉ids→i∉us→ρ2 i=ρ1 i:=fun i hi hi2=>by
     show (if i∈ids then ρ' i else if i∈us then _ else _)=_;rw [Xd hi,Xd hi2]
    have fresh1:∀i,st1.nb≤i→i<1000000→ρ1 i=none:=fun i hge hlt=>h1.fresh.1 i (.inl ⟨hge,by rw [l1,c0a];exact hlt⟩)
    have old:∀i c,i<1000000→ρ1 i=some c→i<s.ish.nb:=fun i c hm hc=>by
     rcases Yba i st1.nb with hlt | hge
     ·omega
     ·rw [fresh1 i hge hm] at hc;cases hc
    have own2:∀i b,owns (ρ2 i) b→(i∈ids∧owns (ρ' i) b)∨(i∉us∧i∉ids∧owns (ρ1 i) b):=fun i b hb=>by
     by_cases hi:i∈ids
     ·rw [q1 i hi] at hb;exact .inl ⟨hi,hb⟩
     ·by_cases hi2:i∈us
      ·rw [q2 i hi hi2] at hb
       cases hρ:ρ1 i with
       | none=>rw [hρ] at hb;exact hb.elim
       | some c=>rw [hρ] at hb;exact hb.elim
      ·rw [q3 i hi hi2] at hb;exact .inr ⟨hi2,hi,hb⟩
    have x2:Ext ρ1 w ρ2 w':=by
     refine ⟨m2.os,m2.tape,m2.output,m2.size,?_,?_,?_⟩
     ·intro b hb hn
      refine m2.keep b hb fun i hi=>?_
      obtain ⟨j,_,hj⟩:=k4 i b hi;exact hn j hj
     ·intro i b hi
      rcases own2 i b hi with ⟨_,hb⟩ | ⟨_,_,hb⟩
      ·rcases m2.own i b hb with ⟨j,hj⟩ | hj
       ·obtain ⟨j',_,hj'⟩:=k4 j b hj
        exact .inl ⟨j',hj'⟩
       ·exact .inr hj
      ·exact .inl ⟨i,hb⟩
     ·intro i c hc
      by_cases hi:i∈ids
      ·have hlt:=old i c (hsm i hi) hc
       rcases hids i hi with ⟨hb,hb2⟩ | hge
       ·rw [q1 i hi,m3 i hb2 hb,k2 i hb]
        exact .inl hc
       ·omega
      ·by_cases hi2:i∈us
       ·rw [q2 i hi hi2,hc]
        exact .inr (.inl rfl)
       ·rw [q3 i hi hi2]
        exact .inl hc
    have hρ2:∀n c,ρ' n=some c→ρ2 n=some c:=fun n c hc=>by
     by_cases hi:n∈ids
     ·rw [q1 n hi];exact hc
     ·rw [m4 n hi] at hc;cases hc
    have hF:∀b,Fix X' ρ' w' b→Fix X ρ2 w' b:=fun b hb=>by
     refine ⟨hb.1,fun hx=>hb.2.1 (.inl hx),fun i hi=>?_⟩;rcases own2 i b hi with ⟨_,hi'⟩ | ⟨hn,_,hi'⟩
     ·exact hb.2.2 i hi'
     ·exact hb.2.1 (.inr ⟨i,hn,hi'⟩)
    have hkeep:∀j b,j∉us→owns (ρ1 j) b→w'.heap[b]? = w.heap[b]? :=fun j b hj hb=>by
     refine m2.keep b (h1.lt j b hb).1 fun i hi=>?_
     obtain ⟨j',hj',hb'⟩:=k4 i b hi;have:=h1.sep j j' b hb hb';subst this;exact hj hj'
    have hrel2:Rel X ρ2 (Znv (Zjd c) us o.2 st1 y') a' w':=by
     have hn2:(mk o.2 s.n y').n=s.n:=rfl
     refine ⟨m1.defers,?_,?_,?_,?_,?_,(fun _ _ _ _ hm=>nomatch hm),?_,fun b hb=>m1.xlt b (.inl hb),⟨m1.gl.1,fun n hn i hi=>by
      rcases own2 i n hi with ⟨_,hb⟩ | ⟨_,_,hb⟩
      ·exact m1.gl.2 n hn i hb
      ·exact h1.gl.2 n hn i hb⟩⟩
     ·show a'.tmps.size=st1.n
      rw [m1.size,hn2,n1,c1]
     ·intro i j b hi hj
      rcases own2 i b hi with ⟨hi1,hi2⟩ | ⟨hi1,hi3,hi2⟩ <;> rcases own2 j b hj with ⟨hj1,hj2⟩ | ⟨hj1,hj3,hj2⟩
      ·exact m1.sep i j b hi2 hj2
      ·exact absurd (.inr ⟨j,hj1,hj2⟩) (m1.lt i b hi2).2
      ·exact absurd (.inr ⟨i,hi1,hi2⟩) (m1.lt j b hj2).2
      ·exact h1.sep i j b hi2 hj2
     ·intro i b hi
      rcases own2 i b hi with ⟨_,hb⟩ | ⟨_,_,hb⟩
      ·exact ⟨(m1.lt i b hb).1,fun hx=>(m1.lt i b hb).2 (.inl hx)⟩
      ·exact ⟨Yaa (h1.lt i b hb).1 x2.size,(h1.lt i b hb).2⟩
     ·intro i
      have he:(Znv (Zjd c) us o.2 st1 y').ent i=if i∈ids then (mk o.2 s.n y').ent i else if i∈us then .free else st1.ent i:=by
       show Zz .free (Zel o.2.slots (Zzh o.2.tmps (Z1h o.2.tys y') (Zkt (Zjd c) st1.tmps)).2 (Zyv us st1.heap)) i=_;rw [Zj5,Zoab,(Z3z o.2.tmps _ _).1];rfl
      rw [he]
      by_cases hi:i∈ids
      ·rw [Xc hi,q1 i hi]
       exact (m1.ents i).conv hρ2 hF (Z8cb nb2 _ _ (fun j=>by rw [Zst];trivial) i)
      ·rw [Xd hi]
       by_cases hi2:i∈us
       ·rw [Xc hi2];trivial
       ·rw [Xd hi2]
        exact Zid.ext (h1.ents i) x2 (q3 i hi hi2) (fun b hb=>hkeep i b hi2 hb)
     ·intro j
      show Z4 X ρ2 w' (Zz .unk (Zzh o.2.tmps (Z1h o.2.tys y') (Zkt (Zjd c) st1.tmps)).1 j) (Z1 a' j);rw [(Z3z o.2.tmps _ _).2 j,Zpab]
      by_cases hj:j∈o.2.tmps.map (·.1)
      ·rw [Xc hj]
       exact Z4.conv hρ2 hF (Zadb nb1 _ _ (fun j=>by rw [Zst];trivial) j) (m1.tmps j)
      ·rw [Xd hj]
       by_cases hj2:j∈Zjd c
       ·rw [Xc hj2];trivial
       ·rw [Xd hj2,m5 j hj2]
        exact (h1.tmps j).ext x2
     ·refine ⟨fun i hi=>?_,fun p hp=>nomatch hp⟩
      rcases hi with ⟨hi,hi9⟩ | ⟨p,hp,_⟩
      rotate_left
      ·cases hp
      have hi:o.2.nb≤i:=hi;have hi9:i<1000000:=hi9;have hni:i∉ids:=fun hm=>by have:=hidlt i hm;omega
      have hρ:ρ1 i=none:=fresh1 i (by omega) hi9
      by_cases hi2:i∈us
      ·rw [q2 i hni hi2,hρ];rfl
      ·rw [q3 i hni hi2,hρ]
    exact hq o.1 ρ2 _ a' w' hK hrel2 (e1.trans x2) n1 m5
  ·cases hr
end
end Go.Proofs.Qz
namespace Go.Proofs.Qz
open Go
set_option linter.unusedVariables false
def cL:Code→Code
 | .seq a _=>a
 | .cond _ a _=>a
 | c=>c
def cR:Code→Code
 | .seq _ b=>b
 | .cond _ _ b=>b
 | c=>c
def cO:Code→Code
 | .block _ a=>a
 | .loop a=>a
 | c=>c
def cB (f:Func):Code:=f.body.getD .skip
def Z4m:List (Nat×Con)→FuncId→List Con
 | [],_=>[]
 | p::ps,f=>bif Ya p.1 f then p.2::Z4m ps f else Z4m ps f
def Zbp (P:Program):List (Nat×Con)→Prop
 | []=>True
 | p::ps=>Ze P p.1 p.2∧Zbp P ps
theorem Za3 {P:Program}:∀{L:List (Nat×Con)},Zbp P L→Z01 P (Z4m L)
 | [],_,f,c,hc=>nomatch hc
 | p::ps,h,f,c,hc=>by
  unfold Z4m at hc;cases hf:Ya p.1 f with
  | false=>rw [hf] at hc;exact Za3 h.2 f c hc
  | true=>
   rw [hf] at hc;obtain rfl:=Yd hf;rcases Yc.1 hc with rfl | hc
   ·exact h.1
   ·exact Za3 h.2 p.1 c hc
theorem Zuv {P:Program} {ti:Tab TI} {L:List (Nat×Con)} {rob tl:Bool} (T:Zob P ti∧P.follows .mixedOrders=true) (h:Zbp P L):CtxOk P { ti:=ti,con:=Z4m L,rob:=rob,tl:=tl }:=⟨T.1,Za3 h,T.2⟩
def Z2e (p:Plan) (c:Code):List (Summ×Code):=match p with
 | .sum s=>[(s,c)]
 | p=>match c with
  | .seq a b=>Z2e p.l a++Z2e p.r b
  | .cond _ a b=>Z2e p.l a++Z2e p.r b
  | .block _ a=>Z2e p.o a
  | _=>[]
def Zvl (P:Program) (C:Ctx):List (Summ×Code)→Prop
 | []=>True
 | p::ps=>Zl P C p.2 p.1∧Zvl P C ps
theorem Zvl.mem {P:Program} {C:Ctx}:∀{L:List (Summ×Code)},Zvl P C L→∀p∈L,Zl P C p.2 p.1
 | [],_,p,hp=>nomatch hp
 | q::L,h,p,hp=>by
  rcases Yc.1 hp with rfl | hp
  ·exact h.1
  ·exact Zvl.mem h.2 p hp
theorem Zuob {P:Program} {C:Ctx}:∀{c:Code} {p:Plan},(∀q∈Z2e p c,Zl P C q.2 q.1)→Zjg P C p c:=by
 intro c
 induction c with
 | seq a b iha ihb=>
  intro p h
  by_cases hs:∃s,p = .sum s
  ·obtain ⟨s,rfl⟩:=hs;exact h (s,_) Yf
  ·have e:Z2e p (.seq a b)=Z2e p.l a++Z2e p.r b:=by cases p <;> first | rfl | exact absurd ⟨_,rfl⟩ hs
   rw [e] at h;have k:Zjg P C p.l a∧Zjg P C p.r b:=⟨iha fun q hq=>h q (Yi _ hq),ihb fun q hq=>h q (Yh _ hq)⟩;cases p <;> first | exact k | exact absurd ⟨_,rfl⟩ hs
 | cond x a b iha ihb=>
  intro p h
  by_cases hs:∃s,p = .sum s
  ·obtain ⟨s,rfl⟩:=hs;exact h (s,_) Yf
  ·have e:Z2e p (.cond x a b)=Z2e p.l a++Z2e p.r b:=by cases p <;> first | rfl | exact absurd ⟨_,rfl⟩ hs
   rw [e] at h;have k:Zjg P C p.l a∧Zjg P C p.r b:=⟨iha fun q hq=>h q (Yi _ hq),ihb fun q hq=>h q (Yh _ hq)⟩;cases p <;> first | exact k | exact absurd ⟨_,rfl⟩ hs
 | block id a ih=>
  intro p h
  by_cases hs:∃s,p = .sum s
  ·obtain ⟨s,rfl⟩:=hs;exact h (s,_) Yf
  ·have e:Z2e p (.block id a)=Z2e p.o a:=by cases p <;> first | rfl | exact absurd ⟨_,rfl⟩ hs
   rw [e] at h;have k:Zjg P C p.o a:=ih fun q hq=>h q hq
   cases p <;> first | exact k | exact absurd ⟨_,rfl⟩ hs
 | _=>
  intro p h
  by_cases hs:∃s,p = .sum s
  ·obtain ⟨s,rfl⟩:=hs;exact h (s,_) Yf
  ·cases p <;> first | trivial | exact absurd ⟨_,rfl⟩ hs
theorem Zf0 {P:Program} {C:Ctx} {p:Plan} {c:Code} {L:List (Summ×Code)} (h:Z2e p c=L) (k:Zvl P C L):Zjg P C p c:=Zuob (by rw [h];exact k.mem)
def ros (t:Ty):List PL:=(Zfb t).map fun _=>.ro
def Zcc (t:Ty):List PL:=(Zfb t).map fun _=>.v
def Zqz:Leaf→Value→Bool
 | .int k n,.int k' n'=>decide (k=k')&&decide (n=n')
 | .kb b,.bool b'=>b==b'
 | .str [],.string s=>Ya s.data.toList.length 0
 | .nil,.slice none 0 0=>true
 | .unk,v=>v.oneCell'
 | _,_=>false
def Zrz:List Leaf→List Value→Bool
 | [],[]=>true
 | x::xs,v::vs=>Zqz x v&&Zrz xs vs
 | _,_=>false
def nz (P:Program) (t:TypeId):Bool:=match P.info? t with
 | some q=>!(Ya q.size 0)
 | none=>false
def Z1v (P:Program):List (Nat×TypeId)→List Field→Bool
 | [],[]=>true
 | (o,t)::os,f::fs=>Ya f.offset o&&Ya f.type t&&nz P t&&Z1v P os fs
 | _,_=>false
def Z1t (P:Program) (i:TI):TypeDesc→Bool
 | .int k=>Ya i.kind 1&&decide (k=i.ik)
 | .string=>Ya i.kind 2
 | .slice e=>Ya i.kind 3&&Ya e i.elem
 | .struct fs=>Ya i.kind 4&&Z1v P i.offs fs.toList
 | .bool=>Ya i.kind 5
 | .map _ _=>Ya i.kind 6
 | .array _ _=>Ya i.kind 7
 | _=>Ya i.kind 0
def Zh8:TypeDesc→Bool
 | .struct _=>true
 | .array _ _=>true
 | _=>false
def Zddb:Value→Bool
 | .agg _=>false
 | _=>true
def Z77 (i:TI):Option Value→Bool
 | some z=>Ya z.cells.size i.sz&&Zrz i.zero z.cells.toList&&(i.agg||Zddb z)
 | none=>false
def Zwu:Ty→Option TypeDesc→Bool
 | .int _,some (.int _)=>true
 | .bool,some .bool=>true
 | .str,some .string=>true
 | _,_=>false
def Zco (P:Program) (rec:TypeId→List Ty→Option (List Ty)):List Field→Nat→List Ty→Option (List Ty)
 | [],_,ts=>some ts
 | f::fs,o,ts=>bif !(f.name == "_")&&Ya f.offset o then match rec f.type ts with
   | some r=>bif Yl r.length ts.length&&Ya ((P.info? f.type).map (·.size) |>.getD 0) (ts.length-r.length) then Zco P rec fs (o+(ts.length-r.length)) r else none
   | none=>none
  else none
def eqC (P:Program):Nat→TypeId→List Ty→Option (List Ty)
 | 0,_,_=>none
 | n+1,t,ts=>match P.underlying t with
  | some (.int _)=>match ts with
   | .int _::r=>some r
   | _=>none
  | some .bool=>match ts with
   | .bool::r=>some r
   | _=>none
  | some .string=>match ts with
   | .str::r=>some r
   | _=>none
  | some (.struct fs)=>bif P.stoodInHeld t||Ya fs.toList.length 0 then none else Zco P (eqC P n) fs.toList 0 ts
  | _=>none
def Zo3 (P:Program) (t:TypeId) (ty:Ty):Bool:=match P.underlying t with
 | some (.struct fs)=>!(P.stoodInHeld t) && !(Ya fs.toList.length 0)&&(match Zco P (eqC P 8) fs.toList 0 (Zfb ty) with
  | some []=>true
  | _=>false)
 | _=>false
def Z5gb (P:Program) (e:TypeId):Bool:=match P.info? e with
 | some q=>match q.zero with
  | some (.bool false)=>true
  | _=>false
 | none=>false
def Z94 (P:Program):TypeDesc→Bool
 | .map k e=>(match P.underlying k with
  | some (.int .i64)=>true
  | _=>false)&&Z5gb P e
 | _=>false
def Zf2 (i:TI):TypeDesc→Bool
 | .array n e=>Ya e i.elem&&match i.offs with
  | [(m,_)]=>Ya m n
  | _=>false
 | _=>false
def Zt7 (P:Program) (t:TypeId) (i:TI):Bool:=match P.info? t,P.underlying t with
 | some q,some d=>Ya q.size i.sz&&Ya q.bytes i.bytes&&Z77 i q.zero&&(i.agg==Zh8 d)&&Z1t P i d&&(Ya i.sz 0||Yl 0 i.bytes)&&(!i.eqs||Zo3 P t i.ty)&&(!(Ya i.kind 3) || !(Z0 i.elem))&&(!(Ya i.kind 6)||Z94 P d)&&(!(Ya i.kind 7)||Zf2 i d)
 | _,_=>false
def Zlx (P:Program):Tab TI→(Nat→Nat)→Bool
 | .nil,_=>true
 | .node l v r,g=>(match v with
  | some i=>Zt7 P (g 0) i
  | none=>true)&&Zlx P l (fun m=>g (2*m+1))&&Zlx P r (fun m=>g (2*m+2))
section
variable {P:Program} {X:Nat→Prop} {ρ:Rho} {w:World}
theorem Zzmb {x:Leaf} {v:Value} (h:Zqz x v=true):Zlb X ρ w x v:=by
 unfold Zqz at h
 split at h
 ·obtain ⟨h1,h2⟩:=(Yb _ _).mp h
  rw [of_decide_eq_true h1,of_decide_eq_true h2];rfl
 ·rename_i b b'
  rw [show b=b' by simpa using h];rfl
 ·rename_i s
  have h:=Yd h;show Value.string s = .string (ba []);congr 1;apply ByteArray.ext;apply Array.ext';show s.data.toList=[];exact List.eq_nil_of_length_eq_zero h
 ·rfl
 ·exact h
 ·cases h
theorem Zrcb:∀{xs:List Leaf} {vs:List Value},Zrz xs vs=true→Zq X ρ w xs vs
 | [],[],_=>trivial
 | x::xs,v::vs,h=>by
  obtain ⟨h1,h2⟩:=(Yb _ _).mp (show (Zqz x v&&Zrz xs vs)=true from h);exact ⟨Zzmb h1,Zrcb h2⟩
 | [],_::_,h=>by cases h
 | _::_,[],h=>by cases h
theorem Zgob {t:TypeId} (h:nz P t=true):∃q,P.info? t=some q∧q.size≠0:=by
 unfold nz at h
 split at h
 ·rename_i q hq
  refine ⟨q,hq,fun e=>?_⟩;rw [e] at h;cases h
 ·cases h
theorem Zv3:∀{os:List (Nat×TypeId)} {fs:List Field},Z1v P os fs=true →
  (∀(f o:Nat) (ft:TypeId),os[f]? = some (o,ft)→∃fl,fs[f]? = some fl∧fl.offset=o∧fl.type=ft∧∃q,P.info? ft=some q∧q.size≠0) ∧
  ∃places,fs.mapM (fun f=>(P.info? f.type).map fun i=>(f.offset,i.size))=some places∧∀(f o:Nat) (ft:TypeId),os[f]? = some (o,ft)→∃q,P.info? ft=some q∧places[f]? = some (o,q.size)
 | [],[],_=>⟨fun f o ft h=>(by rw [Y3] at h;cases h),[],by simp,fun f o ft h=>by rw [Y3] at h;cases h⟩
 | (o,t)::os,f::fs,h=>by
  unfold Z1v at h;simp only [Yb] at h;obtain ⟨⟨⟨h1,h2⟩,h3⟩,h4⟩:=h;have h1:=Yd h1;have h2:=Yd h2;obtain ⟨q,hq,hq0⟩:=Zgob h3;obtain ⟨i1,places,i2,i3⟩:=Zv3 h4;refine ⟨fun j o' ft hj=>?_,(o,q.size)::places,?_,fun j o' ft hj=>?_⟩
  ·cases j with
   | zero=>
    cases hj;exact ⟨f,rfl,h1,h2,q,hq,hq0⟩
   | succ j=>exact i1 j o' ft hj
  ·rw [List.mapM_cons,h2,hq]
   simp [i2,h1]
  ·cases j with
   | zero=>
    cases hj;exact ⟨q,hq,rfl⟩
   | succ j=>exact i3 j o' ft hj
 | [],_::_,h=>by cases h
 | _::_,[],h=>by cases h
theorem Z86 {t:TypeId} {ty:Ty} (h:Zwu ty (P.underlying t)=true):(∃k k',ty = .int k∧P.underlying t=some (.int k'))∨(ty = .bool∧P.underlying t=some .bool)∨(ty = .str∧P.underlying t=some .string):=by
 unfold Zwu at h
 split at h
 ·rename_i hu;exact .inl ⟨_,_,rfl,hu⟩
 ·rename_i hu;exact .inr (.inl ⟨rfl,hu⟩)
 ·rename_i hu;exact .inr (.inr ⟨rfl,hu⟩)
 ·cases h
theorem Zpfb {t:TypeId} {ty:Ty} (h:Zwu ty (P.underlying t)=true) {xs:Array Value} {off:Nat} {v:Value} (hx:xs[off]? = some v):(Go.part t xs off).run P w = .ok v w:=by
 rcases Z86 h with ⟨k,k',_,hu⟩ | ⟨_,hu⟩ | ⟨_,hu⟩ <;> simp [Go.part,isAgg,run_underlying hu,hx]
theorem Zdrb {t:TypeId} {ty:Ty} (h:Zwu ty (P.underlying t)=true) {x y:Leaf} {u v:Value} {b:Bool} {d:Nat} (hx:Zlb X ρ w x u) (hy:Zlb X ρ w y v) (hb:Z7m ty x y=some b):(Op.equalIn (d+1) t u v).run P w = .ok b w:=by
 rcases Z86 h with ⟨k,k',rfl,hu⟩ | ⟨rfl,hu⟩ | ⟨rfl,hu⟩
 ·unfold Z7m at hb
  split at hb
  ·rename_i k1 a k2 c he
   split at hb
   ·rename_i hk
    subst hk;cases hb;obtain rfl:u = .int k1 a:=hx;obtain rfl:v = .int k1 c:=hy;exact run_equalIn_int _ d t k1 k' a c hu
   ·cases hb
  all_goals first | (rename_i he;cases he;done) | cases hb
 ·unfold Z7m at hb
  split at hb
  ·rename_i he;cases he
  ·rename_i a c _
   cases hb;obtain rfl:u = .bool a:=hx;obtain rfl:v = .bool c:=hy;exact run_equalIn_bool' _ d t a c hu
  ·rename_i a c _
   cases hb;obtain rfl:u = .bool a:=hx;obtain rfl:v = .bool c:=hy;exact run_equalIn_bool' _ d t a c hu
  ·rename_i a c _
   cases hb;obtain rfl:u = .bool a:=hx;obtain rfl:v = .bool c:=hy;exact run_equalIn_bool' _ d t a c hu
  ·rename_i he;cases he
  ·cases hb
 ·unfold Z7m at hb
  split at hb
  ·rename_i he;cases he
  ·rename_i he;cases he
  ·rename_i he;cases he
  ·rename_i he;cases he
  ·rename_i a c _
   cases hb;obtain rfl:u = .string (ba a):=hx;obtain rfl:v = .string (ba c):=hy;have:=run_equalIn_string (P:=P) w d t (ba a) (ba c) hu;rw [this];rw [Zgp,Zgp]
  ·cases hb
theorem Zxjb {d:Nat} {xs ys:Array Value} {f:Field} {a b:Value} {r:Bool} (hn:(f.name == "_")=false) (ha:(Go.part f.type xs f.offset).run P w = .ok a w) (hb:(Go.part f.type ys f.offset).run P w = .ok b w) (he:(Op.equalIn d f.type a b).run P w = .ok r w):(Op.eqFields d xs ys [f]).run P w = .ok r w:=by
 have hn':f.name ≠ "_" :=by simpa using hn
 simp only [Op.eqFields,Xc hn',Sem.run_bind,ha,hb,he,Result.andThen_ok]
 cases r <;> simp
theorem Zwjb {d:Nat} {xs ys:Array Value} {f:Field} {fs:List Field} {a b:Value} {r s:Bool} (hn:(f.name == "_")=false) (ha:(Go.part f.type xs f.offset).run P w = .ok a w) (hb:(Go.part f.type ys f.offset).run P w = .ok b w) (he:(Op.equalIn d f.type a b).run P w = .ok r w) (hr:(Op.eqFields d xs ys fs).run P w = .ok s w):(Op.eqFields d xs ys (f::fs)).run P w = .ok (r&&s) w:=by
 have hn':f.name ≠ "_" :=by simpa using hn
 rw [Op.eqFields]
 simp only [Xc hn',Sem.run_bind,ha,hb,he,Result.andThen_ok]
 cases r
 ·simp
 ·simpa using hr
theorem Zyab:∀{us rs:List Ty} {xs ys:List Leaf} {b:Bool},us≠[]→rs≠[]→Zsi (us++rs) xs ys=some b→xs.length=us.length+rs.length→ys.length=us.length+rs.length →
  ∃b1 b2,Zsi us (xs.take us.length) (ys.take us.length)=some b1∧Zsi rs (xs.drop us.length) (ys.drop us.length)=some b2∧b=(b1&&b2)
 | [],_,_,_,_,h,_,_,_,_=>absurd rfl h
 | u::us,rs,[],_,_,_,_,_,hx,_=>by simp at hx;omega
 | u::us,rs,x::xs,[],_,_,_,_,_,hy=>by simp at hy;omega
 | [u],r::rs,x::xs,y::ys,b,_,_,h,hx,hy=>by
  have h:(match Z7m u x y,Zsi (r::rs) xs ys with
   | some a,some b=>some (a&&b)
   | _,_=>none)=some b:=h
  split at h
  ·rename_i a c ha hc
   cases h;exact ⟨a,c,ha,hc,rfl⟩
  ·cases h
 | u::u'::us,rs,x::xs,y::ys,b,_,hr,h,hx,hy=>by
  have h:(match Z7m u x y,Zsi (u'::us++rs) xs ys with
   | some a,some b=>some (a&&b)
   | _,_=>none)=some b:=h
  split at h
  ·rename_i a c ha hc
   cases h;obtain ⟨b1,b2,e1,e2,rfl⟩:=Zyab (us:=u'::us) (rs:=rs) nofun hr hc (by simp at hx ⊢;omega) (by simp at hy ⊢;omega);refine ⟨a&&b1,b2,?_,e2,(Bool.and_assoc _ _ _).symm⟩
   match xs,ys,hx,hy with
   | [],_,hx,_=>simp at hx;omega
   | _::_,[],_,hy=>simp at hy;omega
   | x2::xs,y2::ys,_,_=>
    show (match Z7m u x y,Zsi (u'::us) ((x2::xs).take (u'::us).length) ((y2::ys).take (u'::us).length) with
     | some a,some b=>some (a&&b)
     | _,_=>none)=some (a&&b1)
    rw [ha,e1]
  ·cases h
 | [u],[],_,_,_,_,hr,_,_,_=>absurd rfl hr
theorem Zhw:∀{xs:List Leaf} {vs:List Value},Zq X ρ w xs vs→xs.length=vs.length
 | [],[],_=>rfl
 | _::_,_::_,h=>congrArg (· + 1) (Zhw h.2)
theorem Zy4:∀{xs:List Leaf} {vs:List Value} (n:Nat),Zq X ρ w xs vs→Zq X ρ w (xs.take n) (vs.take n)
 | _,_,0,_=>trivial
 | [],[],_+1,_=>trivial
 | _::_,_::_,n+1,h=>⟨h.1,Zy4 n h.2⟩
theorem Zx4:∀{xs:List Leaf} {vs:List Value} (n:Nat),Zq X ρ w xs vs→Zq X ρ w (xs.drop n) (vs.drop n)
 | _,_,0,h=>h
 | [],[],_+1,_=>trivial
 | _::_,_::_,n+1,h=>Zx4 n h.2
def Cmp (P:Program) (n:Nat) (t:TypeId) (us:List Ty):Prop:=∀(X:Nat→Prop) (ρ:Rho) (w:World) (cs ds:Array Value) (o:Nat) (xs ys:List Leaf) (b:Bool),o+us.length≤cs.size→o+us.length≤ds.size → Zq X ρ w xs ((cs.toList.drop o).take us.length)→Zq X ρ w ys ((ds.toList.drop o).take us.length)→Zsi us xs ys=some b → ∃v u,(Go.part t cs o).run P w = .ok v w∧(Go.part t ds o).run P w = .ok u w∧∀d,n≤d→(Op.equalIn d t v u).run P w = .ok b w
theorem Z1ib {n:Nat} {t:TypeId} {ty:Ty} (h:Zwu ty (P.underlying t)=true):Cmp P (n+1) t [ty]:=by
 intro X ρ w cs ds o xs ys b hc hd hx hy hb
 have hc:o+1≤cs.size:=hc
 have hd:o+1≤ds.size:=hd
 have e1:(cs.toList.drop o).take [ty].length=[cs[o]]:=by
  rw [Y0 (by simp;omega)];simp
 have e2:(ds.toList.drop o).take [ty].length=[ds[o]]:=by
  rw [Y0 (by simp;omega)];simp
 rw [e1] at hx
 rw [e2] at hy
 match xs,ys,hx,hy with
 | [x],[y],hx,hy=>
  refine ⟨cs[o],ds[o],Zpfb h (by simp),Zpfb h (by simp),fun d hd=>?_⟩;obtain ⟨d,rfl⟩:∃m,d=m+1:=⟨d-1,by omega⟩;exact Zdrb h hx.1 hy.1 hb
theorem Zxab {n:Nat} {rec:TypeId→List Ty→Option (List Ty)} (hrec:∀t ts r,rec t ts=some r→r.length<ts.length→((P.info? t).map (·.size) |>.getD 0)=ts.length-r.length→∃us,ts=us++r∧Cmp P n t us∧∀m,n≤m→P.eqGuardType m t=false):∀(fs:List Field) (o:Nat) (ts r:List Ty),fs≠[]→Zco P rec fs o ts=some r →
  ∃us,ts=us++r∧us≠[]∧(∀m,n≤m→∀f∈fs,P.eqGuardType m f.type=false)∧∀(X:Nat→Prop) (ρ:Rho) (w:World) (cs ds:Array Value) (xs ys:List Leaf) (b:Bool),o+us.length≤cs.size→o+us.length≤ds.size →
   Zq X ρ w xs ((cs.toList.drop o).take us.length)→Zq X ρ w ys ((ds.toList.drop o).take us.length)→Zsi us xs ys=some b→∀d,n≤d→(Op.eqFields d cs ds fs).run P w = .ok b w
 | [],_,_,_,h,_=>absurd rfl h
 | f::fs,o,ts,r,_,h=>by
  unfold Zco at h;cases hn:(!(f.name == "_")&&Ya f.offset o) with
  | false=>rw [hn] at h;cases h
  | true=>
   rw [hn] at h;obtain ⟨n1,n2⟩:=(Yb _ _).mp hn;have n1:(f.name == "_")=false:=by simpa using n1
   have n2:=Yd n2
   replace h:(match rec f.type ts with
    | some r=>bif Yl r.length ts.length&&Ya ((P.info? f.type).map (·.size) |>.getD 0) (ts.length-r.length) then Zco P rec fs (o+(ts.length-r.length)) r else none
    | none=>none)=some r:=h
   split at h
   ·rename_i r1 hr1
    cases hc:(Yl r1.length ts.length&&Ya ((P.info? f.type).map (·.size) |>.getD 0) (ts.length-r1.length)) with
    | false=>rw [hc] at h;cases h
    | true=>
     rw [hc] at h;obtain ⟨c1,c2⟩:=(Yb _ _).mp hc;have c1:r1.length<ts.length:=Yj c1;obtain ⟨us,rfl,cmp,gd⟩:=hrec _ _ _ hr1 c1 (Yd c2);have hl:(us++r1).length-r1.length=us.length:=by simp
     rw [hl] at h;have hne:us≠[]:=by rintro rfl;simp at c1
     replace h:Zco P rec fs (o+us.length) r1=some r:=h;cases fs with
     | nil=>
      cases h;refine ⟨us,rfl,hne,fun m hm g hg=>?_,?_⟩
      ·rw [Yn.1 hg];exact gd m hm
      ·intro X ρ w cs ds xs ys b h1 h2 hx hy hb d hd
       obtain ⟨v,u,p1,p2,p3⟩:=cmp X ρ w cs ds o xs ys b h1 h2 hx hy hb;exact Zxjb n1 (by rw [n2];exact p1) (by rw [n2];exact p2) (p3 d hd)
     | cons f2 fs=>
      obtain ⟨us2,rfl,hne2,gd2,ih⟩:=Zxab hrec (f2::fs) (o+us.length) r1 r nofun h;refine ⟨us++us2,(Yq _ _ _).symm,fun e=>hne (List.append_eq_nil_iff.1 e).1,fun m hm g hg=>?_,?_⟩
      ·rcases Yc.1 hg with rfl | hg
       ·exact gd m hm
       ·exact gd2 m hm g hg
      ·intro X ρ w cs ds xs ys b h1 h2 hx hy hb d hd
       rw [List.length_append] at h1 h2 hx hy;have lx:=Zhw hx;have ly:=Zhw hy;simp only [List.length_take,List.length_drop,Yo] at lx ly;obtain ⟨b1,b2,e1,e2,rfl⟩:=Zyab hne hne2 hb (by omega) (by omega);have t1:∀c:List Value,((c.drop o).take (us.length+us2.length)).take us.length=(c.drop o).take us.length:=fun c=>by rw [Y6];congr 1;omega
       have t2:∀c:List Value,((c.drop o).take (us.length+us2.length)).drop us.length=(c.drop (o+us.length)).take us2.length:=fun c=>by rw [List.drop_take,Yz];congr 1;omega
       have hx1:=Zy4 us.length hx;have hy1:=Zy4 us.length hy;have hx2:=Zx4 us.length hx;have hy2:=Zx4 us.length hy;rw [t1] at hx1 hy1;rw [t2] at hx2 hy2;obtain ⟨v,u,p1,p2,p3⟩:=cmp X ρ w cs ds o _ _ b1 (by omega) (by omega) hx1 hy1 e1;exact Zwjb n1 (by rw [n2];exact p1) (by rw [n2];exact p2) (p3 d hd) (ih X ρ w cs ds _ _ b2 (by omega) (by omega) hx2 hy2 e2 d hd)
   ·cases h
theorem Zzab {n:Nat} (hrec:∀t ts r,eqC P n t ts=some r→r.length<ts.length→((P.info? t).map (·.size) |>.getD 0)=ts.length-r.length→∃us,ts=us++r∧Cmp P n t us∧∀m,n≤m→P.eqGuardType m t=false) {t:TypeId} {fs:Array Field} {ts r:List Ty}
  (hu:P.underlying t=some (.struct fs)) (hp:P.stoodInHeld t=false) (hne:fs.toList≠[]) (h:Zco P (eqC P n) fs.toList 0 ts=some r):
  ∃us,ts=us++r∧us≠[]∧(∀m,n+1≤m→P.eqGuardType m t=false)∧∀(X:Nat→Prop) (ρ:Rho) (w:World) (cs ds:Array Value) (xs ys:List Leaf) (b:Bool),us.length≤cs.size→us.length≤ds.size →
   Zq X ρ w xs (cs.toList.take us.length)→Zq X ρ w ys (ds.toList.take us.length)→Zsi us xs ys=some b→∀d,n+1≤d→(Op.equalIn d t (.agg cs) (.agg ds)).run P w = .ok b w:=by
 obtain ⟨us,e,hne',gd,ih⟩:=Zxab hrec fs.toList 0 ts r hne h
 refine ⟨us,e,hne',fun m hm=>?_,fun X ρ w cs ds xs ys b h1 h2 hx hy hb d hd=>?_⟩
 ·obtain ⟨m,rfl⟩:∃q,m=q+1:=⟨m-1,by omega⟩
  rw [Program.eqGuardType,hu];show (fs.any fun f=>f.name != "_" && P.eqGuardType m f.type)=false;rw [← Array.any_toList,List.any_eq_false];intro f hf;rw [gd m (by omega) f hf];simp
 ·obtain ⟨d,rfl⟩:∃q,d=q+1:=⟨d-1,by omega⟩
  have hf:P.fieldsOf t=fs:=by simp [Program.fieldsOf,hu]
  rw [run_equalIn_struct (P:=P) w d t cs ds (by rw [hf];exact hu) hp,hf];exact ih X ρ w cs ds xs ys b (by omega) (by omega) (by rw [Y1];exact hx) (by rw [Y1];exact hy) hb d (by omega)
theorem Zwab:∀(n:Nat) (t:TypeId) (ts r:List Ty),eqC P n t ts=some r→r.length<ts.length→((P.info? t).map (·.size) |>.getD 0)=ts.length-r.length→∃us,ts=us++r∧Cmp P n t us∧∀m,n≤m→P.eqGuardType m t=false
 | 0,t,ts,r,h,_,_=>by cases h
 | n+1,t,ts,r,h,hlt,hsz=>by
  have scal:∀ty,Zwu ty (P.underlying t)=true→ts=ty::r→∃us,ts=us++r∧Cmp P (n+1) t us∧∀m,n+1≤m→P.eqGuardType m t=false:=fun ty hs e=>by
   refine ⟨[ty],e,Z1ib hs,fun m hm=>?_⟩;obtain ⟨m,rfl⟩:∃q,m=q+1:=⟨m-1,by omega⟩;rcases Z86 hs with ⟨k,k',_,hu⟩ | ⟨_,hu⟩ | ⟨_,hu⟩ <;> simp [Program.eqGuardType,hu]
  unfold eqC at h;split at h
  ·rename_i hu
   split at h
   ·cases h
    exact scal _ (by rw [hu];rfl) rfl
   ·cases h
  ·rename_i hu
   split at h
   ·cases h
    exact scal _ (by rw [hu];rfl) rfl
   ·cases h
  ·rename_i hu
   split at h
   ·cases h
    exact scal _ (by rw [hu];rfl) rfl
   ·cases h
  ·rename_i fs hu
   cases hc:(P.stoodInHeld t||Ya fs.toList.length 0) with
   | true=>rw [hc] at h;cases h
   | false=>
    rw [hc] at h;replace h:Zco P (eqC P n) fs.toList 0 ts=some r:=h;obtain ⟨c1,c2⟩:=Bool.or_eq_false_iff.1 hc
    have hne:fs.toList≠[]:=by
     intro e;rw [e] at c2;cases c2
    obtain ⟨us,e,hne',gd,ok⟩:=Zzab (Zwab n) hu c1 hne h;refine ⟨us,e,fun X ρ w cs ds o xs ys b h1 h2 hx hy hb=>?_,gd⟩;have hl:ts.length-r.length=us.length:=by rw [e];simp
    rw [hl] at hsz;have hpos:0<us.length:=List.length_pos_iff.2 hne'
    obtain ⟨q,hq,hqs⟩:∃q,P.info? t=some q∧q.size=us.length:=by
     cases hq:P.info? t with
     | none=>rw [hq] at hsz;simp at hsz;omega
     | some q=>rw [hq] at hsz;exact ⟨q,rfl,hsz⟩
    have part:∀c:Array Value,(Go.part t c o).run P w = .ok (.agg (c.extract o (o+us.length))) w:=fun c=>by
     simp [Go.part,isAgg,run_underlying hu,sizeOf,typeInfo,hq,hqs]
    have ext:∀c:Array Value,o+us.length≤c.size→(c.extract o (o+us.length)).toList.take us.length=(c.toList.drop o).take us.length:=fun c hc=>by
     rw [Array.toList_extract,List.extract_eq_take_drop,Nat.add_sub_cancel_left,Y6,Nat.min_self]
    exact ⟨_,_,part cs,part ds,ok X ρ w _ _ xs ys b (by simp;omega) (by simp;omega) (by rw [ext cs h1];exact hx) (by rw [ext ds h2];exact hy) hb⟩
  ·cases h
theorem Zvjb {t:TypeId} {ty:Ty} (h:Zo3 P t ty=true):P.eqGuardType P.depth t=false∧∀X ρ w (cs ds:Array Value) (xs ys:List Leaf) (b:Bool),Zq X ρ w xs cs.toList→Zq X ρ w ys ds.toList→Zsi (Zfb ty) xs ys=some b→(Op.equal t (.agg cs) (.agg ds)).run P w = .ok b w:=by
 unfold Zo3 at h
 split at h
 ·rename_i fs hu
  obtain ⟨h12,h3⟩:=(Yb _ _).mp h;obtain ⟨h1,h2⟩:=(Yb _ _).mp h12;have h1:P.stoodInHeld t=false:=by simpa using h1
  have hne:fs.toList≠[]:=by
   intro e;rw [e] at h2;cases h2
  split at h3
  ·rename_i hr
   obtain ⟨us,e,hne',gd,ok⟩:=Zzab (Zwab 8) hu h1 hne hr;rw [List.append_nil] at e;subst e;refine ⟨gd _ (by unfold Program.depth Made.depth;omega),fun X ρ w cs ds xs ys b hx hy hb=>?_⟩;have lx:=Zhw hx;have ly:=Zhw hy
   have key:∀{us:List Ty} {xs ys:List Leaf} {b:Bool},Zsi us xs ys=some b→xs.length=us.length∧ys.length=us.length:=by
    intro us
    induction us with
    | nil=>intro xs ys b h;cases h
    | cons u us ih=>
     intro xs ys b h
     match xs,ys,h with
     | [],_,h=>cases us <;> cases h
     | x::xs,[],h=>cases us <;> cases xs <;> cases h
     | x::xs,y::ys,h=>
      have long:(match Z7m u x y,Zsi us xs ys with
       | some a,some b=>some (a&&b)
       | _,_=>none)=some b→(x::xs).length=(u::us).length∧(y::ys).length=(u::us).length:=fun h=>by
       split at h
       ·rename_i hc
        obtain ⟨i1,i2⟩:=ih hc;exact ⟨congrArg (· + 1) i1,congrArg (· + 1) i2⟩
       ·cases h
      cases us with
      | cons _ _=>exact long h
      | nil=>
       cases xs with
       | cons _ _=>exact long h
       | nil=>
        cases ys with
        | cons _ _=>exact long h
        | nil=>exact ⟨rfl,rfl⟩
   obtain ⟨k1,k2⟩:=key hb;simp only [Yo] at lx ly;exact ok X ρ w cs ds xs ys b (by omega) (by omega) (by rw [Ys (by rw [Yo];omega)];exact hx) (by rw [Ys (by rw [Yo];omega)];exact hy) hb 10000 (by omega)
  ·cases h3
 ·cases h
theorem Zasb {t:TypeId} {i:TI} (h:Zt7 P t i=true):TiFor P t i:=by
 unfold Zt7 at h
 split at h
 ·rename_i q d hq hd
  simp only [Yb] at h;obtain ⟨⟨⟨⟨⟨⟨⟨⟨⟨h1,h2⟩,h3⟩,h4⟩,h5⟩,h6⟩,h7⟩,h8⟩,h9⟩,h10⟩:=h;have h1:=Yd h1;have h2:=Yd h2;have h4:i.agg=Zh8 d:=by simpa using h4
  have hst:i.kind=4→∃fs,d = .struct fs∧Z1v P i.offs fs.toList=true:=fun e=>by
   unfold Z1t at h5
   split at h5 <;> (try rw [e] at h5) <;> first
    | (cases h5;done)
    | exact ⟨_,rfl,((Yb _ _).mp h5).2⟩
    | simp at h5
  refine ⟨⟨q,hq,h1,h2,?_⟩,⟨d,hd,?_,?_,?_,?_,?_,?_⟩,?_,?_,?_,?_,?_,?_,?_⟩
  ·unfold Z77 at h3
   split at h3
   ·rename_i z hz
    obtain ⟨k12,_⟩:=(Yb _ _).mp h3;obtain ⟨k1,k2⟩:=(Yb _ _).mp k12;exact ⟨z,hz,Yd k1,fun X ρ w=>Zrcb k2⟩
   ·cases h3
  ·rw [h4]
   cases d <;> rfl
  ·intro e
   unfold Z1t at h5
   split at h5 <;> (try rw [e] at h5) <;> first
    | (cases h5;done)
    | (rw [of_decide_eq_true ((Yb _ _).mp h5).2];done)
    | simp at h5
  ·intro e
   unfold Z1t at h5
   split at h5 <;> (try rw [e] at h5) <;> first
    | (cases h5;done)
    | rfl
    | simp at h5
  ·intro e
   unfold Z1t at h5
   split at h5 <;> (try rw [e] at h5) <;> first
    | (cases h5;done)
    | (rw [Yd ((Yb _ _).mp h5).2];done)
    | simp at h5
  ·intro e
   unfold Z1t at h5
   split at h5 <;> (try rw [e] at h5) <;> first
    | (cases h5;done)
    | rfl
    | simp at h5
  ·intro e
   obtain ⟨fs,hfs,hc⟩:=hst e;refine ⟨fs,hfs,fun f o ft ho=>?_⟩;obtain ⟨fl,k1,k2⟩:=(Zv3 hc).1 f o ft ho;exact ⟨fl,by rw [← Yv];exact k1,k2⟩
  ·intro e
   obtain ⟨fs,rfl,hc⟩:=hst e;obtain ⟨_,places,k1,k2⟩:=Zv3 hc;exact ⟨fs,places,hd,k1,k2⟩
  ·intro hz
   rcases (Yw _ _).mp h6 with k | k
   ·have:=Yd k;omega
   ·exact (Yt).mp k
  ·intro hk
   rw [hk] at h8;simpa using h8
  ·intro hk
   rw [hk] at h10;replace h10:Zf2 i d=true:=by simpa using h10
   unfold Zf2 at h10;split at h10
   ·obtain ⟨k1,k2⟩:=(Yb _ _).mp h10
    split at k2
    ·rename_i hoff
     refine ⟨_,_,hoff,?_⟩;rw [hd,Yd k1,Yd k2]
    ·cases k2
   ·cases h10
  ·intro hk
   rw [hk] at h9;replace h9:Z94 P d=true:=by simpa using h9
   unfold Z94 at h9;split at h9
   ·rename_i k e _
    obtain ⟨k1,k2⟩:=(Yb _ _).mp h9;unfold Z5gb at k2;split at k2
    ·rename_i q hq2
     split at k2
     ·rename_i hz
      refine ⟨k,e,q,hd,?_,hq2,hz⟩;split at k1
      ·assumption
      ·cases k1
     ·cases k2
    ·cases k2
   ·cases h9
  ·intro ha q' z hq' hz
   rw [hq] at hq';cases hq';unfold Z77 at h3;rw [hz] at h3;obtain ⟨_,k⟩:=(Yb _ _).mp h3;rw [ha] at k;have k:Zddb z=true:=k;cases z <;> first | rfl | cases k
  ·intro e
   rw [e] at h7;exact Zvjb (by simpa using h7)
 ·cases h
theorem Zp7:∀{T:Tab TI} {g:Nat→Nat},Zlx P T g=true→∀n i,T.get n=some i→TiFor P (g n) i
 | .nil,g,_,n,i,h=>by cases h
 | .node l v r,g,hc,n,i,h=>by
  unfold Zlx at hc;simp only [Yb] at hc;obtain ⟨⟨h1,h2⟩,h3⟩:=hc;unfold Tab.get at h;cases h0:Ya n 0 with
  | true=>
   rw [h0] at h;have h:v=some i:=h;subst h;rw [Yd h0];exact Zasb h1
  | false=>
   rw [h0] at h;have hn0:=Yca h0;cases hp:Ya (n%2) 1 with
   | true=>
    rw [hp] at h;have hp:=Yd hp;have:=Zp7 h2 (n/2) i h
    rwa [show 2*(n/2)+1=n by omega] at this
   | false=>
    rw [hp] at h;have hp:=Yca hp;have:=Zp7 h3 (n/2-1) i h
    rwa [show 2*(n/2-1)+2=n by omega] at this
theorem Zbsb {T:Tab TI} (h:Zlx P T (fun n=>n)=true):Zob P T:=fun t i hi=>Zp7 h t i hi
end
end Go.Proofs.Qz
namespace Go.Proofs.Qz
open Go Go.RowKit Go.WideShapes
set_option linter.unusedVariables false
def oFs (chk:TypeId→Ty→Bool) (P:Program):List Field→Nat→Ty→Bool
 | [],_,_=>false
 | [f],o,ty=>Ya f.offset o&&chk f.type ty
 | f::fs,o,.pair a b=>Ya f.offset o&&chk f.type a&&oFs chk P fs (o+a.sz) b
 | _,_,_=>false
def Zbu (P:Program):Nat→TypeId→Ty→Bool
 | 0,_,_=>false
 | n+1,t,ty=>Ya (P.cellsOf t) ty.sz&&match P.underlying t with
  | some (.struct fs)=>oFs (Zbu P n) P fs.toList 0 ty
  | d=>match d,ty with
   | some (.int k),.int k'=>decide (k=k')
   | some .bool,.bool=>true
   | some .string,.str=>true
   | some (.slice e),.sl r=>Yl 0 r.sz&&Yl 0 (P.bytesOf e)&&Zbu P n e r
   | _,_=>false
def Bnd:(t:Ty)→t.T→Prop
 | .int k,n=>(Lit.int k n).wf=true
 | .bool,_=>True
 | .str,s=>s.length≤140737488351232
 | .sl r,l=>l.length≤140737488351232∧∀a∈l,Bnd r a
 | .pair a b,x=>Bnd a x.1∧Bnd b x.2
 | .unit,_=>True
def Old (w:World) (b:Nat):Prop:=b<w.heap.size
def Opn (P:Program) (t:TypeId) (ty:Ty):Prop:=∀(H:Type) (enc:TypeId×Value→H) (w:World) (base:Nat) (spare:Nat→Bool) (held:Bool) (fuel:Nat) (cs:List Value) (x:DataW H×List MemPlace),DataW.trod enc P w base spare held fuel t cs=some x→(x.1.weights P t).all (·≤reachBytes)=true→∃y:ty.T,Rep w (Old w) ty y cs∧Bnd ty y
theorem Z2gb {H:Type} {P:Program} {e:TypeId}:∀{l:List (DataW H)} {d:DataW H},d∈l→∀n∈d.weights P e,n∈DataW.weightsAll P e l
 | d0::l,d,hd,n,hn=>by
  simp only [DataW.weightsAll,Ym];rcases Yc.1 hd with rfl | hd
  ·exact .inl hn
  ·exact .inr (Z2gb hd n hn)
theorem Zv9 {α β:Type} {R:Nat→β→α→Prop}:∀(l:List β) (o:Nat),(∀i y,l[i]? = some y→∃a,R (o+i) y a)→∃al:List α,al.length=l.length∧∀i a,al[i]? = some a→∃y,l[i]? = some y∧R (o+i) y a
 | [],_,_=>⟨[],rfl,fun i a h=>by simp at h⟩
 | y::l,o,h=>by
  obtain ⟨a,ha⟩:=h 0 y rfl;obtain ⟨al,h1,h2⟩:=Zv9 (R:=R) l (o+1) (fun i z hz=>by have:=h (i+1) z (by simpa using hz);rwa [show o+1+i=o+(i+1) by omega]);refine ⟨a::al,by simp [h1],?_⟩;intro i b hb;cases i with
  | zero=>
   simp at hb;subst hb;exact ⟨y,rfl,ha⟩
  | succ i=>
   obtain ⟨z,hz,hr⟩:=h2 i b (by simpa using hb);exact ⟨z,by simpa using hz,by rwa [show o+1+i=o+(i+1) by omega] at hr⟩
section
variable {P:Program}
theorem Zlob {t e:TypeId} {r:Ty} (ht:P.underlying t=some (.slice e)) (hr:0<r.sz) (hB:0<P.bytesOf e) (hc:P.cellsOf e=r.sz) (he:Opn P e r):Opn P t (.sl r):=by
 intro H enc w base spare held fuel cs x h hz
 rcases DataW.trod_slice ht h with ⟨rfl,rfl⟩ | ⟨a,len,cap,elems,rest,n,_,rfl,rfl,_,hl,hm,hlen,hel,_,_⟩
 ·exact ⟨[],⟨none,0,rfl,Y8 _,.inl rfl⟩,by simp,by simp⟩
 ·have hwt:∀y∈elems,(y.1.weights P e).all (·≤reachBytes)=true:=by
   intro y hy;rw [Yg];intro m hm';refine Yg.1 hz m ?_;simp only [DataW.weights,ht,Yc,Ym];exact .inr (.inl (Z2gb (List.mem_map_of_mem hy) m hm'))
  have hbytes:len≤140737488351232:=by
   have z:=of_decide_eq_true (Yg.1 hz ((elems.map (·.1)).length+(rest.map (·.1)).length |>.mul (P.bytesOf e)) (by simp only [DataW.weights,ht,Yc];exact .inl rfl));simp only [List.length_map] at z;have z3:(elems.length+rest.length)*P.bytesOf e≤140737488351232:=z;have z4:(elems.length+rest.length)*1≤(elems.length+rest.length)*P.bytesOf e:=Nat.mul_le_mul_left _ hB;omega
  obtain ⟨l,hll,hla⟩:=Zv9 (R:=fun i y (b:r.T)=>∃c,w.cells? base (a.add (i*P.cellsOf e)) (P.cellsOf e)=some c∧Rep w (Old w) r b c∧Bnd r b) elems 0 (by
   intro i y hy
   have hi:i<len:=by
    have:=(Y2.1 hy).1;omega
   have:=hel i hi;rw [hy,Option.bind_eq_some_iff] at this;obtain ⟨c,hc,ht'⟩:=this;obtain ⟨b,hk,hb⟩:=he H enc w base spare held n c y ht' (hwt y (List.mem_of_getElem? hy));exact ⟨b,c,by rw [Yu];exact hc,hk,hb⟩)
  have hll':l.length=len:=by omega
  subst hll'
  have hcell:∀(j:Nat) (p:r.T),l[j]? = some p→∃c,Rep w (Old w) r p c∧Bnd r p∧∀(i:Nat) (u:Value),c[i]? = some u→w.cell? ((a.add (j*r.sz)).add i)=some u:=by
   intro j p hp;obtain ⟨y,_,c,hc',hk,hb⟩:=hla j p hp;rw [Yu] at hc';refine ⟨c,hk,hb,fun i u hu=>?_⟩;have hlen':=hk.len
   have hi:i<P.cellsOf e:=by
    rw [hc,← hlen'];exact (Y2.1 hu).1
   have:=(World.cells?_some hc').2.2 i hi;rw [hu,hc] at this;exact this
  refine ⟨l,⟨some a,cap,rfl,hl,?_⟩,hbytes,fun b hb=>?_⟩
  ·cases hl0:l with
   | nil=>exact .inl rfl
   | cons p l'=>
    refine .inr ?_;obtain ⟨c,hk,_,hu⟩:=hcell 0 p (by rw [hl0];rfl)
    have h0:w.cell? a=some (c[0]'(by rw [hk.len];exact hr)):=by
     have:=hu 0 _ (List.getElem?_eq_getElem (by rw [hk.len];exact hr));simpa [Addr.add] using this
    have hspot:a.spot=none:=by
     unfold World.cell? at h0;split at h0
     ·cases hs:a.spot with
      | none=>rfl
      | some _=>rw [hs] at h0;simp at h0
     ·cases h0
    have hblk:a.block<w.heap.size:=by
     unfold World.cell? at h0;split at h0
     ·rename_i hh
      exact (Array.getElem?_eq_some_iff.1 hh).1
     ·cases h0
    refine ⟨a.block,a.off,?_,hblk,fun j q hq=>?_⟩
    ·rw [← hspot]
    ·obtain ⟨c',hk',_,hu'⟩:=hcell j q (by rw [hl0];exact hq)
     refine ⟨c',fun i u hu1=>?_,hk'⟩;rw [← hu' i u hu1];congr 1;simp only [Addr.add]
     by_cases h1:j*r.sz=0
     ·by_cases h2:i=0
      ·simp [h1,h2,← hspot]
      ·simp [h1,h2]
     ·by_cases h2:i=0 <;> simp [h1,h2,Nat.add_assoc]
  ·obtain ⟨i,hi⟩:=List.getElem?_of_mem hb
   obtain ⟨c,_,h2,_⟩:=hcell i b hi;exact h2
theorem Zkdb {chk:TypeId→Ty→Bool} (hchk:∀t ty,chk t ty=true→P.cellsOf t=ty.sz∧Opn P t ty):∀{fs:List Field} {o:Nat} {ty:Ty},oFs chk P fs o ty=true →
  ∀(H:Type) (enc:TypeId×Value→H) (w:World) (base:Nat) (spare:Nat→Bool) (held:Bool) (fuel:Nat) (cs:List Value) (xs:List (DataW H×List MemPlace)),
  (∀(i:Nat) (f:Field),fs[i]? = some f→DataW.trod enc P w base spare held fuel f.type ((cs.drop f.offset).take (P.cellsOf f.type))=xs[i]?)→xs.length=fs.length→cs.length=o+ty.sz →
  (DataW.weightsEach P (fs.map (·.type)) (xs.map (·.1))).all (·≤reachBytes)=true→∃y:ty.T,Rep w (Old w) ty y (cs.drop o)∧Bnd ty y
 | [],o,ty,h=>by cases h
 | [f],o,ty,h=>by
  obtain ⟨h1,h2⟩:=(Yb _ _).mp (show (Ya f.offset o&&chk f.type ty)=true by cases ty <;> exact h);have h1:=Yd h1;obtain ⟨hc,ho⟩:=hchk _ _ h2;intro H enc w base spare held fuel cs xs hx hl hcs hz;cases xs with
  | nil=>simp at hl
  | cons x xs=>
   have h0:=hx 0 f rfl;rw [h1,hc,Ys (by simp;omega)] at h0
   exact ho H enc w base spare held fuel _ x h0 (by
    simp only [List.map_cons,DataW.weightsEach,Yx,Yb] at hz;exact hz.1)
 | f::g::fs,o,ty,h=>by
  cases ty with
  | pair a b=>
   obtain ⟨h12,h3⟩:=(Yb _ _).mp (show ((Ya f.offset o&&chk f.type a)&&oFs chk P (g::fs) (o+a.sz) b)=true from h);obtain ⟨h1,h2⟩:=(Yb _ _).mp h12;have h1:=Yd h1;obtain ⟨hc,ho⟩:=hchk _ _ h2;intro H enc w base spare held fuel cs xs hx hl hcs hz;cases xs with
   | nil=>simp at hl
   | cons x xs=>
    have h0:=hx 0 f rfl;rw [h1,hc] at h0;replace hz:(DataW.weights P f.type x.1++DataW.weightsEach P ((g::fs).map (·.type)) (xs.map (·.1))).all (·≤reachBytes)=true:=hz;rw [Yx,Yb] at hz;have hcs':cs.length=o+(a.sz+b.sz):=hcs;obtain ⟨y,hy,by_⟩:=ho H enc w base spare held fuel _ x h0 hz.1;obtain ⟨z,hz1,bz⟩:=Zkdb hchk h3 H enc w base spare held fuel cs xs (fun i q hq=>hx (i+1) q (by simpa using hq)) (by simpa using hl) (by omega) hz.2;refine ⟨(y,z),⟨_,_,?_,hy,hz1⟩,by_,bz⟩;rw [← Yz,List.take_append_drop]
  | _=>cases h
theorem Zx5:∀(n:Nat) (t:TypeId) (ty:Ty),Zbu P n t ty=true→P.cellsOf t=ty.sz∧Opn P t ty
 | 0,_,_,h=>by cases h
 | n+1,t,ty,h=>by
  unfold Zbu at h;obtain ⟨hc,h⟩:=(Yb _ _).mp h;have hc:=Yd hc;refine ⟨hc,?_⟩;split at h
  ·rename_i fs hu
   intro H enc w base spare held fuel cs x hx hz;obtain ⟨xs,m,rfl,rfl,hl,hxs,he⟩:=DataW.trod_struct hu hx;simp only [DataW.weights,hu] at hz;obtain ⟨y,hy,b⟩:=Zkdb (Zx5 n) h H enc w base spare held m cs xs (fun i q hq=>he i q (by rw [← Yv];exact hq)) (by simpa using hxs) (by rw [Yu,← hc];exact hl) hz;exact ⟨y,hy,b⟩
  ·split at h
   ·rename_i k k' hu _ _
    have hk:=of_decide_eq_true h;subst hk;intro H enc w base spare held fuel cs x hx hz;obtain ⟨m,rfl,_,hw⟩:=DataW.trod_int hu hx;exact ⟨m,rfl,hw⟩
   ·rename_i hu _ _
    intro H enc w base spare held fuel cs x hx hz;obtain ⟨m,rfl,_⟩:=DataW.trod_bool hu hx;exact ⟨m,rfl,trivial⟩
   ·rename_i hu _ _
    intro H enc w base spare held fuel cs x hx hz;obtain ⟨s,rfl,rfl,_⟩:=DataW.trod_string hu hx;refine ⟨s.data.toList,rfl,?_⟩;have z:=Yg.1 hz s.data.toList.length (by simp [DataW.weights]);show s.data.toList.length≤140737488351232;exact of_decide_eq_true z
   ·rename_i e r hu _ _
    simp only [Yb] at h;obtain ⟨⟨h1,h2⟩,h3⟩:=h;obtain ⟨k1,k2⟩:=Zx5 n e r h3;exact Zlob hu ((Yt).mp h1) ((Yt).mp h2) k1 k2
   ·cases h
theorem Z3gb {H:Type} {ts:List TypeId} {ds:List (DataW H)} (h:(DataW.weightsEach P ts ds).all (·≤reachBytes)=true) {j:Nat} {t:TypeId} {d:DataW H} (ht:ts[j]? = some t) (hd:ds[j]? = some d):(d.weights P t).all (·≤reachBytes)=true:=Yg.2 fun n hn=>Yg.1 h n (DataW.weights_mem_each ht hd n hn)
theorem Zrgb {H:Type} {enc:TypeId×Value→H} {w:World} {base:Nat} {spare:Nat→Bool} {held:Bool} {t:TypeId} {v:Value} {x:DataW H} {ps:List MemPlace} (hd:DataW.Trod enc P w base spare held t v x ps):∀q∈ps,q.block<w.heap.size:=by
 obtain ⟨m,hm⟩:=hd
 exact DataW.trod_lt m _ _ _ hm
theorem Z1gb {w:World} {F B:Nat→Prop}:∀{xs:List Leaf} {vs:List Value},Z4d w F B xs vs→VLs w F B (xs.map .leaf) vs []
 | [],[],_=>rfl
 | _::_,_::_,h=>⟨h.1,Z1gb h.2⟩
 | [],_::_,h=>h.elim
 | _::_,[],h=>h.elim
def Zjv (ag:Bool) (ty:Ty) (y:ty.T):CArg:=.val ag ((Z2 ty y).map .leaf)
def Zrmb:Option TypeDesc→Bool
 | some (.struct _)=>true
 | _=>false
theorem Zw8 {H:Type} {enc:TypeId×Value→H} {w:World} {base:Nat} {spare:Nat→Bool} {held:Bool} {t:TypeId} {v:Value} {x:DataW H} {ps:List MemPlace} {r:Reach} {b0:Nat} {ty:Ty} {n:Nat} {ag:Bool}
  (hk:Zbu P n t ty=true) (hag:Zrmb (P.underlying t)=ag) (hv:Value.okWide P w r b0 t v) (hd:DataW.Trod enc P w base spare held t v x ps) (hz:(x.weights P t).all (·≤reachBytes)=true):
  ∃y:ty.T,Bnd ty y∧∀B,Z5n w (Old w) B (Zjv ag ty y) v [] []:=by
 obtain ⟨fuel,hf⟩:=hd
 obtain ⟨y,hy,hb⟩:=(Zx5 n t ty hk).2 H enc w base spare held fuel _ _ hf hz
 refine ⟨y,hb,fun B=>?_⟩
 have hd:=Z1gb ((Zleb hy).mono (fun b hb=>hb) (B':=B) fun b hb=>hb.elim)
 cases ag with
 | true=>
  cases hu:P.underlying t with
  | none=>rw [hu] at hag;cases hag
  | some d=>
   rw [hu] at hag;cases d with
   | struct fs=>
    obtain ⟨cs,rfl,_⟩:=okWide_struct hu hv;exact ⟨rfl,cs,rfl,hd⟩
   | _=>cases hag
 | false=>
  have hcell:v.cells.toList=[v]:=by
   cases n with
   | zero=>cases hk
   | succ n=>
    unfold Zbu at hk;obtain ⟨_,hk⟩:=(Yb _ _).mp hk;split at hk
    ·rename_i fs hu
     rw [hu] at hag;cases hag
    ·split at hk
     ·rename_i hu _ _;obtain ⟨_,rfl⟩:=okWide_int hu hv;rfl
     ·rename_i hu _ _;obtain ⟨_,rfl⟩:=okWide_bool hu hv;rfl
     ·rename_i hu _ _;obtain ⟨_,rfl⟩:=okWide_string hu hv;rfl
     ·rename_i hu _ _;obtain ⟨_,_,_,rfl⟩:=okWide_slice hu hv;rfl
     ·cases hk
  rw [hcell] at hd;exact ⟨rfl,hd⟩
theorem Ztib {w:World} {F B:Nat→Prop}:Zth w F B [] [] [] []:=⟨rfl,rfl⟩
theorem Zp9 {w:World} {F B:Nat→Prop} {c:CArg} {cs:List CArg} {v:Value} {vs:List Value} (h:Z5n w F B c v [] []) (k:Zth w F B cs vs [] []):Zth w F B (c::cs) (v::vs) [] []:=⟨[],[],[],[],rfl,rfl,h,k⟩
theorem Zxmb {f:FuncId} {c:Con} (h:Ze P f c) {asx:List CArg} (hrr:(c.f asx).val=some ⟨[.val false [.leaf (.bool true)]],[]⟩) {w:World} {vs:List Value} (hgl:GlW w) (ha:Zth w (Old w) (Bor w []) asx vs [] []):
  Calls P f vs.toArray w fun e w'=>e = .returned (.bool true)∧Below w.heap.size w w':=by
 refine (h.2 asx _ hrr w vs (Old w) [] [] (fun b hb=>⟨hb,fun hm=>nomatch hm⟩) List.nodup_nil ⟨hgl,fun _ _ hm=>nomatch hm⟩ ha).mono ?_
 rintro e w' ⟨v,rfl,keep,O1,O2,_,_,_,hv⟩
 have hv:Zaf w' (Out (Old w) (Zxb []) w w' (O1++O2)) [.leaf (.bool true)] [v] O2:=hv
 have hv:v = .bool true:=hv.1
 refine ⟨by rw [hv],keep.1,keep.2.1,keep.2.2.1,keep.2.2.2.1,fun b hb=>keep.2.2.2.2 b hb fun hm=>nomatch hm⟩
theorem Zhrb {H:Type} {enc:TypeId×Value→H} {W:World} {base:Nat} {sp:Nat→Bool} {held:Bool} {t:TypeId} (ht:P.underlying t=some .bool) (b:Bool):DataW.Trod enc P W base sp held t (.bool b) (.lit (.bool b)) []:=⟨1,by simp [DataW.trod,Value.cells,ht]⟩
end
end Go.Proofs.Qz
namespace Go.Proofs.Qz
open Go Go.RowKit
set_option linter.unusedVariables false
def Zxu:Ty→Bool
 | .int _=>true
 | .bool=>true
 | .str=>true
 | _=>false
section
variable {P:Program} {w:World} {F B:Nat→Prop}
theorem Zujb {f:FuncId} {fn:Func} {c:Code} (hf:P.funcs[f]? = some fn) (hname:(fn.name == "runtime.NumGoroutine")=false) (hb:fn.body=some c):∀args w,(callFunc f args).run P w = .ok (.enter f args) w:=fun args w=>by
 simp [callFunc,hf,hb,by simpa using hname]
end
section
variable {P:Program} {X:Nat→Prop} {ρ ρ':Rho} {st st':St} {a:Act} {w w':World} {C:Ctx}
theorem Z0u:∀c:Code,Z2e .auto c=[]
 | .seq a b=>by
  show Z2e .auto a++Z2e .auto b=[];rw [Z0u a,Z0u b];rfl
 | .cond _ a b=>by
  show Z2e .auto a++Z2e .auto b=[];rw [Z0u a,Z0u b];rfl
 | .block _ a=>Z0u a
 | .skip=>rfl
 | .region _ _ _=>rfl
 | .exit _=>rfl
 | .ret=>rfl
 | .loop _=>rfl
 | .rangeFunc _ _ _ _=>rfl
 | .scope _=>rfl
 | .label _=>rfl
 | .goto _=>rfl
 | .refuse _=>rfl
theorem Ze0 (c:Code):Zjg P C .auto c:=Zf0 (Z0u c) trivial
theorem Znpb {t e:TypeId} (hu:P.underlying t=some (.slice e)) (A:Option Addr) (n c:Nat):(Go.binOp .eql t (.slice A n c) (.slice none 0 0)).run P w = .ok (.bool A.isNone) w:=by
 have h:(Op.equalIn (9999+1) t (.slice A n c) (.slice none 0 0)).run P w = .ok A.isNone w:=by
  unfold Op.equalIn;simp only [Sem.run_bind,run_underlying hu,Result.andThen_ok];cases A <;> rfl
 show ((Op.equalIn (9999+1) t (.slice A n c) (.slice none 0 0)) >>= fun b=>pure (Value.bool b)).run P w=_
 simp only [Sem.run_bind,h,Result.andThen_ok,Sem.run_pure]
theorem Z72 {f:FuncId} {fn:Func} {A N Z:Code} {o1 o2:Oper} {i1:Nat} {t e u:TypeId} {s:Sig} {G:Zpb s.ins→Option (Zpb s.outs)} (H:CtxOk P C) (hf:P.funcs[f]? = some fn) (hname:(fn.name == "runtime.NumGoroutine")=false)
  (hb:fn.body=some (.seq A (.seq (.seq (.region i1 #[o1,o2] false) (.cond (.tmp 4) N .skip)) Z))) (hn:fn.ntmps=s.ntmps) (hps:Yp s.ps.length s.ntmps=true) (hlt:Yl 4 s.ntmps=true)
  (g1:o1.guard=none) (p1:o1.op = .move (.tmp 0)) (d1:o1.dst=some 3) (g2:o2.guard=none) (p2:o2.op = .binOp .eql t (.tmp 3) (.const (.slice none 0 0)) u) (d2:o2.dst=some 4)
  (hu:P.underlying t=some (.slice e)) (hd:(Zjd A).any (Ya 0)=false)
  (hsl:∀x,∃(r:Ty) (l:List r.T),((s.start x).tmps.headD .unk = .one (.bor r l)∨(s.start x).tmps.headD .unk = .one (.list r l)))
  (hno:∀x y,G x=some y→V C .auto A (s.start x) (fun e st=>match e with
   | .nrm=>V C .auto Z ((st.setT 3 .unk).setT 4 (.one (.kb false))) (s.done C.ti fn.results.toList)
   | _=>none)=some y)
  (hyes:∀x y,G x=some y→(∀(r:Ty) (l:List r.T),((s.start x).tmps.headD .unk = .one (.bor r l)∨(s.start x).tmps.headD .unk = .one (.list r l))→l=[])→V C .auto A (s.start x) (fun e st=>match e with
   | .nrm=>V C .auto N ((st.setT 3 .unk).setT 4 (.one (.kb true))) (fun e st=>match e with
    | .ret=>s.done C.ti fn.results.toList .ret st
    | _=>none)
   | _=>none)=some y):Ze P f (s.con G):=by
 refine Zyfb H.ti hf hname hb hn hps fun x y hx X ρ a w hrel=>?_
 have h4:4<s.ntmps:=Yj hlt
 have hsn:(s.start x).n=s.ntmps:=rfl
 have hslice:∃B n c,Z1 a 0 = .slice B n c∧(B=none→∀(r:Ty) (l:List r.T),((s.start x).tmps.headD .unk = .one (.bor r l)∨(s.start x).tmps.headD .unk = .one (.list r l))→l=[]):=by
  have h0:=hrel.tmps 0;have e0:Zz .unk (s.start x).tmps 0=(s.start x).tmps.headD .unk:=by cases (s.start x).tmps <;> rfl
  rw [e0] at h0;obtain ⟨r,l,hl⟩:=hsl x
  have key:∀(r:Ty) (l:List r.T),((s.start x).tmps.headD .unk = .one (.bor r l)∨(s.start x).tmps.headD .unk = .one (.list r l))→∃B c,Z1 a 0 = .slice B l.length c∧(B=none→l=[]):=by
   intro r l hl;rcases hl with hl | hl
   ·rw [hl] at h0
    obtain ⟨B,c,hv,_,h1⟩:=h0;refine ⟨B,c,Y5.1 hv,fun hB=>?_⟩;rcases h1 with h1 | ⟨_,_,h1,_⟩
    ·exact h1
    ·rw [hB] at h1;cases h1
   ·rw [hl] at h0
    obtain ⟨B,c,hv,_,h1⟩:=h0;refine ⟨B,c,Y5.1 hv,fun hB=>?_⟩;rcases h1 with h1 | ⟨_,_,h1,_⟩
    ·exact h1
    ·rw [hB] at h1;cases h1
  obtain ⟨B,c,hv,_⟩:=key r l hl;refine ⟨B,l.length,c,hv,fun hB r' l' hl'=>?_⟩;obtain ⟨B',c',hv',h'⟩:=key r' l' hl';have e:=hv.symm.trans hv';injection e with e1 e2 e3
  exact h' (e1▸hB)
 obtain ⟨B,n,c,hv,hnil⟩:=hslice
 intro Q hq
 have test:∀{ρ1:Rho} {st1:St} {a1:Act} {w1:World} (Q2:Exit→Act→World→Prop),Rel X ρ1 st1 a1 w1→st1.n=s.ntmps→Z1 a1 0 = .slice B n c →
   (∀a2,Rel X ρ1 ((st1.setT 3 .unk).setT 4 (.one (.kb B.isNone))) a2 w1→a2.eval (.tmp 4) = .bool B.isNone→Zpf [3,4] a1 a2→Q2 .normal a2 w1)→(Code.region i1 #[o1,o2] false).wp P Q2 a1 w1:=by
  intro ρ1 st1 a1 w1 Q2 h1 hn1 hv1 hk;refine wp_region_list ?_;show wpList P #[o1,o2] Q2 [o1,o2] a1 w1;unfold wpList;rw [Xc (by simp [Region.wanted,g1])]
  have hx1:(execOp a1.eval o1).run P w1 = .ok (.value (.slice B n c)) w1:=by
   unfold execOp;rw [p1];have:a1.eval (.tmp 0) = .slice B n c:=hv1;simp [this]
  have hs3:3<a1.tmps.size:=by rw [h1.size,hn1];omega
  have r2:Rel X ρ1 (st1.setT 3 .unk) (Zci a1 3 (.slice B n c)) w1:=h1.setT (by rw [hn1];omega) trivial;have hs4:4<(Zci a1 3 (.slice B n c)).tmps.size:=by rw [r2.size];show 4<st1.n;rw [hn1];exact h4
  refine .inl ?_;unfold Oper.wp;rw [hx1];show wpList P #[o1,o2] Q2 [o2] (a1.put o1.dst (.slice B n c)) w1;rw [d1];show wpList P #[o1,o2] Q2 [o2] (Zci a1 3 (.slice B n c)) w1;unfold wpList;rw [Xc (by simp [Region.wanted,g2])]
  have hx2:(execOp (Zci a1 3 (.slice B n c)).eval o2).run P w1 = .ok (.value (.bool B.isNone)) w1:=by
   unfold execOp;rw [p2];have e3:(Zci a1 3 (.slice B n c)).eval (.tmp 3) = .slice B n c:=(Zul a1 3 (.slice B n c) hs3 3).trans (Xc rfl);have e5:(Zci a1 3 (.slice B n c)).eval (.const (.slice none 0 0)) = .slice none 0 0:=rfl;simp [e3,e5,Znpb hu,Go.eqGuard]
  refine .inl ?_;unfold Oper.wp;rw [hx2];show wpList P #[o1,o2] Q2 [] ((Zci a1 3 (.slice B n c)).put o2.dst (.bool B.isNone)) w1;rw [d2];refine hk (Zci (Zci a1 3 (.slice B n c)) 4 (.bool B.isNone)) (r2.setT (by show 4<st1.n;rw [hn1];exact h4) rfl) ((Zul _ 4 _ hs4 4).trans (Xc rfl)) fun i hi=>?_
  rw [Zul _ 4 _ hs4 i,Xd (fun q=>hi (by rw [q];simp)),Zul a1 3 _ hs3 i,Xd (fun q=>hi (by rw [q];simp))]
 have h0A:(0:Nat)∉Zjd A:=fun hm=>by
  have:(Zjd A).any (Ya 0)=true:=Yy.2 ⟨0,hm,rfl⟩;rw [hd] at this;cases this
 have hdR:Zjd (.region i1 #[o1,o2] false)=[3,4]:=by
  show [o1,o2].filterMap (·.dst)=_;simp [d1,d2]
 have subA:∀i,i∈Zjd A→i∈Zjd (.seq A (.seq (.seq (.region i1 #[o1,o2] false) (.cond (.tmp 4) N .skip)) Z)):=fun i hi=>Yi _ hi
 have subR:∀i,i∈([3,4]:List Nat)→i∈Zjd (.seq A (.seq (.seq (.region i1 #[o1,o2] false) (.cond (.tmp 4) N .skip)) Z)):=fun i hi=>Yh _ (Yi _ (Yi _ (by rw [hdR];exact hi)))
 have subN:∀i,i∈Zjd N→i∈Zjd (.seq A (.seq (.seq (.region i1 #[o1,o2] false) (.cond (.tmp 4) N .skip)) Z)):=fun i hi=>Yh _ (Yi _ (Yh _ (Yi _ hi)))
 have subZ:∀i,i∈Zjd Z→i∈Zjd (.seq A (.seq (.seq (.region i1 #[o1,o2] false) (.cond (.tmp 4) N .skip)) Z)):=fun i hi=>Yh _ (Yh _ hi)
 cases hB:B with
 | none=>
  refine wp_seq (Zqr H A (Ze0 A) hrel (hyes x y hx (hnil hB)) _ ?_);intro e1 ρ1 st1 a1 w1 k1 k2 k3 k4 k5;cases e1 with
  | exit _=>cases k1
  | ret=>cases k1
  | nrm=>
   refine wp_seq (wp_seq (test _ k2 (k4.trans hsn) ((k5 0 h0A).trans hv) ?_));intro a2 r3 e4 sb;rw [hB] at r3 e4;refine wp_cond_true e4 (Zqr H N (Ze0 N) r3 k1 _ ?_);intro e2 ρ2 st2 a3 w2 m1 m2 m3 m4 m5;cases e2 with
   | nrm=>cases m1
   | exit _=>cases m1
   | ret=>exact hq .ret ρ2 st2 a3 w2 m1 m2 (k3.trans m3) (m4.trans k4) ((k5.mono subA).trans ((Zpf.mono sb subR).trans (m5.mono subN)))
 | some b=>
  refine wp_seq (Zqr H A (Ze0 A) hrel (hno x y hx) _ ?_);intro e1 ρ1 st1 a1 w1 k1 k2 k3 k4 k5;cases e1 with
  | exit _=>cases k1
  | ret=>cases k1
  | nrm=>
   refine wp_seq (wp_seq (test _ k2 (k4.trans hsn) ((k5 0 h0A).trans hv) ?_));intro a2 r3 e4 sb;rw [hB] at r3 e4;refine wp_cond_false e4 (wp_skip ?_);refine Zqr H Z (Ze0 Z) r3 k1 Q ?_;intro e2 ρ2 st2 a3 w2 m1 m2 m3 m4 m5;exact hq e2 ρ2 st2 a3 w2 m1 m2 (k3.trans m3) (m4.trans k4) ((k5.mono subA).trans ((Zpf.mono sb subR).trans (m5.mono subZ)))
end
end Go.Proofs.Qz
