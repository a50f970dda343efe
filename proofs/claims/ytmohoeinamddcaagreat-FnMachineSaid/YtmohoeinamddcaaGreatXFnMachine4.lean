/- What the law FnMachine needs, part 5 of 16: the Lean functions of the Go functions that it reaches, with the proofs that the calls come to what they say, and plain facts about them. Conditions: those that each theorem states. Written by a session and by its programs (after the kit's printer). -/
import Derived.Test.YtmohoeinamddcaaGreatXFnMachine3
open Nat renaming beq → Ya, eq_of_beq_eq_true → Yf, le_refl → Yg, eq_or_lt_of_le → Yw, zero_add → Yx, le_of_lt_succ → Y1, lt_succ_of_lt → Yaa, lt_succ_self → Yba, zero_le → Yca, add_zero → Ypa, beq_refl → Yqa, lt_or_ge → Yra, lt_or_gt_of_ne → Ysa, strongRecOn → Yta, testBit_or → Yua
open List renaming mem_append → Yb, mem_append_left → Yc, Perm → Yd, mem_append_right → Ye, append_assoc → Yh, filterMap_append → Yi, mem_singleton → Yj, mem_filterMap → Yk, Sublist → Ym, mem_cons → Yn, mem_cons_of_mem → Yo, filterMap_cons_none → Yr, filterMap_cons_some → Ys, nodup_append → Yt, append_nil → Yu, mem_cons_self → Yv, nodup_cons → Yz, range → Y0, getElem?_append_left → Y5, getElem?_eq_none → Y6, length_reverse → Y7, mem_filter → Y8, mem_range → Y9, any_eq_true → Yha, cons_append → Yia, filterMap → Yja, getElem?_append_right → Yka, getElem?_eq_some_iff → Yla, mem_map → Yma, mem_of_getElem? → Yna, perm_append_comm → Yoa
open Bool renaming and_eq_true → Yl, or_eq_true → Y4
open Array renaming getD_eq_getD_getElem? → Yp, replicate → Yq, getElem?_eq_some_iff → Yy, getElem?_eq_getElem → Y2, mem_toList_iff → Y3, all_eq_true_iff_forall_mem → Yda, getElem?_replicate → Yea, getElem?_toList → Yfa, length_toList → Yga
open Option renaming mem_toList → Yva
namespace Go.Proofs.Qz
open Go Go.RowKit
set_option linter.unusedVariables false
section
variable {P:Program} {o:Oper} {X:Nat→Prop} {ρ ρ':Rho} {st st':St} {a:Act} {w w':World} {R:Type} {r:R} {C:Ctx} {ops:Array Oper} {s:Nat→St} {rc:Nat→Rec}
def Rdy (ops:Array Oper) (S:Nat→Prop) (i:Nat):Prop:=∀o,ops[i]? = some o→∀e∈o.after.toList,Region.binds .any e=true→S e.on
theorem Z4x {rs:List Rec}:∀{es:List Edge} {m:Nat},Zfp rs es=some m→(∀e∈es,Region.binds .any e=true→∃q,rs.reverse[e.on]? = some q)∧∀j,m.testBit j=true→∃e∈es,Region.binds .any e=true∧∃q,rs.reverse[e.on]? = some q∧(j=e.on∨q.anc.testBit j=true)
 | [],m,h=>by
  cases h;exact ⟨(fun e he=>nomatch he),fun j hj=>by simp at hj⟩
 | e::es,m,h=>by
  unfold Zfp at h;cases hb:Region.binds .any e with
  | false=>
   rw [hb] at h;obtain ⟨i1,i2⟩:=Z4x (es:=es) h;refine ⟨fun x hx hxb=>?_,fun j hj=>?_⟩
   ·rcases Yn.1 hx with rfl | hx
    ·rw [hb] at hxb;cases hxb
    ·exact i1 x hx hxb
   ·obtain ⟨x,h1,h2⟩:=i2 j hj
    exact ⟨x,Yo _ h1,h2⟩
  | true=>
   rw [hb] at h
   replace h:(match rs.reverse[e.on]?,Zfp rs es with
    | some r,some m=>some (r.anc ||| (1 <<< e.on) ||| m)
    | _,_=>none)=some m:=h
   split at h
   ·rename_i q m' hq hm'
    cases h;obtain ⟨i1,i2⟩:=Z4x hm';refine ⟨fun x hx hxb=>?_,fun j hj=>?_⟩
    ·rcases Yn.1 hx with rfl | hx
     ·exact ⟨q,hq⟩
     ·exact i1 x hx hxb
    ·rw [Yua,Yua] at hj
     rcases (Y4 _ _).mp hj with hj | hj
     ·rcases (Y4 _ _).mp hj with hj | hj
      ·exact ⟨e,Yv,hb,q,hq,.inr hj⟩
      ·refine ⟨e,Yv,hb,q,hq,.inl ?_⟩
       rw [Nat.one_shiftLeft,Nat.testBit_two_pow] at hj;exact (of_decide_eq_true hj).symm
     ·obtain ⟨x,h1,h2⟩:=i2 j hj
      exact ⟨x,Yo _ h1,h2⟩
   ·cases h
theorem Zn2 (rc:Nat→Rec):∀(k i:Nat) (q:Rec),(Z4f rc k).reverse[i]? = some q→i<k∧q=rc i
 | 0,i,q,h=>by simp [Z4f] at h
 | k+1,i,q,h=>by
  rw [show Z4f rc (k+1)=rc k::Z4f rc k from rfl,List.reverse_cons] at h;rcases Yra i k with hlt | hge
  ·rw [Y5 (by rw [Y7,Zov];exact hlt)] at h
   obtain ⟨h1,h2⟩:=Zn2 rc k i q h;exact ⟨Yaa h1,h2⟩
  ·rw [Yka (by rw [Y7,Zov];exact hge),Y7,Zov] at h
   have:i-k=0:=by
    rcases Nat.eq_zero_or_pos (i-k) with h0 | h0
    ·exact h0
    ·rw [Y6 (by rw [List.length_singleton];omega)] at h;cases h
   rw [this] at h;cases h;have:i=k:=by omega
   subst this;exact ⟨Yba i,rfl⟩
theorem Zl8 {n:Nat} (hI:∀i,i<n→Info P ops s rc i) {S:Nat→Prop} (hC:∀i,S i→Rdy ops S i):∀k,k<n→Rdy ops S k→∀j,(rc k).anc.testBit j=true→S j:=by
 intro k
 induction k using Yta with
 | _ k ih=>
  intro hk hr j hj;obtain ⟨o,ho,ha⟩:=(hI k hk).anc;obtain ⟨e,he,hb,q,hq,hj⟩:=(Z4x ha).2 j hj;obtain ⟨h1,rfl⟩:=Zn2 rc k _ q hq;have hS:=hr o ho e he hb;rcases hj with rfl | hj
  ·exact hS
  ·exact ih e.on h1 (by omega) (hC _ hS) j hj
theorem Zv5 (rc:Nat→Rec) {q:Rec}:∀{k:Nat},okR (Z4f rc k) q=true→∀j,j<k→q.anc.testBit j=true∨Zrr (rc j) q=true
 | 0,_,j,hj=>nomatch hj
 | k+1,h,j,hj=>by
  replace h:((Nat.testBit q.anc (Z4f rc k).length||Zrr (rc k) q)&&okR (Z4f rc k) q)=true:=h;obtain ⟨h1,h2⟩:=(Yl _ _).mp h;rcases Yw (Y1 hj) with rfl | hj
  ·rw [Zov] at h1
   exact (Y4 _ _).mp h1
  ·exact Zv5 rc h2 j hj
theorem Zjt {xs ys:List Nat} (h:Z4r xs ys=true) {n:Nat} (hx:n∈xs) (hy:n∈ys):False:=Zxy h n hx hy
structure Apart (j k:Rec):Prop where
 a:∀t,t∈j.dst→t∈k.fp.rt→False
 b:∀t,t∈j.dst→t∈k.dst→False
 c:∀t,t∈k.dst→t∈j.fp.rt→False
 d:∀t,t∈j.fp.wb→t∈k.fp.rb→False
 e:∀t,t∈j.fp.wb→t∈k.fp.wb→False
 f:∀t,t∈j.fp.rb→t∈k.fp.wb→False
theorem Z5x {j k:Rec} (h:Zrr j k=true):Apart j k:=by
 unfold Zrr at h
 simp only [Yl] at h
 obtain ⟨⟨⟨⟨⟨h1,h2⟩,h3⟩,h4⟩,h5⟩,h6⟩:=h
 exact ⟨fun t x y=>Zjt h1 x y,fun t x y=>Zjt h2 x y,fun t x y=>Zjt h3 x y,fun t x y=>Zjt h4 x y,fun t x y=>Zjt h5 x y,fun t x y=>Zjt h6 x y⟩
def Zui {α:Type} (S wr:Nat→Bool) (val:Nat→α):Nat→α→α
 | 0,e=>e
 | n+1,e=>if S n&&wr n then val n else Zui S wr val n e
theorem Zfw {α:Type} {S S' wr:Nat→Bool} {val:Nat→α} {e:α}:∀{n:Nat},(∀j,j<n→wr j=true→S j=S' j)→Zui S wr val n e=Zui S' wr val n e
 | 0,_=>rfl
 | n+1,h=>by
  unfold Zui;rw [Zfw (n:=n) fun j hj=>h j (Yaa hj)];cases hw:wr n with
  | false=>simp
  | true=>rw [h n (Yba n) hw]
theorem Zncb {α:Type} {wr:Nat→Bool} {x:Nat→α}:∀{n:Nat},(∀j,j<n→wr j=false→x (j+1)=x j)→Zui (fun _=>true) wr (fun j=>x (j+1)) n (x 0)=x n
 | 0,_=>rfl
 | n+1,h=>by
  unfold Zui;cases hw:wr n with
  | false=>
   rw [h n (Yba n) hw];exact Zncb fun j hj=>h j (Yaa hj)
  | true=>rfl
theorem Zmcb {α:Type} {wr:Nat→Bool} {val:Nat→α} {e:α} {k:Nat}:∀{n:Nat},k≤n→Zui (fun j=>decide (j<k)) wr val n e=Zui (fun _=>true) wr val k e
 | 0,h=>by
  obtain rfl:k=0:=by omega
  rfl
 | n+1,h=>by
  rcases Yw h with rfl | h
  ·refine Zfw fun j hj _=>by simpa using hj
  ·rw [← Zmcb (n:=n) (by omega)]
   show (if decide (n<k)&&wr n then val n else Zui _ wr val n e)=_;rw [Xb (by omega:¬n<k)];rfl
theorem Z2t {α:Type} {S wr:Nat→Bool} {x:Nat→α} {n k:Nat} (hx:∀j,j<n→wr j=false→x (j+1)=x j) (hk:k≤n) (hS:∀j,j<n→wr j=true→S j=decide (j<k)):Zui S wr (fun j=>x (j+1)) n (x 0)=x k:=by
 rw [Zfw hS,Zmcb hk]
 exact Zncb fun j hj=>hx j (by omega)
def wrB (rc:Nat→Rec) (b:Nat) (j:Nat):Bool:=(rc j).fp.wb.any (Ya b)
def wrT (rc:Nat→Rec) (t:Nat) (j:Nat):Bool:=(rc j).dst.any (Ya t)
theorem Zzm {l:List Nat} {n:Nat}:l.any (Ya n)=true ↔ n∈l:=by
 constructor
 ·intro h
  obtain ⟨x,h1,h2⟩:=Yha.1 h;rw [Yf h2];exact h1
 ·exact fun h=>Yha.2 ⟨n,h,Yqa n⟩
theorem Zn8 {l:List Nat} {n:Nat} (h:n∉l):l.any (Ya n)=false:=by
 cases hb:l.any (Ya n) with
 | false=>rfl
 | true=>exact absurd (Zzm.1 hb) h
theorem Z7z {l:List Nat} {n:Nat} (h:l.any (Ya n)=false):n∉l:=fun hm=>by
 rw [Zzm.2 hm] at h;cases h
structure Inv (ops:Array Oper) (s:Nat→St) (rc:Nat→Rec) (N:Nat) (X:Nat→Prop) (S:Nat→Bool) (ρ:Rho) (st:St) (a:Act) (w:World):Prop where
 rel:Rel X ρ st a w
 n:st.n=(s 0).n
 gs:st.gs=[]
 tm:∀t,Zz .unk st.tmps t=Zui S (wrT rc t) (fun j=>Zz .unk (s (j+1)).tmps t) N (Zz .unk (s 0).tmps t)
 en:∀b,st.ent b=Zui S (wrB rc b) (fun j=>(s (j+1)).ent b) N ((s 0).ent b)
 free:∀i,(∃j,j<N∧S j=false∧(s j).nb≤i∧i<(s (j+1)).nb)∨((s N).nb≤i∧i<1000000)→ρ i=none
theorem Rel.names (h:Rel X ρ st a w) {nb lim:Nat} {res:List (Nat×Nat)} (f:Zzk ρ { st with nb:=nb,lim:=lim,res:=res }):Rel X ρ { st with nb:=nb,lim:=lim,res:=res } a w:=⟨h.defers,h.size,h.sep,h.lt,h.ents,h.tmps,h.gs,f,h.xlt,h.gl⟩
theorem Rel.same (h:Rel X ρ st a w) (hn:st'.n=st.n) (hg:st'.gs=[]) (ht:∀t,Zz .unk st'.tmps t=Zz .unk st.tmps t) (he:∀b,st'.ent b=st.ent b) (f:Zzk ρ st'):Rel X ρ st' a w:=
 ⟨h.defers,by rw [hn];exact h.size,h.sep,h.lt,fun i=>by rw [he];exact h.ents i,fun i=>by rw [ht];exact h.tmps i,(fun i t b x hm=>by rw [hg] at hm;cases hm),f,h.xlt,h.gl⟩
theorem Zhs {N:Nat} (hI:∀i,i<N→Info P ops s rc i):∀{i j:Nat},i≤j→j≤N→(s i).nb≤(s j).nb
 | i,0,h,_=>by
  obtain rfl:i=0:=by omega
  exact Yg _
 | i,j+1,h,hj=>by
  rcases Yw h with rfl | h
  ·exact Yg _
  ·exact Nat.le_trans (Zhs hI (Y1 h) (by omega)) (hI j (by omega)).step.nb
theorem Zc1 {N:Nat} (hI:∀i,i<N→Info P ops s rc i) (hg:(s 0).gs=[]):∀{i:Nat},i≤N→(s i).n=(s 0).n∧(s i).gs=[]∧(s i).lim=(s 0).lim∧(s i).res=(s 0).res
 | 0,_=>⟨rfl,hg,rfl,rfl⟩
 | i+1,h=>by
  obtain ⟨h1,h2,h3,h4⟩:=Zc1 hI hg (i:=i) (by omega);have:=(hI i (by omega)).step;exact ⟨this.n.trans h1,this.gs h2,this.lim.trans h3,this.res.trans h4⟩
theorem Zqmb {N:Nat} (hN:(s N).nb≤1000000) (hI:∀i,i<N→Info P ops s rc i) (hg0:(s 0).gs=[]) {S:Nat→Bool} (hC:∀i,S i=true→Rdy ops (fun j=>S j=true) i) {k:Nat} (hk:k<N) (hkS:S k=false) (hR:Rdy ops (fun j=>S j=true) k)
  (h:Inv ops s rc N X S ρ st a w) {S':Nat→Bool} (hS':∀j,S' j=if j=k then true else S j) (Q:Exit→Act→World→Prop) (K:Act→World→Prop)
  (hq:∀ρ' st' a' w',Inv ops s rc N X S' ρ' st' a' w'→Ext ρ w ρ' w'→(∀t,(∀o,ops[k]? = some o→o.dst≠some t)→Z1 a' t=Z1 a t)→K a' w'):wpOp P ops Q k K a w:=by
 have info:=hI k hk
 have hlt:=Zv5 rc info.ok
 have hanc:=Zl8 hI hC k hk hR
 have done:∀(wr:Nat→Bool),(∀j,j<k→wr j=true→Zrr (rc j) (rc k)=true→False)→(∀j,k<j→j<N→wr j=true→Zrr (rc k) (rc j)=true→False)→∀j,j<N→wr j=true→j≠k→S j=decide (j<k):=by
  intro wr h1 h2 j hj hw hne;rcases Ysa hne with hlt' | hgt
  ·rw [Xa hlt']
   rcases hlt j hlt' with h | h
   ·exact hanc j h
   ·exact (h1 j hlt' hw h).elim
  ·rw [Xb (by omega)]
   cases hSj:S j with
   | false=>rfl
   | true=>
    rcases Zv5 rc (hI j hj).ok k hgt with h | h
    ·have:=Zl8 hI hC j hj (hC j hSj) k h
     rw [hkS] at this;cases this
    ·exact (h2 j hgt hj hw h).elim
 have Zbk:∀b,b∈(rc k).fp.rb∨b∈(rc k).fp.wb→∀j,j<N→wrB rc b j=true→j≠k→S j=decide (j<k):=fun b hb=>done _ (fun j _ hw hap=>by
   have hap:=Z5x hap;rcases hb with hb | hb
   ·exact hap.d b (Zzm.1 hw) hb
   ·exact hap.e b (Zzm.1 hw) hb) fun j _ _ hw hap=>by
   have hap:=Z5x hap;rcases hb with hb | hb
   ·exact hap.f b hb (Zzm.1 hw)
   ·exact hap.e b hb (Zzm.1 hw)
 have doneT:∀t,t∈(rc k).fp.rt∨t∈(rc k).dst→∀j,j<N→wrT rc t j=true→j≠k→S j=decide (j<k):=fun t ht=>done _ (fun j _ hw hap=>by
   have hap:=Z5x hap;rcases ht with ht | ht
   ·exact hap.a t (Zzm.1 hw) ht
   ·exact hap.b t (Zzm.1 hw) ht) fun j _ _ hw hap=>by
   have hap:=Z5x hap;rcases ht with ht | ht
   ·exact hap.c t (Zzm.1 hw) ht
   ·exact hap.b t ht (Zzm.1 hw)
 have before:∀{wr:Nat→Bool},(∀j,j<N→wr j=true→j≠k→S j=decide (j<k))→∀j,j<N→wr j=true→S j=decide (j<k):=fun hd j hj hw=>by
  by_cases e:j=k
  ·subst e;rw [hkS];simp
  ·exact hd j hj hw e
 have after:∀{wr:Nat→Bool},(∀j,j<N→wr j=true→j≠k→S j=decide (j<k))→∀j,j<N→wr j=true→S' j=decide (j<k+1):=fun hd j hj hw=>by
  rw [hS' j]
  by_cases e:j=k
  ·subst e;rw [Xc rfl];simp
  ·rw [Xd e,hd j hj hw e]
   by_cases hjk:j<k
   ·rw [Xa hjk,Xa (by omega)]
   ·rw [Xb hjk,Xb (by omega)]
 have other:∀{wr:Nat→Bool},wr k=false→∀j,j<N→wr j=true→S' j=S j:=fun hw j _ hw2=>by
  rw [hS' j,Xd (fun e=>by rw [e,hw] at hw2;cases hw2)]
 have textB:∀b j,j<N→wrB rc b j=false→(s (j+1)).ent b=(s j).ent b:=fun b j hj hw=>(hI j hj).step.outB b (Z7z hw)
 have textT:∀t j,j<N→wrT rc t j=false→Zz .unk (s (j+1)).tmps t=Zz .unk (s j).tmps t:=fun t j hj hw=>(hI j hj).step.outT t (Z7z hw)
 let wins:List (Nat×Nat):=((Y0 N).filter fun j=>!S j && !(Ya j k)).map fun j=>((s j).nb,(s (j+1)).nb)
 have hwins:∀p,p∈wins ↔ ∃j,j<N∧S j=false∧j≠k∧p=((s j).nb,(s (j+1)).nb):=by
  intro p;constructor
  ·intro hp
   obtain ⟨j,hj,rfl⟩:=Yma.1 hp;obtain ⟨h1,h2⟩:=Y8.1 hj;obtain ⟨h3,h4⟩:=(Yl _ _).mp h2;refine ⟨j,Y9.1 h1,by simpa using h3,fun e=>?_,rfl⟩;subst e;rw [Yqa] at h4;cases h4
  ·rintro ⟨j,h1,h2,h3,rfl⟩
   refine Yma.2 ⟨j,Y8.2 ⟨Y9.2 h1,?_⟩,rfl⟩;rw [h2];cases hb:Ya j k with
   | false=>rfl
   | true=>exact absurd (Yf hb) h3
 let st2:St:={ st with nb:=(s k).nb,lim:=(s (k+1)).nb,res:=((s N).nb,1000000)::wins }
 have hfree:Zzk ρ st2:=by
  refine ⟨fun i hi=>h.free i ?_,fun p hp=>?_⟩
  ·rcases hi with hi | ⟨p,hp,hi⟩
   ·exact .inl ⟨k,hk,hkS,hi⟩
   ·rcases Yn.1 hp with rfl | hp
    ·exact .inr hi
    ·obtain ⟨j,h1,h2,_,rfl⟩:=(hwins p).1 hp
     exact .inl ⟨j,h1,h2,hi⟩
  ·rcases Yn.1 hp with rfl | hp
   ·exact .inr (Zhs hI hk (Yg _))
   ·obtain ⟨j,h1,h2,h3,rfl⟩:=(hwins p).1 hp
    rcases Ysa h3 with h4 | h4
    ·exact .inl (Zhs hI h4 (by omega))
    ·exact .inr (Zhs hI h4 (by omega))
 have hrel2:Rel X ρ st2 a w:=h.rel.names hfree
 obtain ⟨kn,kg,_,_⟩:=Zc1 hI hg0 (i:=k) (by omega)
 have hagr:Agr (rc k).fp (s k) st2:=by
  refine ⟨fun t ht=>?_,fun b hb=>?_⟩
  ·rw [Zr1 (show st2.gs=[] from h.gs),Zr1 kg]
   show Zz .unk st.tmps t=_;rw [h.tm t];exact Z2t (x:=fun j=>Zz .unk (s j).tmps t) (textT t) (by omega) (before (doneT t (.inl ht)))
  ·show st.ent b=_
   rw [h.en b];exact Z2t (x:=fun j=>(s j).ent b) (textB b) (by omega) (before (Zbk b hb))
 refine info.step.exec X ρ st2 a w hrel2 h.gs hagr (h.n.trans kn.symm) rfl (Yg _) Q K ?_
 intro ρ' st2' a' w' q1 q2 q3 q4 q5 q6 q7 q8 q9 q10 q11 q12
 refine hq ρ' st2' a' w' ⟨q1,q4.trans h.n,q3,fun t=>?_,fun b=>?_,fun i hi=>q1.fresh.1 i ?_⟩ q2 fun t ht=>q12 t fun hm=>?_
 ·by_cases ht:t∈(rc k).dst
  ·rw [q10 t ht]
   exact (Z2t (x:=fun j=>Zz .unk (s j).tmps t) (textT t) (by omega:k+1≤N) (after (doneT t (.inr ht)))).symm
  ·rw [q11 t ht]
   show Zz .unk st.tmps t=_;rw [h.tm t];exact (Zfw (other (Zn8 ht))).symm
 ·by_cases hb:b∈(rc k).fp.wb
  ·rw [q8 b hb]
   exact (Z2t (x:=fun j=>(s j).ent b) (textB b) (by omega:k+1≤N) (after (Zbk b (.inr hb)))).symm
  ·rw [q9 b hb]
   show st.ent b=_;rw [h.en b];exact (Zfw (other (Zn8 hb))).symm
 ·unfold St.fr
  rw [q7];rcases hi with ⟨j,h1,h2,h3⟩ | hi
  ·rw [hS' j] at h2
   by_cases e:j=k
   ·rw [Xc e] at h2;cases h2
   ·rw [Xd e] at h2
    exact .inr ⟨_,Yo _ ((hwins _).2 ⟨j,h1,h2,e,rfl⟩),h3⟩
  ·exact .inr ⟨_,Yv,hi⟩
 ·obtain ⟨o,ho1,ho2⟩:=info.step.dst t hm
  exact ht o ho1 ho2
theorem Z1z {listed:Array Bool} {i:Nat}:i∈Region.ready .any ops listed ↔ i<ops.size∧listed.getD i true=false∧((ops[i]?).map (·.after.all fun e=>!Region.binds .any e||listed.getD e.on false)).getD false=true:=by
 unfold Region.ready
 rw [Y8,Y9,Yl]
 constructor
 ·rintro ⟨h1,h2,h3⟩
  exact ⟨h1,by simpa using h2,h3⟩
 ·rintro ⟨h1,h2,h3⟩
  exact ⟨h1,by rw [h2];rfl,h3⟩
theorem Zieb {listed:Array Bool} {i:Nat} (h:i∈Region.ready .any ops listed):Rdy ops (fun j=>listed.getD j false=true) i:=by
 obtain ⟨_,_,h3⟩:=Z1z.1 h
 intro o ho e he hb
 rw [ho] at h3
 have:=Yda.1 (show (o.after.all fun e=>!Region.binds .any e||listed.getD e.on false)=true from h3) e (Y3.1 he)
 rw [hb] at this
 simpa using this
def cnt (S:Nat→Bool):Nat→Nat
 | 0=>0
 | n+1=>cnt S n+(if S n then 0 else 1)
theorem Z09 {S:Nat→Bool}:∀{n:Nat},cnt S n=0→∀i,i<n→S i=true
 | 0,_,i,h=>nomatch h
 | n+1,h,i,hi=>by
  unfold cnt at h;cases hs:S n with
  | false=>rw [hs] at h;simp at h
  | true=>
   rw [hs] at h;rcases Yw (Y1 hi) with rfl | hi
   ·exact hs
   ·exact Z09 (by simpa using h) i hi
theorem Zz9 {S S':Nat→Bool} {k:Nat} (hkS:S k=false) (hS':∀j,S' j=if j=k then true else S j):∀{n:Nat},(k<n→cnt S n=cnt S' n+1)∧(n≤k→cnt S n=cnt S' n)
 | 0=>⟨(fun h=>nomatch h),fun _=>rfl⟩
 | n+1=>by
  obtain ⟨i1,i2⟩:=Zz9 hkS hS' (n:=n);refine ⟨fun h=>?_,fun h=>?_⟩
  ·unfold cnt
   rcases Yw (Y1 h) with rfl | h
   ·rw [i2 (Yg _),hkS,hS' k,Xc rfl]
    simp
   ·have hne:¬n=k:=by omega
    rw [i1 h,hS' n,Xd hne];omega
  ·unfold cnt
   have hne:¬n=k:=by omega
   rw [i2 (by omega),hS' n,Xd hne]
theorem Zuhb {N:Nat} (hNs:ops.size=N) (hN:(s N).nb≤1000000) (hI:∀i,i<N→Info P ops s rc i) (hg0:(s 0).gs=[]) (hl0:(s 0).lim=1000000) (hr0:(s 0).res=[]) {Q:Exit→Act→World→Prop}:∀(fuel:Nat) (listed:Array Bool) (ρ:Rho) (st:St) (a:Act) (w:World),listed.size=N→(∀i,listed.getD i false=true→Rdy ops (fun j=>listed.getD j false=true) i)→cnt (fun i=>listed.getD i false) N≤fuel →
  Inv ops s rc N X (fun i=>listed.getD i false) ρ st a w→(∀ρ' a' w',Rel X ρ' (s N) a' w'→Ext ρ w ρ' w'→(∀t,(∀(i:Nat) (o:Oper),ops[i]? = some o→o.dst≠some t)→Z1 a' t=Z1 a t)→Q .normal a' w') →
  wpAny P .any ops Q fuel listed a w:=by
 intro fuel
 have fin:∀(listed:Array Bool) (ρ:Rho) (st:St) (a:Act) (w:World),(∀i,i<N→listed.getD i false=true)→Inv ops s rc N X (fun i=>listed.getD i false) ρ st a w→(∀ρ' a' w',Rel X ρ' (s N) a' w'→Ext ρ w ρ' w'→(∀t,(∀(i:Nat) (o:Oper),ops[i]? = some o→o.dst≠some t)→Z1 a' t=Z1 a t)→Q .normal a' w')→Q .normal a w:=by
  intro listed ρ st a w hall h hq;obtain ⟨n1,n2,n3,n4⟩:=Zc1 hI hg0 (i:=N) (Yg _);refine hq ρ a w (h.rel.same (n1.trans h.n.symm) n2 (fun t=>?_) (fun b=>?_) ⟨fun i hi=>?_,fun p hp=>?_⟩) (Ext.refl _ _) fun _ _=>rfl
  ·rw [h.tm t]
   exact (Z2t (S:=fun i=>listed.getD i false) (x:=fun j=>Zz .unk (s j).tmps t) (fun j hj hw=>(hI j hj).step.outT t (Z7z hw)) (Yg _) fun j hj _=>(hall j hj).trans (Xa hj).symm).symm
  ·rw [h.en b]
   exact (Z2t (S:=fun i=>listed.getD i false) (x:=fun j=>(s j).ent b) (fun j hj hw=>(hI j hj).step.outB b (Z7z hw)) (Yg _) fun j hj _=>(hall j hj).trans (Xa hj).symm).symm
  ·rcases hi with hi | ⟨p,hp,_⟩
   ·exact h.free i (.inr ⟨hi.1,by rw [← hl0,← n3];exact hi.2⟩)
   ·rw [n4,hr0] at hp;cases hp
  ·rw [n4,hr0] at hp;cases hp
 have live:∀(listed:Array Bool),listed.size=N→Region.ready .any ops listed=[]→∀i,i<N→listed.getD i false=true:=by
  intro listed hsz hnil i
  induction i using Yta with
  | _ i ih=>
   intro hi;cases hl:listed.getD i false with
   | true=>rfl
   | false=>
    exfalso
    have hmem:i∈Region.ready .any ops listed:=by
     refine Z1z.2 ⟨by omega,?_,?_⟩
     ·rw [Yp] at hl ⊢
      rw [Y2 (by omega)] at hl ⊢;exact hl
     ·obtain ⟨o,ho,ha⟩:=(hI i hi).anc
      rw [ho];show (o.after.all fun e=>!Region.binds .any e||listed.getD e.on false)=true;refine Yda.2 fun e he=>?_
      cases hb:Region.binds .any e with
      | false=>rfl
      | true=>
       obtain ⟨q,hq⟩:=(Z4x ha).1 e (Y3.2 he) hb;obtain ⟨h1,_⟩:=Zn2 rc i _ q hq;rw [ih e.on h1 (by omega)];rfl
    rw [hnil] at hmem;cases hmem
 induction fuel with
 | zero=>
  intro listed ρ st a w hsz hC hc h hq;have hall:=Z09 (Nat.le_zero.1 hc);refine ⟨?_,fin listed ρ st a w hall h hq⟩;cases hr:Region.ready .any ops listed with
  | nil=>rfl
  | cons i is=>
   exfalso;have hm:i∈Region.ready .any ops listed:=by rw [hr];exact Yv
   obtain ⟨h1,h2,_⟩:=Z1z.1 hm;have:=hall i (by omega);rw [Yp,Y2 (by omega)] at this h2;have h2:listed[i]=false:=h2;have this:listed[i]=true:=this;rw [h2] at this;cases this
 | succ fuel ih=>
  intro listed ρ st a w hsz hC hc h hq;refine ⟨fun hnil=>fin listed ρ st a w (live listed hsz hnil) h hq,fun k hk=>?_⟩;obtain ⟨k1,k2,_⟩:=Z1z.1 hk;have hkN:k<N:=by omega
  have hkS:listed.getD k false=false:=by
   rw [Yp,Y2 (by omega)] at k2 ⊢;exact k2
  have hS':∀j,(listed.setIfInBounds k true).getD j false=if j=k then true else listed.getD j false:=fun j=>by
   rw [Yp,Array.getElem?_setIfInBounds]
   by_cases e:k=j
   ·subst e;rw [Xc rfl,Xc rfl,Xc (by omega)];rfl
   ·rw [Xd e,Xd (fun q=>e q.symm),Yp]
  refine Zqmb hN hI hg0 hC hkN hkS (Zieb hk) h (S':=fun i=>(listed.setIfInBounds k true).getD i false) hS' Q _ ?_;intro ρ' st' a' w' h' hx hs;refine ih (listed.setIfInBounds k true) ρ' st' a' w' (by simpa using hsz) ?_ ?_ h' fun ρ2 a2 w2 e1 e2 e3=>hq ρ2 a2 w2 e1 (hx.trans e2) fun t ht=>(e3 t ht).trans (hs t (ht k))
  ·intro i hi o ho e he hb
   rw [hS' e.on]
   by_cases q:e.on=k
   ·rw [Xc q]
   ·rw [Xd q]
    rw [hS' i] at hi
    by_cases q2:i=k
    ·subst q2
     exact Zieb hk o ho e he hb
    ·rw [Xd q2] at hi
     exact hC i hi o ho e he hb
  ·have:=(Zz9 (S:=fun i=>listed.getD i false) (S':=fun i=>(listed.setIfInBounds k true).getD i false) hkS hS' (n:=N)).1 hkN
   omega
theorem Rel.drawn (h:Rel X ρ st a w):Rel X ρ st a { w with drawn:=w.drawn+1 }∧Ext ρ w ρ { w with drawn:=w.drawn+1 }:=by
 have x:Ext ρ w ρ { w with drawn:=w.drawn+1 }:=⟨rfl,rfl,rfl,Yg _,fun _ _ _=>rfl,fun i _ h=>.inl ⟨i,h⟩,fun _ _ h=>.inl h⟩
 exact ⟨⟨h.defers,h.size,h.sep,h.lt,fun i=>Zid.ext (h.ents i) x rfl fun b hb=>rfl,fun i=>(h.tmps i).ext x,fun i t b y hm=>(h.gs i t b y hm).imp (fun h=>⟨h.1,h.2.ext x⟩) id,h.fresh,h.xlt,h.gl.ext x⟩,x⟩
theorem Zljb (H:CtxOk P C) {K:St→Option R} {id:Nat} (h:Rel X ρ st a w) (hr:Zyy C ops st K=some r) (Q:Exit→Act→World→Prop)
  (hq:∀ρ' st' a' w',K st'=some r→Rel X ρ' st' a' w'→Ext ρ w ρ' w'→st'.n=st.n→Zpf (ops.toList.filterMap (·.dst)) a a'→Q .normal a' w'):(Code.region id ops true).wp P Q a w:=by
 unfold Zyy at hr
 cases hc:(Ztw st) with
 | false=>rw [hc] at hr;cases hr
 | true=>
  rw [hc] at hr;obtain ⟨c1a,c1b⟩:=(Yl _ _).mp hc;have c1a:=Yf c1a
  have c1b:st.res=[]:=by
   cases hres:st.res with
   | nil=>rfl
   | cons _ _=>rw [hres] at c1b;cases c1b
  replace hr:Zyq C ops ops.toList [] { st with gs:=[] } K=some r:=hr;obtain ⟨s,rc,e1,e2,e3,e4,e5⟩:=Zzeb H ops.toList 0 (fun _=>{ st with gs:=[] }) (fun _=>⟨[],⟨[],[],[]⟩,0⟩) (fun i=>by rw [Yx,Yfa]) hr;have hlen:0+ops.toList.length=ops.size:=by rw [Yx,Yga]
  rw [hlen] at e3 e4 e5;have hI:∀i,i<ops.size→Info P ops s rc i:=fun i hi=>e3 i (Yca _) hi
  have s0:s 0={ st with gs:=[] }:=e1 0 (Yg _);obtain ⟨hd,xd⟩:=h.drawn;refine wp_region_draw fun t=>?_
  have hsch:Region.schedule (P.follows .mixedOrders) ops t=Region.linearise .any ops t:=by
   unfold Region.schedule;rw [H.mix];simp
  rw [hsch];unfold Region.linearise
  have hff:∀i,(Yq ops.size false).getD i false=false:=fun i=>by
   rw [Yp,Yea];split <;> rfl
  refine wpAny_sound ops.size t _ a _ (Zuhb (X:=X) rfl e5 hI (by rw [s0]) (by rw [s0];exact c1a) (by rw [s0];exact c1b) ops.size _ ρ { st with gs:=[] } a _ (by simp) (fun i hi=>by rw [hff i] at hi;cases hi) ?_ ⟨hd.clear,by rw [s0],rfl,fun t=>?_,fun b=>?_,fun i hi=>?_⟩ ?_)
  ·have:∀n,cnt (fun i=>(Yq ops.size false).getD i false) n=n:=by
    intro n
    induction n with
    | zero=>rfl
    | succ n ih=>
     unfold cnt;rw [ih,hff n];rfl
   rw [this];exact Yg _
  ·have:∀n,Zui (fun i=>(Yq ops.size false).getD i false) (wrT rc t) (fun j=>Zz .unk (s (j+1)).tmps t) n (Zz .unk (s 0).tmps t)=Zz .unk (s 0).tmps t:=by
    intro n
    induction n with
    | zero=>rfl
    | succ n ih=>
     unfold Zui;rw [hff n,ih];rfl
   rw [this,s0]
  ·have:∀n,Zui (fun i=>(Yq ops.size false).getD i false) (wrB rc b) (fun j=>(s (j+1)).ent b) n ((s 0).ent b)=(s 0).ent b:=by
    intro n
    induction n with
    | zero=>rfl
    | succ n ih=>
     unfold Zui;rw [hff n,ih];rfl
   rw [this,s0]
  ·have m0:=Zhs hI (i:=0) (j:=ops.size) (Yca _) (Yg _)
   have s0n:(s 0).nb=st.nb:=by rw [s0]
   refine h.fresh.1 i (.inl ⟨?_,?_⟩)
   ·rcases hi with ⟨j,h1,_,h2,h3⟩ | hi
    ·have:=Zhs hI (i:=0) (j:=j) (Yca _) (by omega)
     omega
    ·omega
   ·rw [c1a]
    rcases hi with ⟨j,h1,_,h2,h3⟩ | hi
    ·have:=Zhs hI (i:=j+1) (j:=ops.size) h1 (Yg _)
     omega
    ·exact hi.2
  ·intro ρ' a' w' k1 k2 k3
   refine hq ρ' (s ops.size) a' w' e4 k1 (xd.trans k2) ?_ fun t ht=>k3 t fun i o ho e=>ht (Yk.2 ⟨o,?_,e⟩)
   ·rw [(Zc1 hI (by rw [s0]) (i:=ops.size) (Yg _)).1,s0]
   ·exact Y3.2 (Array.mem_of_getElem? ho)
end
def Z0v:Ex→Exit
 | .nrm=>.normal
 | .exit id=>.exit id
 | .ret=>.ret
def Z5u {R:Type} (P:Program) (c:Code) (a:Act) (w:World) (X:Nat→Prop) (ρ:Rho) (st:St) (K:Ex→St→Option R) (r:R):Prop:=∀Q:Exit→Act→World→Prop,(∀e ρ' st' a' w',K e st'=some r→Rel X ρ' st' a' w'→Ext ρ w ρ' w'→st'.n=st.n→Zpf (Zjd c) a a'→Q (Z0v e) a' w')→c.wp P Q a w
def Zl (P:Program) (C:Ctx) (c:Code) (s:Summ):Prop:=∀(R:Type) (X:Nat→Prop) (ρ:Rho) (st:St) (a:Act) (w:World) (K:Ex→St→Option R) (r:R),Rel X ρ st a w→V C (.sum s) c st K=some r→Z5u P c a w X ρ st K r
def Zjg (P:Program) (C:Ctx):Plan→Code→Prop
 | .sum s,c=>Zl P C c s
 | p,.seq a b=>Zjg P C p.l a∧Zjg P C p.r b
 | p,.cond _ a b=>Zjg P C p.l a∧Zjg P C p.r b
 | p,.block _ a=>Zjg P C p.o a
 | _,_=>True
section
variable {P:Program} {X:Nat→Prop} {ρ ρ':Rho} {st st':St} {a:Act} {w w':World} {R:Type} {r:R} {C:Ctx}
theorem Zpf.mono {ds es:List Nat} {a a':Act} (h:Zpf ds a a') (hs:∀i,i∈ds→i∈es):Zpf es a a':=fun i hi=>h i fun hm=>hi (hs i hm)
theorem Zpf.trans {ds:List Nat} {a b c:Act} (h:Zpf ds a b) (k:Zpf ds b c):Zpf ds a c:=fun i hi=>(k i hi).trans (h i hi)
theorem Z7j {p:Plan} (hp:∀s,p≠.sum s) (c:Code) (st:St) (K:Ex→St→Option R):V C p c st K=match c with
  | .skip=>K .nrm st
  | .region _ ops false=>Zuj C ops ops.toList st fun st'=>K .nrm st'
  | .region _ ops true=>Zyy C ops st fun st'=>K .nrm st'
  | .seq a b=>V C p.l a st fun e st'=>match e with
   | .nrm=>V C p.r b st' K
   | e=>K e st'
  | .cond x a b=>match x with
   | .tmp t=>Zfs 1 t st fun st'=>match st'.tmp t with
    | .one (.kb true)=>V C p.l a st' K
    | .one (.kb false)=>V C p.r b st' K
    | _=>none
   | .const (.bool true)=>V C p.l a st K
   | .const (.bool false)=>V C p.r b st K
   | _=>none
  | .block id a=>V C p.o a st fun e st'=>match e with
   | .exit j=>bif Ya j id then K .nrm st' else K (.exit j) st'
   | e=>K e st'
  | .exit id=>K (.exit id) st
  | .ret=>K .ret st
  | _=>none:=by
 cases p with
 | sum s=>exact absurd rfl (hp s)
 | auto=>cases c <;> first | rfl | (rename_i draw;cases draw <;> rfl)
 | two p q=>cases c <;> first | rfl | (rename_i draw;cases draw <;> rfl)
 | one p=>cases c <;> first | rfl | (rename_i draw;cases draw <;> rfl)
theorem Z75 {p:Plan} (hp:∀s,p≠.sum s) (c:Code) (h:Zjg P C p c):match c with
  | .seq a b=>Zjg P C p.l a∧Zjg P C p.r b
  | .cond _ a b=>Zjg P C p.l a∧Zjg P C p.r b
  | .block _ a=>Zjg P C p.o a
  | _=>True:=by
 cases p with
 | sum s=>exact absurd rfl (hp s)
 | auto=>cases c <;> first | exact h | trivial
 | two p q=>cases c <;> first | exact h | trivial
 | one p=>cases c <;> first | exact h | trivial
theorem Zqr (H:CtxOk P C):∀(c:Code) {p:Plan} {ρ:Rho} {st:St} {a:Act} {w:World} {K:Ex→St→Option R},Zjg P C p c→Rel X ρ st a w→V C p c st K=some r→Z5u P c a w X ρ st K r:=by
 intro c
 induction c with
 | skip=>
  intro p ρ st a w K hp h hr
  by_cases hs:∃s,p = .sum s
  ·obtain ⟨s,rfl⟩:=hs;exact hp R X ρ st a w K r h hr
  ·rw [Z7j (fun s e=>hs ⟨s,e⟩)] at hr
   exact fun Q hq=>wp_skip (hq .nrm ρ st a w hr h (Ext.refl _ _) rfl (Zpf.refl _ _))
 | region id ops draw=>
  intro p ρ st a w K hp h hr
  by_cases hs:∃s,p = .sum s
  ·obtain ⟨s,rfl⟩:=hs;exact hp R X ρ st a w K r h hr
  ·rw [Z7j (fun s e=>hs ⟨s,e⟩)] at hr
   cases draw with
   | true=>
    intro Q hq;refine Zljb H h hr Q ?_;intro ρ' st' a' w' k1 k2 k3 k4 k5;exact hq .nrm ρ' st' a' w' k1 k2 k3 k4 k5
   | false=>
    intro Q hq;refine wp_region_list (Zs0 H ops ops.toList h hr Q ?_);intro ρ' st' a' w' k1 k2 k3 k4 k5;exact hq .nrm ρ' st' a' w' k1 k2 k3 k4 k5
 | seq x y ihx ihy=>
  intro p ρ st a w K hp h hr
  by_cases hs:∃s,p = .sum s
  ·obtain ⟨s,rfl⟩:=hs;exact hp R X ρ st a w K r h hr
  ·have hs':∀s,p≠.sum s:=fun s e=>hs ⟨s,e⟩
   rw [Z7j hs'] at hr;obtain ⟨hp1,hp2⟩:=Z75 hs' _ hp;intro Q hq;refine wp_seq (ihx hp1 h hr _ ?_);intro e ρ1 st1 a1 w1 k1 k2 k3 k4 k5;have k5':Zpf (Zjd (.seq x y)) a a1:=k5.mono fun i hi=>Yc _ hi
   cases e with
   | nrm=>
    refine ihy hp2 k2 k1 Q ?_;intro e2 ρ2 st2 a2 w2 m1 m2 m3 m4 m5;exact hq e2 ρ2 st2 a2 w2 m1 m2 (k3.trans m3) (m4.trans k4) (k5'.trans (m5.mono fun i hi=>Ye _ hi))
   | exit id=>exact hq _ ρ1 st1 a1 w1 k1 k2 k3 k4 k5'
   | ret=>exact hq _ ρ1 st1 a1 w1 k1 k2 k3 k4 k5'
 | cond x t e iht ihe=>
  intro p ρ st a w K hp h hr
  by_cases hs:∃s,p = .sum s
  ·obtain ⟨s,rfl⟩:=hs;exact hp R X ρ st a w K r h hr
  ·have hs':∀s,p≠.sum s:=fun s e=>hs ⟨s,e⟩
   rw [Z7j hs'] at hr;obtain ⟨hp1,hp2⟩:=Z75 hs' _ hp
   have goT:∀{st1:St},Rel X ρ st1 a w→st1.n=st.n→V C p.l t st1 K=some r→a.eval x = .bool true→Z5u P (.cond x t e) a w X ρ st K r:=by
    intro st1 h1 n1 hr1 hx Q hq;refine wp_cond_true hx (iht hp1 h1 hr1 Q ?_);intro e2 ρ2 st2 a2 w2 m1 m2 m3 m4 m5;exact hq e2 ρ2 st2 a2 w2 m1 m2 m3 (m4.trans n1) (m5.mono fun i hi=>Yc _ hi)
   have goF:∀{st1:St},Rel X ρ st1 a w→st1.n=st.n→V C p.r e st1 K=some r→a.eval x = .bool false→Z5u P (.cond x t e) a w X ρ st K r:=by
    intro st1 h1 n1 hr1 hx Q hq;refine wp_cond_false hx (ihe hp2 h1 hr1 Q ?_);intro e2 ρ2 st2 a2 w2 m1 m2 m3 m4 m5;exact hq e2 ρ2 st2 a2 w2 m1 m2 m3 (m4.trans n1) (m5.mono fun i hi=>Ye _ hi)
   dsimp only at hr;split at hr
   ·rename_i tt
    obtain ⟨st1,hr1,h1,n1⟩:=Zpz 1 tt h hr;have ht:=h1.tmp tt;split at hr1
    ·rename_i hb
     rw [hb] at ht;refine goT h1 n1 hr1 ?_;rcases ht with ht | ⟨_,_,_,e,_⟩
     ·exact ht
     ·cases e
    ·rename_i hb
     rw [hb] at ht;refine goF h1 n1 hr1 ?_;rcases ht with ht | ⟨_,_,_,e,_⟩
     ·exact ht
     ·cases e
    ·cases hr1
   ·exact goT h rfl hr rfl
   ·exact goF h rfl hr rfl
   ·cases hr
 | block id x ih=>
  intro p ρ st a w K hp h hr
  by_cases hs:∃s,p = .sum s
  ·obtain ⟨s,rfl⟩:=hs;exact hp R X ρ st a w K r h hr
  ·have hs':∀s,p≠.sum s:=fun s e=>hs ⟨s,e⟩
   rw [Z7j hs'] at hr;have hp1:=Z75 hs' _ hp;intro Q hq;refine wp_block (ih hp1 h hr _ ?_);intro e ρ1 st1 a1 w1 k1 k2 k3 k4 k5;cases e with
   | nrm=>exact hq .nrm ρ1 st1 a1 w1 k1 k2 k3 k4 k5
   | ret=>exact hq .ret ρ1 st1 a1 w1 k1 k2 k3 k4 k5
   | exit j=>
    replace k1:(bif Ya j id then K .nrm st1 else K (.exit j) st1)=some r:=k1;show (if j=id then Q .normal a1 w1 else Q (.exit j) a1 w1);cases hj:Ya j id with
    | true=>
     rw [hj] at k1;rw [Xc (Yf hj)];exact hq .nrm ρ1 st1 a1 w1 k1 k2 k3 k4 k5
    | false=>
     rw [hj] at k1;rw [Xd (Nat.ne_of_beq_eq_false hj)];exact hq (.exit j) ρ1 st1 a1 w1 k1 k2 k3 k4 k5
 | exit id=>
  intro p ρ st a w K hp h hr
  by_cases hs:∃s,p = .sum s
  ·obtain ⟨s,rfl⟩:=hs;exact hp R X ρ st a w K r h hr
  ·rw [Z7j (fun s e=>hs ⟨s,e⟩)] at hr
   exact fun Q hq=>wp_exit (hq (.exit id) ρ st a w hr h (Ext.refl _ _) rfl (Zpf.refl _ _))
 | ret=>
  intro p ρ st a w K hp h hr
  by_cases hs:∃s,p = .sum s
  ·obtain ⟨s,rfl⟩:=hs;exact hp R X ρ st a w K r h hr
  ·rw [Z7j (fun s e=>hs ⟨s,e⟩)] at hr
   exact fun Q hq=>wp_ret (hq .ret ρ st a w hr h (Ext.refl _ _) rfl (Zpf.refl _ _))
 | loop x ih=>
  intro p ρ st a w K hp h hr
  by_cases hs:∃s,p = .sum s
  ·obtain ⟨s,rfl⟩:=hs;exact hp R X ρ st a w K r h hr
  ·rw [Z7j (fun s e=>hs ⟨s,e⟩)] at hr
   cases hr
 | rangeFunc f ps x y ihx ihy=>
  intro p ρ st a w K hp h hr
  by_cases hs:∃s,p = .sum s
  ·obtain ⟨s,rfl⟩:=hs;exact hp R X ρ st a w K r h hr
  ·rw [Z7j (fun s e=>hs ⟨s,e⟩)] at hr
   cases hr
 | scope x ih=>
  intro p ρ st a w K hp h hr
  by_cases hs:∃s,p = .sum s
  ·obtain ⟨s,rfl⟩:=hs;exact hp R X ρ st a w K r h hr
  ·rw [Z7j (fun s e=>hs ⟨s,e⟩)] at hr
   cases hr
 | label l=>
  intro p ρ st a w K hp h hr
  by_cases hs:∃s,p = .sum s
  ·obtain ⟨s,rfl⟩:=hs;exact hp R X ρ st a w K r h hr
  ·rw [Z7j (fun s e=>hs ⟨s,e⟩)] at hr
   cases hr
 | goto l=>
  intro p ρ st a w K hp h hr
  by_cases hs:∃s,p = .sum s
  ·obtain ⟨s,rfl⟩:=hs;exact hp R X ρ st a w K r h hr
  ·rw [Z7j (fun s e=>hs ⟨s,e⟩)] at hr
   cases hr
 | refuse y=>
  intro p ρ st a w K hp h hr
  by_cases hs:∃s,p = .sum s
  ·obtain ⟨s,rfl⟩:=hs;exact hp R X ρ st a w K r h hr
  ·rw [Z7j (fun s e=>hs ⟨s,e⟩)] at hr
   cases hr
end
theorem Zd1:∀t:Ty,∃h,Ty.same t t=some h
 | .int k=>⟨⟨rfl⟩,by simp [Ty.same]⟩
 | .bool=>⟨⟨rfl⟩,rfl⟩
 | .str=>⟨⟨rfl⟩,rfl⟩
 | .unit=>⟨⟨rfl⟩,rfl⟩
 | .sl r=>by obtain ⟨h,e⟩:=Zd1 r;exact ⟨⟨rfl⟩,by simp [Ty.same,e]⟩
 | .pair a b=>by
  obtain ⟨h,e⟩:=Zd1 a;obtain ⟨h',e'⟩:=Zd1 b;exact ⟨⟨rfl⟩,by simp [Ty.same,e,e']⟩
theorem Z08 {t:Ty} {d:DV} {x:t.T} (h:d.asx t=some x):d = .mk t x:=by
 cases d with
 | mk t' y=>
  replace h:(match Ty.same t' t with
   | some h=>some (h.down▸y:t.T)
   | none=>none)=some x:=h
  split at h
  ·rename_i e _
   have e':=e.down;subst e';cases h;rfl
  ·cases h
theorem Z0r {r' r:Ty} {l:List r'.T} {m:List r.T} (h:Zpi l=some m):∃e:r'=r,m=(e▸l:List r.T):=by
 unfold Zpi at h
 split at h
 ·rename_i e _
  cases h;exact ⟨e.down,rfl⟩
 ·cases h
theorem Z9z:∀{ts:List Ty} {ds:List DV} {x:Zpb ts},Z2n ts ds=some x→Z1h ts x=ds
 | [],[],_,_=>rfl
 | [t],[d],x,h=>by rw [Z08 (show d.asx t=some x from h)];rfl
 | t::t'::ts,d::ds,x,h=>by
  unfold Z2n at h;split at h
  ·rename_i a b ha hb
   cases h;show DV.mk t a::Z1h (t'::ts) b=_;rw [Z9z hb,Z08 ha]
  ·cases h
 | [],_::_,_,h=>by cases h
 | [t],[],_,h=>by cases h
 | [t],_::_::_,_,h=>by simp [Z2n] at h
 | _::_::_,[],_,h=>by cases h
section
variable {P:Program} {X:Nat→Prop} {ρ ρ':Rho} {st st':St} {a:Act} {w w':World} {R:Type} {r:R} {C:Ctx}
def Zyk (X:Nat→Prop) (ρ:Rho) (w:World) (ns:List Nat) (b:Nat):Prop:=Fix X ρ w b∨∃n∈ns,owns (ρ n) b
theorem Zwdb (h:Rel X ρ st a w) {t:Ty} {x:Leaf} {v:Value} {y:t.T} {ns:List Nat} (hx:Zlb X ρ w x v) (hs:Zhu st t x=some (y,ns)):Rep w (Zyk X ρ w ns) t y [v]:=by
 have plain:∀{t:Ty} {x:Leaf} {y:t.T},Zlb X ρ w x v→Z9h t [x]=some y→Rep w (Zyk X ρ w []) t y [v]:=fun hx hu=>
  Rep.move (fun b hb=>⟨rfl,.inl hb⟩) (Zrx (cs:=[v]) hu ⟨hx,trivial⟩)
 have Zxu:∀{t:Ty} {y:t.T} {ns:List Nat},(match Z9h t [x] with | some y=>some (y,[]) | none=>none)=some (y,ns)→Rep w (Zyk X ρ w ns) t y [v]:=by
  intro t y ns hs;split at hs
  ·rename_i z hz
   cases hs;exact plain hx hz
  ·cases hs
 cases t with
 | int k=>exact Zxu hs
 | bool=>exact Zxu hs
 | str=>exact Zxu hs
 | pair p q=>exact Zxu hs
 | unit=>exact Zxu hs
 | sl r=>
  replace hs:Zvw st r x=some (y,ns):=hs;unfold Zvw at hs;split at hs
  ·rename_i n
   have h0:=h.ents n;have hx2:=hx.2;unfold Z35 at hs;split at hs
   ·rename_i z e rt l he
    rw [he] at h0;obtain ⟨u,hu,h0⟩:=h0;rw [hu] at hx2;have hx2:v=u:=hx2;subst hx2;cases hm:Z0 e with
    | true=>rw [hm] at hs;cases hs
    | false=>
    rw [hm] at hs;simp only [Xf] at hs;split at hs
    ·rename_i l2 hl2
     cases hs;obtain ⟨ee,rfl⟩:=Z0r hl2;refine Zpy ee ?_;rcases h0.slice hm with ⟨rfl,rfl⟩ | ⟨gb,cap,cs,fr,rfl,hh,hun,_,hlc,hsz,hrow⟩
     ·exact ⟨none,0,rfl,Yg _,.inl rfl⟩
     ·refine ⟨_,cap,rfl,hlc,.inr ⟨gb,0,rfl,.inr ⟨n,Yj.2 rfl,by rw [hu];rfl⟩,?_⟩⟩
      intro j z hj;refine ⟨_,?_,Rep.move (fun b hb=>⟨rfl,.inl hb⟩) (hrow j z hj)⟩;intro i q hq;rw [cell_of_row w gb _ cs _ fr hh];rw [Zki] at hq;split at hq
      ·rw [Yx]
       simpa using hq
      ·cases hq
    ·cases hs
   ·rename_i rt l he
    rw [he] at h0;obtain ⟨u,hu,h0⟩:=h0;rw [hu] at hx2;have hx2:v=u:=hx2;subst hx2;split at hs
    ·rename_i l2 hl2
     cases hs;obtain ⟨e,rfl⟩:=Z0r hl2;exact Zpy e (Rep.move (fun b hb=>⟨rfl,.inl hb⟩) h0)
    ·cases hs
   ·cases hs
  ·split at hs
   ·rename_i l hl
    cases hs;exact plain hx hl
   ·cases hs
theorem Zleb {F:Nat→Prop} {t:Ty} {y:t.T} {cs:List Value} (h:Rep w F t y cs):Z4d w F (fun _=>False) (Z2 t y) cs:=by
 induction t generalizing cs with
 | int k=>cases h;exact ⟨rfl,trivial⟩
 | bool=>cases h;exact ⟨rfl,trivial⟩
 | str=>cases h;exact ⟨rfl,trivial⟩
 | sl r ih=>
  obtain ⟨A,c,rfl,h⟩:=h;exact ⟨⟨A,c,rfl,h⟩,trivial⟩
 | pair p q ihp ihq=>
  obtain ⟨c1,c2,rfl,h1,h2⟩:=h;have a1:=ihp h1;have a2:=ihq h2;clear ihp ihq h1 h2;show Z4d w F (fun _=>False) (Z2 p y.1++Z2 q y.2) (c1++c2);generalize Z2 p y.1=xs at a1
  induction xs generalizing c1 with
  | nil=>
   cases c1 with
   | nil=>exact a2
   | cons _ _=>exact a1.elim
  | cons x xs ih=>
   cases c1 with
   | nil=>exact a1.elim
   | cons c c1=>exact ⟨a1.1,ih c1 a1.2⟩
 | unit=>cases h;trivial
theorem Zpeb {F:Nat→Prop}:∀{xs:List Leaf} {vs:List Value},Z4d w F (fun _=>False) xs vs→Zaf w F (xs.map .leaf) vs []
 | [],[],_=>rfl
 | _::_,_::_,h=>⟨h.1,Zpeb h.2⟩
 | [],_::_,h=>h.elim
 | _::_,[],h=>h.elim
theorem Zaf.append {F:Nat→Prop}:∀{xs ys:List RL} {us vs:List Value} {O1 O2:List Conc},Zaf w F xs us O1→Zaf w F ys vs O2→Zaf w F (xs++ys) (us++vs) (O1++O2)
 | [],ys,[],vs,O1,O2,h,k=>by
  obtain rfl:O1=[]:=h;exact k
 | .leaf x::xs,ys,u::us,vs,O1,O2,h,k=>⟨h.1,Zaf.append h.2 k⟩
 | .own e r l::xs,ys,u::us,vs,o::O1,O2,h,k=>⟨h.1,h.2.1,Zaf.append h.2.2 k⟩
 | .own _ _ _::_,_,_::_,_,[],_,h,_=>h.elim
 | [],_,_::_,_,_,_,h,_=>h.elim
 | .leaf _::_,_,[],_,_,_,h,_=>h.elim
 | .own _ _ _::_,_,[],_,_,_,h,_=>h.elim
def Zpr (X:Nat→Prop) (ρ:Rho) (w:World) (d:DR) (xs:List RL) (vs:List Value) (O:List Conc):Prop:=(∀F:Nat→Prop,(∀b,Zyk X ρ w d.pures b→F b)→Zaf w F xs vs O)∧((O.filterMap cb).Sublist (d.owns.filterMap fun n=>cbO (ρ n))) ∧ (∀u∈O,∀b,cb u=some b→∃n∈d.owns,owns (ρ n) b)∧∀n∈d.owns++d.pures,∃u,ρ n=some (.row u)
theorem Zfx {t:Ty} {x:Leaf} {y:t.T} {ns:List Nat} (hs:(match Z9h t [x] with | some y=>some (y,[]) | none=>none)=some (y,ns)):∀n∈ns,∃u,ρ n=some (.row u):=by
 split at hs
 ·cases hs
  intro m hm;cases hm
 ·cases hs
theorem Zvob (h:Rel X ρ st a w) {t:Ty} {x:Leaf} {y:t.T} {ns:List Nat} (hs:Zhu st t x=some (y,ns)):∀n∈[]++ns,∃u,ρ n=some (.row u):=by
 rw [List.nil_append]
 cases t with
 | sl r=>
  replace hs:Zvw st r x=some (y,ns):=hs;unfold Zvw at hs;split at hs
  ·rename_i n
   have h0:=h.ents n;unfold Z35 at hs;split at hs
   ·rename_i z e rt l he
    rw [he] at h0;obtain ⟨u,hu,h0⟩:=h0;cases hme:Z0 e with
    | true=>rw [hme] at hs;cases hs
    | false=>
    rw [hme] at hs;simp only [Xf] at hs;split at hs
    ·cases hs
     intro m hm;rw [Yj.1 hm];exact ⟨u,hu⟩
    ·cases hs
   ·split at hs
    ·cases hs
     intro m hm;cases hm
    ·cases hs
   ·cases hs
  ·split at hs
   ·cases hs
    intro m hm;cases hm
   ·cases hs
 | int k=>exact Zfx hs
 | bool=>exact Zfx hs
 | str=>exact Zfx hs
 | pair p q=>exact Zfx hs
 | unit=>exact Zfx (t:=.unit) (x:=x) hs
theorem Zyk.mono {ns ms:List Nat} (h:∀n∈ns,n∈ms) {b:Nat} (k:Zyk X ρ w ns b):Zyk X ρ w ms b:=k.imp id fun ⟨n,h1,h2⟩=>⟨n,h n h1,h2⟩
theorem Zcjb (h:Rel X ρ st a w) {k:RK} {x:Leaf} {v:Value} {d:DR} (hx:Zlb X ρ w x v) (hs:decK st k x=some d) (ds:List DV):
  ∃O,Zpr X ρ w d (Zeb [k] (d.ds++ds)).1 [v] O∧∀ks,Zeb (k::ks) (d.ds++ds)=((Zeb [k] (d.ds++ds)).1++(Zeb ks ds).1,(Zeb ks ds).2):=by
 cases k with
 | v t=>
  replace hs:Zi3 st t x=some d:=hs;unfold Zi3 at hs;split at hs
  ·rename_i y ns hy
   cases hs;refine ⟨[],⟨fun F hF=>?_,Ym.refl _,(fun u hu=>nomatch hu),Zvob h hy⟩,fun ks=>?_⟩
   ·have hrep:=Zwdb h hx hy
    have:=Zpeb (Zleb (Rep.move (fun b hb=>⟨rfl,hF b hb⟩) hrep));show Zaf w F ((Z2 t y).map .leaf++[]) [v] [];rw [Yu];exact this
   ·show ((Z2 t y).map RL.leaf++(Zeb ks ds).1,(Zeb ks ds).2)=((Z2 t y).map RL.leaf++[]++(Zeb ks ds).1,(Zeb ks ds).2)
    rw [Yu]
  ·cases hs
 | own e r=>
  replace hs:Zuy st e r x=some d:=hs;unfold Zuy at hs;split at hs
  ·rename_i n
   have h0:=h.ents n;have hx2:=hx.2;split at hs
   ·rename_i e' rt l he
    rw [he] at h0;obtain ⟨u,hu,h0⟩:=h0;rw [hu] at hx2;have hx2:v=u:=hx2;subst hx2;split at hs
    ·rename_i l2 hl2
     cases hee:Ya e e' with
     | false=>rw [hee] at hs;cases hs
     | true=>
      rw [hee] at hs;cases hs;obtain rfl:=Yf hee;obtain ⟨ee,rfl⟩:=Z0r hl2;refine ⟨[.row v],⟨fun F hF=>?_,?_,?_,fun n' hn'=>by rw [Yj.1 hn'];exact ⟨v,hu⟩⟩,fun ks=>rfl⟩
      ·refine ⟨rfl,?_,rfl⟩
       have hm:=Zac.mono (F':=F) (fun b hb=>hF b (.inl hb)) h0;subst ee;exact hm
      ·simp only [List.filterMap_cons,List.filterMap_nil,hu,cbO,cb,Option.bind_some]
       exact Ym.refl _
      ·intro q hq b hb
       rw [Yj.1 hq] at hb;exact ⟨n,Yj.2 rfl,by rw [hu];exact hb⟩
    ·cases hs
   ·cases hs
  ·cases hm:Z0 e with
   | true=>rw [hm] at hs;cases hs
   | false=>
   rw [hm] at hs;cases hs;have hx:v = .slice none 0 0:=hx;subst hx;refine ⟨[.row (.slice none 0 0)],⟨fun F hF=>⟨rfl,Zfc.ok (.inl ⟨rfl,rfl⟩) hm,rfl⟩,?_,?_,fun n' hn'=>nomatch hn'⟩,fun ks=>rfl⟩
   ·simp [cb,Zzf]
   ·intro q hq b hb
    rw [Yj.1 hq] at hb;cases hb
  ·cases hs
theorem Zogb {d:DR} {xs:List RL} {vs:List Value} {O:List Conc} (h:Zpr X ρ w d xs vs O) {d2:DR} (h1:∀n∈d.pures,n∈d2.pures) {F:Nat→Prop} (hF:∀b,Zyk X ρ w d2.pures b→F b):Zaf w F xs vs O:=h.1 F fun b hb=>hF b (hb.mono h1)
theorem Zm6 {d1 d2:DR} (h:∀n∈d1.owns++d1.pures,∃u,ρ n=some (.row u)) (k:∀n∈d2.owns++d2.pures,∃u,ρ n=some (.row u)):∀n∈(d1.app d2).owns++(d1.app d2).pures,∃u,ρ n=some (.row u):=by
 intro n hn
 rcases Yb.1 hn with hn | hn
 ·rcases Yb.1 (show n∈d1.owns++d2.owns from hn) with hn | hn
  ·exact h n (Yc _ hn)
  ·exact k n (Yc _ hn)
 ·rcases Yb.1 (show n∈d1.pures++d2.pures from hn) with hn | hn
  ·exact h n (Ye _ hn)
  ·exact k n (Ye _ hn)
theorem Zpr.app {d1 d2:DR} {xs ys:List RL} {us vs:List Value} {O1 O2:List Conc} (h:Zpr X ρ w d1 xs us O1) (k:Zpr X ρ w d2 ys vs O2):Zpr X ρ w (d1.app d2) (xs++ys) (us++vs) (O1++O2):=by
 refine ⟨fun F hF=>(Zogb h (d2:=d1.app d2) (fun n hn=>Yc _ hn) hF).append (Zogb k (d2:=d1.app d2) (fun n hn=>Ye _ hn) hF),?_,?_⟩
 ·rw [Yi]
  show Ym _ ((d1.owns++d2.owns).filterMap _);rw [Yi];exact h.2.1.append k.2.1
 ·refine ⟨?_,Zm6 h.2.2.2 k.2.2.2⟩
  intro u hu b hb;rcases Yb.1 hu with hu | hu
  ·obtain ⟨n,h1,h2⟩:=h.2.2.1 u hu b hb
   exact ⟨n,Yc _ h1,h2⟩
  ·obtain ⟨n,h1,h2⟩:=k.2.2.1 u hu b hb
   exact ⟨n,Ye _ h1,h2⟩
theorem Zwv (h:Rel X ρ st a w):∀{ks:List RK} {xs:List Leaf} {vs:List Value} {d:DR} (ds:List DV),Zq X ρ w xs vs→Zao st ks xs=some d→∃O,Zpr X ρ w d (Zeb ks (d.ds++ds)).1 vs O∧(Zeb ks (d.ds++ds)).2=ds
 | [],[],[],d,ds,_,hs=>by
  cases hs;exact ⟨[],⟨fun F _=>rfl,Ym.refl _,(fun u hu=>nomatch hu),fun n hn=>nomatch hn⟩,rfl⟩
 | k::ks,x::xs,v::vs,d,ds,hx,hs=>by
  unfold Zao at hs;split at hs
  ·rename_i d1 d2 h1 h2
   cases hs;obtain ⟨O1,t1,e1⟩:=Zcjb h hx.1 h1 (d2.ds++ds);obtain ⟨O2,t2,e2⟩:=Zwv h ds hx.2 h2
   have e3:Zeb (k::ks) ((d1.app d2).ds++ds)=((Zeb [k] (d1.ds++(d2.ds++ds))).1++(Zeb ks (d2.ds++ds)).1,(Zeb ks (d2.ds++ds)).2):=by
    rw [← e1 ks,← Yh];rfl
   rw [e3];exact ⟨O1++O2,t1.app t2,e2⟩
  ·cases hs
 | [],_::_,_,_,_,_,hs=>by cases hs
 | _::_,[],_,_,_,_,hs=>by cases hs
 | [],[],_::_,_,_,h,_=>h.elim
 | _::_,_::_,[],_,_,h,_=>h.elim
end
section
variable {P:Program} {X:Nat→Prop} {ρ ρ':Rho} {st st':St} {a:Act} {w w':World} {R:Type} {r:R} {C:Ctx}
def Zav (P:Program) (w:World) (tmps:Array Value):ResultVar→Value→Prop
 | .tmp t,u=>u=tmps.getD t undef
 | .cell p ty,u=>∃A,tmps.getD p undef = .pointer (some A)∧(loadVar ty A).run P w = .ok u w
theorem Z19 (T:Zob P C.ti) (h:Rel X ρ st a w) {ag:Bool} {v:ResultVar} {xs:List Leaf} (hs:Zrv C.ti st ag v=some xs):
  ∃u,Zav P w a.tmps v u∧Ztm X ρ w (ag,xs) u:=by
 cases v with
 | tmp t=>
  replace hs:Z92 ag (st.tmp t)=some xs:=hs;have ht:=h.tmp t;refine ⟨Z1 a t,rfl,?_⟩;unfold Z92 at hs;split at hs
  ·rename_i x hx
   rw [hx] at ht;cases ag with
   | true=>cases hs
   | false=>
    cases hs;rcases ht with ht | ⟨_,_,_,e,_⟩
    ·exact ⟨ht,trivial⟩
    ·cases e
  ·rename_i ys hx
   rw [hx] at ht;cases ag with
   | false=>cases hs
   | true=>
    cases hs;rcases ht with ht | ⟨_,_,_,e,_⟩
    ·exact ht
    ·cases e
  ·cases hs
 | cell p ty=>
  replace hs:Z82 C.ti st ag ty (st.tmp p)=some xs:=hs;have ht:=h.tmp p;unfold Z82 at hs;split at hs
  ·rename_i b hb
   rw [hb] at ht;split at hs
   ·rename_i bt ys he
    have h0:=h.ents b;rw [he] at h0;obtain ⟨gb,cs,fr,hρ,hh,hun,hys⟩:=h0
    have ht2:Z1 a p = .pointer (some ⟨gb,0,none⟩):=by
     rcases ht with ht | ⟨_,_,_,e,_⟩
     ·have:=ht.2
      rw [hρ] at this;exact this
     ·cases e
    unfold Zs9 at hs;split at hs
    ·rename_i i hi
     cases hc:((i.agg==ag)&&Ya (bif ag then i.sz else 1) ys.length) with
     | false=>rw [hc] at hs;cases hs
     | true=>
      rw [hc] at hs;cases hs;obtain ⟨c1,c2⟩:=(Yl _ _).mp hc;have c1:i.agg=ag:=by simpa using c1
      have c2:=Yf c2;have hlen:=hys.len;have hload:∀u,(loadVar ty ⟨gb,0,none⟩).run P w = .ok u w→Zav P w a.tmps (.cell p ty) u:=fun u hu=>⟨_,ht2,hu⟩
      cases ag with
      | true=>
       refine ⟨.agg cs,hload _ ?_,⟨cs,rfl,hys⟩⟩;obtain ⟨q,hq,hq2,_⟩:=(T _ _ hi).info;obtain ⟨d,hd,hag,_⟩:=(T _ _ hi).und;refine run_loadVar_row w gb bt ty cs fr d hh hd ?_ ?_
       ·rw [c1] at hag
        rw [hag];cases d <;> rfl
       ·rw [hq]
        simp only [Option.map_some,hq2];have c2:i.sz=xs.length:=c2;rw [c2,hlen,Yga]
      | false=>
       have c2:1=xs.length:=c2;rw [hlen] at c2
       have hcs:∃u,cs.toList=[u]:=by
        cases hcl:cs.toList with
        | nil=>rw [hcl] at c2;cases c2
        | cons u us=>
         cases us with
         | nil=>exact ⟨u,rfl⟩
         | cons _ _=>rw [hcl] at c2;simp at c2
       obtain ⟨u,hu⟩:=hcs;refine ⟨u,hload u ?_,?_⟩
       ·have hc0:w.cell? ⟨gb,0,none⟩=some u:=by
         rw [cell_of_row w gb 0 cs bt fr hh,← Yfa,hu];rfl
        unfold loadVar;simp only [Sem.run_bind,Zos (T _ _ hi),Result.andThen_ok,c1];simp [hc0]
       ·rw [hu] at hys
        exact hys
    ·cases hs
   ·cases hs
  ·cases hs
def Z2x (P:Program) (w:World) (tmps:Array Value):List ResultVar→List Value→Prop
 | [],[]=>True
 | v::vs,u::us=>Zav P w tmps v u∧Z2x P w tmps vs us
 | _,_=>False
def Zm0 (tmps:Array Value):ResultVar→Sem Value
 | .tmp t=>pure (tmps.getD t undef)
 | .cell p t=>do loadVar t (← asAddr (tmps.getD p undef))
theorem Zppb {tmps:Array Value} {v:ResultVar} {u:Value} (h:Zav P w tmps v u):(Zm0 tmps v).run P w = .ok u w:=by
 cases v with
 | tmp t=>rw [show u=_ from h];rfl
 | cell p ty=>
  obtain ⟨A,h1,h2⟩:=h;unfold Zm0;simp only [Sem.run_bind,h1,asAddr,Sem.run_pure,Result.andThen_ok,h2]
theorem Z3eb {tmps:Array Value}:∀{vs:List ResultVar} {us:List Value},Z2x P w tmps vs us→(vs.mapM (Zm0 tmps)).run P w = .ok us w
 | [],[],_=>by simp
 | v::vs,u::us,h=>by
  rw [List.mapM_cons];simp only [Sem.run_bind,Zppb h.1,Result.andThen_ok,Z3eb h.2,Sem.run_pure]
 | [],_::_,h=>h.elim
 | _::_,[],h=>h.elim
def Zu7:List Value→Value
 | [u]=>u
 | us=>.tuple us.toArray
theorem Zqpb {fn:Func} {tmps:Array Value} {us:List Value} (h:Z2x P w tmps fn.results.toList us):
  (results fn tmps).run P w = .ok (Zu7 us) w:=by
 have h0:results fn tmps=(do let vs ← fn.results.mapM (Zm0 tmps);pure (if h:vs.size=1 then vs[0] else .tuple vs)):=by
  unfold results
  first
   | rfl
   | (congr 2;funext v;cases v <;> rfl)
 rw [h0,Array.mapM_eq_mapM_toList]
 simp only [Sem.run_bind,Sem.run_map,Z3eb h,Result.andThen_ok,Sem.run_pure]
 congr 1
 match us with
 | []=>rfl
 | [u]=>rfl
 | _::_::_=>rfl
structure ToldC (X:Nat→Prop) (ρ:Rho) (w:World) (d:DR) (bs:List Nat) (ps:List RC) (us:List Value) (O:List Conc) (S:List Nat):Prop where
 perm:S.Perm (d.owns++bs)
 sub:(O.filterMap cb).Sublist (S.filterMap fun n=>cbO (ρ n))
 told:∀F:Nat→Prop,(∀b,Zyk X ρ w d.pures b→F b)→Zzl w F ps us O
 rows:∀n∈d.owns++d.pures,∃u,ρ n=some (.row u)
 boxes:∀n∈bs,∃g,ρ n=some (.blk g)
structure Told1 (X:Nat→Prop) (ρ:Rho) (w:World) (d:DR) (bs:List Nat) (p:RC) (u:Value) (O:List Conc) (S:List Nat):Prop where
 perm:S.Perm (d.owns++bs)
 sub:(O.filterMap cb).Sublist (S.filterMap fun n=>cbO (ρ n))
 told:∀F:Nat→Prop,(∀b,Zyk X ρ w d.pures b→F b)→Zvm w F p u O
 rows:∀n∈d.owns++d.pures,∃u,ρ n=some (.row u)
 boxes:∀n∈bs,∃g,ρ n=some (.blk g)
theorem Zdjb (T:Zob P C.ti) (h:Rel X ρ st a w) {k:SK} {v:ResultVar} {d:DR} {bs:List Nat} (ds:List DV) (hs:Zcab C.ti st v k=some (d,bs)):
  ∃u O S p,Zav P w a.tmps v u∧Told1 X ρ w d bs p u O S∧∀rs,Z5f (k::rs) (d.ds++ds)=(p::(Z5f rs ds).1,(Z5f rs ds).2):=by
 cases k with
 | val ag ks=>
  replace hs:(match Zrv C.ti st ag v with
   | some xs=>match Zao st ks xs with
    | some d=>some (d,[])
    | none=>none
   | none=>none)=some (d,bs):=hs
  split at hs
  ·rename_i xs hxs
   split at hs
   ·rename_i d' h1
    cases hs;obtain ⟨u,hu,hc⟩:=Z19 T h hxs;unfold Ztm at hc;cases ag with
    | true=>
     obtain ⟨cs,rfl,hc⟩:=hc;obtain ⟨O1,t1,e1⟩:=Zwv h ds hc h1;refine ⟨_,O1,d.owns,.val true (Zeb ks (d.ds++ds)).1,hu,⟨by simp,t1.2.1,fun F hF=>⟨cs,rfl,t1.1 F hF⟩,t1.2.2.2,fun n hn=>nomatch hn⟩,fun rs=>?_⟩;show (RC.val true (Zeb ks (d.ds++ds)).1::(Z5f rs (Zeb ks (d.ds++ds)).2).1,(Z5f rs (Zeb ks (d.ds++ds)).2).2)=_;rw [e1]
    | false=>
     obtain ⟨O1,t1,e1⟩:=Zwv h ds hc h1;refine ⟨u,O1,d.owns,.val false (Zeb ks (d.ds++ds)).1,hu,⟨by simp,t1.2.1,fun F hF=>t1.1 F hF,t1.2.2.2,fun n hn=>nomatch hn⟩,fun rs=>?_⟩;show (RC.val false (Zeb ks (d.ds++ds)).1::(Z5f rs (Zeb ks (d.ds++ds)).2).1,(Z5f rs (Zeb ks (d.ds++ds)).2).2)=_;rw [e1]
   ·cases hs
  ·cases hs
 | box tid ks=>
  replace hs:(match Zrv C.ti st false v with
   | some xs=>match Zs2 st tid xs with
    | some (ys,b)=>match Zao st ks ys with
     | some d=>some (d,[b])
     | none=>none
    | none=>none
   | none=>none)=some (d,bs):=hs
  split at hs
  ·rename_i xs hxs
   split at hs
   ·rename_i ys b hb
    split at hs
    ·rename_i d' h1
     cases hs;obtain ⟨u,hu,hc⟩:=Z19 T h hxs;have hc:Zq X ρ w xs [u]:=hc;unfold Zs2 at hb;split at hb
     ·rename_i n
      split at hb
      ·rename_i t zs he
       cases ht:Ya t tid with
       | false=>rw [ht] at hb;cases hb
       | true=>
        rw [ht] at hb;cases hb;obtain rfl:=Yf ht;have h0:=h.ents b;rw [he] at h0;obtain ⟨gb,cs,fr,hρ,hh,hun,hys⟩:=h0;have hu2:=hc.1.2;rw [hρ] at hu2;obtain rfl:u = .pointer (some ⟨gb,0,none⟩):=hu2;obtain ⟨O1,t1,e1⟩:=Zwv h ds hys h1;refine ⟨_,O1++[.blk gb],d.owns++[b],.box t (Zeb ks (d.ds++ds)).1,hu,⟨Yd.refl _,?_,fun F hF=>⟨gb,cs,fr,O1,rfl,rfl,hh,hun,t1.1 F hF⟩,t1.2.2.2,fun n hn=>?_⟩,fun rs=>?_⟩
        ·rw [Yi,Yi]
         refine t1.2.1.append ?_;have e2:Yja (fun n=>cbO (ρ n)) [b]=[gb]:=by simp [hρ,cbO,cb]
         rw [e2];exact Ym.refl _
        ·rw [Yj.1 hn];exact ⟨gb,hρ⟩
        ·show (RC.box t (Zeb ks (d.ds++ds)).1::(Z5f rs (Zeb ks (d.ds++ds)).2).1,(Z5f rs (Zeb ks (d.ds++ds)).2).2)=_
         rw [e1]
      ·cases hb
     ·cases hb
    ·cases hs
   ·cases hs
  ·cases hs
theorem Zbab (T:Zob P C.ti) (h:Rel X ρ st a w):∀{rs:List SK} {vs:List ResultVar} {d:DR} {bs:List Nat} (ds:List DV),Zvy C.ti st rs vs=some (d,bs) →
  ∃us O S,Z2x P w a.tmps vs us∧ToldC X ρ w d bs (Z5f rs (d.ds++ds)).1 us O S∧(Z5f rs (d.ds++ds)).2=ds
 | [],[],d,bs,ds,hs=>by
  cases hs;exact ⟨[],[],[],trivial,⟨Yd.refl _,Ym.refl _,fun F _=>rfl,(fun n hn=>nomatch hn),fun n hn=>nomatch hn⟩,rfl⟩
 | k::rs,v::vs,d,bs,ds,hs=>by
  unfold Zvy at hs;split at hs
  ·rename_i d1 d2 h1 h2
   cases hs;obtain ⟨us,O2,S2,hus,t2,e2⟩:=Zbab T h (d:=d2.1) (bs:=d2.2) ds h2;obtain ⟨u,O1,S1,p,hu,t1,e1⟩:=Zdjb T h (d:=d1.1) (bs:=d1.2) (d2.1.ds++ds) h1
   have e3:Z5f (k::rs) ((d1.1.app d2.1).ds++ds)=(p::(Z5f rs (d2.1.ds++ds)).1,(Z5f rs (d2.1.ds++ds)).2):=by
    rw [← e1 rs,← Yh];rfl
   rw [e3];refine ⟨u::us,O1++O2,S1++S2,⟨hu,hus⟩,⟨?_,?_,?_,Zm6 t1.rows t2.rows,?_⟩,e2⟩
   ·have:=t1.perm.append t2.perm
    refine this.trans ?_;show Yd (d1.1.owns++d1.2++(d2.1.owns++d2.2)) (d1.1.owns++d2.1.owns++(d1.2++d2.2));rw [Yh,Yh];refine Yd.append_left _ ?_;rw [← Yh,← Yh];exact Yd.append_right _ Yoa
   ·rw [Yi,Yi]
    exact t1.sub.append t2.sub
   ·exact fun F hF=>⟨O1,O2,rfl,t1.told F fun b hb=>hF b (hb.mono fun n hn=>Yc _ hn),t2.told F fun b hb=>hF b (hb.mono fun n hn=>Ye _ hn)⟩
   ·intro n hn
    rcases Yb.1 hn with hn | hn
    ·exact t1.boxes n hn
    ·exact t2.boxes n hn
  ·cases hs
 | [],_::_,_,_,_,hs=>by cases hs
 | _::_,[],_,_,_,hs=>by cases hs
end
section
variable {P:Program} {X:Nat→Prop} {ρ ρ':Rho} {st st':St} {a:Act} {w w':World} {R:Type} {r:R} {C:Ctx} {F B:Nat→Prop}
inductive Canon:Leaf→Leaf→Prop where
 | int (k:IntKind) (n:Int):Canon (.int k n) (.int k n)
 | bool (b:Bool):Canon (.bool b) (.bool b)
 | kb (b:Bool):Canon (.kb b) (.bool b)
 | str (s:Str):Canon (.str s) (.str s)
 | list (t:Ty) (l:List t.T):Canon (.list t l) (.list t l)
 | nil (t:Ty):Canon .nil (.list t [])
inductive Canons:List Leaf→List Leaf→Prop where
 | nil:Canons [] []
 | cons {x y:Leaf} {xs ys:List Leaf} (h:Canon x y) (k:Canons xs ys):Canons (x::xs) (y::ys)
theorem Canons.append {xs ys zs us:List Leaf} (h:Canons xs ys) (k:Canons zs us):Canons (xs++zs) (ys++us):=by
 induction h with
 | nil=>exact k
 | cons h1 _ ih=>exact .cons h1 ih
theorem Zt1:∀{t:Ty} {xs ys:List Leaf} {x:t.T},unl t xs=some (x,ys)→∃zs,xs=zs++ys∧Canons zs (Z2 t x)
 | .int k,xs,ys,x,h=>by
  replace h:Ztx k xs=some (x,ys):=h;unfold Ztx at h;split at h
  ·split at h
   ·rename_i hk
    subst hk;cases h;exact ⟨[_],rfl,.cons (.int _ _) .nil⟩
   ·cases h
  ·cases h
 | .bool,xs,ys,x,h=>by
  replace h:Zsx xs=some (x,ys):=h;unfold Zsx at h;split at h
  ·cases h;exact ⟨[_],rfl,.cons (.bool _) .nil⟩
  ·cases h;exact ⟨[_],rfl,.cons (.kb _) .nil⟩
  ·cases h
 | .str,xs,ys,x,h=>by
  replace h:Zvx xs=some (x,ys):=h;unfold Zvx at h;split at h
  ·cases h;exact ⟨[_],rfl,.cons (.str _) .nil⟩
  ·cases h
 | .sl r,xs,ys,x,h=>by
  replace h:Zux r xs=some (x,ys):=h;unfold Zux at h;split at h
  ·split at h
   ·rename_i r' l xs hs _
    cases h;have e:=hs.down;subst e;exact ⟨[_],rfl,.cons (.list _ _) .nil⟩
   ·cases h
  ·cases h;exact ⟨[_],rfl,.cons (.nil _) .nil⟩
  ·cases h
 | .pair p q,xs,ys,x,h=>by
  unfold unl at h;split at h
  ·rename_i x1 ys1 h1
   split at h
   ·rename_i y1 zs1 h2
    cases h;obtain ⟨z1,rfl,c1⟩:=Zt1 h1;obtain ⟨z2,rfl,c2⟩:=Zt1 h2;exact ⟨z1++z2,(Yh _ _ _).symm,c1.append c2⟩
   ·cases h
  ·cases h
 | .unit,xs,ys,x,h=>by
  cases h;exact ⟨[],rfl,.nil⟩
theorem Zs1 {t:Ty} {xs:List Leaf} {x:t.T} (h:Z9h t xs=some x):Canons xs (Z2 t x):=by
 unfold Z9h at h
 split at h
 ·rename_i y hy
  cases h;obtain ⟨zs,e,c⟩:=Zt1 hy;rw [Yu] at e;rw [e];exact c
 ·cases h
def PLs (w:World) (F B:Nat→Prop):List PL→List Leaf→List Value→List Conc→Prop
 | [],[],[],cs=>cs=[]
 | .v::ms,x::xs,v::vs,cs=>Zof w F (fun _=>False) x v∧PLs w F B ms xs vs cs
 | .ro::ms,x::xs,v::vs,cs=>Zof w B (fun _=>False) x v∧PLs w F B ms xs vs cs
 | .own e::ms,.list t l::xs,v::vs,c::cs=>c = .row v∧Zac w F false e t v l∧PLs w F B ms xs vs cs
 | _,_,_,_=>False
theorem Zzr {x y:Leaf} {v:Value} {B':Nat→Prop} (c:Canon x y) (h:Zof w F B x v):Zof w F B' y v:=by
 cases c with
 | nil t=>exact ⟨none,0,by rw [show v=_ from h];rfl,Yg _,.inl rfl⟩
 | _=>exact h
def Z7u:List GI→List Conc→Prop
 | [],[]=>True
 | .row v::L,.row u::cs=>u=v∧Z7u L cs
 | .no::L,.row u::cs=>Zzf u=none∧Z7u L cs
 | _,_=>False
theorem Zyx (hFB:∀b,F b→B b):∀{ms:List PL} {cls:List CL} {xs ys:List Leaf} {vs:List Value} {L:List GI},Z4i ms cls=some xs→Canons xs ys→VLs w F B cls vs L →
  ∃cs,PLs w F B ms ys vs cs∧cs.filterMap cb=GI.blocks L∧Z7u L cs
 | [],[],xs,ys,vs,L,h,c,k=>by
  cases h;cases c;cases vs with
  | nil=>obtain rfl:L=[]:=k;exact ⟨[],rfl,rfl,trivial⟩
  | cons _ _=>exact k.elim
 | m::ms,cl::cls,xs,ys,vs,L,h,c,k=>by
  unfold Z4i at h;split at h
  ·rename_i x xs' hx hxs
   cases h;cases c with
   | cons c1 c2=>
    rename_i y ys
    match cl,vs,L,k with
    | .leaf z,v::vs,L,k=>
     obtain ⟨cs,i1,i2,i3⟩:=Zyx hFB hxs c2 k.2;cases m with
     | v=>
      refine ⟨cs,⟨?_,i1⟩,i2,i3⟩;cases z with
      | bor t l=>cases hx
      | _=>cases hx;exact Zzr c1 k.1
     | ro=>
      refine ⟨cs,⟨?_,i1⟩,i2,i3⟩;cases z with
      | bor t l=>cases hx;exact Zzr c1 (show Zof w B B (.list t l) v from k.1)
      | _=>cases hx;exact Zzr c1 (k.1.mono hFB fun b hb=>hb)
     | own e=>cases hx
    | .row e' t l,v::vs,.row u::L,⟨h1,h2,h3⟩=>
     obtain ⟨cs,i1,i2,i3⟩:=Zyx hFB hxs c2 h3;cases m with
     | v=>cases hx
     | ro=>cases hx
     | own e=>
      cases he:Ya e e' with
      | false=>
       replace hx:(bif Ya e e' then some (Leaf.list t l) else none)=some x:=hx;rw [he] at hx;cases hx
      | true=>
       replace hx:(bif Ya e e' then some (Leaf.list t l) else none)=some x:=hx;rw [he] at hx;cases hx;obtain rfl:=Yf he;cases c1;subst h1;refine ⟨.row u::cs,⟨rfl,h2,i1⟩,?_,rfl,i3⟩;show Yja cb (Conc.row u::cs)=(Zzf u).toList++GI.blocks L;cases hu:(Zzf u) with
       | none=>rw [Yr (show cb (.row u)=none from hu),i2];rfl
       | some b=>rw [Ys (show cb (.row u)=some b from hu),i2];rfl
    | .nil,v::vs,.no::L,⟨h1,h3⟩=>
     obtain ⟨cs,i1,i2,i3⟩:=Zyx hFB hxs c2 h3;cases m with
     | v=>cases hx
     | ro=>cases hx
     | own e=>
      cases hm:Z0 e with
      | true=>
       replace hx:(bif Z0 e then none else some Leaf.nil)=some x:=hx;rw [hm] at hx;cases hx
      | false=>
      replace hx:(bif Z0 e then none else some Leaf.nil)=some x:=hx;rw [hm] at hx;cases hx;cases c1;refine ⟨.row v::cs,⟨rfl,Zfc.ok (.inl ⟨h1,rfl⟩) hm,i1⟩,?_,(by rw [h1];rfl),i3⟩;rw [Yr (show cb (.row v)=none by rw [h1];rfl),i2];rfl
  ·cases h
 | [],_::_,_,_,_,_,h,_,_=>by cases h
 | _::_,[],_,_,_,_,h,_,_=>by cases h
theorem Znw (hFB:∀b,F b→B b):∀{ms:List PL} {cls:List CL} {xs ys:List Leaf} {vs:List Value} {N:List Value},Z4i ms cls=some xs→Canons xs ys→MLs w F B cls vs N →
  ∃cs,PLs w F B ms ys vs cs∧cs.filterMap cb=Zxb N
 | [],[],xs,ys,vs,N,h,c,k=>by
  cases h;cases c;cases vs with
  | nil=>obtain rfl:N=[]:=k;exact ⟨[],rfl,rfl⟩
  | cons _ _=>exact k.elim
 | m::ms,cl::cls,xs,ys,vs,N,h,c,k=>by
  unfold Z4i at h;split at h
  ·rename_i x xs' hx hxs
   cases h;cases c with
   | cons c1 c2=>
    rename_i y ys
    match cl,vs,N,k with
    | .leaf z,v::vs,N,k=>
     obtain ⟨cs,i1,i2⟩:=Znw hFB hxs c2 k.2;cases m with
     | v=>
      refine ⟨cs,⟨?_,i1⟩,i2⟩;cases z with
      | bor t l=>cases hx
      | _=>cases hx;exact Zzr c1 k.1
     | ro=>
      refine ⟨cs,⟨?_,i1⟩,i2⟩;cases z with
      | bor t l=>cases hx;exact Zzr c1 (show Zof w B B (.list t l) v from k.1)
      | _=>cases hx;exact Zzr c1 (k.1.mono hFB fun b hb=>hb)
     | own e=>cases hx
    | .row e' t l,v::vs,u::N,⟨h1,h2,h3⟩=>
     obtain ⟨cs,i1,i2⟩:=Znw hFB hxs c2 h3;cases m with
     | v=>cases hx
     | ro=>cases hx
     | own e=>
      cases he:Ya e e' with
      | false=>
       replace hx:(bif Ya e e' then some (Leaf.list t l) else none)=some x:=hx;rw [he] at hx;cases hx
      | true=>
       replace hx:(bif Ya e e' then some (Leaf.list t l) else none)=some x:=hx;rw [he] at hx;cases hx;obtain rfl:=Yf he;cases c1;subst h1;refine ⟨.row u::cs,⟨rfl,h2,i1⟩,?_⟩;unfold Zxb;cases hu:(Zzf u) with
       | none=>rw [Yr (show cb (.row u)=none from hu),Yr hu,i2];rfl
       | some b=>rw [Ys (show cb (.row u)=some b from hu),Ys hu,i2];rfl
    | .nil,v::vs,N,⟨h1,h3⟩=>
     obtain ⟨cs,i1,i2⟩:=Znw hFB hxs c2 h3;cases m with
     | v=>cases hx
     | ro=>cases hx
     | own e=>
      cases hm:Z0 e with
      | true=>
       replace hx:(bif Z0 e then none else some Leaf.nil)=some x:=hx;rw [hm] at hx;cases hx
      | false=>
      replace hx:(bif Z0 e then none else some Leaf.nil)=some x:=hx;rw [hm] at hx;cases hx;cases c1;refine ⟨.row v::cs,⟨rfl,Zfc.ok (.inl ⟨h1,rfl⟩) hm,i1⟩,?_⟩;rw [Yr (show cb (.row v)=none by rw [h1];rfl),i2]
  ·cases h
 | [],_::_,_,_,_,_,h,_,_=>by cases h
 | _::_,[],_,_,_,_,h,_,_=>by cases h
def Z0i (X:Nat→Prop) (ρ:Rho) (w:World):List Ent→List Conc→Prop
 | [],[]=>True
 | e::es,c::cs=>Zid X ρ w e (some c)∧Z0i X ρ w es cs
 | _,_=>False
theorem Z0i.append:∀{es fs:List Ent} {cs ds:List Conc},Z0i X ρ w es cs→Z0i X ρ w fs ds→Z0i X ρ w (es++fs) (cs++ds)
 | [],_,[],_,_,k=>k
 | _::_,_,_::_,_,h,k=>⟨h.1,Z0i.append h.2 k⟩
 | [],_,_::_,_,h,_=>h.elim
 | _::_,_,[],_,h,_=>h.elim
theorem Z0i.len:∀{es:List Ent} {cs:List Conc},Z0i X ρ w es cs→es.length=cs.length
 | [],[],_=>rfl
 | _::_,_::_,h=>congrArg (· + 1) (Z0i.len h.2)
 | [],_::_,h=>h.elim
 | _::_,[],h=>h.elim
theorem Z2mb (hF:∀b,F b→Fix X ρ w b) {x:Leaf} {v:Value} (h:Zof w F (fun _=>False) x v):Zlb X ρ w x v:=Zqcb (h.mono hF fun b hb=>hb)
theorem Zpcb (hB:∀b,B b→Brw ρ w b) {x:Leaf} {v:Value} (h:Zof w B (fun _=>False) x v):Zlb X ρ w (Z3i x) v:=by
 cases x <;> first | exact h | exact h.elim | exact Rep.move (fun b hb=>⟨rfl,hB b hb⟩) h | exact Rep.move (fun b hb=>hb.elim) h
theorem Z4t (hF:∀b,F b→Fix X ρ w b) (hB:∀b,B b→Brw ρ w b):∀{ms:List PL} {xs:List Leaf} {vs:List Value} {cs:List Conc} {nb:Nat},PLs w F B ms xs vs cs→Zbi ρ nb cs →
  Zq X ρ w (Z3e ms xs nb).1 vs∧Z0i X ρ w (Z3e ms xs nb).2 cs
 | [],[],[],cs,nb,h,_=>by
  obtain rfl:cs=[]:=h;exact ⟨trivial,trivial⟩
 | .v::ms,x::xs,v::vs,cs,nb,h,k=>by
  obtain ⟨h1,h2⟩:=h;obtain ⟨i1,i2⟩:=Z4t hF hB (nb:=nb) h2 k;have e:Z3e (.v::ms) (x::xs) nb=(x::(Z3e ms xs nb).1,(Z3e ms xs nb).2):=rfl;rw [e];exact ⟨⟨Z2mb hF h1,i1⟩,i2⟩
 | .ro::ms,x::xs,v::vs,cs,nb,h,k=>by
  obtain ⟨h1,h2⟩:=h;obtain ⟨i1,i2⟩:=Z4t hF hB (nb:=nb) h2 k;have e:Z3e (.ro::ms) (x::xs) nb=(Z3i x::(Z3e ms xs nb).1,(Z3e ms xs nb).2):=rfl;rw [e];exact ⟨⟨Zpcb hB h1,i1⟩,i2⟩
 | .own e::ms,.list t l::xs,v::vs,c::cs,nb,h,k=>by
  obtain ⟨rfl,h1,h2⟩:=h
  obtain ⟨i1,i2⟩:=Z4t hF hB (nb:=nb+1) h2 (fun j u hj=>by
   have:=k (j+1) u hj
   rwa [show nb+(j+1)=nb+1+j by omega] at this)
  have e':Z3e (.own e::ms) (.list t l::xs) nb=(.own nb::(Z3e ms xs (nb+1)).1,.arr false e t l::(Z3e ms xs (nb+1)).2):=rfl;rw [e'];refine ⟨⟨⟨Zueb h1,by rw [show ρ nb=some (.row v) from k 0 _ rfl]⟩,i1⟩,⟨v,rfl,h1.mono hF⟩,i2⟩
def lty:Leaf→Ty
 | .int k _=>.int k
 | .bool _=>.bool
 | .kb _=>.bool
 | .str _=>.str
 | .list r _=>.sl r
 | _=>.unit
theorem Zu4:∀(t:Ty) (x:t.T),Zfb t=(Z2 t x).map lty
 | .int _,_=>rfl
 | .bool,_=>rfl
 | .str,_=>rfl
 | .sl _,_=>rfl
 | .pair a b,x=>by
  show Zfb a++Zfb b=(Z2 a x.1++Z2 b x.2).map lty;rw [List.map_append,← Zu4 a x.1,← Zu4 b x.2]
 | .unit,_=>rfl
theorem Zg0:∀{ms:List PL} {xs:List Leaf} {vs:List Value} {cs:List Conc},PLs w F B ms xs vs cs→cs.length=(Zil (xs.map lty) ms).length∧∀c∈cs,∃v,c = .row v
 | [],[],[],cs,h=>by
  obtain rfl:cs=[]:=h;exact ⟨rfl,fun c hc=>nomatch hc⟩
 | .v::ms,x::xs,v::vs,cs,h=>by
  obtain ⟨i1,i2⟩:=Zg0 h.2;refine ⟨?_,i2⟩;rw [i1];cases x <;> rfl
 | .ro::ms,x::xs,v::vs,cs,h=>by
  obtain ⟨i1,i2⟩:=Zg0 h.2;refine ⟨?_,i2⟩;rw [i1];cases x <;> rfl
 | .own e::ms,.list t l::xs,v::vs,c::cs,h=>by
  obtain ⟨h1,_,h2⟩:=h;obtain ⟨i1,i2⟩:=Zg0 h2;refine ⟨congrArg (· + 1) i1,fun c' hc=>?_⟩;rcases Yn.1 hc with rfl | hc
  ·exact ⟨v,h1⟩
  ·exact i2 c' hc
end
section
variable {P:Program} {X:Nat→Prop} {ρ ρ':Rho} {st st':St} {a:Act} {w w':World} {R:Type} {r:R} {C:Ctx} {F B:Nat→Prop}
theorem Zhp:∀(L1 L2:List GI),GI.blocks (L1++L2)=GI.blocks L1++GI.blocks L2
 | [],_=>rfl
 | .blk g::L,L2=>congrArg (g :: ·) (Zhp L L2)
 | .row v::L,L2=>by
  show (Zzf v).toList++GI.blocks (L++L2)=((Zzf v).toList++GI.blocks L)++GI.blocks L2;rw [Zhp L L2,Yh]
 | .no::L,L2=>Zhp L L2
theorem Zxz (M N:List Value):Zxb (M++N)=Zxb M++Zxb N:=Yi
theorem Zsdb {α:Type} {a b c d e f:List α} (h:Yd a (c++d)) (k:Yd b (e++f)):Yd (a++b) (c++e++(d++f)):=by
 refine (h.append k).trans ?_
 rw [Yh,Yh]
 refine Yd.append_left _ ?_
 rw [← Yh,← Yh]
 exact Yd.append_right _ Yoa
theorem Z4d.split2 {F B:Nat→Prop}:∀{xs ys:List Leaf} {vs:List Value},Z4d w F B (xs++ys) vs→∃v1 v2,vs=v1++v2∧Z4d w F B xs v1∧Z4d w F B ys v2
 | [],_,vs,h=>⟨[],vs,rfl,trivial,h⟩
 | _::_,_,v::vs,h=>by
  obtain ⟨v1,v2,rfl,h1,h2⟩:=Z4d.split2 h.2;exact ⟨v::v1,v2,rfl,⟨h.1,h1⟩,h2⟩
 | _::_,_,[],h=>h.elim
def Z6j:List (TypeId×Ty×List PL)→List GI→List Conc→Prop
 | [],L,cs=>L=[]∧cs=[]
 | k::ks,L,cs=>if k.1=roT then Z6j ks L cs else ∃g rest L' cs',L = .blk g::L'∧cs = .blk g::rest++cs'∧rest.length=Z5e (Zfb k.2.1) k.2.2∧Z6j ks L' cs'
def Zb8:PK→List GI→List Conc→Prop
 | .val _ t ms,L,cs=>Z7u L cs∧cs.length=Z5e (Zfb t) ms
 | .rptr _,L,cs=>L=[]∧cs=[]
 | .ref _ t ms,L,cs=>∃g rest,L=[.blk g]∧cs = .blk g::rest∧rest.length=Z5e (Zfb t) ms
 | .fn _ ks,L,cs=>Z6j ks L cs
 | .mv _ _,L,cs=>L=[]∧∃v,cs=[.row v]
 | .vm _ t ms,L,cs=>L=[]∧cs.length=Z5e (Zfb t) ms
def Z11:List PK→List GI→List Conc→Prop
 | [],L,cs=>L=[]∧cs=[]
 | p::ps,L,cs=>∃L1 L2 c1 c2,L=L1++L2∧cs=c1++c2∧Zb8 p L1 c1∧Z11 ps L2 c2
theorem Z95 {t:Ty} {x:t.T} {ms:List PL} {vs:List Value} {cs:List Conc} (h:PLs w F B ms (Z2 t x) vs cs):cs.length=Z5e (Zfb t) ms:=by
 unfold Z5e
 rw [Zu4 t x]
 exact (Zg0 h).1
theorem Zg9 (hFB:∀b,F b→B b) {tid:TypeId} {t:Ty} {ms:List PL} {xs:List CL} {v:Value} {L:List GI} {N:List Value} {d:DV} (h:Z4n w F B tid xs v L N) (hd:dv t (Z4i ms xs)=some d):
  ∃(x:t.T) (g:Nat) (cs:List Conc),L=[.blk g]∧cs.length=Z5e (Zfb t) ms∧d = .mk t x∧v = .pointer (some ⟨g,0,none⟩)∧((Conc.blk g::cs).filterMap cb).Perm (GI.blocks L++Zxb N) ∧
   ∀(X:Nat→Prop) (ρ:Rho) (nb:Nat),(∀b,F b→Fix X ρ w b)→(∀b,B b→Brw ρ w b)→Zbi ρ nb (.blk g::cs)→Z0i X ρ w (Zak tid ms (Z2 t x) nb) (.blk g::cs):=by
 obtain ⟨g,cells,fr,rfl,rfl,hh,hu,hm⟩:=h
 unfold dv at hd
 split at hd
 ·rename_i ys hys
  split at hd
  ·rename_i x hx
   cases hd;obtain ⟨cs,c1,c2⟩:=Znw hFB hys (Zs1 hx) hm;refine ⟨x,g,cs,rfl,Z95 c1,rfl,rfl,?_,fun X ρ nb hF hB hr=>?_⟩
   ·rw [Ys (show cb (.blk g)=some g from rfl),c2]
    exact Yd.refl _
   ·obtain ⟨i1,i2⟩:=Z4t (X:=X) hF hB (nb:=nb+1) c1 (fun j u hj=>by
     have:=hr (j+1) u hj
     rwa [show nb+(j+1)=nb+1+j by omega] at this)
    exact ⟨⟨g,cells,fr,rfl,hh,hu,i1⟩,i2⟩
  ·cases hd
 ·cases hd
theorem Zj3 {F:Nat→Prop}:∀{t:Ty} {x:t.T} {cs:List Value},Z4d w F (fun _=>False) (Z2 t x) cs→Rep w F t x cs
 | .int k,x,[v],h=>by rw [show v=_ from h.1];rfl
 | .bool,x,[v],h=>by rw [show v=_ from h.1];rfl
 | .str,x,[v],h=>by rw [show v=_ from h.1];rfl
 | .sl r,x,[v],h=>h.1
 | .unit,x,[],h=>rfl
 | .pair p q,x,cs,h=>by
  obtain ⟨c1,c2,rfl,h1,h2⟩:=Z4d.split2 (xs:=Z2 p x.1) (ys:=Z2 q x.2) h;exact ⟨c1,c2,rfl,Zj3 h1,Zj3 h2⟩
 | .int _,_,[],h=>h.elim
 | .bool,_,[],h=>h.elim
 | .str,_,[],h=>h.elim
 | .sl _,_,[],h=>h.elim
 | .int _,_,_::_::_,h=>h.2.elim
 | .bool,_,_::_::_,h=>h.2.elim
 | .str,_,_::_::_,h=>h.2.elim
 | .sl _,_,_::_::_,h=>h.2.elim
 | .unit,_,_::_,h=>h.elim
theorem Z85 (hFB:∀b,F b→B b):∀{ms:List PL} {xs:List Leaf} {vs:List Value},PLs w F B ms xs vs []→Z4d w B (fun _=>False) xs vs
 | [],[],[],_=>trivial
 | .v::ms,x::xs,v::vs,h=>⟨h.1.mono hFB fun b hb=>hb,Z85 hFB (ms:=ms) h.2⟩
 | .ro::ms,x::xs,v::vs,h=>⟨h.1,Z85 hFB (ms:=ms) h.2⟩
 | .own _::_,x::_,_::_,h=>by cases x <;> exact h.elim
 | .own _::_,x::_,[],h=>by cases x <;> exact h.elim
theorem Zcpb (hFB:∀b,F b→B b) {t:Ty} {ms:List PL} {xs:List CL} {v:Value} {L:List GI} {N:List Value} {d:DV} (h:Zc8 w F B xs v L N) (hd:dv t (Z4i ms xs)=some d):
  ∃x:t.T,L=[]∧N=[]∧d = .mk t x∧∀(X:Nat→Prop) (ρ:Rho),(∀b,B b→Brw ρ w b)→Zlb X ρ w (.rp t x) v:=by
 obtain ⟨rfl,rfl,g,o,cells,rfl,hg,hc,hx⟩:=h
 unfold dv at hd
 split at hd
 ·rename_i ys hys
  split at hd
  ·rename_i x hx2
   cases hd;obtain ⟨cs,c1,c2,c3⟩:=Zyx hFB hys (Zs1 hx2) hx
   match cs,c3 with
   | [],_=>
    refine ⟨x,rfl,rfl,rfl,fun X ρ hB=>⟨g,o,cells,rfl,hB g hg,hc,Rep.move (fun b hb=>⟨rfl,hB b hb⟩) (Zj3 (Z85 hFB c1))⟩⟩
  ·cases hd
 ·cases hd
theorem Zsib {tid:TypeId} {t:Ty} {ms:List PL} {ks:List (TypeId×Ty×List PL)} {x:t.T} {ds:List DV} {nb:Nat} (h:tid=roT):Zug ((tid,t,ms)::ks) (.mk t x::ds) nb=(.rp t x::(Zug ks ds nb).1,(Zug ks ds nb).2):=by
 subst h;rfl
theorem Zrib {tid:TypeId} {t:Ty} {ms:List PL} {ks:List (TypeId×Ty×List PL)} {x:t.T} {ds:List DV} {nb:Nat} (h:tid≠roT):
  Zug ((tid,t,ms)::ks) (.mk t x::ds) nb=(.ptr nb 0::(Zug ks ds (nb+(Zak tid ms (Z2 t x) nb).length)).1,Zak tid ms (Z2 t x) nb++(Zug ks ds (nb+(Zak tid ms (Z2 t x) nb).length)).2):=by
 have e:Ya tid roT=false:=by
  cases hb:Ya tid roT with
  | false=>rfl
  | true=>exact absurd (Yf hb) h
 have h1:Zug ((tid,t,ms)::ks) (.mk t x::ds) nb=bif Ya tid roT then (.rp t x::(Zug ks ds nb).1,(Zug ks ds nb).2) else
  (.ptr nb 0::(Zug ks ds (nb+(Zak tid ms (Z2 t x) nb).length)).1,Zak tid ms (Z2 t x) nb++(Zug ks ds (nb+(Zak tid ms (Z2 t x) nb).length)).2):=rfl
 rw [h1,e]
 rfl
theorem Zn9 (hFB:∀b,F b→B b):∀{ks:List (TypeId×Ty×List PL)} {asx:List (TypeId×List CL)} {vs:List Value} {L:List GI} {N:List Value} {ds:List DV},Zlj w F B asx vs L N→Zgt ks asx=some ds →
  ∃cs:List Conc,Z6j ks L cs∧(cs.filterMap cb).Perm (GI.blocks L++Zxb N)∧ds.length=ks.length∧∀(X:Nat→Prop) (ρ:Rho) (nb:Nat) (es:List DV),(∀b,F b→Fix X ρ w b)→(∀b,B b→Brw ρ w b)→Zbi ρ nb cs →
   Zq X ρ w (Zug ks (ds++es) nb).1 vs∧Z0i X ρ w (Zug ks (ds++es) nb).2 cs
 | [],[],[],L,N,ds,h,hd=>by
  obtain ⟨rfl,rfl⟩:=h;cases hd;exact ⟨[],⟨rfl,rfl⟩,Yd.refl _,rfl,fun X ρ nb es _ _ _=>⟨trivial,trivial⟩⟩
 | (tid,t,ms)::ks,(tid',xs)::asx,v::vs,L,N,ds,h,hd=>by
  obtain ⟨L1,L2,N1,N2,rfl,rfl,h1,h2⟩:=h;unfold Zgt at hd;cases ht:Ya tid tid' with
  | false=>rw [ht] at hd;cases hd
  | true=>
   rw [ht] at hd;obtain rfl:=Yf ht
   replace hd:(match dv t (Z4i ms xs),Zgt ks asx with
    | some x,some ds=>some (x::ds)
    | _,_=>none)=some ds:=hd
   split at hd
   ·rename_i d ds' hd1 hd2
    cases hd;obtain ⟨cs2,z2,p2,l2,q2⟩:=Zn9 hFB h2 hd2;unfold Zkj at h1;split at h1
    ·rename_i hro
     obtain ⟨x,rfl,rfl,rfl,q1⟩:=Zcpb hFB h1 hd1;refine ⟨cs2,?_,p2,congrArg (· + 1) l2,fun X ρ nb es hF hB hr=>?_⟩
     ·show (if tid=roT then Z6j ks L2 cs2 else _)
      rw [Xc hro];exact z2
     ·rw [Yia,Zsib hro]
      obtain ⟨i1,i2⟩:=q2 X ρ nb es hF hB hr;exact ⟨⟨q1 X ρ hB,i1⟩,i2⟩
    ·rename_i hro
     obtain ⟨x,g,cs1,rfl,n1,rfl,rfl,p1,q1⟩:=Zg9 hFB h1 hd1;refine ⟨(.blk g::cs1)++cs2,?_,?_,congrArg (· + 1) l2,fun X ρ nb es hF hB hr=>?_⟩
     ·show (if tid=roT then Z6j ks ([.blk g]++L2) ((.blk g::cs1)++cs2) else _)
      rw [Xd hro];exact ⟨g,cs1,L2,cs2,rfl,rfl,n1,z2⟩
     ·rw [Yi,Zhp,Zxz]
      exact Zsdb p1 p2
     ·have b1:=q1 X ρ nb hF hB hr.left
      have hr2:=hr.right;rw [← b1.len] at hr2;obtain ⟨i1,i2⟩:=q2 X ρ _ es hF hB hr2;rw [Yia,Zrib hro];have h0:ρ nb=some (.blk g):=hr 0 _ rfl;exact ⟨⟨⟨⟨_,rfl⟩,by rw [h0]⟩,i1⟩,b1.append i2⟩
   ·cases hd
 | [],_::_,_,_,_,_,_,hd=>by cases hd
 | _::_,[],_,_,_,_,_,hd=>by cases hd
 | [],[],_::_,_,_,_,h,_=>h.elim
 | _::_,_::_,[],_,_,_,h,_=>h.elim
theorem Zjab {F B:Nat→Prop}:∀{xs ys:List Leaf} {vs us:List Value},Canons xs ys→Z4d w F B xs vs→Z4d w F B ys vs
 | [],_,[],_,c,_=>by cases c;trivial
 | x::xs,_,v::vs,us,c,h=>by
  cases c with
  | cons c1 c2=>exact ⟨Zzr c1 h.1,Zjab (us:=us) c2 h.2⟩
 | [],_,_::_,_,_,h=>h.elim
 | _::_,_,[],_,_,h=>h.elim
theorem Zkab (hFB:∀b,F b→B b):∀{xs:List Leaf} {vs:List Value},Z4d w F B xs vs→Z4d w B (fun _=>False) (xs.map unB) vs
 | [],[],_=>trivial
 | x::xs,v::vs,h=>by
  refine ⟨?_,Zkab hFB h.2⟩;have h1:=h.1;cases x with
  | bor t l=>exact h1
  | list t l=>exact Rep.move (fun b hb=>⟨rfl,hFB b hb⟩) h1
  | _=>exact h1
 | [],_::_,h=>h.elim
 | _::_,[],h=>h.elim
theorem Z4d.split {F B:Nat→Prop}:∀{xs ys:List Leaf} {vs:List Value},Z4d w F B (xs++ys) vs→∃v1 v2,vs=v1++v2∧Z4d w F B xs v1
 | [],_,vs,_=>⟨[],vs,rfl,trivial⟩
 | _::_,_,v::vs,h=>by
  obtain ⟨v1,v2,rfl,h1⟩:=Z4d.split h.2;exact ⟨v::v1,v2,rfl,h.1,h1⟩
 | _::_,_,[],h=>h.elim
theorem Zscb (hB:∀b,B b→Brw ρ w b):∀{xs:List Leaf} {vs:List Value},Z4d w B (fun _=>False) xs vs→Zq X ρ w (xs.map Z3i) vs
 | [],[],_=>trivial
 | _::_,_::_,h=>⟨Zpcb hB h.1,Zscb hB h.2⟩
 | [],_::_,h=>h.elim
 | _::_,[],h=>h.elim
theorem Zig.left {g o:Nat} {c1 c2:List Value} (h:Zig w g o (c1++c2)):Zig w g o c1:=fun i v hv=>h i v (by rw [Y5 (Yla.1 hv).1];exact hv)
theorem Z1hb (hFB:∀b,F b→B b) {p:PK} {c:CArg} {v:Value} {L:List GI} {N:List Value} {d:List DV} (h:Z5n w F B c v L N) (hd:Zh3 p c=some d):
  ∃cs:List Conc,Zb8 p L cs∧(cs.filterMap cb).Perm (GI.blocks L++Zxb N)∧∀(ps:List PK) (ds:List DV) (X:Nat→Prop) (ρ:Rho) (nb:Nat),(∀b,F b→Fix X ρ w b)→(∀b,B b→Brw ρ w b)→Zbi ρ nb cs →
   ∃av es,Zlg (p::ps) (d++ds) nb=(av::(Zlg ps ds (nb+cs.length)).1,es++(Zlg ps ds (nb+cs.length)).2)∧Z4 X ρ w av v∧Z0i X ρ w es cs:=by
 unfold Zh3 at hd
 split at hd
 ·rename_i ag t ms ag' xs
  cases hag:(ag==ag') with
  | false=>rw [hag] at hd;cases hd
  | true=>
   rw [hag] at hd;have hag:ag=ag':=by simpa using hag
   subst hag
   replace hd:(match dv t (Z4i ms xs) with
    | some x=>some [x]
    | none=>none)=some d:=hd
   split at hd
   ·rename_i d' hdv
    cases hd;unfold dv at hdv;split at hdv
    ·rename_i ys hys
     split at hdv
     ·rename_i x hx
      cases hdv
      obtain ⟨vs,hv,rfl,hvl⟩:∃vs,(if ag then ∃cs:Array Value,v = .agg cs∧vs=cs.toList else vs=[v])∧N=[]∧VLs w F B xs vs L:=by
       cases ag with
       | true=>
        obtain ⟨h1,cs,h2,h3⟩:=h;exact ⟨_,by simp only [if_true];exact ⟨cs,h2,rfl⟩,h1,h3⟩
       | false=>exact ⟨_,rfl,h.1,h.2⟩
      obtain ⟨cs,c1,c2,c3⟩:=Zyx hFB hys (Zs1 hx) hvl;refine ⟨cs,⟨c3,Z95 c1⟩,?_,fun ps ds X ρ nb hF hB hr=>?_⟩
      ·rw [c2]
       show Yd (GI.blocks L) (GI.blocks L++[]);rw [Yu]
      ·obtain ⟨i1,i2⟩:=Z4t (X:=X) hF hB (nb:=nb) c1 hr
       refine ⟨mk1 ag (Z3e ms (Z2 t x) nb).1,(Z3e ms (Z2 t x) nb).2,?_,Z2z ?_,i2⟩
       ·show (mk1 ag (Z3e ms (Z2 t x) nb).1::(Zlg ps ds (nb+(Z3e ms (Z2 t x) nb).2.length)).1,(Z3e ms (Z2 t x) nb).2++(Zlg ps ds (nb+(Z3e ms (Z2 t x) nb).2.length)).2)=_
        rw [i2.len]
       ·unfold Ztm
        cases ag with
        | true=>
         obtain ⟨ar,rfl,rfl⟩:=hv;exact ⟨ar,rfl,i1⟩
        | false=>
         obtain rfl:vs=[v]:=hv;exact i1
     ·cases hdv
    ·cases hdv
   ·cases hd
 ·rename_i t xs
  obtain ⟨rfl,rfl,g,o,cells,rfl,hg,hc,hx⟩:=h;split at hd
  ·rename_i d' hu
   cases hd;unfold unlF at hu;split at hu
   ·rename_i x ys hx2
    cases hu;obtain ⟨zs,e,c⟩:=Zt1 hx2;have hx3:=Zkab hFB hx;rw [e] at hx3;obtain ⟨v1,v2,rfl,hx4⟩:=hx3.split;refine ⟨[],⟨rfl,rfl⟩,Yd.refl _,fun ps ds X ρ nb hF hB hr=>⟨.eptr ((Z2 t x).map Z3i),[],rfl,⟨g,o,v1,rfl,hB g hg,hc.left,Zscb hB (Zjab (us:=[]) c hx4)⟩,trivial⟩⟩
   ·cases hu
  ·cases hd
 ·rename_i tid t ms tid' xs
  cases ht:Ya tid tid' with
  | false=>rw [ht] at hd;cases hd
  | true=>
   rw [ht] at hd;obtain rfl:=Yf ht
   replace hd:(match dv t (Z4i ms xs) with
    | some x=>some [x]
    | none=>none)=some d:=hd
   split at hd
   ·rename_i d' hdv
    cases hd;obtain ⟨x,g,cs,rfl,n1,rfl,rfl,p1,q1⟩:=Zg9 hFB h hdv;refine ⟨.blk g::cs,⟨g,cs,rfl,rfl,n1⟩,p1,fun ps ds X ρ nb hF hB hr=>?_⟩;have b1:=q1 X ρ nb hF hB hr;refine ⟨.one (.ptr nb 0),Zak tid ms (Z2 t x) nb,?_,⟨⟨_,rfl⟩,by rw [show ρ nb=some (.blk g) from hr 0 _ rfl]⟩,b1⟩;show (AV.one (.ptr nb 0)::(Zlg ps ds (nb+(Zak tid ms (Z2 t x) nb).length)).1,Zak tid ms (Z2 t x) nb++(Zlg ps ds (nb+(Zak tid ms (Z2 t x) nb).length)).2)=_;rw [b1.len]
   ·cases hd
 ·rename_i f ks f' asx
  cases ht:Ya f f' with
  | false=>rw [ht] at hd;cases hd
  | true=>
   rw [ht] at hd;obtain rfl:=Yf ht;replace hd:Zgt ks asx=some d:=hd;obtain ⟨ar,rfl,hc⟩:=h;obtain ⟨cs,z1,p1,l1,q1⟩:=Zn9 hFB hc hd;refine ⟨cs,z1,p1,fun ps ds X ρ nb hF hB hr=>?_⟩;obtain ⟨i1,i2⟩:=q1 X ρ nb ds hF hB hr;refine ⟨.fn f (Zug ks (d++ds) nb).1,(Zug ks (d++ds) nb).2,?_,⟨ar,rfl,i1⟩,i2⟩;show (AV.fn f (Zug ks (d++ds) nb).1::(Zlg ps ((d++ds).drop ks.length) (nb+(Zug ks (d++ds) nb).2.length)).1,(Zug ks (d++ds) nb).2++(Zlg ps ((d++ds).drop ks.length) (nb+(Zug ks (d++ds) nb).2.length)).2)=_;rw [i2.len,← l1,List.drop_left]
 ·rename_i e rt e' rt' l
  cases ht:Ya e e' with
  | false=>rw [ht] at hd;cases hd
  | true=>
   rw [ht] at hd;obtain rfl:=Yf ht
   replace hd:(match dv (.sl rt) (some [.list rt' l]) with
    | some x=>some [x]
    | none=>none)=some d:=hd
   split at hd
   ·rename_i d' hdv
    cases hd;obtain ⟨rfl,rfl,hrow⟩:=h
    have hds:∃hh:rt'=rt,d' = .mk (.sl rt) (hh▸l:List rt.T):=by
     unfold dv at hdv;split at hdv
     ·rename_i zs hzs
      cases hzs;split at hdv
      ·rename_i x hx
       cases hdv;unfold Z9h at hx;split at hx
       ·rename_i y hy
        cases hx
        replace hy:(match Ty.same rt' rt with
         | some h=>some ((h.down▸l:List rt.T),([]:List Leaf))
         | none=>none)=some (x,[]):=hy
        split at hy
        ·rename_i hs _
         cases hy;exact ⟨hs.down,rfl⟩
        ·cases hy
       ·cases hx
      ·cases hdv
     ·cases hdv
    obtain ⟨rfl,rfl⟩:=hds;refine ⟨[.row v],⟨rfl,v,rfl⟩,?_,fun ps ds X ρ nb hF hB hr=>?_⟩
    ·show Yd ([Conc.row v].filterMap cb) (GI.blocks []++Zxb [v])
     exact Yd.refl _
    ·have h0:ρ nb=some (.row v):=hr 0 _ rfl
     have hrow':=hrow.mono (F':=Fix X ρ w) hF;exact ⟨.one (.own nb),[.arr false e rt' l],rfl,⟨hrow.form,by rw [h0]⟩,⟨⟨v,rfl,hrow'⟩,trivial⟩⟩
   ·cases hd
 ·rename_i ag t ms ag' xs
  cases hag:(ag==ag') with
  | false=>rw [hag] at hd;cases hd
  | true=>
   rw [hag] at hd;have hag:ag=ag':=by simpa using hag
   subst hag
   replace hd:(match dv t (Z4i ms xs) with
    | some x=>some [x]
    | none=>none)=some d:=hd
   split at hd
   ·rename_i d' hdv
    cases hd;unfold dv at hdv;split at hdv
    ·rename_i ys hys
     split at hdv
     ·rename_i x hx
      cases hdv
      obtain ⟨vs,hv,rfl,hvl⟩:∃vs,(if ag then ∃cs:Array Value,v = .agg cs∧vs=cs.toList else vs=[v])∧L=[]∧MLs w F B xs vs N:=by
       cases ag with
       | true=>
        obtain ⟨h1,cs,h2,h3⟩:=h;exact ⟨_,by simp only [if_true];exact ⟨cs,h2,rfl⟩,h1,h3⟩
       | false=>exact ⟨_,rfl,h.1,h.2⟩
      obtain ⟨cs,c1,c2⟩:=Znw hFB hys (Zs1 hx) hvl;refine ⟨cs,⟨rfl,Z95 c1⟩,?_,fun ps ds X ρ nb hF hB hr=>?_⟩
      ·rw [c2]
       exact Yd.refl _
      ·obtain ⟨i1,i2⟩:=Z4t (X:=X) hF hB (nb:=nb) c1 hr
       refine ⟨mk1 ag (Z3e ms (Z2 t x) nb).1,(Z3e ms (Z2 t x) nb).2,?_,Z2z ?_,i2⟩
       ·show (mk1 ag (Z3e ms (Z2 t x) nb).1::(Zlg ps ds (nb+(Z3e ms (Z2 t x) nb).2.length)).1,(Z3e ms (Z2 t x) nb).2++(Zlg ps ds (nb+(Z3e ms (Z2 t x) nb).2.length)).2)=_
        rw [i2.len]
       ·unfold Ztm
        cases ag with
        | true=>
         obtain ⟨ar,rfl,rfl⟩:=hv;exact ⟨ar,rfl,i1⟩
        | false=>
         obtain rfl:vs=[v]:=hv;exact i1
     ·cases hdv
    ·cases hdv
   ·cases hd
 ·cases hd
theorem Zy8 (hFB:∀b,F b→B b):∀{ps:List PK} {asx:List CArg} {vs:List Value} {L:List GI} {N:List Value} {ds:List DV},Zth w F B asx vs L N→Zft ps asx=some ds →
  ∃cs:List Conc,Z11 ps L cs∧(cs.filterMap cb).Perm (GI.blocks L++Zxb N)∧∀(X:Nat→Prop) (ρ:Rho) (nb:Nat),(∀b,F b→Fix X ρ w b)→(∀b,B b→Brw ρ w b)→Zbi ρ nb cs →
   Zni X ρ w (Zlg ps ds nb).1 vs∧Z0i X ρ w (Zlg ps ds nb).2 cs
 | [],[],[],L,N,ds,h,hd=>by
  obtain ⟨rfl,rfl⟩:=h;cases hd;exact ⟨[],⟨rfl,rfl⟩,Yd.refl _,fun X ρ nb _ _ _=>⟨trivial,trivial⟩⟩
 | p::ps,a::asx,v::vs,L,N,ds,h,hd=>by
  obtain ⟨L1,L2,N1,N2,rfl,rfl,h1,h2⟩:=h;unfold Zft at hd;split at hd
  ·rename_i d ds' hd1 hd2
   cases hd;obtain ⟨cs1,z1,p1,q1⟩:=Z1hb hFB h1 hd1;obtain ⟨cs2,z2,p2,q2⟩:=Zy8 hFB h2 hd2;refine ⟨cs1++cs2,⟨L1,L2,cs1,cs2,rfl,rfl,z1,z2⟩,?_,fun X ρ nb hF hB hr=>?_⟩
   ·rw [Yi,Zhp,Zxz]
    exact Zsdb p1 p2
   ·obtain ⟨av,es,e,i1,i2⟩:=q1 ps ds' X ρ nb hF hB hr.left
    obtain ⟨j1,j2⟩:=q2 X ρ _ hF hB hr.right;rw [e];exact ⟨⟨i1,j1⟩,i2.append j2⟩
  ·cases hd
 | [],_::_,_,_,_,_,_,hd=>by cases hd
 | _::_,[],_,_,_,_,_,hd=>by cases hd
 | [],[],_::_,_,_,_,h,_=>h.elim
 | _::_,_::_,[],_,_,_,h,_=>h.elim
end
section
variable {P:Program} {X:Nat→Prop} {ρ ρ':Rho} {st st':St} {a:Act} {w w':World} {R:Type} {r:R} {C:Ctx} {F B:Nat→Prop}
def Zsg (ρ:Rho) (n:Nat) (cs:List Conc):Prop:=∀(j:Nat) (c:Conc),cs[j]? = some c→ρ (n+j)=some c∨ρ (n+j)=some .dead∨∃v,c = .row v∧ρ (n+j)=some (.frz v)
theorem Zsg.left {n:Nat} {O1 O2:List Conc} (h:Zsg ρ n (O1++O2)):Zsg ρ n O1:=fun j u hj=>h j u (by rw [Y5 (Yla.1 hj).1];exact hj)
theorem Zsg.right {n:Nat} {O1 O2:List Conc} (h:Zsg ρ n (O1++O2)):Zsg ρ (n+O1.length) O2:=fun j u hj=>by
 have:=h (O1.length+j) u (by rw [Yka (by omega)];simpa using hj)
 rwa [← Nat.add_assoc] at this
theorem Zsg.tail {n:Nat} {c:Conc} {cs:List Conc} (h:Zsg ρ n (c::cs)):Zsg ρ (n+1) cs:=Zsg.right (O1:=[c]) h
theorem Z1i.append:∀{L1 L2:List GI} {r1 r2:List RF} {O1 O2:List Conc},Z1i w F L1 r1 O1→Z1i w F L2 r2 O2→Z1i w F (L1++L2) (r1++r2) (O1++O2)
 | [],_,[],_,O1,O2,h,k=>by
  obtain rfl:O1=[]:=h;exact k
 | .blk g::L,_,.box t xs::rs,_,O1,O2,h,k=>by
  obtain ⟨A,B,cs,fr,rfl,h1,h2,h3,h4⟩:=h;exact ⟨A,B++O2,cs,fr,Yh _ _ _,h1,h2,h3,Z1i.append h4 k⟩
 | .row v::L,_,.row e t l::rs,_,_,_,h,k=>⟨h.1,Z1i.append h.2 k⟩
 | .no::L,_,.row e t l::rs,_,_,_,h,k=>Z1i.append (L1:=L) (r1:=rs) h k
 | [],_,_::_,_,_,_,h,_=>h.elim
 | .blk _::_,_,[],_,_,_,h,_=>h.elim
 | .row _::_,_,[],_,_,_,h,_=>h.elim
 | .no::_,_,[],_,_,_,h,_=>h.elim
 | .blk _::_,_,.row _ _ _::_,_,_,_,h,_=>h.elim
 | .row _::_,_,.box _ _::_,_,_,_,h,_=>h.elim
 | .no::_,_,.box _ _::_,_,_,_,h,_=>h.elim
structure ToldB (X:Nat→Prop) (ρ:Rho) (w:World) (d:DR) (L:List GI) (rs:List RF) (O:List Conc) (S T:List Nat):Prop where
 sub:(O.filterMap cb).Sublist (d.owns.filterMap fun n=>cbO (ρ n))
 told:∀F:Nat→Prop,(∀b,Zyk X ρ w d.pures b→F b)→Z1i w F L rs O
 rows:∀n∈d.owns++d.pures,∃u,ρ n=some (.row u)
 lent:∀n∈S,∃u,ρ n=some (.row u)
 boxes:∀n∈T,∃g,ρ n=some (.blk g)
 own:∀b∈GI.blocks L,∃n∈S++T,owns (ρ n) b
theorem ToldB.nil:ToldB X ρ w DR.nil [] [] [] [] []:=⟨Ym.refl _,fun F _=>rfl,(fun n hn=>nomatch hn),(fun n hn=>nomatch hn),(fun n hn=>nomatch hn),fun n hn=>nomatch hn⟩
theorem ToldB.app {d1 d2:DR} {L1 L2:List GI} {r1 r2:List RF} {O1 O2:List Conc} {S1 S2 T1 T2:List Nat} (h:ToldB X ρ w d1 L1 r1 O1 S1 T1) (k:ToldB X ρ w d2 L2 r2 O2 S2 T2):
  ToldB X ρ w (d1.app d2) (L1++L2) (r1++r2) (O1++O2) (S1++S2) (T1++T2):=by
 refine ⟨?_,?_,Zm6 h.rows k.rows,?_,?_,?_⟩
 ·rw [Yi]
  show Ym _ ((d1.owns++d2.owns).filterMap _);rw [Yi];exact h.sub.append k.sub
 ·exact fun F hF=>(h.told F fun b hb=>hF b (hb.mono fun n hn=>Yc _ hn)).append (k.told F fun b hb=>hF b (hb.mono fun n hn=>Ye _ hn))
 ·exact fun n hn=>(Yb.1 hn).elim (h.lent n) (k.lent n)
 ·exact fun n hn=>(Yb.1 hn).elim (h.boxes n) (k.boxes n)
 ·intro b hb
  rw [Zhp] at hb;rcases Yb.1 hb with hb | hb
  ·obtain ⟨n,h1,h2⟩:=h.own b hb
   refine ⟨n,?_,h2⟩;rcases Yb.1 h1 with h1 | h1
   ·exact Yc _ (Yc _ h1)
   ·exact Ye _ (Yc _ h1)
  ·obtain ⟨n,h1,h2⟩:=k.own b hb
   refine ⟨n,?_,h2⟩;rcases Yb.1 h1 with h1 | h1
   ·exact Yc _ (Ye _ h1)
   ·exact Ye _ (Ye _ h1)
theorem Zyob (n k:Nat):(Y0 (k+1)).map (n + ·)=n::(Y0 k).map (n+1 + ·):=by
 rw [List.range_succ_eq_map,List.map_cons,List.map_map]
 refine congrArg (n :: ·) (List.map_congr_left fun i _=>?_)
 show n+(i+1)=n+1+i
 omega
theorem Zl2 (h:Rel X ρ st a w):∀{ks:List (TypeId×Ty)} {n:Nat} {ds:List DV} {L:List GI} {cs:List Conc} (es:List DV),Zey st ks n=some ds→Z7u L cs→cs.length=ks.length→Zsg ρ n cs →
  ToldB X ρ w DR.nil L (Z5k ks (ds++es)).1 [] ((Y0 ks.length).map (n + ·)) []∧(Z5k ks (ds++es)).2=es
 | [],n,ds,L,cs,es,hs,hl,hn,hc=>by
  cases hs
  match L,cs,hl,hn with
  | [],[],_,_=>exact ⟨ToldB.nil,rfl⟩
  | .row _::_,[],h,_=>exact h.elim
  | .no::_,[],h,_=>exact h.elim
 | (e,t)::ks,n,ds,L,cs,es,hs,hl,hn,hc=>by
  unfold Zey at hs;split at hs
  ·rename_i d ds' hd hds
   cases hs
   match cs,hn with
   | c::cs,hn=>
   have hn':cs.length=ks.length:=Nat.succ.inj hn
   replace hd:(match st.ent n with
    | .arr false e' _ l=>match Zpi (r:=t) l with
     | some l=>bif Ya e e' then some (⟨[.mk (.sl t) l],[n],[]⟩:DR) else none
     | none=>none
    | _=>none)=some d:=hd
   split at hd
   ·rename_i e' t' l he
    have h0:=h.ents n;rw [he] at h0;obtain ⟨v,hv,h0⟩:=h0;split at hd
    ·rename_i l2 hl2
     cases hee:Ya e e' with
     | false=>rw [hee] at hd;cases hd
     | true=>
      rw [hee] at hd;cases hd;obtain rfl:=Yf hee;obtain ⟨ee,rfl⟩:=Z0r hl2;subst ee
      have hc0:c = .row v:=by
       have:=hc 0 c rfl;rw [Ypa,hv] at this;rcases this with q | q | ⟨u,_,q⟩
       ·cases q;rfl
       ·cases q
       ·cases q
      subst hc0;have e1:Z5k ((e,t')::ks) ([DV.mk (.sl t') l]++ds'++es)=(.row e t' l::(Z5k ks (ds'++es)).1,(Z5k ks (ds'++es)).2):=rfl;rw [show (DR.ds ⟨[DV.mk (.sl t') l],[n],[]⟩:List DV)=[DV.mk (.sl t') l] from rfl,e1,show ((e,t')::ks).length=ks.length+1 from rfl,Zyob]
      match L,hl with
      | .row v'::L,hl=>
       obtain ⟨rfl,hl⟩:=hl;obtain ⟨i1,i2⟩:=Zl2 h (n:=n+1) es hds hl hn' hc.tail;refine ⟨⟨i1.sub,fun F hF=>⟨h0.mono fun b hb=>hF b (.inl hb),i1.told F hF⟩,i1.rows,fun m hm=>?_,i1.boxes,fun b hb=>?_⟩,i2⟩
       ·rcases Yn.1 hm with rfl | hm
        ·exact ⟨v,hv⟩
        ·exact i1.lent m hm
       ·rcases Yb.1 (show b∈(Zzf v).toList++GI.blocks L from hb) with hb | hb
        ·refine ⟨n,Yc _ Yv,?_⟩
         rw [hv];exact Yva.1 hb
        ·obtain ⟨m,m1,m2⟩:=i1.own b hb
         exact ⟨m,Yo _ m1,m2⟩
      | .no::L,hl=>
       obtain ⟨_,hl⟩:=hl;obtain ⟨i1,i2⟩:=Zl2 h (n:=n+1) es hds hl hn' hc.tail;refine ⟨⟨i1.sub,fun F hF=>i1.told F hF,i1.rows,fun m hm=>?_,i1.boxes,fun b hb=>?_⟩,i2⟩
       ·rcases Yn.1 hm with rfl | hm
        ·exact ⟨v,hv⟩
        ·exact i1.lent m hm
       ·obtain ⟨m,m1,m2⟩:=i1.own b hb
        exact ⟨m,Yo _ m1,m2⟩
    ·cases hd
   ·cases hd
  ·cases hs
theorem Z38 (h:Rel X ρ st a w) {tid:TypeId} {ks:List RK} {n:Nat} {d:DR} {g:Nat} (es:List DV) (hs:Zdy st tid ks n=some d) (hc:Zsg ρ n [.blk g]):
  ∃O,ToldB X ρ w d [.blk g] [.box tid (Zeb ks (d.ds++es)).1] O [] [n]∧(Zeb ks (d.ds++es)).2=es:=by
 unfold Zdy at hs
 split at hs
 ·rename_i t xs he
  cases ht:Ya t tid with
  | false=>rw [ht] at hs;cases hs
  | true=>
   rw [ht] at hs;replace hs:Zao st ks xs=some d:=hs;obtain rfl:=Yf ht;have h0:=h.ents n;rw [he] at h0;obtain ⟨gb,cs,fr,hρ,hh,hun,hys⟩:=h0
   have hg:gb=g:=by
    have:=hc 0 _ rfl;rw [Ypa,hρ] at this;rcases this with q | q | ⟨u,_,q⟩
    ·cases q;rfl
    ·cases q
    ·cases q
   subst hg;obtain ⟨O,t1,e1⟩:=Zwv h es hys hs;refine ⟨O,⟨t1.2.1,fun F hF=>⟨O,[],cs,fr,(Yu _).symm,hh,hun,t1.1 F hF,rfl⟩,t1.2.2.2,(fun m hm=>nomatch hm),fun m hm=>?_,fun b hb=>?_⟩,e1⟩
   ·rw [Yj.1 hm];exact ⟨gb,hρ⟩
   ·refine ⟨n,Yj.2 rfl,?_⟩
    rw [hρ];exact Yj.1 hb
 ·cases hs
theorem Zo0 {tid:TypeId} (h:tid≠roT):Ya tid roT=false:=by
 cases hb:Ya tid roT with
 | false=>rfl
 | true=>exact absurd (Yf hb) h
theorem Zj2 (h:Rel X ρ st a w):∀{ks:List (TypeId×Ty×List PL)} {n:Nat} {d:DR} {L:List GI} {cs:List Conc} (es:List DV),Zkv st ks n=some d→Z6j ks L cs→Zsg ρ n cs →
  ∃O,ToldB X ρ w d L (Zwh ks (d.ds++es)).1 O [] (Zbj.capRefs ks n)∧(Zwh ks (d.ds++es)).2=es
 | [],n,d,L,cs,es,hs,hl,hc=>by
  cases hs;obtain ⟨rfl,rfl⟩:=hl;exact ⟨[],ToldB.nil,rfl⟩
 | (tid,t,ms)::ks,n,d,L,cs,es,hs,hl,hc=>by
  replace hl:(if tid=roT then Z6j ks L cs else ∃g rest L' cs',L = .blk g::L'∧cs = .blk g::rest++cs'∧rest.length=Z5e (Zfb t) ms∧Z6j ks L' cs'):=hl
  by_cases hro:tid=roT
  ·subst hro
   rw [Xc rfl] at hl;exact Zj2 h (ks:=ks) es hs hl hc
  rw [Xd hro] at hl;obtain ⟨g,rest,L',cs',rfl,rfl,hr,hl⟩:=hl;unfold Zkv at hs;rw [Zo0 hro] at hs;simp only [Xf] at hs;split at hs
  ·rename_i d1 d2 h1 h2
   cases hs;have hc1:Zsg ρ n [.blk g]:=Zsg.left (O2:=rest++cs') hc;have hc2:=Zsg.right (O1:=.blk g::rest) (O2:=cs') hc;rw [show (Conc.blk g::rest).length=rest.length+1 from rfl,hr,show n+(Z5e (Zfb t) ms+1)=n+1+Z5e (Zfb t) ms by omega] at hc2;obtain ⟨O2,t2,e2⟩:=Zj2 h es h2 hl hc2;obtain ⟨O1,t1,e1⟩:=Z38 h (d2.ds++es) h1 hc1
   have e3:Zwh ((tid,t,ms)::ks) ((d1.app d2).ds++es)=(.box tid (Zeb (Z2g (Zfb t) ms) (d1.ds++(d2.ds++es))).1::(Zwh ks (d2.ds++es)).1,(Zwh ks (d2.ds++es)).2):=by
    have e0:∀ds,Zwh ((tid,t,ms)::ks) ds=bif Ya tid roT then Zwh ks ds else (.box tid (Zeb (Z2g (Zfb t) ms) ds).1::(Zwh ks (Zeb (Z2g (Zfb t) ms) ds).2).1,(Zwh ks (Zeb (Z2g (Zfb t) ms) ds).2).2):=fun _=>rfl
    rw [e0,Zo0 hro];show (RF.box tid (Zeb (Z2g (Zfb t) ms) ((d1.ds++d2.ds)++es)).1::(Zwh ks (Zeb (Z2g (Zfb t) ms) ((d1.ds++d2.ds)++es)).2).1,(Zwh ks (Zeb (Z2g (Zfb t) ms) ((d1.ds++d2.ds)++es)).2).2)=_;rw [Yh,e1]
   have e4:Zbj.capRefs ((tid,t,ms)::ks) n=n::Zbj.capRefs ks (n+1+Z5e (Zfb t) ms):=by
    have e0:Zbj.capRefs ((tid,t,ms)::ks) n=bif Ya tid roT then Zbj.capRefs ks n else n::Zbj.capRefs ks (n+1+Z5e (Zfb t) ms):=rfl
    rw [e0,Zo0 hro];rfl
   rw [e3,e4];exact ⟨O1++O2,t1.app t2,e2⟩
  ·cases hs
theorem Z22:∀{ks:List (TypeId×Ty×List PL)} {L:List GI} {cs:List Conc},Z6j ks L cs→cs.length=Z2m ks
 | [],_,_,⟨_,h⟩=>by rw [h];rfl
 | (tid,t,ms)::ks,L,cs,hl=>by
  replace hl:(if tid=roT then Z6j ks L cs else ∃g rest L' cs',L = .blk g::L'∧cs = .blk g::rest++cs'∧rest.length=Z5e (Zfb t) ms∧Z6j ks L' cs'):=hl
  by_cases hro:tid=roT
  ·subst hro
   rw [Xc rfl] at hl;exact Z22 (ks:=ks) hl
  rw [Xd hro] at hl;obtain ⟨g,rest,L',cs',_,h2,h3,h4⟩:=hl;rw [h2,List.length_append,Z22 h4];have e0:Z2m ((tid,t,ms)::ks)=bif Ya tid roT then Z2m ks else 1+Z5e (Zfb t) ms+Z2m ks:=rfl
  rw [e0,Zo0 hro];show rest.length+1+Z2m ks=1+Z5e (Zfb t) ms+Z2m ks;rw [h3];omega
theorem Zur (h:Rel X ρ st a w):∀{ps:List PK} {n:Nat} {d:DR} {S:List Nat} {L:List GI} {cs:List Conc},Z0l st ps n=some (d,S)→Z11 ps L cs→Zsg ρ n cs →
  ∃O,ToldB X ρ w d L (Zri ps d.ds) O S (Zbj ps n)
 | [],n,d,S,L,cs,hs,hl,hc=>by
  cases hs;obtain ⟨rfl,rfl⟩:=hl;exact ⟨[],ToldB.nil⟩
 | .val ag t ms::ps,n,d,S,L,cs,hs,hl,hc=>by
  obtain ⟨L1,L2,c1,c2,rfl,rfl,hl1,hl2⟩:=hl;obtain ⟨hl1,hn1⟩:=hl1;unfold Z0l at hs;split at hs
  ·rename_i ds b h1 h2
   cases hs;have hc2:=hc.right;rw [hn1] at hc2;obtain ⟨O2,t2⟩:=Zur h (d:=b.1) (S:=b.2) h2 hl2 hc2;obtain ⟨t1,e1⟩:=Zl2 h b.1.ds h1 hl1 hn1 hc.left;refine ⟨[]++O2,?_⟩;have:=t1.app t2
   have e3:Zri (.val ag t ms::ps) (ds++b.1.ds)=(Z5k (Zil (Zfb t) ms) (ds++b.1.ds)).1++Zri ps b.1.ds:=by
    show (Z5k (Zil (Zfb t) ms) (ds++b.1.ds)).1++Zri ps (Z5k (Zil (Zfb t) ms) (ds++b.1.ds)).2=_;rw [e1]
   rw [← e3] at this;exact ⟨this.sub,this.told,this.rows,this.lent,this.boxes,this.own⟩
  ·cases hs
 | .rptr t::ps,n,d,S,L,cs,hs,hl,hc=>by
  obtain ⟨L1,L2,c1,c2,rfl,rfl,⟨rfl,rfl⟩,hl2⟩:=hl;exact Zur h (ps:=ps) hs hl2 hc
 | .ref tid t ms::ps,n,d,S,L,cs,hs,hl,hc=>by
  obtain ⟨L1,L2,c1,c2,rfl,rfl,⟨g,rest,rfl,rfl,hn1⟩,hl2⟩:=hl;unfold Z0l at hs;split at hs
  ·rename_i d1 b h1 h2
   cases hs;have hc1:Zsg ρ n [.blk g]:=Zsg.left (O2:=rest++c2) hc;have hc2:=Zsg.right (O1:=.blk g::rest) (O2:=c2) hc;rw [show (Conc.blk g::rest).length=rest.length+1 from rfl,hn1,show n+(Z5e (Zfb t) ms+1)=n+1+Z5e (Zfb t) ms by omega] at hc2;obtain ⟨O2,t2⟩:=Zur h (d:=b.1) (S:=b.2) h2 hl2 hc2;obtain ⟨O1,t1,e1⟩:=Z38 h b.1.ds h1 hc1;refine ⟨O1++O2,?_⟩;have:=t1.app t2
   have e3:Zri (.ref tid t ms::ps) (d1.app b.1).ds=[.box tid (Zeb (Z2g (Zfb t) ms) (d1.ds++b.1.ds)).1]++Zri ps b.1.ds:=by
    show [RF.box tid (Zeb (Z2g (Zfb t) ms) (d1.ds++b.1.ds)).1]++Zri ps (Zeb (Z2g (Zfb t) ms) (d1.ds++b.1.ds)).2=_;rw [e1]
   rw [← e3] at this;exact this
  ·cases hs
 | .fn f ks::ps,n,d,S,L,cs,hs,hl,hc=>by
  obtain ⟨L1,L2,c1,c2,rfl,rfl,hl1,hl2⟩:=hl;replace hl1:Z6j ks L1 c1:=hl1;unfold Z0l at hs;split at hs
  ·rename_i d1 b h1 h2
   cases hs;have hc2:=hc.right;rw [Z22 hl1] at hc2;obtain ⟨O2,t2⟩:=Zur h (d:=b.1) (S:=b.2) h2 hl2 hc2;obtain ⟨O1,t1,e1⟩:=Zj2 h b.1.ds h1 hl1 hc.left;refine ⟨O1++O2,?_⟩;have:=t1.app t2
   have e3:Zri (.fn f ks::ps) (d1.app b.1).ds=(Zwh ks (d1.ds++b.1.ds)).1++Zri ps b.1.ds:=by
    show (Zwh ks (d1.ds++b.1.ds)).1++Zri ps (Zwh ks (d1.ds++b.1.ds)).2=_;rw [e1]
   rw [← e3] at this;exact this
  ·cases hs
 | .mv e r::ps,n,d,S,L,cs,hs,hl,hc=>by
  obtain ⟨L1,L2,c1,c2,rfl,rfl,⟨rfl,v,rfl⟩,hl2⟩:=hl;exact Zur h (ps:=ps) hs hl2 (Zsg.right (O1:=[.row v]) hc)
 | .vm ag t ms::ps,n,d,S,L,cs,hs,hl,hc=>by
  obtain ⟨L1,L2,c1,c2,rfl,rfl,⟨rfl,hn1⟩,hl2⟩:=hl;have hc2:=hc.right;rw [hn1] at hc2;exact Zur h (ps:=ps) hs hl2 hc2
end
section
variable {P:Program} {X:Nat→Prop} {ρ ρ':Rho} {st st':St} {a:Act} {w w':World} {R:Type} {r:R} {C:Ctx} {F B:Nat→Prop}
theorem Zl6 {z:Bool} {e:TypeId} {t:Ty} {v:Value} {l:List t.T} (h:Zac w F z e t v l) {b:Nat} (hb:Zzf v=some b):b<w.heap.size:=by
 rcases h.cases with ⟨_,⟨rfl,_⟩ | ⟨g,cap,cs,fr,rfl,hg,_⟩⟩ | ⟨_,_,⟨g,_,_,_,rfl,hg,_⟩ | ⟨g,_,_,_,_,_,_,rfl,hg,_⟩⟩
 ·cases hb
 ·cases hb;exact (Yy.1 hg).1
 ·cases hb;exact (Yy.1 hg).1
 ·cases hb;exact (Yy.1 hg).1
theorem Zxx:∀{xs:List CL} {vs:List Value} {L:List GI},VLs w F B xs vs L→∀g∈GI.blocks L,g<w.heap.size
 | [],[],L,h,g,hg=>by
  obtain rfl:L=[]:=h;cases hg
 | .leaf _::_,_::_,L,h,g,hg=>Zxx h.2 g hg
 | .row e t l::xs,v::vs,.row u::L,⟨h1,h2,h3⟩,g,hg=>by
  rcases Yb.1 (show g∈(Zzf u).toList++GI.blocks L from hg) with hg | hg
  ·subst h1
   exact Zl6 h2 (Yva.1 hg)
  ·exact Zxx h3 g hg
 | .nil::_,_::_,.no::L,h,g,hg=>Zxx h.2 g hg
 | [],_::_,_,h,_,_=>h.elim
 | .leaf _::_,[],_,h,_,_=>h.elim
theorem Z7t:∀{xs:List CL} {vs:List Value} {M:List Value},MLs w F B xs vs M→∀g∈Zxb M,g<w.heap.size
 | [],[],M,h,g,hg=>by
  obtain rfl:M=[]:=h;cases hg
 | .leaf _::_,_::_,M,h,g,hg=>Z7t h.2 g hg
 | .row e t l::xs,v::vs,u::M,⟨h1,h2,h3⟩,g,hg=>by
  subst h1;obtain ⟨q,hq,hg2⟩:=Yk.1 hg;rcases Yn.1 hq with rfl | hq
  ·exact Zl6 h2 hg2
  ·exact Z7t h3 g (Yk.2 ⟨q,hq,hg2⟩)
 | .nil::_,_::_,M,h,g,hg=>Z7t h.2 g hg
 | [],_::_,_,h,_,_=>h.elim
 | .leaf _::_,[],_,h,_,_=>h.elim
theorem Zh9 {t:TypeId} {xs:List CL} {v:Value} {L:List GI} {M:List Value} (h:Z4n w F B t xs v L M):∀g∈GI.blocks L++Zxb M,g<w.heap.size:=by
 obtain ⟨g0,cs,fr,rfl,rfl,hh,hu,hm⟩:=h
 intro g hg
 rcases Yb.1 hg with hg | hg
 ·rw [Yj.1 hg];exact (Yy.1 hh).1
 ·exact Z7t hm g hg
theorem mem4 {A1 A2 B1 B2:List Nat} {g:Nat} (h:g∈(A1++A2)++(B1++B2)):g∈A1++B1∨g∈A2++B2:=by
 simp only [Yb] at h ⊢
 rcases h with (h | h) | (h | h)
 ·exact .inl (.inl h)
 ·exact .inr (.inl h)
 ·exact .inl (.inr h)
 ·exact .inr (.inr h)
theorem Zqib {c:TypeId×List CL} {v:Value} {L:List GI} {M:List Value} (h:Zkj w F B c v L M):∀g∈GI.blocks L++Zxb M,g<w.heap.size:=by
 unfold Zkj at h
 split at h
 ·obtain ⟨rfl,rfl,_⟩:=h
  intro g hg;cases hg
 ·exact Zh9 h
theorem Zo9:∀{xs:List (TypeId×List CL)} {vs:List Value} {L:List GI} {M:List Value},Zlj w F B xs vs L M→∀g∈GI.blocks L++Zxb M,g<w.heap.size
 | [],[],L,M,h,g,hg=>by
  obtain ⟨rfl,rfl⟩:=h;cases hg
 | _::_,_::_,_,_,⟨L1,L2,M1,M2,rfl,rfl,h3,h4⟩,g,hg=>by
  rw [Zhp,Zxz] at hg;exact (mem4 hg).elim (Zqib h3 g) (Zo9 h4 g)
 | [],_::_,_,_,h,_,_=>h.elim
 | _::_,[],_,_,h,_,_=>h.elim
theorem Z2hb {x:CArg} {v:Value} {L:List GI} {M:List Value} (h:Z5n w F B x v L M):∀g∈GI.blocks L++Zxb M,g<w.heap.size:=by
 match x,h with
 | .val false xs,⟨h1,h2⟩=>
  subst h1;intro g hg;rcases Yb.1 hg with hg | hg
  ·exact Zxx h2 g hg
  ·cases hg
 | .val true xs,⟨h1,cs,h2,h3⟩=>
  subst h1;intro g hg;rcases Yb.1 hg with hg | hg
  ·exact Zxx h3 g hg
  ·cases hg
 | .rptr xs,⟨h1,h2,_⟩=>
  subst h1;subst h2;intro g hg;cases hg
 | .ref t xs,h=>exact Zh9 h
 | .fn f caps,⟨cs,_,h⟩=>exact Zo9 h
 | .mv e r l,⟨h1,h2,h3⟩=>
  subst h1;subst h2;intro g hg;rcases Yb.1 hg with hg | hg
  ·cases hg
  ·obtain ⟨q,hq,hg2⟩:=Yk.1 hg
   rw [Yj.1 hq] at hg2;exact Zl6 h3 hg2
 | .vm false xs,⟨h1,h2⟩=>
  subst h1;exact fun g hg=>Z7t h2 g hg
 | .vm true xs,⟨h1,cs,h2,h3⟩=>
  subst h1;exact fun g hg=>Z7t h3 g hg
theorem Zz8:∀{asx:List CArg} {vs:List Value} {L:List GI} {M:List Value},Zth w F B asx vs L M→(∀g∈GI.blocks L++Zxb M,g<w.heap.size)∧asx.length=vs.length
 | [],[],L,M,h=>by
  obtain ⟨rfl,rfl⟩:=h;exact ⟨(fun g hg=>nomatch hg),rfl⟩
 | x::asx,v::vs,_,_,⟨L1,L2,M1,M2,rfl,rfl,h3,h4⟩=>by
  obtain ⟨i1,i2⟩:=Zz8 h4;refine ⟨fun g hg=>?_,congrArg (· + 1) i2⟩;rw [Zhp,Zxz] at hg;exact (mem4 hg).elim (Z2hb h3 g) (i1 g)
 | [],_::_,_,_,h=>h.elim
 | _::_,[],_,_,h=>h.elim
theorem Z99:∀{ps:List PK} {asx:List CArg} {ds:List DV},Zft ps asx=some ds→asx.length=ps.length
 | [],[],_,_=>rfl
 | p::ps,c::asx,ds,h=>by
  unfold Zft at h;split at h
  ·rename_i h1
   exact congrArg (· + 1) (Z99 h1)
  ·cases h
 | [],_::_,_,h=>by cases h
 | _::_,[],_,h=>by cases h
theorem Z18:∀{avs:List AV} {vs:List Value} (i:Nat),Zni X ρ w avs vs→Z4 X ρ w (Zz .unk avs i) (vs.getD i undef)
 | [],[],i,_=>by rw [Zst];trivial
 | _::_,_::_,0,h=>h.1
 | _::avs,_::vs,i+1,h=>Z18 i h.2
 | [],_::_,_,h=>h.elim
 | _::_,[],_,h=>h.elim
theorem Zvab:∀{es:List Ent} {cs:List Conc} (i:Nat),Z0i X ρ w es cs→Zid X ρ w (Zz .free es i) (cs[i]?)
 | [],[],i,_=>by rw [Zst];trivial
 | _::_,_::_,0,h=>h.1
 | _::es,_::cs,i+1,h=>by
  rw [List.getElem?_cons_succ];exact Zvab i h.2
 | [],_::_,_,h=>h.elim
 | _::_,[],_,h=>h.elim
theorem Z4ib {ps:List RC} {us:List Value} {O:List Conc} (h:Zzl w F ps us O):Znu w F ps (Zu7 us) O:=by
 match ps,us,h with
 | [],[],h=>exact ⟨[].toArray,rfl,h⟩
 | [p],[u],h=>
  obtain ⟨O1,O2,rfl,h1,h2⟩:=h;obtain rfl:O2=[]:=h2;show Zvm w F p u (O1++[]);rw [Yu];exact h1
 | _::_::_,_::_::_,h=>exact ⟨_,rfl,h⟩
 | [],_::_,h=>exact h.elim
 | [_],[],h=>exact h.elim
 | _::_::_,[],h=>exact h.elim
 | [_],_::_::_,h=>
  obtain ⟨O1,O2,rfl,h1,h2⟩:=h;exact h2.elim
 | _::_::_,[_],h=>
  obtain ⟨O1,O2,rfl,h1,h2⟩:=h;exact h2.elim
theorem Zdbb {f:Nat→Option Nat}:∀{ns:List Nat},ns.Nodup→(∀n m b,n∈ns→m∈ns→f n=some b→f m=some b→n=m)→(ns.filterMap f).Nodup
 | [],_,_=>List.nodup_nil
 | n::ns,h,k=>by
  obtain ⟨h1,h2⟩:=Yz.1 h;have ih:=Zdbb h2 fun p q b hp hq=>k p q b (Yo _ hp) (Yo _ hq)
  cases hf:f n with
  | none=>rw [Yr hf];exact ih
  | some b=>
   rw [Ys hf];refine Yz.2 ⟨fun hm=>?_,ih⟩;obtain ⟨m,hm1,hm2⟩:=Yk.1 hm;have:=k n m b Yv (Yo _ hm1) hf hm2;subst this;exact h1 hm1
theorem Z29:∀{cs:List Conc} (i j b:Nat),(cs.filterMap cb).Nodup→owns (cs[i]?) b→owns (cs[j]?) b→i=j
 | [],i,j,b,_,hi,_=>by
  rw [List.getElem?_nil] at hi;exact hi.elim
 | c::cs,i,j,b,hn,hi,hj=>by
  have tail:(cs.filterMap cb).Nodup:=by
   cases hc:cb c with
   | none=>rwa [Yr hc] at hn
   | some q=>
    rw [Ys hc] at hn;exact (Yz.1 hn).2
  have mem:∀k:Nat,owns (cs[k]?) b→b∈cs.filterMap cb:=fun k hk=>by
   cases hk2:cs[k]? with
   | none=>rw [hk2] at hk;exact hk.elim
   | some q=>
    rw [hk2] at hk;exact Yk.2 ⟨q,Yna hk2,Zct.2 hk⟩
  have head:owns (some c) b→∀k:Nat,owns (cs[k]?) b→False:=fun h0 k hk=>by
   rw [Ys (Zct.2 h0)] at hn;exact (Yz.1 hn).1 (mem k hk)
  match i,j with
  | 0,0=>rfl
  | 0,j+1=>exact (head hi j hj).elim
  | i+1,0=>exact (head hj i hi).elim
  | i+1,j+1=>exact congrArg (· + 1) (Z29 i j b tail hi hj)
theorem Zb3 {cs:List Conc} {i b:Nat} (hi:owns (cs[i]?) b):b∈cs.filterMap cb:=by
 cases hk2:cs[i]? with
 | none=>rw [hk2] at hi;exact hi.elim
 | some q=>
  rw [hk2] at hi;exact Yk.2 ⟨q,Yna hk2,Zct.2 hi⟩
theorem Z32 {c:Option Conc} {b:Nat}:cbO c=some b ↔ owns c b:=by
 cases c with
 | none=>exact ⟨(fun h=>nomatch h),fun h=>h.elim⟩
 | some c=>exact Zct
theorem Zcgb {O:List Conc} {S:List Nat} (h:(O.filterMap cb).Sublist (S.filterMap fun n=>cbO (ρ n))) {u:Conc} (hu:u∈O) {b:Nat} (hb:cb u=some b):∃n∈S,owns (ρ n) b:=by
 have:=h.subset (Yk.2 ⟨u,hu,hb⟩)
 obtain ⟨n,h1,h2⟩:=Yk.1 this
 exact ⟨n,h1,Z32.1 h2⟩
theorem Ztjb {ps:List PK} {L:List GI} {N:List Value} {cs:List Conc} {F0:Nat→Prop} {us:List Value} {rcs:List RC} {rfs:List RF} {da db:DR} {bs S2 S T:List Nat} {O1 O2:List Conc}
  (hG:(GI.blocks L++Zxb N).Nodup) (hperm:(cs.filterMap cb).Perm (GI.blocks L++Zxb N))
  (h:Rel (fun b=>b<w.heap.size∧¬F0 b∧b∉GI.blocks L++Zxb N) ρ' st' a w') (e:Ext (fun i=>cs[i]?) w ρ' w')
  (t2:ToldC (fun b=>b<w.heap.size∧¬F0 b∧b∉GI.blocks L++Zxb N) ρ' w' da bs rcs us O2 S2) (t1:ToldB (fun b=>b<w.heap.size∧¬F0 b∧b∉GI.blocks L++Zxb N) ρ' w' db L rfs O1 S T)
  (n1:(da.owns++db.owns++S).Nodup) (n2:∀n∈da.owns++db.owns++S,n∉da.pures++db.pures) (n3:(bs++T).Nodup):
  Z1x ⟨rcs,rfs⟩ F0 L N w (Zu7 us) w':=by
 have rowbox:∀n u g,ρ' n=some (.row u)→ρ' n=some (.blk g)→False:=fun n u g h1 h2=>by rw [h1] at h2;cases h2
 have inS:∀u∈O1++O2,∀b,cb u=some b→∃n,(n∈da.owns++db.owns∨n∈bs)∧owns (ρ' n) b:=fun u hu b hb=>by
  rcases Yb.1 hu with hu | hu
  ·obtain ⟨n,k1,k2⟩:=Zcgb t1.sub hu hb
   exact ⟨n,.inl (Ye _ k1),k2⟩
  ·obtain ⟨n,k1,k2⟩:=Zcgb t2.sub hu hb
   rcases Yb.1 (t2.perm.mem_iff.1 k1) with k1 | k1
   ·exact ⟨n,.inl (Yc _ k1),k2⟩
   ·exact ⟨n,.inr k1,k2⟩
 have rowO:∀n∈da.owns++db.owns,∃u,ρ' n=some (.row u):=fun n hn=>(Yb.1 hn).elim (fun hn=>t2.rows n (Yc _ hn)) fun hn=>t1.rows n (Yc _ hn)
 have rowP:∀n∈da.pures++db.pures,∃u,ρ' n=some (.row u):=fun n hn=>(Yb.1 hn).elim (fun hn=>t2.rows n (Ye _ hn)) fun hn=>t1.rows n (Ye _ hn)
 have notL:∀n b,(n∈da.owns++db.owns∨n∈bs∨n∈da.pures++db.pures)→owns (ρ' n) b→b∉GI.blocks L:=by
  intro n b hn hb hL;obtain ⟨m,hm,hm2⟩:=t1.own b hL;obtain rfl:=h.sep n m b hb hm2;rcases Yb.1 hm with hm | hm
  ·rcases hn with hn | hn | hn
   ·exact (Yt.1 n1).2.2 n hn n hm rfl
   ·obtain ⟨u,hu⟩:=t1.lent n hm
    obtain ⟨g,hg⟩:=t2.boxes n hn;exact rowbox n u g hu hg
   ·exact n2 n (Ye _ hm) hn
  ·obtain ⟨g,hg⟩:=t1.boxes n hm
   rcases hn with hn | hn | hn
   ·obtain ⟨u,hu⟩:=rowO n hn
    exact rowbox n u g hu hg
   ·exact (Yt.1 n3).2.2 n hn n hm rfl
   ·obtain ⟨u,hu⟩:=rowP n hn
    exact rowbox n u g hu hg
 have orig:∀n b,owns (ρ' n) b→b∈GI.blocks L++Zxb N∨w.heap.size≤b:=fun n b hb=>by
  rcases e.own n b hb with ⟨j,hj⟩ | hj
  ·exact .inl (hperm.mem_iff.1 (Zb3 hj))
  ·exact .inr hj
 have orig2:∀n b,(n∈da.owns++db.owns∨n∈bs∨n∈da.pures++db.pures)→owns (ρ' n) b→b∈Zxb N∨w.heap.size≤b:=fun n b hn hb=>by
  rcases orig n b hb with k | k
  ·rcases Yb.1 k with k | k
   ·exact (notL n b hn hb k).elim
   ·exact .inl k
  ·exact .inr k
 have hfix:∀b,Fix (fun b=>b<w.heap.size∧¬F0 b∧b∉GI.blocks L++Zxb N) ρ' w' b→Out F0 (Zxb N) w w' (O1++O2) b:=by
  intro b hb;refine ⟨hb.1,?_,fun u hu q=>?_⟩
  ·rcases Yra b w.heap.size with hlt | hge
   ·by_cases hf:F0 b
    ·exact .inl hf
    ·by_cases hg:b∈GI.blocks L++Zxb N
     ·rcases Yb.1 hg with hg | hg
      ·obtain ⟨m,_,hm2⟩:=t1.own b hg
       exact (hb.2.2 m hm2).elim
      ·exact .inr (.inl hg)
     ·exact (hb.2.1 ⟨hlt,hf,hg⟩).elim
   ·exact .inr (.inr hge)
  ·obtain ⟨n,_,k⟩:=inS u hu b q
   exact hb.2.2 n k
 have hout:∀ns:List Nat,(∀n∈ns,n∈da.pures++db.pures)→∀b,Zyk (fun b=>b<w.heap.size∧¬F0 b∧b∉GI.blocks L++Zxb N) ρ' w' ns b→Out F0 (Zxb N) w w' (O1++O2) b:=by
  intro ns hns b hb;rcases hb with hb | ⟨n,hn,hb⟩
  ·exact hfix b hb
  ·refine ⟨(h.lt n b hb).1,.inr (orig2 n b (.inr (.inr (hns n hn))) hb),fun u hu q=>?_⟩
   obtain ⟨m,hm,k⟩:=inS u hu b q;obtain rfl:=h.sep m n b k hb;rcases hm with hm | hm
   ·exact n2 m (Yc _ hm) (hns m hn)
   ·obtain ⟨u',hu'⟩:=rowP m (hns m hn)
    obtain ⟨g,hg⟩:=t2.boxes m hm;exact rowbox m u' g hu' hg
 refine ⟨⟨e.os,e.tape,e.output,e.size,fun q hq hn=>e.keep q hq fun i hi=>hn (hperm.mem_iff.1 (Zb3 hi))⟩,O1,O2,?_,?_,?_,?_⟩
 ·intro u hu b hb
  obtain ⟨n,hn,k⟩:=inS u hu b hb;exact ⟨orig2 n b (hn.elim .inl fun q=>.inr (.inl q)) k,(h.lt n b k).1⟩
 ·rw [Yi]
  refine (t1.sub.append t2.sub).nodup ?_;rw [← Yi];refine Zdbb ?_ fun n m q hn hm h1 h2=>h.sep n m q (Z32.1 h1) (Z32.1 h2)
  have na:=(Yt.1 n1).1;obtain ⟨na1,na2,na3⟩:=Yt.1 na;have nb:=(Yt.1 n3).1;refine Yt.2 ⟨na2,t2.perm.nodup_iff.2 (Yt.2 ⟨na1,nb,?_⟩),?_⟩
  ·intro n hn m hm q
   subst q;obtain ⟨u,hu⟩:=rowO n (Yc _ hn);obtain ⟨g,hg⟩:=t2.boxes n hm;exact rowbox n u g hu hg
  ·intro n hn m hm q
   subst q;rcases Yb.1 (t2.perm.mem_iff.1 hm) with hm | hm
   ·exact na3 n hm n hn rfl
   ·obtain ⟨u,hu⟩:=rowO n (Ye _ hn)
    obtain ⟨g,hg⟩:=t2.boxes n hm;exact rowbox n u g hu hg
 ·exact t1.told _ (hout _ fun n hn=>Ye _ hn)
 ·exact Z4ib (t2.told _ (hout _ fun n hn=>Yc _ hn))
theorem Zyfb {f:FuncId} {fn:Func} {c:Code} {s:Sig} {ti:Tab TI} {F:Zpb s.ins→Option (Zpb s.outs)} (T:Zob P ti) (hf:P.funcs[f]? = some fn) (hname:(fn.name == "runtime.NumGoroutine")=false) (hb:fn.body=some c)
  (hn:fn.ntmps=s.ntmps) (hps:Nat.ble s.ps.length s.ntmps=true) (hev:∀x y,F x=some y→∀(X:Nat→Prop) (ρ:Rho) (a:Act) (w:World),Rel X ρ (s.start x) a w→Z5u P c a w X ρ (s.start x) (s.done ti fn.results.toList) y):Ze P f (s.con F):=by
 refine ⟨fun args w=>?_,?_⟩
 ·simp [callFunc,hf,hb,by simpa using hname]
 intro asx rr hrr w vs F0 L N hF0 hG hgl hargs
 replace hrr:(s.run F asx).val=some rr:=hrr
 unfold Sig.run at hrr
 split at hrr
 ·rename_i ds hds
  split at hrr
  ·rename_i x hx
   cases hFx:F x with
   | none=>simp [CR.val,hFx] at hrr
   | some y=>
    have hrr:s.enc y=rr:=by simpa [CR.val,hFx] using hrr
    subst hrr;have hev:=hev x y hFx;obtain ⟨cs,hslots,hperm,hent⟩:=Zy8 (fun b hb=>hF0 b hb) hargs hds;obtain ⟨hGlt,hlen1⟩:=Zz8 hargs;have hlen2:=Z99 hds;have hnd:(cs.filterMap cb).Nodup:=hperm.nodup_iff.2 hG;have own0:∀i b,owns (cs[i]?) b→b∈GI.blocks L++Zxb N:=fun i b hb=>hperm.mem_iff.1 (Zb3 hb)
    have hvl:vs.length≤fn.ntmps:=by
     have:=Nat.le_of_ble_eq_true hps;omega
    obtain ⟨en1,en2⟩:=hent (fun b=>b<w.heap.size∧¬F0 b∧b∉GI.blocks L++Zxb N) (fun i=>cs[i]?) 0 (fun b hb=>⟨(hF0 b hb).1,fun hx=>hx.2.1 hb,fun i hi=>(hF0 b hb).2 (own0 i b hi)⟩)
     (fun b hb=>⟨hb.1,fun i hi=>hb.2 (own0 i b hi)⟩) (fun j u hj=>by
      show cs[0+j]? = some u;rw [Yx,hj])
    have hofx:Z1h s.ins x=ds:=Z9z hx
    let a0:Act:={ tmps:=vs.toArray++Yq (fn.ntmps-vs.toArray.size) undef,defers:=[] }
    have htm:∀i,Z1 a0 i=vs.getD i undef:=fun i=>by
     show (vs.toArray++Yq (fn.ntmps-vs.toArray.size) undef).getD i undef=_;rw [Yp,List.getD_eq_getElem?_getD]
     by_cases hi:i<vs.length
     ·rw [Array.getElem?_append_left (by simpa using hi)]
      simp
     ·rw [Array.getElem?_append_right (by simpa using hi),Y6 (by omega)]
      rw [Yea];split <;> rfl
    have hst:s.start x={ n:=s.ntmps,tmps:=(Zlg s.ps ds 0).1,gs:=[],heap:=(Zlg s.ps ds 0).2,nb:=(Zlg s.ps ds 0).2.length,lim:=1000000,res:=[] }:=by
     unfold Sig.start;rw [hofx]
    have hrel:Rel (fun b=>b<w.heap.size∧¬F0 b∧b∉GI.blocks L++Zxb N) (fun i=>cs[i]?) (s.start x) a0 w:=by
     rw [hst];refine ⟨rfl,?_,?_,?_,?_,?_,(fun _ _ _ _ hm=>nomatch hm),⟨?_,fun p hp=>nomatch hp⟩,fun b hb=>hb.1,⟨hgl.1,fun n hn i hi=>hgl.2 n hn (own0 i n hi)⟩⟩
     ·show (vs.toArray++Yq (fn.ntmps-vs.toArray.size) undef).size=s.ntmps
      simp;omega
     ·intro i j b hi hj
      exact Z29 i j b hnd hi hj
     ·intro i b hi
      have h1:=own0 i b hi;exact ⟨hGlt b h1,fun hx=>hx.2.2 h1⟩
     ·intro i
      exact Zvab i en2
     ·intro i
      rw [htm];exact Z18 i en1
     ·intro i hi
      rcases hi with ⟨hi,_⟩ | ⟨p,hp,_⟩
      ·show cs[i]? = none
       rw [Y6];rw [← en2.len];exact hi
      ·cases hp
    refine calls_of_wp hf hb (hev _ _ _ _ hrel _ ?_);intro e ρ' st' a' w' k1 k2 k3 k4 k5
    have fin:s.read ti fn.results.toList st'=some y→a'.defers=[]∧∃v,(results fn a'.tmps).run P w' = .ok v w'∧∃v',Ending.returned v = .returned v'∧Z1x (s.enc y) F0 L N w v' w':=by
     intro hread;unfold Sig.read at hread;split at hread
     ·rename_i d b hd hbb
      cases hc:(Z9l (d.1.owns++b.1.owns++b.2)&&Zit (d.1.owns++b.1.owns++b.2) (d.1.pures++b.1.pures)&&Z9l (d.2++Zbj s.ps 0)) with
      | false=>rw [hc] at hread;cases hread
      | true=>
       rw [hc] at hread;have hread:Z2n s.outs (d.1.ds++b.1.ds)=some y:=hread;obtain ⟨c12,c3⟩:=(Yl _ _).mp hc;obtain ⟨c1,c2⟩:=(Yl _ _).mp c12;obtain ⟨us,O2,S2,hus,told,henc⟩:=Zbab (C:={ ti:=ti,con:=fun _=>[] }) T k2 (d:=d.1) (bs:=d.2) b.1.ds hd
       have hlater:Zsg ρ' 0 cs:=fun j c hj=>by
        rw [Yx];exact k3.conc j c hj
       obtain ⟨O1,toldb⟩:=Zur k2 (d:=b.1) (S:=b.2) hbb hslots hlater;refine ⟨k2.defers,_,Zqpb hus,_,rfl,?_⟩;have hof:Z1h s.outs y=d.1.ds++b.1.ds:=Z9z hread
       have henc2:s.enc y=⟨(Z5f s.rs (d.1.ds++b.1.ds)).1,Zri s.ps b.1.ds⟩:=by
        show (⟨(Z5f s.rs (Z1h s.outs y)).1,Zri s.ps (Z5f s.rs (Z1h s.outs y)).2⟩:RR)=_;rw [hof,henc]
       rw [henc2];exact Ztjb (ps:=s.ps) hG hperm k2 k3 told toldb (Zpw c1) (fun n hn hm=>Zxy c2 n hn hm) (Zpw c3)
     ·cases hread
    cases e with
    | nrm=>
     obtain ⟨h1,v,h2,v',h3,h4⟩:=fin k1;exact ⟨h1,v,h2,v',h3,h4⟩
    | ret=>
     obtain ⟨h1,v,h2,v',h3,h4⟩:=fin k1;exact ⟨h1,v,h2,v',h3,h4⟩
    | exit j=>cases k1
  ·cases hrr
 ·cases hrr
theorem Zirb {f:FuncId} {fn:Func} {c:Code} {s:Sig} {p:Plan} {F:Zpb s.ins→Option (Zpb s.outs)} (H:CtxOk P C) (hf:P.funcs[f]? = some fn) (hname:(fn.name == "runtime.NumGoroutine")=false) (hb:fn.body=some c)
  (hn:fn.ntmps=s.ntmps) (hps:Nat.ble s.ps.length s.ntmps=true) (hp:Zjg P C p c) (hev:∀x y,F x=some y→s.ev C p fn.results.toList c x=some y):Ze P f (s.con F):=
 Zyfb H.ti hf hname hb hn hps fun x y hx X ρ a w hrel=>Zqr H c hp hrel (hev x y hx)
end
end Go.Proofs.Qz
