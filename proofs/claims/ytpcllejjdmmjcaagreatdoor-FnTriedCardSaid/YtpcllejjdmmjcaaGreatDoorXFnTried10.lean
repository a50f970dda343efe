/- What the law FnTried needs, part 11 of 14: the Lean functions of the Go functions that it reaches, with the proofs that the calls come to what they say, and plain facts about them. Conditions: those that each theorem states. Written by a session and by its programs (after the kit's printer). -/
import Derived.Lib.ItoaNum
import Derived.Test.YtpcllejjdmmjcaaGreatDoorXFnTried8
import Derived.Test.YtpcllejjdmmjcaaGreatDoorXFnTried9
open Option renaming bind_some → Ya, bind_eq_some_iff → Yoa, some → Ybb
open List renaming range → Yb, getElem?_eq_getElem → Yc, getD_eq_getElem?_getD → Ye, all_eq_true → Yk, getElem_mem → Yl, length_append → Yn, mem_range → Yo, length_map → Yp, getElem?_cons_succ → Yq, getElem?_cons_zero → Yu, length_take → Yv, replicate → Yw, append_assoc → Yy, append_nil → Yz, mem_iff_getElem → Y0, take_length → Y1, drop_drop → Y5, drop_left → Y6, getElem_take → Y7, length_cons → Y8, mem_cons_self → Y9, mem_filter → Yaa, drop_length → Yea, getElem_map → Yfa, length → Yga, length_filter_le → Yha, length_nil → Yia, length_range → Yja, mem_map → Yka, pairwise_iff_getElem → Yla, range_succ → Yma, any_eq_true → Yra, drop_eq_getElem_cons → Ysa, drop_zero → Yta, ext_getElem → Yua, getElem_drop → Yva, length_drop → Ywa, map_append → Yxa, mem_reverse → Yya, reverse_cons → Yza, take_sublist → Y0a, take_succ_cons → Y1a
open Bool renaming not_true → Yd, and_eq_true → Yg, and_self → Yi, true_and → Yj, or_self → Yt, false_or → Yx, and_eq_false_iff → Y2, false_eq_true → Y3, or_eq_true → Y4, eq_false_iff → Yba, eq_iff_iff → Yca, not_eq_false' → Yqa
open Nat renaming le_refl → Yf, pow_le_pow_right → Yna, add_zero → Y2a, le_trans → Y3a, lt_of_le_of_lt → Y4a, min_eq_left → Y5a, mod_eq_of_lt → Y6a, pow_succ → Y7a, sub_self → Y8a, testBit_eq_decide_div_mod_eq → Y9a, zero_add → Yab
open Int renaming toNat_natCast → Yh, toNat_of_nonneg → Yda
open BitVec renaming ofInt → Ym, toNat_ofInt → Ys, toNat_and → Ypa
open Go.IntKind renaming wrap → Yr
namespace Go.Proofs.Qz
open Go
set_option linter.unusedVariables false
theorem Zwcb (m:Zsc) (l:List Zsc):Zob (m::l)=(if m.1=1 then 1 else 0)+Zob l:=by
 unfold Zob
 rw [List.filter_cons]
 by_cases h:m.1=1
 ·rw [Xc h,show (m.1==1)=true by simpa using h,Xc rfl,Y8];omega
 ·rw [Xd h,show (m.1==1)=false by simpa using h,Xd (by simp)];omega
theorem Zmlb {w:List Zg} (hw:∀x∈w,0≤x.2.1∧x.2.1≤7):∀(n:Nat) (left:List Nat) (st:List Int),PlanI w left st→left.length+(8-st.length)≤n →
  (∀j∈left,∃i:Nat,(Zjb w n left st)[i]? = some (2,((j:Int),((wAt w j).2.1,0)))) ∧
  (∀(i:Nat) (m:Zsc),(Zjb w n left st)[i]? = some m→∃j∈left,m=(2,((j:Int),((wAt w j).2.1,0)))∨m=(1,((j:Int),((wAt w j).2.1,(st.length:Int)+Zob ((Zjb w n left st).take i))))) ∧
  ∀(i i':Nat) (m m':Zsc),(Zjb w n left st)[i]? = some m→(Zjb w n left st)[i']? = some m'→m.1=2→m'.1=2→m.2.1=m'.2.1→i=i':=by
 intro n
 induction n with
 | zero=>
  intro left st h hn;have:left=[]:=List.eq_nil_of_length_eq_zero (by omega);subst this;exact ⟨fun j hj=>(by cases hj),fun i m h=>(by cases h),fun i i' m m' h=>(by cases h)⟩
 | succ n ih=>
  intro left st h hn;cases left with
  | nil=>exact ⟨fun j hj=>(by cases hj),fun i m h=>(by cases h),fun i i' m m' h=>(by cases h)⟩
  | cons i0 rest=>
   have hst:=Zgq h.sd h.sb;cases hf:(i0::rest).find? (Zlc w (i0::rest) st) with
   | none=>
    obtain ⟨g1,g2,g3⟩:=h.stash hw hf;have hst':=Zgq g1.sd g1.sb;obtain ⟨k1,k2,k3⟩:=ih _ _ g1 (by rw [g2];omega);have e:Zjb w (n+1) (i0::rest) st=(1,((i0:Int),((wAt w i0).2.1,(st.length:Int))))::Zjb w n (i0::rest) (Zbd (wAt w i0).2.1 st):=by simp only [Zjb,hf]
    rw [e];refine ⟨fun j hj=>?_,fun i m hm=>?_,fun i i' m m' hm hm' h2 h2' he=>?_⟩
    ·obtain ⟨i,hi⟩:=k1 j hj
     exact ⟨i+1,by rw [Yq];exact hi⟩
    ·cases i with
     | zero=>
      rw [Yu] at hm;cases hm;exact ⟨i0,Y9,.inr (by simp [Zob])⟩
     | succ i=>
      rw [Yq] at hm;obtain ⟨j,hj,q⟩:=k2 i m hm;refine ⟨j,hj,?_⟩;rcases q with q | q
      ·exact .inl q
      ·refine .inr ?_
       rw [q,g2,Y1a,Zwcb,Xc rfl];congr 3;omega
    ·cases i with
     | zero=>
      rw [Yu] at hm;cases hm;cases h2
     | succ i=>
      cases i' with
      | zero=>
       rw [Yu] at hm';cases hm';cases h2'
      | succ i'=>
       rw [Yq] at hm hm';rw [k3 i i' m m' hm hm' h2 h2' he]
   | some i1=>
    have hi1:i1∈i0::rest:=List.mem_of_find?_eq_some hf;have hle:((i0::rest).erase i1).length=(i0::rest).length-1:=List.length_erase_of_mem hi1;obtain ⟨k1,k2,k3⟩:=ih _ _ (h.done i1) (by rw [hle];simp only [Y8] at hn ⊢;omega);have e:Zjb w (n+1) (i0::rest) st=(2,((i1:Int),((wAt w i1).2.1,0)))::Zjb w n ((i0::rest).erase i1) st:=by simp only [Zjb,hf]
    have away:∀(i:Nat) (m:Zsc),(Zjb w n ((i0::rest).erase i1) st)[i]? = some m→m.2.1≠(i1:Int):=fun i m hm q=>by
     obtain ⟨j,hj,r⟩:=k2 i m hm;have hj:=(h.nd.mem_erase_iff.1 hj).1;rcases r with r | r <;> rw [r] at q <;> exact hj (by have q:(j:Int)=(i1:Int):=q;omega)
    rw [e];refine ⟨fun j hj=>?_,fun i m hm=>?_,fun i i' m m' hm hm' h2 h2' he=>?_⟩
    ·by_cases hj1:j=i1
     ·subst hj1
      exact ⟨0,rfl⟩
     ·obtain ⟨i,hi⟩:=k1 j (h.nd.mem_erase_iff.2 ⟨hj1,hj⟩)
      exact ⟨i+1,by rw [Yq];exact hi⟩
    ·cases i with
     | zero=>
      rw [Yu] at hm;cases hm;exact ⟨i1,hi1,.inl rfl⟩
     | succ i=>
      rw [Yq] at hm;obtain ⟨j,hj,q⟩:=k2 i m hm;refine ⟨j,List.mem_of_mem_erase hj,?_⟩;rcases q with q | q
      ·exact .inl q
      ·refine .inr ?_
       rw [q,Y1a,Zwcb,Xd (show ¬((2:Int)=1) by decide)];congr 3;omega
    ·cases i with
     | zero=>
      cases i' with
      | zero=>rfl
      | succ i'=>
       rw [Yu] at hm;rw [Yq] at hm';cases hm;exact absurd he.symm (away i' m' hm')
     | succ i=>
      cases i' with
      | zero=>
       rw [Yq] at hm;rw [Yu] at hm';cases hm';exact absurd he (away i m hm)
      | succ i'=>
       rw [Yq] at hm hm';rw [k3 i i' m m' hm hm' h2 h2' he]
structure PlanF (l:List Zg) (n:Int):Prop where
 all:∀j,j<(Zi l).length→∃i:Nat,(Zl l)[i]? = some (2,((j:Int),((wAt (Zi l) j).2.1,0)))
 form:∀(i:Nat) (m:Zsc),(Zl l)[i]? = some m→∃j,j<(Zi l).length∧(m=(2,((j:Int),((wAt (Zi l) j).2.1,0)))∨m=(1,((j:Int),((wAt (Zi l) j).2.1,Zob ((Zl l).take i)))))
 one:∀(i i':Nat) (m m':Zsc),(Zl l)[i]? = some m→(Zl l)[i']? = some m'→m.1=2→m'.1=2→m.2.1=m'.2.1→i=i'
theorem Z1ab {l:List Zg} {n:Int} (h:Zwb l n=0):PlanF l n:=by
 have hl:=(Z8f h).1
 have hwl:(Zi l).length≤l.length:=Yha _ _
 obtain ⟨h1,h2,h3⟩:=Zmlb (Znj h) 40 _ _ (Z2y (Zi l)) (by rw [Yja,Yia];omega)
 refine ⟨fun j hj=>h1 j (Yo.2 hj),fun i m hm=>?_,h3⟩
 obtain ⟨j,hj,q⟩:=h2 i m hm
 refine ⟨j,Yo.1 hj,?_⟩
 rcases q with q | q
 ·exact .inl q
 ·refine .inr ?_
  rw [q,Yia];show _=(1,((j:Int),((wAt (Zi l) j).2.1,Zob ((Zl l).take i))));congr 3;show ((0:Nat):Int)+Zob ((Zl l).take i)=_;omega
theorem Zxcb {l:List Zsc} {i:Nat} {m:Zsc} (h:l[i]? = some m) (h1:m.1=1):Zob (l.take i)<Zob l:=by
 obtain ⟨hi,rfl⟩:=List.getElem?_eq_some_iff.1 h
 have h2:Zob (l.take (i+1))=Zob (l.take i)+1:=by rw [Zn4 hi,Xc h1]
 have h3:Zob (l.take (i+1))≤Zob l:=by
  unfold Zob;have:=((Y0a (i+1) l).filter fun m=>m.1==1).length_le;omega
 omega
def Z5g (base:List Str) (w:List Zg) (done:Int→Bool) (mk:Zg→Str):List Str:=
 (Yb base.length).map fun (b:Nat)=>match w.find? (fun x=>x.2.1==(b:Int)) with
  | some x=>if done (b:Int)=true then base.getD b [] else mk x
  | none=>base.getD b []
theorem Zij (base:List Str) (w:List Zg) (done:Int→Bool) (mk:Zg→Str):(Z5g base w done mk).length=base.length:=by simp [Z5g]
theorem Zxs {base:List Str} {w:List Zg} {done:Int→Bool} {mk:Zg→Str} {b:Nat} (h:b<base.length):(Z5g base w done mk)[b]'(by rw [Zij];exact h)=match w.find? (fun x=>x.2.1==(b:Int)) with
  | some x=>if done (b:Int)=true then base.getD b [] else mk x
  | none=>base.getD b []:=by simp [Z5g]
theorem Zsdb (base:List Str) (done:Int→Bool) (mk:Zg→Str):Z5g base [] done mk=base:=by
 refine Yua (Zij _ _ _ _) fun b h1 h2=>?_
 rw [Zxs h2]
 show base.getD b []=_
 rw [Ye,Yc h2]
 rfl
theorem Ztdb {base:List Str} {w:List Zg} {done:Int→Bool} {mk:Zg→Str} (hn:(w.map fun x=>x.2.1).Nodup) {i:Nat} (h:i<w.length) (h0:0≤w[i].2.1) (h1:w[i].2.1<(base.length:Int)):
  Z5g base (w.take (i+1)) done mk=if done w[i].2.1=true then Z5g base (w.take i) done mk else (Z5g base (w.take i) done mk).set w[i].2.1.toNat (mk w[i]):=by
 have away:∀b:Int,w[i].2.1=b→(w.take i).find? (fun x=>x.2.1==b)=none:=fun b hb=>by
  refine List.find?_eq_none.2 fun x hx=>?_
  obtain ⟨j,hj,rfl⟩:=Y0.1 hx;rw [Yv] at hj;rw [Y7];intro q;have q:w[j].2.1=b:=by simpa using q
  have:=Yla.1 hn j i (by rw [Yp];omega) (by rw [Yp];exact h) (by omega);rw [Yfa,Yfa] at this;exact this (q.trans hb.symm)
 have hfind:∀b:Int,(w.take (i+1)).find? (fun x=>x.2.1==b)=if w[i].2.1=b then some w[i] else (w.take i).find? (fun x=>x.2.1==b):=fun b=>by
  rw [Zhj h,List.find?_append]
  by_cases hb:w[i].2.1=b
  ·rw [Xc hb,away b hb]
   simp [hb]
  ·rw [Xd hb]
   have:([w[i]].find? fun x=>x.2.1==b)=none:=by simp [hb]
   rw [this];cases (w.take i).find? (fun x=>x.2.1==b) <;> rfl
 refine Yua ?_ fun b k1 k2=>?_
 ·split
  ·rw [Zij,Zij]
  ·rw [Zij,List.length_set,Zij]
 ·rw [Zij] at k1
  rw [Zxs k1,hfind]
  by_cases hd:done w[i].2.1=true
  ·simp only [Xc hd]
   rw [Zxs k1]
   by_cases hb:w[i].2.1=(b:Int)
   ·rw [Xc hb,away _ hb]
    dsimp only;rw [← hb,Xc hd]
   ·rw [Xd hb]
  ·simp only [Xd hd]
   rw [List.getElem_set]
   by_cases hb:w[i].2.1=(b:Int)
   ·rw [Xc hb,Xc (by omega)]
    dsimp only;rw [← hb,Xd hd]
   ·rw [Xd hb,Xd (by omega),Zxs k1]
theorem Zp5 (n:Nat) (p:Nat→Bool):(∀i,i<n→p i=true)∨∃m,m<n∧p m=false∧∀i,i<m→p i=true:=by
 induction n with
 | zero=>exact .inl fun i hi=>absurd hi (Nat.not_lt_zero i)
 | succ n ih=>
  rcases ih with h | ⟨m,h1,h2,h3⟩
  ·cases hp:p n with
   | true=>
    refine .inl fun i hi=>?_
    rcases Nat.eq_or_lt_of_le (Nat.le_of_lt_succ hi) with rfl | hi
    ·exact hp
    ·exact h i hi
   | false=>exact .inr ⟨n,Nat.lt_succ_self n,hp,h⟩
  ·exact .inr ⟨m,Nat.lt_succ_of_lt h1,h2,h3⟩
theorem Zieb {α:Type} {l:List α} {q:α→Bool}:(∀x∈l,q x=true) ↔ ∀i,(h:i<l.length)→q l[i]=true:=by
 constructor
 ·exact fun h i hi=>h _ (Yl hi)
 ·intro h x hx
  obtain ⟨i,hi,rfl⟩:=List.getElem_of_mem hx;exact h i hi
theorem Z39 {α:Type} (l:List α) (q:α→Bool):(l.all q=true)∨(l.all q=false∧∃m,∃h:m<l.length,q l[m]=false∧∀i,(hi:i<m)→q (l[i]'(by omega))=true):=by
 rcases Zp5 l.length (fun i=>match l[i]? with | some x=>q x | none=>true) with h | ⟨m,h1,h2,h3⟩
 ·refine .inl (Yk.2 (Zieb.2 fun i hi=>?_))
  have:=h i hi
  rwa [Yc hi] at this
 ·rw [Yc h1] at h2
  replace h2:q l[m]=false:=h2;refine .inr ⟨?_,m,h1,h2,fun i hi=>?_⟩
  ·cases ha:l.all q with
   | false=>rfl
   | true=>rw [Yk.1 ha _ (Yl h1)] at h2;cases h2
  ·have:=h3 i hi
   rwa [Yc (by omega)] at this
theorem Zo2 {R:Type} (L:Nat→Nat→Option (Unit ⊕ R)) (n:Nat) (p:Nat→Bool) (q:Nat→R) (hs:∀i,i<n→p i=true→∀j,L (j+1) i=L j (i+1)) (hf:∀i,i<n→p i=false→∀j,L (j+1) i=some (.inr (q i))) (he:∀j,L (j+1) n=some (.inl ())):
  ((Yb n).all p=true∧∀k,n<k→L k 0=some (.inl ()))∨((Yb n).all p=false∧∃i,i<n∧p i=false∧∀k,n<k→L k 0=some (.inr (q i))):=by
 rcases Zp5 n p with h | ⟨m,h1,h2,h3⟩
 ·refine .inl ⟨Yk.2 fun i hi=>h i (Yo.1 hi),Zbc L n _ (fun i hi=>hs i hi (h i hi)) he⟩
 ·refine .inr ⟨?_,m,h1,h2,fun k hk=>Zbc L m _ (fun i hi=>hs i (by omega) (h3 i hi)) (hf m h1 h2) k (by omega)⟩
  cases ha:(Yb n).all p with
  | false=>rfl
  | true=>rw [Yk.1 ha m (Yo.2 h1)] at h2;cases h2
def Zvj (s:Str):Bool:=decide (s.length=8)
def Zec (l:List Str):Bool:=(decide (1≤l.length)&&decide (l.length≤8))&&l.all Zvj
theorem Ze4 (l:List Str) {k:Nat} (hk:100≤k):Z6b k l=some (Zec l):=by
 unfold Z6b Zec
 by_cases h1:1≤l.length
 ·by_cases h2:l.length≤8
  ·rw [Xb (by omega:¬((l.length:Int)<1)),Xb (by omega:¬(8<(l.length:Int))),Xa h1,Xa h2]
   simp only [Yt,Xf,Yi,Yj]
   have good:∀i,(h:i<l.length)→Zvj l[i]=true→∀j,Z6b.l0 (j+1) l (i:Int)=Z6b.l0 j l ((i+1:Nat):Int):=fun i h hb j=>by
    have hb:l[i].length=8:=by simpa [Zvj] using hb
    conv=>lhs;unfold Z6b.l0
    rw [dlt h,Zh h,Zs (by omega)];simp only [Xe,Ya,hb];rfl
   rcases Z39 l Zvj with h | ⟨h,m,hm,h3,h4⟩
   ·have run:=Zbc (fun j i=>Z6b.l0 j l (i:Int)) l.length (.inl ()) (fun i hi j=>good i hi (Yk.1 h _ (Yl hi)) j) (fun j=>by
     show Z6b.l0 (j+1) l (l.length:Int)=_;unfold Z6b.l0;rw [Zbb (Yf _)];rfl) k (by omega)
    have run:Z6b.l0 k l 0=some (.inl ()):=run;rw [run,h];rfl
   ·have run:=Zbc (fun j i=>Z6b.l0 j l (i:Int)) m (.inr false) (fun i hi j=>good i (by omega) (h4 i hi) j) (fun j=>by
     show Z6b.l0 (j+1) l (m:Int)=_;have hb:l[m].length≠8:=by simpa [Zvj] using h3
     unfold Z6b.l0;rw [dlt hm,Zh hm];simp only [Xe,Ya];rw [show ((l[m].length:Int) != 8)=true by simp;omega];rfl) k (by omega)
    have run:Z6b.l0 k l 0=some (.inr false):=run;rw [run,h];rfl
  ·rw [Xa (by omega:8<(l.length:Int)),Xb h2]
   simp
 ·rw [Xa (by omega:(l.length:Int)<1),Xb h1]
  simp
theorem Z18 (l:List Str) {k:Nat} (hk:100≤k):Zek k l=some (Zec l):=by
 have hb:Z8i (l.length:Int)=some (decide (1≤(l.length:Int))&&decide ((l.length:Int)≤8)):=rfl
 have hz:Zqg l=some (l.length:Int):=rfl
 unfold Zek Zec
 refine Za hz (Za hb ?_)
 by_cases h1:1≤l.length
 ·by_cases h2:l.length≤8
  ·rw [Xa (by omega:(1:Int)≤(l.length:Int)),Xa (by omega:(l.length:Int)≤8),Xa h1,Xa h2]
   simp only [Xe,Yi,Yj]
   have good:∀i,(h:i<l.length)→Zvj l[i]=true→∀j,Zfd.l0 (j+1) l (l.length:Int) (i:Int)=Zfd.l0 j l (l.length:Int) ((i+1:Nat):Int):=fun i h hb j=>by
    have hb:l[i].length=8:=by simpa [Zvj] using hb
    conv=>lhs;unfold Zfd.l0
    rw [dlt h,Zh h,Zs (by omega)];simp only [Xe,Ya,Zao,hb];rfl
   unfold Zrq Zfd;rcases Z39 l Zvj with h | ⟨h,m,hm,h3,h4⟩
   ·have run:=Zbc (fun j i=>Zfd.l0 j l (l.length:Int) (i:Int)) l.length (.inl ()) (fun i hi j=>good i hi (Yk.1 h _ (Yl hi)) j) (fun j=>by
     show Zfd.l0 (j+1) l (l.length:Int) (l.length:Int)=_;unfold Zfd.l0;rw [Zbb (Yf _)];rfl) k (by omega)
    have run:Zfd.l0 k l (l.length:Int) 0=some (.inl ()):=run;rw [run,h];rfl
   ·have run:=Zbc (fun j i=>Zfd.l0 j l (l.length:Int) (i:Int)) m (.inr (m:Int)) (fun i hi j=>good i (by omega) (h4 i hi) j) (fun j=>by
     show Zfd.l0 (j+1) l (l.length:Int) (m:Int)=_;have hb:l[m].length≠8:=by simpa [Zvj] using h3
     unfold Zfd.l0;rw [dlt hm,Zh hm];simp only [Xe,Ya,Zao];rw [show ((l[m].length:Int) != 8)=true by simp;omega];rfl) k (by omega)
    have run:Zfd.l0 k l (l.length:Int) 0=some (.inr (m:Int)):=run;rw [run,h];simp only [Ya];rw [Xa (by omega:(0:Int)≤(m:Int))];rfl
  ·rw [Xb (by omega:¬((l.length:Int)≤8)),Xb h2]
   simp
 ·rw [Xb (by omega:¬((1:Int)≤(l.length:Int))),Xb h1]
  simp
theorem Znh {l:List Str} (h:Zec l=true):1≤l.length∧l.length≤8∧∀s∈l,s.length=8:=by
 unfold Zec at h
 simp only [Yg,decide_eq_true_eq] at h
 exact ⟨h.1.1,h.1.2,fun s hs=>by simpa [Zvj] using Yk.1 h.2 s hs⟩
theorem Zl1:∀(l:List Str) (n:Nat),(∀s∈l,s.length≤n)→l.flatten.length≤n*l.length
 | [],n,_=>by simp
 | x::l,n,h=>by
  have h1:=h x Y9;have h2:=Zl1 l n fun s hs=>h s (List.mem_cons_of_mem _ hs)
  rw [List.flatten_cons,Yn,Y8,Nat.mul_succ];omega
theorem Z79 {β:Type} (l:List β) (f:Nat→β) (i:Nat) (h:i<l.length):((Yb i).map f++l.drop i).set i (f i)=(Yb (i+1)).map f++l.drop (i+1):=by
 rw [List.set_append_right _ _ (by simp),Yp,Yja,Y8a,Ysa h,List.set_cons_zero,Yma,Yxa,Yy]
 rfl
theorem Z69 {β:Type} (l:List β) (f:Nat→β) (i:Nat) (h:i≤l.length):((Yb i).map f++l.drop i).length=l.length:=by simp;omega
def Ev {α:Type} (f:Nat→Option α) (Q:α→Prop):Prop:=∃p,Q p∧Zc fun k=>f k=some p
theorem Ev.bind {α β:Type} {f:Nat→Option α} {g:Nat→α→Option β} {Q:α→Prop} {R:β→Prop} (h:Ev f Q) (k:∀p,Q p→Ev (fun k=>g k p) R):Ev (fun k=>(f k).bind (g k)) R:=by
 obtain ⟨p,hp,e⟩:=h
 obtain ⟨q,hq,e2⟩:=k p hp
 exact ⟨q,hq,(e.and e2).mono fun k h=>(congrArg (fun z=>Option.bind z (g k)) h.1).trans h.2⟩
theorem Ev.ret {α:Type} {p:α} {Q:α→Prop} (h:Q p):Ev (fun _=>some p) Q:=⟨p,h,Zc.of fun _=>rfl⟩
theorem Ev.of {α:Type} {x:Option α} {Q:α→Prop} (h:∃p,x=some p∧Q p):Ev (fun _=>x) Q:=by
 obtain ⟨p,e,h⟩:=h
 exact ⟨p,h,Zc.of fun _=>e⟩
theorem Ev.ever {α:Type} {f:Nat→Option α} {p:α} {Q:α→Prop} (h:Zc fun k=>f k=some p) (q:Q p):Ev f Q:=⟨p,q,h⟩
theorem Ev.mono {α:Type} {f:Nat→Option α} {Q R:α→Prop} (h:Ev f Q) (k:∀p,Q p→R p):Ev f R:=by
 obtain ⟨p,hp,e⟩:=h
 exact ⟨p,k p hp,e⟩
theorem Ev.cond {α:Type} {b:Bool} {f g:Nat→Option α} {Q:α→Prop} (h1:b=true→Ev f Q) (h2:b=false→Ev g Q):Ev (fun k=>bif b then f k else g k) Q:=by
 cases b with
 | true=>exact h1 rfl
 | false=>exact h2 rfl
theorem Ev.bnd {α β:Type} {x:Option α} {g:Nat→α→Option β} {R:β→Prop} {p:α} (h:x=some p) (k:Ev (fun k=>g k p) R):Ev (fun k=>x.bind (g k)) R:=by
 rw [h]
 exact k
theorem Zxm {S R:Type} (L:Nat→Nat→S→Option R) (m:S→Nat) (I:S→Prop) (Q:R→Prop) (step:∀s,I s→(∃r,(Zc fun k=>∀j,L k (j+1) s=some r)∧Q r)∨∃s',I s'∧m s'<m s∧Zc fun k=>∀j,L k (j+1) s=L k j s'):∀(n:Nat) (s:S),I s→m s≤n→∃r,Q r∧Zc fun k=>∀j,n<j→L k j s=some r:=by
 intro n
 induction n with
 | zero=>
  intro s hi hm;rcases step s hi with ⟨r,hr,hq⟩ | ⟨s',_,hm',_⟩
  ·refine ⟨r,hq,hr.mono fun k hr j hj=>?_⟩
   obtain ⟨j,rfl⟩:∃q,j=q+1:=⟨j-1,by omega⟩;exact hr j
  ·omega
 | succ n ih=>
  intro s hi hm;rcases step s hi with ⟨r,hr,hq⟩ | ⟨s',hi',hm',hs⟩
  ·refine ⟨r,hq,hr.mono fun k hr j hj=>?_⟩
   obtain ⟨j,rfl⟩:∃q,j=q+1:=⟨j-1,by omega⟩;exact hr j
  ·obtain ⟨r,hq,hr⟩:=ih s' hi' (by omega)
   refine ⟨r,hq,(hr.and hs).mono fun k h j hj=>?_⟩;obtain ⟨j,rfl⟩:∃q,j=q+1:=⟨j-1,by omega⟩;rw [h.2 j];exact h.1 j (by omega)
theorem Ev.loop {S R:Type} (L:Nat→Nat→S→Option R) (m:S→Nat) (I:S→Prop) (Q:R→Prop) (s:S) (hs:I s) (step:∀s,I s→(∃r,(Zc fun k=>∀j,L k (j+1) s=some r)∧Q r)∨∃s',I s'∧m s'<m s∧Zc fun k=>∀j,L k (j+1) s=L k j s'):Ev (fun k=>L k k s) Q:=by
 obtain ⟨r,hq,K,h⟩:=Zxm L m I Q step (m s) s hs (Yf _)
 exact ⟨r,hq,K+m s+1,fun k hk=>h k (by omega) k (by omega)⟩
abbrev Zdc:=Int×Str
abbrev Zy:=List Str×List Zdc
abbrev Zp:=Int×Zy
theorem Zbkb (s:Str):Zhb (Z9 s)=s:=by
 unfold Zhb Z9
 rw [List.map_map]
 have:((fun n:Int=>UInt8.ofNat n.toNat) ∘ fun b:UInt8=>(b.toNat:Int))=id:=by
  funext b
  simp
 rw [this,List.map_id]
theorem Zakb (a b:List Int):Zhb (a++b)=Zhb a++Zhb b:=by simp [Zhb]
theorem Ze0 (a b:Str):Z9 (a++b)=Z9 a++Z9 b:=by simp [Z9]
theorem Zf0 (s:Str):(Z9 s).length=s.length:=by simp [Z9]
def xb (a b:Str) (i:Nat):Int:=intBits .xor .u8 ((a.getD i 0).toNat:Int) ((b.getD i 0).toNat:Int)
def Zth (a b:Str):Str:=Zhb ((Yb 8).map (xb a b))
def Zsh (a b:Str):Str:=if a.length=8∧b.length=8 then Zth a b else []
theorem Zzz {s:Str} {i:Nat} (h:i<s.length):at? s (i:Int)=some (s.getD i 0):=by
 rw [Zh h,Ye,Yc h]
 rfl
theorem Zvjb {a b:Str} (ha:a.length=8) (hb:b.length=8) {k:Nat} (hk:10≤k):Zcf k a b=some (Zth a b):=by
 have hbl:(Z9 a).length=8:=by rw [Zf0,ha]
 have run:=Zbc (fun j i=>Zcf.l0 j b ((Z9 a).length:Int) (i:Int) ((Yb i).map (xb a b)++(Z9 a).drop i)) 8 ((Yb 8).map (xb a b)) (fun i hi j=>?_) (fun j=>?_) k (by omega)
 ·have run:Zcf.l0 k b ((Z9 a).length:Int) 0 (Z9 a)=some ((Yb 8).map (xb a b)):=run
  unfold Zcf;exact Za (Z33 (by omega)) (Za run rfl)
 ·have hl:=Z69 (Z9 a) (xb a b) i (by omega)
  have hat:at? ((Yb i).map (xb a b)++(Z9 a).drop i) (i:Int)=some ((a.getD i 0).toNat:Int):=by
   rw [Zh (by rw [hl];omega)];rw [List.getElem_append_right (by simp)];simp only [Yp,Yja,Y8a,Yva,Y2a];unfold Z9;rw [Yfa,Ye,Yc (by omega)];rfl
  conv=>lhs;unfold Zcf.l0
  rw [Xa (by omega:(i:Int)<((Z9 a).length:Int)),Zs (by omega),Xe];refine Za hat (Za hat (Za (Zzz (by omega)) (Za hat (Za hat ?_))));have:=Z79 (Z9 a) (xb a b) i (by omega);rw [Yh,show intBits .xor .u8 ((a.getD i 0).toNat:Int) ((b.getD i 0).toNat:Int)=xb a b i from rfl,this]
 ·conv=>lhs;unfold Zcf.l0
  rw [hbl,List.drop_of_length_le (by omega),Yz];rfl
theorem Znnb (a b:Str) {k:Nat} (hk:10≤k):Zse k a b=some (Zsh a b):=by
 unfold Zsh Zse
 by_cases h:a.length=8∧b.length=8
 ·obtain ⟨ha,hb⟩:=h
  rw [Xc ⟨ha,hb⟩,show (((a.length:Int) != 8)||((b.length:Int) != 8))=false by rw [ha,hb];rfl,Xf];have hm:Zdg 1 8 8 (0:Int)=some (Yw 8 0):=rfl;have run:=Zbc (fun j i=>Zse.l0 j a b (i:Int) ((Yb i).map (xb a b)++(Yw 8 (0:Int)).drop i)) 8 ((Yb 8).map (xb a b)) (fun i hi j=>?_) (fun j=>?_) k (by omega)
  ·have run:Zse.l0 k a b 0 (Yw 8 0)=some ((Yb 8).map (xb a b)):=run
   exact Za hm (Za run rfl)
  ·have hl:=Z69 (Yw 8 (0:Int)) (xb a b) i (by simp;omega)
   rw [List.length_replicate] at hl;obtain ⟨z,hat⟩:∃z,at? ((Yb i).map (xb a b)++(Yw 8 (0:Int)).drop i) (i:Int)=some z:=⟨_,Zh (by rw [hl];exact hi)⟩
   conv=>lhs;unfold Zse.l0
   rw [Xa (by omega:(i:Int)<8),Zs (by omega),Xe];refine Za (Zzz (by omega)) (Za (Zzz (by omega)) (Za hat (Za hat ?_)));have:=Z79 (Yw 8 (0:Int)) (xb a b) i (by simp;omega);rw [Yh,show intBits .xor .u8 ((a.getD i 0).toNat:Int) ((b.getD i 0).toNat:Int)=xb a b i from rfl,this]
  ·conv=>lhs;unfold Zse.l0
   rfl
 ·rw [Xd h,show (((a.length:Int) != 8)||((b.length:Int) != 8))=true by
   rw [Y4]
   by_cases ha:a.length=8
   ·right;simp;omega
   ·left;simp;omega]
  rfl
def Znv:Str:=[0,0,0,0,0,0,0,0]
def Zaj (x:Zg) (s:Str):Str:=if x.1=1 then Znv else if x.1=2 then x.2.2.2 else if x.1=3 then s else Zsh s x.2.2.2
theorem Zv1 {x:Zg} {s:Str} (h:x.1=1∨x.1=2∨x.1=3∨(s.length=8∧x.2.2.2.length=8)) {k:Nat} (hk:10≤k):Zhl k x s=some (Zaj x s):=by
 unfold Zhl Zaj
 by_cases h1:x.1=1
 ·rw [Xc h1,show (x.1==1)=true by simpa using h1]
  rfl
 ·rw [Xd h1,show (x.1==1)=false by simpa using h1,Xf]
  by_cases h2:x.1=2
  ·rw [Xc h2,show (x.1==2)=true by simpa using h2]
   rfl
  ·rw [Xd h2,show (x.1==2)=false by simpa using h2,Xf]
   by_cases h3:x.1=3
   ·rw [Xc h3,show (x.1==3)=true by simpa using h3]
    rfl
   ·rw [Xd h3,show (x.1==3)=false by simpa using h3,Xf]
    obtain ⟨a,b⟩:s.length=8∧x.2.2.2.length=8:=by
     rcases h with h | h | h | h
     ·exact absurd h h1
     ·exact absurd h h2
     ·exact absurd h h3
     ·exact h
    refine Za (Zvjb a b hk) ?_;unfold Zsh;rw [Xc ⟨a,b⟩]
structure WriteOk (x:Zg) (n:Int):Prop where
 kind:x.1=1∨x.1=2∨x.1=3∨(x.1=4∧x.2.2.2.length=8)
 tgt:0≤x.2.1∧x.2.1<n
 src:0≤x.2.2.1∧x.2.2.1<n
theorem Zhz {l:List Zg} {n:Int} (h:Zwb l n=0):∀x∈Zi l,WriteOk x n:=by
 intro x hx
 obtain ⟨_,h1,_,hs,_⟩:=Z8f h
 unfold Zi at hx
 obtain ⟨hx,hw⟩:=Yaa.1 hx
 have h5:x.1≠5:=by unfold isW at hw;simpa using hw
 have hs:=hs x hx
 unfold Z6d Zuc at hs
 split at hs
 ·rename_i q
  simp only [Yg,decide_eq_true_eq] at hs;exact ⟨.inl q,by omega,by omega⟩
 ·split at hs
  ·rename_i q
   simp only [Yg,decide_eq_true_eq] at hs;exact ⟨.inr (.inl q),by omega,by omega⟩
  ·split at hs
   ·rename_i q
    simp only [Yg,decide_eq_true_eq] at hs;exact ⟨.inr (.inr (.inl q)),by omega,by omega⟩
   ·split at hs
    ·rename_i q
     simp only [Yg,decide_eq_true_eq] at hs;exact ⟨.inr (.inr (.inr ⟨q,by omega⟩)),by omega,by omega⟩
    ·cases hs
def Zmg (base:List Str) (l:List Zg):List Str:=Z5g base (Zi l) (fun _=>false) fun x=>Zaj x (base.getD x.2.2.1.toNat [])
theorem Zyv {l:List Str} {n:Int} (h0:0≤n) (h1:n<(l.length:Int)):at? l n=some (l.getD n.toNat []):=by
 obtain ⟨i,rfl⟩:∃i:Nat,n=(i:Int):=⟨n.toNat,by omega⟩
 rw [Zh (by omega),Ye,Yh,Yc (by omega)]
 rfl
theorem Zm1 {l:List Str} {n:Nat} (h:n<l.length):l.getD n []∈l:=by
 rw [Ye,Yc h]
 exact Yl h
theorem Zw8 {base:List Str} {l:List Zg} {n:Int} (hc:Zwb l n=0) (hb:(base.length:Int)=n) (h8:∀s∈base,s.length=8) {k:Nat} (hk:100≤k):Zne k base l=some (Zmg base l):=by
 obtain ⟨hl,h1,h2,_,hnd,_⟩:=Z8f hc
 have hw:(Zi l).length≤l.length:=Yha _ _
 have hcl:Zch base=some base:=by
  unfold Zch;exact Za (Zlb (by simp;omega)) rfl
 have run:=Zbc (fun j i=>Zne.l0 k j base (Zi l) ((Zi l).length:Int) (i:Int) (Z5g base ((Zi l).take i) (fun _=>false) fun x=>Zaj x (base.getD x.2.2.1.toNat []))) (Zi l).length (Zmg base l) (fun i hi j=>?_) (fun j=>?_) k (by omega)
 ·have run:Zne.l0 k k base (Zi l) ((Zi l).length:Int) 0 (Z5g base [] (fun _=>false) fun x=>Zaj x (base.getD x.2.2.1.toNat []))=some (Zmg base l):=run
  rw [Zsdb] at run;unfold Zne;exact Za hcl (Za (Zjx l (by omega) k (by omega)) (Za run rfl))
 ·have hx:=Zhz hc _ (Yl hi)
  have hsrc:=hx.src;have hto:=hx.tgt;have hv:(Z5g base ((Zi l).take i) (fun _=>false) fun x=>Zaj x (base.getD x.2.2.1.toNat [])).length=base.length:=Zij _ _ _ _;have hs8:=h8 _ (Zm1 (l:=base) (n:=(Zi l)[i].2.2.1.toNat) (by omega));have hat:=Zyv (l:=Z5g base ((Zi l).take i) (fun _=>false) fun x=>Zaj x (base.getD x.2.2.1.toNat [])) hto.1 (by rw [hv];omega)
  conv=>lhs;unfold Zne.l0
  rw [dlt hi,Zs (by omega),Xe];refine Za (Zh hi) (Za (Zyv hsrc.1 (by omega)) (Za (Zv1 (by rcases hx.kind with q | q | q | q;exact .inl q;exact .inr (.inl q);exact .inr (.inr (.inl q));exact .inr (.inr (.inr ⟨hs8,q.2⟩))) (by omega)) (Za hat (Za hat ?_))));rw [Ztdb hnd hi hto.1 (by omega),Xd Bool.false_ne_true]
 ·conv=>lhs;unfold Zne.l0
  rw [Zbb (Yf _),Y1];rfl
def Zlh (f:Zy) (n:Int):Option Nat:=Zgb (fun x=>x.1==n) f.2 0
def Zk (f:Zy) (n:Int):Str:=match Zlh f n with
 | some i=>(f.2.getD i (0,[])).2
 | none=>f.1.getD n.toNat []
theorem Zir {f:Zy} {n:Int} {i:Nat} (h:Zlh f n=some i):i<f.2.length:=by
 obtain ⟨_,h2,_⟩:=Z4i h
 simpa using h2
theorem Z8w (f:Zy) (n:Int) (hl:f.2.length≤1048576) {k:Nat} (hk:f.2.length<k):Zsj k f n=some (match Zlh f n with | some i=>(i:Int) | none=>-1):=by
 have run:=Z1h (fun j i=>Zud.l0 j f.2 (f.2.length:Int) i n) f.2 (fun x=>x.1==n) (.inl n) (fun i=>.inr ((i:Int),n)) (fun i hi=>by
  have e:Z7p f.2[i] n=some (f.2[i].1==n):=rfl;constructor
  ·intro hp j
   show Zud.l0 (j+1) f.2 (f.2.length:Int) (i:Int) n=Zud.l0 j f.2 (f.2.length:Int) ((i+1:Nat):Int) n;rw [Zud.l0];rw [dlt hi,Zh hi,Zs (by omega)];simp only [Xe,Ya,e,hp,Xf]
  ·intro hp j
   show Zud.l0 (j+1) f.2 (f.2.length:Int) (i:Int) n=_;unfold Zud.l0;rw [dlt hi,Zh hi];simp only [Xe,Ya,e,hp]) (fun j=>by
  show Zud.l0 (j+1) f.2 (f.2.length:Int) (f.2.length:Int) n=_;unfold Zud.l0;rw [Zbb (Yf _)];rfl) hk
 have run:Zud.l0 k f.2 (f.2.length:Int) 0 n=_:=run
 unfold Zsj Zud Zlh
 rw [run]
 cases Zgb (fun x:Zdc=>x.1==n) f.2 0 <;> rfl
theorem Z0z {α:Type} {l:List α} {i:Nat} (d:α) (h:i<l.length):at? l (i:Int)=some (l.getD i d):=by
 rw [Zh h,Ye,Yc h]
 rfl
theorem Zet {α:Type} {l:List α} {n:Int} (d:α) (h0:0≤n) (h:n<(l.length:Int)):at? l n=some (l.getD n.toNat d):=by
 have:=Z0z (l:=l) (i:=n.toNat) d (by omega)
 rwa [Yda h0] at this
theorem Zvn (f:Zy) (n:Int) (hl:f.2.length≤1048576) (h0:0≤n) (h1:n<(f.1.length:Int)) {k:Nat} (hk:f.2.length<k):Zlf k f n=some (Zk f n):=by
 unfold Zlf Zk
 rw [Z8w f n hl hk]
 cases h:Zlh f n with
 | some i=>
  simp only [Ya];rw [Xa (by omega:(0:Int)≤(i:Int)),Z0z (0,[]) (Zir h)];rfl
 | none=>
  simp only [Ya];rw [show decide ((0:Int)≤-1)=false from rfl,Zet [] h0 h1];rfl
theorem Zccb (f:Zy) (n:Int) (hl:f.2.length≤1048576) (h0:0≤n) (h1:n<(f.1.length:Int)) {k:Nat} (hk:f.2.length<k):Z3c k f n=some (Zk f n):=by
 have run:=Z1h (fun j i=>Z3c.l0 j n f.1 f.2 i) f.2 (fun x=>x.1==n) (.inl ()) (fun i=>.inr (f.2.getD i (0,[])).2) (fun i hi=>by
  constructor
  ·intro hp j
   show Z3c.l0 (j+1) n f.1 f.2 (i:Int)=Z3c.l0 j n f.1 f.2 ((i+1:Nat):Int);rw [Z3c.l0];rw [dlt hi,Zh hi,Zs (by omega)];simp only [Xe,Ya,hp,Xf]
  ·intro hp j
   show Z3c.l0 (j+1) n f.1 f.2 (i:Int)=_;unfold Z3c.l0;rw [dlt hi,Zh hi];simp only [Xe,Ya,hp];rw [Ye,Yc hi];rfl) (fun j=>by
  show Z3c.l0 (j+1) n f.1 f.2 (f.2.length:Int)=_;unfold Z3c.l0;rw [Zbb (Yf _)];rfl) hk
 have run:Z3c.l0 k n f.1 f.2 0=_:=run
 unfold Z3c Zk Zlh
 rw [run]
 cases Zgb (fun x:Zdc=>x.1==n) f.2 0 with
 | some i=>rfl
 | none=>
  simp only [Ya];rw [Zet [] h0 h1];rfl
def okD (m:Nat) (l:List Zdc) (i:Nat):Bool:=decide (0≤(l.getD i (0,[])).1)&&decide ((l.getD i (0,[])).1≤(m:Int)-1)&&decide ((l.getD i (0,[])).2.length≤96) && !((l.take i).any fun x=>x.1==(l.getD i (0,[])).1)
def okS (s:Str):Bool:=decide (s.length≤96)
def Z0f (f:Zy):Bool:=decide (1≤f.1.length∧f.1.length≤40∧f.2.length≤f.1.length)&&(f.1.all okS&&(Yb f.2.length).all (okD f.1.length f.2))
theorem Zm7 {l:List Zdc} {i:Nat} (h:i<l.length):∃m,Zgb (fun x:Zdc=>x.1==(l.getD i (0,[])).1) l 0=some m∧m≤i∧(m<i ↔ (l.take i).any (fun x=>x.1==(l.getD i (0,[])).1)=true):=by
 have hg:l.getD i (0,[])=l[i]:=by rw [Ye,Yc h];rfl
 rw [hg]
 cases hf:Zgb (fun x:Zdc=>x.1==l[i].1) l 0 with
 | none=>
  have:=Ztn.1 hf l[i] (Yl h);simp at this
 | some m=>
  obtain ⟨_,h2,h3,h4⟩:=Z4i hf;have h2:m<l.length:=by simpa using h2
  have h3:(l[m].1==l[i].1)=true:=by simpa using h3
  have h4:∀j,(hj:j<m)→(l[j].1==l[i].1)=false:=fun j hj=>by simpa using h4 j (by omega)
  have hle:m≤i:=by
   refine Nat.not_lt.1 fun q=>?_
   have:=h4 i q;simp at this
  refine ⟨m,rfl,hle,fun q=>?_,fun q=>?_⟩
  ·refine Yra.2 ⟨l[m],?_,h3⟩
   exact Y0.2 ⟨m,by simp;omega,by simp⟩
  ·obtain ⟨x,hx,hx2⟩:=Yra.1 q
   obtain ⟨j,hj,e⟩:=Y0.1 hx;rw [Yv] at hj;have hji:j<i:=by omega
   rw [Y7] at e;refine Y4a (Nat.not_lt.1 fun q2=>?_) hji;have:=h4 j q2;rw [e,hx2] at this;cases this
theorem Zr1 {s:List Str} (hl:s.length≤1048576) (d:List Zdc) (n:Int):Zcl (s,d) n=some (decide (0≤n)&&decide (n≤(s.length:Int)-1)):=by
 unfold Zcl Zqg Zcb
 simp only [Ya]
 rw [w64 (by omega) (by omega)]
theorem Zs1 (f:Zy) (hl:f.1.length≤1048576) (hl2:f.2.length≤1048576) {k:Nat} (hk:1048577≤k):Zoe k f=some (Z0f f):=by
 obtain ⟨s,d⟩:=f
 have hl:s.length≤1048576:=hl
 have hl2:d.length≤1048576:=hl2
 have hs:Z1o k s=some (!(s.all okS)):=by
  have run:=Z1h (fun j i=>Z0d.l0 j s (s.length:Int) i) s (fun x=>!(okS x)) (.inl ()) (fun i=>.inr (i:Int)) (fun i hi=>by
   have e:Z9n s[i]=some (!(okS s[i])):=by
    unfold Z9n okS
    by_cases q:s[i].length≤96
    ·rw [Xa q,Xb (by omega)];rfl
    ·rw [Xb q,Xa (by omega)];rfl
   constructor
   ·intro hp j
    show Z0d.l0 (j+1) s (s.length:Int) (i:Int)=Z0d.l0 j s (s.length:Int) ((i+1:Nat):Int);rw [Z0d.l0];rw [dlt hi,Zh hi,Zs (by omega)];simp only [Xe,Ya,e,hp,Xf]
   ·intro hp j
    show Z0d.l0 (j+1) s (s.length:Int) (i:Int)=_;unfold Z0d.l0;rw [dlt hi,Zh hi];simp only [Xe,Ya,e,hp]) (fun j=>by
   show Z0d.l0 (j+1) s (s.length:Int) (s.length:Int)=_;unfold Z0d.l0;rw [Zbb (Yf _)];rfl) (show s.length<k by have:s.length≤1048576:=hl;omega)
  have run:Z0d.l0 k s (s.length:Int) 0=_:=run;unfold Z1o Z0d;rw [run];cases hf:Zgb (fun x=>!(okS x)) s 0 with
  | none=>
   have:s.all okS=true:=Yk.2 fun x hx=>by
    have:=Ztn.1 hf x hx;simpa using this
   rw [this];rfl
  | some i=>
   obtain ⟨_,h2,h3,_⟩:=Z4i hf
   have:s.all okS=false:=by
    cases q:s.all okS with
    | false=>rfl
    | true=>
     have:=Yk.1 q _ (Yl h2);rw [this] at h3;cases h3
   rw [this];simp only [Ya];rw [Xa (by omega:(0:Int)≤(i:Int))];rfl
 have hd:=Zo2 (fun j i=>Zoe.l0 k j s d d (d.length:Int) (i:Int)) d.length (okD s.length d) (fun _=>false) (fun i hi hp j=>?_) (fun i hi hp j=>?_) (fun j=>?_)
 ·unfold Zoe Z0f
  have h40:Zcb (s.length:Int) 1 40=some (decide (1≤s.length)&&decide (s.length≤40)):=by
   unfold Zcb;congr 2 <;> exact decide_eq_decide.2 (by omega)
  have hz:Zqg s=some (s.length:Int):=rfl;dsimp only;rw [hz];simp only [Ya];rw [h40];simp only [Ya]
  by_cases c:1≤s.length∧s.length≤40∧d.length≤s.length
  ·rw [Xa c.1,Xa c.2.1,Xb (by omega:¬(s.length:Int)<(d.length:Int)),Xa c,hs]
   simp only [Yi,Yd,Yt,Xf,Ya,Yj];cases ha:s.all okS with
   | false=>rfl
   | true=>
    simp only [Yd,Xf,Yj];rcases hd with ⟨h1,h2⟩ | ⟨h1,i,_,_,h2⟩
    ·have h2:Zoe.l0 k k s d d (d.length:Int) 0=some (.inl ()):=h2 k (by have:d.length≤1048576:=hl2;omega)
     rw [h2,h1];rfl
    ·have h2:Zoe.l0 k k s d d (d.length:Int) 0=some (.inr false):=h2 k (by have:d.length≤1048576:=hl2;omega)
     rw [h2,h1];rfl
  ·rw [Xb c]
   have:((!(decide (1≤s.length)&&decide (s.length≤40)))||decide ((s.length:Int)<(d.length:Int)))=true:=by
    rw [Y4,Bool.not_eq_true',Y2,decide_eq_false_iff_not,decide_eq_false_iff_not,decide_eq_true_iff];omega
   rw [this];rfl
 all_goals skip
 ·have hg:d.getD i (0,[])=d[i]:=by rw [Ye,Yc hi];rfl
  have hp2:=hp;unfold okD at hp2;rw [Yg,Yg,Yg,hg] at hp2;obtain ⟨⟨⟨p1,p2⟩,p3⟩,p4⟩:=hp2;obtain ⟨m,m1,m2,m3⟩:=Zm7 hi;rw [hg] at m1 m3
  conv=>lhs;unfold Zoe.l0
  rw [dlt hi,Zh hi,Zs (by omega)];simp only [Xe,Ya];rw [Zr1 hl,p1,p2];simp only [Ya,Yi,Yd,Yx];rw [Xb (by have:=of_decide_eq_true p3;omega:¬(96:Int)<(d[i].2.length:Int)),Z8w (s,d) _ hl2 (by show d.length<k;omega)];unfold Zlh;dsimp only;rw [m1];simp only [Xf,Ya]
  have hno:¬(m:Int)<(i:Int):=fun q=>by
   have:=m3.1 (by omega);rw [this] at p4;cases p4
  rw [Xb hno];rfl
 ·have hg:d.getD i (0,[])=d[i]:=by rw [Ye,Yc hi];rfl
  obtain ⟨m,m1,m2,m3⟩:=Zm7 hi;rw [hg] at m1 m3;have hp2:=hp;unfold okD at hp2;rw [hg] at hp2
  conv=>lhs;unfold Zoe.l0
  rw [dlt hi,Zh hi];simp only [Xe,Ya];rw [Zr1 hl,Z8w (s,d) _ hl2 (by show d.length<k;omega)];unfold Zlh;dsimp only;rw [m1];simp only [Ya];cases q1:(decide (0≤d[i].1)&&decide (d[i].1≤(s.length:Int)-1)) with
  | false=>rfl
  | true=>
   rw [q1,Yj] at hp2
   by_cases q2:d[i].2.length≤96
   ·rw [Xa q2,Yj,Yqa] at hp2
    rw [Xb (by omega:¬(96:Int)<(d[i].2.length:Int))];simp only [Yd,Yt,Xf];rw [Xa (by have:=m3.2 hp2;omega:(m:Int)<(i:Int))];rfl
   ·rw [Xa (by omega:(96:Int)<(d[i].2.length:Int))]
    rfl
 ·conv=>lhs;unfold Zoe.l0
  rw [Zbb (Yf _)];rfl
theorem Zd9 (d:List Zdc) (i:Nat) (hi:i<d.length) (k:Nat) (hk:i<k) (hl2:d.length≤1048576:=by omega):((d.take i).any (fun x=>x.1==(d.getD i (0,[])).1)=true∧∀s,Z4.l1 k s d (i:Int) 0=some (.inr false))∨((d.take i).any (fun x=>x.1==(d.getD i (0,[])).1)=false∧∀s,Z4.l1 k s d (i:Int) 0=some (.inl ())):=by
 have hg:d.getD i (0,[])=d[i]:=by rw [Ye,Yc hi];rfl
 rw [hg]
 have run:∀s,Z4.l1 k s d (i:Int) 0=some (match Zgb (fun x:Zdc=>x.1==d[i].1) (d.take i) 0 with | some _=>.inr false | none=>.inl ()):=fun s=>
  Z1h (fun j q=>Z4.l1 j s d (i:Int) q) (d.take i) (fun x=>x.1==d[i].1) (.inl ()) (fun _=>.inr false) (fun q hq=>by
   rw [Yv] at hq;have hq2:q<i:=by omega
   rw [Y7];constructor
   ·intro hp j
    show Z4.l1 (j+1) s d (i:Int) (q:Int)=Z4.l1 j s d (i:Int) ((q+1:Nat):Int);rw [Z4.l1];rw [dlt hq2,Zh (by omega:q<d.length),Zh hi,Zs (by omega)];simp only [Xe,Ya,hp,Xf]
   ·intro hp j
    show Z4.l1 (j+1) s d (i:Int) (q:Int)=_;rw [Z4.l1];rw [dlt hq2,Zh (by omega:q<d.length),Zh hi];simp only [Xe,Ya,hp]) (fun j=>by
   show Z4.l1 (j+1) s d (i:Int) ((d.take i).length:Int)=_;rw [Yv,Y5a (by omega),Z4.l1,Zbb (Yf _)];rfl) (by rw [Yv];omega)
 have ha:=Ztt (p:=fun x:Zdc=>x.1==d[i].1) (l:=d.take i) (n:=0)
 cases hf:Zgb (fun x:Zdc=>x.1==d[i].1) (d.take i) 0 with
 | some m=>
  rw [hf] at ha;exact .inl ⟨ha.symm,fun s=>by rw [run s,hf]⟩
 | none=>
  rw [hf] at ha;exact .inr ⟨ha.symm,fun s=>by rw [run s,hf]⟩
theorem Z0mb (f:Zy) (hl:f.1.length≤1048576) (hl2:f.2.length≤1048576) {k:Nat} (hk:1048577≤k):Z4 k f=some (Z0f f):=by
 obtain ⟨s,d⟩:=f
 have hl:s.length≤1048576:=hl
 have hl2:d.length≤1048576:=hl2
 have hs:=Zo2 (fun j i=>Z4.l0 j s d (i:Int)) s.length (fun i=>okS (s.getD i [])) (fun _=>false) (fun i hi hp j=>?_) (fun i hi hp j=>?_) (fun j=>?_)
 have hd:=Zo2 (fun j i=>Z4.l2 k j s d (i:Int)) d.length (okD s.length d) (fun _=>false) (fun i hi hp j=>?_) (fun i hi hp j=>?_) (fun j=>?_)
 ·unfold Z4 Z0f
  dsimp only
  by_cases c:1≤s.length∧s.length≤40∧d.length≤s.length
  ·rw [Xb (by omega:¬(s.length:Int)<1),Xb (by omega:¬(40:Int)<(s.length:Int)),Xb (by omega:¬(s.length:Int)<(d.length:Int)),Xa c]
   simp only [Yt,Xf,Yj]
   have hall:(Yb s.length).all (fun i=>okS (s.getD i []))=s.all okS:=by
    rw [Yca,Yk,Yk];constructor
    ·intro h x hx
     obtain ⟨i,hi,rfl⟩:=Y0.1 hx;have:=h i (Yo.2 hi)
     rwa [Ye,Yc hi] at this
    ·intro h i hi
     have hi:=Yo.1 hi;rw [Ye,Yc hi];exact h _ (Yl hi)
   rcases hs with ⟨h1,h2⟩ | ⟨h1,i,_,_,h2⟩
   ·have h2:Z4.l0 k s d 0=some (.inl ()):=h2 k (by omega)
    rw [h2,← hall,h1];simp only [Ya,Yj];rcases hd with ⟨h3,h4⟩ | ⟨h3,i,_,_,h4⟩
    ·have h4:Z4.l2 k k s d 0=some (.inl ()):=h4 k (by omega)
     rw [h4,h3];rfl
    ·have h4:Z4.l2 k k s d 0=some (.inr false):=h4 k (by omega)
     rw [h4,h3];rfl
   ·have h2:Z4.l0 k s d 0=some (.inr false):=h2 k (by omega)
    rw [h2,← hall,h1];rfl
  ·rw [Xb c]
   have:((decide ((s.length:Int)<1)||decide (40<(s.length:Int)))||decide ((s.length:Int)<(d.length:Int)))=true:=by
    rw [Y4,Y4,decide_eq_true_iff,decide_eq_true_iff,decide_eq_true_iff];omega
   rw [this];rfl
 ·
  have hg:d.getD i (0,[])=d[i]:=by rw [Ye,Yc hi];rfl
  have hp2:=hp;unfold okD at hp2;rw [Yg,Yg,Yg,hg] at hp2;obtain ⟨⟨⟨p1,p2⟩,p3⟩,p4⟩:=hp2;have hin:=Zd9 d i hi k (by omega);rw [hg] at hin;rcases hin with ⟨q,_⟩ | ⟨_,q⟩
  ·rw [q] at p4;cases p4
  conv=>lhs;unfold Z4.l2
  rw [dlt hi,Zh hi,Zs (by omega),w64 (by omega) (by omega)];simp only [Xe,Ya];unfold Zhd;rw [p1,p2,q s];simp only [Ya,Yi,Yd,Xf];rw [Xb (by have:=of_decide_eq_true p3;omega:¬(96:Int)<(d[i].2.length:Int))];rfl
 ·have hg:d.getD i (0,[])=d[i]:=by rw [Ye,Yc hi];rfl
  have hp2:=hp;unfold okD at hp2;rw [hg] at hp2;have hin:=Zd9 d i hi k (by omega);rw [hg] at hin
  conv=>lhs;unfold Z4.l2
  rw [dlt hi,Zh hi,w64 (by omega) (by omega)];simp only [Xe,Ya];unfold Zhd;simp only [Ya];cases q1:(decide (0≤d[i].1)&&decide (d[i].1≤(s.length:Int)-1)) with
  | false=>rfl
  | true=>
   rw [q1,Yj] at hp2;simp only [Yd,Xf]
   by_cases q2:d[i].2.length≤96
   ·rw [Xa q2,Yj,Yqa] at hp2
    rw [Xb (by omega:¬(96:Int)<(d[i].2.length:Int))];rcases hin with ⟨_,q⟩ | ⟨q,_⟩
    ·rw [q s]
     rfl
    ·rw [q] at hp2;cases hp2
   ·rw [Xa (by omega:(96:Int)<(d[i].2.length:Int))]
    rfl
 ·conv=>lhs;unfold Z4.l2
  rw [Zbb (Yf _)];rfl
 ·have hg:s.getD i []=s[i]:=by rw [Ye,Yc hi];rfl
  have hp:okS (s.getD i [])=true:=hp;rw [hg] at hp;have hp:=of_decide_eq_true hp
  conv=>lhs;unfold Z4.l0
  rw [dlt hi,Zh hi,Zs (by omega)];simp only [Xe,Ya];rw [Xb (by omega:¬(96:Int)<(s[i].length:Int))];rfl
 ·have hg:s.getD i []=s[i]:=by rw [Ye,Yc hi];rfl
  have hp:okS (s.getD i [])=false:=hp;rw [hg] at hp;have hp:=of_decide_eq_false hp
  conv=>lhs;unfold Z4.l0
  rw [dlt hi,Zh hi];simp only [Xe,Ya];rw [Xa (by omega:(96:Int)<(s[i].length:Int))];rfl
 ·conv=>lhs;unfold Z4.l0
  rw [Zbb (Yf _)];rfl
def Zro (s:Str):Option (Int×Str×Nat):=if (Z5c s 0).2.2=0 then if (Z0g s (Z5c s 0).2.1.toNat).2.2=0 then some ((Z5c s 0).1,(Z0g s (Z5c s 0).2.1.toNat).1,(Z0g s (Z5c s 0).2.1.toNat).2.1.toNat) else none else none
theorem Zxab {s:Str} {x:Int} {t:Str} {a d:Nat} (g1:Got s 0 x a) (g4:GotT s a t d):Zj x++Znb t=s ↔ d=s.length:=by
 have e0:s=Zj x++(Znb t++s.drop d):=by
  have h1:=g1.eq;rw [Yta,g4.eq] at h1;exact h1
 constructor
 ·intro h
  have:=g4.at';have:=g1.at';have hl:=congrArg Yga h;rw [Yn] at hl;omega
 ·intro h
  rw [h,Yea,Yz] at e0;exact e0.symm
def Zpl (n:Int) (t:Str):Bool:=(decide (1≤n)&&decide (n≤1000000))&&decide (t.length≤80)
def Z0b (s:Str):Int×Str×Int:=if (Zod s).2=0 then match Zro (Zt s) with
  | some (n,t,d)=>if d=(Zt s).length∧Zpl n t=true then (n,t,0) else (0,[],3)
  | none=>(0,[],3) else (0,[],(Zod s).2)
theorem Zdcb (n:Int) (t:Str) (hn:Num n) (ht:t.length≤8000):Zc fun k=>Zgj k n t=some (if Zpl n t=true then Z4f (Zj n++Znb t) else []):=by
 have is:Zhd n 1 1000000=some (decide (1≤n)&&decide (n≤1000000)):=rfl
 unfold Zpl
 by_cases h1:(decide (1≤n)&&decide (n≤1000000))=true
 ·by_cases h2:t.length≤80
  ·have l1:=Zhe n
   have l4:=Ztl t;refine (((Z1m n hn).and (Zgcb t ht)).and (Zgnb (Zj n++Znb t) (by simp;omega))).mono fun k ⟨⟨a,b⟩,c⟩=>?_
   unfold Zgj;rw [is,h1,Xb (by omega:¬(80:Int)<(t.length:Int)),Xa h2];simp only [Ya,Yd,Yt,Xf,Yi,if_true];rw [a,b];simp only [Ya];rw [Zjf (by omega)];simp only [Ya];rw [c];rfl
  ·refine Zc.of fun k=>?_
   unfold Zgj;rw [is,h1,Xa (by omega:(80:Int)<(t.length:Int)),Xb h2];rfl
 ·refine Zc.of fun k=>?_
  unfold Zgj;rw [is,Yba.2 h1];rfl
theorem Zecb (s:Str) (hs:s.length≤8000):Zc fun k=>Zzj k s=some (Z0b s):=by
 by_cases hu:(Zod s).2=0
 ·obtain ⟨e1,e2,e3⟩:=Zcz hu
  have hbl:(Zt s).length≤8000:=by rw [Zbr];omega
  rcases Zsl (Zt s) 0 with ⟨n,a,en,gn⟩ | ⟨c,hc,en⟩
  ·have hla:=gn.le
   rcases Zyq (Zt s) a with ⟨t,d,et,gt⟩ | ⟨c,hc,et⟩
   ·refine ((((Zwy s hs).and (Zvy (Zt s) 0 (by omega) hbl)).and (Zd4 (Zt s) a (by omega) hbl)).and (Zdcb n t gn.range gt.size)).mono fun k ⟨⟨⟨h0,h1⟩,h2⟩,h3⟩=>?_
    have h1:Z2d k (Zt s) 0=_:=h1;unfold Zzj Z0b Zro;rw [Xc hu,h0,e1,en];simp only [Ya];rw [show ((0:Int) != 0)=false from rfl,Xf,h1,en];simp only [Ya,Yh];rw [h2,et];simp only [Ya,if_true,Yh];rw [show ((0:Int) != 0)=false from rfl,Yt,Xf,h3];simp only [Ya]
    by_cases hr:Zpl n t=true
    ·rw [Xc hr,Z2v]
     by_cases hd:d=(Zt s).length
     ·have:Z4f (Zj n++Znb t)=s:=by rw [(Zxab gn gt).2 hd,e2]
      rw [Xa this,Xc ⟨hd,hr⟩];rfl
     ·rw [Xb (fun q=>hd ((Zxab gn gt).1 (Zrnb.1 (q.trans e2.symm)))),Xd (fun q=>hd q.1)]
      rfl
    ·rw [Xd hr,Xd (fun q=>hr q.2),Zegb (by omega)]
     rfl
   ·refine (((Zwy s hs).and (Zvy (Zt s) 0 (by omega) hbl)).and (Zd4 (Zt s) a (by omega) hbl)).mono fun k ⟨⟨h0,h1⟩,h2⟩=>?_
    have h1:Z2d k (Zt s) 0=_:=h1;unfold Zzj Z0b Zro;rw [Xc hu,h0,e1,en];simp only [Ya];rw [show ((0:Int) != 0)=false from rfl,Xf,h1,en];simp only [Ya,Yh];rw [h2,et];simp only [Ya,if_true];rw [Xd hc,show ((0:Int) != 0)=false from rfl,Yx,show (c != 0)=true by simpa using hc];rfl
  ·refine (((Zwy s hs).and (Zvy (Zt s) 0 (by omega) hbl)).and (Zd4 (Zt s) 0 (by omega) hbl)).mono fun k ⟨⟨h0,h1⟩,h2⟩=>?_
   have h1:Z2d k (Zt s) 0=_:=h1;have h2:Z4m k (Zt s) 0=_:=h2;unfold Zzj Z0b Zro;rw [Xc hu,h0,e1,en];simp only [Ya];rw [show ((0:Int) != 0)=false from rfl,Xf,h1,en];simp only [Ya];rw [h2];simp only [Ya];rw [Xd hc,show (c != 0)=true by simpa using hc];rfl
 ·refine (Zwy s hs).mono fun k h0=>?_
  unfold Zzj Z0b;rw [Xd hu,h0];simp only [Ya];rw [show ((Zod s).2 != 0)=true by simpa using hu];rfl
theorem Z58 (s:Str) (hs:s.length≤8000):Zc fun k=>Zjl k s=some (Z0b s):=by
 by_cases hu:(Zod s).2=0
 ·obtain ⟨e1,e2,e3⟩:=Zcz hu
  have hbl:(Zt s).length≤8000:=by rw [Zbr];omega
  rcases Zsl (Zt s) 0 with ⟨n,a,en,gn⟩ | ⟨c,hc,en⟩
  ·have hla:=gn.le
   have hn:Zfc (Zt s) 0=(n,Zt s,((a:Nat):Int),false):=by unfold Zfc;rw [en];rfl
   refine (((Zwr s (by omega)).and (Zx1 (Zt s) 0 (by omega) (by omega))).and (Za9 (Zt s) a (by omega) (by omega))).mono fun k ⟨⟨h0,h1⟩,h2⟩=>?_
   have h1:Z9b k (Zt s,(0,false))=_:=h1;unfold Zjl Z0b Zro;rw [Xc hu,h0,e1,en];simp only [Ya];rw [show ((0:Int) != 0)=false from rfl,Xf,h1,hn];simp only [Ya,Yh];rw [h2];simp only [Ya,if_true];rcases Zyq (Zt s) a with ⟨t,d,et,gt⟩ | ⟨c,hc,et⟩
   ·have ht:Z5f (Zt s) a=(t,Zt s,((d:Nat):Int),false):=by unfold Z5f;rw [et];rfl
    rw [ht,et];simp only [Yx,if_true,Yh]
    by_cases hd:d=(Zt s).length
    ·rw [show (((d:Nat):Int) != ((Zt s).length:Int))=false by rw [hd];simp]
     simp only [Xf];have is:Zcb n 1 1000000=some (decide (1≤n)&&decide (n≤1000000)):=rfl;rw [is];simp only [Ya];unfold Zpl
     by_cases q1:(decide (1≤n)&&decide (n≤1000000))=true
     ·by_cases q2:t.length≤80
      ·rw [q1,Xa q2,Xb (by omega:¬(80:Int)<(t.length:Int)),Xc ⟨hd,rfl⟩]
       rfl
      ·rw [q1,Xb q2,Xa (by omega:(80:Int)<(t.length:Int)),Xd (fun q=>by cases q.2)]
       rfl
     ·rw [Yba.2 q1,Xd (fun q=>by cases q.2)]
      rfl
    ·rw [show (((d:Nat):Int) != ((Zt s).length:Int))=true by simp;omega,Xd (fun q=>hd q.1)]
     rfl
   ·have ht:Z5f (Zt s) a=([],Zt s,((a:Nat):Int),true):=by unfold Z5f;rw [et,Xd hc]
    rw [ht,et,Xd hc];rfl
  ·have hn:Zfc (Zt s) 0=(0,Zt s,((0:Nat):Int),true):=by unfold Zfc;rw [en,Xd hc]
   obtain ⟨t,a',hw,_⟩:=Zb9 (Zt s) 0 (by omega) (by omega);refine (((Zwr s (by omega)).and (Zx1 (Zt s) 0 (by omega) (by omega))).and hw).mono fun k ⟨⟨h0,h1⟩,h2⟩=>?_
   have h1:Z9b k (Zt s,(0,false))=_:=h1;unfold Zjl Z0b Zro;rw [Xc hu,h0,e1,en,Xd hc];simp only [Ya];rw [show ((0:Int) != 0)=false from rfl,Xf,h1,hn];simp only [Ya];rw [h2];rfl
 ·refine (Zwr s (by omega)).mono fun k h0=>?_
  unfold Zjl Z0b;rw [Xd hu,h0];simp only [Ya];rw [show ((Zod s).2 != 0)=true by simpa using hu];rfl
theorem Zbab (s:Str):(Z0b s).2.1.length≤80:=by
 unfold Z0b
 split
 ·split
  ·split
   ·rename_i h
    have:=h.2;unfold Zpl at this;rw [Yg] at this;exact of_decide_eq_true this.2
   ·simp
  ·simp
 ·simp
def Zm (f:Zy):Int×Str×Int×Int:=if (Z0b (Zk f 0)).2.2=0∧((Z0b (Zk f 1)).2.2≠0∨(Z0b (Zk f 1)).1≤(Z0b (Zk f 0)).1) then ((Z0b (Zk f 0)).1,(Z0b (Zk f 0)).2.1,(Z0b (Zk f 0)).2.2,0) else if (Z0b (Zk f 1)).2.2=0 then ((Z0b (Zk f 1)).1,(Z0b (Zk f 1)).2.1,(Z0b (Zk f 1)).2.2,1) else (0,[],6,-1)
theorem Z4p {f:Zy} (h:Z0f f=true):(1≤f.1.length∧f.1.length≤40∧f.2.length≤f.1.length)∧(∀x∈f.1,x.length≤96)∧∀i,i<f.2.length→(f.2.getD i (0,[])).2.length≤96:=by
 unfold Z0f at h
 rw [Yg,Yg] at h
 obtain ⟨h1,h2,h3⟩:=h
 refine ⟨of_decide_eq_true h1,fun x hx=>of_decide_eq_true (Yk.1 h2 x hx),fun i hi=>?_⟩
 have:=Yk.1 h3 i (Yo.2 hi)
 unfold okD at this
 rw [Yg,Yg] at this
 exact of_decide_eq_true this.1.2
theorem Znm {f:Zy} (h:Z0f f=true) (n:Int):(Zk f n).length≤96:=by
 obtain ⟨_,h1,h2⟩:=Z4p h
 unfold Zk
 cases hd:Zlh f n with
 | some i=>exact h2 i (Zir hd)
 | none=>
  by_cases q:n.toNat<f.1.length
  ·show (f.1.getD n.toNat []).length≤96
   rw [Ye,Yc q];exact h1 _ (Yl q)
  ·show (f.1.getD n.toNat []).length≤96
   rw [Ye,List.getElem?_eq_none (by omega)];simp
theorem Zw1 {f:Zy} (h:Z0f f=true) (h2:2≤f.1.length):Zc fun k=>Zxc k f=some (Zm f):=by
 obtain ⟨⟨b1,b2,b3⟩,_⟩:=Z4p h
 refine (((Z58 (Zk f 0) (by have:=Znm h 0;omega)).and (Z58 (Zk f 1) (by have:=Znm h 1;omega))).and (Zc.ge 100 fun k hk=>hk)).mono fun k ⟨⟨m0,m1⟩,hk⟩=>?_
 obtain ⟨j,rfl⟩:∃j,k=j+3:=⟨k-3,by omega⟩
 have r0:Zlf (j+3) (f.1,f.2) 0=some (Zk f 0):=Zvn f 0 (by omega) (by omega) (by omega) (by omega)
 have r1:Zlf (j+3) (f.1,f.2) 1=some (Zk f 1):=Zvn f 1 (by omega) (by omega) (by omega) (by omega)
 have w1:Yr .i64 ((0:Int)+1)=1:=by decide
 have w2:Yr .i64 ((1:Int)+1)=2:=by decide
 unfold Zm
 generalize Z0b (Zk f 0)=a at m0
 generalize Z0b (Zk f 1)=b at m1
 obtain ⟨an,at',ac⟩:=a
 obtain ⟨bn,bt,bc⟩:=b
 have s0:∀j2,Zxc.l0 (j+3) (j2+1) f.1 f.2 (-1) 0 0 [] 6=if ac=0 then Zxc.l0 (j+3) j2 f.1 f.2 0 1 an at' ac else Zxc.l0 (j+3) j2 f.1 f.2 (-1) 1 0 [] 6:=fun j2=>by
  conv=>lhs;unfold Zxc.l0
  rw [show decide ((0:Int)<2)=true from rfl,Xe,r0];simp only [Ya];rw [m0];simp only [Ya,w1]
  by_cases q:ac=0
  ·rw [Xc q,q]
   rfl
  ·rw [Xd q,show (ac==0)=false by simpa using q]
   rfl
 have s1:∀j2 (p n c:Int) (t:Str),Zxc.l0 (j+3) (j2+2) f.1 f.2 p 1 n t c=if bc=0∧(p<0∨n<bn) then some (1,bn,bt,bc) else some (p,n,t,c):=fun j2 p n c t=>by
  have fin:∀(p n c:Int) (t:Str),Zxc.l0 (j+3) (j2+1) f.1 f.2 p 2 n t c=some (p,n,t,c):=fun p n c t=>by
   conv=>lhs;unfold Zxc.l0
   rfl
  conv=>lhs;unfold Zxc.l0
  rw [show decide ((1:Int)<2)=true from rfl,Xe,r1];simp only [Ya];rw [m1];simp only [Ya,w2,fin]
  by_cases q:bc=0
  ·subst q
   by_cases q2:p<0
   ·rw [Xa q2,Xc ⟨rfl,.inl q2⟩]
    rfl
   ·rw [Xb q2]
    by_cases q3:n<bn
    ·rw [Xa q3,Xc ⟨rfl,.inr q3⟩]
     rfl
    ·rw [Xb q3,Xd (by omega)]
     rfl
  ·rw [show (bc==0)=false by simpa using q,Xd (fun w=>q w.1)]
   rfl
 unfold Zxc
 rw [show j+3=(j+2)+1 from rfl]
 rw [s0 (j+2)]
 by_cases q:ac=0
 ·rw [Xc q,s1 j]
  by_cases q2:bc=0
  ·by_cases q3:an<bn
   ·rw [Xc ⟨q2,.inr q3⟩,Xd (by simp only [not_and];intro _ ;omega),Xc q2]
    rfl
   ·rw [Xd (by omega),Xc ⟨q,.inr (by omega)⟩]
    rfl
  ·rw [Xd (fun w=>q2 w.1),Xc ⟨q,.inl q2⟩]
   rfl
 ·rw [Xd q,s1 j,Xd (c:=ac=0∧_) (fun w=>q w.1)]
  by_cases q2:bc=0
  ·rw [Xc ⟨q2,.inl (by decide)⟩,Xc q2]
   rfl
  ·rw [Xd (fun w=>q2 w.1),Xd q2]
   rfl
theorem Z7mb {f:Zy} (h:Z0f f=true) (h2:2≤f.1.length):Zc fun k=>Zdp k f=some (Zm f):=by
 obtain ⟨⟨b1,b2,b3⟩,_⟩:=Z4p h
 refine (((Zecb (Zk f 0) (by have:=Znm h 0;omega)).and (Zecb (Zk f 1) (by have:=Znm h 1;omega))).and (Zc.ge 100 fun k hk=>hk)).mono fun k ⟨⟨m0,m1⟩,hk⟩=>?_
 have r0:Z3c k f 0=some (Zk f 0):=Zccb f 0 (by omega) (by omega) (by omega) (by omega)
 have r1:Z3c k f 1=some (Zk f 1):=Zccb f 1 (by omega) (by omega) (by omega) (by omega)
 unfold Zdp Zm
 rw [r0]
 simp only [Ya]
 rw [m0]
 simp only [Ya]
 rw [r1]
 simp only [Ya]
 rw [m1]
 simp only [Ya]
 generalize Z0b (Zk f 0)=a
 generalize Z0b (Zk f 1)=b
 obtain ⟨an,at',ac⟩:=a
 obtain ⟨bn,bt,bc⟩:=b
 dsimp only
 by_cases q:ac=0
 ·rw [show (ac==0)=true by simpa using q,Yj]
  by_cases q2:bc=0
  ·rw [show (bc != 0)=false by simpa using q2,Yx,show (bc==0)=true by simpa using q2]
   by_cases q3:bn≤an
   ·rw [Xa q3,Xc ⟨q,.inr q3⟩]
    rfl
   ·rw [Xb q3,Xd (by omega),Xc q2]
    rfl
  ·rw [show (bc != 0)=true by simpa using q2,Xc ⟨q,.inl q2⟩]
   rfl
 ·rw [show (ac==0)=false by simpa using q,Xd (fun w=>q w.1)]
  by_cases q2:bc=0
  ·rw [show (bc==0)=true by simpa using q2,Xc q2]
   rfl
  ·rw [show (bc==0)=false by simpa using q2,Xd q2]
   rfl
def Ztb (v:Nat) (n:Nat):List Nat:=(Yb n).filter fun i=>v.testBit i
def Zb (v:Nat):List Int:=(Ztb v 24).map fun n=>((n:Nat):Int)
theorem Zit (v n:Nat):Ztb v (n+1)=if v.testBit n=true then Ztb v n++[n] else Ztb v n:=by
 unfold Ztb
 rw [Yma,List.filter_append]
 by_cases h:v.testBit n=true
 ·rw [Xc h,List.filter_cons_of_pos h];rfl
 ·rw [Xd h,List.filter_cons_of_neg h];simp
theorem Zh6 (v n:Nat):(Ztb v n).length≤n:=by
 unfold Ztb
 refine Y3a (Yha _ _) ?_
 simp
theorem Z9q {v n x:Nat} (h:x∈Ztb v n):x<n∧v.testBit x=true:=by
 unfold Ztb at h
 rw [Yaa,Yo] at h
 exact h
theorem Zyg (v:Nat):(Zb v).length≤24:=by
 unfold Zb
 rw [Yp]
 exact Zh6 v 24
theorem Zxeb (a:Nat) (ha:a<9223372036854775808):intBits .and .i64 (a:Int) 1=((a%2:Nat):Int):=by
 unfold intBits
 simp only [IntKind.bits]
 have h1:(Ym 64 (a:Int) &&& Ym 64 1).toNat=a%2:=by
  rw [Ypa,Ys,Ys];have:((a:Int)%((2^64:Nat):Int)).toNat=a:=by omega
  rw [this];show a &&& 1=a%2;rw [Nat.and_one_is_mod]
 show Yr .i64 (((Ym 64 (a:Int) &&& Ym 64 1).toNat:Nat):Int)=_
 rw [h1]
 exact w64 (by omega) (by omega)
theorem Zzeb (v i:Nat) (hv:v<16777216) (hi:i<24):(intBits .and .i64 (shr .i64 (v:Int) (i:Int)) 1==1)=v.testBit i:=by
 rw [Zqh .i64 _ i (by show i≤64;omega),Zxeb _ (Y4a (Nat.div_le_self _ _) (by omega)),Y9a]
 rw [Yca,beq_iff_eq,decide_eq_true_iff]
 omega
theorem Z9w (v:Nat) (hv:v<16777216):∀k,24<k→Zed k (v:Int)=some (Zb v):=by
 intro k hk
 have h:=Zbc (fun j i=>Zed.l0 j (v:Int) (i:Int) ((Ztb v i).map fun n=>((n:Nat):Int))) 24 (Zb v) (fun i hi j=>?_) (fun j=>?_) k hk
 ·have h:Zed.l0 k (v:Int) 0 []=some (Zb v):=h
  unfold Zed;rw [h];rfl
 ·have hl:=Zh6 v i
  conv=>lhs;unfold Zed.l0
  rw [Xa (by omega:(i:Int)<24),Zs (by omega)];dsimp only;rw [Xe,Zvb (by omega),Zzeb v i hv hi,Zit];simp only [Ya];cases hb:v.testBit i with
  | true=>rw [Zlb (by simp;omega)];simp
  | false=>simp
 ·conv=>lhs;unfold Zed.l0
  rfl
theorem Zar (v n:Nat):(Ztb v n).Pairwise (· < ·):=List.Pairwise.filter _ List.pairwise_lt_range
theorem Z2k {v i:Nat} (h:i<(Zb v).length):0≤(Zb v)[i]∧(Zb v)[i]≤23:=by
 have hm:=Yl h
 obtain ⟨x,hx,e⟩:=Yka.1 hm
 have:=(Z9q hx).1
 omega
theorem Zg6 {v i:Nat} (h:i+1<(Zb v).length):(Zb v)[i]'(by omega)<(Zb v)[i+1]:=by
 have hl:(Zb v).length=(Ztb v 24).length:=by unfold Zb;rw [Yp]
 have:=Yla.1 (Zar v 24) i (i+1) (by omega) (by omega) (by omega)
 have e:∀q (hq:q<(Zb v).length),(Zb v)[q]=(((Ztb v 24)[q]'(by omega):Nat):Int):=fun q hq=>by simp [Zb]
 rw [e,e]
 omega
theorem Zcx (v:Nat):∀k,24<k→Zld k (Zb v)=some true:=by
 intro k hk
 have hlen:=Zyg v
 have h:=Zbc (fun j i=>Zld.l0 j (Zb v) (Zb v) ((Zb v).length:Int) (i:Int)) (Zb v).length (.inl ()) (fun i hi j=>?_) (fun j=>?_) k (by omega)
 ·have h:Zld.l0 k (Zb v) (Zb v) ((Zb v).length:Int) 0=some (.inl ()):=h
  unfold Zld;rw [h];rfl
 ·obtain ⟨q1,q2⟩:=Z2k hi
  conv=>lhs;unfold Zld.l0
  rw [dlt hi,Zh hi,Zs (by omega)];simp only [Xe,Ya];unfold Zcb;rw [Xa q1,Xa q2];simp only [Ya,Yi,Yd,Xf]
  by_cases h0:0<i
  ·obtain ⟨m,rfl⟩:∃m,i=m+1:=⟨i-1,by omega⟩
   have:=Zg6 hi;rw [Xa (by omega:(0:Int)<((m+1:Nat):Int)),w64 (by omega) (by omega),show ((m+1:Nat):Int)-1=(m:Int) by omega,Zh (by omega)];simp only [Xe,Ya];rw [Xb (by omega)];rfl
  ·rw [Xb (by omega:¬(0:Int)<(i:Int))]
   rfl
 ·conv=>lhs;unfold Zld.l0
  rw [Zbb (Yf _)];rfl
theorem Z4mb (v:Nat):∀k,24<k→Z1e k (Zb v)=some true:=by
 intro k hk
 have hlen:=Zyg v
 have h:=Zbc (fun j i=>Z1e.l0 j (Zb v) (i:Int)) (Zb v).length (.inl ()) (fun i hi j=>?_) (fun j=>?_) k (by omega)
 ·have h:Z1e.l0 k (Zb v) 0=some (.inl ()):=h
  unfold Z1e;rw [Xb (by omega:¬(24:Int)<((Zb v).length:Int)),h];rfl
 ·obtain ⟨q1,q2⟩:=Z2k hi
  conv=>lhs;unfold Z1e.l0
  rw [dlt hi,Zh hi,Zs (by omega)];simp only [Xe,Ya];unfold Zhd;rw [Xa q1,Xa q2];simp only [Ya,Yi,Yd,Xf]
  by_cases h0:0<i
  ·obtain ⟨m,rfl⟩:∃m,i=m+1:=⟨i-1,by omega⟩
   have:=Zg6 hi;rw [Xa (by omega:(0:Int)<((m+1:Nat):Int)),w64 (by omega) (by omega),show ((m+1:Nat):Int)-1=(m:Int) by omega,Zh (by omega)];simp only [Xe,Ya];rw [Xb (by omega)];rfl
  ·rw [Xb (by omega:¬(0:Int)<(i:Int))]
   rfl
 ·conv=>lhs;unfold Z1e.l0
  rw [Zbb (Yf _)];rfl
def Zje:List Nat→Nat
 | []=>0
 | x::l=>2^x+Zje l
theorem Zv4 (a b:List Nat):Zje (a++b)=Zje a+Zje b:=by
 induction a with
 | nil=>simp [Zje]
 | cons x a ih=>rw [List.cons_append,Zje,Zje,ih];omega
theorem Z8y (v:Nat):∀n,Zje (Ztb v n)=v%2^n
 | 0=>by simp [Ztb,Zje,Nat.mod_one]
 | n+1=>by
  have h2:v%2^(n+1)=v%2^n+2^n*(v/2^n%2):=by rw [Y7a,Nat.mod_mul]
  rw [Zit,h2];have ht:v.testBit n=decide (v/2^n%2=1):=Y9a
  by_cases hb:v.testBit n=true
  ·rw [Xc hb,Zv4,Z8y v n]
   rw [ht] at hb;rw [of_decide_eq_true hb];simp [Zje]
  ·rw [Xd hb,Z8y v n]
   rw [ht] at hb;have:v/2^n%2≠1:=fun q=>hb (Xa q)
   have:v/2^n%2=0:=by omega
   rw [this];omega
theorem Ziob {l:List Nat} {x:Nat} (hs:l.Pairwise (· < ·)) (h:∀y∈l,y<x):Zje l<2^x:=by
 have:∀(l:List Nat) (x:Nat),l.reverse.Pairwise (· < ·)→(∀y∈l,y<x)→Zje l<2^x:=by
  intro l
  induction l with
  | nil=>intro x _ _;exact Nat.two_pow_pos x
  | cons a l ih=>
   intro x hs h;rw [Yza,List.pairwise_append] at hs;have ha:=h a Y9;have h1:=ih a hs.1 fun y hy=>hs.2.2 y (Yya.2 hy) a Y9
   have h2:2^(a+1)≤2^x:=Yna (by omega) ha;rw [Y7a] at h2;rw [Zje];omega
 have hr:∀l:List Nat,Zje l.reverse=Zje l:=by
  intro l
  induction l with
  | nil=>rfl
  | cons a l ih=>rw [Yza,Zv4,ih,Zje,Zje,Zje];omega
 rw [← hr]
 refine this _ x ?_ fun y hy=>h y (Yya.1 hy)
 rwa [List.reverse_reverse]
theorem Zucb {x:Nat} (h:x<24):shl .i64 1 (x:Int)=((2^x:Nat):Int):=by
 have hp:2^x≤2^24:=Yna (by omega) (by omega)
 unfold shl
 rw [Yh,Y5a (by show x≤64;omega),Int.one_mul]
 have e:(2:Int)^x=((2^x:Nat):Int):=by rw [Int.natCast_pow];rfl
 rw [e]
 have h24:(2:Nat)^24=16777216:=by decide
 generalize (2:Nat)^x=p at hp ⊢
 exact w64 (by omega) (by omega)
theorem ori (a b:Nat) (ha:a<9223372036854775808) (hb:b<9223372036854775808):intBits .or .i64 (a:Int) (b:Int)=((a ||| b:Nat):Int):=by
 have h1:(Ym 64 (a:Int) ||| Ym 64 (b:Int)).toNat=a ||| b:=by
  rw [BitVec.toNat_or,Ys,Ys];have h1:((a:Int)%((2^64:Nat):Int)).toNat=a:=by omega
  have h2:((b:Int)%((2^64:Nat):Int)).toNat=b:=by omega
  rw [h1,h2]
 have hlt:a ||| b<2^63:=Nat.or_lt_two_pow (by simpa using ha) (by simpa using hb)
 unfold intBits
 show Yr .i64 (((Ym 64 (a:Int) ||| Ym 64 (b:Int)).toNat:Nat):Int)=_
 rw [h1]
 exact w64 (by omega) (by simpa using (by exact_mod_cast hlt:((a ||| b:Nat):Int)<2^63))
theorem Zadb {l:List Nat} {i:Nat} (h:i<l.length):Zje (l.take (i+1))=Zje (l.take i)+2^l[i]:=by
 rw [Zhj h,Zv4,Zje,Zje,Y2a]
theorem Zbdb {v i:Nat} (h:i<(Ztb v 24).length):Zje ((Ztb v 24).take i)<2^(Ztb v 24)[i]:=by
 refine Ziob ((Zar v 24).sublist (Y0a _ _)) fun y hy=>?_
 obtain ⟨j,hj,rfl⟩:=Y0.1 hy
 rw [Yv] at hj
 rw [Y7]
 exact Yla.1 (Zar v 24) j i (by omega) h (by omega)
theorem Ze6 {v i:Nat} (h:i<(Ztb v 24).length):(Zb v)[i]'(by unfold Zb;rwa [Yp])=(((Ztb v 24)[i]:Nat):Int)∧(Ztb v 24)[i]<24∧2^(Ztb v 24)[i]≤8388608:=by
 have hx:=(Z9q (Yl h)).1
 refine ⟨by simp [Zb],hx,?_⟩
 have:2^(Ztb v 24)[i]≤2^23:=Yna (by omega) (by omega)
 simpa using this
theorem Zun (v:Nat) (hv:v<16777216):∀k,24<k→Znc k (Zb v)=some (v:Int):=by
 intro k hk
 have hlen:=Zyg v
 have hl:(Zb v).length=(Ztb v 24).length:=by unfold Zb;rw [Yp]
 have h:=Zbc (fun j i=>Znc.l0 j ((Zje ((Ztb v 24).take i):Nat):Int) (Zb v) ((Zb v).length:Int) (i:Int)) (Zb v).length (v:Int) (fun i hi j=>?_) (fun j=>?_) k (by omega)
 ·have h:Znc.l0 k 0 (Zb v) ((Zb v).length:Int) 0=some (v:Int):=h
  unfold Znc;rw [h];rfl
 ·have hi2:i<(Ztb v 24).length:=by omega
  obtain ⟨e1,e2,e3⟩:=Ze6 hi2;have hs:=Zbdb hi2
  conv=>lhs;unfold Znc.l0
  rw [dlt hi,Zh hi,Zs (by omega)];simp only [Xe,Ya];rw [e1,Zvb (by omega),Zucb e2,ori _ _ (by omega) (by omega),Zadb hi2];simp only [Ya]
  have:Zje ((Ztb v 24).take i) ||| 2^(Ztb v 24)[i]=Zje ((Ztb v 24).take i)+2^(Ztb v 24)[i]:=by
   have:=Nat.two_pow_add_eq_or_of_lt hs 1;rw [Nat.mul_one] at this;rw [Nat.or_comm,← this,Nat.add_comm]
  rw [this]
 ·conv=>lhs;unfold Znc.l0
  rw [Zbb (Yf _),hl,Y1,Z8y,Y6a (by simpa using hv)];rfl
theorem Z7bb (v:Nat) (hv:v<16777216):∀k,24<k→Z0e k (Zb v)=some (v:Int):=by
 intro k hk
 have hlen:=Zyg v
 have hl:(Zb v).length=(Ztb v 24).length:=by unfold Zb;rw [Yp]
 have h:=Zbc (fun j i=>Z0e.l0 j (Zb v) ((Zje ((Ztb v 24).take i):Nat):Int) (i:Int)) (Zb v).length (v:Int) (fun i hi j=>?_) (fun j=>?_) k (by omega)
 ·have h:Z0e.l0 k (Zb v) 0 0=some (v:Int):=h
  unfold Z0e;rw [Z4mb v k hk];simp only [Ya,Yd,Xf];rw [h];rfl
 ·have hi2:i<(Ztb v 24).length:=by omega
  obtain ⟨e1,e2,e3⟩:=Ze6 hi2;have hs:=Zbdb hi2
  conv=>lhs;unfold Z0e.l0
  rw [dlt hi,Zh hi,Zs (by omega)];simp only [Xe,Ya];rw [e1,Zvb (by omega),Zucb e2,Zadb hi2];simp only [Ya];rw [w64 (by omega) (by omega),← Int.natCast_add]
 ·conv=>lhs;unfold Z0e.l0
  rw [Zbb (Yf _),hl,Y1,Z8y,Y6a (by simpa using hv)];rfl
def Z5b (s:Str) (a:Nat):Option (Int×Nat):=if (Z5c s a).2.2=0 then some ((Z5c s a).1,(Z5c s a).2.1.toNat) else none
def Zug (s:Str) (a:Nat):Option (Str×Nat):=if (Z0g s a).2.2=0 then some ((Z0g s a).1,(Z0g s a).2.1.toNat) else none
theorem Zju {s:Str} {a:Nat} {n:Int} {a':Nat} (h:Z5b s a=some (n,a')):Got s a n a':=by
 unfold Z5b at h
 rcases Zsl s a with ⟨m,b,e,g⟩ | ⟨c,hc,e⟩
 ·rw [e] at h
  simp only [if_true,Yh,Ybb.injEq,Prod.mk.injEq] at h;obtain ⟨rfl,rfl⟩:=h;exact g
 ·rw [e,Xd hc] at h
  cases h
theorem Zoob {s:Str} {a:Nat} {t:Str} {a':Nat} (h:Zug s a=some (t,a')):GotT s a t a':=by
 unfold Zug at h
 rcases Zyq s a with ⟨m,b,e,g⟩ | ⟨c,hc,e⟩
 ·rw [e] at h
  simp only [if_true,Yh,Ybb.injEq,Prod.mk.injEq] at h;obtain ⟨rfl,rfl⟩:=h;exact g
 ·rw [e,Xd hc] at h
  cases h
def StS (s:Str) (st:Str×Int×Bool) (p:Option Nat):Prop:=st.1=s∧∃a:Nat,st.2.1=(a:Int)∧a≤8000∧match p with
 | some q=>a=q∧st.2.2=false
 | none=>st.2.2=true
def Zf (s:Str) (p:Option Nat):Option Nat:=match p with
 | some a=>(Z5b s a).map (·.2)
 | none=>none
def Zcc (s:Str) (p:Option Nat):Option Nat:=match p with
 | some a=>(Zug s a).map (·.2)
 | none=>none
theorem Z9kb {s:Str} (hs:s.length≤8000) (a:Nat) (ha:a≤8000):StS s (Zfc s a).2 (Zf s (some a))∧∀n a',Z5b s a=some (n,a')→(Zfc s a).1=n:=by
 show StS s (Zfc s a).2 ((Z5b s a).map (·.2))∧_
 rcases Zsl s a with ⟨m,b,e,g⟩ | ⟨c,hc,e⟩
 ·have hb:=g.le
  have hr:Zfc s a=(m,s,((b:Nat):Int),false):=by unfold Zfc;rw [e];rfl
  have hn:Z5b s a=some (m,b):=by unfold Z5b;rw [e];rfl
  rw [hr,hn];exact ⟨⟨rfl,b,rfl,by omega,rfl,rfl⟩,fun n a' h=>by cases h;rfl⟩
 ·have hr:Zfc s a=(0,s,(a:Int),true):=by unfold Zfc;rw [e,Xd hc]
  have hn:Z5b s a=none:=by unfold Z5b;rw [e,Xd hc]
  rw [hr,hn];exact ⟨⟨rfl,a,rfl,ha,rfl⟩,fun n a' h=>by cases h⟩
theorem Znob {s:Str} (hs:s.length≤8000) (a:Nat) (ha:a≤8000):StS s (Z5f s a).2 (Zcc s (some a))∧∀n a',Zug s a=some (n,a')→(Z5f s a).1=n:=by
 show StS s (Z5f s a).2 ((Zug s a).map (·.2))∧_
 rcases Zyq s a with ⟨m,b,e,g⟩ | ⟨c,hc,e⟩
 ·have hb:=g.le
  have hr:Z5f s a=(m,s,((b:Nat):Int),false):=by unfold Z5f;rw [e];rfl
  have hn:Zug s a=some (m,b):=by unfold Zug;rw [e];rfl
  rw [hr,hn];exact ⟨⟨rfl,b,rfl,by omega,rfl,rfl⟩,fun n a' h=>by cases h;rfl⟩
 ·have hr:Z5f s a=([],s,(a:Int),true):=by unfold Z5f;rw [e,Xd hc]
  have hn:Zug s a=none:=by unfold Zug;rw [e,Xd hc]
  rw [hr,hn];exact ⟨⟨rfl,a,rfl,ha,rfl⟩,fun n a' h=>by cases h⟩
theorem StS.form {s:Str} {st:Str×Int×Bool} {p:Option Nat} (h:StS s st p):(∃a,p=some a∧a≤8000∧st=(s,((a:Int),false)))∨∃a:Nat,p=none∧a≤8000∧st=(s,((a:Int),true)):=by
 obtain ⟨x,y,z⟩:=st
 obtain ⟨rfl,a,h1,h2,h3⟩:=h
 have h1:y=(a:Int):=h1
 subst h1
 cases p with
 | some q=>
  obtain ⟨h4,h5⟩:=h3;have h5:z=false:=h5;exact .inl ⟨q,rfl,by omega,by rw [h4,h5]⟩
 | none=>
  have h3:z=true:=h3;exact .inr ⟨a,rfl,h2,by rw [h3]⟩
theorem Z7i {s:Str} (hs:s.length≤8000) {st:Str×Int×Bool} {p:Option Nat} (h:StS s st p):∃v,(Zc fun k=>Z9b k st=some v)∧StS s v.2 (Zf s p)∧∀a n a',p=some a→Z5b s a=some (n,a')→v.1=n:=by
 rcases h.form with ⟨a,rfl,ha,rfl⟩ | ⟨a,rfl,ha,rfl⟩
 ·obtain ⟨h1,h2⟩:=Z9kb hs a ha
  exact ⟨_,Zx1 s a (by omega) (by omega),h1,fun a0 n a' e h=>by cases e;exact h2 n a' h⟩
 ·obtain ⟨n,a',h1,h2⟩:=Z4ib s a (by omega) (by omega)
  exact ⟨_,h1,⟨rfl,a',rfl,by omega,rfl⟩,fun a0 n a' e=>by cases e⟩
theorem Z01 {s:Str} (hs:s.length≤8000) {st:Str×Int×Bool} {p:Option Nat} (h:StS s st p):∃v,(Zc fun k=>Zbg k st=some v)∧StS s v.2 (Zcc s p)∧∀a n a',p=some a→Zug s a=some (n,a')→v.1=n:=by
 rcases h.form with ⟨a,rfl,ha,rfl⟩ | ⟨a,rfl,ha,rfl⟩
 ·obtain ⟨h1,h2⟩:=Znob hs a ha
  exact ⟨_,Za9 s a (by omega) (by omega),h1,fun a0 n a' e h=>by cases e;exact h2 n a' h⟩
 ·obtain ⟨n,a',h1,h2⟩:=Zb9 s a (by omega) (by omega)
  exact ⟨_,h1,⟨rfl,a',rfl,by omega,rfl⟩,fun a0 n a' e=>by cases e⟩
def stZ (s:Str):Option ((Int×Int×Int×Int×Int×Int×Int×Str)×Nat):=(Z5b s 0).bind fun x1=>(Z5b s x1.2).bind fun x2=>(Z5b s x2.2).bind fun x3=>(Z5b s x3.2).bind fun x4=>(Z5b s x4.2).bind fun x5=>(Z5b s x5.2).bind fun x6=>(Z5b s x6.2).bind fun x7=>(Zug s x7.2).map fun t=>((x1.1,x2.1,x3.1,x4.1,x5.1,x6.1,x7.1,t.1),t.2)
theorem Z9ib (s:Str) (hs:s.length≤8000):∃v1 v2 v3 v4 v5 v6 v7:Int×Str×Int×Bool,∃v8:Str×Str×Int×Bool,(Zc fun k=>Z9b k (s,(0,false))=some v1∧Z9b k v1.2=some v2∧Z9b k v2.2=some v3∧Z9b k v3.2=some v4∧Z9b k v4.2=some v5∧Z9b k v5.2=some v6∧Z9b k v6.2=some v7∧Zbg k v7.2=some v8) ∧
  ((∃d:Nat,stZ s=some ((v1.1,v2.1,v3.1,v4.1,v5.1,v6.1,v7.1,v8.1),d)∧v8.2=(s,((d:Nat):Int),false))∨(stZ s=none∧v8.2.2.2=true)):=by
 have h0:StS s (s,((0:Nat):Int),false) (some 0):=⟨rfl,0,rfl,by omega,rfl,rfl⟩
 obtain ⟨v1,e1,h1,g1⟩:=Z7i hs h0
 obtain ⟨v2,e2,h2,g2⟩:=Z7i hs h1
 obtain ⟨v3,e3,h3,g3⟩:=Z7i hs h2
 obtain ⟨v4,e4,h4,g4⟩:=Z7i hs h3
 obtain ⟨v5,e5,h5,g5⟩:=Z7i hs h4
 obtain ⟨v6,e6,h6,g6⟩:=Z7i hs h5
 obtain ⟨v7,e7,h7,g7⟩:=Z7i hs h6
 obtain ⟨v8,e8,h8,g8⟩:=Z01 hs h7
 refine ⟨v1,v2,v3,v4,v5,v6,v7,v8,(((((((e1.and e2).and e3).and e4).and e5).and e6).and e7).and e8).mono fun k ⟨⟨⟨⟨⟨⟨⟨q1,q2⟩,q3⟩,q4⟩,q5⟩,q6⟩,q7⟩,q8⟩=>⟨q1,q2,q3,q4,q5,q6,q7,q8⟩,?_⟩
 clear e1 e2 e3 e4 e5 e6 e7 e8 h0 h1 h2 h3 h4 h5 h6 h7
 have bad:∀{st:Str×Int×Bool},StS s st none→st.2.2=true:=fun h=>h.2.choose_spec.2.2
 cases x1:Z5b s 0 with
 | none=>
  refine .inr ⟨by simp [stZ,x1],bad (st:=v8.2) ?_⟩;have:Zcc s (Zf s (Zf s (Zf s (Zf s (Zf s (Zf s (Zf s (some 0))))))))=none:=by simp [Zf,Zcc,x1]
  rwa [this] at h8
 | some y1=>
 obtain ⟨n1,a1⟩:=y1
 cases x2:Z5b s a1 with
 | none=>
  refine .inr ⟨by simp [stZ,x1,x2],bad (st:=v8.2) ?_⟩;have:Zcc s (Zf s (Zf s (Zf s (Zf s (Zf s (Zf s (Zf s (some 0))))))))=none:=by simp [Zf,Zcc,x1,x2]
  rwa [this] at h8
 | some y2=>
 obtain ⟨n2,a2⟩:=y2
 cases x3:Z5b s a2 with
 | none=>
  refine .inr ⟨by simp [stZ,x1,x2,x3],bad (st:=v8.2) ?_⟩;have:Zcc s (Zf s (Zf s (Zf s (Zf s (Zf s (Zf s (Zf s (some 0))))))))=none:=by simp [Zf,Zcc,x1,x2,x3]
  rwa [this] at h8
 | some y3=>
 obtain ⟨n3,a3⟩:=y3
 cases x4:Z5b s a3 with
 | none=>
  refine .inr ⟨by simp [stZ,x1,x2,x3,x4],bad (st:=v8.2) ?_⟩;have:Zcc s (Zf s (Zf s (Zf s (Zf s (Zf s (Zf s (Zf s (some 0))))))))=none:=by simp [Zf,Zcc,x1,x2,x3,x4]
  rwa [this] at h8
 | some y4=>
 obtain ⟨n4,a4⟩:=y4
 cases x5:Z5b s a4 with
 | none=>
  refine .inr ⟨by simp [stZ,x1,x2,x3,x4,x5],bad (st:=v8.2) ?_⟩;have:Zcc s (Zf s (Zf s (Zf s (Zf s (Zf s (Zf s (Zf s (some 0))))))))=none:=by simp [Zf,Zcc,x1,x2,x3,x4,x5]
  rwa [this] at h8
 | some y5=>
 obtain ⟨n5,a5⟩:=y5
 cases x6:Z5b s a5 with
 | none=>
  refine .inr ⟨by simp [stZ,x1,x2,x3,x4,x5,x6],bad (st:=v8.2) ?_⟩;have:Zcc s (Zf s (Zf s (Zf s (Zf s (Zf s (Zf s (Zf s (some 0))))))))=none:=by simp [Zf,Zcc,x1,x2,x3,x4,x5,x6]
  rwa [this] at h8
 | some y6=>
 obtain ⟨n6,a6⟩:=y6
 cases x7:Z5b s a6 with
 | none=>
  refine .inr ⟨by simp [stZ,x1,x2,x3,x4,x5,x6,x7],bad (st:=v8.2) ?_⟩;have:Zcc s (Zf s (Zf s (Zf s (Zf s (Zf s (Zf s (Zf s (some 0))))))))=none:=by simp [Zf,Zcc,x1,x2,x3,x4,x5,x6,x7]
  rwa [this] at h8
 | some y7=>
 obtain ⟨n7,a7⟩:=y7
 cases x8:Zug s a7 with
 | none=>
  refine .inr ⟨by simp [stZ,x1,x2,x3,x4,x5,x6,x7,x8],bad (st:=v8.2) ?_⟩;have:Zcc s (Zf s (Zf s (Zf s (Zf s (Zf s (Zf s (Zf s (some 0))))))))=none:=by simp [Zf,Zcc,x1,x2,x3,x4,x5,x6,x7,x8]
  rwa [this] at h8
 | some y8=>
  obtain ⟨t,d⟩:=y8;have p1:Zf s (some 0)=some a1:=by simp [Zf,x1]
  have p2:Zf s (Zf s (some 0))=some a2:=by simp [Zf,x1,x2]
  have p3:Zf s (Zf s (Zf s (some 0)))=some a3:=by simp [Zf,x1,x2,x3]
  have p4:Zf s (Zf s (Zf s (Zf s (some 0))))=some a4:=by simp [Zf,x1,x2,x3,x4]
  have p5:Zf s (Zf s (Zf s (Zf s (Zf s (some 0)))))=some a5:=by simp [Zf,x1,x2,x3,x4,x5]
  have p6:Zf s (Zf s (Zf s (Zf s (Zf s (Zf s (some 0))))))=some a6:=by simp [Zf,x1,x2,x3,x4,x5,x6]
  have p7:Zf s (Zf s (Zf s (Zf s (Zf s (Zf s (Zf s (some 0)))))))=some a7:=by simp [Zf,x1,x2,x3,x4,x5,x6,x7]
  have p8:Zcc s (Zf s (Zf s (Zf s (Zf s (Zf s (Zf s (Zf s (some 0))))))))=some d:=by simp [Zf,Zcc,x1,x2,x3,x4,x5,x6,x7,x8]
  have r1:=g1 _ _ _ rfl x1;have r2:=g2 _ _ _ p1 x2;have r3:=g3 _ _ _ p2 x3;have r4:=g4 _ _ _ p3 x4;have r5:=g5 _ _ _ p4 x5;have r6:=g6 _ _ _ p5 x6;have r7:=g7 _ _ _ p6 x7;have r8:=g8 _ _ _ p7 x8;refine .inl ⟨d,?_,?_⟩
  ·rw [r1,r2,r3,r4,r5,r6,r7,r8]
   simp [stZ,x1,x2,x3,x4,x5,x6,x7,x8]
  ·rw [p8] at h8
   rcases h8.form with ⟨a,e,_,q⟩ | ⟨a,e,_,q⟩
   ·cases e;exact q
   ·cases e
abbrev StT:=Int×Int×Int×Int×Int×Str×List Int×List Int
def stT (op part steps slots moves:Int) (mem:Str) (v w:Nat):StT:=(op,part,steps,slots,moves,mem,Zb v,Zb w)
def Zpf (op part steps slots moves:Int) (mem:Str) (v w:Nat):Bool:=(decide (1≤op)&&decide (op≤5))&&(decide (v &&& w=0)&&(if op=1 then decide (part=0∧steps=0∧slots=0∧moves=0∧mem=[]∧(Zb w).length=0) else decide ((1≤steps∧steps≤20)∧(0≤slots∧slots≤4)∧((Zb w).length:Int)=steps+slots∧mem.length=32∧(0≤part∧part≤2)∧(0≤moves∧moves≤40)∧(part=0∨op=4)∧(moves=0∨op=5))))
theorem andi (a b:Nat) (ha:a<16777216) (hb:b<16777216):intBits .and .i64 (a:Int) (b:Int)=((a &&& b:Nat):Int):=by
 have h1:(Ym 64 (a:Int) &&& Ym 64 (b:Int)).toNat=a &&& b:=by
  rw [Ypa,Ys,Ys];have h1:((a:Int)%((2^64:Nat):Int)).toNat=a:=by omega
  have h2:((b:Int)%((2^64:Nat):Int)).toNat=b:=by omega
  rw [h1,h2]
 have hlt:a &&& b≤a:=Nat.and_le_left
 unfold intBits
 show Yr .i64 (((Ym 64 (a:Int) &&& Ym 64 (b:Int)).toNat:Nat):Int)=_
 rw [h1]
 exact w64 (by omega) (by omega)
theorem Zxib (op part steps slots moves:Int) (mem:Str) (v w:Nat) (hv:v<16777216) (hw:w<16777216):∀k,24<k→Zbo k (stT op part steps slots moves mem v w)=some (Zpf op part steps slots moves mem v w):=by
 intro k hk
 have hl:=Zyg w
 have W:∀a b c:Int,Zcb a b c=some (decide (b≤a)&&decide (a≤c)):=fun _ _ _=>rfl
 have Z:Z9i (Zb w)=some ((Zb w).length:Int):=rfl
 unfold Zbo stT
 dsimp only
 rw [W]
 simp only [Ya]
 unfold Zpf
 by_cases h1:(decide (1≤op)&&decide (op≤5))=true
 ·rw [h1]
  simp only [Yd,Xf,Yj];refine Za (Zcx v k hk) ?_;simp only [Yd,Xf];refine Za (Zcx w k hk) ?_;simp only [Yd,Xf];refine Za (Zun v hv k hk) (Za (Zun w hw k hk) ?_);rw [andi v w hv hw]
  by_cases h2:v &&& w=0
  ·rw [h2]
   simp only [decide_true,Yj];rw [show (((0:Nat):Int) != 0)=false from rfl];simp only [Xf]
   by_cases h3:op=1
   ·rw [show (op==1)=true by simpa using h3,Xc h3,Xe]
    congr 1;rw [Yca];simp only [Yg,beq_iff_eq,decide_eq_true_eq];constructor
    ·rintro ⟨⟨⟨⟨⟨a,b⟩,c⟩,d⟩,e⟩,f⟩
     exact ⟨a,b,c,d,e,by omega⟩
    ·rintro ⟨a,b,c,d,e,f⟩
     exact ⟨⟨⟨⟨⟨a,b⟩,c⟩,d⟩,e⟩,by omega⟩
   ·rw [show (op==1)=false by simpa using h3,Xd h3,Xf]
    have two:∀{a b:Prop} [Decidable a] [Decidable b],¬(a∧b)→(decide a&&decide b)=false:=fun {a b} _ _ h=>by
     rw [Y2,decide_eq_false_iff_not,decide_eq_false_iff_not];exact Classical.not_and_iff_not_or_not.1 h
    by_cases c1:1≤steps∧steps≤20
    ·refine Za (W steps 1 20) ?_
     rw [Xa c1.1,Xa c1.2];simp only [Yi,Xe]
     by_cases c2:0≤slots∧slots≤4
     ·refine Za (W slots 0 4) ?_
      rw [Xa c2.1,Xa c2.2];simp only [Yi,Xe];refine Za Z ?_;rw [w64 (n:=steps+slots) (by omega) (by omega)]
      by_cases c3:((Zb w).length:Int)=steps+slots
      ·rw [show (((Zb w).length:Int)==steps+slots)=true by simpa using c3,Xe]
       by_cases c4:mem.length=32
       ·rw [show ((mem.length:Int)==32)=true by simp;omega,Xe]
        refine Za (W part 0 2) ?_
        by_cases c5:0≤part∧part≤2
        ·rw [Xa c5.1,Xa c5.2]
         simp only [Yi,Xe]
         have tail:((Zcb moves 0 40).bind fun v14=>bif v14 then bif moves==0 then some true else some (op==5) else some false)=some (decide ((0≤moves∧moves≤40)∧(moves=0∨op=5))):=by
          refine Za (W moves 0 40) ?_
          by_cases c6:0≤moves∧moves≤40
          ·rw [Xa c6.1,Xa c6.2]
           simp only [Yi,Xe]
           by_cases c7:moves=0
           ·rw [show (moves==0)=true by simpa using c7,Xa ⟨c6,.inl c7⟩]
            rfl
           ·rw [show (moves==0)=false by simpa using c7,Xf]
            congr 1;rw [Zjh];exact decide_eq_decide.2 ⟨fun q=>⟨c6,.inr q⟩,fun q=>q.2.resolve_left c7⟩
          ·rw [two c6,Xb (fun q=>c6 q.1)]
           rfl
         by_cases c7:part=0
         ·rw [show (part==0)=true by simpa using c7,Xe]
          refine tail.trans ?_;congr 1;exact decide_eq_decide.2 ⟨fun q=>⟨c1,c2,c3,c4,c5,q.1,.inl c7,q.2⟩,fun q=>⟨q.2.2.2.2.2.1,q.2.2.2.2.2.2.2⟩⟩
         ·rw [show (part==0)=false by simpa using c7,Xf]
          by_cases c8:op=4
          ·rw [show (op==4)=true by simpa using c8,Xe]
           refine tail.trans ?_;congr 1;exact decide_eq_decide.2 ⟨fun q=>⟨c1,c2,c3,c4,c5,q.1,.inr c8,q.2⟩,fun q=>⟨q.2.2.2.2.2.1,q.2.2.2.2.2.2.2⟩⟩
          ·rw [show (op==4)=false by simpa using c8,Xb (fun q=>q.2.2.2.2.2.2.1.elim c7 c8)]
           rfl
        ·rw [two c5,Xb (fun q=>c5 q.2.2.2.2.1)]
         rfl
       ·rw [show ((mem.length:Int)==32)=false by simp;omega,Xb (fun q=>c4 q.2.2.2.1)]
        rfl
      ·rw [show (((Zb w).length:Int)==steps+slots)=false by simpa using c3,Xb (fun q=>c3 q.2.2.1)]
       rfl
     ·refine Za (W slots 0 4) ?_
      rw [two c2,Xb (fun q=>c2 q.2.1)];rfl
    ·refine Za (W steps 1 20) ?_
     rw [two c1,Xb (fun q=>c1 q.1)];rfl
  ·rw [show (((v &&& w:Nat):Int) != 0)=true by simp;omega,Xb h2]
   rfl
 ·rw [Yba.2 h1]
  rfl
theorem Zpkb {v n:Nat}:((n:Nat):Int)∈Zb v ↔ n<24∧v.testBit n=true:=by
 unfold Zb Ztb
 rw [Yka]
 constructor
 ·rintro ⟨m,hm,e⟩
  rw [Yaa,Yo] at hm;have:m=n:=by omega
  rwa [this] at hm
 ·intro h
  exact ⟨n,by rw [Yaa,Yo];exact h,rfl⟩
def Ztf (r:Int×Int×Int×Int×Int×Int×Int×Str):Str:=Zj r.1++Zj r.2.1++Zj r.2.2.1++Zj r.2.2.2.1++Zj r.2.2.2.2.1++Zj r.2.2.2.2.2.1++Zj r.2.2.2.2.2.2.1++Znb r.2.2.2.2.2.2.2
def Zfp (s:Str):Option (Int×Int×Int×Int×Int×Str×Nat×Nat):=match stZ s with
 | some (r,d)=>if d=s.length∧(0≤r.2.2.2.2.2.1∧r.2.2.2.2.2.1<16777216)∧(0≤r.2.2.2.2.2.2.1∧r.2.2.2.2.2.2.1<16777216)∧Zpf r.1 r.2.1 r.2.2.1 r.2.2.2.1 r.2.2.2.2.1 r.2.2.2.2.2.2.2 r.2.2.2.2.2.1.toNat r.2.2.2.2.2.2.1.toNat=true
  then some (r.1,r.2.1,r.2.2.1,r.2.2.2.1,r.2.2.2.2.1,r.2.2.2.2.2.2.2,r.2.2.2.2.2.1.toNat,r.2.2.2.2.2.2.1.toNat) else none
 | none=>none
theorem Zjjb (s:Str) (hs:s.length≤8000):Zc fun k=>Zjo k s=some (match Zfp s with
  | some (a,b,c,d,e,m,v,w)=>(a,b,c,d,e,m,Zb v,Zb w,true)
  | none=>(0,0,0,0,0,[],[],[],false)):=by
 obtain ⟨v1,v2,v3,v4,v5,v6,v7,v8,hE,hc⟩:=Z9ib s hs
 refine (hE.and (Zc.ge 100 fun k hk=>hk)).mono fun k ⟨⟨q1,q2,q3,q4,q5,q6,q7,q8⟩,hk⟩=>?_
 unfold Zjo
 refine Za q1 (Za q2 (Za q3 (Za q4 (Za q5 (Za q6 (Za q7 (Za q8 ?_)))))))
 unfold Zfp
 rcases hc with ⟨d,hz,h8⟩ | ⟨hz,h8⟩
 ·rw [hz,h8]
  simp only [Yx]
  by_cases hd:d=s.length
  ·rw [show (((d:Nat):Int) != (s.length:Int))=false by rw [hd];simp,Xf]
   have W:∀a b c:Int,Zcb a b c=some (decide (b≤a)&&decide (a≤c)):=fun _ _ _=>rfl
   refine Za (W _ _ _) ?_
   by_cases c6:0≤v6.1∧v6.1<16777216
   ·rw [Xa c6.1,Xa (by omega:v6.1≤16777215)]
    simp only [Yi,Yd,Xf];refine Za (W _ _ _) ?_
    by_cases c7:0≤v7.1∧v7.1<16777216
    ·rw [Xa c7.1,Xa (by omega:v7.1≤16777215)]
     simp only [Yi,Yd,Xf];have f6:=Z9w v6.1.toNat (by omega) k (by omega);have f7:=Z9w v7.1.toNat (by omega) k (by omega);rw [Yda c6.1] at f6;rw [Yda c7.1] at f7;refine Za f6 (Za f7 (Za (Zxib v1.1 v2.1 v3.1 v4.1 v5.1 v8.1 v6.1.toNat v7.1.toNat (by omega) (by omega) k (by omega)) ?_));cases hb:Zpf v1.1 v2.1 v3.1 v4.1 v5.1 v8.1 v6.1.toNat v7.1.toNat with
     | true=>
      rw [Xc ⟨hd,c6,c7,rfl⟩];rfl
     | false=>
      rw [Xd (fun q=>by cases q.2.2.2)];rfl
    ·rw [Xd (fun q=>c7 q.2.2.1)]
     by_cases z:0≤v7.1
     ·rw [Xa z,Xb (by omega:¬v7.1≤16777215)];rfl
     ·rw [Xb z];rfl
   ·rw [Xd (fun q=>c6 q.2.1)]
    by_cases z:0≤v6.1
    ·rw [Xa z,Xb (by omega:¬v6.1≤16777215)];rfl
    ·rw [Xb z];rfl
  ·rw [show (((d:Nat):Int) != (s.length:Int))=true by simp;omega,Xd (fun q=>hd q.1)]
   rfl
 ·rw [hz,h8]
  rfl
theorem Zrp:Zb 0=[]:=by decide
theorem Zbs {n:Nat} (h:n<16777216):Num (n:Int):=⟨by omega,by omega⟩
theorem sL12 (op part steps slots moves:Int) (mem:Str) (v w:Nat) (h1:Num op) (h2:Num part) (h3:Num steps) (h4:Num slots) (h5:Num moves) (hv:v<16777216) (hw:w<16777216) (hm:mem.length≤8000):
  Zc fun k=>Zep k (stT op part steps slots moves mem v w)=some (Ztf (op,part,steps,slots,moves,(v:Int),(w:Int),mem)):=by
 have l1:=Zhe op
 have l2:=Zhe part
 have l3:=Zhe steps
 have l4:=Zhe slots
 have l5:=Zhe moves
 have l6:=Zhe (v:Int)
 have l7:=Zhe (w:Int)
 have l8:=Ztl mem
 refine (((((((((Z1m op h1).and (Z1m part h2)).and (Z1m steps h3)).and (Z1m slots h4)).and (Z1m moves h5)).and (Z1m (v:Int) (Zbs hv))).and (Z1m (w:Int) (Zbs hw))).and (Zgcb mem hm)).and (Zc.ge 100 fun k hk=>hk)).mono fun k ⟨⟨⟨⟨⟨⟨⟨⟨q1,q2⟩,q3⟩,q4⟩,q5⟩,q6⟩,q7⟩,q8⟩,hk⟩=>?_
 unfold Zep stT
 refine Za q1 (Za q2 (Za (Zjf (by omega)) (Za q3 (Za (Zjf (by simp;omega)) (Za q4 (Za (Zjf (by simp;omega)) (Za q5 (Za (Zjf (by simp;omega)) ?_))))))))
 refine Za (Z7bb v hv k (by omega)) (Za q6 (Za (Zjf (by simp;omega)) (Za (Z7bb w hw k (by omega)) (Za q7 (Za (Zjf (by simp;omega)) (Za q8 (Za (Zjf (by simp;omega)) rfl)))))))
abbrev StV:=Int×Int×Int×Int×Int×Str×Nat×Nat
def stM (m:Zp):Option StV:=if (1≤m.1∧m.1≤8)∧Z0f m.2=true∧(m.2.1.length:Int)=m.1+27 then (if (Zm m.2).2.2.1=0 then Zfp (Zm m.2).2.1 else none) else none
theorem Zskb (f:Zy):(Zm f).2.1.length≤80:=by
 unfold Zm
 split
 ·exact Zbab _
 ·split
  ·exact Zbab _
  ·simp
theorem Z99 (f:Zy):(Zm f).2.2.2<0 ↔ (Zm f).2.2.1≠0:=by
 unfold Zm
 split
 ·rename_i h
  simp [h.1]
 ·split
  ·rename_i h
   simp [h]
  ·simp
def Z6x:Option StV→Int×Int×Int×Int×Int×Str×List Int×List Int×Bool
 | some (a,b,c,d,e,m,v,w)=>(a,b,c,d,e,m,Zb v,Zb w,true)
 | none=>(0,0,0,0,0,[],[],[],false)
theorem Zvr (m:Zp) (hl:m.2.1.length≤1048576) (hl2:m.2.2.length≤1048576):Zc fun k=>Zsf k m=some (Z6x (stM m)):=by
 have hb:Z8i m.1=some (decide (1≤m.1)&&decide (m.1≤8)):=rfl
 unfold stM
 by_cases c1:1≤m.1∧m.1≤8
 ·cases c2:Z0f m.2 with
  | false=>
   refine (Zc.ge 1048577 fun k hk=>hk).mono fun k hk=>?_
   unfold Zsf;refine Za hb ?_;rw [Xa c1.1,Xa c1.2];refine Za (Zs1 m.2 hl hl2 hk) ?_;rw [c2,Xd (fun q=>by cases q.2.1)];rfl
  | true=>
   have hz:Zqg m.2.1=some (m.2.1.length:Int):=rfl;have hw:Yr .i64 ((Yr .i64 (3+m.1))+24)=m.1+27:=by rw [w64 (n:=3+m.1) (by omega) (by omega),w64 (by omega) (by omega)];omega
   by_cases c3:(m.2.1.length:Int)=m.1+27
   ·refine (((Zw1 c2 (by omega)).and (Zjjb (Zm m.2).2.1 (by have:=Zskb m.2;omega))).and (Zc.ge 1048577 fun k hk=>hk)).mono fun k ⟨⟨h1,h2⟩,hk⟩=>?_
    unfold Zsf;refine Za hb ?_;rw [Xa c1.1,Xa c1.2];refine Za (Zs1 m.2 hl hl2 hk) ?_;rw [c2,Yd,Xf];refine Za hz ?_;rw [hw,show ((m.2.1.length:Int) != m.1+27)=false by simpa using c3,Xc ⟨c1,rfl,c3⟩];refine Za h1 ?_
    by_cases c4:(Zm m.2).2.2.1=0
    ·rw [Xc c4,Xb (fun q=>(Z99 m.2).1 q c4)]
     refine Za h2 ?_;cases Zfp (Zm m.2).2.1 <;> rfl
    ·rw [Xd c4,Xa ((Z99 m.2).2 c4)]
     rfl
   ·refine (Zc.ge 1048577 fun k hk=>hk).mono fun k hk=>?_
    unfold Zsf;refine Za hb ?_;rw [Xa c1.1,Xa c1.2];refine Za (Zs1 m.2 hl hl2 hk) ?_;rw [c2,Yd,Xf];refine Za hz ?_;rw [hw,show ((m.2.1.length:Int) != m.1+27)=true by simpa using c3,Xd (fun q=>c3 q.2.2)];rfl
 ·refine Zc.of fun k=>?_
  unfold Zsf;refine Za hb ?_
  have:(decide (1≤m.1)&&decide (m.1≤8))=false:=by
   rw [Y2,decide_eq_false_iff_not,decide_eq_false_iff_not];exact Classical.not_and_iff_not_or_not.1 c1
  rw [this,Xd (fun q=>c1 q.1)];rfl
def Zpd (m:Zp):List Str:=(Yb m.1.toNat).map fun (i:Nat)=>Zk m.2 (3+(i:Int))
theorem Zvlb {α:Type} (f:Nat→α) (i:Nat):(Yb (i+1)).map f=(Yb i).map f++[f i]:=by
 rw [Yma,Yxa]
 rfl
theorem Z7w {m:Zp} (h1:0≤m.1∧m.1≤8) (hl:m.1+3≤(m.2.1.length:Int)) (hl2:m.2.2.length≤1048576) {k:Nat} (hk:1048577≤k):Zdd k m=some (Zpd m):=by
 have h:=Zbc (fun j i=>Zdd.l0 k j m.1 m.2.1 m.2.2 m.1 (i:Int) ((Yb i).map fun (i:Nat)=>Zk m.2 (3+(i:Int)))) m.1.toNat (Zpd m) (fun i hi j=>?_) (fun j=>?_) k (by omega)
 ·have h:Zdd.l0 k k m.1 m.2.1 m.2.2 m.1 0 []=some (Zpd m):=h
  unfold Zdd;exact Za h rfl
 ·have r:Zlf k (m.2.1,m.2.2) (3+(i:Int))=some (Zk m.2 (3+(i:Int))):=Zvn m.2 _ hl2 (by omega) (by omega) (by omega)
  conv=>lhs;unfold Zdd.l0
  rw [Xa (by omega:(i:Int)<m.1),w64 (n:=3+(i:Int)) (by omega) (by omega),Zs (by omega),Xe];refine Za r (Za (Zlb (by simp;omega)) ?_);rw [Zvlb]
 ·conv=>lhs;unfold Zdd.l0
  rw [Xb (by omega:¬((m.1.toNat:Nat):Int)<m.1)];rfl
theorem Z04 (t:Str) (h:t.length≤8000) (s:Str) (a:Nat) (r:Str) (hs:s.drop a=Znb t++r):Z0g s a=(t,((a+(Znb t).length:Nat):Int),0):=by
 unfold Znb at hs
 rw [Yy] at hs
 have e:=Z2w (t.length:Int) ⟨by omega,by omega⟩ s a (t++r) hs
 have hlen:=congrArg Yga hs
 rw [Ywa,Yn,Yn] at hlen
 have hp:=Zqlb (t.length:Int)
 unfold Z0g
 rw [e]
 simp only [if_true]
 rw [Xc ⟨by omega,by omega⟩,Xd (by omega)]
 have e1:(((a+(Zj (t.length:Int)).length:Nat):Int)+(t.length:Int)).toNat=a+(Zj (t.length:Int)).length+t.length:=by omega
 rw [e1,Yh,List.drop_take,Nat.add_sub_cancel_left,← Y5,hs,Y6,List.take_left]
 unfold Znb
 rw [Yn]
 congr 2
 push_cast
 omega
theorem Zd3 (n:Int) (h:Num n) (s:Str) (a:Nat) (t:Str) (hs:s.drop a=Zj n++t):Zfc s a=(n,s,((a+(Zj n).length:Nat):Int),false):=by
 unfold Zfc
 rw [Z2w n h s a t hs]
 rfl
theorem Z8ab (x y z:Int) (t:Str) (hx:Num x) (hy:Num y) (hz:Num z) (ht:t.length≤8000):Zhs (Zj x++Zj y++Zj z++Znb t)=some (x,y,z,t,(Zj x++Zj y++Zj z++Znb t).length):=by
 generalize hs:Zj x++Zj y++Zj z++Znb t=s
 have d0:s.drop 0=Zj x++(Zj y++Zj z++Znb t):=by rw [← hs];simp
 have n1:=Zd3 x hx s 0 _ d0
 rw [Yab] at n1
 have d1:s.drop (Zj x).length=Zj y++(Zj z++Znb t):=by rw [← hs];simp
 have n2:=Zd3 y hy s _ _ d1
 have d2:s.drop ((Zj x).length+(Zj y).length)=Zj z++Znb t:=by rw [← hs,← Yn];simp
 have n3:=Zd3 z hz s _ _ d2
 have d3:s.drop ((Zj x).length+(Zj y).length+(Zj z).length)=Znb t++[]:=by rw [← hs,← Yn,← Yn];simp
 have n4:=Z04 t ht s _ _ d3
 have n4':Z5f s ((Zj x).length+(Zj y).length+(Zj z).length)=(t,s,(((Zj x).length+(Zj y).length+(Zj z).length+(Znb t).length:Nat):Int),false):=by
  unfold Z5f;rw [n4];rfl
 have hl:s.length=(Zj x).length+(Zj y).length+(Zj z).length+(Znb t).length:=by rw [← hs];simp only [Yn]
 unfold Zhs
 rw [n1]
 simp only [Yh,Y3,if_false]
 rw [n2]
 simp only [Yh,Y3,if_false]
 rw [n3]
 simp only [Yh,Y3,if_false]
 rw [n4']
 simp only [Yh,Y3,if_false]
 rw [hl]
def Z3j (s:Str) (a:Nat):Option ((Int×Int×Int×Str)×Nat):=(Z5b s a).bind fun x=>(Z5b s x.2).bind fun y=>(Z5b s y.2).bind fun z=>(Zug s z.2).map fun t=>((x.1,y.1,z.1,t.1),t.2)
def Zxq (x y z:Int) (t:Str):Str:=Zj x++Zj y++Zj z++Znb t
theorem Zdob {s:Str} {a:Nat} {x y z:Int} {t:Str} {d:Nat} (h:Z3j s a=some ((x,y,z,t),d)):∃b c e,Got s a x b∧Got s b y c∧Got s c z e∧GotT s e t d:=by
 unfold Z3j at h
 obtain ⟨⟨n1,a1⟩,h1,h⟩:=Yoa.1 h
 obtain ⟨⟨n2,a2⟩,h2,h⟩:=Yoa.1 h
 obtain ⟨⟨n3,a3⟩,h3,h⟩:=Yoa.1 h
 obtain ⟨⟨t',d'⟩,h8,h⟩:=Option.map_eq_some_iff.1 h
 cases h
 exact ⟨a1,a2,a3,Zju h1,Zju h2,Zju h3,Zoob h8⟩
theorem Zcob {s:Str} {a:Nat} {x y z:Int} {t:Str} {d:Nat} (h:Z3j s a=some ((x,y,z,t),d)):s.drop a=Zxq x y z t++s.drop d∧d=a+(Zxq x y z t).length∧Num x∧Num y∧Num z∧t.length≤8000∧d≤s.length:=by
 obtain ⟨b,c,e,g1,g2,g3,g4⟩:=Zdob h
 refine ⟨?_,?_,g1.range,g2.range,g3.range,g4.size,g4.le⟩
 ·have h1:=g1.eq
  rw [g2.eq,g3.eq,g4.eq] at h1;unfold Zxq;simp only [Yy];exact h1
 ·have:=g1.at';have:=g2.at';have:=g3.at';have:=g4.at'
  unfold Zxq;simp only [Yn];omega
theorem Znk {s:Str} {a:Nat} {n:Int} (h:Num n) {t:Str} (hs:s.drop a=Zj n++t):Z5b s a=some (n,a+(Zj n).length):=by
 unfold Z5b
 rw [Z2w n h s a t hs]
 rfl
theorem Zddb {s:Str} {a:Nat} {x:Str} (h:x.length≤8000) {t:Str} (hs:s.drop a=Znb x++t):Zug s a=some (x,a+(Znb x).length):=by
 unfold Zug
 rw [Z04 x h s a t hs]
 rfl
theorem Z3y (s:Str) (a:Nat) (ha:a≤s.length) (x y z:Int) (t:Str):Zwi (s.drop a)=some (x,y,z,t) ↔ Z3j s a=some ((x,y,z,t),s.length)∧Zuc x y z t 8=true:=by
 constructor
 ·intro h
  have hr:=Zbob h;unfold Zwi at h;cases hq:Zhs (s.drop a) with
  | none=>rw [hq] at h;cases h
  | some q=>
   obtain ⟨x',y',z',t',d⟩:=q;rw [hq] at h;dsimp only at h;split at h
   ·rename_i hc
    cases h;obtain ⟨b,c,e,g1,g2,g3,g4⟩:=Ztlb hq;have hb:Zxq x y z t=s.drop a:=(Z8hb g1 g2 g3 g4).2 hc.1;refine ⟨?_,hr⟩
    have e0:s.drop a=Zj x++(Zj y++(Zj z++(Znb t++[]))):=by
     rw [← hb];unfold Zxq;simp only [Yy,Yz]
    have n1:=Znk g1.range e0;have e1:s.drop (a+(Zj x).length)=Zj y++(Zj z++(Znb t++[])):=by rw [← Y5,e0,Y6]
    have n2:=Znk g2.range e1;have e2:s.drop (a+(Zj x).length+(Zj y).length)=Zj z++(Znb t++[]):=by rw [← Y5,e1,Y6]
    have n3:=Znk g3.range e2;have e3:s.drop (a+(Zj x).length+(Zj y).length+(Zj z).length)=Znb t++[]:=by rw [← Y5,e2,Y6]
    have n4:=Zddb g4.size e3;have hl:=congrArg Yga e0;simp only [Ywa,Yn,Yia] at hl;unfold Z3j;simp only [n1,n2,n3,n4,Ya,Option.map_some];congr 2;omega
   ·cases h
 ·rintro ⟨h,hr⟩
  obtain ⟨h1,h2,n1,n2,n3,n4,_⟩:=Zcob h;rw [Yea,Yz] at h1;unfold Zwi;rw [h1];have:=Z8ab x y z t n1 n2 n3 n4;unfold Zxq;rw [this];dsimp only;rw [Xc ⟨rfl,hr⟩]
def Z3f (s:Str) (i:Int):Int×Int×Int×Str×Int:=
 if (Zod s).2=0 then match Z5b (Zt s) 0 with
  | some (n,a)=>match Zwi ((Zt s).drop a) with
   | some (x,y,z,t)=>if 0≤n∧n≤1000000 then (if n=i then (x,y,z,t,0) else (0,0,0,[],6)) else (0,0,0,[],3)
   | none=>(0,0,0,[],3)
  | none=>(0,0,0,[],3)
 else (0,0,0,[],(Zod s).2)
theorem Z8ib {s:Str} (hs:s.length≤8000) {st:Str×Int×Bool} {p:Option Nat} (h:StS s st p):∃v:Int×Int×Int×Str×Str×Int×Bool,(Zc fun k=>Zho k st=some v) ∧
  ((∃a q d,p=some a∧Z3j s a=some (q,d)∧v=(q.1,q.2.1,q.2.2.1,q.2.2.2,s,(d:Int),false))∨((∀a,p=some a→Z3j s a=none)∧v.2.2.2.2.2.2=true)):=by
 obtain ⟨v1,e1,h1,g1⟩:=Z7i hs h
 obtain ⟨v2,e2,h2,g2⟩:=Z7i hs h1
 obtain ⟨v3,e3,h3,g3⟩:=Z7i hs h2
 obtain ⟨v4,e4,h4,g4⟩:=Z01 hs h3
 have bad:∀{st:Str×Int×Bool},StS s st none→st.2.2=true:=fun h=>h.2.choose_spec.2.2
 refine ⟨(v1.1,v2.1,v3.1,v4.1,v4.2.1,v4.2.2.1,v4.2.2.2),(((e1.and e2).and e3).and e4).mono fun k ⟨⟨⟨q1,q2⟩,q3⟩,q4⟩=>?_,?_⟩
 ·unfold Zho
  exact Za q1 (Za q2 (Za q3 (Za q4 rfl)))
 clear e1 e2 e3 e4 h h1 h2 h3
 cases p with
 | none=>
  refine .inr ⟨fun a e=>(by cases e),bad (st:=v4.2) ?_⟩;have:Zcc s (Zf s (Zf s (Zf s none)))=none:=rfl
  rwa [this] at h4
 | some a=>
  cases x1:Z5b s a with
  | none=>
   refine .inr ⟨fun a' e=>by cases e;simp [Z3j,x1],bad (st:=v4.2) ?_⟩;have:Zcc s (Zf s (Zf s (Zf s (some a))))=none:=by simp [Zf,Zcc,x1]
   rwa [this] at h4
  | some y1=>
  obtain ⟨n1,a1⟩:=y1;cases x2:Z5b s a1 with
  | none=>
   refine .inr ⟨fun a' e=>by cases e;simp [Z3j,x1,x2],bad (st:=v4.2) ?_⟩;have:Zcc s (Zf s (Zf s (Zf s (some a))))=none:=by simp [Zf,Zcc,x1,x2]
   rwa [this] at h4
  | some y2=>
  obtain ⟨n2,a2⟩:=y2;cases x3:Z5b s a2 with
  | none=>
   refine .inr ⟨fun a' e=>by cases e;simp [Z3j,x1,x2,x3],bad (st:=v4.2) ?_⟩;have:Zcc s (Zf s (Zf s (Zf s (some a))))=none:=by simp [Zf,Zcc,x1,x2,x3]
   rwa [this] at h4
  | some y3=>
  obtain ⟨n3,a3⟩:=y3;cases x4:Zug s a3 with
  | none=>
   refine .inr ⟨fun a' e=>by cases e;simp [Z3j,x1,x2,x3,x4],bad (st:=v4.2) ?_⟩;have:Zcc s (Zf s (Zf s (Zf s (some a))))=none:=by simp [Zf,Zcc,x1,x2,x3,x4]
   rwa [this] at h4
  | some y4=>
   obtain ⟨t,d⟩:=y4;have p1:Zf s (some a)=some a1:=by simp [Zf,x1]
   have p2:Zf s (Zf s (some a))=some a2:=by simp [Zf,x1,x2]
   have p3:Zf s (Zf s (Zf s (some a)))=some a3:=by simp [Zf,x1,x2,x3]
   have p4:Zcc s (Zf s (Zf s (Zf s (some a))))=some d:=by simp [Zf,Zcc,x1,x2,x3,x4]
   have r1:=g1 _ _ _ rfl x1;have r2:=g2 _ _ _ p1 x2;have r3:=g3 _ _ _ p2 x3;have r4:=g4 _ _ _ p3 x4;refine .inl ⟨a,(n1,n2,n3,t),d,rfl,by simp [Z3j,x1,x2,x3,x4],?_⟩;rw [p4] at h4;rcases h4.form with ⟨b,e,_,q⟩ | ⟨b,e,_,q⟩
   ·cases e
    rw [r1,r2,r3,r4,q]
   ·cases e
theorem Zbjb (s:Str) (hs:s.length≤8000) (i:Int):Zc fun k=>Zkl k s i=some (Z3f s i):=by
 unfold Z3f
 by_cases hu:(Zod s).2=0
 ·obtain ⟨e1,e2,e3⟩:=Zcz hu
  have hbl:(Zt s).length≤8000:=by rw [Zbr];omega
  rw [Xc hu];have h0:StS (Zt s) (Zt s,((0:Nat):Int),false) (some 0):=⟨rfl,0,rfl,by omega,rfl,rfl⟩;obtain ⟨v4,q4,h4,g4⟩:=Z7i hbl h0;obtain ⟨v5,q5,c5⟩:=Z8ib hbl h4;refine (((Zwr s (by omega)).and q4).and q5).mono fun k ⟨⟨u,q4⟩,q5⟩=>?_
  unfold Zkl;refine Za u ?_;rw [hu,e1];refine Za q4 (Za q5 ?_);rcases c5 with ⟨a,q,d,hp,hst,hv⟩ | ⟨hno,hv⟩
  ·cases hn:Z5b (Zt s) 0 with
   | none=>simp [Zf,hn] at hp
   | some w=>
    obtain ⟨n,a'⟩:=w;have:a'=a:=by simpa [Zf,hn] using hp
    subst this;have r4:=g4 _ _ _ rfl hn;have hla:=(Zju hn).le;obtain ⟨x,y,z,t⟩:=q;rw [hv,r4];dsimp only;have hT:Zoh n=some (decide (0≤n)&&decide (n≤1000000)):=rfl
    by_cases hd:d=(Zt s).length
    ·rw [show (false||(((d:Nat):Int) != ((Zt s).length:Int)))=false by rw [hd];simp,Xf]
     refine Za hT ?_;cases hb:Zuc x y z t 8 with
     | true=>
      have hso:=(Z3y (Zt s) a' hla x y z t).2 ⟨by rw [hst,hd],hb⟩;rw [hso];dsimp only
      by_cases c:0≤n∧n≤1000000
      ·rw [Xa c.1,Xa c.2,Xc c]
       simp only [Yi,Yd,Xf];refine Za (Zhx x y z t 8 (by omega) (by omega)) ?_;rw [hb];simp only [Yd,Xf]
       by_cases ci:n=i
       ·rw [Xc ci,show (n != i)=false by simpa using ci]
        rfl
       ·rw [Xd ci,show (n != i)=true by simpa using ci]
        rfl
      ·have:(decide (0≤n)&&decide (n≤1000000))=false:=by
        rw [Y2,decide_eq_false_iff_not,decide_eq_false_iff_not];exact Classical.not_and_iff_not_or_not.1 c
       rw [this,Xd c];rfl
     | false=>
      have hso:Zwi ((Zt s).drop a')=none:=by
       cases q:Zwi ((Zt s).drop a') with
       | none=>rfl
       | some r=>
        obtain ⟨x',y',z',t'⟩:=r;obtain ⟨k1,k2⟩:=(Z3y (Zt s) a' hla x' y' z' t').1 q;rw [hst] at k1;cases k1;rw [hb] at k2;cases k2
      rw [hso];dsimp only;cases (decide (0≤n)&&decide (n≤1000000)) with
      | false=>rfl
      | true=>
       simp only [Yd,Xf];refine Za (Zhx x y z t 8 (by omega) (by omega)) ?_;rw [hb];rfl
    ·rw [show (false||(((d:Nat):Int) != ((Zt s).length:Int)))=true by simp;omega]
     have hso:Zwi ((Zt s).drop a')=none:=by
      cases q:Zwi ((Zt s).drop a') with
      | none=>rfl
      | some r=>
       obtain ⟨x',y',z',t'⟩:=r;obtain ⟨k1,k2⟩:=(Z3y (Zt s) a' hla x' y' z' t').1 q;rw [hst] at k1;cases k1;exact absurd rfl hd
     rw [hso];rfl
  ·rw [hv]
   cases hn:Z5b (Zt s) 0 with
   | none=>rfl
   | some w=>
    obtain ⟨n,a⟩:=w;have hla:=(Zju hn).le
    have hso:Zwi ((Zt s).drop a)=none:=by
     cases q:Zwi ((Zt s).drop a) with
     | none=>rfl
     | some r=>
      obtain ⟨x',y',z',t'⟩:=r;obtain ⟨k1,k2⟩:=(Z3y (Zt s) a hla x' y' z' t').1 q;rw [hno a (by simp [Zf,hn])] at k1;cases k1
    dsimp only;rw [hso];rfl
 ·rw [Xd hu]
  refine (Zwr s (by omega)).mono fun k u=>?_
  unfold Zkl;refine Za u ?_;rw [show ((Zod s).2 != 0)=true by simpa using hu];rfl
def Zsi:List Str→Nat→List Zg
 | [],_=>[]
 | s::l,i=>if (Z3f s (i:Int)).2.2.2.2=0 then ((Z3f s (i:Int)).1,(Z3f s (i:Int)).2.1,(Z3f s (i:Int)).2.2.1,(Z3f s (i:Int)).2.2.2.1)::Zsi l (i+1) else []
theorem Zh4:∀(l:List Str) (i:Nat),(Zsi l i).length≤l.length
 | [],_=>Yf _
 | s::l,i=>by
  unfold Zsi;have:=Zh4 l (i+1);split
  ·simp only [Y8];omega
  ·simp
theorem Zqnb (L:Nat→Nat→List Zg→Option (List Zg)) (l:List Str)
  (hs:∀i,(h:i<l.length)→∀acc j,acc.length≤i→L (j+1) i acc=if (Z3f l[i] (i:Int)).2.2.2.2=0 then L j (i+1) (acc++[((Z3f l[i] (i:Int)).1,(Z3f l[i] (i:Int)).2.1,(Z3f l[i] (i:Int)).2.2.1,(Z3f l[i] (i:Int)).2.2.2.1)]) else some acc)
  (he:∀acc j,L (j+1) l.length acc=some acc) {k:Nat} (hk:l.length<k):L k 0 []=some (Zsi l 0):=by
 have key:∀(d i:Nat) (acc:List Zg),i+d=l.length→acc.length≤i→∀j,d<j→L j i acc=some (acc++Zsi (l.drop i) i):=by
  intro d
  induction d with
  | zero=>
   intro i acc hi hacc j hj;obtain ⟨j,rfl⟩:∃q,j=q+1:=⟨j-1,by omega⟩;obtain rfl:i=l.length:=by omega
   rw [he,Yea];simp [Zsi]
  | succ d ih=>
   intro i acc hi hacc j hj;obtain ⟨j,rfl⟩:∃q,j=q+1:=⟨j-1,by omega⟩;have h:i<l.length:=by omega
   rw [hs i h acc j hacc,Ysa h]
   by_cases c:(Z3f l[i] (i:Int)).2.2.2.2=0
   ·rw [Xc c,ih (i+1) _ (by omega) (by simp;omega) j (by omega),Zsi,Xc c,Yy]
    rfl
   ·rw [Xd c,Zsi,Xd c,Yz]
 have:=key l.length 0 [] (Yab _) (by simp) k hk
 rw [this,Yta]
 rfl
theorem Zejb (l:List Str) (hl:l.length≤1000) (hs:∀s∈l,s.length≤8000):Zc fun k=>Zbf k l=some (Zsi l 0):=by
 have hr:Zc fun k=>∀i,i<l.length→∀h:i<l.length,Zkl k l[i] (i:Int)=some (Z3f l[i] (i:Int)):=Zc.all fun i h=>(Zbjb l[i] (hs _ (Yl h)) (i:Int)).mono fun k e h=>e
 refine (hr.and (Zc.ge (l.length+1) fun k hk=>hk)).mono fun k ⟨hr,hk⟩=>?_
 have h:=Zqnb (fun j i acc=>Zbf.l0 k j l (l.length:Int) (i:Int) acc) l (fun i h acc j hacc=>?_) (fun acc j=>?_) (k:=k) (by omega)
 ·have h:Zbf.l0 k k l (l.length:Int) 0 []=some (Zsi l 0):=h
  unfold Zbf;exact Za h rfl
 ·conv=>lhs;unfold Zbf.l0
  rw [dlt h,Zs (by omega),Xe];refine Za (Zh h) (Za (hr i h h) ?_)
  by_cases c:(Z3f l[i] (i:Int)).2.2.2.2=0
  ·rw [Xc c,show ((Z3f l[i] (i:Int)).2.2.2.2 != 0)=false by simpa using c,Xf]
   exact Za (Zlb (by simp;omega)) rfl
  ·rw [Xd c,show ((Z3f l[i] (i:Int)).2.2.2.2 != 0)=true by simpa using c]
   rfl
 ·conv=>lhs;unfold Zbf.l0
  rw [Zbb (Yf _)];rfl
def Zwh (m:Zp) (st:Int) (w:Nat):List Str:=((Zb w).drop st.toNat).map fun x=>Zk m.2 (3+m.1+x)
def Ze (m:Zp) (st:Int) (w:Nat):List Zg:=Zsi (Zwh m st w) 0
theorem Zz5 (m:Zp) (st:Int) (w:Nat):(Zwh m st w).length≤24:=by
 have:=Zyg w
 unfold Zwh
 simp
 omega
theorem Zl2 (m:Zp) (st:Int) (w:Nat):(Ze m st w).length≤24:=Y3a (Zh4 _ _) (Zz5 m st w)
structure Fit (m:Zp) (st:Int) (w:Nat):Prop where
 b:1≤m.1∧m.1≤8
 f:Z0f m.2=true
 n:(m.2.1.length:Int)=m.1+27
 s:0≤st∧st≤((Zb w).length:Int)
theorem Fit.dirt {m:Zp} {st:Int} {w:Nat} (h:Fit m st w):m.2.2.length≤1048576:=by
 have:=(Z4p h.f).1
 omega
theorem Zreb {m:Zp} {st:Int} {w:Nat} (h:Z0f m.2=true):∀s∈Zwh m st w,s.length≤8000:=by
 intro s hs
 unfold Zwh at hs
 obtain ⟨x,_,rfl⟩:=Yka.1 hs
 have:=Znm h (3+m.1+x)
 omega
theorem Zokb {α β:Type} {l:List α} (f:α→β) {i:Nat} (h:i<l.length):(l.take (i+1)).map f=(l.take i).map f++[f l[i]]:=Z9cb f h
theorem Z1t {m:Zp} {w:Nat} (ph tr nd st dn:Int) (dg:Str) (v:List Int) (h:Fit m st w):Zc fun k=>Z1c k m (ph,tr,nd,st,dn,dg,v,Zb w)=some (Ze m st w):=by
 obtain ⟨p,hp⟩:∃p:Nat,st=(p:Int):=⟨st.toNat,by have:=h.s;omega⟩
 subst hp
 have hb:=h.b
 have hn:=h.n
 have hd:=h.dirt
 have hw:=Zyg w
 have hs:p≤(Zb w).length:=by have:=h.s;omega
 refine ((Zejb (Zwh m p w) (by have:=Zz5 m p w;omega) (Zreb h.f)).and (Zc.ge 1048577 fun k hk=>hk)).mono fun k ⟨e,hk⟩=>?_
 have hc:Z3b (Zb w) ((p:Nat):Int) ((Zb w).length:Int)=some ((Zb w).drop p):=by
  have:=Z9f (l:=Zb w) (i:=p) (j:=(Zb w).length) hs (Yf _)
  rwa [Y1] at this
 have run:=Zbc (fun j i=>Z1c.l0 k j m.1 m.2.1 m.2.2 ((Zb w).drop p) (((Zb w).drop p).length:Int) (i:Int) ((((Zb w).drop p).take i).map fun x=>Zk m.2 (3+m.1+x))) ((Zb w).drop p).length (Zwh m p w) (fun i hi j=>?_) (fun j=>?_) k (by simp;omega)
 ·have run:Z1c.l0 k k m.1 m.2.1 m.2.2 ((Zb w).drop p) (((Zb w).drop p).length:Int) 0 []=some (Zwh m p w):=run
  unfold Z1c;exact Za hc (Za run (Za e rfl))
 ·have hx:0≤((Zb w).drop p)[i]∧((Zb w).drop p)[i]≤23:=by
   rw [Yva];exact Z2k (by simp at hi;omega)
  have r:Zfi k (m.1,(m.2.1,m.2.2)) ((Zb w).drop p)[i]=some (Zk m.2 (3+m.1+((Zb w).drop p)[i])):=by
   unfold Zfi Z2g;rw [w64 (n:=3+m.1) (by omega) (by omega),w64 (by omega) (by omega)];exact Za rfl (Za (Zvn m.2 _ hd (by omega) (by omega) (by omega)) rfl)
  conv=>lhs;unfold Z1c.l0
  rw [dlt hi,Zs (by simp at hi;omega),Xe];refine Za (Zh hi) (Za r (Za (Zlb (by simp;omega)) ?_));rw [Zokb _ hi]
 ·conv=>lhs;unfold Z1c.l0
  rw [Zbb (Yf _),Y1];rfl
end Go.Proofs.Qz
