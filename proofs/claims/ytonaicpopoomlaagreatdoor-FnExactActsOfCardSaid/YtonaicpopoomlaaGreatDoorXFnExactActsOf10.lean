/- What the law FnExactActsOf needs, part 11 of 14: the Lean functions of the Go functions that it reaches, with the proofs that the calls come to what they say, and plain facts about them. Conditions: those that each theorem states. Written by a session and by its programs (after the kit's printer). -/
import Derived.Lib.ItoaNum
import Derived.Test.YtonaicpopoomlaaGreatDoorXFnExactActsOf9
open Option renaming bind_some → Ya, some → Ypa, isSome_some → Yab
open List renaming range → Yb, replicate → Yd, getElem_mem → Ye, mem_cons_self → Yi, mem_singleton → Yk, take_length → Yl, all_eq_true → Ym, append_assoc → Yn, length_filter_le → Yo, length_take → Yp, mem_range → Yq, append_nil → Yt, filter_append → Yu, length_cons → Yv, length_replicate → Yw, length_set → Yx, nodup_nil → Yy, length_erase_of_mem → Y0, length_range → Y1, mem_append → Y2, mem_filter → Y3, nodup_append → Y4, nodup_cons → Y5, length_map → Y8, drop_eq_getElem_cons → Yda, drop_zero → Yea, eq_nil_of_length_eq_zero → Yfa, getElem_map → Yga, getElem_of_mem → Yha, getElem_replicate → Yia, getElem_set → Yja, getElem_take → Yka, length_nil → Yla, mem_of_mem_erase → Yma, take → Yna, any_eq_true → Yta, drop_length → Yua, ext_getElem → Yva, filter_cons_of_neg → Ywa, filter_cons_of_pos → Yxa, filter_eq_self → Yya, getElem_range → Yza, length_append → Y0a, map_append → Y1a, mem_append_right → Y2a, mem_map → Y3a, not_all_eq_any_not → Y4a, take_prefix → Y5a, take_sublist → Y6a, take_succ_cons → Y7a
open Nat renaming le_refl → Yc, zero_add → Yj, zero_le → Y6, lt_or_ge → Y9, not_lt_zero → Yaa, sub_self → Yoa, add_zero → Y8a, le_trans → Y9a
open Bool renaming and_eq_true → Yf, not_true → Yh, and_self → Yr, false_ne_true → Ys, true_and → Yz, eq_false_iff → Yba, or_eq_true → Yca, eq_iff_iff → Yqa, or_self → Yra
open Int renaming toNat_natCast → Yg, eq_ofNat_of_zero_le → Ysa
open Go.IntKind renaming wrap → Y7
namespace Go.Proofs.Qz
open Go
set_option linter.unusedVariables false
def Z8f (n:Int) (x:Zk):Bool:=Zbd x.1 x.2.1 x.2.2.1 x.2.2.2 n
theorem Zsib (x:Zk) (n:Int) (h1:1≤n) (h2:n≤8):Zkc x n=some (Z8f n x):=Zqx x.1 x.2.1 x.2.2.1 x.2.2.2 n h1 h2
theorem Zjcb (x:Zk) (n:Int) (h1:1≤n) (h2:n≤8):Zrh x n=some (Z8f n x):=Zez x.1 x.2.1 x.2.2.1 x.2.2.2 n h1 h2
def isW (x:Zk):Bool:=x.1 != 5
def Zg (l:List Zk):List Zk:=l.filter isW
def Zye (l:List Zk):List Int:=(Zg l).map fun x=>x.2.1
def Zsj:Int→List Zk→Bool
 | _,[]=>true
 | a,x::l=>if x.1=5 then decide (a<x.2.2.1)&&Zsj x.2.2.1 l else Zsj a l
def Zbb (l:List Zk) (n:Int):Int:=
 if 20<l.length∨¬(1≤n∧n≤8)∨l.all (Z8f n)=false then 1 else if ¬(Zye l).Nodup then 12 else if Zsj (-1) l then 0 else 8
theorem Z1v {l:List Zk} {i:Nat} (h:i<l.length):Zye (l.take (i+1))=if isW l[i] then Zye (l.take i)++[(l[i]).2.1] else Zye (l.take i):=by
 unfold Zye Zg
 rw [Zth h,Yu,Y1a]
 split
 ·rename_i hw;simp [hw]
 ·rename_i hw;simp [hw]
theorem Ztu {x:Zk} (h:x.1≠5):isW x=true:=by unfold isW;simpa using h
theorem Zsu {x:Zk} (h:x.1=5):isW x=false:=by unfold isW;simp [h]
theorem Zmdb {l:List Zk} (i:Nat):(Zye (l.take i)).Sublist (Zye l):=by
 unfold Zye Zg
 exact (((Y6a i l).filter _).map _)
theorem Zyjb {l:List Zk} {b:Int}:b∈Zye l ↔ ∃x∈l,isW x=true∧x.2.1=b:=by
 unfold Zye Zg
 rw [Y3a]
 constructor
 ·rintro ⟨x,hx,e⟩
  rw [Y3] at hx
  exact ⟨x,hx.1,hx.2,e⟩
 ·rintro ⟨x,h1,h2,e⟩
  exact ⟨x,Y3.2 ⟨h1,h2⟩,e⟩
theorem Zf3 {l:List Zk} {b:Int} {i:Nat}:b∈Zye (l.take i) ↔ ∃j,∃h:j<l.length,j<i∧isW l[j]=true∧(l[j]).2.1=b:=by
 rw [Zyjb]
 constructor
 ·rintro ⟨x,hx,h1,h2⟩
  obtain ⟨j,hj,rfl⟩:=Yha hx
  rw [Yka] at h1 h2
  rw [Yp] at hj
  exact ⟨j,by omega,by omega,h1,h2⟩
 ·rintro ⟨j,h,hji,h1,h2⟩
  refine ⟨l[j],?_,h1,h2⟩
  rw [List.mem_take_iff_getElem]
  exact ⟨j,by omega,rfl⟩
def Zmn (b:Int) (x:Zk):Bool:=isW x&&(x.2.1==b)
def Z2v (l:List Zk) (b:Int):Int:=match Z1b (Zmn b) l 0 with
 | some i=>(i:Int)
 | none=>-1
theorem Zvib (l:List Zk) (b:Int) (hl:l.length≤1048576):∀k,l.length<k→Zvo k l b=some (Z2v l b):=by
 intro k hk
 have run:=Zph (fun j i=>Zwd.l0 j l (l.length:Int) i b) l (Zmn b) (.inl b) (fun i=>.inr ((i:Int),b)) (fun i hi=>by
  have e:Zsq l[i] b=some (Zmn b l[i]):=rfl
  constructor
  ·intro hp j
   show Zwd.l0 (j+1) l (l.length:Int) (i:Int) b=Zwd.l0 j l (l.length:Int) ((i+1:Nat):Int) b
   rw [Zwd.l0]
   rw [dlt hi,Zi hi,Zn (by omega)]
   simp only [cond_true,Ya,e,hp,cond_false]
  ·intro hp j
   show Zwd.l0 (j+1) l (l.length:Int) (i:Int) b=_
   unfold Zwd.l0
   rw [dlt hi,Zi hi]
   simp only [cond_true,Ya,e,hp]) (fun j=>by
  show Zwd.l0 (j+1) l (l.length:Int) (l.length:Int) b=_
  unfold Zwd.l0
  rw [Zy (Yc _)]
  rfl) hk
 have run:Zwd.l0 k l (l.length:Int) 0 b=_:=run
 unfold Zvo Zwd Z2v
 rw [run]
 cases Z1b (Zmn b) l 0 <;> rfl
theorem Zndb {l:List Zk} {i:Nat} (h:i<l.length) (hw:isW l[i]=true):Z2v l (l[i]).2.1<(i:Int) ↔ (l[i]).2.1∈Zye (l.take i):=by
 unfold Z2v
 rw [Zf3]
 cases hf:Z1b (Zmn (l[i]).2.1) l 0 with
 | none=>
  have:=Z7r.1 hf l[i] (Ye h)
  unfold Zmn at this
  rw [hw] at this
  simp at this
 | some m=>
  obtain ⟨_,h2,h3,h4⟩:=Zxm hf
  have h4:∀j,(hj:j<m)→Zmn (l[i]).2.1 (l[j]'(by omega))=false:=h4
  unfold Zmn at h3
  simp only [Yf,beq_iff_eq] at h3
  constructor
  ·intro hm
   have hm:(m:Int)<(i:Int):=hm
   exact ⟨m,h2,by omega,h3.1,h3.2⟩
  ·rintro ⟨j,hj,hji,h5,h6⟩
   show (m:Int)<(i:Int)
   rcases Y9 m i with h | h
   ·omega
   ·have:=h4 j (by omega)
    unfold Zmn at this
    rw [h5,h6] at this
    simp at this
theorem Zjhb (l:List Zk) (n:Int) (h1:1≤n) (h2:n≤8) (hl:l.length≤1048576):∀k,l.length<k→Zkp k l n=some (!(l.all (Z8f n)),n):=by
 intro k hk
 have run:=Zph (fun j i=>Zvd.l0 j l (l.length:Int) i n) l (fun x=>!(Z8f n x)) (.inl n) (fun i=>.inr ((i:Int),n)) (fun i hi=>by
  have e:Zuo l[i] n=some (!(Z8f n l[i])):=by
   unfold Zuo
   rw [Zsib _ _ h1 h2]
   rfl
  constructor
  ·intro hp j
   show Zvd.l0 (j+1) l (l.length:Int) (i:Int) n=Zvd.l0 j l (l.length:Int) ((i+1:Nat):Int) n
   rw [Zvd.l0]
   rw [dlt hi,Zi hi,Zn (by omega)]
   simp only [cond_true,Ya,e,hp,cond_false]
  ·intro hp j
   show Zvd.l0 (j+1) l (l.length:Int) (i:Int) n=_
   unfold Zvd.l0
   rw [dlt hi,Zi hi]
   simp only [cond_true,Ya,e,hp]) (fun j=>by
  show Zvd.l0 (j+1) l (l.length:Int) (l.length:Int) n=_
  unfold Zvd.l0
  rw [Zy (Yc _)]
  rfl) hk
 have run:Zvd.l0 k l (l.length:Int) 0 n=_:=run
 have hany:=Z6r (p:=fun x=>!(Z8f n x)) (l:=l) (n:=0)
 rw [← Y4a] at hany
 unfold Zkp Zvd
 rw [run,← hany]
 cases Z1b (fun x=>!(Z8f n x)) l 0 with
 | none=>rfl
 | some m=>
  simp only [Ya,Yab]
  rw [decide_eq_true (by omega:(0:Int)≤(m:Int))]
theorem Zqhb (l:List Zk) (hl:l.length≤20) (k:Nat) (hk:20<k):∀(d i:Nat) (a:Int) (b:Bool),i+d=l.length→(Zye (l.take i)).Nodup→∀j,d<j →
  Z9c.l0 k j l a b l (l.length:Int) (i:Int)=some (if (Zye l).Nodup then .inl (b&&Zsj a (l.drop i)) else .inr 12):=by
 intro d
 induction d with
 | zero=>
  intro i a b hi hn j hj
  obtain ⟨j,rfl⟩:∃q,j=q+1:=⟨j-1,by omega⟩
  obtain rfl:i=l.length:=by omega
  rw [Yl] at hn
  unfold Z9c.l0
  rw [Zy (Yc _),if_pos hn,Yua]
  simp [Zsj]
 | succ d ih=>
  intro i a b hi hn j hj
  obtain ⟨j,rfl⟩:∃q,j=q+1:=⟨j-1,by omega⟩
  have hlt:i<l.length:=by omega
  rw [Z9c.l0,dlt hlt,Zi hlt,Zn (by omega)]
  simp only [cond_true,Ya]
  rw [Yda hlt]
  by_cases h5:(l[i]).1=5
  ·have hw:=Zsu h5
   have hn2:(Zye (l.take (i+1))).Nodup:=by rw [Z1v hlt,hw];exact hn
   have e:((l[i]).1 != 5)=false:=by simp [h5]
   rw [e]
   simp only [cond_false]
   rw [ih (i+1) _ _ (by omega) hn2 j (by omega)]
   simp only [Zsj,if_pos h5,Bool.and_assoc]
  ·have hw:=Ztu h5
   have e:((l[i]).1 != 5)=true:=by simpa using h5
   rw [e]
   simp only [cond_true]
   rw [Zvib l (l[i]).2.1 (by omega) k (by omega)]
   simp only [Ya]
   by_cases ht:Z2v l (l[i]).2.1<(i:Int)
   ·rw [decide_eq_true ht]
    have hin:=(Zndb hlt hw).1 ht
    have hnd:¬(Zye l).Nodup:=by
     intro hnd
     have h3:=(Zmdb (l:=l) (i+1)).nodup hnd
     rw [Z1v hlt,hw] at h3
     simp only [if_true] at h3
     exact (Y4.1 h3).2.2 _ hin _ (Yk.2 rfl) rfl
    rw [if_neg hnd]
    rfl
   ·rw [decide_eq_false ht]
    have hn2:(Zye (l.take (i+1))).Nodup:=by
     rw [Z1v hlt,hw]
     refine Y4.2 ⟨hn,Y5.2 ⟨(fun h=>nomatch h),Yy⟩,fun x hx y hy e=>?_⟩
     rw [Yk.1 hy] at e
     subst e
     exact ht ((Zndb hlt hw).2 hx)
    simp only [cond_false]
    rw [ih (i+1) _ _ (by omega) hn2 j (by omega)]
    simp only [Zsj,if_neg h5]
theorem Zrx (l:List Zk) (n:Int) (hl:l.length≤1048576):Ze fun k=>Z9c k l n=some (Zbb l n):=by
 refine Ze.ge (l.length+30) fun k hk=>?_
 unfold Z9c Zmj Zeb Zbb
 simp only [Ya]
 by_cases hb:1≤n∧n≤8
 ·rw [decide_eq_true hb.1,decide_eq_true hb.2]
  by_cases h20:20<l.length
  ·rw [decide_eq_true (by omega:(20:Int)<(l.length:Int)),if_pos (.inl h20)]
   rfl
  ·rw [decide_eq_false (by omega:¬((20:Int)<(l.length:Int))),Zjhb l n hb.1 hb.2 hl k (by omega)]
   simp only [Yr,Yh,Bool.or_false,cond_false,Ya]
   cases ha:l.all (Z8f n) with
   | false=>rw [if_pos (.inr (.inr rfl))];rfl
   | true=>
    rw [if_neg (by rintro (h | h | h);exact h20 h;exact h hb;cases h)]
    simp only [Yh,cond_false]
    have run:=Zqhb l (by omega) k (by omega) l.length 0 (-1) true (Yj _) Yy k (by omega)
    rw [Yea,Yz] at run
    have run:Z9c.l0 k k l (-1) true l (l.length:Int) 0=_:=run
    rw [run]
    by_cases hd:(Zye l).Nodup
    ·rw [if_pos hd,if_neg (not_not_intro hd)]
     cases Zsj (-1) l <;> rfl
    ·rw [if_neg hd,if_pos hd]
     rfl
 ·have e:(!(decide (1≤n)&&decide (n≤8))||decide ((20:Int)<(l.length:Int)))=true:=by
   rw [show (decide (1≤n)&&decide (n≤8))=false by rw [Yba,Ne,Yf,decide_eq_true_eq,decide_eq_true_eq];exact hb]
   rfl
  rw [e,if_pos (.inr (.inl hb))]
  rfl
theorem Zmlb (l:List Zk) (i:Nat) (hi:i<l.length) (hl:l.length≤1048576):∀(d c j:Nat),(hc:c+d=i)→d<j→(∀q,(hq:q<c)→isW l[i]=true→isW (l[q]'(by omega))=true→(l[q]'(by omega)).2.1≠(l[i]).2.1) →
  Zp.l1 j l (i:Int) (c:Int)=some (if isW l[i]=true∧(l[i]).2.1∈Zye (l.take i) then .inr 12 else .inl ()):=by
 intro d
 induction d with
 | zero=>
  intro c j hc hj hq
  obtain ⟨j,rfl⟩:∃q,j=q+1:=⟨j-1,by omega⟩
  obtain rfl:c=i:=by omega
  unfold Zp.l1
  rw [Zy (Yc _),if_neg]
  ·rfl
  ·rintro ⟨h1,h2⟩
   obtain ⟨q,hq1,hq2,hq3,hq4⟩:=Zf3.1 h2
   exact hq q hq2 h1 hq3 hq4
 | succ d ih=>
  intro c j hc hj hq
  obtain ⟨j,rfl⟩:∃q,j=q+1:=⟨j-1,by omega⟩
  have hcl:c<l.length:=by omega
  rw [Zp.l1,dlt (by omega:c<i),Zi hi,Zi hcl,Zn (by omega)]
  simp only [cond_true,Ya]
  have go:(isW l[i]=true→isW l[c]=true→(l[c]).2.1≠(l[i]).2.1)→Zp.l1 j l (i:Int) ((c+1:Nat):Int)=some (if isW l[i]=true∧(l[i]).2.1∈Zye (l.take i) then .inr 12 else .inl ()):=fun h=>by
   refine ih (c+1) j (by omega) (by omega) fun q hqc h1 h2=>?_
   rcases Y9 q c with h3 | h3
   ·exact hq q h3 h1 h2
   ·obtain rfl:q=c:=by omega
    exact h h1 h2
  by_cases h5:(l[i]).1=5
  ·rw [show ((l[i]).1 != 5)=false by simp [h5]]
   simp only [cond_false]
   exact go fun h1=>by rw [Zsu h5] at h1;cases h1
  ·rw [show ((l[i]).1 != 5)=true by simpa using h5]
   simp only [cond_true]
   by_cases h6:(l[c]).1=5
   ·rw [show ((l[c]).1 != 5)=false by simp [h6]]
    simp only [cond_false]
    exact go fun _ h1=>by rw [Zsu h6] at h1;cases h1
   ·rw [show ((l[c]).1 != 5)=true by simpa using h6]
    simp only [cond_true]
    by_cases h7:(l[i]).2.1=(l[c]).2.1
    ·rw [show ((l[i]).2.1==(l[c]).2.1)=true by simpa using h7,if_pos ⟨Ztu h5,Zf3.2 ⟨c,hcl,by omega,Ztu h6,h7.symm⟩⟩]
     rfl
    ·rw [show ((l[i]).2.1==(l[c]).2.1)=false by simpa using h7]
     simp only [cond_false]
     exact go fun _ _ e=>h7 e.symm
theorem Znlb (l:List Zk) (hl:l.length≤20) (k:Nat) (hk:20<k):∀(d i:Nat),i+d=l.length→(Zye (l.take i)).Nodup→∀j,d<j →
  Zp.l2 k j l (i:Int)=some (if (Zye l).Nodup then .inl () else .inr 12):=by
 intro d
 induction d with
 | zero=>
  intro i hi hn j hj
  obtain ⟨j,rfl⟩:∃q,j=q+1:=⟨j-1,by omega⟩
  obtain rfl:i=l.length:=by omega
  rw [Yl] at hn
  unfold Zp.l2
  rw [Zy (Yc _),if_pos hn]
  rfl
 | succ d ih=>
  intro i hi hn j hj
  obtain ⟨j,rfl⟩:∃q,j=q+1:=⟨j-1,by omega⟩
  have hlt:i<l.length:=by omega
  rw [Zp.l2,dlt hlt,Zn (by omega)]
  have run:=Zmlb l i hlt (by omega) i 0 k (Yj _) (by omega) (fun q hq=>by omega)
  have run:Zp.l1 k l (i:Int) 0=_:=run
  simp only [cond_true]
  rw [run]
  by_cases h:isW l[i]=true∧(l[i]).2.1∈Zye (l.take i)
  ·rw [if_pos h]
   have hnd:¬(Zye l).Nodup:=by
    intro hnd
    have h3:=(Zmdb (l:=l) (i+1)).nodup hnd
    rw [Z1v hlt,h.1] at h3
    simp only [if_true] at h3
    exact (Y4.1 h3).2.2 _ h.2 _ (Yk.2 rfl) rfl
   rw [if_neg hnd]
   rfl
  ·rw [if_neg h]
   simp only [Ya]
   refine ih (i+1) (by omega) ?_ j (by omega)
   rw [Z1v hlt]
   split
   ·rename_i hw
    refine Y4.2 ⟨hn,Y5.2 ⟨(fun h=>nomatch h),Yy⟩,fun x hx y hy e=>?_⟩
    rw [Yk.1 hy] at e
    subst e
    exact h ⟨hw,hx⟩
   ·exact hn
theorem Zolb (l:List Zk) (hl:l.length≤20):∀(d i:Nat) (a:Int),i+d=l.length→∀j,d<j →
  Zp.l3 j l a (i:Int)=some (if Zsj a (l.drop i) then .inl () else .inr 8):=by
 intro d
 induction d with
 | zero=>
  intro i a hi j hj
  obtain ⟨j,rfl⟩:∃q,j=q+1:=⟨j-1,by omega⟩
  obtain rfl:i=l.length:=by omega
  unfold Zp.l3
  rw [Zy (Yc _),Yua]
  rfl
 | succ d ih=>
  intro i a hi j hj
  obtain ⟨j,rfl⟩:∃q,j=q+1:=⟨j-1,by omega⟩
  have hlt:i<l.length:=by omega
  rw [Zp.l3,dlt hlt,Zi hlt,Zn (by omega)]
  simp only [cond_true,Ya]
  rw [Yda hlt]
  by_cases h5:(l[i]).1=5
  ·rw [show ((l[i]).1 != 5)=false by simp [h5]]
   simp only [cond_false,Zsj,if_pos h5]
   by_cases h6:a<(l[i]).2.2.1
   ·rw [decide_eq_false (by omega:¬((l[i]).2.2.1≤a)),decide_eq_true h6,Yz]
    exact ih (i+1) _ (by omega) j (by omega)
   ·rw [decide_eq_true (by omega:(l[i]).2.2.1≤a),decide_eq_false h6]
    rfl
  ·rw [show ((l[i]).1 != 5)=true by simpa using h5]
   simp only [cond_true,Zsj,if_neg h5]
   exact ih (i+1) _ (by omega) j (by omega)
theorem Zllb (l:List Zk) (n:Int) (h1:1≤n) (h2:n≤8) (hl:l.length≤20):∀k,20<k→Zp.l0 k l n 0=some (if l.all (Z8f n) then .inl () else .inr 1):=by
 intro k hk
 have run:=Zph (fun j i=>Zp.l0 j l n i) l (fun x=>!(Z8f n x)) (.inl ()) (fun i=>.inr 1) (fun i hi=>by
  constructor
  ·intro hp j
   show Zp.l0 (j+1) l n (i:Int)=Zp.l0 j l n ((i+1:Nat):Int)
   rw [Zp.l0,dlt hi,Zi hi,Zn (by omega)]
   simp only [cond_true,Ya]
   rw [Zjcb _ _ h1 h2]
   simp only [Ya,hp,cond_false]
  ·intro hp j
   show Zp.l0 (j+1) l n (i:Int)=_
   unfold Zp.l0
   rw [dlt hi,Zi hi]
   simp only [cond_true,Ya]
   rw [Zjcb _ _ h1 h2]
   simp only [Ya,hp,cond_true]) (fun j=>by
  show Zp.l0 (j+1) l n (l.length:Int)=_
  unfold Zp.l0
  rw [Zy (Yc _)]
  rfl) (by omega:l.length<k)
 have run:Zp.l0 k l n 0=_:=run
 have hany:=Z6r (p:=fun x=>!(Z8f n x)) (l:=l) (n:=0)
 rw [← Y4a] at hany
 rw [run]
 cases hf:Z1b (fun x=>!(Z8f n x)) l 0 with
 | none=>
  rw [hf] at hany
  have:l.all (Z8f n)=true:=by simpa using hany.symm
  rw [this]
  rfl
 | some m=>
  rw [hf] at hany
  have:l.all (Z8f n)=false:=by simpa using hany.symm
  rw [this]
  rfl
theorem Zfz (l:List Zk) (n:Int) (hl:l.length≤1048576):Ze fun k=>Zp k l n=some (Zbb l n):=by
 refine Ze.ge 30 fun k hk=>?_
 unfold Zp Zib Zbb
 simp only [Ya]
 by_cases h20:20<l.length
 ·rw [decide_eq_true (by omega:(20:Int)<(l.length:Int)),if_pos (.inl h20)]
  rfl
 rw [decide_eq_false (by omega:¬((20:Int)<(l.length:Int)))]
 simp only [cond_false]
 by_cases hb:1≤n∧n≤8
 ·rw [decide_eq_true hb.1,decide_eq_true hb.2,Zllb l n hb.1 hb.2 (by omega) k (by omega)]
  simp only [Yr,Yh,cond_false]
  cases ha:l.all (Z8f n) with
  | false=>simp only [Bool.false_eq_true,if_false];rw [if_pos (.inr (.inr True.intro))];rfl
  | true=>
   simp only [if_true,Ya]
   rw [if_neg (by rintro (h | h | h);exact h20 h;exact h hb;cases h)]
   have r2:=Znlb l (by omega) k (by omega) l.length 0 (Yj _) Yy k (by omega)
   have r2:Zp.l2 k k l 0=_:=r2
   have r3:=Zolb l (by omega) l.length 0 (-1) (Yj _) k (by omega)
   rw [Yea] at r3
   have r3:Zp.l3 k l (-1) 0=_:=r3
   rw [r2]
   by_cases hd:(Zye l).Nodup
   ·rw [if_pos hd,if_neg (not_not_intro hd)]
    simp only [Ya]
    rw [r3]
    cases Zsj (-1) l <;> rfl
   ·rw [if_neg hd,if_pos hd]
    rfl
 ·have e:(decide (1≤n)&&decide (n≤8))=false:=by rw [Yba,Ne,Yf,decide_eq_true_eq,decide_eq_true_eq];exact hb
  rw [e,if_pos (.inr (.inl hb))]
  rfl
theorem Zvf {l:List Zk} {n:Int} (h:Zbb l n=0):l.length≤20∧1≤n∧n≤8∧(∀x∈l,Z8f n x=true)∧(Zye l).Nodup∧Zsj (-1) l=true:=by
 unfold Zbb at h
 split at h
 ·cases h
 ·rename_i h1
  split at h
  ·cases h
  ·rename_i h2
   split at h
   ·rename_i h3
    have h1a:¬20<l.length:=fun q=>h1 (.inl q)
    have h1b:1≤n∧n≤8:=Decidable.not_not.1 fun q=>h1 (.inr (.inl q))
    have h1c:l.all (Z8f n)=true:=by
     cases ha:l.all (Z8f n) with
     | true=>rfl
     | false=>exact absurd (.inr (.inr ha)) h1
    exact ⟨by omega,h1b.1,h1b.2,fun x hx=>Ym.1 h1c x hx,Decidable.not_not.1 h2,h3⟩
   ·cases h
end Go.Proofs.Qz
namespace Go.Proofs.Qz
open Go
set_option linter.unusedVariables false
abbrev Zqc:=Int×Int×Int×Int
theorem Zx4 (l:List Zk) (hl:l.length≤20):∀k,20<k→Z5c k l=some (Zg l):=by
 intro k hk
 have run:=Zmjb (fun j (s:List Zk) i=>Z5c.l0 j l i s) l (fun s x=>.inl (if isW x then s++[x] else s)) (fun s=>s) (fun i s=>s=Zg (l.take i)) (fun i hi s hs=>by
  refine .inl ⟨_,rfl,?_,fun j=>?_⟩
  ·unfold Zg at hs ⊢
   rw [Zth hi,Yu,hs]
   by_cases hw:isW l[i]=true
   ·rw [if_pos hw];simp [hw]
   ·rw [if_neg hw];simp [hw]
  ·show Z5c.l0 (j+1) l (i:Int) s=Z5c.l0 j l ((i+1:Nat):Int) (if isW l[i] then s++[l[i]] else s)
   have hsl:s.length≤20:=by
    rw [hs]
    refine Y9a (Yo _ _) ?_
    rw [Yp];omega
   rw [Z5c.l0,dlt hi,decide_eq_true (by omega:(l.length:Int)≤20),Zi hi,Zn (by omega)]
   simp only [Yr,cond_true,Ya]
   by_cases h5:(l[i]).1=5
   ·rw [show ((l[i]).1 != 5)=false by simp [h5],Zsu h5]
    rfl
   ·rw [show ((l[i]).1 != 5)=true by simpa using h5,Ztu h5,Zab (by simp;omega)]
    rfl) (fun s hs j=>by
  show Z5c.l0 (j+1) l (l.length:Int) s=some s
  unfold Z5c.l0
  rw [Zy (Yc _)]
  rfl) (s:=[]) rfl (by omega:l.length<k)
 have fold:∀(m s:List Zk),Z5k (fun s x=>.inl (if isW x then s++[x] else s)) (fun s=>s) m s=s++Zg m:=by
  intro m
  induction m with
  | nil=>intro s;simp [Z5k,Zg]
  | cons x m ih=>
   intro s
   rw [Z0kb rfl,ih]
   unfold Zg
   by_cases hw:isW x=true
   ·rw [if_pos hw,Yxa hw];simp
   ·rw [if_neg hw,Ywa hw]
 rw [fold,List.nil_append] at run
 have run:Z5c.l0 k l 0 []=some (Zg l):=run
 unfold Z5c
 rw [run]
 rfl
theorem Zthb (l:List Zk) (hl:l.length≤1048576):∀(d j0:Nat) (c:List Zk),j0+d=l.length→c.length=l.length→c.drop j0=l.drop j0→(Zg (l.take j0)).length≤j0→c.take (Zg (l.take j0)).length=Zg (l.take j0)→(Zg (l.take j0)).length<j0 →
  ∀j,d<j→∃c',Z1f.l0 j ((Zg (l.take j0)).length:Int) (j0:Int) c=some ((((Zg l).length:Nat):Int),c')∧c'.length=l.length∧c'.take (Zg l).length=Zg l:=by
 intro d
 induction d with
 | zero=>
  intro j0 c hj hc hd hle ht hlt j hjj
  obtain ⟨j,rfl⟩:∃q,j=q+1:=⟨j-1,by omega⟩
  obtain rfl:j0=l.length:=by omega
  rw [Yl] at ht ⊢
  refine ⟨c,?_,hc,ht⟩
  unfold Z1f.l0
  rw [Zy (by omega:c.length≤l.length)]
  rfl
 | succ d ih=>
  intro j0 c hj hc hd hle ht hlt j hjj
  obtain ⟨j,rfl⟩:∃q,j=q+1:=⟨j-1,by omega⟩
  have h1:j0<l.length:=by omega
  have h2:j0<c.length:=by omega
  have hcj:c[j0]=l[j0]:=by
   have:=congrArg (fun z=>z[0]?) hd
   simp only [List.getElem?_drop,Y8a] at this
   rw [List.getElem?_eq_getElem h2,List.getElem?_eq_getElem h1] at this
   exact Ypa.inj this
  have hdrop:c.drop (j0+1)=l.drop (j0+1):=by
   have:=congrArg (fun z=>z.drop 1) hd
   simpa [List.drop_drop,Nat.add_comm] using this
  rw [Z1f.l0,dlt h2,Zi h2,Zn (by omega)]
  simp only [cond_true,Ya,Zwk,hcj]
  have htake:Zg (l.take (j0+1))=if isW l[j0] then Zg (l.take j0)++[l[j0]] else Zg (l.take j0):=by
   unfold Zg
   rw [Zth h1,Yu]
   by_cases hw:isW l[j0]=true
   ·rw [if_pos hw];simp [hw]
   ·rw [if_neg hw];simp [hw]
  generalize hW:Zg (l.take j0)=W at ht hle hlt htake ⊢
  by_cases h5:(l[j0]).1=5
  ·rw [show ((l[j0]).1==5)=true by simpa using h5]
   simp only [Yh,cond_false]
   rw [Zsu h5] at htake
   have htake:Zg (l.take (j0+1))=W:=htake
   have:=ih (j0+1) c (by omega) hc hdrop (by rw [htake];omega) (by rw [htake];exact ht) (by rw [htake];omega) j (by omega)
   rw [htake] at this
   exact this
  ·rw [show ((l[j0]).1==5)=false by simpa using h5]
   have hwl:W.length<c.length:=by omega
   rw [Zi hwl,Zn (by omega),Yg]
   simp only [Bool.not_false,cond_true,Ya]
   rw [Ztu h5] at htake
   have htake:Zg (l.take (j0+1))=W++[l[j0]]:=htake
   have hlen:(Zg (l.take (j0+1))).length=W.length+1:=by rw [htake];simp
   have:=ih (j0+1) (c.set W.length l[j0]) (by omega) (by simpa using hc) (by
    rw [List.drop_set_of_lt (by omega)]
    exact hdrop) (by omega) (by
    rw [hlen,htake,List.take_add_one,List.take_set_of_le (Yc _),ht,List.getElem?_set_self (by omega)]
    rfl) (by omega) j (by omega)
   rw [hlen] at this
   exact this
theorem Zsx (l:List Zk) (hl:l.length≤1048576):∀k,l.length<k→Zyi k l=some (Zg l):=by
 intro k hk
 have clone:Z5i l=some l:=by
  unfold Z5i
  rw [Zab (by simp;omega)]
  rfl
 have run:=Zph (fun j i=>Zxd.l0 j l (l.length:Int) i) l (fun x=>!(isW x)) (.inl ()) (fun i=>.inr (i:Int)) (fun i hi=>by
  have e:Zwk l[i]=some (!(isW l[i])):=by unfold Zwk isW;simp [bne]
  constructor
  ·intro hp j
   show Zxd.l0 (j+1) l (l.length:Int) (i:Int)=Zxd.l0 j l (l.length:Int) ((i+1:Nat):Int)
   rw [Zxd.l0,dlt hi,Zi hi,Zn (by omega)]
   simp only [cond_true,Ya,e,hp,cond_false]
  ·intro hp j
   show Zxd.l0 (j+1) l (l.length:Int) (i:Int)=_
   unfold Zxd.l0
   rw [dlt hi,Zi hi]
   simp only [cond_true,Ya,e,hp]) (fun j=>by
  show Zxd.l0 (j+1) l (l.length:Int) (l.length:Int)=_
  unfold Zxd.l0
  rw [Zy (Yc _)]
  rfl) hk
 have run:Zxd.l0 k l (l.length:Int) 0=_:=run
 unfold Zyi
 rw [clone]
 simp only [Ya]
 unfold Z1f Zxd
 rw [run]
 cases hf:Z1b (fun x=>!(isW x)) l 0 with
 | none=>
  have hall:=Z7r.1 hf
  have:Zg l=l:=by
   unfold Zg
   exact Yya.2 fun x hx=>by simpa using hall x hx
  rw [this]
  rfl
 | some m=>
  obtain ⟨_,h2,h3,h4⟩:=Zxm hf
  have h2:m<l.length:=h2
  have h3:(!(isW l[m]))=true:=h3
  have h4:∀j,(hj:j<m)→(!(isW (l[j]'(by omega))))=false:=h4
  have hW:Zg (l.take m)=l.take m:=by
   unfold Zg
   refine Yya.2 fun x hx=>?_
   obtain ⟨j,hj,rfl⟩:=Yha hx
   rw [Yp] at hj
   rw [Yka]
   simpa using h4 j (by omega)
  have hW2:Zg (l.take (m+1))=l.take m:=by
   have:Zg (l.take (m+1))=Zg (l.take m):=by
    unfold Zg
    rw [Zth h2,Yu]
    have:isW l[m]=false:=by simpa using h3
    simp [this]
   rw [this,hW]
  have hlen:(Zg (l.take (m+1))).length=m:=by rw [hW2,Yp];omega
  obtain ⟨c',e1,e2,e3⟩:=Zthb l hl (l.length-(m+1)) (m+1) l (by omega) rfl rfl (by omega) (by rw [hlen,hW2]) (by omega) k (by omega)
  rw [hlen] at e1
  have hne:(((m:Nat):Int) == -1)=false:=by rw [Zyh];exact decide_eq_false (by omega)
  simp only [Ya,hne,cond_false]
  rw [Zn (by omega),e1]
  simp only [Ya]
  have hwl:(Zg l).length≤l.length:=Yo _ _
  have ht:Zzv (((Zg l).length:Nat):Int) c'.length=some ():=by
   unfold Zzv
   rw [if_pos ⟨by omega,by omega⟩]
  rw [ht]
  simp only [Ya,Yg]
  have hcut:Z8b (Yna (Zg l).length c'++Yd (c'.length-(Zg l).length) ((0,(0,(0,[]))):Zk)) 0 (((Zg l).length:Nat):Int)=some (Zg l):=by
   have hc:(Yna (Zg l).length c').length=(Zg l).length:=by rw [e3]
   have:=Znh (l:=Yna (Zg l).length c'++Yd (c'.length-(Zg l).length) ((0,(0,(0,[]))):Zk)) (i:=0) (j:=(Zg l).length) (Y6 _) (by rw [Y0a,hc];omega)
   rw [Yea,List.take_append_of_le_length (by rw [hc];omega)] at this
   rw [e3] at this ⊢
   rw [Yl] at this
   exact this
  rw [hcut]
  rfl
def Zrj (x:Zk) (b:Int):Bool:=((x.1==3)||(x.1==4))&&(x.2.2.1==b)
def wAt (w:List Zk) (i:Nat):Zk:=w.getD i (0,(0,(0,[])))
theorem Z9f {w:List Zk} {i:Nat} (h:i<w.length):wAt w i=w[i]:=by
 unfold wAt
 rw [List.getD_eq_getElem?_getD,List.getElem?_eq_getElem h]
 rfl
def Zie (w:List Zk) (left:List Nat) (st:List Int) (i:Nat):Bool:=Z6f (wAt w i).2.1 st || !(left.any fun k=>(k != i)&&Zrj (wAt w k) (wAt w i).2.1)
def Zlc (w:List Zk):Nat→List Nat→List Int→List Zqc
 | 0,_,_=>[]
 | _+1,[],_=>[]
 | n+1,i0::rest,st=>match (i0::rest).find? (Zie w (i0::rest) st) with
  | some i=>(2,((i:Int),((wAt w i).2.1,0)))::Zlc w n ((i0::rest).erase i) st
  | none=>(1,((i0:Int),((wAt w i0).2.1,(st.length:Int))))::Zlc w n (i0::rest) (Z5g (wAt w i0).2.1 st)
def Zh (l:List Zk):List Zqc:=Zlc (Zg l) 40 (Yb (Zg l).length) []
theorem Zdy:∀(n:Nat) (l:List Nat),l.Nodup→(∀x∈l,x<n)→l.length≤n
 | 0,l,_,h=>by
  cases l with
  | nil=>exact Yc _
  | cons x l=>exact absurd (h x Yi) (Yaa _)
 | n+1,l,hn,h=>by
  by_cases hm:n∈l
  ·have h1:=Zdy n (l.erase n) (hn.erase n) (fun x hx=>by
    have h2:=h x (Yma hx)
    have h3:=(hn.mem_erase_iff.1 hx).1
    omega)
   rw [Y0 hm] at h1
   omega
  ·have:=Zdy n l hn (fun x hx=>by
    have h2:=h x hx
    rcases Y9 x n with h3 | h3
    ·exact h3
    ·have:x=n:=by omega
     exact absurd (this▸hx) hm)
   omega
theorem Z0q {l:List Int} (hn:l.Nodup) (h:∀x∈l,0≤x∧x≤7):l.length≤8:=by
 have:=Zdy 8 (l.map Int.toNat) (by
  refine List.pairwise_map.2 (hn.imp_of_mem fun {a b} ha hb hab e=>hab ?_)
  have:=h a ha
  have:=h b hb
  omega) (fun x hx=>by
  obtain ⟨y,hy,rfl⟩:=Y3a.1 hx
  have:=h y hy
  omega)
 simpa using this
structure PlanI (w:List Zk) (left:List Nat) (st:List Int):Prop where
 nd:left.Nodup
 lt:∀i∈left,i<w.length
 sd:st.Nodup
 sb:∀b∈st,0≤b∧b≤7
theorem Z71 {k:Int} {l:List Int}:Z6f k l=true ↔ k∈l:=by
 unfold Z6f
 rw [Yta]
 constructor
 ·rintro ⟨x,hx,e⟩
  have:k=x:=by simpa using e
  subst this;exact hx
 ·exact fun h=>⟨k,h,by simp⟩
theorem Zeeb {k:Int} {l:List Int} (h:Z6f k l=false):Z5g k l=l++[k]:=by unfold Z5g;rw [h];rfl
theorem Zdgb {w:List Zk} {left:List Nat} {st:List Int} {i:Nat} (h:Zie w left st i=false):Z6f (wAt w i).2.1 st=false:=by
 unfold Zie at h
 exact ((Bool.or_eq_false_iff).1 h).1
theorem PlanI.stash {w:List Zk} {i0:Nat} {rest:List Nat} {st:List Int} (h:PlanI w (i0::rest) st) (hw:∀x∈w,0≤x.2.1∧x.2.1≤7) (hf:(i0::rest).find? (Zie w (i0::rest) st)=none):
  PlanI w (i0::rest) (Z5g (wAt w i0).2.1 st)∧(Z5g (wAt w i0).2.1 st).length=st.length+1∧Z5g (wAt w i0).2.1 st=st++[(wAt w i0).2.1]:=by
 have h0:=List.find?_eq_none.1 hf i0 Yi
 have h1:=Zdgb (Yba.2 h0)
 have hi:=h.lt i0 Yi
 rw [Zeeb h1]
 refine ⟨⟨h.nd,h.lt,?_,?_⟩,by simp,rfl⟩
 ·refine Y4.2 ⟨h.sd,Y5.2 ⟨(fun h=>nomatch h),Yy⟩,fun x hx y hy e=>?_⟩
  rw [Yk.1 hy] at e
  subst e
  rw [Z71.2 hx] at h1
  cases h1
 ·intro b hb
  rcases Y2.1 hb with hb | hb
  ·exact h.sb b hb
  ·rw [Yk.1 hb,Z9f hi]
   exact hw _ (Ye hi)
theorem PlanI.done {w:List Zk} {left:List Nat} {st:List Int} (h:PlanI w left st) (i:Nat):PlanI w (left.erase i) st:=
 ⟨h.nd.erase i,fun j hj=>h.lt j (Yma hj),h.sd,h.sb⟩
def Zz (l:List Nat):List Int:=List.map (fun (n:Nat)=>(n:Int)) l
theorem Zqu {l:List Nat} {i:Nat} (h:i<l.length):(Zz l)[i]'(by simpa [Zz] using h)=((l[i]:Nat):Int):=by simp [Zz]
theorem Zfs (l:List Nat):(Zz l).length=l.length:=by simp [Zz]
theorem Zrhb (w:List Zk) (left:List Nat) (i:Nat) (b:Int) (hw:w.length≤1000) (hl:left.length≤1000) (hlt:∀q∈left,q<w.length):∀k,left.length<k →
  Zlp k (Zz left) (i:Int) w b=some (left.any fun k=>(k != i)&&Zrj (wAt w k) b,(i:Int),b):=by
 intro k hk
 have run:=Zph (fun j q=>Zyd.l0 j (Zz left) w ((Zz left).length:Int) q (i:Int) b) left (fun k=>(k != i)&&Zrj (wAt w k) b) (.inl ((i:Int),b)) (fun q=>.inr ((q:Int),((i:Int),b))) (fun q hq=>by
  have hql:left[q]<w.length:=hlt _ (Ye hq)
  have hq':q<(Zz left).length:=by rw [Zfs];exact hq
  have e:Zpo ((left[q]:Nat):Int) (i:Int) w b=some ((left[q] != i)&&Zrj (wAt w left[q]) b):=by
   unfold Zpo
   by_cases hne:left[q]=i
   ·rw [show (((left[q]:Nat):Int) != (i:Int))=false by simp [hne],show (left[q] != i)=false by simp [hne]]
    rfl
   ·rw [show (((left[q]:Nat):Int) != (i:Int))=true by simp;omega,show (left[q] != i)=true by simpa using hne,Zi hql,Z9f hql]
    rfl
  constructor
  ·intro hp j
   show Zyd.l0 (j+1) (Zz left) w ((Zz left).length:Int) (q:Int) (i:Int) b=Zyd.l0 j (Zz left) w ((Zz left).length:Int) ((q+1:Nat):Int) (i:Int) b
   rw [Zyd.l0,dlt hq',Zi hq',Zn (by omega),Zqu hq]
   simp only [cond_true,Ya,e,hp,cond_false]
  ·intro hp j
   show Zyd.l0 (j+1) (Zz left) w ((Zz left).length:Int) (q:Int) (i:Int) b=_
   rw [Zyd.l0,dlt hq',Zi hq',Zqu hq]
   simp only [cond_true,Ya,e,hp]) (fun j=>by
  show Zyd.l0 (j+1) (Zz left) w ((Zz left).length:Int) (left.length:Int) (i:Int) b=_
  unfold Zyd.l0
  rw [Zy (by rw [Zfs];exact Yc _)]
  rfl) hk
 have run:Zyd.l0 k (Zz left) w ((Zz left).length:Int) 0 (i:Int) b=_:=run
 have hany:=Z6r (p:=fun k=>(k != i)&&Zrj (wAt w k) b) (l:=left) (n:=0)
 unfold Zlp Zyd
 rw [run,← hany]
 cases Z1b (fun k=>(k != i)&&Zrj (wAt w k) b) left 0 with
 | none=>rfl
 | some m=>
  simp only [Ya,Yab]
  rw [decide_eq_true (by omega:(0:Int)≤(m:Int))]
theorem Z0hb (w:List Zk) (left:List Nat) (st:List Int) (i:Nat) (hw:w.length≤1000) (hl:left.length≤1000) (hlt:∀q∈left,q<w.length) (hi:i<w.length):∀k,left.length<k →
  Zoo k (i:Int) w st (Zz left)=some (Zie w left st i,st):=by
 intro k hk
 unfold Zoo Zie
 rw [Zi hi,Z9f hi]
 simp only [Ya]
 cases Z6f (w[i]).2.1 st with
 | true=>rfl
 | false=>
  rw [Zrhb w left i _ hw hl hlt k hk]
  rfl
theorem Z7hb (w:List Zk) (left:List Nat) (st:List Int) (hw:w.length≤1000) (hl:left.length≤1000) (hlt:∀q∈left,q<w.length):∀k,left.length<k →
  Znd k (Zz left) w st (Zz left)=some (match Z1b (Zie w left st) left 0 with | some p=>(p:Int) | none=>-1,w,st):=by
 intro k hk
 have run:=Zph (fun j q=>Znd.l0 k j (Zz left) (Zz left) ((Zz left).length:Int) q w st) left (Zie w left st) (.inl (w,st)) (fun q=>.inr ((q:Int),(w,st))) (fun q hq=>by
  have hql:left[q]<w.length:=hlt _ (Ye hq)
  have hq':q<(Zz left).length:=by rw [Zfs];exact hq
  have e:=Z0hb w left st left[q] hw hl hlt hql k hk
  constructor
  ·intro hp j
   show Znd.l0 k (j+1) (Zz left) (Zz left) ((Zz left).length:Int) (q:Int) w st=Znd.l0 k j (Zz left) (Zz left) ((Zz left).length:Int) ((q+1:Nat):Int) w st
   rw [Znd.l0,dlt hq',Zi hq',Zn (by omega),Zqu hq]
   simp only [cond_true,Ya,e,hp,cond_false]
  ·intro hp j
   show Znd.l0 k (j+1) (Zz left) (Zz left) ((Zz left).length:Int) (q:Int) w st=_
   rw [Znd.l0,dlt hq',Zi hq',Zqu hq]
   simp only [cond_true,Ya,e,hp]) (fun j=>by
  show Znd.l0 k (j+1) (Zz left) (Zz left) ((Zz left).length:Int) (left.length:Int) w st=_
  unfold Znd.l0
  rw [Zy (by rw [Zfs];exact Yc _)]
  rfl) hk
 have run:Znd.l0 k k (Zz left) (Zz left) ((Zz left).length:Int) 0 w st=_:=run
 unfold Znd
 rw [run]
 cases Z1b (Zie w left st) left 0 <;> rfl
theorem Zku {α:Type} {p:α→Bool}:∀{l:List α} {n:Nat},(Z1b p l n=none∧l.find? p=none)∨∃i,∃h:i<l.length,Z1b p l n=some (n+i)∧l.find? p=some l[i]∧∀j,(hj:j<i)→p (l[j]'(by omega))=false
 | [],n=>.inl ⟨rfl,rfl⟩
 | x::l,n=>by
  cases hp:p x with
  | true=>exact .inr ⟨0,by simp,by simp [Z1b,hp],by simp [List.find?,hp],fun j hj=>absurd hj (Yaa _)⟩
  | false=>
   have e1:Z1b p (x::l) n=Z1b p l (n+1):=by simp [Z1b,hp]
   have e2:(x::l).find? p=l.find? p:=by simp [List.find?,hp]
   rw [e1,e2]
   rcases Zku (p:=p) (l:=l) (n:=n+1) with ⟨h1,h2⟩ | ⟨i,hi,h1,h2,h3⟩
   ·exact .inl ⟨h1,h2⟩
   ·refine .inr ⟨i+1,by simpa using hi,by rw [h1];congr 1;omega,by rw [h2];rfl,fun j hj=>?_⟩
    cases j with
    | zero=>exact hp
    | succ j=>exact h3 j (by omega)
theorem Zb8:∀{l:List Nat} {i:Nat} (h:i<l.length),l.Nodup→l.erase l[i]=l.take i++l.drop (i+1)
 | x::l,0,h,hn=>by simp
 | x::l,i+1,h,hn=>by
  have hi:i<l.length:=by simpa using h
  have hne:x≠l[i]:=fun e=>(Y5.1 hn).1 (e▸Ye hi)
  rw [List.getElem_cons_succ,List.erase_cons_tail (by simpa using hne),Zb8 hi (Y5.1 hn).2]
  rfl
theorem Zcib (w:List Zk) (hw:w.length≤20) (hwb:∀x∈w,0≤x.2.1∧x.2.1≤7) (k:Nat) (hk:20<k):∀(d:Nat) (left:List Nat) (st:List Int) (out:List Zqc),PlanI w left st→left.length+(8-st.length)≤d→out.length+d≤100→∀n j,d<n→d<j →
  ∃f,Zkb.l1 k j w out (Zz left) st=some (w,out++Zlc w n left st,f):=by
 intro d
 induction d with
 | zero=>
  intro left st out hI hd ho n j hn hj
  obtain ⟨j,rfl⟩:∃q,j=q+1:=⟨j-1,by omega⟩
  obtain ⟨n,rfl⟩:∃q,n=q+1:=⟨n-1,by omega⟩
  obtain rfl:left=[]:=Yfa (by omega)
  refine ⟨(Zz [],st),?_⟩
  unfold Zkb.l1
  rw [decide_eq_false (by simp [Zz]:¬((0:Int)<((Zz ([]:List Nat)).length:Int)))]
  simp only [cond_false,Zlc,Yt]
 | succ d ih=>
  intro left st out hI hd ho n j hn hj
  obtain ⟨j,rfl⟩:∃q,j=q+1:=⟨j-1,by omega⟩
  obtain ⟨n,rfl⟩:∃q,n=q+1:=⟨n-1,by omega⟩
  have hll:left.length≤20:=Y9a (Zdy w.length left hI.nd hI.lt) hw
  have hsl:=Z0q hI.sd hI.sb
  cases left with
  | nil=>
   refine ⟨(Zz [],st),?_⟩
   unfold Zkb.l1
   rw [decide_eq_false (by simp [Zz]:¬((0:Int)<((Zz ([]:List Nat)).length:Int)))]
   simp only [cond_false,Zlc,Yt]
  | cons i0 rest=>
   have hi0:=hI.lt i0 Yi
   rw [Zkb.l1,decide_eq_true (by rw [Zfs,Yv];omega:(0:Int)<((Zz (i0::rest)).length:Int)),Z7hb w (i0::rest) st (by omega) (by omega) hI.lt k (by omega)]
   simp only [cond_true,Ya]
   rcases Zku (p:=Zie w (i0::rest) st) (l:=i0::rest) (n:=0) with ⟨h1,h2⟩ | ⟨p,hp,h1,h2,h3⟩
   ·obtain ⟨g1,g2,g3⟩:=hI.stash hwb h2
    have hst:=Z0q g1.sd g1.sb
    rw [g2] at hst
    rw [h1]
    have e0:at? (Zz (i0::rest)) 0=some (i0:Int):=rfl
    rw [decide_eq_true (by decide:(-1:Int)<0),e0]
    simp only [cond_true,Ya]
    rw [Zi hi0]
    simp only [Ya]
    rw [Zab (by simp;omega)]
    simp only [Ya]
    have hp2:Zlc w (n+1) (i0::rest) st=(1,((i0:Int),((wAt w i0).2.1,(st.length:Int))))::Zlc w n (i0::rest) (Z5g (wAt w i0).2.1 st):=by
     simp only [Zlc,h2]
    rw [hp2,Z9f hi0]
    rw [Z9f hi0] at g1 g2
    obtain ⟨f,hf⟩:=ih (i0::rest) (Z5g (w[i0]).2.1 st) (out++[(1,((i0:Int),((w[i0]).2.1,(st.length:Int))))]) g1 (by omega) (by simp;omega) n j (by omega) (by omega)
    exact ⟨f,by rw [hf,Yn];rfl⟩
   ·rw [h1,Yj]
    have hpi:p<(Zz (i0::rest)).length:=by rw [Zfs];exact hp
    have hpl:=hI.lt _ (Ye hp)
    rw [decide_eq_false (by omega:¬((p:Int)<0)),Zi hpi,Zqu hp,Zn (by omega)]
    simp only [cond_false,Ya]
    rw [Zi hpl]
    simp only [Ya]
    rw [Zab (by simp;omega)]
    have hdel:slices_Delete_int (Zz (i0::rest)) (p:Int) ((p+1:Nat):Int)=some (Zz ((i0::rest).erase (i0::rest)[p])):=by
     unfold slices_Delete_int
     rw [if_pos ⟨by omega,by omega,by omega⟩,Yg,Yg,Zb8 hp hI.nd]
     simp [Zz,List.map_take,List.map_drop]
    rw [hdel]
    simp only [Ya]
    have hp2:Zlc w (n+1) (i0::rest) st=(2,(((i0::rest)[p]:Nat):Int),(wAt w (i0::rest)[p]).2.1,0)::Zlc w n ((i0::rest).erase (i0::rest)[p]) st:=by
     simp only [Zlc,h2]
    have hle:((i0::rest).erase (i0::rest)[p]).length=(i0::rest).length-1:=Y0 (Ye hp)
    rw [hp2,Z9f hpl]
    obtain ⟨f,hf⟩:=ih ((i0::rest).erase (i0::rest)[p]) st (out++[(2,((((i0::rest)[p]:Nat):Int),((w[(i0::rest)[p]]).2.1,0)))]) (hI.done _) (by
     rw [hle]
     have:(i0::rest).length=rest.length+1:=rfl
     omega) (by simp;omega) n j (by omega) (by omega)
    exact ⟨f,by rw [hf,Yn];rfl⟩
theorem Zxhb (n:Nat) (hn:n≤20):∀k,n<k→Zkb.l0 k (n:Int) 0 (Yd n 0)=some (Zz (Yb n)):=by
 intro k hk
 have run:=Zzw (fun j i c=>Zkb.l0 j (n:Int) i c) (Zz (Yb n)) (0:Int) (fun i hi c hc j=>by
  have hin:i<n:=by simpa [Zz] using hi
  have hl:(Zz (Yb n)).length=n:=by simp [Zz]
  show Zkb.l0 (j+1) (n:Int) (i:Int) c=Zkb.l0 j (n:Int) ((i+1:Nat):Int) (c.set i (Zz (Yb n))[i])
  rw [Zkb.l0,dlt hin,Zi (by omega:i<c.length),Zn (by omega),Yg]
  simp [Zz]) (fun c j=>by
  show Zkb.l0 (j+1) (n:Int) ((Zz (Yb n)).length:Int) c=some c
  have hl:(Zz (Yb n)).length=n:=by simp [Zz]
  unfold Zkb.l0
  rw [hl,Zy (Yc _)]
  rfl) (k:=k) (by simp [Zz];omega)
 have hl:(Zz (Yb n)).length=n:=by simp [Zz]
 rw [hl] at run
 exact run
theorem Zoz (w:List Zk):PlanI w (Yb w.length) []:=⟨List.nodup_range,fun i hi=>Yq.1 hi,Yy,fun b hb=>nomatch hb⟩
theorem Zcs (l:List Zk) (hl:l.length≤20) (hb:∀x∈Zg l,0≤x.2.1∧x.2.1≤7):Ze fun k=>Zkb k l=some (Zh l):=by
 refine Ze.ge 60 fun k hk=>?_
 have hwl:(Zg l).length≤l.length:=Yo _ _
 unfold Zkb
 rw [Zsx l (by omega) k (by omega)]
 simp only [Ya]
 rw [Z1u (by omega)]
 simp only [Ya,Yw]
 rw [Zxhb _ (by omega) k (by omega)]
 simp only [Ya]
 obtain ⟨f,hf⟩:=Zcib (Zg l) (by omega) hb k (by omega) 30 (Yb (Zg l).length) [] [] (Zoz _) (by simp;omega) (by simp) 40 k (by omega) (by omega)
 rw [hf]
 rfl
end Go.Proofs.Qz
namespace Go.Proofs.Qz
open Go
set_option linter.unusedVariables false
theorem Zljb {R:Type} (L:Nat→Int→Option R) (n:Nat) (p:Nat→Bool) (a:R) (b:Nat→R)
  (hs:∀(i:Nat),i<n→(p i=false→∀j,L (j+1) (i:Int)=L j ((i+1:Nat):Int))∧(p i=true→∀j,L (j+1) (i:Int)=some (b i)))
  (he:∀j,L (j+1) (n:Int)=some a) {k:Nat} (hk:n<k):L k 0=some (match (Yb n).find? p with | some i=>b i | none=>a):=by
 have hl:(Yb n).length=n:=Y1
 have run:=Zph L (Yb n) p a b (fun i hi=>by rw [Yza];exact hs i (by omega)) (by rw [hl];exact he) (k:=k) (by rw [hl];exact hk)
 rw [run]
 rcases Zku (p:=p) (l:=Yb n) (n:=0) with ⟨h1,h2⟩ | ⟨q,hq,h1,h2,h3⟩
 ·rw [h1,h2]
 ·rw [h1,h2,Yj,Yza]
def Zek:Option Nat→Int
 | some i=>(i:Int)
 | none=>-1
theorem Zu3 (i:Nat):decide (Zek (some i)<0)=false:=decide_eq_false (by show ¬((i:Int)<0);omega)
theorem Zkab:decide (Zek none<0)=true:=rfl
structure PlanR (w:List Zk) (left:List Nat) (st:List Int) (lB sB:List Bool):Prop where
 pi:PlanI w left st
 so:left.Pairwise (· < ·)
 ll:lB.length=w.length
 lm:∀i,(h:i<lB.length)→lB[i]=decide (i∈left)
 sl:sB.length=8
 sm:∀b:Nat,(h:b<sB.length)→sB[b]=Z6f (b:Int) st
section
variable {w:List Zk} {left:List Nat} {st:List Int} {lB sB:List Bool}
theorem PlanR.done (h:PlanR w left st lB sB) (i:Nat):PlanR w (left.erase i) st (lB.set i false) sB:=by
 refine ⟨h.pi.done i,h.so.sublist List.erase_sublist,by rw [Yx];exact h.ll,fun q hq=>?_,h.sl,h.sm⟩
 rw [Yx] at hq
 rw [Yja]
 by_cases hi:i=q
 ·subst hi
  rw [if_pos rfl,decide_eq_false]
  intro hm
  exact (h.pi.nd.mem_erase_iff.1 hm).1 rfl
 ·rw [if_neg hi,h.lm q hq,Yqa,decide_eq_true_eq,decide_eq_true_eq,h.pi.nd.mem_erase_iff]
  exact ⟨fun g=>⟨fun e=>hi e.symm,g⟩,fun g=>g.2⟩
theorem PlanR.stash (h:PlanR w left st lB sB) {b:Nat} {st':List Int} (hp:PlanI w left st') (e:st'=st++[(b:Int)]):PlanR w left st' lB (sB.set b true):=by
 refine ⟨hp,h.so,h.ll,h.lm,by rw [Yx];exact h.sl,fun q hq=>?_⟩
 rw [Yx] at hq
 rw [Yja,e]
 have ha:Z6f (q:Int) (st++[(b:Int)])=(Z6f (q:Int) st||((b:Int)==(q:Int)||(q:Int)==(b:Int))):=by
  rw [Yqa,Z71,Yca,Z71,Y2,Yk,Yca,beq_iff_eq,beq_iff_eq]
  constructor
  ·rintro (g | g)
   ·exact .inl g
   ·exact .inr (.inr g)
  ·rintro (g | g | g)
   ·exact .inl g
   ·exact .inr g.symm
   ·exact .inr g
 rw [ha]
 by_cases hb:b=q
 ·subst hb
  rw [if_pos rfl]
  simp
 ·rw [if_neg hb,h.sm q hq]
  have e1:((b:Int)==(q:Int))=false:=by rw [Zyh];exact decide_eq_false (by omega)
  have e2:((q:Int)==(b:Int))=false:=by rw [Zyh];exact decide_eq_false (by omega)
  rw [e1,e2]
  simp
theorem Zilb (h:PlanR w left st lB sB) (hw:w.length≤20) (hwb:∀x∈w,0≤x.2.1∧x.2.1≤7) (i:Nat) (hi:i<w.length):∀k,20<k→Z1c k w lB sB (i:Int)=some (!(Zie w left st i)):=by
 intro k hk
 obtain ⟨h0,h7⟩:=hwb _ (Ye hi)
 obtain ⟨b,hb⟩:=Ysa h0
 have hbs:b<sB.length:=by have:=h.sl;omega
 have run:=Zljb (fun j q=>Z1c.l0 j w lB (i:Int) q) w.length (fun q=>(q != i)&&(decide (q∈left)&&Zrj (wAt w q) (wAt w i).2.1)) (.inl ()) (fun _=>.inr true) (fun q hq=>by
  have hql:q<lB.length:=by have:=h.ll;omega
  have e0:Zfr w[q] (w[i]).2.1=some (Zrj (wAt w q) (wAt w i).2.1):=by rw [Z9f hq,Z9f hi];rfl
  have key:∀j,Z1c.l0 (j+1) w lB (i:Int) (q:Int)=if ((q != i)&&(decide (q∈left)&&Zrj (wAt w q) (wAt w i).2.1))=true then some (.inr true) else Z1c.l0 j w lB (i:Int) ((q+1:Nat):Int):=by
   intro j
   rw [Z1c.l0,dlt hq,Zi hql,Zi hq,Zi hi,Zn (by omega),h.lm q hql]
   simp only [cond_true,Ya,e0]
   by_cases hne:q=i
   ·rw [show ((q:Int) != (i:Int))=false by simp [hne],show (q != i)=false by simp [hne]]
    rfl
   ·rw [show ((q:Int) != (i:Int))=true by simp;omega,show (q != i)=true by simpa using hne]
    cases decide (q∈left) with
    | false=>rfl
    | true=>cases Zrj (wAt w q) (wAt w i).2.1 <;> rfl
  constructor
  ·intro hp j
   show Z1c.l0 (j+1) w lB (i:Int) (q:Int)=Z1c.l0 j w lB (i:Int) ((q+1:Nat):Int)
   rw [key,if_neg (by rw [hp];exact Ys)]
  ·intro hp j
   show Z1c.l0 (j+1) w lB (i:Int) (q:Int)=_
   rw [key,if_pos hp]) (fun j=>by
  show Z1c.l0 (j+1) w lB (i:Int) (w.length:Int)=_
  unfold Z1c.l0
  rw [Zy (Yc _)]
  rfl) (by omega:w.length<k)
 have run:Z1c.l0 k w lB (i:Int) 0=_:=run
 unfold Z1c Zie
 rw [Zi hi,Z9f hi]
 simp only [Ya]
 have hat:at? sB (w[i]).2.1=some (Z6f (w[i]).2.1 st):=by
  rw [hb,Zi hbs,h.sm b hbs]
 rw [hat]
 simp only [Ya]
 cases Z6f (w[i]).2.1 st with
 | true=>rfl
 | false=>
  simp only [cond_false,Bool.false_or,Bool.not_not]
  rw [run]
  rw [Z9f hi]
  cases hf:(Yb w.length).find? (fun q=>(q != i)&&(decide (q∈left)&&Zrj (wAt w q) (w[i]).2.1)) with
  | none=>
   have:=List.find?_eq_none.1 hf
   have:(left.any fun k=>(k != i)&&Zrj (wAt w k) (w[i]).2.1)=false:=by
    rw [List.any_eq_false]
    intro x hx hc
    refine this x (Yq.2 (h.pi.lt x hx)) ?_
    rw [decide_eq_true hx,Yz]
    exact hc
   rw [this]
   rfl
  | some q=>
   have h1:=List.find?_some hf
   have:(left.any fun k=>(k != i)&&Zrj (wAt w k) (w[i]).2.1)=true:=by
    rw [Yta]
    simp only [Yf,decide_eq_true_eq] at h1
    exact ⟨q,h1.2.1,by rw [Yf];exact ⟨h1.1,h1.2.2⟩⟩
   rw [this]
   rfl
theorem Z0lb (h:PlanR w left st lB sB) (hw:w.length≤20) (hwb:∀x∈w,0≤x.2.1∧x.2.1≤7) (k:Nat) (hk:20<k):∀(d i:Nat) (dn todo:List Nat),i+d=w.length→left=dn++todo→(∀x∈dn,x<i)→(∀x∈todo,i≤x)→∀j,d<j →
  Zgd.l0 k j w lB sB (Zek (dn.find? (Zie w left st))) (Zek dn.head?) (i:Int)=some (Zek (left.find? (Zie w left st)),Zek left.head?):=by
 intro d
 induction d with
 | zero=>
  intro i dn todo hi hl h1 h2 j hj
  obtain ⟨j,rfl⟩:∃q,j=q+1:=⟨j-1,by omega⟩
  obtain rfl:i=w.length:=by omega
  have ht:todo=[]:=by
   cases todo with
   | nil=>rfl
   | cons y t=>
    have:=h2 y Yi
    have:=h.pi.lt y (by rw [hl];exact Y2a _ Yi)
    omega
  subst ht
  rw [Yt] at hl
  rw [← hl]
  unfold Zgd.l0
  rw [Zy (Yc _)]
  rfl
 | succ d ih=>
  intro i dn todo hi hl h1 h2 j hj
  obtain ⟨j,rfl⟩:∃q,j=q+1:=⟨j-1,by omega⟩
  have hiw:i<w.length:=by omega
  have hil:i<lB.length:=by have:=h.ll;omega
  rw [Zgd.l0,dlt hiw,Zi hil,Zn (by omega),h.lm i hil,Zilb h hw hwb i hiw k hk]
  simp only [cond_true,Ya]
  by_cases hm:i∈left
  ·rw [decide_eq_true hm]
   have hit:i∈todo:=by
    rw [hl] at hm
    rcases Y2.1 hm with g | g
    ·exact absurd (h1 i g) (Nat.lt_irrefl _)
    ·exact g
   have hso:=h.so
   rw [hl] at hso
   have hst:=(List.pairwise_append.1 hso).2.1
   cases todo with
   | nil=>exact nomatch hit
   | cons y t=>
    have hyt:=List.pairwise_cons.1 hst
    have hyi:y=i:=by
     rcases List.mem_cons.1 hit with g | g
     ·exact g.symm
     ·have:=hyt.1 i g
      have:=h2 y Yi
      omega
    subst hyi
    have ih':=ih (y+1) (dn++[y]) t (by omega) (by rw [hl,Yn];rfl) (fun x hx=>by
     rcases Y2.1 hx with g | g
     ·have:=h1 x g;omega
     ·rw [Yk.1 g];omega) (fun x hx=>hyt.1 x hx) j (by omega)
    have eA:(dn++[y]).find? (Zie w left st)=(dn.find? (Zie w left st)).or (if Zie w left st y then some y else none):=by
     rw [List.find?_append]
     congr 1
     unfold List.find?
     cases Zie w left st y <;> rfl
    have eB:(dn++[y]).head? = (dn.head?).or (some y):=by cases dn <;> rfl
    rw [eA,eB] at ih'
    simp only [Yh,cond_false]
    cases hB:dn.head? with
    | none=>
     have hdn:dn=[]:=by cases dn with | nil=>rfl | cons a b=>cases hB
     subst hdn
     rw [hB] at ih'
     have e1:(([]:List Nat).find? (Zie w left st))=none:=rfl
     rw [e1] at ih' ⊢
     rw [Zkab]
     simp only [cond_true]
     cases hf:Zie w left st y with
     | true=>rw [hf] at ih';exact ih'
     | false=>rw [hf] at ih';exact ih'
    | some a=>
     rw [hB] at ih'
     rw [Zu3]
     simp only [cond_false]
     cases hA:dn.find? (Zie w left st) with
     | none=>
      rw [hA] at ih'
      rw [Zkab]
      simp only [cond_true]
      cases hf:Zie w left st y with
      | true=>rw [hf] at ih';exact ih'
      | false=>rw [hf] at ih';exact ih'
     | some c=>
      rw [hA] at ih'
      rw [Zu3]
      exact ih'
  ·rw [decide_eq_false hm]
   exact ih (i+1) dn todo (by omega) hl (fun x hx=>by have:=h1 x hx;omega) (fun x hx=>by
    have:=h2 x hx
    rcases Y9 i x with g | g
    ·exact g
    ·have:x=i:=by omega
     subst this
     exact absurd (by rw [hl];exact Y2a _ hx) hm) j (by omega)
theorem Zs4 (h:PlanR w left st lB sB) (hw:w.length≤20) (hwb:∀x∈w,0≤x.2.1∧x.2.1≤7) (k:Nat) (hk:21<k):Zgd k w lB sB=some (Zek (left.find? (Zie w left st)),Zek left.head?):=by
 have run:=Z0lb h hw hwb k (by omega) w.length 0 [] left (Yj _) rfl (fun x hx=>nomatch hx) (fun x _=>Y6 x) k (by omega)
 have run:Zgd.l0 k k w lB sB (-1) (-1) 0=_:=run
 unfold Zgd
 rw [run]
 rfl
end
theorem Z3lb (w:List Zk) (hw:w.length≤20) (hwb:∀x∈w,0≤x.2.1∧x.2.1≤7) (k:Nat) (hk:21<k):∀(d:Nat) (left:List Nat) (st:List Int) (lB sB:List Bool) (out:List Zqc),PlanR w left st lB sB→left.length+(8-st.length)≤d→out.length+d≤100→∀n j,d<n→d<j →
  Zxb.l1 k j (st.length:Int) w lB sB out=some (out++Zlc w n left st):=by
 intro d
 induction d with
 | zero=>
  intro left st lB sB out hI hd ho n j hn hj
  obtain ⟨j,rfl⟩:∃q,j=q+1:=⟨j-1,by omega⟩
  obtain ⟨n,rfl⟩:∃q,n=q+1:=⟨n-1,by omega⟩
  obtain rfl:left=[]:=Yfa (by omega)
  unfold Zxb.l1
  rw [Zs4 hI hw hwb k hk]
  simp only [Zlc,Yt]
  rfl
 | succ d ih=>
  intro left st lB sB out hI hd ho n j hn hj
  obtain ⟨j,rfl⟩:∃q,j=q+1:=⟨j-1,by omega⟩
  obtain ⟨n,rfl⟩:∃q,n=q+1:=⟨n-1,by omega⟩
  have hsl:=Z0q hI.pi.sd hI.pi.sb
  cases left with
  | nil=>
   unfold Zxb.l1
   rw [Zs4 hI hw hwb k hk]
   simp only [Zlc,Yt]
   rfl
  | cons i0 rest=>
   have hi0:=hI.pi.lt i0 Yi
   rw [Zxb.l1,Zs4 hI hw hwb k hk]
   simp only [Ya]
   rw [show (i0::rest).head? = some i0 from rfl,Zu3]
   simp only [cond_false]
   rcases Zku (p:=Zie w (i0::rest) st) (l:=i0::rest) (n:=0) with ⟨h1,h2⟩ | ⟨p,hp,h1,h2,h3⟩
   ·obtain ⟨g1,g2,g3⟩:=hI.pi.stash hwb h2
    have hst:=Z0q g1.sd g1.sb
    rw [g2] at hst
    rw [h2]
    have hp2:Zlc w (n+1) (i0::rest) st=(1,((i0:Int),((wAt w i0).2.1,(st.length:Int))))::Zlc w n (i0::rest) (Z5g (wAt w i0).2.1 st):=by
     simp only [Zlc,h2]
    rw [hp2,Z9f hi0]
    rw [Z9f hi0] at g1 g2 g3
    obtain ⟨q0,q7⟩:=hwb _ (Ye hi0)
    obtain ⟨b,hb⟩:=Ysa q0
    have hb:(w[i0]).2.1=(b:Int):=hb
    have hbs:b<sB.length:=by have:=hI.sl;omega
    rw [show decide (0≤Zek none)=false from rfl,show Zek (some i0)=(i0:Int) from rfl,Zi hi0,Zn (by omega)]
    simp only [cond_false,Ya]
    rw [Zab (by simp;omega),hb,Zi hbs]
    simp only [Ya,Yg]
    rw [hb] at g1 g2 g3
    have:=ih (i0::rest) (Z5g (b:Int) st) lB (sB.set b true) (out++[(1,((i0:Int),((b:Int),(st.length:Int))))]) (hI.stash g1 g3) (by omega) (by simp;omega) n j (by omega) (by omega)
    rw [g2] at this
    rw [this,Yn]
    rfl
   ·rw [h2]
    have hpl:=hI.pi.lt _ (Ye hp)
    have hll:(i0::rest)[p]<lB.length:=by have:=hI.ll;omega
    have hp2:Zlc w (n+1) (i0::rest) st=(2,(((i0::rest)[p]:Nat):Int),(wAt w (i0::rest)[p]).2.1,0)::Zlc w n ((i0::rest).erase (i0::rest)[p]) st:=by
     simp only [Zlc,h2]
    have hle:((i0::rest).erase (i0::rest)[p]).length=(i0::rest).length-1:=Y0 (Ye hp)
    rw [hp2,Z9f hpl]
    rw [show decide (0≤Zek (some (i0::rest)[p]))=true from decide_eq_true (Int.natCast_nonneg _),show Zek (some (i0::rest)[p])=(((i0::rest)[p]:Nat):Int) from rfl,Zi hpl,Zi hll]
    simp only [cond_true,Ya,Yg]
    rw [Zab (by simp;omega)]
    simp only [Ya]
    rw [ih ((i0::rest).erase (i0::rest)[p]) st (lB.set (i0::rest)[p] false) sB (out++[(2,((((i0::rest)[p]:Nat):Int),((w[(i0::rest)[p]]).2.1,0)))]) (hI.done _) (by
     rw [hle]
     have:(i0::rest).length=rest.length+1:=rfl
     omega) (by simp;omega) n j (by omega) (by omega),Yn]
    rfl
theorem Zrlb (w:List Zk) (hw:w.length≤20):∀k,w.length<k→Zxb.l0 k 0 w (Yd w.length false)=some (w,Yd w.length true):=by
 intro k hk
 have run:=Zzw (fun j i c=>(Zxb.l0 j i w c).map fun p=>p.2) (Yd w.length true) false (fun i hi c hc j=>by
  have hiw:i<w.length:=by simpa using hi
  have hic:i<c.length:=by rw [hc];exact hi
  show (Zxb.l0 (j+1) (i:Int) w c).map _=(Zxb.l0 j ((i+1:Nat):Int) w (c.set i (Yd w.length true)[i])).map _
  rw [Zxb.l0,dlt hiw,Zi hic,Zn (by omega),Yg,Yia]
  rfl) (fun c j=>by
  show (Zxb.l0 (j+1) ((Yd w.length true).length:Int) w c).map _=some c
  unfold Zxb.l0
  rw [Zy (by simp)]
  rfl) (k:=k) (by simpa using hk)
 have fst:∀(d i:Nat) (c:List Bool) (r:List Zk×List Bool),i+d=w.length→∀j,Zxb.l0 j (i:Int) w c=some r→r.1=w:=by
  intro d
  induction d with
  | zero=>
   intro i c r hi j h
   cases j with
   | zero=>cases h
   | succ j=>
    unfold Zxb.l0 at h
    rw [Zy (by omega:w.length≤i)] at h
    cases h
    rfl
  | succ d ih=>
   intro i c r hi j h
   cases j with
   | zero=>cases h
   | succ j=>
    rw [Zxb.l0,dlt (by omega:i<w.length),Zn (by omega)] at h
    simp only [cond_true] at h
    cases ha:at? c (i:Int) with
    | none=>rw [ha] at h;cases h
    | some v=>
     rw [ha] at h
     exact ih (i+1) _ r (by omega) j h
 rw [Yw] at run
 have run:(Zxb.l0 k 0 w (Yd w.length false)).map (fun p=>p.2)=some (Yd w.length true):=run
 cases hr:Zxb.l0 k 0 w (Yd w.length false) with
 | none=>rw [hr] at run;cases run
 | some r=>
  rw [hr] at run
  have h1:=fst w.length 0 _ r (Yj _) k hr
  have h2:r.2=Yd w.length true:=Ypa.inj run
  obtain ⟨r1,r2⟩:=r
  have h1:r1=w:=h1
  have h2:r2=Yd w.length true:=h2
  rw [h1,h2]
theorem Z1mb (w:List Zk):PlanR w (Yb w.length) [] (Yd w.length true) (Yd 8 false):=by
 refine ⟨Zoz w,List.pairwise_lt_range,Yw,fun i hi=>?_,Yw,fun b hb=>?_⟩
 ·rw [Yw] at hi
  rw [Yia,decide_eq_true (Yq.2 hi)]
 ·rw [Yia]
  rfl
theorem Z9u (l:List Zk) (hl:l.length≤20) (hb:∀x∈Zg l,0≤x.2.1∧x.2.1≤7):(Zh l).length≤28:=by
 have hwl:(Zg l).length≤l.length:=Yo _ _
 have key:∀(n:Nat) (left:List Nat) (st:List Int),PlanI (Zg l) left st→(Zlc (Zg l) n left st).length≤left.length+(8-st.length):=by
  intro n
  induction n with
  | zero=>intro left st h;exact Y6 _
  | succ n ih=>
   intro left st h
   cases left with
   | nil=>exact Y6 _
   | cons i0 rest=>
    rcases Zku (p:=Zie (Zg l) (i0::rest) st) (l:=i0::rest) (n:=0) with ⟨h1,h2⟩ | ⟨p,hp,h1,h2,h3⟩
    ·obtain ⟨g1,g2,g3⟩:=h.stash hb h2
     have hst:=Z0q g1.sd g1.sb
     have:=ih _ _ g1
     simp only [Zlc,h2,Yv] at this ⊢
     omega
    ·have:=ih _ _ (h.done (i0::rest)[p])
     have hle:((i0::rest).erase (i0::rest)[p]).length=(i0::rest).length-1:=Y0 (Ye hp)
     rw [hle] at this
     simp only [Zlc,h2,Yv] at this ⊢
     omega
 have:=key 40 _ _ (Zoz (Zg l))
 rw [Y1,Yla] at this
 unfold Zh
 omega
theorem Zdcb (l:List Zk) (hl:l.length≤20) (hb:∀x∈Zg l,0≤x.2.1∧x.2.1≤7):∀k,60≤k→Zxb k l=some (Zh l):=by
 intro k hk
 have hwl:(Zg l).length≤l.length:=Yo _ _
 unfold Zxb
 rw [Zx4 l hl k (by omega)]
 simp only [Ya]
 rw [Z1u (by omega)]
 simp only [Ya]
 rw [Zrlb _ (by omega) k (by omega)]
 simp only [Ya]
 rw [show Zlg 1 8 8 false=some (Yd 8 false) from Z1u (n:=8) (by omega)]
 simp only [Ya]
 have run:=Z3lb (Zg l) (by omega) hb k (by omega) 30 _ [] _ _ [] (Z1mb _) (by simp;omega) (by simp) 40 k (by omega) (by omega)
 have run:Zxb.l1 k k 0 (Zg l) (Yd (Zg l).length true) (Yd 8 false) []=_:=run
 rw [run]
 rfl
def Z4b (l:List Zqc):Int:=(((l.filter fun m=>m.1==1).length:Nat):Int)
theorem Z54 {l:List Zqc} {i:Nat} (h:i<l.length):Z4b (l.take (i+1))=if (l[i]).1=1 then Z4b (l.take i)+1 else Z4b (l.take i):=by
 unfold Z4b
 rw [Zth h,Yu]
 split
 ·rename_i hw;simp [hw]
 ·rename_i hw;simp [hw]
theorem Znz (l:List Zqc):0≤Z4b l∧Z4b l≤(l.length:Int):=by
 unfold Z4b
 have:=Yo (fun m:Zqc=>m.1==1) l
 omega
theorem Zhcb (l:List Zqc) (hl:l.length≤40):∀k,41≤k→Zfe k l=some (Z4b l):=by
 intro k hk
 have key:∀(d i:Nat),i+d=l.length→∀j,d<j→Zfe.l0 j l (Z4b (l.take i)) (i:Int)=some (Z4b l):=by
  intro d
  induction d with
  | zero=>
   intro i hi j hj
   obtain ⟨j,rfl⟩:∃q,j=q+1:=⟨j-1,by omega⟩
   obtain rfl:i=l.length:=by omega
   unfold Zfe.l0
   rw [Zy (Yc _),Yl]
   rfl
  | succ d ih=>
   intro i hi j hj
   obtain ⟨j,rfl⟩:∃q,j=q+1:=⟨j-1,by omega⟩
   have h:i<l.length:=by omega
   have hb:=Znz (l.take i)
   have hbl:(l.take i).length≤40:=by rw [Yp];omega
   have:=ih (i+1) (by omega) j (by omega)
   rw [Z54 h] at this
   rw [Zfe.l0,dlt h,decide_eq_true (by omega:(l.length:Int)≤40),Zi h,Zn (by omega),w64 (n:=Z4b (l.take i)+1) (by omega) (by omega)]
   simp only [Yr,cond_true,Ya]
   by_cases h1:(l[i]).1=1
   ·rw [if_pos h1] at this
    rw [show ((l[i]).1==1)=true by simpa using h1]
    exact this
   ·rw [if_neg h1] at this
    rw [show ((l[i]).1==1)=false by simpa using h1]
    exact this
 have run:=key l.length 0 (Yj _) k (by omega)
 have run:Zfe.l0 k l 0 0=_:=run
 unfold Zfe
 rw [run]
 rfl
theorem Z88 (l:List Zqc) (hl:l.length≤40):∀k,41≤k→Zae k l=some (Z4b l):=by
 intro k hk
 have key:∀(d i:Nat),i+d=l.length→∀j,d<j→Zae.l0 j (Z4b (l.take i)) l (l.length:Int) (i:Int)=some (Z4b l):=by
  intro d
  induction d with
  | zero=>
   intro i hi j hj
   obtain ⟨j,rfl⟩:∃q,j=q+1:=⟨j-1,by omega⟩
   obtain rfl:i=l.length:=by omega
   unfold Zae.l0
   rw [Zy (Yc _),Yl]
   rfl
  | succ d ih=>
   intro i hi j hj
   obtain ⟨j,rfl⟩:∃q,j=q+1:=⟨j-1,by omega⟩
   have h:i<l.length:=by omega
   have hb:=Znz (l.take i)
   have hbl:(l.take i).length≤40:=by rw [Yp];omega
   have:=ih (i+1) (by omega) j (by omega)
   rw [Z54 h] at this
   rw [Zae.l0,dlt h,Zi h,Zn (by omega),w64 (n:=Z4b (l.take i)+1) (by omega) (by omega)]
   simp only [cond_true,Ya]
   by_cases h1:(l[i]).1=1
   ·rw [if_pos h1] at this
    rw [show ((l[i]).1==1)=true by simpa using h1]
    exact this
   ·rw [if_neg h1] at this
    rw [show ((l[i]).1==1)=false by simpa using h1]
    exact this
 have run:=key l.length 0 (Yj _) k (by omega)
 have run:Zae.l0 k 0 l (l.length:Int) 0=_:=run
 unfold Zae
 rw [run]
 rfl
theorem Zsi {l:List Zk} {n:Int} (h:Zbb l n=0):∀x∈Zg l,0≤x.2.1∧x.2.1≤7:=by
 obtain ⟨_,h1,h2,h3,_,_⟩:=Zvf h
 intro x hx
 unfold Zg at hx
 rw [Y3] at hx
 have hs:=h3 x hx.1
 have hw:=hx.2
 unfold isW at hw
 have h5:x.1≠5:=by simpa using hw
 unfold Z8f Zbd at hs
 rw [if_neg h5] at hs
 split at hs
 ·simp only [Yf,decide_eq_true_eq] at hs;omega
 ·split at hs
  ·simp only [Yf,decide_eq_true_eq] at hs;omega
  ·split at hs
   ·simp only [Yf,decide_eq_true_eq] at hs;omega
   ·split at hs
    ·simp only [Yf,decide_eq_true_eq] at hs;omega
    ·cases hs
theorem Zecb (l:List Zk) (n:Int) (h:Zbb l n=0):Ze fun k=>Z8i k l n=some (Zh l,0):=by
 have hl:=(Zvf h).1
 refine ((Zfz l n (by omega)).and (Ze.ge 60 fun k hk=>hk)).mono fun k hk=>?_
 unfold Z8i
 rw [decide_eq_false (by omega:¬((400:Int)<(l.length:Int))),hk.1,h,Zdcb l hl (Zsi h) k hk.2]
 rfl
end Go.Proofs.Qz
namespace Go.Proofs.Qz
open Go
set_option linter.unusedVariables false
theorem Zycb (m:Zqc) (l:List Zqc):Z4b (m::l)=(if m.1=1 then 1 else 0)+Z4b l:=by
 unfold Z4b
 rw [List.filter_cons]
 by_cases h:m.1=1
 ·rw [if_pos h,show (m.1==1)=true by simpa using h,if_pos rfl,Yv];omega
 ·rw [if_neg h,show (m.1==1)=false by simpa using h,if_neg (by simp)];omega
theorem Zgkb {w:List Zk} (hw:∀x∈w,0≤x.2.1∧x.2.1≤7):∀(n:Nat) (left:List Nat) (st:List Int),PlanI w left st→left.length+(8-st.length)≤n →
  (∀j∈left,∃i:Nat,(Zlc w n left st)[i]? = some (2,((j:Int),((wAt w j).2.1,0)))) ∧
  (∀(i:Nat) (m:Zqc),(Zlc w n left st)[i]? = some m→∃j∈left,m=(2,((j:Int),((wAt w j).2.1,0)))∨m=(1,((j:Int),((wAt w j).2.1,(st.length:Int)+Z4b ((Zlc w n left st).take i))))) ∧
  ∀(i i':Nat) (m m':Zqc),(Zlc w n left st)[i]? = some m→(Zlc w n left st)[i']? = some m'→m.1=2→m'.1=2→m.2.1=m'.2.1→i=i':=by
 intro n
 induction n with
 | zero=>
  intro left st h hn
  have:left=[]:=Yfa (by omega)
  subst this
  exact ⟨fun j hj=>(by cases hj),fun i m h=>(by cases h),fun i i' m m' h=>(by cases h)⟩
 | succ n ih=>
  intro left st h hn
  cases left with
  | nil=>exact ⟨fun j hj=>(by cases hj),fun i m h=>(by cases h),fun i i' m m' h=>(by cases h)⟩
  | cons i0 rest=>
   have hst:=Z0q h.sd h.sb
   cases hf:(i0::rest).find? (Zie w (i0::rest) st) with
   | none=>
    obtain ⟨g1,g2,g3⟩:=h.stash hw hf
    have hst':=Z0q g1.sd g1.sb
    obtain ⟨k1,k2,k3⟩:=ih _ _ g1 (by rw [g2];omega)
    have e:Zlc w (n+1) (i0::rest) st=(1,((i0:Int),((wAt w i0).2.1,(st.length:Int))))::Zlc w n (i0::rest) (Z5g (wAt w i0).2.1 st):=by simp only [Zlc,hf]
    rw [e]
    refine ⟨fun j hj=>?_,fun i m hm=>?_,fun i i' m m' hm hm' h2 h2' he=>?_⟩
    ·obtain ⟨i,hi⟩:=k1 j hj
     exact ⟨i+1,by rw [List.getElem?_cons_succ];exact hi⟩
    ·cases i with
     | zero=>
      rw [List.getElem?_cons_zero] at hm
      cases hm
      exact ⟨i0,Yi,.inr (by simp [Z4b])⟩
     | succ i=>
      rw [List.getElem?_cons_succ] at hm
      obtain ⟨j,hj,q⟩:=k2 i m hm
      refine ⟨j,hj,?_⟩
      rcases q with q | q
      ·exact .inl q
      ·refine .inr ?_
       rw [q,g2,Y7a,Zycb,if_pos rfl]
       congr 3
       omega
    ·cases i with
     | zero=>
      rw [List.getElem?_cons_zero] at hm
      cases hm
      cases h2
     | succ i=>
      cases i' with
      | zero=>
       rw [List.getElem?_cons_zero] at hm'
       cases hm'
       cases h2'
      | succ i'=>
       rw [List.getElem?_cons_succ] at hm hm'
       rw [k3 i i' m m' hm hm' h2 h2' he]
   | some i1=>
    have hi1:i1∈i0::rest:=List.mem_of_find?_eq_some hf
    have hle:((i0::rest).erase i1).length=(i0::rest).length-1:=Y0 hi1
    obtain ⟨k1,k2,k3⟩:=ih _ _ (h.done i1) (by rw [hle];simp only [Yv] at hn ⊢;omega)
    have e:Zlc w (n+1) (i0::rest) st=(2,((i1:Int),((wAt w i1).2.1,0)))::Zlc w n ((i0::rest).erase i1) st:=by simp only [Zlc,hf]
    have away:∀(i:Nat) (m:Zqc),(Zlc w n ((i0::rest).erase i1) st)[i]? = some m→m.2.1≠(i1:Int):=fun i m hm q=>by
     obtain ⟨j,hj,r⟩:=k2 i m hm
     have hj:=(h.nd.mem_erase_iff.1 hj).1
     rcases r with r | r <;> rw [r] at q <;> exact hj (by have q:(j:Int)=(i1:Int):=q;omega)
    rw [e]
    refine ⟨fun j hj=>?_,fun i m hm=>?_,fun i i' m m' hm hm' h2 h2' he=>?_⟩
    ·by_cases hj1:j=i1
     ·subst hj1
      exact ⟨0,rfl⟩
     ·obtain ⟨i,hi⟩:=k1 j (h.nd.mem_erase_iff.2 ⟨hj1,hj⟩)
      exact ⟨i+1,by rw [List.getElem?_cons_succ];exact hi⟩
    ·cases i with
     | zero=>
      rw [List.getElem?_cons_zero] at hm
      cases hm
      exact ⟨i1,hi1,.inl rfl⟩
     | succ i=>
      rw [List.getElem?_cons_succ] at hm
      obtain ⟨j,hj,q⟩:=k2 i m hm
      refine ⟨j,Yma hj,?_⟩
      rcases q with q | q
      ·exact .inl q
      ·refine .inr ?_
       rw [q,Y7a,Zycb,if_neg (show ¬((2:Int)=1) by decide)]
       congr 3
       omega
    ·cases i with
     | zero=>
      cases i' with
      | zero=>rfl
      | succ i'=>
       rw [List.getElem?_cons_zero] at hm
       rw [List.getElem?_cons_succ] at hm'
       cases hm
       exact absurd he.symm (away i' m' hm')
     | succ i=>
      cases i' with
      | zero=>
       rw [List.getElem?_cons_succ] at hm
       rw [List.getElem?_cons_zero] at hm'
       cases hm'
       exact absurd he (away i m hm)
      | succ i'=>
       rw [List.getElem?_cons_succ] at hm hm'
       rw [k3 i i' m m' hm hm' h2 h2' he]
structure PlanF (l:List Zk) (n:Int):Prop where
 all:∀j,j<(Zg l).length→∃i:Nat,(Zh l)[i]? = some (2,((j:Int),((wAt (Zg l) j).2.1,0)))
 form:∀(i:Nat) (m:Zqc),(Zh l)[i]? = some m→∃j,j<(Zg l).length∧(m=(2,((j:Int),((wAt (Zg l) j).2.1,0)))∨m=(1,((j:Int),((wAt (Zg l) j).2.1,Z4b ((Zh l).take i)))))
 one:∀(i i':Nat) (m m':Zqc),(Zh l)[i]? = some m→(Zh l)[i']? = some m'→m.1=2→m'.1=2→m.2.1=m'.2.1→i=i'
theorem Zly {l:List Zk} {n:Int} (h:Zbb l n=0):PlanF l n:=by
 have hl:=(Zvf h).1
 have hwl:(Zg l).length≤l.length:=Yo _ _
 obtain ⟨h1,h2,h3⟩:=Zgkb (Zsi h) 40 _ _ (Zoz (Zg l)) (by rw [Y1,Yla];omega)
 refine ⟨fun j hj=>h1 j (Yq.2 hj),fun i m hm=>?_,h3⟩
 obtain ⟨j,hj,q⟩:=h2 i m hm
 refine ⟨j,Yq.1 hj,?_⟩
 rcases q with q | q
 ·exact .inl q
 ·refine .inr ?_
  rw [q,Yla]
  show _=(1,((j:Int),((wAt (Zg l) j).2.1,Z4b ((Zh l).take i))))
  congr 3
  show ((0:Nat):Int)+Z4b ((Zh l).take i)=_
  omega
theorem Zzcb {l:List Zqc} {i:Nat} {m:Zqc} (h:l[i]? = some m) (h1:m.1=1):Z4b (l.take i)<Z4b l:=by
 obtain ⟨hi,rfl⟩:=List.getElem?_eq_some_iff.1 h
 have h2:Z4b (l.take (i+1))=Z4b (l.take i)+1:=by rw [Z54 hi,if_pos h1]
 have h3:Z4b (l.take (i+1))≤Z4b l:=by
  unfold Z4b
  have:=((Y6a (i+1) l).filter fun m=>m.1==1).length_le
  omega
 omega
def Z2c (base:List Str) (w:List Zk) (done:Int→Bool) (mk:Zk→Str):List Str:=
 (Yb base.length).map fun (b:Nat)=>match w.find? (fun x=>x.2.1==(b:Int)) with
  | some x=>if done (b:Int)=true then base.getD b [] else mk x
  | none=>base.getD b []
theorem Zhh (base:List Str) (w:List Zk) (done:Int→Bool) (mk:Zk→Str):(Z2c base w done mk).length=base.length:=by simp [Z2c]
theorem Z1p {base:List Str} {w:List Zk} {done:Int→Bool} {mk:Zk→Str} {b:Nat} (h:b<base.length):(Z2c base w done mk)[b]'(by rw [Zhh];exact h)=match w.find? (fun x=>x.2.1==(b:Int)) with
  | some x=>if done (b:Int)=true then base.getD b [] else mk x
  | none=>base.getD b []:=by simp [Z2c]
theorem Zo5 (base:List Str) (done:Int→Bool) (mk:Zk→Str):Z2c base [] done mk=base:=by
 refine Yva (Zhh _ _ _ _) fun b h1 h2=>?_
 rw [Z1p h2]
 show base.getD b []=_
 rw [List.getD_eq_getElem?_getD,List.getElem?_eq_getElem h2]
 rfl
theorem Zsnb {base:List Str} {w:List Zk} {done done':Int→Bool} {mk mk':Zk→Str} (h:∀x∈w,done x.2.1=done' x.2.1) (hm:∀x∈w,mk x=mk' x):Z2c base w done mk=Z2c base w done' mk':=by
 unfold Z2c
 refine List.map_congr_left fun b _=>?_
 cases hf:w.find? (fun x=>x.2.1==(b:Int)) with
 | none=>rfl
 | some x=>
  have hx:=List.mem_of_find?_eq_some hf
  have hb:x.2.1=(b:Int):=by simpa using List.find?_some hf
  have:=h x hx
  rw [hb] at this
  dsimp only
  rw [this,hm x hx]
theorem Zp5 {base:List Str} {w:List Zk} {done:Int→Bool} {mk:Zk→Str} (hn:(w.map fun x=>x.2.1).Nodup) {i:Nat} (h:i<w.length) (h0:0≤w[i].2.1) (h1:w[i].2.1<(base.length:Int)):
  Z2c base (w.take (i+1)) done mk=if done w[i].2.1=true then Z2c base (w.take i) done mk else (Z2c base (w.take i) done mk).set w[i].2.1.toNat (mk w[i]):=by
 have away:∀b:Int,w[i].2.1=b→(w.take i).find? (fun x=>x.2.1==b)=none:=fun b hb=>by
  refine List.find?_eq_none.2 fun x hx=>?_
  obtain ⟨j,hj,rfl⟩:=List.mem_iff_getElem.1 hx
  rw [Yp] at hj
  rw [Yka]
  intro q
  have q:w[j].2.1=b:=by simpa using q
  have:=List.pairwise_iff_getElem.1 hn j i (by rw [Y8];omega) (by rw [Y8];exact h) (by omega)
  rw [Yga,Yga] at this
  exact this (q.trans hb.symm)
 have hfind:∀b:Int,(w.take (i+1)).find? (fun x=>x.2.1==b)=if w[i].2.1=b then some w[i] else (w.take i).find? (fun x=>x.2.1==b):=fun b=>by
  rw [Zth h,List.find?_append]
  by_cases hb:w[i].2.1=b
  ·rw [if_pos hb,away b hb]
   simp [hb]
  ·rw [if_neg hb]
   have:([w[i]].find? fun x=>x.2.1==b)=none:=by simp [hb]
   rw [this]
   cases (w.take i).find? (fun x=>x.2.1==b) <;> rfl
 refine Yva ?_ fun b k1 k2=>?_
 ·split
  ·rw [Zhh,Zhh]
  ·rw [Zhh,Yx,Zhh]
 ·rw [Zhh] at k1
  rw [Z1p k1,hfind]
  by_cases hd:done w[i].2.1=true
  ·simp only [if_pos hd]
   rw [Z1p k1]
   by_cases hb:w[i].2.1=(b:Int)
   ·rw [if_pos hb,away _ hb]
    dsimp only
    rw [← hb,if_pos hd]
   ·rw [if_neg hb]
  ·simp only [if_neg hd]
   rw [Yja]
   by_cases hb:w[i].2.1=(b:Int)
   ·rw [if_pos hb,if_pos (by omega)]
    dsimp only
    rw [← hb,if_neg hd]
   ·rw [if_neg hb,if_neg (by omega),Z1p k1]
end Go.Proofs.Qz
namespace Go.Proofs.Qz
open Go
set_option linter.unusedVariables false
theorem Z45 (n:Nat) (p:Nat→Bool):(∀i,i<n→p i=true)∨∃m,m<n∧p m=false∧∀i,i<m→p i=true:=by
 induction n with
 | zero=>exact .inl fun i hi=>absurd hi (Yaa i)
 | succ n ih=>
  rcases ih with h | ⟨m,h1,h2,h3⟩
  ·cases hp:p n with
   | true=>
    refine .inl fun i hi=>?_
    rcases Nat.eq_or_lt_of_le (Nat.le_of_lt_succ hi) with rfl | hi
    ·exact hp
    ·exact h i hi
   | false=>exact .inr ⟨n,Nat.lt_succ_self n,hp,h⟩
  ·exact .inr ⟨m,Nat.lt_succ_of_lt h1,h2,h3⟩
theorem Zieb {α:Type} {l:List α} {q:α→Bool}:(∀x∈l,q x=true) ↔ ∀i,(h:i<l.length)→q l[i]=true:=by
 constructor
 ·exact fun h i hi=>h _ (Ye hi)
 ·intro h x hx
  obtain ⟨i,hi,rfl⟩:=Yha hx
  exact h i hi
theorem Zw9 {α:Type} (l:List α) (q:α→Bool):(l.all q=true)∨(l.all q=false∧∃m,∃h:m<l.length,q l[m]=false∧∀i,(hi:i<m)→q (l[i]'(by omega))=true):=by
 rcases Z45 l.length (fun i=>match l[i]? with | some x=>q x | none=>true) with h | ⟨m,h1,h2,h3⟩
 ·refine .inl (Ym.2 (Zieb.2 fun i hi=>?_))
  have:=h i hi
  rwa [List.getElem?_eq_getElem hi] at this
 ·rw [List.getElem?_eq_getElem h1] at h2
  replace h2:q l[m]=false:=h2
  refine .inr ⟨?_,m,h1,h2,fun i hi=>?_⟩
  ·cases ha:l.all q with
   | false=>rfl
   | true=>rw [Ym.1 ha _ (Ye h1)] at h2;cases h2
  ·have:=h3 i hi
   rwa [List.getElem?_eq_getElem (by omega)] at this
theorem Z1x {R:Type} (L:Nat→Nat→Option (Unit ⊕ R)) (n:Nat) (p:Nat→Bool) (q:Nat→R) (hs:∀i,i<n→p i=true→∀j,L (j+1) i=L j (i+1)) (hf:∀i,i<n→p i=false→∀j,L (j+1) i=some (.inr (q i))) (he:∀j,L (j+1) n=some (.inl ())):
  ((Yb n).all p=true∧∀k,n<k→L k 0=some (.inl ()))∨((Yb n).all p=false∧∃i,i<n∧p i=false∧∀k,n<k→L k 0=some (.inr (q i))):=by
 rcases Z45 n p with h | ⟨m,h1,h2,h3⟩
 ·refine .inl ⟨Ym.2 fun i hi=>h i (Yq.1 hi),Zzb L n _ (fun i hi=>hs i hi (h i hi)) he⟩
 ·refine .inr ⟨?_,m,h1,h2,fun k hk=>Zzb L m _ (fun i hi=>hs i (by omega) (h3 i hi)) (hf m h1 h2) k (by omega)⟩
  cases ha:(Yb n).all p with
  | false=>rfl
  | true=>rw [Ym.1 ha m (Yq.2 h1)] at h2;cases h2
end Go.Proofs.Qz
namespace Go.Proofs.Qz
open Go
set_option linter.unusedVariables false
def Zbk (s:Str):Bool:=decide (s.length=8)
def Z3h (l:List Str):Bool:=(decide (1≤l.length)&&decide (l.length≤8))&&l.all Zbk
theorem Zo4 (l:List Str) {k:Nat} (hk:100≤k):Zpc k l=some (Z3h l):=by
 unfold Zpc Z3h
 by_cases h1:1≤l.length
 ·by_cases h2:l.length≤8
  ·rw [decide_eq_false (by omega:¬((l.length:Int)<1)),decide_eq_false (by omega:¬(8<(l.length:Int))),decide_eq_true h1,decide_eq_true h2]
   simp only [Yra,cond_false,Yr,Yz]
   have good:∀i,(h:i<l.length)→Zbk l[i]=true→∀j,Zpc.l0 (j+1) l (i:Int)=Zpc.l0 j l ((i+1:Nat):Int):=fun i h hb j=>by
    have hb:l[i].length=8:=by simpa [Zbk] using hb
    conv=>lhs;unfold Zpc.l0
    rw [dlt h,Zi h,Zn (by omega)]
    simp only [cond_true,Ya,hb]
    rfl
   rcases Zw9 l Zbk with h | ⟨h,m,hm,h3,h4⟩
   ·have run:=Zzb (fun j i=>Zpc.l0 j l (i:Int)) l.length (.inl ()) (fun i hi j=>good i hi (Ym.1 h _ (Ye hi)) j) (fun j=>by
     show Zpc.l0 (j+1) l (l.length:Int)=_
     unfold Zpc.l0
     rw [Zy (Yc _)]
     rfl) k (by omega)
    have run:Zpc.l0 k l 0=some (.inl ()):=run
    rw [run,h]
    rfl
   ·have run:=Zzb (fun j i=>Zpc.l0 j l (i:Int)) m (.inr false) (fun i hi j=>good i (by omega) (h4 i hi) j) (fun j=>by
     show Zpc.l0 (j+1) l (m:Int)=_
     have hb:l[m].length≠8:=by simpa [Zbk] using h3
     unfold Zpc.l0
     rw [dlt hm,Zi hm]
     simp only [cond_true,Ya]
     rw [show ((l[m].length:Int) != 8)=true by simp;omega]
     rfl) k (by omega)
    have run:Zpc.l0 k l 0=some (.inr false):=run
    rw [run,h]
    rfl
  ·rw [decide_eq_true (by omega:8<(l.length:Int)),decide_eq_false h2]
   simp
 ·rw [decide_eq_true (by omega:(l.length:Int)<1),decide_eq_false h1]
  simp
theorem Z2hb (l:List Str) {k:Nat} (hk:100≤k):Zio k l=some (Z3h l):=by
 have hb:Zmj (l.length:Int)=some (decide (1≤(l.length:Int))&&decide ((l.length:Int)≤8)):=rfl
 have hz:Z5h l=some (l.length:Int):=rfl
 unfold Zio Z3h
 refine Za hz (Za hb ?_)
 by_cases h1:1≤l.length
 ·by_cases h2:l.length≤8
  ·rw [decide_eq_true (by omega:(1:Int)≤(l.length:Int)),decide_eq_true (by omega:(l.length:Int)≤8),decide_eq_true h1,decide_eq_true h2]
   simp only [cond_true,Yr,Yz]
   have good:∀i,(h:i<l.length)→Zbk l[i]=true→∀j,Zed.l0 (j+1) l (l.length:Int) (i:Int)=Zed.l0 j l (l.length:Int) ((i+1:Nat):Int):=fun i h hb j=>by
    have hb:l[i].length=8:=by simpa [Zbk] using hb
    conv=>lhs;unfold Zed.l0
    rw [dlt h,Zi h,Zn (by omega)]
    simp only [cond_true,Ya,Zjo,hb]
    rfl
   unfold Zar Zed
   rcases Zw9 l Zbk with h | ⟨h,m,hm,h3,h4⟩
   ·have run:=Zzb (fun j i=>Zed.l0 j l (l.length:Int) (i:Int)) l.length (.inl ()) (fun i hi j=>good i hi (Ym.1 h _ (Ye hi)) j) (fun j=>by
     show Zed.l0 (j+1) l (l.length:Int) (l.length:Int)=_
     unfold Zed.l0
     rw [Zy (Yc _)]
     rfl) k (by omega)
    have run:Zed.l0 k l (l.length:Int) 0=some (.inl ()):=run
    rw [run,h]
    rfl
   ·have run:=Zzb (fun j i=>Zed.l0 j l (l.length:Int) (i:Int)) m (.inr (m:Int)) (fun i hi j=>good i (by omega) (h4 i hi) j) (fun j=>by
     show Zed.l0 (j+1) l (l.length:Int) (m:Int)=_
     have hb:l[m].length≠8:=by simpa [Zbk] using h3
     unfold Zed.l0
     rw [dlt hm,Zi hm]
     simp only [cond_true,Ya,Zjo]
     rw [show ((l[m].length:Int) != 8)=true by simp;omega]
     rfl) k (by omega)
    have run:Zed.l0 k l (l.length:Int) 0=some (.inr (m:Int)):=run
    rw [run,h]
    simp only [Ya]
    rw [decide_eq_true (by omega:(0:Int)≤(m:Int))]
    rfl
  ·rw [decide_eq_false (by omega:¬((l.length:Int)≤8)),decide_eq_false h2]
   simp
 ·rw [decide_eq_false (by omega:¬((1:Int)≤(l.length:Int))),decide_eq_false h1]
  simp
theorem Zpu {l:List Str} (h:Z3h l=true):1≤l.length∧l.length≤8∧∀s∈l,s.length=8:=by
 unfold Z3h at h
 simp only [Yf,decide_eq_true_eq] at h
 exact ⟨h.1.1,h.1.2,fun s hs=>by simpa [Zbk] using Ym.1 h.2 s hs⟩
theorem Z01:∀(l:List Str) (n:Nat),(∀s∈l,s.length≤n)→l.flatten.length≤n*l.length
 | [],n,_=>by simp
 | x::l,n,h=>by
  have h1:=h x Yi
  have h2:=Z01 l n fun s hs=>h s (List.mem_cons_of_mem _ hs)
  rw [List.flatten_cons,Y0a,Yv,Nat.mul_succ]
  omega
end Go.Proofs.Qz
namespace Go.Proofs.Qz
open Go
set_option linter.unusedVariables false
def mtL:Nat→Int→Str→Str
 | 0,_,o=>o
 | d+1,n,o=>if 0<n then mtL d (n.tdiv 10) (Zlb [Y7 .u8 (Y7 .i64 (48+n.tmod 10))]++o) else o
def mt (n:Int):Str:=if n≤0 then [109,48] else [109]++mtL 20 n []
theorem Z79:∀(d:Nat) (n:Int) (o:Str),(mtL d n o).length≤o.length+d
 | 0,_,_=>Yc _
 | d+1,n,o=>by
  unfold mtL
  split
  ·have:=Z79 d (n.tdiv 10) (Zlb [Y7 .u8 (Y7 .i64 (48+n.tmod 10))]++o)
   simp [Zlb] at this ⊢
   omega
  ·omega
theorem Z09:∀(d:Nat) (n:Int) (o:Str) (j:Nat),n<10^d→n<9223372036854775808→o.length+d≤1000→d<j→Zyc.l0 j n o=some (mtL d n o)
 | d,n,o,0,_,_,_,h=>absurd h (Yaa d)
 | 0,n,o,j+1,h,_,_,_=>by
  have:¬(0<n):=by
   have:n<1:=h
   omega
  unfold Zyc.l0 mtL
  rw [decide_eq_false this]
  rfl
 | d+1,n,o,j+1,h,hb,ho,hj=>by
  unfold Zyc.l0 mtL
  by_cases hn:0<n
  ·have e:n.tdiv 10=n/10:=Int.tdiv_eq_ediv_of_nonneg (by omega)
   rw [decide_eq_true hn,if_pos hn,Z9o (by omega:(10:Int)≠0)]
   simp only [cond_true,Ya]
   rw [Zrc (by simp [Zlb];omega)]
   simp only [Ya]
   rw [w64 (by rw [e];omega) (by rw [e];omega)]
   refine Z09 d (n.tdiv 10) _ j ?_ (by rw [e];omega) (by simp [Zlb];omega) (by omega)
   rw [e]
   have h':n<10^d*10:=by rw [← Int.pow_succ];exact h
   omega
  ·rw [decide_eq_false hn,if_neg hn]
   rfl
theorem Z3x (n:Int) (h:n<9223372036854775808):Ze fun k=>Zyc k n=some (mt n):=by
 refine ⟨21,fun k hk=>?_⟩
 unfold Zyc mt
 by_cases hn:n≤0
 ·rw [decide_eq_true hn,if_pos hn];rfl
 ·rw [decide_eq_false hn,if_neg hn]
  simp only [cond_false]
  have h20:n<10^20:=by
   have:(10:Int)^20=100000000000000000000:=by rfl
   omega
  rw [Z09 20 n [] k h20 h (by simp) (by omega)]
  simp only [Ya]
  have hl:=Z79 20 n []
  rw [Zrc (by simp at hl ⊢;omega)]
  rfl
def Z4x (n:Nat) (k:Int):List Str:=(Yb n).map fun (i:Nat)=>mt (k+(i:Int))
theorem Zos {β:Type} (l:List β) (f:Nat→β) (i:Nat) (h:i<l.length):((Yb i).map f++l.drop i).set i (f i)=(Yb (i+1)).map f++l.drop (i+1):=by
 rw [List.set_append_right _ _ (by simp),Y8,Y1,Yoa,Yda h,List.set_cons_zero,List.range_succ,Y1a,Yn]
 rfl
theorem Z2l {β:Type} (l:List β) (f:Nat→β) (i:Nat) (h:i≤l.length):((Yb i).map f++l.drop i).length=l.length:=by simp;omega
theorem Zm6 {α:Type} {l:List α} {i:Nat} {x:α} (h:i<l.length):at? (l.set i x) (i:Int)=some x:=by
 rw [Zi (by rw [Yx];exact h),List.getElem_set_self]
end Go.Proofs.Qz
namespace Go.Proofs.Qz
open Go
set_option linter.unusedVariables false
def Ev {α:Type} (f:Nat→Option α) (Q:α→Prop):Prop:=∃p,Q p∧Ze fun k=>f k=some p
theorem Ev.bind {α β:Type} {f:Nat→Option α} {g:Nat→α→Option β} {Q:α→Prop} {R:β→Prop} (h:Ev f Q) (k:∀p,Q p→Ev (fun k=>g k p) R):Ev (fun k=>(f k).bind (g k)) R:=by
 obtain ⟨p,hp,e⟩:=h
 obtain ⟨q,hq,e2⟩:=k p hp
 exact ⟨q,hq,(e.and e2).mono fun k h=>(congrArg (fun z=>Option.bind z (g k)) h.1).trans h.2⟩
theorem Ev.ret {α:Type} {p:α} {Q:α→Prop} (h:Q p):Ev (fun _=>some p) Q:=⟨p,h,Ze.of fun _=>rfl⟩
theorem Ev.of {α:Type} {x:Option α} {Q:α→Prop} (h:∃p,x=some p∧Q p):Ev (fun _=>x) Q:=by
 obtain ⟨p,e,h⟩:=h
 exact ⟨p,h,Ze.of fun _=>e⟩
theorem Ev.mono {α:Type} {f:Nat→Option α} {Q R:α→Prop} (h:Ev f Q) (k:∀p,Q p→R p):Ev f R:=by
 obtain ⟨p,hp,e⟩:=h
 exact ⟨p,k p hp,e⟩
theorem Ev.cond {α:Type} {b:Bool} {f g:Nat→Option α} {Q:α→Prop} (h1:b=true→Ev f Q) (h2:b=false→Ev g Q):Ev (fun k=>bif b then f k else g k) Q:=by
 cases b with
 | true=>exact h1 rfl
 | false=>exact h2 rfl
theorem Zkjb {S R:Type} (L:Nat→Nat→S→Option R) (m:S→Nat) (I:S→Prop) (Q:R→Prop) (step:∀s,I s→(∃r,(Ze fun k=>∀j,L k (j+1) s=some r)∧Q r)∨∃s',I s'∧m s'<m s∧Ze fun k=>∀j,L k (j+1) s=L k j s'):∀(n:Nat) (s:S),I s→m s≤n→∃r,Q r∧Ze fun k=>∀j,n<j→L k j s=some r:=by
 intro n
 induction n with
 | zero=>
  intro s hi hm
  rcases step s hi with ⟨r,hr,hq⟩ | ⟨s',_,hm',_⟩
  ·refine ⟨r,hq,hr.mono fun k hr j hj=>?_⟩
   obtain ⟨j,rfl⟩:∃q,j=q+1:=⟨j-1,by omega⟩
   exact hr j
  ·omega
 | succ n ih=>
  intro s hi hm
  rcases step s hi with ⟨r,hr,hq⟩ | ⟨s',hi',hm',hs⟩
  ·refine ⟨r,hq,hr.mono fun k hr j hj=>?_⟩
   obtain ⟨j,rfl⟩:∃q,j=q+1:=⟨j-1,by omega⟩
   exact hr j
  ·obtain ⟨r,hq,hr⟩:=ih s' hi' (by omega)
   refine ⟨r,hq,(hr.and hs).mono fun k h j hj=>?_⟩
   obtain ⟨j,rfl⟩:∃q,j=q+1:=⟨j-1,by omega⟩
   rw [h.2 j]
   exact h.1 j (by omega)
theorem Ev.loop {S R:Type} (L:Nat→Nat→S→Option R) (m:S→Nat) (I:S→Prop) (Q:R→Prop) (s:S) (hs:I s) (step:∀s,I s→(∃r,(Ze fun k=>∀j,L k (j+1) s=some r)∧Q r)∨∃s',I s'∧m s'<m s∧Ze fun k=>∀j,L k (j+1) s=L k j s'):Ev (fun k=>L k k s) Q:=by
 obtain ⟨r,hq,K,h⟩:=Zkjb L m I Q step (m s) s hs (Yc _)
 exact ⟨r,hq,K+m s+1,fun k hk=>h k (by omega) k (by omega)⟩
end Go.Proofs.Qz
namespace Go.Proofs.Qz
open Go
set_option linter.unusedVariables false
abbrev Zih:=Int×Str
abbrev Zpd:=List Str×List Zih
abbrev Zv:=Int×Zpd
theorem Zbdb {α:Type} (L:Nat→Int→Int→Option (Int ⊕ Int)) (l:List α) (len:α→Nat) (n:Int) (h0:0≤n)
  (hs:∀i,(h:i<l.length)→∀s,0≤s→s≤n→∀j,L (j+1) s (i:Int)=if s<(len l[i]:Int) then some (.inr (-1)) else L j (s-(len l[i]:Int)) ((i+1:Nat):Int))
  (he:∀s j,L (j+1) s (l.length:Int)=some (.inl s)):Ev (fun k=>L k n 0) fun r=>(∃v,r = .inl v∧0≤v∧v≤n∧∀x∈l,(len x:Int)≤n)∨r = .inr (-1):=by
 refine Ev.loop (fun k j (z:Int×Nat)=>L j z.1 (z.2:Int)) (fun z=>l.length-z.2) (fun z=>0≤z.1∧z.1≤n∧z.2≤l.length∧∀x∈l.take z.2,(len x:Int)≤n) _ (n,0) ⟨h0,Int.le_refl _,Y6 _,fun x hx=>by simp at hx⟩ ?_
 rintro ⟨s,i⟩ ⟨q0,q1,q2,q3⟩
 have q0:0≤s:=q0
 have q1:s≤n:=q1
 have q2:i≤l.length:=q2
 by_cases hi:i<l.length
 ·by_cases hb:s<(len l[i]:Int)
  ·left
   refine ⟨.inr (-1),Ze.of fun k j=>?_,.inr rfl⟩
   show L (j+1) s (i:Int)=_
   rw [hs i hi s q0 q1,if_pos hb]
  ·right
   refine ⟨(s-(len l[i]:Int),i+1),⟨by show 0≤s-_;omega,by show s-_≤n;omega,hi,fun x hx=>?_⟩,by show l.length-(i+1)<l.length-i;omega,Ze.of fun k j=>?_⟩
   ·have hx:x∈l.take (i+1):=hx
    rw [Zth hi] at hx
    rcases Y2.1 hx with hx | hx
    ·exact q3 x hx
    ·rw [Yk.1 hx];omega
   ·show L (j+1) s (i:Int)=L j (s-(len l[i]:Int)) ((i+1:Nat):Int)
    rw [hs i hi s q0 q1,if_neg hb]
 ·left
  obtain rfl:i=l.length:=by omega
  refine ⟨.inl s,Ze.of fun k j=>he s j,.inl ⟨s,rfl,q0,q1,fun x hx=>q3 x (by rw [Yl];exact hx)⟩⟩
theorem Zcnb (l:List Str) (n:Int) (hl:l.length≤140737488351232) (hx:∀x∈l,x.length≤140737488351232) (h0:0≤n) (h1:n≤1048576):Ev (fun k=>Z5e k l n) fun v=>v≤n∧(0≤v→(l.length:Int)≤n∧∀x∈l,(x.length:Int)≤n):=by
 unfold Z5e
 rw [w64 (n:=n-(l.length:Int)) (by omega) (by omega)]
 refine Ev.cond (fun h=>Ev.ret ⟨by omega,fun h=>by omega⟩) fun h=>?_
 have h:0≤n-(l.length:Int):=by simpa using h
 refine Ev.bind (Zbdb (fun j s i=>Z5e.l0 j l s i) l List.length (n-(l.length:Int)) h (fun i hi s s0 s1 j=>?_) fun s j=>?_) fun r hr=>?_
 ·show Z5e.l0 (j+1) l s (i:Int)=_
  have hb:=hx _ (Ye hi)
  rw [Z5e.l0,dlt hi,Zi hi,Zn (by omega),]
  simp only [cond_true,Ya]
  rw [w64 (n:=s-((l[i]).length:Int)) (by omega) (by omega)]
  by_cases hc:s<((l[i]).length:Int)
  ·rw [if_pos hc,decide_eq_true (by omega:s-((l[i]).length:Int)<0)];rfl
  ·rw [if_neg hc,decide_eq_false (by omega:¬(s-((l[i]).length:Int)<0))];rfl
 ·show Z5e.l0 (j+1) l s (l.length:Int)=_
  unfold Z5e.l0
  rw [Zy (Yc _)]
  rfl
 ·rcases hr with ⟨v,rfl,v0,v1,v2⟩ | rfl
  ·exact Ev.ret ⟨by omega,fun _=>⟨by omega,fun x hx=>by have:=v2 x hx;omega⟩⟩
  ·exact Ev.ret ⟨by omega,fun h=>by omega⟩
theorem Z9mb (l:List Zih) (n:Int) (hl:l.length≤140737488351232) (hx:∀x∈l,x.2.length≤140737488351232) (h0:0≤n) (h1:n≤1048576):Ev (fun k=>Z4e k l n) fun v=>v≤n∧(0≤v→(l.length:Int)≤n∧∀x∈l,(x.2.length:Int)≤n):=by
 unfold Z4e
 rw [w64 (n:=n-(l.length:Int)) (by omega) (by omega)]
 refine Ev.cond (fun h=>Ev.ret ⟨by omega,fun h=>by omega⟩) fun h=>?_
 have h:0≤n-(l.length:Int):=by simpa using h
 refine Ev.bind (Zbdb (fun j s i=>Z4e.l0 j l s i) l (fun x=>x.2.length) (n-(l.length:Int)) h (fun i hi s s0 s1 j=>?_) fun s j=>?_) fun r hr=>?_
 ·show Z4e.l0 (j+1) l s (i:Int)=_
  have hb:=hx _ (Ye hi)
  have e:Z3o l[i] s=some (if s<((l[i]).2.length:Int) then -1 else s-((l[i]).2.length:Int)):=by
   unfold Z3o
   rw [w64 (n:=s-((l[i]).2.length:Int)) (by omega) (by omega)]
   dsimp only
   by_cases hc:s<((l[i]).2.length:Int)
   ·rw [if_pos hc,decide_eq_true (by omega:s-((l[i]).2.length:Int)<0)];rfl
   ·rw [if_neg hc,decide_eq_false (by omega:¬(s-((l[i]).2.length:Int)<0))];rfl
  rw [Z4e.l0,dlt hi,Zi hi,Zn (by omega)]
  simp only [cond_true,Ya]
  rw [e]
  simp only [Ya]
  by_cases hc:s<((l[i]).2.length:Int)
  ·rw [if_pos hc,if_pos hc];rfl
  ·rw [if_neg hc,if_neg hc,decide_eq_false (by omega:¬(s-((l[i]).2.length:Int)<0))];rfl
 ·show Z4e.l0 (j+1) l s (l.length:Int)=_
  unfold Z4e.l0
  rw [Zy (Yc _)]
  rfl
 ·rcases hr with ⟨v,rfl,v0,v1,v2⟩ | rfl
  ·exact Ev.ret ⟨by omega,fun _=>⟨by omega,fun x hx=>by have:=v2 x hx;omega⟩⟩
  ·exact Ev.ret ⟨by omega,fun h=>by omega⟩
def Z3z (f:Zpd):Prop:=(f.1.length≤140737488351232∧∀x∈f.1,x.length≤140737488351232)∧f.2.length≤140737488351232∧∀x∈f.2,x.2.length≤140737488351232
def Znt (f:Zpd) (n:Int):Prop:=((f.1.length:Int)≤n∧∀x∈f.1,(x.length:Int)≤n)∧(f.2.length:Int)≤n∧∀x∈f.2,(x.2.length:Int)≤n
theorem Zanb (f:Zpd) (n:Int) (hb:Z3z f) (h0:0≤n) (h1:n≤1048576):Ev (fun k=>Z4o k f n) fun v=>v≤n∧(0≤v→Znt f n):=by
 unfold Z4o
 refine Ev.bind (Zcnb f.1 n hb.1.1 hb.1.2 h0 h1) fun v hv=>Ev.cond (fun _=>Ev.ret ⟨by omega,fun h=>by omega⟩) fun hc=>?_
 have hc:0≤v:=by simpa using hc
 refine Ev.bind (Z9mb f.2 v hb.2.1 hb.2.2 hc (by omega)) fun u hu=>Ev.cond (fun _=>Ev.ret ⟨by omega,fun h=>by omega⟩) fun hd=>Ev.ret ⟨by omega,fun hu0=>?_⟩
 obtain ⟨a1,a2⟩:=hv.2 hc
 obtain ⟨b1,b2⟩:=hu.2 hu0
 exact ⟨⟨a1,a2⟩,by omega,fun x hx=>by have:=b2 x hx;omega⟩
theorem Zbnb (m:Zv) (n:Int) (hb:Z3z m.2) (h0:0≤n) (h1:n≤1048576):Ev (fun k=>Z5o k m n) fun v=>v≤n∧(0≤v→Znt m.2 n):=by
 unfold Z5o
 exact Ev.bind (Zanb m.2 n hb h0 h1) fun v hv=>Ev.cond (fun _=>Ev.ret ⟨by omega,fun h=>by omega⟩) fun _=>Ev.ret hv
theorem Zlnb (l:List Str) (hl:l.length≤1048576):Ze fun k=>Z7e k l=some l:=by
 refine Ze.ge (l.length+1) fun k hk=>?_
 unfold Z7e
 rw [Z1u (by omega)]
 simp only [Ya]
 rw [Zzw (fun j i c=>Z7e.l0 j l i c) l ([]:Str) (fun i hi c hc j=>by
  show Z7e.l0 (j+1) l (i:Int) c=_
  rw [Z7e.l0,dlt hi,Zi hi,Zi (by omega:i<c.length),Zn (by omega)]
  rfl) (fun c j=>by
  show Z7e.l0 (j+1) l (l.length:Int) c=_
  unfold Z7e.l0
  rw [Zy (Yc _)]
  rfl) (k:=k) (by omega)]
 rfl
theorem Zhnb (l:List Zih) (hl:l.length≤1048576):Ze fun k=>Z6e k l=some l:=by
 refine Ze.ge (l.length+1) fun k hk=>?_
 unfold Z6e
 rw [Z1u (by omega)]
 simp only [Ya]
 rw [Zzw (fun j i c=>Z6e.l0 j l i c) l ((0,[]):Zih) (fun i hi c hc j=>by
  show Z6e.l0 (j+1) l (i:Int) c=_
  rw [Z6e.l0,dlt hi,Zi hi,Zi (by omega:i<c.length),Zn (by omega)]
  rfl) (fun c j=>by
  show Z6e.l0 (j+1) l (l.length:Int) c=_
  unfold Z6e.l0
  rw [Zy (Yc _)]
  rfl) (k:=k) (by omega)]
 rfl
theorem Zinb (f:Zpd) (n:Int) (hf:Znt f n) (hn:n≤1048576):Ze fun k=>Z6o k f=some f:=by
 have h1:=hf.1.1
 have h2:=hf.2.1
 refine ((Zlnb f.1 (by omega)).and (Zhnb f.2 (by omega))).mono fun k ⟨e1,e2⟩=>?_
 unfold Z6o
 rw [e1,e2]
 rfl
theorem Zknb (m:Zv) (n:Int) (hf:Znt m.2 n) (hn:n≤1048576):Ze fun k=>Zyk k m=some m:=by
 refine (Zinb m.2 n hf hn).mono fun k e=>?_
 unfold Zyk
 rw [e]
 rfl
theorem Z5fb (l:List Str) (hl:l.length≤1048576):Ze fun k=>Zmf k l l=some true:=by
 have key:Ze fun k=>Zmf.l0 k l l 0=some (.inl ()):=by
  refine Z0x (fun j i=>Zmf.l0 j l l (i:Int)) l.length _ (fun i hi j=>?_) fun j=>?_
  ·conv=>lhs;unfold Zmf.l0
   rw [dlt hi,Zi hi,Zn (by omega)]
   simp only [cond_true,Ya,beq_self_eq_true,Yh,cond_false]
  ·conv=>lhs;unfold Zmf.l0
   rw [Zy (Yc _)]
   rfl
 refine key.mono fun k hk=>?_
 unfold Zmf
 rw [hk]
 simp
theorem Z2fb (l:List Zih) (hl:l.length≤1048576):Ze fun k=>Zkf k l l=some true:=by
 have hd:∀x:Zih,Zyo x x=some true:=fun x=>by
  unfold Zyo
  simp only [bne_self_eq_false,beq_self_eq_true,Yh,cond_false]
 have key:Ze fun k=>Zkf.l0 k l l 0=some (.inl ()):=by
  refine Z0x (fun j i=>Zkf.l0 j l l (i:Int)) l.length _ (fun i hi j=>?_) fun j=>?_
  ·conv=>lhs;unfold Zkf.l0
   rw [dlt hi,Zi hi,Zn (by omega)]
   simp only [cond_true,Ya,hd,Yh,cond_false]
  ·conv=>lhs;unfold Zkf.l0
   rw [Zy (Yc _)]
   rfl
 refine key.mono fun k hk=>?_
 unfold Zkf
 rw [hk]
 simp
theorem Z3fb (l:List Int) (hl:l.length≤1048576):Ze fun k=>Zlf k l l=some true:=by
 have key:Ze fun k=>Zlf.l0 k l l 0=some (.inl ()):=by
  refine Z0x (fun j i=>Zlf.l0 j l l (i:Int)) l.length _ (fun i hi j=>?_) fun j=>?_
  ·conv=>lhs;unfold Zlf.l0
   rw [dlt hi,Zi hi,Zn (by omega)]
   simp only [cond_true,Ya,bne_self_eq_false,cond_false]
  ·conv=>lhs;unfold Zlf.l0
   rw [Zy (Yc _)]
   rfl
 refine key.mono fun k hk=>?_
 unfold Zlf
 rw [hk]
 simp
theorem Z4fb (m:Zv) (n:Int) (hf:Znt m.2 n) (hn:n≤1048576):Ze fun k=>Zzo k m m=some true:=by
 have h1:=hf.1.1
 have h2:=hf.2.1
 refine ((Z5fb m.2.1 (by omega)).and (Z2fb m.2.2 (by omega))).mono fun k ⟨e1,e2⟩=>?_
 unfold Zzo Zwq
 rw [e1,e2]
 simp only [bne_self_eq_false,Ya,Yh,cond_false]
end Go.Proofs.Qz
namespace Go.Proofs.Qz
open Go
set_option linter.unusedVariables false
theorem Zgjb (s:Str):Zlb (Zdb s)=s:=by
 unfold Zlb Zdb
 rw [List.map_map]
 have:((fun n:Int=>UInt8.ofNat n.toNat) ∘ fun b:UInt8=>(b.toNat:Int))=id:=by
  funext b
  simp
 rw [this,List.map_id]
theorem Zfjb (a b:List Int):Zlb (a++b)=Zlb a++Zlb b:=by simp [Zlb]
theorem Zv0 (a b:Str):Zdb (a++b)=Zdb a++Zdb b:=by simp [Zdb]
theorem Zw0 (s:Str):(Zdb s).length=s.length:=by simp [Zdb]
end Go.Proofs.Qz
namespace Go.Proofs.Qz
open Go
set_option linter.unusedVariables false
def xb (a b:Str) (i:Nat):Int:=intBits .xor .u8 ((a.getD i 0).toNat:Int) ((b.getD i 0).toNat:Int)
def Z0z (a b:Str):Str:=Zlb ((Yb 8).map (xb a b))
def Znr (a b:Str):Str:=if a.length=8∧b.length=8 then Z0z a b else []
theorem Zi0 {s:Str} {i:Nat} (h:i<s.length):at? s (i:Int)=some (s.getD i 0):=by
 rw [Zi h,List.getD_eq_getElem?_getD,List.getElem?_eq_getElem h]
 rfl
theorem Z0ib {a b:Str} (ha:a.length=8) (hb:b.length=8) {k:Nat} (hk:10≤k):Zif k a b=some (Z0z a b):=by
 have hbl:(Zdb a).length=8:=by rw [Zw0,ha]
 have run:=Zzb (fun j i=>Zif.l0 j b ((Zdb a).length:Int) (i:Int) ((Yb i).map (xb a b)++(Zdb a).drop i)) 8 ((Yb 8).map (xb a b)) (fun i hi j=>?_) (fun j=>?_) k (by omega)
 ·have run:Zif.l0 k b ((Zdb a).length:Int) 0 (Zdb a)=some ((Yb 8).map (xb a b)):=run
  unfold Zif
  exact Za (Zmbb (by omega)) (Za run rfl)
 ·have hl:=Z2l (Zdb a) (xb a b) i (by omega)
  have hat:at? ((Yb i).map (xb a b)++(Zdb a).drop i) (i:Int)=some ((a.getD i 0).toNat:Int):=by
   rw [Zi (by rw [hl];omega)]
   rw [List.getElem_append_right (by simp)]
   simp only [Y8,Y1,Yoa,List.getElem_drop,Y8a]
   unfold Zdb
   rw [Yga,List.getD_eq_getElem?_getD,List.getElem?_eq_getElem (by omega)]
   rfl
  conv=>lhs;unfold Zif.l0
  rw [decide_eq_true (by omega:(i:Int)<((Zdb a).length:Int)),Zn (by omega),cond_true]
  refine Za hat (Za hat (Za (Zi0 (by omega)) (Za hat (Za hat ?_))))
  have:=Zos (Zdb a) (xb a b) i (by omega)
  rw [Yg,show intBits .xor .u8 ((a.getD i 0).toNat:Int) ((b.getD i 0).toNat:Int)=xb a b i from rfl,this]
 ·conv=>lhs;unfold Zif.l0
  rw [hbl,List.drop_of_length_le (by omega),Yt]
  rfl
theorem Zomb (a b:Str) {k:Nat} (hk:10≤k):Zqf k a b=some (Znr a b):=by
 unfold Znr Zqf
 by_cases h:a.length=8∧b.length=8
 ·obtain ⟨ha,hb⟩:=h
  rw [if_pos ⟨ha,hb⟩,show (((a.length:Int) != 8)||((b.length:Int) != 8))=false by rw [ha,hb];rfl,cond_false]
  have hm:Zlg 1 8 8 (0:Int)=some (Yd 8 0):=rfl
  have run:=Zzb (fun j i=>Zqf.l0 j a b (i:Int) ((Yb i).map (xb a b)++(Yd 8 (0:Int)).drop i)) 8 ((Yb 8).map (xb a b)) (fun i hi j=>?_) (fun j=>?_) k (by omega)
  ·have run:Zqf.l0 k a b 0 (Yd 8 0)=some ((Yb 8).map (xb a b)):=run
   exact Za hm (Za run rfl)
  ·have hl:=Z2l (Yd 8 (0:Int)) (xb a b) i (by simp;omega)
   rw [Yw] at hl
   obtain ⟨z,hat⟩:∃z,at? ((Yb i).map (xb a b)++(Yd 8 (0:Int)).drop i) (i:Int)=some z:=⟨_,Zi (by rw [hl];exact hi)⟩
   conv=>lhs;unfold Zqf.l0
   rw [decide_eq_true (by omega:(i:Int)<8),Zn (by omega),cond_true]
   refine Za (Zi0 (by omega)) (Za (Zi0 (by omega)) (Za hat (Za hat ?_)))
   have:=Zos (Yd 8 (0:Int)) (xb a b) i (by simp;omega)
   rw [Yg,show intBits .xor .u8 ((a.getD i 0).toNat:Int) ((b.getD i 0).toNat:Int)=xb a b i from rfl,this]
  ·conv=>lhs;unfold Zqf.l0
   rfl
 ·rw [if_neg h,show (((a.length:Int) != 8)||((b.length:Int) != 8))=true by
   rw [Yca]
   by_cases ha:a.length=8
   ·right;simp;omega
   ·left;simp;omega]
  rfl
def Zu5:Str:=[0,0,0,0,0,0,0,0]
def Z0g (x:Zk) (s:Str):Str:=if x.1=1 then Zu5 else if x.1=2 then x.2.2.2 else if x.1=3 then s else Znr s x.2.2.2
theorem Zbz (x:Zk) (s:Str) {k:Nat} (hk:10≤k):Zmk k x s=some (Z0g x s):=by
 have hz:Zer=some Zu5:=rfl
 unfold Zmk Z0g
 by_cases h1:x.1=1
 ·rw [if_pos h1,show (x.1==1)=true by simpa using h1]
  exact Za hz rfl
 ·rw [if_neg h1,show (x.1==1)=false by simpa using h1,cond_false]
  by_cases h2:x.1=2
  ·rw [if_pos h2,show (x.1==2)=true by simpa using h2]
   rfl
  ·rw [if_neg h2,show (x.1==2)=false by simpa using h2,cond_false]
   by_cases h3:x.1=3
   ·rw [if_pos h3,show (x.1==3)=true by simpa using h3]
    rfl
   ·rw [if_neg h3,show (x.1==3)=false by simpa using h3,cond_false]
    exact Za (Zomb _ _ hk) rfl
theorem Zf2 {x:Zk} {s:Str} (h:x.1=1∨x.1=2∨x.1=3∨(s.length=8∧x.2.2.2.length=8)) {k:Nat} (hk:10≤k):Zxl k x s=some (Z0g x s):=by
 unfold Zxl Z0g
 by_cases h1:x.1=1
 ·rw [if_pos h1,show (x.1==1)=true by simpa using h1]
  rfl
 ·rw [if_neg h1,show (x.1==1)=false by simpa using h1,cond_false]
  by_cases h2:x.1=2
  ·rw [if_pos h2,show (x.1==2)=true by simpa using h2]
   rfl
  ·rw [if_neg h2,show (x.1==2)=false by simpa using h2,cond_false]
   by_cases h3:x.1=3
   ·rw [if_pos h3,show (x.1==3)=true by simpa using h3]
    rfl
   ·rw [if_neg h3,show (x.1==3)=false by simpa using h3,cond_false]
    obtain ⟨a,b⟩:s.length=8∧x.2.2.2.length=8:=by
     rcases h with h | h | h | h
     ·exact absurd h h1
     ·exact absurd h h2
     ·exact absurd h h3
     ·exact h
    refine Za (Z0ib a b hk) ?_
    unfold Znr
    rw [if_pos ⟨a,b⟩]
structure WriteOk (x:Zk) (n:Int):Prop where
 kind:x.1=1∨x.1=2∨x.1=3∨(x.1=4∧x.2.2.2.length=8)
 tgt:0≤x.2.1∧x.2.1<n
 src:0≤x.2.2.1∧x.2.2.1<n
theorem Zit {l:List Zk} {n:Int} (h:Zbb l n=0):∀x∈Zg l,WriteOk x n:=by
 intro x hx
 obtain ⟨_,h1,_,hs,_⟩:=Zvf h
 unfold Zg at hx
 obtain ⟨hx,hw⟩:=Y3.1 hx
 have h5:x.1≠5:=by unfold isW at hw;simpa using hw
 have hs:=hs x hx
 unfold Z8f Zbd at hs
 split at hs
 ·rename_i q
  simp only [Yf,decide_eq_true_eq] at hs
  exact ⟨.inl q,by omega,by omega⟩
 ·split at hs
  ·rename_i q
   simp only [Yf,decide_eq_true_eq] at hs
   exact ⟨.inr (.inl q),by omega,by omega⟩
  ·split at hs
   ·rename_i q
    simp only [Yf,decide_eq_true_eq] at hs
    exact ⟨.inr (.inr (.inl q)),by omega,by omega⟩
   ·split at hs
    ·rename_i q
     simp only [Yf,decide_eq_true_eq] at hs
     exact ⟨.inr (.inr (.inr ⟨q,by omega⟩)),by omega,by omega⟩
    ·cases hs
def Zhe (base:List Str) (l:List Zk):List Str:=Z2c base (Zg l) (fun _=>false) fun x=>Z0g x (base.getD x.2.2.1.toNat [])
theorem Ztn {l:List Str} {n:Int} (h0:0≤n) (h1:n<(l.length:Int)):at? l n=some (l.getD n.toNat []):=by
 obtain ⟨i,rfl⟩:∃i:Nat,n=(i:Int):=⟨n.toNat,by omega⟩
 rw [Zi (by omega),List.getD_eq_getElem?_getD,Yg,List.getElem?_eq_getElem (by omega)]
 rfl
theorem Z21 {l:List Str} {n:Nat} (h:n<l.length):l.getD n []∈l:=by
 rw [List.getD_eq_getElem?_getD,List.getElem?_eq_getElem h]
 exact Ye h
theorem Z08 {base:List Str} {l:List Zk} {n:Int} (hc:Zbb l n=0) (hb:(base.length:Int)=n) (h8:∀s∈base,s.length=8) {k:Nat} (hk:100≤k):Zme k base l=some (Zhe base l):=by
 obtain ⟨hl,h1,h2,_,hnd,_⟩:=Zvf hc
 have hw:(Zg l).length≤l.length:=Yo _ _
 have hcl:slices_Clone_string base=some base:=by
  unfold slices_Clone_string
  exact Za (Zab (by simp;omega)) rfl
 have run:=Zzb (fun j i=>Zme.l0 k j base (Zg l) ((Zg l).length:Int) (i:Int) (Z2c base ((Zg l).take i) (fun _=>false) fun x=>Z0g x (base.getD x.2.2.1.toNat []))) (Zg l).length (Zhe base l) (fun i hi j=>?_) (fun j=>?_) k (by omega)
 ·have run:Zme.l0 k k base (Zg l) ((Zg l).length:Int) 0 (Z2c base [] (fun _=>false) fun x=>Z0g x (base.getD x.2.2.1.toNat []))=some (Zhe base l):=run
  rw [Zo5] at run
  unfold Zme
  exact Za hcl (Za (Zsx l (by omega) k (by omega)) (Za run rfl))
 ·have hx:=Zit hc _ (Ye hi)
  have hsrc:=hx.src
  have hto:=hx.tgt
  have hv:(Z2c base ((Zg l).take i) (fun _=>false) fun x=>Z0g x (base.getD x.2.2.1.toNat [])).length=base.length:=Zhh _ _ _ _
  have hs8:=h8 _ (Z21 (l:=base) (n:=(Zg l)[i].2.2.1.toNat) (by omega))
  have hat:=Ztn (l:=Z2c base ((Zg l).take i) (fun _=>false) fun x=>Z0g x (base.getD x.2.2.1.toNat [])) hto.1 (by rw [hv];omega)
  conv=>lhs;unfold Zme.l0
  rw [dlt hi,Zn (by omega),cond_true]
  refine Za (Zi hi) (Za (Ztn hsrc.1 (by omega)) (Za (Zf2 (by rcases hx.kind with q | q | q | q;exact .inl q;exact .inr (.inl q);exact .inr (.inr (.inl q));exact .inr (.inr (.inr ⟨hs8,q.2⟩))) (by omega)) (Za hat (Za hat ?_))))
  rw [Zp5 hnd hi hto.1 (by omega),if_neg Ys]
 ·conv=>lhs;unfold Zme.l0
  rw [Zy (Yc _),Yl]
  rfl
theorem Zflb {base:List Str} {l:List Zk} {n:Int} (hc:Zbb l n=0) (hb:(base.length:Int)=n) {k:Nat} (hk:100≤k):Zbf k base l=some (Zhe base l):=by
 obtain ⟨hl,h1,h2,_,hnd,_⟩:=Zvf hc
 have run:=Zzb (fun j i=>Zbf.l0 k j base l (i:Int) (Z2c base (Zg (l.take i)) (fun _=>false) fun x=>Z0g x (base.getD x.2.2.1.toNat []))) l.length (Zhe base l) (fun i hi j=>?_) (fun j=>?_) k (by omega)
 ·have run:Zbf.l0 k k base l 0 (Z2c base [] (fun _=>false) fun x=>Z0g x (base.getD x.2.2.1.toNat []))=some (Zhe base l):=run
  rw [Zo5] at run
  have ha:Zu 16 ([]:List Str) base=some base:=Zab (by simp;omega)
  unfold Zbf
  exact Za ha (Za run rfl)
 ·have hv:(Z2c base (Zg (l.take i)) (fun _=>false) fun x=>Z0g x (base.getD x.2.2.1.toNat [])).length=base.length:=Zhh _ _ _ _
  have ht:Zg (l.take (i+1))=if isW l[i] then Zg (l.take i)++[l[i]] else Zg (l.take i):=by
   unfold Zg
   rw [Zth hi,Yu]
   cases h:isW l[i] with
   | true=>rw [if_pos rfl,Yxa h];rfl
   | false=>rw [if_neg Ys,Ywa (by rw [h];exact Ys)];simp
  have hpre:Zg (l.take i) <+: Zg l:=by
   unfold Zg
   exact (Y5a i l).filter _
  conv=>lhs;unfold Zbf.l0
  rw [dlt hi,Zn (by omega),cond_true]
  refine Za (Zi hi) ?_
  dsimp only
  rw [ht]
  cases hw:isW l[i] with
  | false=>
   have h5:l[i].1=5:=by unfold isW at hw;simpa using hw
   rw [show (l[i].1 != 5)=false by simpa using h5,if_neg Ys]
   rfl
  | true=>
   have h5:l[i].1≠5:=by unfold isW at hw;simpa using hw
   have hx:=Zit hc l[i] (Y3.2 ⟨Ye hi,hw⟩)
   have hsrc:=hx.src
   have hto:=hx.tgt
   have hat:=Ztn (l:=Z2c base (Zg (l.take i)) (fun _=>false) fun x=>Z0g x (base.getD x.2.2.1.toNat [])) hto.1 (by rw [hv];omega)
   rw [show (l[i].1 != 5)=true by simpa using h5,cond_true,if_pos rfl]
   refine Za (Zi hi) (Za (Zi hi) (Za (Zi hi) (Za (Ztn hsrc.1 (by omega)) (Za (Zbz _ _ (by omega)) (Za hat (Za hat ?_))))))
   have hpre2:Zg (l.take (i+1)) <+: Zg l:=by
    unfold Zg
    exact (Y5a (i+1) l).filter _
   rw [ht,hw,if_pos rfl] at hpre2
   obtain ⟨r,hr⟩:=hpre2
   have hlen:(Zg (l.take i)).length<(Zg l).length:=by
    rw [← hr]
    simp
   have e1:(Zg l)[(Zg (l.take i)).length]=l[i]:=by
    have:(Zg l)[(Zg (l.take i)).length]? = some l[i]:=by
     rw [← hr,Yn,List.getElem?_append_right (Yc _),Yoa]
     rfl
    rw [List.getElem?_eq_getElem hlen] at this
    exact Ypa.inj this
   have e2:(Zg l).take (Zg (l.take i)).length=Zg (l.take i):=by
    rw [← hr,Yn,List.take_left]
   have e3:(Zg l).take ((Zg (l.take i)).length+1)=Zg (l.take i)++[l[i]]:=by
    rw [Zth hlen,e1,e2]
   have:=Zp5 (base:=base) (w:=Zg l) (done:=fun _=>false) (mk:=fun x=>Z0g x (base.getD x.2.2.1.toNat [])) hnd hlen (by rw [e1];exact hto.1) (by rw [e1];omega)
   rw [e1,e2,e3,if_neg Ys] at this
   rw [this]
 ·conv=>lhs;unfold Zbf.l0
  rw [Zy (Yc _),Yl]
  rfl
theorem Zicb {base:List Str} {l:List Zk} (hi:Z3h base=true) (hl:l.length≤400):Ze fun k=>Zfm k base l=some (if Zbb l (base.length:Int)=0 then (Zhe base l,0) else ([],Zbb l (base.length:Int))):=by
 have hb:=Zpu hi
 refine ((Zfz l (base.length:Int) (by omega)).and (Ze.ge 100 fun k hk=>hk)).mono fun k ⟨e,hk⟩=>?_
 unfold Zfm
 refine Za (a:=if Zbb l (base.length:Int)=0 then (Zhe base l,0) else ([],Zbb l (base.length:Int))) ?_ rfl
 unfold Zcr
 rw [decide_eq_false (by omega:¬((400:Int)<(base.length:Int))),decide_eq_false (by omega:¬((400:Int)<(l.length:Int))),Yra,cond_false]
 refine Za (Zo4 base hk) ?_
 rw [hi,Yh,cond_false]
 refine Za e ?_
 by_cases c:Zbb l (base.length:Int)=0
 ·rw [if_pos c,show (Zbb l (base.length:Int) != 0)=false by simpa using c,cond_false]
  exact Za (Zflb c rfl hk) rfl
 ·rw [if_neg c,show (Zbb l (base.length:Int) != 0)=true by simpa using c]
  rfl
end Go.Proofs.Qz
