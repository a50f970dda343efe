/- What the law FnExactCut needs, part 11 of 15: the Lean functions of the Go functions that it reaches, with the proofs that the calls come to what they say, and plain facts about them. Conditions: those that each theorem states. Written by a session and by its programs (after the kit's printer). -/
import Derived.Lib.ItoaNum
import Derived.Test.YtpcllejjdmmjcaaGreatDoorXFnExactCut9
open Option renaming bind_some → Ya, some → Yva, isSome_some → Yjb
open List renaming range → Yb, replicate → Yd, getElem_mem → Ye, getElem?_eq_getElem → Yg, mem_cons_self → Yj, mem_singleton → Yl, take_length → Ym, all_eq_true → Yn, append_assoc → Yo, getElem?_cons_succ → Yp, length_filter_le → Yq, length_take → Yr, mem_range → Ys, append_nil → Yw, filter_append → Yx, getD_eq_getElem?_getD → Yy, getElem?_cons_zero → Yz, length_cons → Y0, length_replicate → Y1, length_set → Y2, nodup_nil → Y3, length_erase_of_mem → Y6, length_range → Y7, mem_append → Y8, mem_filter → Y9, nodup_append → Yaa, nodup_cons → Yba, length_map → Yda, drop_eq_getElem_cons → Yha, drop_zero → Yia, eq_nil_of_length_eq_zero → Yja, find? → Yka, find?_eq_none → Yla, getElem_map → Yma, getElem_of_mem → Yna, getElem_replicate → Yoa, getElem_set → Ypa, getElem_take → Yqa, length_nil → Yra, mem_of_mem_erase → Ysa, take → Yta, any_eq_true → Yza, drop_length → Y0a, ext_getElem → Y1a, filter_cons_of_neg → Y2a, filter_cons_of_pos → Y3a, filter_eq_self → Y4a, find?_append → Y5a, find?_some → Y6a, getElem_range → Y7a, length_append → Y8a, map_append → Y9a, mem_append_right → Yab, mem_map → Ybb, mem_of_find?_eq_some → Ycb, not_all_eq_any_not → Ydb, take_prefix → Yeb, take_sublist → Yfb, take_succ_cons → Ygb
open Nat renaming le_refl → Yc, zero_add → Yk, zero_le → Yca, lt_or_ge → Yea, not_lt_zero → Yfa, sub_self → Yua, add_zero → Yhb, le_trans → Yib
open Bool renaming and_eq_true → Yf, not_true → Yh, and_self → Yt, false_ne_true → Yu, eq_false_iff → Y4, true_and → Y5, or_eq_true → Yga, eq_iff_iff → Ywa, or_self → Yxa
open Int renaming toNat_natCast → Yi, eq_ofNat_of_zero_le → Yya
open Go.IntKind renaming wrap → Yv
namespace Go.Proofs.Qz
open Go
set_option linter.unusedVariables false
def Zgd (k t f:Int) (d:Str) (n:Int):Bool:=if k=1 then decide (0≤t)&&decide (t≤n-1)&&decide (f=0)&&(d==[]) else if k=2 then decide (0≤t)&&decide (t≤n-1)&&decide (f=0)&&decide ((d.length:Int)=8) else if k=3 then decide (0≤t)&&decide (t≤n-1)&&(decide (0≤f)&&decide (f≤n-1))&&(d==[]) else if k=4 then decide (0≤t)&&decide (t≤n-1)&&(decide (0≤f)&&decide (f≤n-1))&&decide ((d.length:Int)=8) else if k=5 then decide (t=0)&&(decide (0≤f)&&decide (f≤1000000))&&(d==[]) else false
theorem Zz0 (k t f:Int) (d:Str) (n:Int) (h1:1≤n) (h2:n≤8):Z7h (k,(t,(f,d))) n=some (Zgd k t f d n):=by
 unfold Z7h Zfb Zgd
 simp only [Ya]
 rw [w64 (n:=n-1) (by omega) (by omega),Xa h1,Xa h2]
 simp only [Zfi]
 generalize (decide (0≤t)&&decide (t≤n-1))=P
 generalize (decide (0≤f)&&decide (f≤n-1))=Q
 generalize (decide (0≤f)&&decide (f≤1000000))=R
 generalize (d==([]:Str))=E
 generalize decide ((d.length:Int)=8)=Z
 by_cases c1:k=1
 ·subst c1;cases P <;> by_cases h:f=0 <;> simp [h]
 by_cases c2:k=2
 ·subst c2;cases P <;> by_cases h:f=0 <;> simp [h]
 by_cases c3:k=3
 ·subst c3;cases P <;> cases Q <;> simp
 by_cases c4:k=4
 ·subst c4;cases P <;> cases Q <;> simp
 by_cases c5:k=5
 ·subst c5;cases R <;> by_cases h:t=0 <;> simp [h]
 simp [c1,c2,c3,c4,c5]
theorem Z9y (k t f:Int) (d:Str) (n:Int) (h1:1≤n) (h2:n≤8):Zoc (k,(t,(f,d))) n=some (Zgd k t f d n):=by
 have hw:Yv .i64 (n-1)=n-1:=w64 (by omega) (by omega)
 unfold Zoc
 simp only [Zhb,Zli,Ya,hw,Zoc.j0,Zoc.j1,Zgd,Zfi]
 generalize (decide (0≤t)&&decide (t≤n-1))=P
 generalize (decide (0≤f)&&decide (f≤n-1))=Q
 generalize (d==([]:Str))=E
 by_cases c1:k=1
 ·subst c1;cases P <;> by_cases h:f=0 <;> simp [h]
 by_cases c2:k=2
 ·subst c2;cases P <;> by_cases h:f=0 <;> simp [h]
 by_cases c3:k=3
 ·subst c3;cases P <;> cases Q <;> simp
 by_cases c4:k=4
 ·subst c4;cases P <;> cases Q <;> simp
 by_cases c5:k=5
 ·subst c5;cases E <;> by_cases h:t=0 <;> simp [h]
 have hk:(decide (1≤k)&&decide (k≤5))=false:=by
  rw [Y4,Ne,Yf,decide_eq_true_eq,decide_eq_true_eq];omega
 simp [c1,c2,c3,c4,c5,hk]
theorem Zbx {k t f:Int} {d:Str} {n:Int} (h:Zgd k t f d n=true):d.length≤8:=by
 unfold Zgd at h
 have e:(d==([]:Str))=true→d.length≤8:=fun q=>by
  rw [Zdr] at q;rw [of_decide_eq_true q];simp
 have e8:decide ((d.length:Int)=8)=true→d.length≤8:=fun q=>by
  have:=of_decide_eq_true q;omega
 split at h
 ·exact e ((Yf _ _).mp h).2
 split at h
 ·exact e8 ((Yf _ _).mp h).2
 split at h
 ·exact e ((Yf _ _).mp h).2
 split at h
 ·exact e8 ((Yf _ _).mp h).2
 split at h
 ·exact e ((Yf _ _).mp h).2
 ·cases h
def Zri (s:Str):Option (Int×Int×Int×Str):=match Zjj s with
 | some (x,y,z,t,d)=>if d=s.length∧Zgd x y z t 8=true then some (x,y,z,t) else none
 | none=>none
theorem Znpb {s:Str} {x y z:Int} {t:Str} (h:Zri s=some (x,y,z,t)):Zgd x y z t 8=true:=by
 unfold Zri at h
 split at h
 ·split at h
  ·rename_i hq
   cases h;exact hq.2
  ·cases h
 ·cases h
theorem Zxcb (x y z:Int) (t:Str) (hx:Num x) (hy:Num y) (hz:Num z) (ht:t.length≤8000):Ze fun k=>Z8b k x=some (Zm x)∧Z8b k y=some (Zm y)∧Z8b k z=some (Zm z)∧Zzi k t=some (Z3b t):=((Zyi x hx).and ((Zyi y hy).and ((Zyi z hz).and (Zy0 t ht))))
theorem Z1ob (x y z:Int) (t:Str) (hx:Num x) (hy:Num y) (hz:Num z) (ht:t.length≤8000):Ze fun k=>Zqq k (x,(y,(z,t)))=some (if Zgd x y z t 8=true then Zm x++Zm y++Zm z++Z3b t else []):=by
 refine (Zxcb x y z t hx hy hz ht).mono fun k ⟨h1,h2,h3,h4⟩=>?_
 have l1:=Zhc x
 have l2:=Zhc y
 have l3:=Zhc z
 have l4:=Zij t
 unfold Zqq
 rw [Zz0 x y z t 8 (by omega) (by omega)]
 simp only [Ya]
 by_cases hb:Zgd x y z t 8=true
 ·rw [hb,Xc rfl]
  unfold Z2l;simp only [Yh,Xf];rw [h1,h2,h3,h4];simp only [Ya];rw [Zvc (by omega)];simp only [Ya];rw [Zvc (by simp;omega)];simp only [Ya];rw [Zvc (by simp;omega)];rfl
 ·rw [Xd hb,(Y4.2 hb:Zgd x y z t 8=false)]
  rfl
theorem Zu9 {s:Str} (h:1≤s.length):(([]:Str)==s)=false:=by
 cases s with
 | nil=>exact absurd h (by simp)
 | cons _ _=>rfl
theorem Zm6 (s:Str) (hs:s.length≤8000):Ze fun k=>Z1l k s=some (match Zri s with
  | some (x,y,z,t)=>(x,y,z,t,0)
  | none=>(0,0,0,[],3)):=by
 cases hq:Zjj s with
 | none=>
  refine (Zcdb s hs).mono fun k ⟨v3,v4,v5,v6,h3,h4,h5,h6,h⟩=>?_
  have h7:v6.2.2.2=true:=by
   rcases h with ⟨x,y,z,t,d,e,_⟩ | ⟨_,h⟩
   ·rw [hq] at e;cases e
   ·exact h
  unfold Z1l Zri;rw [hq,Xb (by omega:¬(8000<(s.length:Int)))];simp only [Xf];rw [h3];simp only [Ya];rw [h4];simp only [Ya];rw [h5];simp only [Ya];rw [h6];simp only [Ya];rw [h7];rfl
 | some q=>
  obtain ⟨x,y,z,t,d⟩:=q;obtain ⟨a,b,c,g1,g2,g3,g4⟩:=Zycb hq;refine ((Zcdb s hs).and (Z1ob x y z t g1.range g2.range g3.range g4.size)).mono fun k ⟨⟨v3,v4,v5,v6,h3,h4,h5,h6,h⟩,hb⟩=>?_
  have h7:v3.1=x∧v4.1=y∧v5.1=z∧v6=(t,s,((d:Nat):Int),false):=by
   rcases h with ⟨x',y',z',t',d',e,h⟩ | ⟨e,_⟩
   ·rw [hq] at e;cases e;exact h
   ·rw [hq] at e;cases e
  obtain ⟨i1,i2,i3,i4⟩:=h7;unfold Z1l Zri;rw [hq,Xb (by omega:¬(8000<(s.length:Int)))];simp only [Xf];rw [h3];simp only [Ya];rw [h4];simp only [Ya];rw [h5];simp only [Ya];rw [h6];simp only [Ya];rw [i1,i2,i3,i4];simp only [Xf];rw [hb];simp only [Ya]
  by_cases hr:Zgd x y z t 8=true
  ·rw [Xc hr,Zdr]
   by_cases hd:d=s.length
   ·rw [Xa ((Z03 g1 g2 g3 g4).2 hd),Xc ⟨hd,hr⟩]
    rfl
   ·rw [Xb (fun q=>hd ((Z03 g1 g2 g3 g4).1 q)),Xd (fun q=>hd q.1)]
    rfl
  ·have:=g1.le
   have:=g1.at';have:=Zx5 x;rw [Xd hr,Xd (fun q=>hr q.2),Zu9 (by omega)];rfl
abbrev Zk:=Int×Int×Int×Str
theorem Zi7 {n:Int} (h0:0≤n) (h1:n<18446744073709551616):Yv .u64 n=n:=by rw [Zih];omega
def Zmg (n:Int) (x:Zk):Bool:=Zgd x.1 x.2.1 x.2.2.1 x.2.2.2 n
theorem Zxkb (x:Zk) (n:Int) (h1:1≤n) (h2:n≤8):Zoc x n=some (Zmg n x):=Z9y x.1 x.2.1 x.2.2.1 x.2.2.2 n h1 h2
theorem Zheb (x:Zk) (n:Int) (h1:1≤n) (h2:n≤8):Z7h x n=some (Zmg n x):=Zz0 x.1 x.2.1 x.2.2.1 x.2.2.2 n h1 h2
def isW (x:Zk):Bool:=x.1 != 5
def Zh (l:List Zk):List Zk:=l.filter isW
def Z2e (l:List Zk):List Int:=(Zh l).map fun x=>x.2.1
def Zek:Int→List Zk→Bool
 | _,[]=>true
 | a,x::l=>if x.1=5 then decide (a<x.2.2.1)&&Zek x.2.2.1 l else Zek a l
def Zdb (l:List Zk) (n:Int):Int:=if 20<l.length∨¬(1≤n∧n≤8)∨l.all (Zmg n)=false then 1 else if ¬(Z2e l).Nodup then 12 else if Zek (-1) l then 0 else 8
theorem Zgx {l:List Zk} {i:Nat} (h:i<l.length):Z2e (l.take (i+1))=if isW l[i] then Z2e (l.take i)++[(l[i]).2.1] else Z2e (l.take i):=by
 unfold Z2e Zh
 rw [Zai h,Yx,Y9a]
 split
 ·rename_i hw;simp [hw]
 ·rename_i hw;simp [hw]
theorem Z3v {x:Zk} (h:x.1≠5):isW x=true:=by unfold isW;simpa using h
theorem Z2v {x:Zk} (h:x.1=5):isW x=false:=by unfold isW;simp [h]
theorem Zkfb {l:List Zk} (i:Nat):(Z2e (l.take i)).Sublist (Z2e l):=by
 unfold Z2e Zh
 exact (((Yfb i l).filter _).map _)
theorem Z7lb {l:List Zk} {b:Int}:b∈Z2e l ↔ ∃x∈l,isW x=true∧x.2.1=b:=by
 unfold Z2e Zh
 rw [Ybb]
 constructor
 ·rintro ⟨x,hx,e⟩
  rw [Y9] at hx;exact ⟨x,hx.1,hx.2,e⟩
 ·rintro ⟨x,h1,h2,e⟩
  exact ⟨x,Y9.2 ⟨h1,h2⟩,e⟩
theorem Z44 {l:List Zk} {b:Int} {i:Nat}:b∈Z2e (l.take i) ↔ ∃j,∃h:j<l.length,j<i∧isW l[j]=true∧(l[j]).2.1=b:=by
 rw [Z7lb]
 constructor
 ·rintro ⟨x,hx,h1,h2⟩
  obtain ⟨j,hj,rfl⟩:=Yna hx;rw [Yqa] at h1 h2;rw [Yr] at hj;exact ⟨j,by omega,by omega,h1,h2⟩
 ·rintro ⟨j,h,hji,h1,h2⟩
  refine ⟨l[j],?_,h1,h2⟩;rw [List.mem_take_iff_getElem];exact ⟨j,by omega,rfl⟩
def Zeo (b:Int) (x:Zk):Bool:=isW x&&(x.2.1==b)
def Zhx (l:List Zk) (b:Int):Int:=match Zsb (Zeo b) l 0 with
 | some i=>(i:Int)
 | none=>-1
theorem Z2kb (l:List Zk) (b:Int) (hl:l.length≤1048576):∀k,l.length<k→Ztp k l b=some (Zhx l b):=by
 intro k hk
 have run:=Zrh (fun j i=>Z2d.l0 j l (l.length:Int) i b) l (Zeo b) (.inl b) (fun i=>.inr ((i:Int),b)) (fun i hi=>by
  have e:Z1r l[i] b=some (Zeo b l[i]):=rfl;constructor
  ·intro hp j
   show Z2d.l0 (j+1) l (l.length:Int) (i:Int) b=Z2d.l0 j l (l.length:Int) ((i+1:Nat):Int) b;rw [Z2d.l0];rw [dlt hi,Zi hi,Zn (by omega)];simp only [Xe,Ya,e,hp,Xf]
  ·intro hp j
   show Z2d.l0 (j+1) l (l.length:Int) (i:Int) b=_;unfold Z2d.l0;rw [dlt hi,Zi hi];simp only [Xe,Ya,e,hp]) (fun j=>by
  show Z2d.l0 (j+1) l (l.length:Int) (l.length:Int) b=_;unfold Z2d.l0;rw [Zv (Yc _)];rfl) hk
 have run:Z2d.l0 k l (l.length:Int) 0 b=_:=run
 unfold Ztp Z2d Zhx
 rw [run]
 cases Zsb (Zeo b) l 0 <;> rfl
theorem Zlfb {l:List Zk} {i:Nat} (h:i<l.length) (hw:isW l[i]=true):Zhx l (l[i]).2.1<(i:Int) ↔ (l[i]).2.1∈Z2e (l.take i):=by
 unfold Zhx
 rw [Z44]
 cases hf:Zsb (Zeo (l[i]).2.1) l 0 with
 | none=>
  have:=Zrr.1 hf l[i] (Ye h);unfold Zeo at this;rw [hw] at this;simp at this
 | some m=>
  obtain ⟨_,h2,h3,h4⟩:=Zml hf;have h4:∀j,(hj:j<m)→Zeo (l[i]).2.1 (l[j]'(by omega))=false:=h4;unfold Zeo at h3;simp only [Yf,beq_iff_eq] at h3;constructor
  ·intro hm
   have hm:(m:Int)<(i:Int):=hm;exact ⟨m,h2,by omega,h3.1,h3.2⟩
  ·rintro ⟨j,hj,hji,h5,h6⟩
   show (m:Int)<(i:Int);rcases Yea m i with h | h
   ·omega
   ·have:=h4 j (by omega)
    unfold Zeo at this;rw [h5,h6] at this;simp at this
theorem Zmjb (l:List Zk) (n:Int) (h1:1≤n) (h2:n≤8) (hl:l.length≤1048576):∀k,l.length<k→Ziq k l n=some (!(l.all (Zmg n)),n):=by
 intro k hk
 have run:=Zrh (fun j i=>Z1d.l0 j l (l.length:Int) i n) l (fun x=>!(Zmg n x)) (.inl n) (fun i=>.inr ((i:Int),n)) (fun i hi=>by
  have e:Zsp l[i] n=some (!(Zmg n l[i])):=by
   unfold Zsp;rw [Zxkb _ _ h1 h2];rfl
  constructor
  ·intro hp j
   show Z1d.l0 (j+1) l (l.length:Int) (i:Int) n=Z1d.l0 j l (l.length:Int) ((i+1:Nat):Int) n;rw [Z1d.l0];rw [dlt hi,Zi hi,Zn (by omega)];simp only [Xe,Ya,e,hp,Xf]
  ·intro hp j
   show Z1d.l0 (j+1) l (l.length:Int) (i:Int) n=_;unfold Z1d.l0;rw [dlt hi,Zi hi];simp only [Xe,Ya,e,hp]) (fun j=>by
  show Z1d.l0 (j+1) l (l.length:Int) (l.length:Int) n=_;unfold Z1d.l0;rw [Zv (Yc _)];rfl) hk
 have run:Z1d.l0 k l (l.length:Int) 0 n=_:=run
 have hany:=Zit (p:=fun x=>!(Zmg n x)) (l:=l) (n:=0)
 rw [← Ydb] at hany
 unfold Ziq Z1d
 rw [run,← hany]
 cases Zsb (fun x=>!(Zmg n x)) l 0 with
 | none=>rfl
 | some m=>
  simp only [Ya,Yjb];rw [Xa (by omega:(0:Int)≤(m:Int))]
theorem Ztjb (l:List Zk) (hl:l.length≤20) (k:Nat) (hk:20<k):∀(d i:Nat) (a:Int) (b:Bool),i+d=l.length→(Z2e (l.take i)).Nodup→∀j,d<j →
  Zed.l0 k j l a b l (l.length:Int) (i:Int)=some (if (Z2e l).Nodup then .inl (b&&Zek a (l.drop i)) else .inr 12):=by
 intro d
 induction d with
 | zero=>
  intro i a b hi hn j hj;obtain ⟨j,rfl⟩:∃q,j=q+1:=⟨j-1,by omega⟩;obtain rfl:i=l.length:=by omega
  rw [Ym] at hn;unfold Zed.l0;rw [Zv (Yc _),Xc hn,Y0a];simp [Zek]
 | succ d ih=>
  intro i a b hi hn j hj;obtain ⟨j,rfl⟩:∃q,j=q+1:=⟨j-1,by omega⟩;have hlt:i<l.length:=by omega
  rw [Zed.l0,dlt hlt,Zi hlt,Zn (by omega)];simp only [Xe,Ya];rw [Yha hlt]
  by_cases h5:(l[i]).1=5
  ·have hw:=Z2v h5
   have hn2:(Z2e (l.take (i+1))).Nodup:=by rw [Zgx hlt,hw];exact hn
   have e:((l[i]).1 != 5)=false:=by simp [h5]
   rw [e];simp only [Xf];rw [ih (i+1) _ _ (by omega) hn2 j (by omega)];simp only [Zek,Xc h5,Bool.and_assoc]
  ·have hw:=Z3v h5
   have e:((l[i]).1 != 5)=true:=by simpa using h5
   rw [e];simp only [Xe];rw [Z2kb l (l[i]).2.1 (by omega) k (by omega)];simp only [Ya]
   by_cases ht:Zhx l (l[i]).2.1<(i:Int)
   ·rw [Xa ht]
    have hin:=(Zlfb hlt hw).1 ht
    have hnd:¬(Z2e l).Nodup:=by
     intro hnd;have h3:=(Zkfb (l:=l) (i+1)).nodup hnd;rw [Zgx hlt,hw] at h3;simp only [if_true] at h3;exact (Yaa.1 h3).2.2 _ hin _ (Yl.2 rfl) rfl
    rw [Xd hnd];rfl
   ·rw [Xb ht]
    have hn2:(Z2e (l.take (i+1))).Nodup:=by
     rw [Zgx hlt,hw];refine Yaa.2 ⟨hn,Yba.2 ⟨(fun h=>nomatch h),Y3⟩,fun x hx y hy e=>?_⟩;rw [Yl.1 hy] at e;subst e;exact ht ((Zlfb hlt hw).2 hx)
    simp only [Xf];rw [ih (i+1) _ _ (by omega) hn2 j (by omega)];simp only [Zek,Xd h5]
theorem Zaz (l:List Zk) (n:Int) (hl:l.length≤1048576):Ze fun k=>Zed k l n=some (Zdb l n):=by
 refine Ze.ge (l.length+30) fun k hk=>?_
 unfold Zed Z7j Zhb Zdb
 simp only [Ya]
 by_cases hb:1≤n∧n≤8
 ·rw [Xa hb.1,Xa hb.2]
  by_cases h20:20<l.length
  ·rw [Xa (by omega:(20:Int)<(l.length:Int)),Xc (.inl h20)]
   rfl
  ·rw [Xb (by omega:¬((20:Int)<(l.length:Int))),Zmjb l n hb.1 hb.2 hl k (by omega)]
   simp only [Yt,Yh,Bool.or_false,Xf,Ya];cases ha:l.all (Zmg n) with
   | false=>rw [Xc (.inr (.inr rfl))];rfl
   | true=>
    rw [Xd (by rintro (h | h | h);exact h20 h;exact h hb;cases h)];simp only [Yh,Xf];have run:=Ztjb l (by omega) k (by omega) l.length 0 (-1) true (Yk _) Y3 k (by omega);rw [Yia,Y5] at run;have run:Zed.l0 k k l (-1) true l (l.length:Int) 0=_:=run;rw [run]
    by_cases hd:(Z2e l).Nodup
    ·rw [Xc hd,Xd (not_not_intro hd)]
     cases Zek (-1) l <;> rfl
    ·rw [Xd hd,Xc hd]
     rfl
 ·have e:(!(decide (1≤n)&&decide (n≤8))||decide ((20:Int)<(l.length:Int)))=true:=by
   rw [show (decide (1≤n)&&decide (n≤8))=false by rw [Y4,Ne,Yf,decide_eq_true_eq,decide_eq_true_eq];exact hb];rfl
  rw [e,Xc (.inr (.inl hb))];rfl
theorem Zznb (l:List Zk) (i:Nat) (hi:i<l.length) (hl:l.length≤1048576):∀(d c j:Nat),(hc:c+d=i)→d<j→(∀q,(hq:q<c)→isW l[i]=true→isW (l[q]'(by omega))=true→(l[q]'(by omega)).2.1≠(l[i]).2.1) →
  Zt.l1 j l (i:Int) (c:Int)=some (if isW l[i]=true∧(l[i]).2.1∈Z2e (l.take i) then .inr 12 else .inl ()):=by
 intro d
 induction d with
 | zero=>
  intro c j hc hj hq;obtain ⟨j,rfl⟩:∃q,j=q+1:=⟨j-1,by omega⟩;obtain rfl:c=i:=by omega
  unfold Zt.l1;rw [Zv (Yc _),Xd]
  ·rfl
  ·rintro ⟨h1,h2⟩
   obtain ⟨q,hq1,hq2,hq3,hq4⟩:=Z44.1 h2;exact hq q hq2 h1 hq3 hq4
 | succ d ih=>
  intro c j hc hj hq;obtain ⟨j,rfl⟩:∃q,j=q+1:=⟨j-1,by omega⟩;have hcl:c<l.length:=by omega
  rw [Zt.l1,dlt (by omega:c<i),Zi hi,Zi hcl,Zn (by omega)];simp only [Xe,Ya]
  have go:(isW l[i]=true→isW l[c]=true→(l[c]).2.1≠(l[i]).2.1)→Zt.l1 j l (i:Int) ((c+1:Nat):Int)=some (if isW l[i]=true∧(l[i]).2.1∈Z2e (l.take i) then .inr 12 else .inl ()):=fun h=>by
   refine ih (c+1) j (by omega) (by omega) fun q hqc h1 h2=>?_
   rcases Yea q c with h3 | h3
   ·exact hq q h3 h1 h2
   ·obtain rfl:q=c:=by omega
    exact h h1 h2
  by_cases h5:(l[i]).1=5
  ·rw [show ((l[i]).1 != 5)=false by simp [h5]]
   simp only [Xf];exact go fun h1=>by rw [Z2v h5] at h1;cases h1
  ·rw [show ((l[i]).1 != 5)=true by simpa using h5]
   simp only [Xe]
   by_cases h6:(l[c]).1=5
   ·rw [show ((l[c]).1 != 5)=false by simp [h6]]
    simp only [Xf];exact go fun _ h1=>by rw [Z2v h6] at h1;cases h1
   ·rw [show ((l[c]).1 != 5)=true by simpa using h6]
    simp only [Xe]
    by_cases h7:(l[i]).2.1=(l[c]).2.1
    ·rw [show ((l[i]).2.1==(l[c]).2.1)=true by simpa using h7,Xc ⟨Z3v h5,Z44.2 ⟨c,hcl,by omega,Z3v h6,h7.symm⟩⟩]
     rfl
    ·rw [show ((l[i]).2.1==(l[c]).2.1)=false by simpa using h7]
     simp only [Xf];exact go fun _ _ e=>h7 e.symm
theorem Z0nb (l:List Zk) (hl:l.length≤20) (k:Nat) (hk:20<k):∀(d i:Nat),i+d=l.length→(Z2e (l.take i)).Nodup→∀j,d<j →
  Zt.l2 k j l (i:Int)=some (if (Z2e l).Nodup then .inl () else .inr 12):=by
 intro d
 induction d with
 | zero=>
  intro i hi hn j hj;obtain ⟨j,rfl⟩:∃q,j=q+1:=⟨j-1,by omega⟩;obtain rfl:i=l.length:=by omega
  rw [Ym] at hn;unfold Zt.l2;rw [Zv (Yc _),Xc hn];rfl
 | succ d ih=>
  intro i hi hn j hj;obtain ⟨j,rfl⟩:∃q,j=q+1:=⟨j-1,by omega⟩;have hlt:i<l.length:=by omega
  rw [Zt.l2,dlt hlt,Zn (by omega)];have run:=Zznb l i hlt (by omega) i 0 k (Yk _) (by omega) (fun q hq=>by omega);have run:Zt.l1 k l (i:Int) 0=_:=run;simp only [Xe];rw [run]
  by_cases h:isW l[i]=true∧(l[i]).2.1∈Z2e (l.take i)
  ·rw [Xc h]
   have hnd:¬(Z2e l).Nodup:=by
    intro hnd;have h3:=(Zkfb (l:=l) (i+1)).nodup hnd;rw [Zgx hlt,h.1] at h3;simp only [if_true] at h3;exact (Yaa.1 h3).2.2 _ h.2 _ (Yl.2 rfl) rfl
   rw [Xd hnd];rfl
  ·rw [Xd h]
   simp only [Ya];refine ih (i+1) (by omega) ?_ j (by omega);rw [Zgx hlt];split
   ·rename_i hw
    refine Yaa.2 ⟨hn,Yba.2 ⟨(fun h=>nomatch h),Y3⟩,fun x hx y hy e=>?_⟩;rw [Yl.1 hy] at e;subst e;exact h ⟨hw,hx⟩
   ·exact hn
theorem Z1nb (l:List Zk) (hl:l.length≤20):∀(d i:Nat) (a:Int),i+d=l.length→∀j,d<j →
  Zt.l3 j l a (i:Int)=some (if Zek a (l.drop i) then .inl () else .inr 8):=by
 intro d
 induction d with
 | zero=>
  intro i a hi j hj;obtain ⟨j,rfl⟩:∃q,j=q+1:=⟨j-1,by omega⟩;obtain rfl:i=l.length:=by omega
  unfold Zt.l3;rw [Zv (Yc _),Y0a];rfl
 | succ d ih=>
  intro i a hi j hj;obtain ⟨j,rfl⟩:∃q,j=q+1:=⟨j-1,by omega⟩;have hlt:i<l.length:=by omega
  rw [Zt.l3,dlt hlt,Zi hlt,Zn (by omega)];simp only [Xe,Ya];rw [Yha hlt]
  by_cases h5:(l[i]).1=5
  ·rw [show ((l[i]).1 != 5)=false by simp [h5]]
   simp only [Xf,Zek,Xc h5]
   by_cases h6:a<(l[i]).2.2.1
   ·rw [Xb (by omega:¬((l[i]).2.2.1≤a)),Xa h6,Y5]
    exact ih (i+1) _ (by omega) j (by omega)
   ·rw [Xa (by omega:(l[i]).2.2.1≤a),Xb h6]
    rfl
  ·rw [show ((l[i]).1 != 5)=true by simpa using h5]
   simp only [Xe,Zek,Xd h5];exact ih (i+1) _ (by omega) j (by omega)
theorem Zynb (l:List Zk) (n:Int) (h1:1≤n) (h2:n≤8) (hl:l.length≤20):∀k,20<k→Zt.l0 k l n 0=some (if l.all (Zmg n) then .inl () else .inr 1):=by
 intro k hk
 have run:=Zrh (fun j i=>Zt.l0 j l n i) l (fun x=>!(Zmg n x)) (.inl ()) (fun i=>.inr 1) (fun i hi=>by
  constructor
  ·intro hp j
   show Zt.l0 (j+1) l n (i:Int)=Zt.l0 j l n ((i+1:Nat):Int);rw [Zt.l0,dlt hi,Zi hi,Zn (by omega)];simp only [Xe,Ya];rw [Zheb _ _ h1 h2];simp only [Ya,hp,Xf]
  ·intro hp j
   show Zt.l0 (j+1) l n (i:Int)=_;unfold Zt.l0;rw [dlt hi,Zi hi];simp only [Xe,Ya];rw [Zheb _ _ h1 h2];simp only [Ya,hp,Xe]) (fun j=>by
  show Zt.l0 (j+1) l n (l.length:Int)=_;unfold Zt.l0;rw [Zv (Yc _)];rfl) (by omega:l.length<k)
 have run:Zt.l0 k l n 0=_:=run
 have hany:=Zit (p:=fun x=>!(Zmg n x)) (l:=l) (n:=0)
 rw [← Ydb] at hany
 rw [run]
 cases hf:Zsb (fun x=>!(Zmg n x)) l 0 with
 | none=>
  rw [hf] at hany;have:l.all (Zmg n)=true:=by simpa using hany.symm
  rw [this];rfl
 | some m=>
  rw [hf] at hany;have:l.all (Zmg n)=false:=by simpa using hany.symm
  rw [this];rfl
theorem Z00 (l:List Zk) (n:Int) (hl:l.length≤1048576):Ze fun k=>Zt k l n=some (Zdb l n):=by
 refine Ze.ge 30 fun k hk=>?_
 unfold Zt Zfb Zdb
 simp only [Ya]
 by_cases h20:20<l.length
 ·rw [Xa (by omega:(20:Int)<(l.length:Int)),Xc (.inl h20)]
  rfl
 rw [Xb (by omega:¬((20:Int)<(l.length:Int)))]
 simp only [Xf]
 by_cases hb:1≤n∧n≤8
 ·rw [Xa hb.1,Xa hb.2,Zynb l n hb.1 hb.2 (by omega) k (by omega)]
  simp only [Yt,Yh,Xf];cases ha:l.all (Zmg n) with
  | false=>simp only [Bool.false_eq_true,if_false];rw [Xc (.inr (.inr True.intro))];rfl
  | true=>
   simp only [if_true,Ya];rw [Xd (by rintro (h | h | h);exact h20 h;exact h hb;cases h)];have r2:=Z0nb l (by omega) k (by omega) l.length 0 (Yk _) Y3 k (by omega);have r2:Zt.l2 k k l 0=_:=r2;have r3:=Z1nb l (by omega) l.length 0 (-1) (Yk _) k (by omega);rw [Yia] at r3;have r3:Zt.l3 k l (-1) 0=_:=r3;rw [r2]
   by_cases hd:(Z2e l).Nodup
   ·rw [Xc hd,Xd (not_not_intro hd)]
    simp only [Ya];rw [r3];cases Zek (-1) l <;> rfl
   ·rw [Xd hd,Xc hd]
    rfl
 ·have e:(decide (1≤n)&&decide (n≤8))=false:=by rw [Y4,Ne,Yf,decide_eq_true_eq,decide_eq_true_eq];exact hb
  rw [e,Xc (.inr (.inl hb))];rfl
theorem Z7f {l:List Zk} {n:Int} (h:Zdb l n=0):l.length≤20∧1≤n∧n≤8∧(∀x∈l,Zmg n x=true)∧(Z2e l).Nodup∧Zek (-1) l=true:=by
 unfold Zdb at h
 split at h
 ·cases h
 ·rename_i h1
  split at h
  ·cases h
  ·rename_i h2
   split at h
   ·rename_i h3
    have h1a:¬20<l.length:=fun q=>h1 (.inl q)
    have h1b:1≤n∧n≤8:=Decidable.not_not.1 fun q=>h1 (.inr (.inl q))
    have h1c:l.all (Zmg n)=true:=by
     cases ha:l.all (Zmg n) with
     | true=>rfl
     | false=>exact absurd (.inr (.inr ha)) h1
    exact ⟨by omega,h1b.1,h1b.2,fun x hx=>Yn.1 h1c x hx,Decidable.not_not.1 h2,h3⟩
   ·cases h
abbrev Zuc:=Int×Int×Int×Int
theorem Zn6 (l:List Zk) (hl:l.length≤20):∀k,20<k→Z9c k l=some (Zh l):=by
 intro k hk
 have run:=Zxlb (fun j (s:List Zk) i=>Z9c.l0 j l i s) l (fun s x=>.inl (if isW x then s++[x] else s)) (fun s=>s) (fun i s=>s=Zh (l.take i)) (fun i hi s hs=>by
  refine .inl ⟨_,rfl,?_,fun j=>?_⟩
  ·unfold Zh at hs ⊢
   rw [Zai hi,Yx,hs]
   by_cases hw:isW l[i]=true
   ·rw [Xc hw];simp [hw]
   ·rw [Xd hw];simp [hw]
  ·show Z9c.l0 (j+1) l (i:Int) s=Z9c.l0 j l ((i+1:Nat):Int) (if isW l[i] then s++[l[i]] else s)
   have hsl:s.length≤20:=by
    rw [hs];refine Yib (Yq _ _) ?_;rw [Yr];omega
   rw [Z9c.l0,dlt hi,Xa (by omega:(l.length:Int)≤20),Zi hi,Zn (by omega)];simp only [Yt,Xe,Ya]
   by_cases h5:(l[i]).1=5
   ·rw [show ((l[i]).1 != 5)=false by simp [h5],Z2v h5]
    rfl
   ·rw [show ((l[i]).1 != 5)=true by simpa using h5,Z3v h5,Z4 (by simp;omega)]
    rfl) (fun s hs j=>by
  show Z9c.l0 (j+1) l (l.length:Int) s=some s;unfold Z9c.l0;rw [Zv (Yc _)];rfl) (s:=[]) rfl (by omega:l.length<k)
 have fold:∀(m s:List Zk),Zxl (fun s x=>.inl (if isW x then s++[x] else s)) (fun s=>s) m s=s++Zh m:=by
  intro m
  induction m with
  | nil=>intro s;simp [Zxl,Zh]
  | cons x m ih=>
   intro s;rw [Zdnb rfl,ih];unfold Zh
   by_cases hw:isW x=true
   ·rw [Xc hw,Y3a hw];simp
   ·rw [Xd hw,Y2a hw]
 rw [fold,List.nil_append] at run
 have run:Z9c.l0 k l 0 []=some (Zh l):=run
 unfold Z9c
 rw [run]
 rfl
theorem Zyjb (l:List Zk) (hl:l.length≤1048576):∀(d j0:Nat) (c:List Zk),j0+d=l.length→c.length=l.length→c.drop j0=l.drop j0→(Zh (l.take j0)).length≤j0→c.take (Zh (l.take j0)).length=Zh (l.take j0)→(Zh (l.take j0)).length<j0 →
  ∀j,d<j→∃c',Zdg.l0 j ((Zh (l.take j0)).length:Int) (j0:Int) c=some ((((Zh l).length:Nat):Int),c')∧c'.length=l.length∧c'.take (Zh l).length=Zh l:=by
 intro d
 induction d with
 | zero=>
  intro j0 c hj hc hd hle ht hlt j hjj;obtain ⟨j,rfl⟩:∃q,j=q+1:=⟨j-1,by omega⟩;obtain rfl:j0=l.length:=by omega
  rw [Ym] at ht ⊢;refine ⟨c,?_,hc,ht⟩;unfold Zdg.l0;rw [Zv (by omega:c.length≤l.length)];rfl
 | succ d ih=>
  intro j0 c hj hc hd hle ht hlt j hjj;obtain ⟨j,rfl⟩:∃q,j=q+1:=⟨j-1,by omega⟩;have h1:j0<l.length:=by omega
  have h2:j0<c.length:=by omega
  have hcj:c[j0]=l[j0]:=by
   have:=congrArg (fun z=>z[0]?) hd;simp only [List.getElem?_drop,Yhb] at this;rw [Yg h2,Yg h1] at this;exact Yva.inj this
  have hdrop:c.drop (j0+1)=l.drop (j0+1):=by
   have:=congrArg (fun z=>z.drop 1) hd;simpa [List.drop_drop,Nat.add_comm] using this
  rw [Zdg.l0,dlt h2,Zi h2,Zn (by omega)];simp only [Xe,Ya,Zol,hcj]
  have htake:Zh (l.take (j0+1))=if isW l[j0] then Zh (l.take j0)++[l[j0]] else Zh (l.take j0):=by
   unfold Zh;rw [Zai h1,Yx]
   by_cases hw:isW l[j0]=true
   ·rw [Xc hw];simp [hw]
   ·rw [Xd hw];simp [hw]
  generalize hW:Zh (l.take j0)=W at ht hle hlt htake ⊢
  by_cases h5:(l[j0]).1=5
  ·rw [show ((l[j0]).1==5)=true by simpa using h5]
   simp only [Yh,Xf];rw [Z2v h5] at htake;have htake:Zh (l.take (j0+1))=W:=htake;have:=ih (j0+1) c (by omega) hc hdrop (by rw [htake];omega) (by rw [htake];exact ht) (by rw [htake];omega) j (by omega);rw [htake] at this;exact this
  ·rw [show ((l[j0]).1==5)=false by simpa using h5]
   have hwl:W.length<c.length:=by omega
   rw [Zi hwl,Zn (by omega),Yi];simp only [Bool.not_false,Xe,Ya];rw [Z3v h5] at htake;have htake:Zh (l.take (j0+1))=W++[l[j0]]:=htake;have hlen:(Zh (l.take (j0+1))).length=W.length+1:=by rw [htake];simp
   have:=ih (j0+1) (c.set W.length l[j0]) (by omega) (by simpa using hc) (by
    rw [List.drop_set_of_lt (by omega)];exact hdrop) (by omega) (by
    rw [hlen,htake,List.take_add_one,List.take_set_of_le (Yc _),ht,List.getElem?_set_self (by omega)];rfl) (by omega) j (by omega)
   rw [hlen] at this;exact this
theorem Zbz (l:List Zk) (hl:l.length≤1048576):∀k,l.length<k→Zfj k l=some (Zh l):=by
 intro k hk
 have clone:Znj l=some l:=by
  unfold Znj;rw [Z4 (by simp;omega)];rfl
 have run:=Zrh (fun j i=>Z3d.l0 j l (l.length:Int) i) l (fun x=>!(isW x)) (.inl ()) (fun i=>.inr (i:Int)) (fun i hi=>by
  have e:Zol l[i]=some (!(isW l[i])):=by unfold Zol isW;simp [bne]
  constructor
  ·intro hp j
   show Z3d.l0 (j+1) l (l.length:Int) (i:Int)=Z3d.l0 j l (l.length:Int) ((i+1:Nat):Int);rw [Z3d.l0,dlt hi,Zi hi,Zn (by omega)];simp only [Xe,Ya,e,hp,Xf]
  ·intro hp j
   show Z3d.l0 (j+1) l (l.length:Int) (i:Int)=_;unfold Z3d.l0;rw [dlt hi,Zi hi];simp only [Xe,Ya,e,hp]) (fun j=>by
  show Z3d.l0 (j+1) l (l.length:Int) (l.length:Int)=_;unfold Z3d.l0;rw [Zv (Yc _)];rfl) hk
 have run:Z3d.l0 k l (l.length:Int) 0=_:=run
 unfold Zfj
 rw [clone]
 simp only [Ya]
 unfold Zdg Z3d
 rw [run]
 cases hf:Zsb (fun x=>!(isW x)) l 0 with
 | none=>
  have hall:=Zrr.1 hf
  have:Zh l=l:=by
   unfold Zh;exact Y4a.2 fun x hx=>by simpa using hall x hx
  rw [this];rfl
 | some m=>
  obtain ⟨_,h2,h3,h4⟩:=Zml hf;have h2:m<l.length:=h2;have h3:(!(isW l[m]))=true:=h3;have h4:∀j,(hj:j<m)→(!(isW (l[j]'(by omega))))=false:=h4
  have hW:Zh (l.take m)=l.take m:=by
   unfold Zh;refine Y4a.2 fun x hx=>?_
   obtain ⟨j,hj,rfl⟩:=Yna hx;rw [Yr] at hj;rw [Yqa];simpa using h4 j (by omega)
  have hW2:Zh (l.take (m+1))=l.take m:=by
   have:Zh (l.take (m+1))=Zh (l.take m):=by
    unfold Zh;rw [Zai h2,Yx];have:isW l[m]=false:=by simpa using h3
    simp [this]
   rw [this,hW]
  have hlen:(Zh (l.take (m+1))).length=m:=by rw [hW2,Yr];omega
  obtain ⟨c',e1,e2,e3⟩:=Zyjb l hl (l.length-(m+1)) (m+1) l (by omega) rfl rfl (by omega) (by rw [hlen,hW2]) (by omega) k (by omega);rw [hlen] at e1;have hne:(((m:Nat):Int) == -1)=false:=by rw [Zfi];exact Xb (by omega)
  simp only [Ya,hne,Xf];rw [Zn (by omega),e1];simp only [Ya];have hwl:(Zh l).length≤l.length:=Yq _ _
  have ht:Zex (((Zh l).length:Nat):Int) c'.length=some ():=by
   unfold Zex;rw [Xc ⟨by omega,by omega⟩]
  rw [ht];simp only [Ya,Yi]
  have hcut:Zob (Yta (Zh l).length c'++Yd (c'.length-(Zh l).length) ((0,(0,(0,[]))):Zk)) 0 (((Zh l).length:Nat):Int)=some (Zh l):=by
   have hc:(Yta (Zh l).length c').length=(Zh l).length:=by rw [e3]
   have:=Znf (l:=Yta (Zh l).length c'++Yd (c'.length-(Zh l).length) ((0,(0,(0,[]))):Zk)) (i:=0) (j:=(Zh l).length) (Yca _) (by rw [Y8a,hc];omega);rw [Yia,List.take_append_of_le_length (by rw [hc];omega)] at this;rw [e3] at this ⊢;rw [Ym] at this;exact this
  rw [hcut];rfl
def Zdk (x:Zk) (b:Int):Bool:=((x.1==3)||(x.1==4))&&(x.2.2.1==b)
def wAt (w:List Zk) (i:Nat):Zk:=w.getD i (0,(0,(0,[])))
theorem Zng {w:List Zk} {i:Nat} (h:i<w.length):wAt w i=w[i]:=by
 unfold wAt
 rw [Yy,Yg h]
 rfl
def Zoe (w:List Zk) (left:List Nat) (st:List Int) (i:Nat):Bool:=Zkg (wAt w i).2.1 st || !(left.any fun k=>(k != i)&&Zdk (wAt w k) (wAt w i).2.1)
def Zpc (w:List Zk):Nat→List Nat→List Int→List Zuc
 | 0,_,_=>[]
 | _+1,[],_=>[]
 | n+1,i0::rest,st=>match (i0::rest).find? (Zoe w (i0::rest) st) with
  | some i=>(2,((i:Int),((wAt w i).2.1,0)))::Zpc w n ((i0::rest).erase i) st
  | none=>(1,((i0:Int),((wAt w i0).2.1,(st.length:Int))))::Zpc w n (i0::rest) (Zkh (wAt w i0).2.1 st)
def Zg (l:List Zk):List Zuc:=Zpc (Zh l) 40 (Yb (Zh l).length) []
theorem Zhw:∀(n:Nat) (l:List Nat),l.Nodup→(∀x∈l,x<n)→l.length≤n
 | 0,l,_,h=>by
  cases l with
  | nil=>exact Yc _
  | cons x l=>exact absurd (h x Yj) (Yfa _)
 | n+1,l,hn,h=>by
  by_cases hm:n∈l
  ·have h1:=Zhw n (l.erase n) (hn.erase n) (fun x hx=>by
    have h2:=h x (Ysa hx);have h3:=(hn.mem_erase_iff.1 hx).1;omega)
   rw [Y6 hm] at h1;omega
  ·have:=Zhw n l hn (fun x hx=>by
    have h2:=h x hx;rcases Yea x n with h3 | h3
    ·exact h3
    ·have:x=n:=by omega
     exact absurd (this▸hx) hm)
   omega
theorem Z9r {l:List Int} (hn:l.Nodup) (h:∀x∈l,0≤x∧x≤7):l.length≤8:=by
 have:=Zhw 8 (l.map Int.toNat) (by
  refine List.pairwise_map.2 (hn.imp_of_mem fun {a b} ha hb hab e=>hab ?_);have:=h a ha;have:=h b hb;omega) (fun x hx=>by
  obtain ⟨y,hy,rfl⟩:=Ybb.1 hx;have:=h y hy;omega)
 simpa using this
structure PlanI (w:List Zk) (left:List Nat) (st:List Int):Prop where
 nd:left.Nodup
 lt:∀i∈left,i<w.length
 sd:st.Nodup
 sb:∀b∈st,0≤b∧b≤7
theorem Zy3 {k:Int} {l:List Int}:Zkg k l=true ↔ k∈l:=by
 unfold Zkg
 rw [Yza]
 constructor
 ·rintro ⟨x,hx,e⟩
  have:k=x:=by simpa using e
  subst this;exact hx
 ·exact fun h=>⟨k,h,by simp⟩
theorem Zcgb {k:Int} {l:List Int} (h:Zkg k l=false):Zkh k l=l++[k]:=by unfold Zkh;rw [h];rfl
theorem Zdib {w:List Zk} {left:List Nat} {st:List Int} {i:Nat} (h:Zoe w left st i=false):Zkg (wAt w i).2.1 st=false:=by
 unfold Zoe at h
 exact ((Bool.or_eq_false_iff).1 h).1
theorem PlanI.stash {w:List Zk} {i0:Nat} {rest:List Nat} {st:List Int} (h:PlanI w (i0::rest) st) (hw:∀x∈w,0≤x.2.1∧x.2.1≤7) (hf:(i0::rest).find? (Zoe w (i0::rest) st)=none):
  PlanI w (i0::rest) (Zkh (wAt w i0).2.1 st)∧(Zkh (wAt w i0).2.1 st).length=st.length+1∧Zkh (wAt w i0).2.1 st=st++[(wAt w i0).2.1]:=by
 have h0:=Yla.1 hf i0 Yj
 have h1:=Zdib (Y4.2 h0)
 have hi:=h.lt i0 Yj
 rw [Zcgb h1]
 refine ⟨⟨h.nd,h.lt,?_,?_⟩,by simp,rfl⟩
 ·refine Yaa.2 ⟨h.sd,Yba.2 ⟨(fun h=>nomatch h),Y3⟩,fun x hx y hy e=>?_⟩
  rw [Yl.1 hy] at e;subst e;rw [Zy3.2 hx] at h1;cases h1
 ·intro b hb
  rcases Y8.1 hb with hb | hb
  ·exact h.sb b hb
  ·rw [Yl.1 hb,Zng hi]
   exact hw _ (Ye hi)
theorem PlanI.done {w:List Zk} {left:List Nat} {st:List Int} (h:PlanI w left st) (i:Nat):PlanI w (left.erase i) st:=⟨h.nd.erase i,fun j hj=>h.lt j (Ysa hj),h.sd,h.sb⟩
def Z3 (l:List Nat):List Int:=List.map (fun (n:Nat)=>(n:Int)) l
theorem Z0v {l:List Nat} {i:Nat} (h:i<l.length):(Z3 l)[i]'(by simpa [Z3] using h)=((l[i]:Nat):Int):=by simp [Z3]
theorem Zqt (l:List Nat):(Z3 l).length=l.length:=by simp [Z3]
theorem Zujb (w:List Zk) (left:List Nat) (i:Nat) (b:Int) (hw:w.length≤1000) (hl:left.length≤1000) (hlt:∀q∈left,q<w.length):∀k,left.length<k →
  Zjq k (Z3 left) (i:Int) w b=some (left.any fun k=>(k != i)&&Zdk (wAt w k) b,(i:Int),b):=by
 intro k hk
 have run:=Zrh (fun j q=>Z4d.l0 j (Z3 left) w ((Z3 left).length:Int) q (i:Int) b) left (fun k=>(k != i)&&Zdk (wAt w k) b) (.inl ((i:Int),b)) (fun q=>.inr ((q:Int),((i:Int),b))) (fun q hq=>by
  have hql:left[q]<w.length:=hlt _ (Ye hq);have hq':q<(Z3 left).length:=by rw [Zqt];exact hq
  have e:Znp ((left[q]:Nat):Int) (i:Int) w b=some ((left[q] != i)&&Zdk (wAt w left[q]) b):=by
   unfold Znp
   by_cases hne:left[q]=i
   ·rw [show (((left[q]:Nat):Int) != (i:Int))=false by simp [hne],show (left[q] != i)=false by simp [hne]]
    rfl
   ·rw [show (((left[q]:Nat):Int) != (i:Int))=true by simp;omega,show (left[q] != i)=true by simpa using hne,Zi hql,Zng hql]
    rfl
  constructor
  ·intro hp j
   show Z4d.l0 (j+1) (Z3 left) w ((Z3 left).length:Int) (q:Int) (i:Int) b=Z4d.l0 j (Z3 left) w ((Z3 left).length:Int) ((q+1:Nat):Int) (i:Int) b;rw [Z4d.l0,dlt hq',Zi hq',Zn (by omega),Z0v hq];simp only [Xe,Ya,e,hp,Xf]
  ·intro hp j
   show Z4d.l0 (j+1) (Z3 left) w ((Z3 left).length:Int) (q:Int) (i:Int) b=_;rw [Z4d.l0,dlt hq',Zi hq',Z0v hq];simp only [Xe,Ya,e,hp]) (fun j=>by
  show Z4d.l0 (j+1) (Z3 left) w ((Z3 left).length:Int) (left.length:Int) (i:Int) b=_;unfold Z4d.l0;rw [Zv (by rw [Zqt];exact Yc _)];rfl) hk
 have run:Z4d.l0 k (Z3 left) w ((Z3 left).length:Int) 0 (i:Int) b=_:=run
 have hany:=Zit (p:=fun k=>(k != i)&&Zdk (wAt w k) b) (l:=left) (n:=0)
 unfold Zjq Z4d
 rw [run,← hany]
 cases Zsb (fun k=>(k != i)&&Zdk (wAt w k) b) left 0 with
 | none=>rfl
 | some m=>
  simp only [Ya,Yjb];rw [Xa (by omega:(0:Int)≤(m:Int))]
theorem Z5jb (w:List Zk) (left:List Nat) (st:List Int) (i:Nat) (hw:w.length≤1000) (hl:left.length≤1000) (hlt:∀q∈left,q<w.length) (hi:i<w.length):∀k,left.length<k →
  Zmp k (i:Int) w st (Z3 left)=some (Zoe w left st i,st):=by
 intro k hk
 unfold Zmp Zoe
 rw [Zi hi,Zng hi]
 simp only [Ya]
 cases Zkg (w[i]).2.1 st with
 | true=>rfl
 | false=>
  rw [Zujb w left i _ hw hl hlt k hk];rfl
theorem Zckb (w:List Zk) (left:List Nat) (st:List Int) (hw:w.length≤1000) (hl:left.length≤1000) (hlt:∀q∈left,q<w.length):∀k,left.length<k →
  Ztd k (Z3 left) w st (Z3 left)=some (match Zsb (Zoe w left st) left 0 with | some p=>(p:Int) | none=>-1,w,st):=by
 intro k hk
 have run:=Zrh (fun j q=>Ztd.l0 k j (Z3 left) (Z3 left) ((Z3 left).length:Int) q w st) left (Zoe w left st) (.inl (w,st)) (fun q=>.inr ((q:Int),(w,st))) (fun q hq=>by
  have hql:left[q]<w.length:=hlt _ (Ye hq);have hq':q<(Z3 left).length:=by rw [Zqt];exact hq
  have e:=Z5jb w left st left[q] hw hl hlt hql k hk;constructor
  ·intro hp j
   show Ztd.l0 k (j+1) (Z3 left) (Z3 left) ((Z3 left).length:Int) (q:Int) w st=Ztd.l0 k j (Z3 left) (Z3 left) ((Z3 left).length:Int) ((q+1:Nat):Int) w st;rw [Ztd.l0,dlt hq',Zi hq',Zn (by omega),Z0v hq];simp only [Xe,Ya,e,hp,Xf]
  ·intro hp j
   show Ztd.l0 k (j+1) (Z3 left) (Z3 left) ((Z3 left).length:Int) (q:Int) w st=_;rw [Ztd.l0,dlt hq',Zi hq',Z0v hq];simp only [Xe,Ya,e,hp]) (fun j=>by
  show Ztd.l0 k (j+1) (Z3 left) (Z3 left) ((Z3 left).length:Int) (left.length:Int) w st=_;unfold Ztd.l0;rw [Zv (by rw [Zqt];exact Yc _)];rfl) hk
 have run:Ztd.l0 k k (Z3 left) (Z3 left) ((Z3 left).length:Int) 0 w st=_:=run
 unfold Ztd
 rw [run]
 cases Zsb (Zoe w left st) left 0 <;> rfl
theorem Zsv {α:Type} {p:α→Bool}:∀{l:List α} {n:Nat},(Zsb p l n=none∧l.find? p=none)∨∃i,∃h:i<l.length,Zsb p l n=some (n+i)∧l.find? p=some l[i]∧∀j,(hj:j<i)→p (l[j]'(by omega))=false
 | [],n=>.inl ⟨rfl,rfl⟩
 | x::l,n=>by
  cases hp:p x with
  | true=>exact .inr ⟨0,by simp,by simp [Zsb,hp],by simp [Yka,hp],fun j hj=>absurd hj (Yfa _)⟩
  | false=>
   have e1:Zsb p (x::l) n=Zsb p l (n+1):=by simp [Zsb,hp]
   have e2:(x::l).find? p=l.find? p:=by simp [Yka,hp]
   rw [e1,e2];rcases Zsv (p:=p) (l:=l) (n:=n+1) with ⟨h1,h2⟩ | ⟨i,hi,h1,h2,h3⟩
   ·exact .inl ⟨h1,h2⟩
   ·refine .inr ⟨i+1,by simpa using hi,by rw [h1];congr 1;omega,by rw [h2];rfl,fun j hj=>?_⟩
    cases j with
    | zero=>exact hp
    | succ j=>exact h3 j (by omega)
theorem Z39:∀{l:List Nat} {i:Nat} (h:i<l.length),l.Nodup→l.erase l[i]=l.take i++l.drop (i+1)
 | x::l,0,h,hn=>by simp
 | x::l,i+1,h,hn=>by
  have hi:i<l.length:=by simpa using h
  have hne:x≠l[i]:=fun e=>(Yba.1 hn).1 (e▸Ye hi)
  rw [List.getElem_cons_succ,List.erase_cons_tail (by simpa using hne),Z39 hi (Yba.1 hn).2];rfl
theorem Zhkb (w:List Zk) (hw:w.length≤20) (hwb:∀x∈w,0≤x.2.1∧x.2.1≤7) (k:Nat) (hk:20<k):∀(d:Nat) (left:List Nat) (st:List Int) (out:List Zuc),PlanI w left st→left.length+(8-st.length)≤d→out.length+d≤100→∀n j,d<n→d<j →
  ∃f,Zmb.l1 k j w out (Z3 left) st=some (w,out++Zpc w n left st,f):=by
 intro d
 induction d with
 | zero=>
  intro left st out hI hd ho n j hn hj;obtain ⟨j,rfl⟩:∃q,j=q+1:=⟨j-1,by omega⟩;obtain ⟨n,rfl⟩:∃q,n=q+1:=⟨n-1,by omega⟩;obtain rfl:left=[]:=Yja (by omega);refine ⟨(Z3 [],st),?_⟩;unfold Zmb.l1;rw [Xb (by simp [Z3]:¬((0:Int)<((Z3 ([]:List Nat)).length:Int)))];simp only [Xf,Zpc,Yw]
 | succ d ih=>
  intro left st out hI hd ho n j hn hj;obtain ⟨j,rfl⟩:∃q,j=q+1:=⟨j-1,by omega⟩;obtain ⟨n,rfl⟩:∃q,n=q+1:=⟨n-1,by omega⟩;have hll:left.length≤20:=Yib (Zhw w.length left hI.nd hI.lt) hw;have hsl:=Z9r hI.sd hI.sb;cases left with
  | nil=>
   refine ⟨(Z3 [],st),?_⟩;unfold Zmb.l1;rw [Xb (by simp [Z3]:¬((0:Int)<((Z3 ([]:List Nat)).length:Int)))];simp only [Xf,Zpc,Yw]
  | cons i0 rest=>
   have hi0:=hI.lt i0 Yj;rw [Zmb.l1,Xa (by rw [Zqt,Y0];omega:(0:Int)<((Z3 (i0::rest)).length:Int)),Zckb w (i0::rest) st (by omega) (by omega) hI.lt k (by omega)];simp only [Xe,Ya];rcases Zsv (p:=Zoe w (i0::rest) st) (l:=i0::rest) (n:=0) with ⟨h1,h2⟩ | ⟨p,hp,h1,h2,h3⟩
   ·obtain ⟨g1,g2,g3⟩:=hI.stash hwb h2
    have hst:=Z9r g1.sd g1.sb;rw [g2] at hst;rw [h1];have e0:at? (Z3 (i0::rest)) 0=some (i0:Int):=rfl;rw [Xa (by decide:(-1:Int)<0),e0];simp only [Xe,Ya];rw [Zi hi0];simp only [Ya];rw [Z4 (by simp;omega)];simp only [Ya]
    have hp2:Zpc w (n+1) (i0::rest) st=(1,((i0:Int),((wAt w i0).2.1,(st.length:Int))))::Zpc w n (i0::rest) (Zkh (wAt w i0).2.1 st):=by
     simp only [Zpc,h2]
    rw [hp2,Zng hi0];rw [Zng hi0] at g1 g2;obtain ⟨f,hf⟩:=ih (i0::rest) (Zkh (w[i0]).2.1 st) (out++[(1,((i0:Int),((w[i0]).2.1,(st.length:Int))))]) g1 (by omega) (by simp;omega) n j (by omega) (by omega);exact ⟨f,by rw [hf,Yo];rfl⟩
   ·rw [h1,Yk]
    have hpi:p<(Z3 (i0::rest)).length:=by rw [Zqt];exact hp
    have hpl:=hI.lt _ (Ye hp);rw [Xb (by omega:¬((p:Int)<0)),Zi hpi,Z0v hp,Zn (by omega)];simp only [Xf,Ya];rw [Zi hpl];simp only [Ya];rw [Z4 (by simp;omega)]
    have hdel:slices_Delete_int (Z3 (i0::rest)) (p:Int) ((p+1:Nat):Int)=some (Z3 ((i0::rest).erase (i0::rest)[p])):=by
     unfold slices_Delete_int;rw [Xc ⟨by omega,by omega,by omega⟩,Yi,Yi,Z39 hp hI.nd];simp [Z3,List.map_take,List.map_drop]
    rw [hdel];simp only [Ya]
    have hp2:Zpc w (n+1) (i0::rest) st=(2,(((i0::rest)[p]:Nat):Int),(wAt w (i0::rest)[p]).2.1,0)::Zpc w n ((i0::rest).erase (i0::rest)[p]) st:=by
     simp only [Zpc,h2]
    have hle:((i0::rest).erase (i0::rest)[p]).length=(i0::rest).length-1:=Y6 (Ye hp);rw [hp2,Zng hpl]
    obtain ⟨f,hf⟩:=ih ((i0::rest).erase (i0::rest)[p]) st (out++[(2,((((i0::rest)[p]:Nat):Int),((w[(i0::rest)[p]]).2.1,0)))]) (hI.done _) (by
     rw [hle];have:(i0::rest).length=rest.length+1:=rfl;omega) (by simp;omega) n j (by omega) (by omega)
    exact ⟨f,by rw [hf,Yo];rfl⟩
theorem Z2jb (n:Nat) (hn:n≤20):∀k,n<k→Zmb.l0 k (n:Int) 0 (Yd n 0)=some (Z3 (Yb n)):=by
 intro k hk
 have run:=Zgv (fun j i c=>Zmb.l0 j (n:Int) i c) (Z3 (Yb n)) (0:Int) (fun i hi c hc j=>by
  have hin:i<n:=by simpa [Z3] using hi
  have hl:(Z3 (Yb n)).length=n:=by simp [Z3]
  show Zmb.l0 (j+1) (n:Int) (i:Int) c=Zmb.l0 j (n:Int) ((i+1:Nat):Int) (c.set i (Z3 (Yb n))[i]);rw [Zmb.l0,dlt hin,Zi (by omega:i<c.length),Zn (by omega),Yi];simp [Z3]) (fun c j=>by
  show Zmb.l0 (j+1) (n:Int) ((Z3 (Yb n)).length:Int) c=some c;have hl:(Z3 (Yb n)).length=n:=by simp [Z3]
  unfold Zmb.l0;rw [hl,Zv (Yc _)];rfl) (k:=k) (by simp [Z3];omega)
 have hl:(Z3 (Yb n)).length=n:=by simp [Z3]
 rw [hl] at run
 exact run
theorem Za1 (w:List Zk):PlanI w (Yb w.length) []:=⟨List.nodup_range,fun i hi=>Ys.1 hi,Y3,fun b hb=>nomatch hb⟩
theorem Znt (l:List Zk) (hl:l.length≤20) (hb:∀x∈Zh l,0≤x.2.1∧x.2.1≤7):Ze fun k=>Zmb k l=some (Zg l):=by
 refine Ze.ge 60 fun k hk=>?_
 have hwl:(Zh l).length≤l.length:=Yq _ _
 unfold Zmb
 rw [Zbz l (by omega) k (by omega)]
 simp only [Ya]
 rw [Zxt (by omega)]
 simp only [Ya,Y1]
 rw [Z2jb _ (by omega) k (by omega)]
 simp only [Ya]
 obtain ⟨f,hf⟩:=Zhkb (Zh l) (by omega) hb k (by omega) 30 (Yb (Zh l).length) [] [] (Za1 _) (by simp;omega) (by simp) 40 k (by omega) (by omega)
 rw [hf]
 rfl
theorem Zwlb {R:Type} (L:Nat→Int→Option R) (n:Nat) (p:Nat→Bool) (a:R) (b:Nat→R)
  (hs:∀(i:Nat),i<n→(p i=false→∀j,L (j+1) (i:Int)=L j ((i+1:Nat):Int))∧(p i=true→∀j,L (j+1) (i:Int)=some (b i)))
  (he:∀j,L (j+1) (n:Int)=some a) {k:Nat} (hk:n<k):L k 0=some (match (Yb n).find? p with | some i=>b i | none=>a):=by
 have hl:(Yb n).length=n:=Y7
 have run:=Zrh L (Yb n) p a b (fun i hi=>by rw [Y7a];exact hs i (by omega)) (by rw [hl];exact he) (k:=k) (by rw [hl];exact hk)
 rw [run]
 rcases Zsv (p:=p) (l:=Yb n) (n:=0) with ⟨h1,h2⟩ | ⟨q,hq,h1,h2,h3⟩
 ·rw [h1,h2]
 ·rw [h1,h2,Yk,Y7a]
def Z1k:Option Nat→Int
 | some i=>(i:Int)
 | none=>-1
theorem Zl5 (i:Nat):decide (Z1k (some i)<0)=false:=Xb (by show ¬((i:Int)<0);omega)
theorem Zicb:decide (Z1k none<0)=true:=rfl
structure PlanR (w:List Zk) (left:List Nat) (st:List Int) (lB sB:List Bool):Prop where
 pi:PlanI w left st
 so:left.Pairwise (· < ·)
 ll:lB.length=w.length
 lm:∀i,(h:i<lB.length)→lB[i]=decide (i∈left)
 sl:sB.length=8
 sm:∀b:Nat,(h:b<sB.length)→sB[b]=Zkg (b:Int) st
section
variable {w:List Zk} {left:List Nat} {st:List Int} {lB sB:List Bool}
theorem PlanR.done (h:PlanR w left st lB sB) (i:Nat):PlanR w (left.erase i) st (lB.set i false) sB:=by
 refine ⟨h.pi.done i,h.so.sublist List.erase_sublist,by rw [Y2];exact h.ll,fun q hq=>?_,h.sl,h.sm⟩
 rw [Y2] at hq
 rw [Ypa]
 by_cases hi:i=q
 ·subst hi
  rw [Xc rfl,Xb];intro hm;exact (h.pi.nd.mem_erase_iff.1 hm).1 rfl
 ·rw [Xd hi,h.lm q hq,Ywa,decide_eq_true_eq,decide_eq_true_eq,h.pi.nd.mem_erase_iff]
  exact ⟨fun g=>⟨fun e=>hi e.symm,g⟩,fun g=>g.2⟩
theorem PlanR.stash (h:PlanR w left st lB sB) {b:Nat} {st':List Int} (hp:PlanI w left st') (e:st'=st++[(b:Int)]):PlanR w left st' lB (sB.set b true):=by
 refine ⟨hp,h.so,h.ll,h.lm,by rw [Y2];exact h.sl,fun q hq=>?_⟩
 rw [Y2] at hq
 rw [Ypa,e]
 have ha:Zkg (q:Int) (st++[(b:Int)])=(Zkg (q:Int) st||((b:Int)==(q:Int)||(q:Int)==(b:Int))):=by
  rw [Ywa,Zy3,Yga,Zy3,Y8,Yl,Yga,beq_iff_eq,beq_iff_eq];constructor
  ·rintro (g | g)
   ·exact .inl g
   ·exact .inr (.inr g)
  ·rintro (g | g | g)
   ·exact .inl g
   ·exact .inr g.symm
   ·exact .inr g
 rw [ha]
 by_cases hb:b=q
 ·subst hb
  rw [Xc rfl];simp
 ·rw [Xd hb,h.sm q hq]
  have e1:((b:Int)==(q:Int))=false:=by rw [Zfi];exact Xb (by omega)
  have e2:((q:Int)==(b:Int))=false:=by rw [Zfi];exact Xb (by omega)
  rw [e1,e2];simp
theorem Zvnb (h:PlanR w left st lB sB) (hw:w.length≤20) (hwb:∀x∈w,0≤x.2.1∧x.2.1≤7) (i:Nat) (hi:i<w.length):∀k,20<k→Z5c k w lB sB (i:Int)=some (!(Zoe w left st i)):=by
 intro k hk
 obtain ⟨h0,h7⟩:=hwb _ (Ye hi)
 obtain ⟨b,hb⟩:=Yya h0
 have hbs:b<sB.length:=by have:=h.sl;omega
 have run:=Zwlb (fun j q=>Z5c.l0 j w lB (i:Int) q) w.length (fun q=>(q != i)&&(decide (q∈left)&&Zdk (wAt w q) (wAt w i).2.1)) (.inl ()) (fun _=>.inr true) (fun q hq=>by
  have hql:q<lB.length:=by have:=h.ll;omega
  have e0:Zos w[q] (w[i]).2.1=some (Zdk (wAt w q) (wAt w i).2.1):=by rw [Zng hq,Zng hi];rfl
  have key:∀j,Z5c.l0 (j+1) w lB (i:Int) (q:Int)=if ((q != i)&&(decide (q∈left)&&Zdk (wAt w q) (wAt w i).2.1))=true then some (.inr true) else Z5c.l0 j w lB (i:Int) ((q+1:Nat):Int):=by
   intro j;rw [Z5c.l0,dlt hq,Zi hql,Zi hq,Zi hi,Zn (by omega),h.lm q hql];simp only [Xe,Ya,e0]
   by_cases hne:q=i
   ·rw [show ((q:Int) != (i:Int))=false by simp [hne],show (q != i)=false by simp [hne]]
    rfl
   ·rw [show ((q:Int) != (i:Int))=true by simp;omega,show (q != i)=true by simpa using hne]
    cases decide (q∈left) with
    | false=>rfl
    | true=>cases Zdk (wAt w q) (wAt w i).2.1 <;> rfl
  constructor
  ·intro hp j
   show Z5c.l0 (j+1) w lB (i:Int) (q:Int)=Z5c.l0 j w lB (i:Int) ((q+1:Nat):Int);rw [key,Xd (by rw [hp];exact Yu)]
  ·intro hp j
   show Z5c.l0 (j+1) w lB (i:Int) (q:Int)=_;rw [key,Xc hp]) (fun j=>by
  show Z5c.l0 (j+1) w lB (i:Int) (w.length:Int)=_;unfold Z5c.l0;rw [Zv (Yc _)];rfl) (by omega:w.length<k)
 have run:Z5c.l0 k w lB (i:Int) 0=_:=run
 unfold Z5c Zoe
 rw [Zi hi,Zng hi]
 simp only [Ya]
 have hat:at? sB (w[i]).2.1=some (Zkg (w[i]).2.1 st):=by
  rw [hb,Zi hbs,h.sm b hbs]
 rw [hat]
 simp only [Ya]
 cases Zkg (w[i]).2.1 st with
 | true=>rfl
 | false=>
  simp only [Xf,Bool.false_or,Bool.not_not];rw [run];rw [Zng hi];cases hf:(Yb w.length).find? (fun q=>(q != i)&&(decide (q∈left)&&Zdk (wAt w q) (w[i]).2.1)) with
  | none=>
   have:=Yla.1 hf
   have:(left.any fun k=>(k != i)&&Zdk (wAt w k) (w[i]).2.1)=false:=by
    rw [List.any_eq_false];intro x hx hc;refine this x (Ys.2 (h.pi.lt x hx)) ?_;rw [Xa hx,Y5];exact hc
   rw [this];rfl
  | some q=>
   have h1:=Y6a hf
   have:(left.any fun k=>(k != i)&&Zdk (wAt w k) (w[i]).2.1)=true:=by
    rw [Yza];simp only [Yf,decide_eq_true_eq] at h1;exact ⟨q,h1.2.1,by rw [Yf];exact ⟨h1.1,h1.2.2⟩⟩
   rw [this];rfl
theorem Zhob (h:PlanR w left st lB sB) (hw:w.length≤20) (hwb:∀x∈w,0≤x.2.1∧x.2.1≤7) (k:Nat) (hk:20<k):∀(d i:Nat) (dn todo:List Nat),i+d=w.length→left=dn++todo→(∀x∈dn,x<i)→(∀x∈todo,i≤x)→∀j,d<j →
  Zmd.l0 k j w lB sB (Z1k (dn.find? (Zoe w left st))) (Z1k dn.head?) (i:Int)=some (Z1k (left.find? (Zoe w left st)),Z1k left.head?):=by
 intro d
 induction d with
 | zero=>
  intro i dn todo hi hl h1 h2 j hj;obtain ⟨j,rfl⟩:∃q,j=q+1:=⟨j-1,by omega⟩;obtain rfl:i=w.length:=by omega
  have ht:todo=[]:=by
   cases todo with
   | nil=>rfl
   | cons y t=>
    have:=h2 y Yj;have:=h.pi.lt y (by rw [hl];exact Yab _ Yj);omega
  subst ht;rw [Yw] at hl;rw [← hl];unfold Zmd.l0;rw [Zv (Yc _)];rfl
 | succ d ih=>
  intro i dn todo hi hl h1 h2 j hj;obtain ⟨j,rfl⟩:∃q,j=q+1:=⟨j-1,by omega⟩;have hiw:i<w.length:=by omega
  have hil:i<lB.length:=by have:=h.ll;omega
  rw [Zmd.l0,dlt hiw,Zi hil,Zn (by omega),h.lm i hil,Zvnb h hw hwb i hiw k hk];simp only [Xe,Ya]
  by_cases hm:i∈left
  ·rw [Xa hm]
   have hit:i∈todo:=by
    rw [hl] at hm;rcases Y8.1 hm with g | g
    ·exact absurd (h1 i g) (Nat.lt_irrefl _)
    ·exact g
   have hso:=h.so;rw [hl] at hso;have hst:=(List.pairwise_append.1 hso).2.1;cases todo with
   | nil=>exact nomatch hit
   | cons y t=>
    have hyt:=List.pairwise_cons.1 hst
    have hyi:y=i:=by
     rcases List.mem_cons.1 hit with g | g
     ·exact g.symm
     ·have:=hyt.1 i g
      have:=h2 y Yj;omega
    subst hyi
    have ih':=ih (y+1) (dn++[y]) t (by omega) (by rw [hl,Yo];rfl) (fun x hx=>by
     rcases Y8.1 hx with g | g
     ·have:=h1 x g;omega
     ·rw [Yl.1 g];omega) (fun x hx=>hyt.1 x hx) j (by omega)
    have eA:(dn++[y]).find? (Zoe w left st)=(dn.find? (Zoe w left st)).or (if Zoe w left st y then some y else none):=by
     rw [Y5a];congr 1;unfold Yka;cases Zoe w left st y <;> rfl
    have eB:(dn++[y]).head? = (dn.head?).or (some y):=by cases dn <;> rfl
    rw [eA,eB] at ih';simp only [Yh,Xf];cases hB:dn.head? with
    | none=>
     have hdn:dn=[]:=by cases dn with | nil=>rfl | cons a b=>cases hB
     subst hdn;rw [hB] at ih';have e1:(([]:List Nat).find? (Zoe w left st))=none:=rfl;rw [e1] at ih' ⊢;rw [Zicb];simp only [Xe];cases hf:Zoe w left st y with
     | true=>rw [hf] at ih';exact ih'
     | false=>rw [hf] at ih';exact ih'
    | some a=>
     rw [hB] at ih';rw [Zl5];simp only [Xf];cases hA:dn.find? (Zoe w left st) with
     | none=>
      rw [hA] at ih';rw [Zicb];simp only [Xe];cases hf:Zoe w left st y with
      | true=>rw [hf] at ih';exact ih'
      | false=>rw [hf] at ih';exact ih'
     | some c=>
      rw [hA] at ih';rw [Zl5];exact ih'
  ·rw [Xb hm]
   exact ih (i+1) dn todo (by omega) hl (fun x hx=>by have:=h1 x hx;omega) (fun x hx=>by
    have:=h2 x hx;rcases Yea i x with g | g
    ·exact g
    ·have:x=i:=by omega
     subst this;exact absurd (by rw [hl];exact Yab _ hx) hm) j (by omega)
theorem Zi6 (h:PlanR w left st lB sB) (hw:w.length≤20) (hwb:∀x∈w,0≤x.2.1∧x.2.1≤7) (k:Nat) (hk:21<k):Zmd k w lB sB=some (Z1k (left.find? (Zoe w left st)),Z1k left.head?):=by
 have run:=Zhob h hw hwb k (by omega) w.length 0 [] left (Yk _) rfl (fun x hx=>nomatch hx) (fun x _=>Yca x) k (by omega)
 have run:Zmd.l0 k k w lB sB (-1) (-1) 0=_:=run
 unfold Zmd
 rw [run]
 rfl
end
theorem Zkob (w:List Zk) (hw:w.length≤20) (hwb:∀x∈w,0≤x.2.1∧x.2.1≤7) (k:Nat) (hk:21<k):∀(d:Nat) (left:List Nat) (st:List Int) (lB sB:List Bool) (out:List Zuc),PlanR w left st lB sB→left.length+(8-st.length)≤d→out.length+d≤100→∀n j,d<n→d<j →
  Z1b.l1 k j (st.length:Int) w lB sB out=some (out++Zpc w n left st):=by
 intro d
 induction d with
 | zero=>
  intro left st lB sB out hI hd ho n j hn hj;obtain ⟨j,rfl⟩:∃q,j=q+1:=⟨j-1,by omega⟩;obtain ⟨n,rfl⟩:∃q,n=q+1:=⟨n-1,by omega⟩;obtain rfl:left=[]:=Yja (by omega);unfold Z1b.l1;rw [Zi6 hI hw hwb k hk];simp only [Zpc,Yw];rfl
 | succ d ih=>
  intro left st lB sB out hI hd ho n j hn hj;obtain ⟨j,rfl⟩:∃q,j=q+1:=⟨j-1,by omega⟩;obtain ⟨n,rfl⟩:∃q,n=q+1:=⟨n-1,by omega⟩;have hsl:=Z9r hI.pi.sd hI.pi.sb;cases left with
  | nil=>
   unfold Z1b.l1;rw [Zi6 hI hw hwb k hk];simp only [Zpc,Yw];rfl
  | cons i0 rest=>
   have hi0:=hI.pi.lt i0 Yj;rw [Z1b.l1,Zi6 hI hw hwb k hk];simp only [Ya];rw [show (i0::rest).head? = some i0 from rfl,Zl5];simp only [Xf];rcases Zsv (p:=Zoe w (i0::rest) st) (l:=i0::rest) (n:=0) with ⟨h1,h2⟩ | ⟨p,hp,h1,h2,h3⟩
   ·obtain ⟨g1,g2,g3⟩:=hI.pi.stash hwb h2
    have hst:=Z9r g1.sd g1.sb;rw [g2] at hst;rw [h2]
    have hp2:Zpc w (n+1) (i0::rest) st=(1,((i0:Int),((wAt w i0).2.1,(st.length:Int))))::Zpc w n (i0::rest) (Zkh (wAt w i0).2.1 st):=by
     simp only [Zpc,h2]
    rw [hp2,Zng hi0];rw [Zng hi0] at g1 g2 g3;obtain ⟨q0,q7⟩:=hwb _ (Ye hi0);obtain ⟨b,hb⟩:=Yya q0;have hb:(w[i0]).2.1=(b:Int):=hb;have hbs:b<sB.length:=by have:=hI.sl;omega
    rw [show decide (0≤Z1k none)=false from rfl,show Z1k (some i0)=(i0:Int) from rfl,Zi hi0,Zn (by omega)];simp only [Xf,Ya];rw [Z4 (by simp;omega),hb,Zi hbs];simp only [Ya,Yi];rw [hb] at g1 g2 g3;have:=ih (i0::rest) (Zkh (b:Int) st) lB (sB.set b true) (out++[(1,((i0:Int),((b:Int),(st.length:Int))))]) (hI.stash g1 g3) (by omega) (by simp;omega) n j (by omega) (by omega);rw [g2] at this;rw [this,Yo];rfl
   ·rw [h2]
    have hpl:=hI.pi.lt _ (Ye hp);have hll:(i0::rest)[p]<lB.length:=by have:=hI.ll;omega
    have hp2:Zpc w (n+1) (i0::rest) st=(2,(((i0::rest)[p]:Nat):Int),(wAt w (i0::rest)[p]).2.1,0)::Zpc w n ((i0::rest).erase (i0::rest)[p]) st:=by
     simp only [Zpc,h2]
    have hle:((i0::rest).erase (i0::rest)[p]).length=(i0::rest).length-1:=Y6 (Ye hp);rw [hp2,Zng hpl];rw [show decide (0≤Z1k (some (i0::rest)[p]))=true from Xa (Int.natCast_nonneg _),show Z1k (some (i0::rest)[p])=(((i0::rest)[p]:Nat):Int) from rfl,Zi hpl,Zi hll];simp only [Xe,Ya,Yi];rw [Z4 (by simp;omega)];simp only [Ya]
    rw [ih ((i0::rest).erase (i0::rest)[p]) st (lB.set (i0::rest)[p] false) sB (out++[(2,((((i0::rest)[p]:Nat):Int),((w[(i0::rest)[p]]).2.1,0)))]) (hI.done _) (by
     rw [hle];have:(i0::rest).length=rest.length+1:=rfl;omega) (by simp;omega) n j (by omega) (by omega),Yo]
    rfl
theorem Z7nb (w:List Zk) (hw:w.length≤20):∀k,w.length<k→Z1b.l0 k 0 w (Yd w.length false)=some (w,Yd w.length true):=by
 intro k hk
 have run:=Zgv (fun j i c=>(Z1b.l0 j i w c).map fun p=>p.2) (Yd w.length true) false (fun i hi c hc j=>by
  have hiw:i<w.length:=by simpa using hi
  have hic:i<c.length:=by rw [hc];exact hi
  show (Z1b.l0 (j+1) (i:Int) w c).map _=(Z1b.l0 j ((i+1:Nat):Int) w (c.set i (Yd w.length true)[i])).map _;rw [Z1b.l0,dlt hiw,Zi hic,Zn (by omega),Yi,Yoa];rfl) (fun c j=>by
  show (Z1b.l0 (j+1) ((Yd w.length true).length:Int) w c).map _=some c;unfold Z1b.l0;rw [Zv (by simp)];rfl) (k:=k) (by simpa using hk)
 have fst:∀(d i:Nat) (c:List Bool) (r:List Zk×List Bool),i+d=w.length→∀j,Z1b.l0 j (i:Int) w c=some r→r.1=w:=by
  intro d
  induction d with
  | zero=>
   intro i c r hi j h;cases j with
   | zero=>cases h
   | succ j=>
    unfold Z1b.l0 at h;rw [Zv (by omega:w.length≤i)] at h;cases h;rfl
  | succ d ih=>
   intro i c r hi j h;cases j with
   | zero=>cases h
   | succ j=>
    rw [Z1b.l0,dlt (by omega:i<w.length),Zn (by omega)] at h;simp only [Xe] at h;cases ha:at? c (i:Int) with
    | none=>rw [ha] at h;cases h
    | some v=>
     rw [ha] at h;exact ih (i+1) _ r (by omega) j h
 rw [Y1] at run
 have run:(Z1b.l0 k 0 w (Yd w.length false)).map (fun p=>p.2)=some (Yd w.length true):=run
 cases hr:Z1b.l0 k 0 w (Yd w.length false) with
 | none=>rw [hr] at run;cases run
 | some r=>
  rw [hr] at run;have h1:=fst w.length 0 _ r (Yk _) k hr;have h2:r.2=Yd w.length true:=Yva.inj run;obtain ⟨r1,r2⟩:=r;have h1:r1=w:=h1;have h2:r2=Yd w.length true:=h2;rw [h1,h2]
theorem Zmpb (w:List Zk):PlanR w (Yb w.length) [] (Yd w.length true) (Yd 8 false):=by
 refine ⟨Za1 w,List.pairwise_lt_range,Y1,fun i hi=>?_,Y1,fun b hb=>?_⟩
 ·rw [Y1] at hi
  rw [Yoa,Xa (Ys.2 hi)]
 ·rw [Yoa]
  rfl
theorem Zmw (l:List Zk) (hl:l.length≤20) (hb:∀x∈Zh l,0≤x.2.1∧x.2.1≤7):(Zg l).length≤28:=by
 have hwl:(Zh l).length≤l.length:=Yq _ _
 have key:∀(n:Nat) (left:List Nat) (st:List Int),PlanI (Zh l) left st→(Zpc (Zh l) n left st).length≤left.length+(8-st.length):=by
  intro n
  induction n with
  | zero=>intro left st h;exact Yca _
  | succ n ih=>
   intro left st h;cases left with
   | nil=>exact Yca _
   | cons i0 rest=>
    rcases Zsv (p:=Zoe (Zh l) (i0::rest) st) (l:=i0::rest) (n:=0) with ⟨h1,h2⟩ | ⟨p,hp,h1,h2,h3⟩
    ·obtain ⟨g1,g2,g3⟩:=h.stash hb h2
     have hst:=Z9r g1.sd g1.sb;have:=ih _ _ g1;simp only [Zpc,h2,Y0] at this ⊢;omega
    ·have:=ih _ _ (h.done (i0::rest)[p])
     have hle:((i0::rest).erase (i0::rest)[p]).length=(i0::rest).length-1:=Y6 (Ye hp);rw [hle] at this;simp only [Zpc,h2,Y0] at this ⊢;omega
 have:=key 40 _ _ (Za1 (Zh l))
 rw [Y7,Yra] at this
 unfold Zg
 omega
theorem Zbeb (l:List Zk) (hl:l.length≤20) (hb:∀x∈Zh l,0≤x.2.1∧x.2.1≤7):∀k,60≤k→Z1b k l=some (Zg l):=by
 intro k hk
 have hwl:(Zh l).length≤l.length:=Yq _ _
 unfold Z1b
 rw [Zn6 l hl k (by omega)]
 simp only [Ya]
 rw [Zxt (by omega)]
 simp only [Ya]
 rw [Z7nb _ (by omega) k (by omega)]
 simp only [Ya]
 rw [show Ztg 1 8 8 false=some (Yd 8 false) from Zxt (n:=8) (by omega)]
 simp only [Ya]
 have run:=Zkob (Zh l) (by omega) hb k (by omega) 30 _ [] _ _ [] (Zmpb _) (by simp;omega) (by simp) 40 k (by omega) (by omega)
 have run:Z1b.l1 k k 0 (Zh l) (Yd (Zh l).length true) (Yd 8 false) []=_:=run
 rw [run]
 rfl
def Z7b (l:List Zuc):Int:=(((l.filter fun m=>m.1==1).length:Nat):Int)
theorem Zw6 {l:List Zuc} {i:Nat} (h:i<l.length):Z7b (l.take (i+1))=if (l[i]).1=1 then Z7b (l.take i)+1 else Z7b (l.take i):=by
 unfold Z7b
 rw [Zai h,Yx]
 split
 ·rename_i hw;simp [hw]
 ·rename_i hw;simp [hw]
theorem Z80 (l:List Zuc):0≤Z7b l∧Z7b l≤(l.length:Int):=by
 unfold Z7b
 have:=Yq (fun m:Zuc=>m.1==1) l
 omega
theorem Zfeb (l:List Zuc) (hl:l.length≤40):∀k,41≤k→Zle k l=some (Z7b l):=by
 intro k hk
 have key:∀(d i:Nat),i+d=l.length→∀j,d<j→Zle.l0 j l (Z7b (l.take i)) (i:Int)=some (Z7b l):=by
  intro d
  induction d with
  | zero=>
   intro i hi j hj;obtain ⟨j,rfl⟩:∃q,j=q+1:=⟨j-1,by omega⟩;obtain rfl:i=l.length:=by omega
   unfold Zle.l0;rw [Zv (Yc _),Ym];rfl
  | succ d ih=>
   intro i hi j hj;obtain ⟨j,rfl⟩:∃q,j=q+1:=⟨j-1,by omega⟩;have h:i<l.length:=by omega
   have hb:=Z80 (l.take i);have hbl:(l.take i).length≤40:=by rw [Yr];omega
   have:=ih (i+1) (by omega) j (by omega);rw [Zw6 h] at this;rw [Zle.l0,dlt h,Xa (by omega:(l.length:Int)≤40),Zi h,Zn (by omega),w64 (n:=Z7b (l.take i)+1) (by omega) (by omega)];simp only [Yt,Xe,Ya]
   by_cases h1:(l[i]).1=1
   ·rw [Xc h1] at this
    rw [show ((l[i]).1==1)=true by simpa using h1];exact this
   ·rw [Xd h1] at this
    rw [show ((l[i]).1==1)=false by simpa using h1];exact this
 have run:=key l.length 0 (Yk _) k (by omega)
 have run:Zle.l0 k l 0 0=_:=run
 unfold Zle
 rw [run]
 rfl
theorem Z2ab (l:List Zuc) (hl:l.length≤40):∀k,41≤k→Zhe k l=some (Z7b l):=by
 intro k hk
 have key:∀(d i:Nat),i+d=l.length→∀j,d<j→Zhe.l0 j (Z7b (l.take i)) l (l.length:Int) (i:Int)=some (Z7b l):=by
  intro d
  induction d with
  | zero=>
   intro i hi j hj;obtain ⟨j,rfl⟩:∃q,j=q+1:=⟨j-1,by omega⟩;obtain rfl:i=l.length:=by omega
   unfold Zhe.l0;rw [Zv (Yc _),Ym];rfl
  | succ d ih=>
   intro i hi j hj;obtain ⟨j,rfl⟩:∃q,j=q+1:=⟨j-1,by omega⟩;have h:i<l.length:=by omega
   have hb:=Z80 (l.take i);have hbl:(l.take i).length≤40:=by rw [Yr];omega
   have:=ih (i+1) (by omega) j (by omega);rw [Zw6 h] at this;rw [Zhe.l0,dlt h,Zi h,Zn (by omega),w64 (n:=Z7b (l.take i)+1) (by omega) (by omega)];simp only [Xe,Ya]
   by_cases h1:(l[i]).1=1
   ·rw [Xc h1] at this
    rw [show ((l[i]).1==1)=true by simpa using h1];exact this
   ·rw [Xd h1] at this
    rw [show ((l[i]).1==1)=false by simpa using h1];exact this
 have run:=key l.length 0 (Yk _) k (by omega)
 have run:Zhe.l0 k 0 l (l.length:Int) 0=_:=run
 unfold Zhe
 rw [run]
 rfl
theorem Z7i {l:List Zk} {n:Int} (h:Zdb l n=0):∀x∈Zh l,0≤x.2.1∧x.2.1≤7:=by
 obtain ⟨_,h1,h2,h3,_,_⟩:=Z7f h
 intro x hx
 unfold Zh at hx
 rw [Y9] at hx
 have hs:=h3 x hx.1
 have hw:=hx.2
 unfold isW at hw
 have h5:x.1≠5:=by simpa using hw
 unfold Zmg Zgd at hs
 rw [Xd h5] at hs
 split at hs
 ·simp only [Yf,decide_eq_true_eq] at hs;omega
 ·split at hs
  ·simp only [Yf,decide_eq_true_eq] at hs;omega
  ·split at hs
   ·simp only [Yf,decide_eq_true_eq] at hs;omega
   ·split at hs
    ·simp only [Yf,decide_eq_true_eq] at hs;omega
    ·cases hs
theorem Zceb (l:List Zk) (n:Int) (h:Zdb l n=0):Ze fun k=>Zqj k l n=some (Zg l,0):=by
 have hl:=(Z7f h).1
 refine ((Z00 l n (by omega)).and (Ze.ge 60 fun k hk=>hk)).mono fun k hk=>?_
 unfold Zqj
 rw [Xb (by omega:¬((400:Int)<(l.length:Int))),hk.1,h,Zbeb l hl (Z7i h) k hk.2]
 rfl
theorem Zweb (m:Zuc) (l:List Zuc):Z7b (m::l)=(if m.1=1 then 1 else 0)+Z7b l:=by
 unfold Z7b
 rw [List.filter_cons]
 by_cases h:m.1=1
 ·rw [Xc h,show (m.1==1)=true by simpa using h,Xc rfl,Y0];omega
 ·rw [Xd h,show (m.1==1)=false by simpa using h,Xd (by simp)];omega
theorem Zsmb {w:List Zk} (hw:∀x∈w,0≤x.2.1∧x.2.1≤7):∀(n:Nat) (left:List Nat) (st:List Int),PlanI w left st→left.length+(8-st.length)≤n →
  (∀j∈left,∃i:Nat,(Zpc w n left st)[i]? = some (2,((j:Int),((wAt w j).2.1,0)))) ∧
  (∀(i:Nat) (m:Zuc),(Zpc w n left st)[i]? = some m→∃j∈left,m=(2,((j:Int),((wAt w j).2.1,0)))∨m=(1,((j:Int),((wAt w j).2.1,(st.length:Int)+Z7b ((Zpc w n left st).take i))))) ∧
  ∀(i i':Nat) (m m':Zuc),(Zpc w n left st)[i]? = some m→(Zpc w n left st)[i']? = some m'→m.1=2→m'.1=2→m.2.1=m'.2.1→i=i':=by
 intro n
 induction n with
 | zero=>
  intro left st h hn;have:left=[]:=Yja (by omega);subst this;exact ⟨fun j hj=>(by cases hj),fun i m h=>(by cases h),fun i i' m m' h=>(by cases h)⟩
 | succ n ih=>
  intro left st h hn;cases left with
  | nil=>exact ⟨fun j hj=>(by cases hj),fun i m h=>(by cases h),fun i i' m m' h=>(by cases h)⟩
  | cons i0 rest=>
   have hst:=Z9r h.sd h.sb;cases hf:(i0::rest).find? (Zoe w (i0::rest) st) with
   | none=>
    obtain ⟨g1,g2,g3⟩:=h.stash hw hf;have hst':=Z9r g1.sd g1.sb;obtain ⟨k1,k2,k3⟩:=ih _ _ g1 (by rw [g2];omega);have e:Zpc w (n+1) (i0::rest) st=(1,((i0:Int),((wAt w i0).2.1,(st.length:Int))))::Zpc w n (i0::rest) (Zkh (wAt w i0).2.1 st):=by simp only [Zpc,hf]
    rw [e];refine ⟨fun j hj=>?_,fun i m hm=>?_,fun i i' m m' hm hm' h2 h2' he=>?_⟩
    ·obtain ⟨i,hi⟩:=k1 j hj
     exact ⟨i+1,by rw [Yp];exact hi⟩
    ·cases i with
     | zero=>
      rw [Yz] at hm;cases hm;exact ⟨i0,Yj,.inr (by simp [Z7b])⟩
     | succ i=>
      rw [Yp] at hm;obtain ⟨j,hj,q⟩:=k2 i m hm;refine ⟨j,hj,?_⟩;rcases q with q | q
      ·exact .inl q
      ·refine .inr ?_
       rw [q,g2,Ygb,Zweb,Xc rfl];congr 3;omega
    ·cases i with
     | zero=>
      rw [Yz] at hm;cases hm;cases h2
     | succ i=>
      cases i' with
      | zero=>
       rw [Yz] at hm';cases hm';cases h2'
      | succ i'=>
       rw [Yp] at hm hm';rw [k3 i i' m m' hm hm' h2 h2' he]
   | some i1=>
    have hi1:i1∈i0::rest:=Ycb hf;have hle:((i0::rest).erase i1).length=(i0::rest).length-1:=Y6 hi1;obtain ⟨k1,k2,k3⟩:=ih _ _ (h.done i1) (by rw [hle];simp only [Y0] at hn ⊢;omega);have e:Zpc w (n+1) (i0::rest) st=(2,((i1:Int),((wAt w i1).2.1,0)))::Zpc w n ((i0::rest).erase i1) st:=by simp only [Zpc,hf]
    have away:∀(i:Nat) (m:Zuc),(Zpc w n ((i0::rest).erase i1) st)[i]? = some m→m.2.1≠(i1:Int):=fun i m hm q=>by
     obtain ⟨j,hj,r⟩:=k2 i m hm;have hj:=(h.nd.mem_erase_iff.1 hj).1;rcases r with r | r <;> rw [r] at q <;> exact hj (by have q:(j:Int)=(i1:Int):=q;omega)
    rw [e];refine ⟨fun j hj=>?_,fun i m hm=>?_,fun i i' m m' hm hm' h2 h2' he=>?_⟩
    ·by_cases hj1:j=i1
     ·subst hj1
      exact ⟨0,rfl⟩
     ·obtain ⟨i,hi⟩:=k1 j (h.nd.mem_erase_iff.2 ⟨hj1,hj⟩)
      exact ⟨i+1,by rw [Yp];exact hi⟩
    ·cases i with
     | zero=>
      rw [Yz] at hm;cases hm;exact ⟨i1,hi1,.inl rfl⟩
     | succ i=>
      rw [Yp] at hm;obtain ⟨j,hj,q⟩:=k2 i m hm;refine ⟨j,Ysa hj,?_⟩;rcases q with q | q
      ·exact .inl q
      ·refine .inr ?_
       rw [q,Ygb,Zweb,Xd (show ¬((2:Int)=1) by decide)];congr 3;omega
    ·cases i with
     | zero=>
      cases i' with
      | zero=>rfl
      | succ i'=>
       rw [Yz] at hm;rw [Yp] at hm';cases hm;exact absurd he.symm (away i' m' hm')
     | succ i=>
      cases i' with
      | zero=>
       rw [Yp] at hm;rw [Yz] at hm';cases hm';exact absurd he (away i m hm)
      | succ i'=>
       rw [Yp] at hm hm';rw [k3 i i' m m' hm hm' h2 h2' he]
structure PlanF (l:List Zk) (n:Int):Prop where
 all:∀j,j<(Zh l).length→∃i:Nat,(Zg l)[i]? = some (2,((j:Int),((wAt (Zh l) j).2.1,0)))
 form:∀(i:Nat) (m:Zuc),(Zg l)[i]? = some m→∃j,j<(Zh l).length∧(m=(2,((j:Int),((wAt (Zh l) j).2.1,0)))∨m=(1,((j:Int),((wAt (Zh l) j).2.1,Z7b ((Zg l).take i)))))
 one:∀(i i':Nat) (m m':Zuc),(Zg l)[i]? = some m→(Zg l)[i']? = some m'→m.1=2→m'.1=2→m.2.1=m'.2.1→i=i'
theorem Z2z {l:List Zk} {n:Int} (h:Zdb l n=0):PlanF l n:=by
 have hl:=(Z7f h).1
 have hwl:(Zh l).length≤l.length:=Yq _ _
 obtain ⟨h1,h2,h3⟩:=Zsmb (Z7i h) 40 _ _ (Za1 (Zh l)) (by rw [Y7,Yra];omega)
 refine ⟨fun j hj=>h1 j (Ys.2 hj),fun i m hm=>?_,h3⟩
 obtain ⟨j,hj,q⟩:=h2 i m hm
 refine ⟨j,Ys.1 hj,?_⟩
 rcases q with q | q
 ·exact .inl q
 ·refine .inr ?_
  rw [q,Yra];show _=(1,((j:Int),((wAt (Zh l) j).2.1,Z7b ((Zg l).take i))));congr 3;show ((0:Nat):Int)+Z7b ((Zg l).take i)=_;omega
theorem Zxeb {l:List Zuc} {i:Nat} {m:Zuc} (h:l[i]? = some m) (h1:m.1=1):Z7b (l.take i)<Z7b l:=by
 obtain ⟨hi,rfl⟩:=List.getElem?_eq_some_iff.1 h
 have h2:Z7b (l.take (i+1))=Z7b (l.take i)+1:=by rw [Zw6 hi,Xc h1]
 have h3:Z7b (l.take (i+1))≤Z7b l:=by
  unfold Z7b;have:=((Yfb (i+1) l).filter fun m=>m.1==1).length_le;omega
 omega
def Z6c (base:List Str) (w:List Zk) (done:Int→Bool) (mk:Zk→Str):List Str:=
 (Yb base.length).map fun (b:Nat)=>match w.find? (fun x=>x.2.1==(b:Int)) with
  | some x=>if done (b:Int)=true then base.getD b [] else mk x
  | none=>base.getD b []
theorem Zyh (base:List Str) (w:List Zk) (done:Int→Bool) (mk:Zk→Str):(Z6c base w done mk).length=base.length:=by simp [Z6c]
theorem Z5q {base:List Str} {w:List Zk} {done:Int→Bool} {mk:Zk→Str} {b:Nat} (h:b<base.length):(Z6c base w done mk)[b]'(by rw [Zyh];exact h)=match w.find? (fun x=>x.2.1==(b:Int)) with
  | some x=>if done (b:Int)=true then base.getD b [] else mk x
  | none=>base.getD b []:=by simp [Z6c]
theorem Ze7 (base:List Str) (done:Int→Bool) (mk:Zk→Str):Z6c base [] done mk=base:=by
 refine Y1a (Zyh _ _ _ _) fun b h1 h2=>?_
 rw [Z5q h2]
 show base.getD b []=_
 rw [Yy,Yg h2]
 rfl
theorem Zgqb {base:List Str} {w:List Zk} {done done':Int→Bool} {mk mk':Zk→Str} (h:∀x∈w,done x.2.1=done' x.2.1) (hm:∀x∈w,mk x=mk' x):Z6c base w done mk=Z6c base w done' mk':=by
 unfold Z6c
 refine List.map_congr_left fun b _=>?_
 cases hf:w.find? (fun x=>x.2.1==(b:Int)) with
 | none=>rfl
 | some x=>
  have hx:=Ycb hf;have hb:x.2.1=(b:Int):=by simpa using Y6a hf
  have:=h x hx;rw [hb] at this;dsimp only;rw [this,hm x hx]
theorem Zf7 {base:List Str} {w:List Zk} {done:Int→Bool} {mk:Zk→Str} (hn:(w.map fun x=>x.2.1).Nodup) {i:Nat} (h:i<w.length) (h0:0≤w[i].2.1) (h1:w[i].2.1<(base.length:Int)):
  Z6c base (w.take (i+1)) done mk=if done w[i].2.1=true then Z6c base (w.take i) done mk else (Z6c base (w.take i) done mk).set w[i].2.1.toNat (mk w[i]):=by
 have away:∀b:Int,w[i].2.1=b→(w.take i).find? (fun x=>x.2.1==b)=none:=fun b hb=>by
  refine Yla.2 fun x hx=>?_
  obtain ⟨j,hj,rfl⟩:=List.mem_iff_getElem.1 hx;rw [Yr] at hj;rw [Yqa];intro q;have q:w[j].2.1=b:=by simpa using q
  have:=List.pairwise_iff_getElem.1 hn j i (by rw [Yda];omega) (by rw [Yda];exact h) (by omega);rw [Yma,Yma] at this;exact this (q.trans hb.symm)
 have hfind:∀b:Int,(w.take (i+1)).find? (fun x=>x.2.1==b)=if w[i].2.1=b then some w[i] else (w.take i).find? (fun x=>x.2.1==b):=fun b=>by
  rw [Zai h,Y5a]
  by_cases hb:w[i].2.1=b
  ·rw [Xc hb,away b hb]
   simp [hb]
  ·rw [Xd hb]
   have:([w[i]].find? fun x=>x.2.1==b)=none:=by simp [hb]
   rw [this];cases (w.take i).find? (fun x=>x.2.1==b) <;> rfl
 refine Y1a ?_ fun b k1 k2=>?_
 ·split
  ·rw [Zyh,Zyh]
  ·rw [Zyh,Y2,Zyh]
 ·rw [Zyh] at k1
  rw [Z5q k1,hfind]
  by_cases hd:done w[i].2.1=true
  ·simp only [Xc hd]
   rw [Z5q k1]
   by_cases hb:w[i].2.1=(b:Int)
   ·rw [Xc hb,away _ hb]
    dsimp only;rw [← hb,Xc hd]
   ·rw [Xd hb]
  ·simp only [Xd hd]
   rw [Ypa]
   by_cases hb:w[i].2.1=(b:Int)
   ·rw [Xc hb,Xc (by omega)]
    dsimp only;rw [← hb,Xd hd]
   ·rw [Xd hb,Xd (by omega),Z5q k1]
theorem Zv7 (n:Nat) (p:Nat→Bool):(∀i,i<n→p i=true)∨∃m,m<n∧p m=false∧∀i,i<m→p i=true:=by
 induction n with
 | zero=>exact .inl fun i hi=>absurd hi (Yfa i)
 | succ n ih=>
  rcases ih with h | ⟨m,h1,h2,h3⟩
  ·cases hp:p n with
   | true=>
    refine .inl fun i hi=>?_
    rcases Nat.eq_or_lt_of_le (Nat.le_of_lt_succ hi) with rfl | hi
    ·exact hp
    ·exact h i hi
   | false=>exact .inr ⟨n,Nat.lt_succ_self n,hp,h⟩
  ·exact .inr ⟨m,Nat.lt_succ_of_lt h1,h2,h3⟩
theorem Zggb {α:Type} {l:List α} {q:α→Bool}:(∀x∈l,q x=true) ↔ ∀i,(h:i<l.length)→q l[i]=true:=by
 constructor
 ·exact fun h i hi=>h _ (Ye hi)
 ·intro h x hx
  obtain ⟨i,hi,rfl⟩:=Yna hx;exact h i hi
theorem Zsbb {α:Type} (l:List α) (q:α→Bool):(l.all q=true)∨(l.all q=false∧∃m,∃h:m<l.length,q l[m]=false∧∀i,(hi:i<m)→q (l[i]'(by omega))=true):=by
 rcases Zv7 l.length (fun i=>match l[i]? with | some x=>q x | none=>true) with h | ⟨m,h1,h2,h3⟩
 ·refine .inl (Yn.2 (Zggb.2 fun i hi=>?_))
  have:=h i hi
  rwa [Yg hi] at this
 ·rw [Yg h1] at h2
  replace h2:q l[m]=false:=h2;refine .inr ⟨?_,m,h1,h2,fun i hi=>?_⟩
  ·cases ha:l.all q with
   | false=>rfl
   | true=>rw [Yn.1 ha _ (Ye h1)] at h2;cases h2
  ·have:=h3 i hi
   rwa [Yg (by omega)] at this
theorem Zjz {R:Type} (L:Nat→Nat→Option (Unit ⊕ R)) (n:Nat) (p:Nat→Bool) (q:Nat→R) (hs:∀i,i<n→p i=true→∀j,L (j+1) i=L j (i+1)) (hf:∀i,i<n→p i=false→∀j,L (j+1) i=some (.inr (q i))) (he:∀j,L (j+1) n=some (.inl ())):
  ((Yb n).all p=true∧∀k,n<k→L k 0=some (.inl ()))∨((Yb n).all p=false∧∃i,i<n∧p i=false∧∀k,n<k→L k 0=some (.inr (q i))):=by
 rcases Zv7 n p with h | ⟨m,h1,h2,h3⟩
 ·refine .inl ⟨Yn.2 fun i hi=>h i (Ys.1 hi),Zrb L n _ (fun i hi=>hs i hi (h i hi)) he⟩
 ·refine .inr ⟨?_,m,h1,h2,fun k hk=>Zrb L m _ (fun i hi=>hs i (by omega) (h3 i hi)) (hf m h1 h2) k (by omega)⟩
  cases ha:(Yb n).all p with
  | false=>rfl
  | true=>rw [Yn.1 ha m (Ys.2 h1)] at h2;cases h2
def Zwk (s:Str):Bool:=decide (s.length=8)
def Zki (l:List Str):Bool:=(decide (1≤l.length)&&decide (l.length≤8))&&l.all Zwk
theorem Zg6 (l:List Str) {k:Nat} (hk:100≤k):Ztc k l=some (Zki l):=by
 unfold Ztc Zki
 by_cases h1:1≤l.length
 ·by_cases h2:l.length≤8
  ·rw [Xb (by omega:¬((l.length:Int)<1)),Xb (by omega:¬(8<(l.length:Int))),Xa h1,Xa h2]
   simp only [Yxa,Xf,Yt,Y5]
   have good:∀i,(h:i<l.length)→Zwk l[i]=true→∀j,Ztc.l0 (j+1) l (i:Int)=Ztc.l0 j l ((i+1:Nat):Int):=fun i h hb j=>by
    have hb:l[i].length=8:=by simpa [Zwk] using hb
    conv=>lhs;unfold Ztc.l0
    rw [dlt h,Zi h,Zn (by omega)];simp only [Xe,Ya,hb];rfl
   rcases Zsbb l Zwk with h | ⟨h,m,hm,h3,h4⟩
   ·have run:=Zrb (fun j i=>Ztc.l0 j l (i:Int)) l.length (.inl ()) (fun i hi j=>good i hi (Yn.1 h _ (Ye hi)) j) (fun j=>by
     show Ztc.l0 (j+1) l (l.length:Int)=_;unfold Ztc.l0;rw [Zv (Yc _)];rfl) k (by omega)
    have run:Ztc.l0 k l 0=some (.inl ()):=run;rw [run,h];rfl
   ·have run:=Zrb (fun j i=>Ztc.l0 j l (i:Int)) m (.inr false) (fun i hi j=>good i (by omega) (h4 i hi) j) (fun j=>by
     show Ztc.l0 (j+1) l (m:Int)=_;have hb:l[m].length≠8:=by simpa [Zwk] using h3
     unfold Ztc.l0;rw [dlt hm,Zi hm];simp only [Xe,Ya];rw [show ((l[m].length:Int) != 8)=true by simp;omega];rfl) k (by omega)
    have run:Ztc.l0 k l 0=some (.inr false):=run;rw [run,h];rfl
  ·rw [Xa (by omega:8<(l.length:Int)),Xb h2]
   simp
 ·rw [Xa (by omega:(l.length:Int)<1),Xb h1]
  simp
theorem Z7jb (l:List Str) {k:Nat} (hk:100≤k):Zgp k l=some (Zki l):=by
 have hb:Z7j (l.length:Int)=some (decide (1≤(l.length:Int))&&decide ((l.length:Int)≤8)):=rfl
 have hz:Zmi l=some (l.length:Int):=rfl
 unfold Zgp Zki
 refine Za hz (Za hb ?_)
 by_cases h1:1≤l.length
 ·by_cases h2:l.length≤8
  ·rw [Xa (by omega:(1:Int)≤(l.length:Int)),Xa (by omega:(l.length:Int)≤8),Xa h1,Xa h2]
   simp only [Xe,Yt,Y5]
   have good:∀i,(h:i<l.length)→Zwk l[i]=true→∀j,Zkd.l0 (j+1) l (l.length:Int) (i:Int)=Zkd.l0 j l (l.length:Int) ((i+1:Nat):Int):=fun i h hb j=>by
    have hb:l[i].length=8:=by simpa [Zwk] using hb
    conv=>lhs;unfold Zkd.l0
    rw [dlt h,Zi h,Zn (by omega)];simp only [Xe,Ya,Zhp,hb];rfl
   unfold Zjs Zkd;rcases Zsbb l Zwk with h | ⟨h,m,hm,h3,h4⟩
   ·have run:=Zrb (fun j i=>Zkd.l0 j l (l.length:Int) (i:Int)) l.length (.inl ()) (fun i hi j=>good i hi (Yn.1 h _ (Ye hi)) j) (fun j=>by
     show Zkd.l0 (j+1) l (l.length:Int) (l.length:Int)=_;unfold Zkd.l0;rw [Zv (Yc _)];rfl) k (by omega)
    have run:Zkd.l0 k l (l.length:Int) 0=some (.inl ()):=run;rw [run,h];rfl
   ·have run:=Zrb (fun j i=>Zkd.l0 j l (l.length:Int) (i:Int)) m (.inr (m:Int)) (fun i hi j=>good i (by omega) (h4 i hi) j) (fun j=>by
     show Zkd.l0 (j+1) l (l.length:Int) (m:Int)=_;have hb:l[m].length≠8:=by simpa [Zwk] using h3
     unfold Zkd.l0;rw [dlt hm,Zi hm];simp only [Xe,Ya,Zhp];rw [show ((l[m].length:Int) != 8)=true by simp;omega];rfl) k (by omega)
    have run:Zkd.l0 k l (l.length:Int) 0=some (.inr (m:Int)):=run;rw [run,h];simp only [Ya];rw [Xa (by omega:(0:Int)≤(m:Int))];rfl
  ·rw [Xb (by omega:¬((l.length:Int)≤8)),Xb h2]
   simp
 ·rw [Xb (by omega:¬((1:Int)≤(l.length:Int))),Xb h1]
  simp
theorem Zzv {l:List Str} (h:Zki l=true):1≤l.length∧l.length≤8∧∀s∈l,s.length=8:=by
 unfold Zki at h
 simp only [Yf,decide_eq_true_eq] at h
 exact ⟨h.1.1,h.1.2,fun s hs=>by simpa [Zwk] using Yn.1 h.2 s hs⟩
theorem Zq3:∀(l:List Str) (n:Nat),(∀s∈l,s.length≤n)→l.flatten.length≤n*l.length
 | [],n,_=>by simp
 | x::l,n,h=>by
  have h1:=h x Yj;have h2:=Zq3 l n fun s hs=>h s (List.mem_cons_of_mem _ hs)
  rw [List.flatten_cons,Y8a,Y0,Nat.mul_succ];omega
def mtL:Nat→Int→Str→Str
 | 0,_,o=>o
 | d+1,n,o=>if 0<n then mtL d (n.tdiv 10) (Znb [Yv .u8 (Yv .i64 (48+n.tmod 10))]++o) else o
def mt (n:Int):Str:=if n≤0 then [109,48] else [109]++mtL 20 n []
theorem Z5bb:∀(d:Nat) (n:Int) (o:Str),(mtL d n o).length≤o.length+d
 | 0,_,_=>Yc _
 | d+1,n,o=>by
  unfold mtL;split
  ·have:=Z5bb d (n.tdiv 10) (Znb [Yv .u8 (Yv .i64 (48+n.tmod 10))]++o)
   simp [Znb] at this ⊢;omega
  ·omega
theorem Zxbb:∀(d:Nat) (n:Int) (o:Str) (j:Nat),n<10^d→n<9223372036854775808→o.length+d≤1000→d<j→Z2c.l0 j n o=some (mtL d n o)
 | d,n,o,0,_,_,_,h=>absurd h (Yfa d)
 | 0,n,o,j+1,h,_,_,_=>by
  have:¬(0<n):=by
   have:n<1:=h;omega
  unfold Z2c.l0 mtL;rw [Xb this];rfl
 | d+1,n,o,j+1,h,hb,ho,hj=>by
  unfold Z2c.l0 mtL
  by_cases hn:0<n
  ·have e:n.tdiv 10=n/10:=Int.tdiv_eq_ediv_of_nonneg (by omega)
   rw [Xa hn,Xc hn,Z7p (by omega:(10:Int)≠0)];simp only [Xe,Ya];rw [Zvc (by simp [Znb];omega)];simp only [Ya];rw [w64 (by rw [e];omega) (by rw [e];omega)];refine Zxbb d (n.tdiv 10) _ j ?_ (by rw [e];omega) (by simp [Znb];omega) (by omega);rw [e];have h':n<10^d*10:=by rw [← Int.pow_succ];exact h
   omega
  ·rw [Xb hn,Xd hn]
   rfl
theorem Zlz (n:Int) (h:n<9223372036854775808):Ze fun k=>Z2c k n=some (mt n):=by
 refine ⟨21,fun k hk=>?_⟩
 unfold Z2c mt
 by_cases hn:n≤0
 ·rw [Xa hn,Xc hn];rfl
 ·rw [Xb hn,Xd hn]
  simp only [Xf]
  have h20:n<10^20:=by
   have:(10:Int)^20=100000000000000000000:=by rfl
   omega
  rw [Zxbb 20 n [] k h20 h (by simp) (by omega)];simp only [Ya];have hl:=Z5bb 20 n [];rw [Zvc (by simp at hl ⊢;omega)];rfl
theorem Zwgb (s:Str):(s==s)=true:=by simp
def Z9j (n:Nat) (k:Int):List Str:=(Yb n).map fun (i:Nat)=>mt (k+(i:Int))
theorem Zdw {β:Type} (l:List β) (f:Nat→β) (i:Nat) (h:i<l.length):((Yb i).map f++l.drop i).set i (f i)=(Yb (i+1)).map f++l.drop (i+1):=by
 rw [List.set_append_right _ _ (by simp),Yda,Y7,Yua,Yha h,List.set_cons_zero,List.range_succ,Y9a,Yo]
 rfl
theorem Z6p {β:Type} (l:List β) (f:Nat→β) (i:Nat) (h:i≤l.length):((Yb i).map f++l.drop i).length=l.length:=by simp;omega
theorem Zsgb {α:Type} {l:List α} {i:Nat} {x:α} (h:i<l.length):at? (l.set i x) (i:Int)=some x:=by
 rw [Zi (by rw [Y2];exact h),List.getElem_set_self]
def Ev {α:Type} (f:Nat→Option α) (Q:α→Prop):Prop:=∃p,Q p∧Ze fun k=>f k=some p
theorem Ev.bind {α β:Type} {f:Nat→Option α} {g:Nat→α→Option β} {Q:α→Prop} {R:β→Prop} (h:Ev f Q) (k:∀p,Q p→Ev (fun k=>g k p) R):Ev (fun k=>(f k).bind (g k)) R:=by
 obtain ⟨p,hp,e⟩:=h
 obtain ⟨q,hq,e2⟩:=k p hp
 exact ⟨q,hq,(e.and e2).mono fun k h=>(congrArg (fun z=>Option.bind z (g k)) h.1).trans h.2⟩
theorem Ev.ret {α:Type} {p:α} {Q:α→Prop} (h:Q p):Ev (fun _=>some p) Q:=⟨p,h,Ze.of fun _=>rfl⟩
theorem Ev.of {α:Type} {x:Option α} {Q:α→Prop} (h:∃p,x=some p∧Q p):Ev (fun _=>x) Q:=by
 obtain ⟨p,e,h⟩:=h
 exact ⟨p,h,Ze.of fun _=>e⟩
theorem Ev.mono {α:Type} {f:Nat→Option α} {Q R:α→Prop} (h:Ev f Q) (k:∀p,Q p→R p):Ev f R:=by
 obtain ⟨p,hp,e⟩:=h
 exact ⟨p,k p hp,e⟩
theorem Ev.cond {α:Type} {b:Bool} {f g:Nat→Option α} {Q:α→Prop} (h1:b=true→Ev f Q) (h2:b=false→Ev g Q):Ev (fun k=>bif b then f k else g k) Q:=by
 cases b with
 | true=>exact h1 rfl
 | false=>exact h2 rfl
theorem Zvlb {S R:Type} (L:Nat→Nat→S→Option R) (m:S→Nat) (I:S→Prop) (Q:R→Prop) (step:∀s,I s→(∃r,(Ze fun k=>∀j,L k (j+1) s=some r)∧Q r)∨∃s',I s'∧m s'<m s∧Ze fun k=>∀j,L k (j+1) s=L k j s'):∀(n:Nat) (s:S),I s→m s≤n→∃r,Q r∧Ze fun k=>∀j,n<j→L k j s=some r:=by
 intro n
 induction n with
 | zero=>
  intro s hi hm;rcases step s hi with ⟨r,hr,hq⟩ | ⟨s',_,hm',_⟩
  ·refine ⟨r,hq,hr.mono fun k hr j hj=>?_⟩
   obtain ⟨j,rfl⟩:∃q,j=q+1:=⟨j-1,by omega⟩;exact hr j
  ·omega
 | succ n ih=>
  intro s hi hm;rcases step s hi with ⟨r,hr,hq⟩ | ⟨s',hi',hm',hs⟩
  ·refine ⟨r,hq,hr.mono fun k hr j hj=>?_⟩
   obtain ⟨j,rfl⟩:∃q,j=q+1:=⟨j-1,by omega⟩;exact hr j
  ·obtain ⟨r,hq,hr⟩:=ih s' hi' (by omega)
   refine ⟨r,hq,(hr.and hs).mono fun k h j hj=>?_⟩;obtain ⟨j,rfl⟩:∃q,j=q+1:=⟨j-1,by omega⟩;rw [h.2 j];exact h.1 j (by omega)
theorem Ev.loop {S R:Type} (L:Nat→Nat→S→Option R) (m:S→Nat) (I:S→Prop) (Q:R→Prop) (s:S) (hs:I s) (step:∀s,I s→(∃r,(Ze fun k=>∀j,L k (j+1) s=some r)∧Q r)∨∃s',I s'∧m s'<m s∧Ze fun k=>∀j,L k (j+1) s=L k j s'):Ev (fun k=>L k k s) Q:=by
 obtain ⟨r,hq,K,h⟩:=Zvlb L m I Q step (m s) s hs (Yc _)
 exact ⟨r,hq,K+m s+1,fun k hk=>h k (by omega) k (by omega)⟩
abbrev Zbd:=Int×Str
abbrev Z2:=List Str×List Zbd
abbrev Zr:=Int×Z2
theorem Z9eb {α:Type} (L:Nat→Int→Int→Option (Int ⊕ Int)) (l:List α) (len:α→Nat) (n:Int) (h0:0≤n)
  (hs:∀i,(h:i<l.length)→∀s,0≤s→s≤n→∀j,L (j+1) s (i:Int)=if s<(len l[i]:Int) then some (.inr (-1)) else L j (s-(len l[i]:Int)) ((i+1:Nat):Int))
  (he:∀s j,L (j+1) s (l.length:Int)=some (.inl s)):Ev (fun k=>L k n 0) fun r=>(∃v,r = .inl v∧0≤v∧v≤n∧∀x∈l,(len x:Int)≤n)∨r = .inr (-1):=by
 refine Ev.loop (fun k j (z:Int×Nat)=>L j z.1 (z.2:Int)) (fun z=>l.length-z.2) (fun z=>0≤z.1∧z.1≤n∧z.2≤l.length∧∀x∈l.take z.2,(len x:Int)≤n) _ (n,0) ⟨h0,Int.le_refl _,Yca _,fun x hx=>by simp at hx⟩ ?_
 rintro ⟨s,i⟩ ⟨q0,q1,q2,q3⟩
 have q0:0≤s:=q0
 have q1:s≤n:=q1
 have q2:i≤l.length:=q2
 by_cases hi:i<l.length
 ·by_cases hb:s<(len l[i]:Int)
  ·left
   refine ⟨.inr (-1),Ze.of fun k j=>?_,.inr rfl⟩;show L (j+1) s (i:Int)=_;rw [hs i hi s q0 q1,Xc hb]
  ·right
   refine ⟨(s-(len l[i]:Int),i+1),⟨by show 0≤s-_;omega,by show s-_≤n;omega,hi,fun x hx=>?_⟩,by show l.length-(i+1)<l.length-i;omega,Ze.of fun k j=>?_⟩
   ·have hx:x∈l.take (i+1):=hx
    rw [Zai hi] at hx;rcases Y8.1 hx with hx | hx
    ·exact q3 x hx
    ·rw [Yl.1 hx];omega
   ·show L (j+1) s (i:Int)=L j (s-(len l[i]:Int)) ((i+1:Nat):Int)
    rw [hs i hi s q0 q1,Xd hb]
 ·left
  obtain rfl:i=l.length:=by omega
  refine ⟨.inl s,Ze.of fun k j=>he s j,.inl ⟨s,rfl,q0,q1,fun x hx=>q3 x (by rw [Ym];exact hx)⟩⟩
theorem Zxpb (l:List Str) (n:Int) (hl:l.length≤140737488351232) (hx:∀x∈l,x.length≤140737488351232) (h0:0≤n) (h1:n≤1048576):Ev (fun k=>Z9e k l n) fun v=>v≤n∧(0≤v→(l.length:Int)≤n∧∀x∈l,(x.length:Int)≤n):=by
 unfold Z9e
 rw [w64 (n:=n-(l.length:Int)) (by omega) (by omega)]
 refine Ev.cond (fun h=>Ev.ret ⟨by omega,fun h=>by omega⟩) fun h=>?_
 have h:0≤n-(l.length:Int):=by simpa using h
 refine Ev.bind (Z9eb (fun j s i=>Z9e.l0 j l s i) l List.length (n-(l.length:Int)) h (fun i hi s s0 s1 j=>?_) fun s j=>?_) fun r hr=>?_
 ·show Z9e.l0 (j+1) l s (i:Int)=_
  have hb:=hx _ (Ye hi);rw [Z9e.l0,dlt hi,Zi hi,Zn (by omega),];simp only [Xe,Ya];rw [w64 (n:=s-((l[i]).length:Int)) (by omega) (by omega)]
  by_cases hc:s<((l[i]).length:Int)
  ·rw [Xc hc,Xa (by omega:s-((l[i]).length:Int)<0)];rfl
  ·rw [Xd hc,Xb (by omega:¬(s-((l[i]).length:Int)<0))];rfl
 ·show Z9e.l0 (j+1) l s (l.length:Int)=_
  unfold Z9e.l0;rw [Zv (Yc _)];rfl
 ·rcases hr with ⟨v,rfl,v0,v1,v2⟩ | rfl
  ·exact Ev.ret ⟨by omega,fun _=>⟨by omega,fun x hx=>by have:=v2 x hx;omega⟩⟩
  ·exact Ev.ret ⟨by omega,fun h=>by omega⟩
theorem Zupb (l:List Zbd) (n:Int) (hl:l.length≤140737488351232) (hx:∀x∈l,x.2.length≤140737488351232) (h0:0≤n) (h1:n≤1048576):Ev (fun k=>Z8e k l n) fun v=>v≤n∧(0≤v→(l.length:Int)≤n∧∀x∈l,(x.2.length:Int)≤n):=by
 unfold Z8e
 rw [w64 (n:=n-(l.length:Int)) (by omega) (by omega)]
 refine Ev.cond (fun h=>Ev.ret ⟨by omega,fun h=>by omega⟩) fun h=>?_
 have h:0≤n-(l.length:Int):=by simpa using h
 refine Ev.bind (Z9eb (fun j s i=>Z8e.l0 j l s i) l (fun x=>x.2.length) (n-(l.length:Int)) h (fun i hi s s0 s1 j=>?_) fun s j=>?_) fun r hr=>?_
 ·show Z8e.l0 (j+1) l s (i:Int)=_
  have hb:=hx _ (Ye hi)
  have e:Zzp l[i] s=some (if s<((l[i]).2.length:Int) then -1 else s-((l[i]).2.length:Int)):=by
   unfold Zzp;rw [w64 (n:=s-((l[i]).2.length:Int)) (by omega) (by omega)];dsimp only
   by_cases hc:s<((l[i]).2.length:Int)
   ·rw [Xc hc,Xa (by omega:s-((l[i]).2.length:Int)<0)];rfl
   ·rw [Xd hc,Xb (by omega:¬(s-((l[i]).2.length:Int)<0))];rfl
  rw [Z8e.l0,dlt hi,Zi hi,Zn (by omega)];simp only [Xe,Ya];rw [e];simp only [Ya]
  by_cases hc:s<((l[i]).2.length:Int)
  ·rw [Xc hc,Xc hc];rfl
  ·rw [Xd hc,Xd hc,Xb (by omega:¬(s-((l[i]).2.length:Int)<0))];rfl
 ·show Z8e.l0 (j+1) l s (l.length:Int)=_
  unfold Z8e.l0;rw [Zv (Yc _)];rfl
 ·rcases hr with ⟨v,rfl,v0,v1,v2⟩ | rfl
  ·exact Ev.ret ⟨by omega,fun _=>⟨by omega,fun x hx=>by have:=v2 x hx;omega⟩⟩
  ·exact Ev.ret ⟨by omega,fun h=>by omega⟩
def Zq1 (f:Z2):Prop:=(f.1.length≤140737488351232∧∀x∈f.1,x.length≤140737488351232)∧f.2.length≤140737488351232∧∀x∈f.2,x.2.length≤140737488351232
def Zxu (f:Z2) (n:Int):Prop:=((f.1.length:Int)≤n∧∀x∈f.1,(x.length:Int)≤n)∧(f.2.length:Int)≤n∧∀x∈f.2,(x.2.length:Int)≤n
theorem Zvpb (f:Z2) (n:Int) (hb:Zq1 f) (h0:0≤n) (h1:n≤1048576):Ev (fun k=>Z0p k f n) fun v=>v≤n∧(0≤v→Zxu f n):=by
 unfold Z0p
 refine Ev.bind (Zxpb f.1 n hb.1.1 hb.1.2 h0 h1) fun v hv=>Ev.cond (fun _=>Ev.ret ⟨by omega,fun h=>by omega⟩) fun hc=>?_
 have hc:0≤v:=by simpa using hc
 refine Ev.bind (Zupb f.2 v hb.2.1 hb.2.2 hc (by omega)) fun u hu=>Ev.cond (fun _=>Ev.ret ⟨by omega,fun h=>by omega⟩) fun hd=>Ev.ret ⟨by omega,fun hu0=>?_⟩
 obtain ⟨a1,a2⟩:=hv.2 hc
 obtain ⟨b1,b2⟩:=hu.2 hu0
 exact ⟨⟨a1,a2⟩,by omega,fun x hx=>by have:=b2 x hx;omega⟩
theorem Zwpb (m:Zr) (n:Int) (hb:Zq1 m.2) (h0:0≤n) (h1:n≤1048576):Ev (fun k=>Z1p k m n) fun v=>v≤n∧(0≤v→Zxu m.2 n):=by
 unfold Z1p
 exact Ev.bind (Zvpb m.2 n hb h0 h1) fun v hv=>Ev.cond (fun _=>Ev.ret ⟨by omega,fun h=>by omega⟩) fun _=>Ev.ret hv
theorem Z8pb (l:List Str) (hl:l.length≤1048576):Ze fun k=>Zbf k l=some l:=by
 refine Ze.ge (l.length+1) fun k hk=>?_
 unfold Zbf
 rw [Zxt (by omega)]
 simp only [Ya]
 rw [Zgv (fun j i c=>Zbf.l0 j l i c) l ([]:Str) (fun i hi c hc j=>by
  show Zbf.l0 (j+1) l (i:Int) c=_;rw [Zbf.l0,dlt hi,Zi hi,Zi (by omega:i<c.length),Zn (by omega)];rfl) (fun c j=>by
  show Zbf.l0 (j+1) l (l.length:Int) c=_;unfold Zbf.l0;rw [Zv (Yc _)];rfl) (k:=k) (by omega)]
 rfl
theorem Z3pb (l:List Zbd) (hl:l.length≤1048576):Ze fun k=>Zaf k l=some l:=by
 refine Ze.ge (l.length+1) fun k hk=>?_
 unfold Zaf
 rw [Zxt (by omega)]
 simp only [Ya]
 rw [Zgv (fun j i c=>Zaf.l0 j l i c) l ((0,[]):Zbd) (fun i hi c hc j=>by
  show Zaf.l0 (j+1) l (i:Int) c=_;rw [Zaf.l0,dlt hi,Zi hi,Zi (by omega:i<c.length),Zn (by omega)];rfl) (fun c j=>by
  show Zaf.l0 (j+1) l (l.length:Int) c=_;unfold Zaf.l0;rw [Zv (Yc _)];rfl) (k:=k) (by omega)]
 rfl
theorem Z5pb (l:List Int) (hl:l.length≤1048576):Ze fun k=>Zyd k l=some l:=by
 refine Ze.ge (l.length+1) fun k hk=>?_
 unfold Zyd
 rw [Zxt (by omega)]
 simp only [Ya]
 rw [Zgv (fun j i c=>Zyd.l0 j l i c) l (0:Int) (fun i hi c hc j=>by
  show Zyd.l0 (j+1) l (i:Int) c=_;rw [Zyd.l0,dlt hi,Zi hi,Zi (by omega:i<c.length),Zn (by omega)];rfl) (fun c j=>by
  show Zyd.l0 (j+1) l (l.length:Int) c=_;unfold Zyd.l0;rw [Zv (Yc _)];rfl) (k:=k) (by omega)]
 rfl
theorem Z4pb (f:Z2) (n:Int) (hf:Zxu f n) (hn:n≤1048576):Ze fun k=>Z2p k f=some f:=by
 have h1:=hf.1.1
 have h2:=hf.2.1
 refine ((Z8pb f.1 (by omega)).and (Z3pb f.2 (by omega))).mono fun k ⟨e1,e2⟩=>?_
 unfold Z2p
 rw [e1,e2]
 rfl
theorem Z7pb (m:Zr) (n:Int) (hf:Zxu m.2 n) (hn:n≤1048576):Ze fun k=>Zrl k m=some m:=by
 refine (Z4pb m.2 n hf hn).mono fun k e=>?_
 unfold Zrl
 rw [e]
 rfl
theorem Z29 (l:List Str) (hl:l.length≤1048576):Ze fun k=>Zuf k l l=some true:=by
 have key:Ze fun k=>Zuf.l0 k l l 0=some (.inl ()):=by
  refine Zv4 (fun j i=>Zuf.l0 j l l (i:Int)) l.length _ (fun i hi j=>?_) fun j=>?_
  ·conv=>lhs;unfold Zuf.l0
   rw [dlt hi,Zi hi,Zn (by omega)];simp only [Xe,Ya,beq_self_eq_true,Yh,Xf]
  ·conv=>lhs;unfold Zuf.l0
   rw [Zv (Yc _)];rfl
 refine key.mono fun k hk=>?_
 unfold Zuf
 rw [hk]
 simp
theorem Zy9 (l:List Zbd) (hl:l.length≤1048576):Ze fun k=>Zsf k l l=some true:=by
 have hd:∀x:Zbd,Zup x x=some true:=fun x=>by
  unfold Zup;simp only [bne_self_eq_false,beq_self_eq_true,Yh,Xf]
 have key:Ze fun k=>Zsf.l0 k l l 0=some (.inl ()):=by
  refine Zv4 (fun j i=>Zsf.l0 j l l (i:Int)) l.length _ (fun i hi j=>?_) fun j=>?_
  ·conv=>lhs;unfold Zsf.l0
   rw [dlt hi,Zi hi,Zn (by omega)];simp only [Xe,Ya,hd,Yh,Xf]
  ·conv=>lhs;unfold Zsf.l0
   rw [Zv (Yc _)];rfl
 refine key.mono fun k hk=>?_
 unfold Zsf
 rw [hk]
 simp
theorem Z2hb (l:List Int) (hl:l.length≤1048576):Ze fun k=>Ztf k l l=some true:=by
 have key:Ze fun k=>Ztf.l0 k l l 0=some (.inl ()):=by
  refine Zv4 (fun j i=>Ztf.l0 j l l (i:Int)) l.length _ (fun i hi j=>?_) fun j=>?_
  ·conv=>lhs;unfold Ztf.l0
   rw [dlt hi,Zi hi,Zn (by omega)];simp only [Xe,Ya,bne_self_eq_false,Xf]
  ·conv=>lhs;unfold Ztf.l0
   rw [Zv (Yc _)];rfl
 refine key.mono fun k hk=>?_
 unfold Ztf
 rw [hk]
 simp
theorem Z4hb (m:Zr) (n:Int) (hf:Zxu m.2 n) (hn:n≤1048576):Ze fun k=>Zxk k m m=some true:=by
 have h1:=hf.1.1
 have h2:=hf.2.1
 refine ((Z29 m.2.1 (by omega)).and (Zy9 m.2.2 (by omega))).mono fun k ⟨e1,e2⟩=>?_
 unfold Zxk Zvp
 rw [e1,e2]
 simp only [bne_self_eq_false,Ya,Yh,Xf]
theorem Zqlb (s:Str):Znb (Zgb s)=s:=by
 unfold Znb Zgb
 rw [List.map_map]
 have:((fun n:Int=>UInt8.ofNat n.toNat) ∘ fun b:UInt8=>(b.toNat:Int))=id:=by
  funext b
  simp
 rw [this,List.map_id]
theorem Zplb (a b:List Int):Znb (a++b)=Znb a++Znb b:=by simp [Znb]
theorem Zk2 (a b:Str):Zgb (a++b)=Zgb a++Zgb b:=by simp [Zgb]
theorem Zl2 (s:Str):(Zgb s).length=s.length:=by simp [Zgb]
def xb (a b:Str) (i:Nat):Int:=intBits .xor .u8 ((a.getD i 0).toNat:Int) ((b.getD i 0).toNat:Int)
def Zn1 (a b:Str):Str:=Znb ((Yb 8).map (xb a b))
def Zys (a b:Str):Str:=if a.length=8∧b.length=8 then Zn1 a b else []
theorem Z61 {s:Str} {i:Nat} (h:i<s.length):at? s (i:Int)=some (s.getD i 0):=by
 rw [Zi h,Yy,Yg h]
 rfl
theorem Z8kb {a b:Str} (ha:a.length=8) (hb:b.length=8) {k:Nat} (hk:10≤k):Zrf k a b=some (Zn1 a b):=by
 have hbl:(Zgb a).length=8:=by rw [Zl2,ha]
 have run:=Zrb (fun j i=>Zrf.l0 j b ((Zgb a).length:Int) (i:Int) ((Yb i).map (xb a b)++(Zgb a).drop i)) 8 ((Yb 8).map (xb a b)) (fun i hi j=>?_) (fun j=>?_) k (by omega)
 ·have run:Zrf.l0 k b ((Zgb a).length:Int) 0 (Zgb a)=some ((Yb 8).map (xb a b)):=run
  unfold Zrf;exact Za (Zkdb (by omega)) (Za run rfl)
 ·have hl:=Z6p (Zgb a) (xb a b) i (by omega)
  have hat:at? ((Yb i).map (xb a b)++(Zgb a).drop i) (i:Int)=some ((a.getD i 0).toNat:Int):=by
   rw [Zi (by rw [hl];omega)];rw [List.getElem_append_right (by simp)];simp only [Yda,Y7,Yua,List.getElem_drop,Yhb];unfold Zgb;rw [Yma,Yy,Yg (by omega)];rfl
  conv=>lhs;unfold Zrf.l0
  rw [Xa (by omega:(i:Int)<((Zgb a).length:Int)),Zn (by omega),Xe];refine Za hat (Za hat (Za (Z61 (by omega)) (Za hat (Za hat ?_))));have:=Zdw (Zgb a) (xb a b) i (by omega);rw [Yi,show intBits .xor .u8 ((a.getD i 0).toNat:Int) ((b.getD i 0).toNat:Int)=xb a b i from rfl,this]
 ·conv=>lhs;unfold Zrf.l0
  rw [hbl,List.drop_of_length_le (by omega),Yw];rfl
theorem Z9ob (a b:Str) {k:Nat} (hk:10≤k):Z1f k a b=some (Zys a b):=by
 unfold Zys Z1f
 by_cases h:a.length=8∧b.length=8
 ·obtain ⟨ha,hb⟩:=h
  rw [Xc ⟨ha,hb⟩,show (((a.length:Int) != 8)||((b.length:Int) != 8))=false by rw [ha,hb];rfl,Xf];have hm:Ztg 1 8 8 (0:Int)=some (Yd 8 0):=rfl;have run:=Zrb (fun j i=>Z1f.l0 j a b (i:Int) ((Yb i).map (xb a b)++(Yd 8 (0:Int)).drop i)) 8 ((Yb 8).map (xb a b)) (fun i hi j=>?_) (fun j=>?_) k (by omega)
  ·have run:Z1f.l0 k a b 0 (Yd 8 0)=some ((Yb 8).map (xb a b)):=run
   exact Za hm (Za run rfl)
  ·have hl:=Z6p (Yd 8 (0:Int)) (xb a b) i (by simp;omega)
   rw [Y1] at hl;obtain ⟨z,hat⟩:∃z,at? ((Yb i).map (xb a b)++(Yd 8 (0:Int)).drop i) (i:Int)=some z:=⟨_,Zi (by rw [hl];exact hi)⟩
   conv=>lhs;unfold Z1f.l0
   rw [Xa (by omega:(i:Int)<8),Zn (by omega),Xe];refine Za (Z61 (by omega)) (Za (Z61 (by omega)) (Za hat (Za hat ?_)));have:=Zdw (Yd 8 (0:Int)) (xb a b) i (by simp;omega);rw [Yi,show intBits .xor .u8 ((a.getD i 0).toNat:Int) ((b.getD i 0).toNat:Int)=xb a b i from rfl,this]
  ·conv=>lhs;unfold Z1f.l0
   rfl
 ·rw [Xd h,show (((a.length:Int) != 8)||((b.length:Int) != 8))=true by
   rw [Yga]
   by_cases ha:a.length=8
   ·right;simp;omega
   ·left;simp;omega]
  rfl
def Zk7:Str:=[0,0,0,0,0,0,0,0]
def Zfh (x:Zk) (s:Str):Str:=if x.1=1 then Zk7 else if x.1=2 then x.2.2.2 else if x.1=3 then s else Zys s x.2.2.2
theorem Zv0 (x:Zk) (s:Str) {k:Nat} (hk:10≤k):Zcl k x s=some (Zfh x s):=by
 have hz:Zns=some Zk7:=rfl
 unfold Zcl Zfh
 by_cases h1:x.1=1
 ·rw [Xc h1,show (x.1==1)=true by simpa using h1]
  exact Za hz rfl
 ·rw [Xd h1,show (x.1==1)=false by simpa using h1,Xf]
  by_cases h2:x.1=2
  ·rw [Xc h2,show (x.1==2)=true by simpa using h2]
   rfl
  ·rw [Xd h2,show (x.1==2)=false by simpa using h2,Xf]
   by_cases h3:x.1=3
   ·rw [Xc h3,show (x.1==3)=true by simpa using h3]
    rfl
   ·rw [Xd h3,show (x.1==3)=false by simpa using h3,Xf]
    exact Za (Z9ob _ _ hk) rfl
theorem Z53 {x:Zk} {s:Str} (h:x.1=1∨x.1=2∨x.1=3∨(s.length=8∧x.2.2.2.length=8)) {k:Nat} (hk:10≤k):Zrm k x s=some (Zfh x s):=by
 unfold Zrm Zfh
 by_cases h1:x.1=1
 ·rw [Xc h1,show (x.1==1)=true by simpa using h1]
  rfl
 ·rw [Xd h1,show (x.1==1)=false by simpa using h1,Xf]
  by_cases h2:x.1=2
  ·rw [Xc h2,show (x.1==2)=true by simpa using h2]
   rfl
  ·rw [Xd h2,show (x.1==2)=false by simpa using h2,Xf]
   by_cases h3:x.1=3
   ·rw [Xc h3,show (x.1==3)=true by simpa using h3]
    rfl
   ·rw [Xd h3,show (x.1==3)=false by simpa using h3,Xf]
    obtain ⟨a,b⟩:s.length=8∧x.2.2.2.length=8:=by
     rcases h with h | h | h | h
     ·exact absurd h h1
     ·exact absurd h h2
     ·exact absurd h h3
     ·exact h
    refine Za (Z8kb a b hk) ?_;unfold Zys;rw [Xc ⟨a,b⟩]
structure WriteOk (x:Zk) (n:Int):Prop where
 kind:x.1=1∨x.1=2∨x.1=3∨(x.1=4∧x.2.2.2.length=8)
 tgt:0≤x.2.1∧x.2.1<n
 src:0≤x.2.2.1∧x.2.2.1<n
theorem Zsu {l:List Zk} {n:Int} (h:Zdb l n=0):∀x∈Zh l,WriteOk x n:=by
 intro x hx
 obtain ⟨_,h1,_,hs,_⟩:=Z7f h
 unfold Zh at hx
 obtain ⟨hx,hw⟩:=Y9.1 hx
 have h5:x.1≠5:=by unfold isW at hw;simpa using hw
 have hs:=hs x hx
 unfold Zmg Zgd at hs
 split at hs
 ·rename_i q
  simp only [Yf,decide_eq_true_eq] at hs;exact ⟨.inl q,by omega,by omega⟩
 ·split at hs
  ·rename_i q
   simp only [Yf,decide_eq_true_eq] at hs;exact ⟨.inr (.inl q),by omega,by omega⟩
  ·split at hs
   ·rename_i q
    simp only [Yf,decide_eq_true_eq] at hs;exact ⟨.inr (.inr (.inl q)),by omega,by omega⟩
   ·split at hs
    ·rename_i q
     simp only [Yf,decide_eq_true_eq] at hs;exact ⟨.inr (.inr (.inr ⟨q,by omega⟩)),by omega,by omega⟩
    ·cases hs
def Zne (base:List Str) (l:List Zk):List Str:=Z6c base (Zh l) (fun _=>false) fun x=>Zfh x (base.getD x.2.2.1.toNat [])
theorem Zmo {l:List Str} {n:Int} (h0:0≤n) (h1:n<(l.length:Int)):at? l n=some (l.getD n.toNat []):=by
 obtain ⟨i,rfl⟩:∃i:Nat,n=(i:Int):=⟨n.toNat,by omega⟩
 rw [Zi (by omega),Yy,Yi,Yg (by omega)]
 rfl
theorem Zu3 {l:List Str} {n:Nat} (h:n<l.length):l.getD n []∈l:=by
 rw [Yy,Yg h]
 exact Ye h
theorem Zuab {base:List Str} {l:List Zk} {n:Int} (hc:Zdb l n=0) (hb:(base.length:Int)=n) (h8:∀s∈base,s.length=8) {k:Nat} (hk:100≤k):Zse k base l=some (Zne base l):=by
 obtain ⟨hl,h1,h2,_,hnd,_⟩:=Z7f hc
 have hw:(Zh l).length≤l.length:=Yq _ _
 have hcl:Z6h base=some base:=by
  unfold Z6h;exact Za (Z4 (by simp;omega)) rfl
 have run:=Zrb (fun j i=>Zse.l0 k j base (Zh l) ((Zh l).length:Int) (i:Int) (Z6c base ((Zh l).take i) (fun _=>false) fun x=>Zfh x (base.getD x.2.2.1.toNat []))) (Zh l).length (Zne base l) (fun i hi j=>?_) (fun j=>?_) k (by omega)
 ·have run:Zse.l0 k k base (Zh l) ((Zh l).length:Int) 0 (Z6c base [] (fun _=>false) fun x=>Zfh x (base.getD x.2.2.1.toNat []))=some (Zne base l):=run
  rw [Ze7] at run;unfold Zse;exact Za hcl (Za (Zbz l (by omega) k (by omega)) (Za run rfl))
 ·have hx:=Zsu hc _ (Ye hi)
  have hsrc:=hx.src;have hto:=hx.tgt;have hv:(Z6c base ((Zh l).take i) (fun _=>false) fun x=>Zfh x (base.getD x.2.2.1.toNat [])).length=base.length:=Zyh _ _ _ _;have hs8:=h8 _ (Zu3 (l:=base) (n:=(Zh l)[i].2.2.1.toNat) (by omega));have hat:=Zmo (l:=Z6c base ((Zh l).take i) (fun _=>false) fun x=>Zfh x (base.getD x.2.2.1.toNat [])) hto.1 (by rw [hv];omega)
  conv=>lhs;unfold Zse.l0
  rw [dlt hi,Zn (by omega),Xe];refine Za (Zi hi) (Za (Zmo hsrc.1 (by omega)) (Za (Z53 (by rcases hx.kind with q | q | q | q;exact .inl q;exact .inr (.inl q);exact .inr (.inr (.inl q));exact .inr (.inr (.inr ⟨hs8,q.2⟩))) (by omega)) (Za hat (Za hat ?_))));rw [Zf7 hnd hi hto.1 (by omega),Xd Yu]
 ·conv=>lhs;unfold Zse.l0
  rw [Zv (Yc _),Ym];rfl
theorem Zsnb {base:List Str} {l:List Zk} {n:Int} (hc:Zdb l n=0) (hb:(base.length:Int)=n) {k:Nat} (hk:100≤k):Zgf k base l=some (Zne base l):=by
 obtain ⟨hl,h1,h2,_,hnd,_⟩:=Z7f hc
 have run:=Zrb (fun j i=>Zgf.l0 k j base l (i:Int) (Z6c base (Zh (l.take i)) (fun _=>false) fun x=>Zfh x (base.getD x.2.2.1.toNat []))) l.length (Zne base l) (fun i hi j=>?_) (fun j=>?_) k (by omega)
 ·have run:Zgf.l0 k k base l 0 (Z6c base [] (fun _=>false) fun x=>Zfh x (base.getD x.2.2.1.toNat []))=some (Zne base l):=run
  rw [Ze7] at run;have ha:Zs 16 ([]:List Str) base=some base:=Z4 (by simp;omega);unfold Zgf;exact Za ha (Za run rfl)
 ·have hv:(Z6c base (Zh (l.take i)) (fun _=>false) fun x=>Zfh x (base.getD x.2.2.1.toNat [])).length=base.length:=Zyh _ _ _ _
  have ht:Zh (l.take (i+1))=if isW l[i] then Zh (l.take i)++[l[i]] else Zh (l.take i):=by
   unfold Zh;rw [Zai hi,Yx];cases h:isW l[i] with
   | true=>rw [Xc rfl,Y3a h];rfl
   | false=>rw [Xd Yu,Y2a (by rw [h];exact Yu)];simp
  have hpre:Zh (l.take i) <+: Zh l:=by
   unfold Zh;exact (Yeb i l).filter _
  conv=>lhs;unfold Zgf.l0
  rw [dlt hi,Zn (by omega),Xe];refine Za (Zi hi) ?_;dsimp only;rw [ht];cases hw:isW l[i] with
  | false=>
   have h5:l[i].1=5:=by unfold isW at hw;simpa using hw
   rw [show (l[i].1 != 5)=false by simpa using h5,Xd Yu];rfl
  | true=>
   have h5:l[i].1≠5:=by unfold isW at hw;simpa using hw
   have hx:=Zsu hc l[i] (Y9.2 ⟨Ye hi,hw⟩);have hsrc:=hx.src;have hto:=hx.tgt;have hat:=Zmo (l:=Z6c base (Zh (l.take i)) (fun _=>false) fun x=>Zfh x (base.getD x.2.2.1.toNat [])) hto.1 (by rw [hv];omega);rw [show (l[i].1 != 5)=true by simpa using h5,Xe,Xc rfl];refine Za (Zi hi) (Za (Zi hi) (Za (Zi hi) (Za (Zmo hsrc.1 (by omega)) (Za (Zv0 _ _ (by omega)) (Za hat (Za hat ?_))))))
   have hpre2:Zh (l.take (i+1)) <+: Zh l:=by
    unfold Zh;exact (Yeb (i+1) l).filter _
   rw [ht,hw,Xc rfl] at hpre2;obtain ⟨r,hr⟩:=hpre2
   have hlen:(Zh (l.take i)).length<(Zh l).length:=by
    rw [← hr];simp
   have e1:(Zh l)[(Zh (l.take i)).length]=l[i]:=by
    have:(Zh l)[(Zh (l.take i)).length]? = some l[i]:=by
     rw [← hr,Yo,List.getElem?_append_right (Yc _),Yua];rfl
    rw [Yg hlen] at this;exact Yva.inj this
   have e2:(Zh l).take (Zh (l.take i)).length=Zh (l.take i):=by
    rw [← hr,Yo,List.take_left]
   have e3:(Zh l).take ((Zh (l.take i)).length+1)=Zh (l.take i)++[l[i]]:=by
    rw [Zai hlen,e1,e2]
   have:=Zf7 (base:=base) (w:=Zh l) (done:=fun _=>false) (mk:=fun x=>Zfh x (base.getD x.2.2.1.toNat [])) hnd hlen (by rw [e1];exact hto.1) (by rw [e1];omega);rw [e1,e2,e3,Xd Yu] at this;rw [this]
 ·conv=>lhs;unfold Zgf.l0
  rw [Zv (Yc _),Ym];rfl
theorem Zgeb {base:List Str} {l:List Zk} (hi:Zki base=true) (hl:l.length≤400):Ze fun k=>Z8m k base l=some (if Zdb l (base.length:Int)=0 then (Zne base l,0) else ([],Zdb l (base.length:Int))):=by
 have hb:=Zzv hi
 refine ((Z00 l (base.length:Int) (by omega)).and (Ze.ge 100 fun k hk=>hk)).mono fun k ⟨e,hk⟩=>?_
 unfold Z8m
 refine Za (a:=if Zdb l (base.length:Int)=0 then (Zne base l,0) else ([],Zdb l (base.length:Int))) ?_ rfl
 unfold Zls
 rw [Xb (by omega:¬((400:Int)<(base.length:Int))),Xb (by omega:¬((400:Int)<(l.length:Int))),Yxa,Xf]
 refine Za (Zg6 base hk) ?_
 rw [hi,Yh,Xf]
 refine Za e ?_
 by_cases c:Zdb l (base.length:Int)=0
 ·rw [Xc c,show (Zdb l (base.length:Int) != 0)=false by simpa using c,Xf]
  exact Za (Zsnb c rfl hk) rfl
 ·rw [Xd c,show (Zdb l (base.length:Int) != 0)=true by simpa using c]
  rfl
end Go.Proofs.Qz
