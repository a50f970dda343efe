/- What the law FnExactDo needs, part 12 of 15: the Lean functions of the Go functions that it reaches, with the proofs that the calls come to what they say, and plain facts about them. Conditions: those that each theorem states. Written by a session and by its programs (after the kit's printer). -/
import Derived.Test.YtpcllejjdmmjcaaGreatDoorXFnExactDo9
import Derived.Test.YtpcllejjdmmjcaaGreatDoorXFnExactDo10
open Option renaming bind_some → Ya, bind_eq_some_iff → Yj, map_eq_some_iff → Yya, some → Yza
open Bool renaming not_true → Yb, and_self → Yd, and_eq_true → Ye, true_and → Yf, and_eq_false_iff → Yo, false_or → Yp, eq_iff_iff → Yx, or_self → Yy, eq_false_iff → Y3, false_eq_true → Y4, or_eq_true → Y5, not_eq_false' → Yba, not_eq_true' → Yga
open Nat renaming le_refl → Yc, pow_le_pow_right → Yaa, le_trans → Ypa, lt_of_le_of_lt → Yqa, min_eq_left → Yra, mod_eq_of_lt → Ysa, pow_succ → Yta, testBit_and → Yua, testBit_eq_decide_div_mod_eq → Yva, zero_add → Ywa, zero_testBit → Yxa
open Int renaming toNat_natCast → Yg, toNat_of_nonneg → Yv
open BitVec renaming ofInt → Yh, toNat_ofInt → Yu, toNat_and → Yfa
open List renaming length_append → Yi, getElem_mem → Yl, range → Ym, mem_range → Yn, all_eq_true → Yq, append_assoc → Yr, drop_zero → Ys, take_length → Yt, append_nil → Yw, drop_length → Yz, length_map → Y0, length_take → Y1, mem_iff_getElem → Y2, any_eq_true → Y6, drop_drop → Y7, drop_left → Y8, mem_map → Y9, getElem_take → Yca, length → Yda, mem_filter → Yea, append_cancel_left_eq → Yha, getElem_drop → Yia, length_drop → Yja, mem_cons_self → Yka, mem_reverse → Yla, pairwise_iff_getElem → Yma, range_succ → Yna, reverse_cons → Yoa
open Go.IntKind renaming wrap → Yk
namespace Go.Proofs.Qz
open Go
set_option linter.unusedVariables false
def Z6i (f:Z9) (n:Int):Option Nat:=Zqb (fun x=>x.1==n) f.2 0
def Zz (f:Z9) (n:Int):Str:=match Z6i f n with
 | some i=>(f.2.getD i (0,[])).2
 | none=>f.1.getD n.toNat []
theorem Z4u {f:Z9} {n:Int} {i:Nat} (h:Z6i f n=some i):i<f.2.length:=by
 obtain ⟨_,h2,_⟩:=Zfl h
 simpa using h2
theorem Zjy (f:Z9) (n:Int) (hl:f.2.length≤1048576) {k:Nat} (hk:f.2.length<k):Zok k f n=some (match Z6i f n with | some i=>(i:Int) | none=>-1):=by
 have run:=Zoh (fun j i=>Zxd.l0 j f.2 (f.2.length:Int) i n) f.2 (fun x=>x.1==n) (.inl n) (fun i=>.inr ((i:Int),n)) (fun i hi=>by
  have e:Zqr f.2[i] n=some (f.2[i].1==n):=rfl
  constructor
  ·intro hp j
   show Zxd.l0 (j+1) f.2 (f.2.length:Int) (i:Int) n=Zxd.l0 j f.2 (f.2.length:Int) ((i+1:Nat):Int) n
   rw [Zxd.l0]
   rw [dlt hi,Zi hi,Zn (by omega)]
   simp only [cond_true,Ya,e,hp,cond_false]
  ·intro hp j
   show Zxd.l0 (j+1) f.2 (f.2.length:Int) (i:Int) n=_
   unfold Zxd.l0
   rw [dlt hi,Zi hi]
   simp only [cond_true,Ya,e,hp]) (fun j=>by
  show Zxd.l0 (j+1) f.2 (f.2.length:Int) (f.2.length:Int) n=_
  unfold Zxd.l0
  rw [Zy (Yc _)]
  rfl) hk
 have run:Zxd.l0 k f.2 (f.2.length:Int) 0 n=_:=run
 unfold Zok Zxd Z6i
 rw [run]
 cases Zqb (fun x:Ztd=>x.1==n) f.2 0 <;> rfl
theorem Zm1 {α:Type} {l:List α} {i:Nat} (d:α) (h:i<l.length):at? l (i:Int)=some (l.getD i d):=by
 rw [Zi h,List.getD_eq_getElem?_getD,List.getElem?_eq_getElem h]
 rfl
theorem Zkx {α:Type} {l:List α} {n:Int} (d:α) (h0:0≤n) (h:n<(l.length:Int)):at? l n=some (l.getD n.toNat d):=by
 have:=Zm1 (l:=l) (i:=n.toNat) d (by omega)
 rwa [Yv h0] at this
theorem Zvo (f:Z9) (n:Int) (hl:f.2.length≤1048576) (h0:0≤n) (h1:n<(f.1.length:Int)) {k:Nat} (hk:f.2.length<k):Z6f k f n=some (Zz f n):=by
 unfold Z6f Zz
 rw [Zjy f n hl hk]
 cases h:Z6i f n with
 | some i=>
  simp only [Ya]
  rw [decide_eq_true (by omega:(0:Int)≤(i:Int)),Zm1 (0,[]) (Z4u h)]
  rfl
 | none=>
  simp only [Ya]
  rw [show decide ((0:Int)≤-1)=false from rfl,Zkx [] h0 h1]
  rfl
theorem Z2n (f:Z9) (n:Int) (hl:f.2.length≤1048576) (h0:0≤n) (h1:n<(f.1.length:Int)) {k:Nat} (hk:f.2.length<k):Zsb k f n=some (Zz f n):=by
 have run:=Zoh (fun j i=>Zsb.l0 j n f.1 f.2 i) f.2 (fun x=>x.1==n) (.inl ()) (fun i=>.inr (f.2.getD i (0,[])).2) (fun i hi=>by
  constructor
  ·intro hp j
   show Zsb.l0 (j+1) n f.1 f.2 (i:Int)=Zsb.l0 j n f.1 f.2 ((i+1:Nat):Int)
   rw [Zsb.l0]
   rw [dlt hi,Zi hi,Zn (by omega)]
   simp only [cond_true,Ya,hp,cond_false]
  ·intro hp j
   show Zsb.l0 (j+1) n f.1 f.2 (i:Int)=_
   unfold Zsb.l0
   rw [dlt hi,Zi hi]
   simp only [cond_true,Ya,hp]
   rw [List.getD_eq_getElem?_getD,List.getElem?_eq_getElem hi]
   rfl) (fun j=>by
  show Zsb.l0 (j+1) n f.1 f.2 (f.2.length:Int)=_
  unfold Zsb.l0
  rw [Zy (Yc _)]
  rfl) hk
 have run:Zsb.l0 k n f.1 f.2 0=_:=run
 unfold Zsb Zz Z6i
 rw [run]
 cases Zqb (fun x:Ztd=>x.1==n) f.2 0 with
 | some i=>rfl
 | none=>
  simp only [Ya]
  rw [Zkx [] h0 h1]
  rfl
def okD (m:Nat) (l:List Ztd) (i:Nat):Bool:=decide (0≤(l.getD i (0,[])).1)&&decide ((l.getD i (0,[])).1≤(m:Int)-1)&&decide ((l.getD i (0,[])).2.length≤96) && !((l.take i).any fun x=>x.1==(l.getD i (0,[])).1)
def okS (s:Str):Bool:=decide (s.length≤96)
def Z5f (f:Z9):Bool:=decide (1≤f.1.length∧f.1.length≤40∧f.2.length≤f.1.length)&&(f.1.all okS&&(Ym f.2.length).all (okD f.1.length f.2))
theorem Z08 {l:List Ztd} {i:Nat} (h:i<l.length):∃m,Zqb (fun x:Ztd=>x.1==(l.getD i (0,[])).1) l 0=some m∧m≤i∧(m<i ↔ (l.take i).any (fun x=>x.1==(l.getD i (0,[])).1)=true):=by
 have hg:l.getD i (0,[])=l[i]:=by rw [List.getD_eq_getElem?_getD,List.getElem?_eq_getElem h];rfl
 rw [hg]
 cases hf:Zqb (fun x:Ztd=>x.1==l[i].1) l 0 with
 | none=>
  have:=Zhr.1 hf l[i] (Yl h)
  simp at this
 | some m=>
  obtain ⟨_,h2,h3,h4⟩:=Zfl hf
  have h2:m<l.length:=by simpa using h2
  have h3:(l[m].1==l[i].1)=true:=by simpa using h3
  have h4:∀j,(hj:j<m)→(l[j].1==l[i].1)=false:=fun j hj=>by simpa using h4 j (by omega)
  have hle:m≤i:=by
   refine Nat.not_lt.1 fun q=>?_
   have:=h4 i q
   simp at this
  refine ⟨m,rfl,hle,fun q=>?_,fun q=>?_⟩
  ·refine Y6.2 ⟨l[m],?_,h3⟩
   exact Y2.2 ⟨m,by simp;omega,by simp⟩
  ·obtain ⟨x,hx,hx2⟩:=Y6.1 q
   obtain ⟨j,hj,e⟩:=Y2.1 hx
   rw [Y1] at hj
   have hji:j<i:=by omega
   rw [Yca] at e
   refine Yqa (Nat.not_lt.1 fun q2=>?_) hji
   have:=h4 j q2
   rw [e,hx2] at this
   cases this
theorem Zd3 {s:List Str} (hl:s.length≤1048576) (d:List Ztd) (n:Int):Zjm (s,d) n=some (decide (0≤n)&&decide (n≤(s.length:Int)-1)):=by
 unfold Zjm Zji Zhb
 simp only [Ya]
 rw [w64 (by omega) (by omega)]
theorem Zh3 (f:Z9) (hl:f.1.length≤1048576) (hl2:f.2.length≤1048576) {k:Nat} (hk:1048577≤k):Zre k f=some (Z5f f):=by
 obtain ⟨s,d⟩:=f
 have hl:s.length≤1048576:=hl
 have hl2:d.length≤1048576:=hl2
 have hs:Zeq k s=some (!(s.all okS)):=by
  have run:=Zoh (fun j i=>Z3d.l0 j s (s.length:Int) i) s (fun x=>!(okS x)) (.inl ()) (fun i=>.inr (i:Int)) (fun i hi=>by
   have e:Z8o s[i]=some (!(okS s[i])):=by
    unfold Z8o okS
    by_cases q:s[i].length≤96
    ·rw [decide_eq_true q,decide_eq_false (by omega)];rfl
    ·rw [decide_eq_false q,decide_eq_true (by omega)];rfl
   constructor
   ·intro hp j
    show Z3d.l0 (j+1) s (s.length:Int) (i:Int)=Z3d.l0 j s (s.length:Int) ((i+1:Nat):Int)
    rw [Z3d.l0]
    rw [dlt hi,Zi hi,Zn (by omega)]
    simp only [cond_true,Ya,e,hp,cond_false]
   ·intro hp j
    show Z3d.l0 (j+1) s (s.length:Int) (i:Int)=_
    unfold Z3d.l0
    rw [dlt hi,Zi hi]
    simp only [cond_true,Ya,e,hp]) (fun j=>by
   show Z3d.l0 (j+1) s (s.length:Int) (s.length:Int)=_
   unfold Z3d.l0
   rw [Zy (Yc _)]
   rfl) (show s.length<k by have:s.length≤1048576:=hl;omega)
  have run:Z3d.l0 k s (s.length:Int) 0=_:=run
  unfold Zeq Z3d
  rw [run]
  cases hf:Zqb (fun x=>!(okS x)) s 0 with
  | none=>
   have:s.all okS=true:=Yq.2 fun x hx=>by
    have:=Zhr.1 hf x hx
    simpa using this
   rw [this]
   rfl
  | some i=>
   obtain ⟨_,h2,h3,_⟩:=Zfl hf
   have:s.all okS=false:=by
    cases q:s.all okS with
    | false=>rfl
    | true=>
     have:=Yq.1 q _ (Yl h2)
     rw [this] at h3
     cases h3
   rw [this]
   simp only [Ya]
   rw [decide_eq_true (by omega:(0:Int)≤(i:Int))]
   rfl
 have hd:=Z1y (fun j i=>Zre.l0 k j s d d (d.length:Int) (i:Int)) d.length (okD s.length d) (fun _=>false) (fun i hi hp j=>?_) (fun i hi hp j=>?_) (fun j=>?_)
 ·unfold Zre Z5f
  have h40:Zhb (s.length:Int) 1 40=some (decide (1≤s.length)&&decide (s.length≤40)):=by
   unfold Zhb
   congr 2 <;> exact decide_eq_decide.2 (by omega)
  have hz:Zji s=some (s.length:Int):=rfl
  dsimp only
  rw [hz]
  simp only [Ya]
  rw [h40]
  simp only [Ya]
  by_cases c:1≤s.length∧s.length≤40∧d.length≤s.length
  ·rw [decide_eq_true c.1,decide_eq_true c.2.1,decide_eq_false (by omega:¬(s.length:Int)<(d.length:Int)),decide_eq_true c,hs]
   simp only [Yd,Yb,Yy,cond_false,Ya,Yf]
   cases ha:s.all okS with
   | false=>rfl
   | true=>
    simp only [Yb,cond_false,Yf]
    rcases hd with ⟨h1,h2⟩ | ⟨h1,i,_,_,h2⟩
    ·have h2:Zre.l0 k k s d d (d.length:Int) 0=some (.inl ()):=h2 k (by have:d.length≤1048576:=hl2;omega)
     rw [h2,h1]
     rfl
    ·have h2:Zre.l0 k k s d d (d.length:Int) 0=some (.inr false):=h2 k (by have:d.length≤1048576:=hl2;omega)
     rw [h2,h1]
     rfl
  ·rw [decide_eq_false c]
   have:((!(decide (1≤s.length)&&decide (s.length≤40)))||decide ((s.length:Int)<(d.length:Int)))=true:=by
    rw [Y5,Yga,Yo,decide_eq_false_iff_not,decide_eq_false_iff_not,decide_eq_true_iff]
    omega
   rw [this]
   rfl
 all_goals skip
 ·have hg:d.getD i (0,[])=d[i]:=by rw [List.getD_eq_getElem?_getD,List.getElem?_eq_getElem hi];rfl
  have hp2:=hp
  unfold okD at hp2
  rw [Ye,Ye,Ye,hg] at hp2
  obtain ⟨⟨⟨p1,p2⟩,p3⟩,p4⟩:=hp2
  obtain ⟨m,m1,m2,m3⟩:=Z08 hi
  rw [hg] at m1 m3
  conv=>lhs;unfold Zre.l0
  rw [dlt hi,Zi hi,Zn (by omega)]
  simp only [cond_true,Ya]
  rw [Zd3 hl,p1,p2]
  simp only [Ya,Yd,Yb,Yp]
  rw [decide_eq_false (by have:=of_decide_eq_true p3;omega:¬(96:Int)<(d[i].2.length:Int)),Zjy (s,d) _ hl2 (by show d.length<k;omega)]
  unfold Z6i
  dsimp only
  rw [m1]
  simp only [cond_false,Ya]
  have hno:¬(m:Int)<(i:Int):=fun q=>by
   have:=m3.1 (by omega)
   rw [this] at p4
   cases p4
  rw [decide_eq_false hno]
  rfl
 ·have hg:d.getD i (0,[])=d[i]:=by rw [List.getD_eq_getElem?_getD,List.getElem?_eq_getElem hi];rfl
  obtain ⟨m,m1,m2,m3⟩:=Z08 hi
  rw [hg] at m1 m3
  have hp2:=hp
  unfold okD at hp2
  rw [hg] at hp2
  conv=>lhs;unfold Zre.l0
  rw [dlt hi,Zi hi]
  simp only [cond_true,Ya]
  rw [Zd3 hl,Zjy (s,d) _ hl2 (by show d.length<k;omega)]
  unfold Z6i
  dsimp only
  rw [m1]
  simp only [Ya]
  cases q1:(decide (0≤d[i].1)&&decide (d[i].1≤(s.length:Int)-1)) with
  | false=>rfl
  | true=>
   rw [q1,Yf] at hp2
   by_cases q2:d[i].2.length≤96
   ·rw [decide_eq_true q2,Yf,Yba] at hp2
    rw [decide_eq_false (by omega:¬(96:Int)<(d[i].2.length:Int))]
    simp only [Yb,Yy,cond_false]
    rw [decide_eq_true (by have:=m3.2 hp2;omega:(m:Int)<(i:Int))]
    rfl
   ·rw [decide_eq_true (by omega:(96:Int)<(d[i].2.length:Int))]
    rfl
 ·conv=>lhs;unfold Zre.l0
  rw [Zy (Yc _)]
  rfl
theorem Zjab (d:List Ztd) (i:Nat) (hi:i<d.length) (k:Nat) (hk:i<k) (hl2:d.length≤1048576:=by omega):((d.take i).any (fun x=>x.1==(d.getD i (0,[])).1)=true∧∀s,Z1.l1 k s d (i:Int) 0=some (.inr false))∨((d.take i).any (fun x=>x.1==(d.getD i (0,[])).1)=false∧∀s,Z1.l1 k s d (i:Int) 0=some (.inl ())):=by
 have hg:d.getD i (0,[])=d[i]:=by rw [List.getD_eq_getElem?_getD,List.getElem?_eq_getElem hi];rfl
 rw [hg]
 have run:∀s,Z1.l1 k s d (i:Int) 0=some (match Zqb (fun x:Ztd=>x.1==d[i].1) (d.take i) 0 with | some _=>.inr false | none=>.inl ()):=fun s=>
  Zoh (fun j q=>Z1.l1 j s d (i:Int) q) (d.take i) (fun x=>x.1==d[i].1) (.inl ()) (fun _=>.inr false) (fun q hq=>by
   rw [Y1] at hq
   have hq2:q<i:=by omega
   rw [Yca]
   constructor
   ·intro hp j
    show Z1.l1 (j+1) s d (i:Int) (q:Int)=Z1.l1 j s d (i:Int) ((q+1:Nat):Int)
    rw [Z1.l1]
    rw [dlt hq2,Zi (by omega:q<d.length),Zi hi,Zn (by omega)]
    simp only [cond_true,Ya,hp,cond_false]
   ·intro hp j
    show Z1.l1 (j+1) s d (i:Int) (q:Int)=_
    rw [Z1.l1]
    rw [dlt hq2,Zi (by omega:q<d.length),Zi hi]
    simp only [cond_true,Ya,hp]) (fun j=>by
   show Z1.l1 (j+1) s d (i:Int) ((d.take i).length:Int)=_
   rw [Y1,Yra (by omega),Z1.l1,Zy (Yc _)]
   rfl) (by rw [Y1];omega)
 have ha:=Z5s (p:=fun x:Ztd=>x.1==d[i].1) (l:=d.take i) (n:=0)
 cases hf:Zqb (fun x:Ztd=>x.1==d[i].1) (d.take i) 0 with
 | some m=>
  rw [hf] at ha
  exact .inl ⟨ha.symm,fun s=>by rw [run s,hf]⟩
 | none=>
  rw [hf] at ha
  exact .inr ⟨ha.symm,fun s=>by rw [run s,hf]⟩
theorem Z8z (f:Z9) (hl:f.1.length≤1048576) (hl2:f.2.length≤1048576) {k:Nat} (hk:1048577≤k):Z1 k f=some (Z5f f):=by
 obtain ⟨s,d⟩:=f
 have hl:s.length≤1048576:=hl
 have hl2:d.length≤1048576:=hl2
 have hs:=Z1y (fun j i=>Z1.l0 j s d (i:Int)) s.length (fun i=>okS (s.getD i [])) (fun _=>false) (fun i hi hp j=>?_) (fun i hi hp j=>?_) (fun j=>?_)
 have hd:=Z1y (fun j i=>Z1.l2 k j s d (i:Int)) d.length (okD s.length d) (fun _=>false) (fun i hi hp j=>?_) (fun i hi hp j=>?_) (fun j=>?_)
 ·unfold Z1 Z5f
  dsimp only
  by_cases c:1≤s.length∧s.length≤40∧d.length≤s.length
  ·rw [decide_eq_false (by omega:¬(s.length:Int)<1),decide_eq_false (by omega:¬(40:Int)<(s.length:Int)),decide_eq_false (by omega:¬(s.length:Int)<(d.length:Int)),decide_eq_true c]
   simp only [Yy,cond_false,Yf]
   have hall:(Ym s.length).all (fun i=>okS (s.getD i []))=s.all okS:=by
    rw [Yx,Yq,Yq]
    constructor
    ·intro h x hx
     obtain ⟨i,hi,rfl⟩:=Y2.1 hx
     have:=h i (Yn.2 hi)
     rwa [List.getD_eq_getElem?_getD,List.getElem?_eq_getElem hi] at this
    ·intro h i hi
     have hi:=Yn.1 hi
     rw [List.getD_eq_getElem?_getD,List.getElem?_eq_getElem hi]
     exact h _ (Yl hi)
   rcases hs with ⟨h1,h2⟩ | ⟨h1,i,_,_,h2⟩
   ·have h2:Z1.l0 k s d 0=some (.inl ()):=h2 k (by omega)
    rw [h2,← hall,h1]
    simp only [Ya,Yf]
    rcases hd with ⟨h3,h4⟩ | ⟨h3,i,_,_,h4⟩
    ·have h4:Z1.l2 k k s d 0=some (.inl ()):=h4 k (by omega)
     rw [h4,h3]
     rfl
    ·have h4:Z1.l2 k k s d 0=some (.inr false):=h4 k (by omega)
     rw [h4,h3]
     rfl
   ·have h2:Z1.l0 k s d 0=some (.inr false):=h2 k (by omega)
    rw [h2,← hall,h1]
    rfl
  ·rw [decide_eq_false c]
   have:((decide ((s.length:Int)<1)||decide (40<(s.length:Int)))||decide ((s.length:Int)<(d.length:Int)))=true:=by
    rw [Y5,Y5,decide_eq_true_iff,decide_eq_true_iff,decide_eq_true_iff]
    omega
   rw [this]
   rfl
 ·
  have hg:d.getD i (0,[])=d[i]:=by rw [List.getD_eq_getElem?_getD,List.getElem?_eq_getElem hi];rfl
  have hp2:=hp
  unfold okD at hp2
  rw [Ye,Ye,Ye,hg] at hp2
  obtain ⟨⟨⟨p1,p2⟩,p3⟩,p4⟩:=hp2
  have hin:=Zjab d i hi k (by omega)
  rw [hg] at hin
  rcases hin with ⟨q,_⟩ | ⟨_,q⟩
  ·rw [q] at p4;cases p4
  conv=>lhs;unfold Z1.l2
  rw [dlt hi,Zi hi,Zn (by omega),w64 (by omega) (by omega)]
  simp only [cond_true,Ya]
  unfold Zfb
  rw [p1,p2,q s]
  simp only [Ya,Yd,Yb,cond_false]
  rw [decide_eq_false (by have:=of_decide_eq_true p3;omega:¬(96:Int)<(d[i].2.length:Int))]
  rfl
 ·have hg:d.getD i (0,[])=d[i]:=by rw [List.getD_eq_getElem?_getD,List.getElem?_eq_getElem hi];rfl
  have hp2:=hp
  unfold okD at hp2
  rw [hg] at hp2
  have hin:=Zjab d i hi k (by omega)
  rw [hg] at hin
  conv=>lhs;unfold Z1.l2
  rw [dlt hi,Zi hi,w64 (by omega) (by omega)]
  simp only [cond_true,Ya]
  unfold Zfb
  simp only [Ya]
  cases q1:(decide (0≤d[i].1)&&decide (d[i].1≤(s.length:Int)-1)) with
  | false=>rfl
  | true=>
   rw [q1,Yf] at hp2
   simp only [Yb,cond_false]
   by_cases q2:d[i].2.length≤96
   ·rw [decide_eq_true q2,Yf,Yba] at hp2
    rw [decide_eq_false (by omega:¬(96:Int)<(d[i].2.length:Int))]
    rcases hin with ⟨_,q⟩ | ⟨q,_⟩
    ·rw [q s]
     rfl
    ·rw [q] at hp2;cases hp2
   ·rw [decide_eq_true (by omega:(96:Int)<(d[i].2.length:Int))]
    rfl
 ·conv=>lhs;unfold Z1.l2
  rw [Zy (Yc _)]
  rfl
 ·have hg:s.getD i []=s[i]:=by rw [List.getD_eq_getElem?_getD,List.getElem?_eq_getElem hi];rfl
  have hp:okS (s.getD i [])=true:=hp
  rw [hg] at hp
  have hp:=of_decide_eq_true hp
  conv=>lhs;unfold Z1.l0
  rw [dlt hi,Zi hi,Zn (by omega)]
  simp only [cond_true,Ya]
  rw [decide_eq_false (by omega:¬(96:Int)<(s[i].length:Int))]
  rfl
 ·have hg:s.getD i []=s[i]:=by rw [List.getD_eq_getElem?_getD,List.getElem?_eq_getElem hi];rfl
  have hp:okS (s.getD i [])=false:=hp
  rw [hg] at hp
  have hp:=of_decide_eq_false hp
  conv=>lhs;unfold Z1.l0
  rw [dlt hi,Zi hi]
  simp only [cond_true,Ya]
  rw [decide_eq_true (by omega:(96:Int)<(s[i].length:Int))]
  rfl
 ·conv=>lhs;unfold Z1.l0
  rw [Zy (Yc _)]
  rfl
end Go.Proofs.Qz
namespace Go.Proofs.Qz
open Go
set_option linter.unusedVariables false
def Zrt (s:Str):Option (Int×Str×Nat):=
 if (Zbd s 0).2.2=0 then
  if (Zkh s (Zbd s 0).2.1.toNat).2.2=0 then some ((Zbd s 0).1,(Zkh s (Zbd s 0).2.1.toNat).1,(Zkh s (Zbd s 0).2.1.toNat).2.1.toNat) else none
 else none
theorem Z0bb {s:Str} {x:Int} {t:Str} {a d:Nat} (g1:Got s 0 x a) (g4:GotT s a t d):Zm x++Z2b t=s ↔ d=s.length:=by
 have e0:s=Zm x++(Z2b t++s.drop d):=by
  have h1:=g1.eq
  rw [Ys,g4.eq] at h1
  exact h1
 constructor
 ·intro h
  have:=g4.at'
  have:=g1.at'
  have hl:=congrArg Yda h
  rw [Yi] at hl
  omega
 ·intro h
  rw [h,Yz,Yw] at e0
  exact e0.symm
def Zxn (n:Int) (t:Str):Bool:=(decide (1≤n)&&decide (n≤1000000))&&decide (t.length≤80)
def Zqd (s:Str):Int×Str×Int:=if (Zwc s).2=0 then match Zrt (Zl s) with
  | some (n,t,d)=>if d=(Zl s).length∧Zxn n t=true then (n,t,0) else (0,[],3)
  | none=>(0,[],3) else (0,[],(Zwc s).2)
theorem Zmdb (n:Int) (t:Str) (hn:Num n) (ht:t.length≤8000):Ze fun k=>Zek k n t=some (if Zxn n t=true then Zyg (Zm n++Z2b t) else []):=by
 have is:Zfb n 1 1000000=some (decide (1≤n)&&decide (n≤1000000)):=rfl
 unfold Zxn
 by_cases h1:(decide (1≤n)&&decide (n≤1000000))=true
 ·by_cases h2:t.length≤80
  ·have l1:=Zgc n
   have l4:=Zfj t
   refine (((Zwi n hn).and (Zf0 t ht)).and (Z05 (Zm n++Z2b t) (by simp;omega))).mono fun k ⟨⟨a,b⟩,c⟩=>?_
   unfold Zek
   rw [is,h1,decide_eq_false (by omega:¬(80:Int)<(t.length:Int)),decide_eq_true h2]
   simp only [Ya,Yb,Yy,cond_false,Yd,if_true]
   rw [a,b]
   simp only [Ya]
   rw [Ztc (by omega)]
   simp only [Ya]
   rw [c]
   rfl
  ·refine Ze.of fun k=>?_
   unfold Zek
   rw [is,h1,decide_eq_true (by omega:(80:Int)<(t.length:Int)),decide_eq_false h2]
   rfl
 ·refine Ze.of fun k=>?_
  unfold Zek
  rw [is,Y3.2 h1]
  rfl
theorem Zndb (s:Str) (hs:s.length≤8000):Ze fun k=>Zzk k s=some (Zqd s):=by
 by_cases hu:(Zwc s).2=0
 ·obtain ⟨e1,e2,e3⟩:=Zbu hu
  have hbl:(Zl s).length≤8000:=by rw [Z7q];omega
  rcases Zwk (Zl s) 0 with ⟨n,a,en,gn⟩ | ⟨c,hc,en⟩
  ·have hla:=gn.le
   rcases Zuq (Zl s) a with ⟨t,d,et,gt⟩ | ⟨c,hc,et⟩
   ·refine ((((Zsl s hs).and (Z4t (Zl s) 0 (by omega) hbl)).and (Zow (Zl s) a (by omega) hbl)).and (Zmdb n t gn.range gt.size)).mono fun k ⟨⟨⟨h0,h1⟩,h2⟩,h3⟩=>?_
    have h1:Zjd k (Zl s) 0=_:=h1
    unfold Zzk Zqd Zrt
    rw [if_pos hu,h0,e1,en]
    simp only [Ya]
    rw [show ((0:Int) != 0)=false from rfl,cond_false,h1,en]
    simp only [Ya,Yg]
    rw [h2,et]
    simp only [Ya,if_true,Yg]
    rw [show ((0:Int) != 0)=false from rfl,Yy,cond_false,h3]
    simp only [Ya]
    by_cases hr:Zxn n t=true
    ·rw [if_pos hr,Z3q]
     by_cases hd:d=(Zl s).length
     ·have:Zyg (Zm n++Z2b t)=s:=by rw [(Z0bb gn gt).2 hd,e2]
      rw [decide_eq_true this,if_pos ⟨hd,hr⟩]
      rfl
     ·rw [decide_eq_false (fun q=>hd ((Z0bb gn gt).1 (Z3db.1 (q.trans e2.symm)))),if_neg (fun q=>hd q.1)]
      rfl
    ·rw [if_neg hr,if_neg (fun q=>hr q.2),Zb9 (by omega)]
     rfl
   ·refine (((Zsl s hs).and (Z4t (Zl s) 0 (by omega) hbl)).and (Zow (Zl s) a (by omega) hbl)).mono fun k ⟨⟨h0,h1⟩,h2⟩=>?_
    have h1:Zjd k (Zl s) 0=_:=h1
    unfold Zzk Zqd Zrt
    rw [if_pos hu,h0,e1,en]
    simp only [Ya]
    rw [show ((0:Int) != 0)=false from rfl,cond_false,h1,en]
    simp only [Ya,Yg]
    rw [h2,et]
    simp only [Ya,if_true]
    rw [if_neg hc,show ((0:Int) != 0)=false from rfl,Yp,show (c != 0)=true by simpa using hc]
    rfl
  ·refine (((Zsl s hs).and (Z4t (Zl s) 0 (by omega) hbl)).and (Zow (Zl s) 0 (by omega) hbl)).mono fun k ⟨⟨h0,h1⟩,h2⟩=>?_
   have h1:Zjd k (Zl s) 0=_:=h1
   have h2:Ztl k (Zl s) 0=_:=h2
   unfold Zzk Zqd Zrt
   rw [if_pos hu,h0,e1,en]
   simp only [Ya]
   rw [show ((0:Int) != 0)=false from rfl,cond_false,h1,en]
   simp only [Ya]
   rw [h2]
   simp only [Ya]
   rw [if_neg hc,show (c != 0)=true by simpa using hc]
   rfl
 ·refine (Zsl s hs).mono fun k h0=>?_
  unfold Zzk Zqd
  rw [if_neg hu,h0]
  simp only [Ya]
  rw [show ((Zwc s).2 != 0)=true by simpa using hu]
  rfl
theorem Zeab (s:Str) (hs:s.length≤8000):Ze fun k=>Zlm k s=some (Zqd s):=by
 by_cases hu:(Zwc s).2=0
 ·obtain ⟨e1,e2,e3⟩:=Zbu hu
  have hbl:(Zl s).length≤8000:=by rw [Z7q];omega
  rcases Zwk (Zl s) 0 with ⟨n,a,en,gn⟩ | ⟨c,hc,en⟩
  ·have hla:=gn.le
   have hn:Zib (Zl s) 0=(n,Zl s,((a:Nat):Int),false):=by unfold Zib;rw [en];rfl
   refine (((Z9s s (by omega)).and (Zm3 (Zl s) 0 (by omega) (by omega))).and (Zhab (Zl s) a (by omega) (by omega))).mono fun k ⟨⟨h0,h1⟩,h2⟩=>?_
   have h1:Zfc k (Zl s,(0,false))=_:=h1
   unfold Zlm Zqd Zrt
   rw [if_pos hu,h0,e1,en]
   simp only [Ya]
   rw [show ((0:Int) != 0)=false from rfl,cond_false,h1,hn]
   simp only [Ya,Yg]
   rw [h2]
   simp only [Ya,if_true]
   rcases Zuq (Zl s) a with ⟨t,d,et,gt⟩ | ⟨c,hc,et⟩
   ·have ht:Zzf (Zl s) a=(t,Zl s,((d:Nat):Int),false):=by unfold Zzf;rw [et];rfl
    rw [ht,et]
    simp only [Yp,if_true,Yg]
    by_cases hd:d=(Zl s).length
    ·rw [show (((d:Nat):Int) != ((Zl s).length:Int))=false by rw [hd];simp]
     simp only [cond_false]
     have is:Zhb n 1 1000000=some (decide (1≤n)&&decide (n≤1000000)):=rfl
     rw [is]
     simp only [Ya]
     unfold Zxn
     by_cases q1:(decide (1≤n)&&decide (n≤1000000))=true
     ·by_cases q2:t.length≤80
      ·rw [q1,decide_eq_true q2,decide_eq_false (by omega:¬(80:Int)<(t.length:Int)),if_pos ⟨hd,rfl⟩]
       rfl
      ·rw [q1,decide_eq_false q2,decide_eq_true (by omega:(80:Int)<(t.length:Int)),if_neg (fun q=>by cases q.2)]
       rfl
     ·rw [Y3.2 q1,if_neg (fun q=>by cases q.2)]
      rfl
    ·rw [show (((d:Nat):Int) != ((Zl s).length:Int))=true by simp;omega,if_neg (fun q=>hd q.1)]
     rfl
   ·have ht:Zzf (Zl s) a=([],Zl s,((a:Nat):Int),true):=by unfold Zzf;rw [et,if_neg hc]
    rw [ht,et,if_neg hc]
    rfl
  ·have hn:Zib (Zl s) 0=(0,Zl s,((0:Nat):Int),true):=by unfold Zib;rw [en,if_neg hc]
   obtain ⟨t,a',hw,_⟩:=Ziab (Zl s) 0 (by omega) (by omega)
   refine (((Z9s s (by omega)).and (Zm3 (Zl s) 0 (by omega) (by omega))).and hw).mono fun k ⟨⟨h0,h1⟩,h2⟩=>?_
   have h1:Zfc k (Zl s,(0,false))=_:=h1
   unfold Zlm Zqd Zrt
   rw [if_pos hu,h0,e1,en,if_neg hc]
   simp only [Ya]
   rw [show ((0:Int) != 0)=false from rfl,cond_false,h1,hn]
   simp only [Ya]
   rw [h2]
   rfl
 ·refine (Z9s s (by omega)).mono fun k h0=>?_
  unfold Zlm Zqd
  rw [if_neg hu,h0]
  simp only [Ya]
  rw [show ((Zwc s).2 != 0)=true by simpa using hu]
  rfl
theorem Zibb (s:Str):(Zqd s).2.1.length≤80:=by
 unfold Zqd
 split
 ·split
  ·split
   ·rename_i h
    have:=h.2
    unfold Zxn at this
    rw [Ye] at this
    exact of_decide_eq_true this.2
   ·simp
  ·simp
 ·simp
def Zlb (f:Z9):Int×Str×Int×Int:=
 if (Zqd (Zz f 0)).2.2=0∧((Zqd (Zz f 1)).2.2≠0∨(Zqd (Zz f 1)).1≤(Zqd (Zz f 0)).1) then ((Zqd (Zz f 0)).1,(Zqd (Zz f 0)).2.1,(Zqd (Zz f 0)).2.2,0)
 else if (Zqd (Zz f 1)).2.2=0 then ((Zqd (Zz f 1)).1,(Zqd (Zz f 1)).2.1,(Zqd (Zz f 1)).2.2,1) else (0,[],6,-1)
end Go.Proofs.Qz
namespace Go.Proofs.Qz
open Go
set_option linter.unusedVariables false
theorem Zso {f:Z9} (h:Z5f f=true):(1≤f.1.length∧f.1.length≤40∧f.2.length≤f.1.length)∧(∀x∈f.1,x.length≤96)∧∀i,i<f.2.length→(f.2.getD i (0,[])).2.length≤96:=by
 unfold Z5f at h
 rw [Ye,Ye] at h
 obtain ⟨h1,h2,h3⟩:=h
 refine ⟨of_decide_eq_true h1,fun x hx=>of_decide_eq_true (Yq.1 h2 x hx),fun i hi=>?_⟩
 have:=Yq.1 h3 i (Yn.2 hi)
 unfold okD at this
 rw [Ye,Ye] at this
 exact of_decide_eq_true this.1.2
theorem Zdm {f:Z9} (h:Z5f f=true) (n:Int):(Zz f n).length≤96:=by
 obtain ⟨_,h1,h2⟩:=Zso h
 unfold Zz
 cases hd:Z6i f n with
 | some i=>exact h2 i (Z4u hd)
 | none=>
  by_cases q:n.toNat<f.1.length
  ·show (f.1.getD n.toNat []).length≤96
   rw [List.getD_eq_getElem?_getD,List.getElem?_eq_getElem q]
   exact h1 _ (Yl q)
  ·show (f.1.getD n.toNat []).length≤96
   rw [List.getD_eq_getElem?_getD,List.getElem?_eq_none (by omega)]
   simp
theorem Zl3 {f:Z9} (h:Z5f f=true) (h2:2≤f.1.length):Ze fun k=>Zzc k f=some (Zlb f):=by
 obtain ⟨⟨b1,b2,b3⟩,_⟩:=Zso h
 refine (((Zeab (Zz f 0) (by have:=Zdm h 0;omega)).and (Zeab (Zz f 1) (by have:=Zdm h 1;omega))).and (Ze.ge 100 fun k hk=>hk)).mono fun k ⟨⟨m0,m1⟩,hk⟩=>?_
 obtain ⟨j,rfl⟩:∃j,k=j+3:=⟨k-3,by omega⟩
 have r0:Z6f (j+3) (f.1,f.2) 0=some (Zz f 0):=Zvo f 0 (by omega) (by omega) (by omega) (by omega)
 have r1:Z6f (j+3) (f.1,f.2) 1=some (Zz f 1):=Zvo f 1 (by omega) (by omega) (by omega) (by omega)
 have w1:Yk .i64 ((0:Int)+1)=1:=by decide
 have w2:Yk .i64 ((1:Int)+1)=2:=by decide
 unfold Zlb
 generalize Zqd (Zz f 0)=a at m0
 generalize Zqd (Zz f 1)=b at m1
 obtain ⟨an,at',ac⟩:=a
 obtain ⟨bn,bt,bc⟩:=b
 have s0:∀j2,Zzc.l0 (j+3) (j2+1) f.1 f.2 (-1) 0 0 [] 6=if ac=0 then Zzc.l0 (j+3) j2 f.1 f.2 0 1 an at' ac else Zzc.l0 (j+3) j2 f.1 f.2 (-1) 1 0 [] 6:=fun j2=>by
  conv=>lhs;unfold Zzc.l0
  rw [show decide ((0:Int)<2)=true from rfl,cond_true,r0]
  simp only [Ya]
  rw [m0]
  simp only [Ya,w1]
  by_cases q:ac=0
  ·rw [if_pos q,q]
   rfl
  ·rw [if_neg q,show (ac==0)=false by simpa using q]
   rfl
 have s1:∀j2 (p n c:Int) (t:Str),Zzc.l0 (j+3) (j2+2) f.1 f.2 p 1 n t c=if bc=0∧(p<0∨n<bn) then some (1,bn,bt,bc) else some (p,n,t,c):=fun j2 p n c t=>by
  have fin:∀(p n c:Int) (t:Str),Zzc.l0 (j+3) (j2+1) f.1 f.2 p 2 n t c=some (p,n,t,c):=fun p n c t=>by
   conv=>lhs;unfold Zzc.l0
   rfl
  conv=>lhs;unfold Zzc.l0
  rw [show decide ((1:Int)<2)=true from rfl,cond_true,r1]
  simp only [Ya]
  rw [m1]
  simp only [Ya,w2,fin]
  by_cases q:bc=0
  ·subst q
   by_cases q2:p<0
   ·rw [decide_eq_true q2,if_pos ⟨rfl,.inl q2⟩]
    rfl
   ·rw [decide_eq_false q2]
    by_cases q3:n<bn
    ·rw [decide_eq_true q3,if_pos ⟨rfl,.inr q3⟩]
     rfl
    ·rw [decide_eq_false q3,if_neg (by omega)]
     rfl
  ·rw [show (bc==0)=false by simpa using q,if_neg (fun w=>q w.1)]
   rfl
 unfold Zzc
 rw [show j+3=(j+2)+1 from rfl]
 rw [s0 (j+2)]
 by_cases q:ac=0
 ·rw [if_pos q,s1 j]
  by_cases q2:bc=0
  ·by_cases q3:an<bn
   ·rw [if_pos ⟨q2,.inr q3⟩,if_neg (by simp only [not_and];intro _ ;omega),if_pos q2]
    rfl
   ·rw [if_neg (by omega),if_pos ⟨q,.inr (by omega)⟩]
    rfl
  ·rw [if_neg (fun w=>q2 w.1),if_pos ⟨q,.inl q2⟩]
   rfl
 ·rw [if_neg q,s1 j,if_neg (c:=ac=0∧_) (fun w=>q w.1)]
  by_cases q2:bc=0
  ·rw [if_pos ⟨q2,.inl (by decide)⟩,if_pos q2]
   rfl
  ·rw [if_neg (fun w=>q2 w.1),if_neg q2]
   rfl
theorem Zd0 {f:Z9} (h:Z5f f=true) (h2:2≤f.1.length):Ze fun k=>Z5k k f=some (Zlb f):=by
 obtain ⟨⟨b1,b2,b3⟩,_⟩:=Zso h
 refine (((Zndb (Zz f 0) (by have:=Zdm h 0;omega)).and (Zndb (Zz f 1) (by have:=Zdm h 1;omega))).and (Ze.ge 100 fun k hk=>hk)).mono fun k ⟨⟨m0,m1⟩,hk⟩=>?_
 have r0:Zsb k f 0=some (Zz f 0):=Z2n f 0 (by omega) (by omega) (by omega) (by omega)
 have r1:Zsb k f 1=some (Zz f 1):=Z2n f 1 (by omega) (by omega) (by omega) (by omega)
 unfold Z5k Zlb
 rw [r0]
 simp only [Ya]
 rw [m0]
 simp only [Ya]
 rw [r1]
 simp only [Ya]
 rw [m1]
 simp only [Ya]
 generalize Zqd (Zz f 0)=a
 generalize Zqd (Zz f 1)=b
 obtain ⟨an,at',ac⟩:=a
 obtain ⟨bn,bt,bc⟩:=b
 dsimp only
 by_cases q:ac=0
 ·rw [show (ac==0)=true by simpa using q,Yf]
  by_cases q2:bc=0
  ·rw [show (bc != 0)=false by simpa using q2,Yp,show (bc==0)=true by simpa using q2]
   by_cases q3:bn≤an
   ·rw [decide_eq_true q3,if_pos ⟨q,.inr q3⟩]
    rfl
   ·rw [decide_eq_false q3,if_neg (by omega),if_pos q2]
    rfl
  ·rw [show (bc != 0)=true by simpa using q2,if_pos ⟨q,.inl q2⟩]
   rfl
 ·rw [show (ac==0)=false by simpa using q,if_neg (fun w=>q w.1)]
  by_cases q2:bc=0
  ·rw [show (bc==0)=true by simpa using q2,if_pos q2]
   rfl
  ·rw [show (bc==0)=false by simpa using q2,if_neg q2]
   rfl
end Go.Proofs.Qz
namespace Go.Proofs.Qz
open Go
set_option linter.unusedVariables false
def Ztb (v:Nat) (n:Nat):List Nat:=(Ym n).filter fun i=>v.testBit i
def Zb (v:Nat):List Int:=(Ztb v 24).map fun n=>((n:Nat):Int)
theorem Z5q (v n:Nat):Ztb v (n+1)=if v.testBit n=true then Ztb v n++[n] else Ztb v n:=by
 unfold Ztb
 rw [Yna,List.filter_append]
 by_cases h:v.testBit n=true
 ·rw [if_pos h,List.filter_cons_of_pos h];rfl
 ·rw [if_neg h,List.filter_cons_of_neg h];simp
theorem Zpx (v n:Nat):(Ztb v n).length≤n:=by
 unfold Ztb
 refine Ypa (List.length_filter_le _ _) ?_
 simp
theorem Zss {v n x:Nat} (h:x∈Ztb v n):x<n∧v.testBit x=true:=by
 unfold Ztb at h
 rw [Yea,Yn] at h
 exact h
theorem Z6c (v:Nat):(Zb v).length≤24:=by
 unfold Zb
 rw [Y0]
 exact Zpx v 24
theorem Zbgb (a:Nat) (ha:a<9223372036854775808):intBits .and .i64 (a:Int) 1=((a%2:Nat):Int):=by
 unfold intBits
 simp only [IntKind.bits]
 have h1:(Yh 64 (a:Int) &&& Yh 64 1).toNat=a%2:=by
  rw [Yfa,Yu,Yu]
  have:((a:Int)%((2^64:Nat):Int)).toNat=a:=by omega
  rw [this]
  show a &&& 1=a%2
  rw [Nat.and_one_is_mod]
 show Yk .i64 (((Yh 64 (a:Int) &&& Yh 64 1).toNat:Nat):Int)=_
 rw [h1]
 exact w64 (by omega) (by omega)
theorem Z07 (v i:Nat) (hv:v<16777216) (hi:i<24):(intBits .and .i64 (shr .i64 (v:Int) (i:Int)) 1==1)=v.testBit i:=by
 rw [Zmi .i64 _ i (by show i≤64;omega),Zbgb _ (Yqa (Nat.div_le_self _ _) (by omega)),Yva]
 rw [Yx,beq_iff_eq,decide_eq_true_iff]
 omega
theorem Zky (v:Nat) (hv:v<16777216):∀k,24<k→Zgd k (v:Int)=some (Zb v):=by
 intro k hk
 have h:=Zrb (fun j i=>Zgd.l0 j (v:Int) (i:Int) ((Ztb v i).map fun n=>((n:Nat):Int))) 24 (Zb v) (fun i hi j=>?_) (fun j=>?_) k hk
 ·have h:Zgd.l0 k (v:Int) 0 []=some (Zb v):=h
  unfold Zgd
  rw [h]
  rfl
 ·have hl:=Zpx v i
  conv=>lhs;unfold Zgd.l0
  rw [decide_eq_true (by omega:(i:Int)<24),Zn (by omega)]
  dsimp only
  rw [cond_true,Z1c (by omega),Z07 v i hv hi,Z5q]
  simp only [Ya]
  cases hb:v.testBit i with
  | true=>rw [Z3 (by simp;omega)];simp
  | false=>simp
 ·conv=>lhs;unfold Zgd.l0
  rfl
theorem Zidb (v:Nat) (hv:v<16777216):∀k,24<k→Zdd k (v:Int)=some (Zb v):=by
 intro k hk
 have h:=Zrb (fun j i=>Zdd.l0 j (v:Int) (i:Int) ((Ztb v i).map fun n=>((n:Nat):Int))) 24 (Zb v) (fun i hi j=>?_) (fun j=>?_) k hk
 ·have h:Zdd.l0 k (v:Int) 0 []=some (Zb v):=h
  unfold Zdd
  rw [decide_eq_false (by omega:¬(v:Int)<0),decide_eq_false (by omega:¬(16777216:Int)≤(v:Int)),h]
  rfl
 ·have hl:=Zpx v i
  conv=>lhs;unfold Zdd.l0
  rw [decide_eq_true (by omega:(i:Int)<24),Zn (by omega)]
  dsimp only
  rw [cond_true,Z1c (by omega),Z07 v i hv hi,Z5q]
  simp only [Ya]
  cases hb:v.testBit i with
  | true=>rw [Z3 (by simp;omega)];simp
  | false=>simp
 ·conv=>lhs;unfold Zdd.l0
  rfl
theorem Zqnb (v:Int) (h:v<0∨16777216≤v) (k:Nat):Zdd k v=some []:=by
 unfold Zdd
 by_cases q:v<0
 ·rw [decide_eq_true q];rfl
 ·rw [decide_eq_false q,decide_eq_true (by omega:(16777216:Int)≤v)];rfl
theorem Zyu (v n:Nat):(Ztb v n).Pairwise (· < ·):=List.Pairwise.filter _ List.pairwise_lt_range
theorem Zvj {v i:Nat} (h:i<(Zb v).length):0≤(Zb v)[i]∧(Zb v)[i]≤23:=by
 have hm:=Yl h
 obtain ⟨x,hx,e⟩:=Y9.1 hm
 have:=(Zss hx).1
 omega
theorem Z37 {v i:Nat} (h:i+1<(Zb v).length):(Zb v)[i]'(by omega)<(Zb v)[i+1]:=by
 have hl:(Zb v).length=(Ztb v 24).length:=by unfold Zb;rw [Y0]
 have:=Yma.1 (Zyu v 24) i (i+1) (by omega) (by omega) (by omega)
 have e:∀q (hq:q<(Zb v).length),(Zb v)[q]=(((Ztb v 24)[q]'(by omega):Nat):Int):=fun q hq=>by simp [Zb]
 rw [e,e]
 omega
theorem Zbab (v:Nat):∀k,24<k→Zse k (Zb v)=some true:=by
 intro k hk
 have hlen:=Z6c v
 have h:=Zrb (fun j i=>Zse.l0 j (Zb v) (Zb v) ((Zb v).length:Int) (i:Int)) (Zb v).length (.inl ()) (fun i hi j=>?_) (fun j=>?_) k (by omega)
 ·have h:Zse.l0 k (Zb v) (Zb v) ((Zb v).length:Int) 0=some (.inl ()):=h
  unfold Zse
  rw [h]
  rfl
 ·obtain ⟨q1,q2⟩:=Zvj hi
  conv=>lhs;unfold Zse.l0
  rw [dlt hi,Zi hi,Zn (by omega)]
  simp only [cond_true,Ya]
  unfold Zhb
  rw [decide_eq_true q1,decide_eq_true q2]
  simp only [Ya,Yd,Yb,cond_false]
  by_cases h0:0<i
  ·obtain ⟨m,rfl⟩:∃m,i=m+1:=⟨i-1,by omega⟩
   have:=Z37 hi
   rw [decide_eq_true (by omega:(0:Int)<((m+1:Nat):Int)),w64 (by omega) (by omega),show ((m+1:Nat):Int)-1=(m:Int) by omega,Zi (by omega)]
   simp only [cond_true,Ya]
   rw [decide_eq_false (by omega)]
   rfl
  ·rw [decide_eq_false (by omega:¬(0:Int)<(i:Int))]
   rfl
 ·conv=>lhs;unfold Zse.l0
  rw [Zy (Yc _)]
  rfl
theorem Zx5 (v:Nat):∀k,24<k→Z4d k (Zb v)=some true:=by
 intro k hk
 have hlen:=Z6c v
 have h:=Zrb (fun j i=>Z4d.l0 j (Zb v) (i:Int)) (Zb v).length (.inl ()) (fun i hi j=>?_) (fun j=>?_) k (by omega)
 ·have h:Z4d.l0 k (Zb v) 0=some (.inl ()):=h
  unfold Z4d
  rw [decide_eq_false (by omega:¬(24:Int)<((Zb v).length:Int)),h]
  rfl
 ·obtain ⟨q1,q2⟩:=Zvj hi
  conv=>lhs;unfold Z4d.l0
  rw [dlt hi,Zi hi,Zn (by omega)]
  simp only [cond_true,Ya]
  unfold Zfb
  rw [decide_eq_true q1,decide_eq_true q2]
  simp only [Ya,Yd,Yb,cond_false]
  by_cases h0:0<i
  ·obtain ⟨m,rfl⟩:∃m,i=m+1:=⟨i-1,by omega⟩
   have:=Z37 hi
   rw [decide_eq_true (by omega:(0:Int)<((m+1:Nat):Int)),w64 (by omega) (by omega),show ((m+1:Nat):Int)-1=(m:Int) by omega,Zi (by omega)]
   simp only [cond_true,Ya]
   rw [decide_eq_false (by omega)]
   rfl
  ·rw [decide_eq_false (by omega:¬(0:Int)<(i:Int))]
   rfl
 ·conv=>lhs;unfold Z4d.l0
  rw [Zy (Yc _)]
  rfl
def Zke:List Nat→Nat
 | []=>0
 | x::l=>2^x+Zke l
theorem Zh6 (a b:List Nat):Zke (a++b)=Zke a+Zke b:=by
 induction a with
 | nil=>simp [Zke]
 | cons x a ih=>rw [List.cons_append,Zke,Zke,ih];omega
theorem Zw0 (v:Nat):∀n,Zke (Ztb v n)=v%2^n
 | 0=>by simp [Ztb,Zke,Nat.mod_one]
 | n+1=>by
  have h2:v%2^(n+1)=v%2^n+2^n*(v/2^n%2):=by rw [Yta,Nat.mod_mul]
  rw [Z5q,h2]
  have ht:v.testBit n=decide (v/2^n%2=1):=Yva
  by_cases hb:v.testBit n=true
  ·rw [if_pos hb,Zh6,Zw0 v n]
   rw [ht] at hb
   rw [of_decide_eq_true hb]
   simp [Zke]
  ·rw [if_neg hb,Zw0 v n]
   rw [ht] at hb
   have:v/2^n%2≠1:=fun q=>hb (decide_eq_true q)
   have:v/2^n%2=0:=by omega
   rw [this]
   omega
theorem Z4ob {l:List Nat} {x:Nat} (hs:l.Pairwise (· < ·)) (h:∀y∈l,y<x):Zke l<2^x:=by
 have:∀(l:List Nat) (x:Nat),l.reverse.Pairwise (· < ·)→(∀y∈l,y<x)→Zke l<2^x:=by
  intro l
  induction l with
  | nil=>intro x _ _;exact Nat.two_pow_pos x
  | cons a l ih=>
   intro x hs h
   rw [Yoa,List.pairwise_append] at hs
   have ha:=h a Yka
   have h1:=ih a hs.1 fun y hy=>hs.2.2 y (Yla.2 hy) a Yka
   have h2:2^(a+1)≤2^x:=Yaa (by omega) ha
   rw [Yta] at h2
   rw [Zke]
   omega
 have hr:∀l:List Nat,Zke l.reverse=Zke l:=by
  intro l
  induction l with
  | nil=>rfl
  | cons a l ih=>rw [Yoa,Zh6,ih,Zke,Zke,Zke];omega
 rw [← hr]
 refine this _ x ?_ fun y hy=>h y (Yla.1 hy)
 rwa [List.reverse_reverse]
theorem Z8db {x:Nat} (h:x<24):shl .i64 1 (x:Int)=((2^x:Nat):Int):=by
 have hp:2^x≤2^24:=Yaa (by omega) (by omega)
 unfold shl
 rw [Yg,Yra (by show x≤64;omega),Int.one_mul]
 have e:(2:Int)^x=((2^x:Nat):Int):=by rw [Int.natCast_pow];rfl
 rw [e]
 have h24:(2:Nat)^24=16777216:=by decide
 generalize (2:Nat)^x=p at hp ⊢
 exact w64 (by omega) (by omega)
theorem ori (a b:Nat) (ha:a<9223372036854775808) (hb:b<9223372036854775808):intBits .or .i64 (a:Int) (b:Int)=((a ||| b:Nat):Int):=by
 have h1:(Yh 64 (a:Int) ||| Yh 64 (b:Int)).toNat=a ||| b:=by
  rw [BitVec.toNat_or,Yu,Yu]
  have h1:((a:Int)%((2^64:Nat):Int)).toNat=a:=by omega
  have h2:((b:Int)%((2^64:Nat):Int)).toNat=b:=by omega
  rw [h1,h2]
 have hlt:a ||| b<2^63:=Nat.or_lt_two_pow (by simpa using ha) (by simpa using hb)
 unfold intBits
 show Yk .i64 (((Yh 64 (a:Int) ||| Yh 64 (b:Int)).toNat:Nat):Int)=_
 rw [h1]
 exact w64 (by omega) (by simpa using (by exact_mod_cast hlt:((a ||| b:Nat):Int)<2^63))
theorem Zqeb {l:List Nat} {i:Nat} (h:i<l.length):Zke (l.take (i+1))=Zke (l.take i)+2^l[i]:=by
 rw [Z8h h,Zh6,Zke,Zke,Nat.add_zero]
theorem Zreb {v i:Nat} (h:i<(Ztb v 24).length):Zke ((Ztb v 24).take i)<2^(Ztb v 24)[i]:=by
 refine Z4ob ((Zyu v 24).sublist (List.take_sublist _ _)) fun y hy=>?_
 obtain ⟨j,hj,rfl⟩:=Y2.1 hy
 rw [Y1] at hj
 rw [Yca]
 exact Yma.1 (Zyu v 24) j i (by omega) h (by omega)
theorem Z17 {v i:Nat} (h:i<(Ztb v 24).length):(Zb v)[i]'(by unfold Zb;rwa [Y0])=(((Ztb v 24)[i]:Nat):Int)∧(Ztb v 24)[i]<24∧2^(Ztb v 24)[i]≤8388608:=by
 have hx:=(Zss (Yl h)).1
 refine ⟨by simp [Zb],hx,?_⟩
 have:2^(Ztb v 24)[i]≤2^23:=Yaa (by omega) (by omega)
 simpa using this
theorem Zuo (v:Nat) (hv:v<16777216):∀k,24<k→Zlc k (Zb v)=some (v:Int):=by
 intro k hk
 have hlen:=Z6c v
 have hl:(Zb v).length=(Ztb v 24).length:=by unfold Zb;rw [Y0]
 have h:=Zrb (fun j i=>Zlc.l0 j ((Zke ((Ztb v 24).take i):Nat):Int) (Zb v) ((Zb v).length:Int) (i:Int)) (Zb v).length (v:Int) (fun i hi j=>?_) (fun j=>?_) k (by omega)
 ·have h:Zlc.l0 k 0 (Zb v) ((Zb v).length:Int) 0=some (v:Int):=h
  unfold Zlc
  rw [h]
  rfl
 ·have hi2:i<(Ztb v 24).length:=by omega
  obtain ⟨e1,e2,e3⟩:=Z17 hi2
  have hs:=Zreb hi2
  conv=>lhs;unfold Zlc.l0
  rw [dlt hi,Zi hi,Zn (by omega)]
  simp only [cond_true,Ya]
  rw [e1,Z1c (by omega),Z8db e2,ori _ _ (by omega) (by omega),Zqeb hi2]
  simp only [Ya]
  have:Zke ((Ztb v 24).take i) ||| 2^(Ztb v 24)[i]=Zke ((Ztb v 24).take i)+2^(Ztb v 24)[i]:=by
   have:=Nat.two_pow_add_eq_or_of_lt hs 1
   rw [Nat.mul_one] at this
   rw [Nat.or_comm,← this,Nat.add_comm]
  rw [this]
 ·conv=>lhs;unfold Zlc.l0
  rw [Zy (Yc _),hl,Yt,Zw0,Ysa (by simpa using hv)]
  rfl
theorem Z7z (v:Nat) (hv:v<16777216):∀k,24<k→Zsd k (Zb v)=some (v:Int):=by
 intro k hk
 have hlen:=Z6c v
 have hl:(Zb v).length=(Ztb v 24).length:=by unfold Zb;rw [Y0]
 have h:=Zrb (fun j i=>Zsd.l0 j (Zb v) ((Zke ((Ztb v 24).take i):Nat):Int) (i:Int)) (Zb v).length (v:Int) (fun i hi j=>?_) (fun j=>?_) k (by omega)
 ·have h:Zsd.l0 k (Zb v) 0 0=some (v:Int):=h
  unfold Zsd
  rw [Zx5 v k hk]
  simp only [Ya,Yb,cond_false]
  rw [h]
  rfl
 ·have hi2:i<(Ztb v 24).length:=by omega
  obtain ⟨e1,e2,e3⟩:=Z17 hi2
  have hs:=Zreb hi2
  conv=>lhs;unfold Zsd.l0
  rw [dlt hi,Zi hi,Zn (by omega)]
  simp only [cond_true,Ya]
  rw [e1,Z1c (by omega),Z8db e2,Zqeb hi2]
  simp only [Ya]
  rw [w64 (by omega) (by omega),← Int.natCast_add]
 ·conv=>lhs;unfold Zsd.l0
  rw [Zy (Yc _),hl,Yt,Zw0,Ysa (by simpa using hv)]
  rfl
end Go.Proofs.Qz
namespace Go.Proofs.Qz
open Go
set_option linter.unusedVariables false
def Zob (s:Str) (a:Nat):Option (Int×Nat):=if (Zbd s a).2.2=0 then some ((Zbd s a).1,(Zbd s a).2.1.toNat) else none
def Zqg (s:Str) (a:Nat):Option (Str×Nat):=if (Zkh s a).2.2=0 then some ((Zkh s a).1,(Zkh s a).2.1.toNat) else none
theorem Zui {s:Str} {a:Nat} {n:Int} {a':Nat} (h:Zob s a=some (n,a')):Got s a n a':=by
 unfold Zob at h
 rcases Zwk s a with ⟨m,b,e,g⟩ | ⟨c,hc,e⟩
 ·rw [e] at h
  simp only [if_true,Yg,Yza.injEq,Prod.mk.injEq] at h
  obtain ⟨rfl,rfl⟩:=h
  exact g
 ·rw [e,if_neg hc] at h
  cases h
theorem Zm6 {s:Str} {a:Nat} {t:Str} {a':Nat} (h:Zqg s a=some (t,a')):GotT s a t a':=by
 unfold Zqg at h
 rcases Zuq s a with ⟨m,b,e,g⟩ | ⟨c,hc,e⟩
 ·rw [e] at h
  simp only [if_true,Yg,Yza.injEq,Prod.mk.injEq] at h
  obtain ⟨rfl,rfl⟩:=h
  exact g
 ·rw [e,if_neg hc] at h
  cases h
def StS (s:Str) (st:Str×Int×Bool) (p:Option Nat):Prop:=st.1=s∧∃a:Nat,st.2.1=(a:Int)∧a≤8000∧match p with
 | some q=>a=q∧st.2.2=false
 | none=>st.2.2=true
def Zd (s:Str) (p:Option Nat):Option Nat:=match p with
 | some a=>(Zob s a).map (·.2)
 | none=>none
def Zcb (s:Str) (p:Option Nat):Option Nat:=match p with
 | some a=>(Zqg s a).map (·.2)
 | none=>none
theorem Zpbb {s:Str} (hs:s.length≤8000) (a:Nat) (ha:a≤8000):StS s (Zib s a).2 (Zd s (some a))∧∀n a',Zob s a=some (n,a')→(Zib s a).1=n:=by
 show StS s (Zib s a).2 ((Zob s a).map (·.2))∧_
 rcases Zwk s a with ⟨m,b,e,g⟩ | ⟨c,hc,e⟩
 ·have hb:=g.le
  have hr:Zib s a=(m,s,((b:Nat):Int),false):=by unfold Zib;rw [e];rfl
  have hn:Zob s a=some (m,b):=by unfold Zob;rw [e];rfl
  rw [hr,hn]
  exact ⟨⟨rfl,b,rfl,by omega,rfl,rfl⟩,fun n a' h=>by cases h;rfl⟩
 ·have hr:Zib s a=(0,s,(a:Int),true):=by unfold Zib;rw [e,if_neg hc]
  have hn:Zob s a=none:=by unfold Zob;rw [e,if_neg hc]
  rw [hr,hn]
  exact ⟨⟨rfl,a,rfl,ha,rfl⟩,fun n a' h=>by cases h⟩
theorem Zueb {s:Str} (hs:s.length≤8000) (a:Nat) (ha:a≤8000):StS s (Zzf s a).2 (Zcb s (some a))∧∀n a',Zqg s a=some (n,a')→(Zzf s a).1=n:=by
 show StS s (Zzf s a).2 ((Zqg s a).map (·.2))∧_
 rcases Zuq s a with ⟨m,b,e,g⟩ | ⟨c,hc,e⟩
 ·have hb:=g.le
  have hr:Zzf s a=(m,s,((b:Nat):Int),false):=by unfold Zzf;rw [e];rfl
  have hn:Zqg s a=some (m,b):=by unfold Zqg;rw [e];rfl
  rw [hr,hn]
  exact ⟨⟨rfl,b,rfl,by omega,rfl,rfl⟩,fun n a' h=>by cases h;rfl⟩
 ·have hr:Zzf s a=([],s,(a:Int),true):=by unfold Zzf;rw [e,if_neg hc]
  have hn:Zqg s a=none:=by unfold Zqg;rw [e,if_neg hc]
  rw [hr,hn]
  exact ⟨⟨rfl,a,rfl,ha,rfl⟩,fun n a' h=>by cases h⟩
theorem StS.form {s:Str} {st:Str×Int×Bool} {p:Option Nat} (h:StS s st p):(∃a,p=some a∧a≤8000∧st=(s,((a:Int),false)))∨∃a:Nat,p=none∧a≤8000∧st=(s,((a:Int),true)):=by
 obtain ⟨x,y,z⟩:=st
 obtain ⟨rfl,a,h1,h2,h3⟩:=h
 have h1:y=(a:Int):=h1
 subst h1
 cases p with
 | some q=>
  obtain ⟨h4,h5⟩:=h3
  have h5:z=false:=h5
  exact .inl ⟨q,rfl,by omega,by rw [h4,h5]⟩
 | none=>
  have h3:z=true:=h3
  exact .inr ⟨a,rfl,h2,by rw [h3]⟩
theorem Zwm {s:Str} (hs:s.length≤8000) {st:Str×Int×Bool} {p:Option Nat} (h:StS s st p):∃v,(Ze fun k=>Zcc k st=some v)∧StS s v.2 (Zd s p)∧∀a n a',p=some a→Zob s a=some (n,a')→v.1=n:=by
 rcases h.form with ⟨a,rfl,ha,rfl⟩ | ⟨a,rfl,ha,rfl⟩
 ·obtain ⟨h1,h2⟩:=Zpbb hs a ha
  exact ⟨_,Z6t s a (by omega) hs,h1,fun a0 n a' e h=>by cases e;exact h2 n a' h⟩
 ·exact ⟨_,Zz5 s a (by omega) hs,⟨rfl,a,rfl,ha,rfl⟩,fun a0 n a' e=>by cases e⟩
theorem Zwdb {s:Str} (hs:s.length≤8000) {st:Str×Int×Bool} {p:Option Nat} (h:StS s st p):∃v,(Ze fun k=>Zth k st=some v)∧StS s v.2 (Zcb s p)∧∀a n a',p=some a→Zqg s a=some (n,a')→v.1=n:=by
 rcases h.form with ⟨a,rfl,ha,rfl⟩ | ⟨a,rfl,ha,rfl⟩
 ·obtain ⟨h1,h2⟩:=Zueb hs a ha
  exact ⟨_,Zxdb s a (by omega) hs,h1,fun a0 n a' e h=>by cases e;exact h2 n a' h⟩
 ·exact ⟨_,Zi0 s a (by omega) hs,⟨rfl,a,rfl,ha,rfl⟩,fun a0 n a' e=>by cases e⟩
theorem Z2j {s:Str} (hs:s.length≤8000) {st:Str×Int×Bool} {p:Option Nat} (h:StS s st p):∃v,(Ze fun k=>Zfc k st=some v)∧StS s v.2 (Zd s p)∧∀a n a',p=some a→Zob s a=some (n,a')→v.1=n:=by
 rcases h.form with ⟨a,rfl,ha,rfl⟩ | ⟨a,rfl,ha,rfl⟩
 ·obtain ⟨h1,h2⟩:=Zpbb hs a ha
  exact ⟨_,Zm3 s a (by omega) (by omega),h1,fun a0 n a' e h=>by cases e;exact h2 n a' h⟩
 ·obtain ⟨n,a',h1,h2⟩:=Zvjb s a (by omega) (by omega)
  exact ⟨_,h1,⟨rfl,a',rfl,by omega,rfl⟩,fun a0 n a' e=>by cases e⟩
theorem Zo3 {s:Str} (hs:s.length≤8000) {st:Str×Int×Bool} {p:Option Nat} (h:StS s st p):∃v,(Ze fun k=>Ztg k st=some v)∧StS s v.2 (Zcb s p)∧∀a n a',p=some a→Zqg s a=some (n,a')→v.1=n:=by
 rcases h.form with ⟨a,rfl,ha,rfl⟩ | ⟨a,rfl,ha,rfl⟩
 ·obtain ⟨h1,h2⟩:=Zueb hs a ha
  exact ⟨_,Zhab s a (by omega) (by omega),h1,fun a0 n a' e h=>by cases e;exact h2 n a' h⟩
 ·obtain ⟨n,a',h1,h2⟩:=Ziab s a (by omega) (by omega)
  exact ⟨_,h1,⟨rfl,a',rfl,by omega,rfl⟩,fun a0 n a' e=>by cases e⟩
end Go.Proofs.Qz
namespace Go.Proofs.Qz
open Go
set_option linter.unusedVariables false
def stZ (s:Str):Option ((Int×Int×Int×Int×Int×Int×Int×Str)×Nat):=
 (Zob s 0).bind fun x1=>
 (Zob s x1.2).bind fun x2=>
 (Zob s x2.2).bind fun x3=>
 (Zob s x3.2).bind fun x4=>
 (Zob s x4.2).bind fun x5=>
 (Zob s x5.2).bind fun x6=>
 (Zob s x6.2).bind fun x7=>
 (Zqg s x7.2).map fun t=>((x1.1,x2.1,x3.1,x4.1,x5.1,x6.1,x7.1,t.1),t.2)
theorem Z1nb (s:Str) (hs:s.length≤8000):∃v1 v2 v3 v4 v5 v6 v7:Int×Str×Int×Bool,∃v8:Str×Str×Int×Bool,(Ze fun k=>Zcc k (s,(0,false))=some v1∧Zcc k v1.2=some v2∧Zcc k v2.2=some v3∧Zcc k v3.2=some v4∧Zcc k v4.2=some v5∧Zcc k v5.2=some v6∧Zcc k v6.2=some v7∧Zth k v7.2=some v8) ∧
  ((∃d:Nat,stZ s=some ((v1.1,v2.1,v3.1,v4.1,v5.1,v6.1,v7.1,v8.1),d)∧v8.2=(s,((d:Nat):Int),false))∨(stZ s=none∧v8.2.2.2=true)):=by
 have h0:StS s (s,((0:Nat):Int),false) (some 0):=⟨rfl,0,rfl,by omega,rfl,rfl⟩
 obtain ⟨v1,e1,h1,g1⟩:=Zwm hs h0
 obtain ⟨v2,e2,h2,g2⟩:=Zwm hs h1
 obtain ⟨v3,e3,h3,g3⟩:=Zwm hs h2
 obtain ⟨v4,e4,h4,g4⟩:=Zwm hs h3
 obtain ⟨v5,e5,h5,g5⟩:=Zwm hs h4
 obtain ⟨v6,e6,h6,g6⟩:=Zwm hs h5
 obtain ⟨v7,e7,h7,g7⟩:=Zwm hs h6
 obtain ⟨v8,e8,h8,g8⟩:=Zwdb hs h7
 refine ⟨v1,v2,v3,v4,v5,v6,v7,v8,(((((((e1.and e2).and e3).and e4).and e5).and e6).and e7).and e8).mono fun k ⟨⟨⟨⟨⟨⟨⟨q1,q2⟩,q3⟩,q4⟩,q5⟩,q6⟩,q7⟩,q8⟩=>⟨q1,q2,q3,q4,q5,q6,q7,q8⟩,?_⟩
 clear e1 e2 e3 e4 e5 e6 e7 e8 h0 h1 h2 h3 h4 h5 h6 h7
 have bad:∀{st:Str×Int×Bool},StS s st none→st.2.2=true:=fun h=>h.2.choose_spec.2.2
 cases x1:Zob s 0 with
 | none=>
  refine .inr ⟨by simp [stZ,x1],bad (st:=v8.2) ?_⟩
  have:Zcb s (Zd s (Zd s (Zd s (Zd s (Zd s (Zd s (Zd s (some 0))))))))=none:=by simp [Zd,Zcb,x1]
  rwa [this] at h8
 | some y1=>
 obtain ⟨n1,a1⟩:=y1
 cases x2:Zob s a1 with
 | none=>
  refine .inr ⟨by simp [stZ,x1,x2],bad (st:=v8.2) ?_⟩
  have:Zcb s (Zd s (Zd s (Zd s (Zd s (Zd s (Zd s (Zd s (some 0))))))))=none:=by simp [Zd,Zcb,x1,x2]
  rwa [this] at h8
 | some y2=>
 obtain ⟨n2,a2⟩:=y2
 cases x3:Zob s a2 with
 | none=>
  refine .inr ⟨by simp [stZ,x1,x2,x3],bad (st:=v8.2) ?_⟩
  have:Zcb s (Zd s (Zd s (Zd s (Zd s (Zd s (Zd s (Zd s (some 0))))))))=none:=by simp [Zd,Zcb,x1,x2,x3]
  rwa [this] at h8
 | some y3=>
 obtain ⟨n3,a3⟩:=y3
 cases x4:Zob s a3 with
 | none=>
  refine .inr ⟨by simp [stZ,x1,x2,x3,x4],bad (st:=v8.2) ?_⟩
  have:Zcb s (Zd s (Zd s (Zd s (Zd s (Zd s (Zd s (Zd s (some 0))))))))=none:=by simp [Zd,Zcb,x1,x2,x3,x4]
  rwa [this] at h8
 | some y4=>
 obtain ⟨n4,a4⟩:=y4
 cases x5:Zob s a4 with
 | none=>
  refine .inr ⟨by simp [stZ,x1,x2,x3,x4,x5],bad (st:=v8.2) ?_⟩
  have:Zcb s (Zd s (Zd s (Zd s (Zd s (Zd s (Zd s (Zd s (some 0))))))))=none:=by simp [Zd,Zcb,x1,x2,x3,x4,x5]
  rwa [this] at h8
 | some y5=>
 obtain ⟨n5,a5⟩:=y5
 cases x6:Zob s a5 with
 | none=>
  refine .inr ⟨by simp [stZ,x1,x2,x3,x4,x5,x6],bad (st:=v8.2) ?_⟩
  have:Zcb s (Zd s (Zd s (Zd s (Zd s (Zd s (Zd s (Zd s (some 0))))))))=none:=by simp [Zd,Zcb,x1,x2,x3,x4,x5,x6]
  rwa [this] at h8
 | some y6=>
 obtain ⟨n6,a6⟩:=y6
 cases x7:Zob s a6 with
 | none=>
  refine .inr ⟨by simp [stZ,x1,x2,x3,x4,x5,x6,x7],bad (st:=v8.2) ?_⟩
  have:Zcb s (Zd s (Zd s (Zd s (Zd s (Zd s (Zd s (Zd s (some 0))))))))=none:=by simp [Zd,Zcb,x1,x2,x3,x4,x5,x6,x7]
  rwa [this] at h8
 | some y7=>
 obtain ⟨n7,a7⟩:=y7
 cases x8:Zqg s a7 with
 | none=>
  refine .inr ⟨by simp [stZ,x1,x2,x3,x4,x5,x6,x7,x8],bad (st:=v8.2) ?_⟩
  have:Zcb s (Zd s (Zd s (Zd s (Zd s (Zd s (Zd s (Zd s (some 0))))))))=none:=by simp [Zd,Zcb,x1,x2,x3,x4,x5,x6,x7,x8]
  rwa [this] at h8
 | some y8=>
  obtain ⟨t,d⟩:=y8
  have p1:Zd s (some 0)=some a1:=by simp [Zd,x1]
  have p2:Zd s (Zd s (some 0))=some a2:=by simp [Zd,x1,x2]
  have p3:Zd s (Zd s (Zd s (some 0)))=some a3:=by simp [Zd,x1,x2,x3]
  have p4:Zd s (Zd s (Zd s (Zd s (some 0))))=some a4:=by simp [Zd,x1,x2,x3,x4]
  have p5:Zd s (Zd s (Zd s (Zd s (Zd s (some 0)))))=some a5:=by simp [Zd,x1,x2,x3,x4,x5]
  have p6:Zd s (Zd s (Zd s (Zd s (Zd s (Zd s (some 0))))))=some a6:=by simp [Zd,x1,x2,x3,x4,x5,x6]
  have p7:Zd s (Zd s (Zd s (Zd s (Zd s (Zd s (Zd s (some 0)))))))=some a7:=by simp [Zd,x1,x2,x3,x4,x5,x6,x7]
  have p8:Zcb s (Zd s (Zd s (Zd s (Zd s (Zd s (Zd s (Zd s (some 0))))))))=some d:=by simp [Zd,Zcb,x1,x2,x3,x4,x5,x6,x7,x8]
  have r1:=g1 _ _ _ rfl x1
  have r2:=g2 _ _ _ p1 x2
  have r3:=g3 _ _ _ p2 x3
  have r4:=g4 _ _ _ p3 x4
  have r5:=g5 _ _ _ p4 x5
  have r6:=g6 _ _ _ p5 x6
  have r7:=g7 _ _ _ p6 x7
  have r8:=g8 _ _ _ p7 x8
  refine .inl ⟨d,?_,?_⟩
  ·rw [r1,r2,r3,r4,r5,r6,r7,r8]
   simp [stZ,x1,x2,x3,x4,x5,x6,x7,x8]
  ·rw [p8] at h8
   rcases h8.form with ⟨a,e,_,q⟩ | ⟨a,e,_,q⟩
   ·cases e;exact q
   ·cases e
theorem Z0jb (s:Str) (hs:s.length≤8000):∃v1 v2 v3 v4 v5 v6 v7:Int×Str×Int×Bool,∃v8:Str×Str×Int×Bool,(Ze fun k=>Zfc k (s,(0,false))=some v1∧Zfc k v1.2=some v2∧Zfc k v2.2=some v3∧Zfc k v3.2=some v4∧Zfc k v4.2=some v5∧Zfc k v5.2=some v6∧Zfc k v6.2=some v7∧Ztg k v7.2=some v8) ∧
  ((∃d:Nat,stZ s=some ((v1.1,v2.1,v3.1,v4.1,v5.1,v6.1,v7.1,v8.1),d)∧v8.2=(s,((d:Nat):Int),false))∨(stZ s=none∧v8.2.2.2=true)):=by
 have h0:StS s (s,((0:Nat):Int),false) (some 0):=⟨rfl,0,rfl,by omega,rfl,rfl⟩
 obtain ⟨v1,e1,h1,g1⟩:=Z2j hs h0
 obtain ⟨v2,e2,h2,g2⟩:=Z2j hs h1
 obtain ⟨v3,e3,h3,g3⟩:=Z2j hs h2
 obtain ⟨v4,e4,h4,g4⟩:=Z2j hs h3
 obtain ⟨v5,e5,h5,g5⟩:=Z2j hs h4
 obtain ⟨v6,e6,h6,g6⟩:=Z2j hs h5
 obtain ⟨v7,e7,h7,g7⟩:=Z2j hs h6
 obtain ⟨v8,e8,h8,g8⟩:=Zo3 hs h7
 refine ⟨v1,v2,v3,v4,v5,v6,v7,v8,(((((((e1.and e2).and e3).and e4).and e5).and e6).and e7).and e8).mono fun k ⟨⟨⟨⟨⟨⟨⟨q1,q2⟩,q3⟩,q4⟩,q5⟩,q6⟩,q7⟩,q8⟩=>⟨q1,q2,q3,q4,q5,q6,q7,q8⟩,?_⟩
 clear e1 e2 e3 e4 e5 e6 e7 e8 h0 h1 h2 h3 h4 h5 h6 h7
 have bad:∀{st:Str×Int×Bool},StS s st none→st.2.2=true:=fun h=>h.2.choose_spec.2.2
 cases x1:Zob s 0 with
 | none=>
  refine .inr ⟨by simp [stZ,x1],bad (st:=v8.2) ?_⟩
  have:Zcb s (Zd s (Zd s (Zd s (Zd s (Zd s (Zd s (Zd s (some 0))))))))=none:=by simp [Zd,Zcb,x1]
  rwa [this] at h8
 | some y1=>
 obtain ⟨n1,a1⟩:=y1
 cases x2:Zob s a1 with
 | none=>
  refine .inr ⟨by simp [stZ,x1,x2],bad (st:=v8.2) ?_⟩
  have:Zcb s (Zd s (Zd s (Zd s (Zd s (Zd s (Zd s (Zd s (some 0))))))))=none:=by simp [Zd,Zcb,x1,x2]
  rwa [this] at h8
 | some y2=>
 obtain ⟨n2,a2⟩:=y2
 cases x3:Zob s a2 with
 | none=>
  refine .inr ⟨by simp [stZ,x1,x2,x3],bad (st:=v8.2) ?_⟩
  have:Zcb s (Zd s (Zd s (Zd s (Zd s (Zd s (Zd s (Zd s (some 0))))))))=none:=by simp [Zd,Zcb,x1,x2,x3]
  rwa [this] at h8
 | some y3=>
 obtain ⟨n3,a3⟩:=y3
 cases x4:Zob s a3 with
 | none=>
  refine .inr ⟨by simp [stZ,x1,x2,x3,x4],bad (st:=v8.2) ?_⟩
  have:Zcb s (Zd s (Zd s (Zd s (Zd s (Zd s (Zd s (Zd s (some 0))))))))=none:=by simp [Zd,Zcb,x1,x2,x3,x4]
  rwa [this] at h8
 | some y4=>
 obtain ⟨n4,a4⟩:=y4
 cases x5:Zob s a4 with
 | none=>
  refine .inr ⟨by simp [stZ,x1,x2,x3,x4,x5],bad (st:=v8.2) ?_⟩
  have:Zcb s (Zd s (Zd s (Zd s (Zd s (Zd s (Zd s (Zd s (some 0))))))))=none:=by simp [Zd,Zcb,x1,x2,x3,x4,x5]
  rwa [this] at h8
 | some y5=>
 obtain ⟨n5,a5⟩:=y5
 cases x6:Zob s a5 with
 | none=>
  refine .inr ⟨by simp [stZ,x1,x2,x3,x4,x5,x6],bad (st:=v8.2) ?_⟩
  have:Zcb s (Zd s (Zd s (Zd s (Zd s (Zd s (Zd s (Zd s (some 0))))))))=none:=by simp [Zd,Zcb,x1,x2,x3,x4,x5,x6]
  rwa [this] at h8
 | some y6=>
 obtain ⟨n6,a6⟩:=y6
 cases x7:Zob s a6 with
 | none=>
  refine .inr ⟨by simp [stZ,x1,x2,x3,x4,x5,x6,x7],bad (st:=v8.2) ?_⟩
  have:Zcb s (Zd s (Zd s (Zd s (Zd s (Zd s (Zd s (Zd s (some 0))))))))=none:=by simp [Zd,Zcb,x1,x2,x3,x4,x5,x6,x7]
  rwa [this] at h8
 | some y7=>
 obtain ⟨n7,a7⟩:=y7
 cases x8:Zqg s a7 with
 | none=>
  refine .inr ⟨by simp [stZ,x1,x2,x3,x4,x5,x6,x7,x8],bad (st:=v8.2) ?_⟩
  have:Zcb s (Zd s (Zd s (Zd s (Zd s (Zd s (Zd s (Zd s (some 0))))))))=none:=by simp [Zd,Zcb,x1,x2,x3,x4,x5,x6,x7,x8]
  rwa [this] at h8
 | some y8=>
  obtain ⟨t,d⟩:=y8
  have p1:Zd s (some 0)=some a1:=by simp [Zd,x1]
  have p2:Zd s (Zd s (some 0))=some a2:=by simp [Zd,x1,x2]
  have p3:Zd s (Zd s (Zd s (some 0)))=some a3:=by simp [Zd,x1,x2,x3]
  have p4:Zd s (Zd s (Zd s (Zd s (some 0))))=some a4:=by simp [Zd,x1,x2,x3,x4]
  have p5:Zd s (Zd s (Zd s (Zd s (Zd s (some 0)))))=some a5:=by simp [Zd,x1,x2,x3,x4,x5]
  have p6:Zd s (Zd s (Zd s (Zd s (Zd s (Zd s (some 0))))))=some a6:=by simp [Zd,x1,x2,x3,x4,x5,x6]
  have p7:Zd s (Zd s (Zd s (Zd s (Zd s (Zd s (Zd s (some 0)))))))=some a7:=by simp [Zd,x1,x2,x3,x4,x5,x6,x7]
  have p8:Zcb s (Zd s (Zd s (Zd s (Zd s (Zd s (Zd s (Zd s (some 0))))))))=some d:=by simp [Zd,Zcb,x1,x2,x3,x4,x5,x6,x7,x8]
  have r1:=g1 _ _ _ rfl x1
  have r2:=g2 _ _ _ p1 x2
  have r3:=g3 _ _ _ p2 x3
  have r4:=g4 _ _ _ p3 x4
  have r5:=g5 _ _ _ p4 x5
  have r6:=g6 _ _ _ p5 x6
  have r7:=g7 _ _ _ p6 x7
  have r8:=g8 _ _ _ p7 x8
  refine .inl ⟨d,?_,?_⟩
  ·rw [r1,r2,r3,r4,r5,r6,r7,r8]
   simp [stZ,x1,x2,x3,x4,x5,x6,x7,x8]
  ·rw [p8] at h8
   rcases h8.form with ⟨a,e,_,q⟩ | ⟨a,e,_,q⟩
   ·cases e;exact q
   ·cases e
end Go.Proofs.Qz
namespace Go.Proofs.Qz
open Go
set_option linter.unusedVariables false
abbrev StT:=Int×Int×Int×Int×Int×Str×List Int×List Int
def stT (op part steps slots moves:Int) (mem:Str) (v w:Nat):StT:=(op,part,steps,slots,moves,mem,Zb v,Zb w)
def Zuh (op part steps slots moves:Int) (mem:Str) (v w:Nat):Bool:=
 (decide (1≤op)&&decide (op≤5))&&(decide (v &&& w=0)&&(if op=1 then decide (part=0∧steps=0∧slots=0∧moves=0∧mem=[]∧(Zb w).length=0)
  else decide ((1≤steps∧steps≤20)∧(0≤slots∧slots≤4)∧((Zb w).length:Int)=steps+slots∧mem.length=32∧(0≤part∧part≤2)∧(0≤moves∧moves≤40)∧(part=0∨op=4)∧(moves=0∨op=5))))
theorem andi (a b:Nat) (ha:a<16777216) (hb:b<16777216):intBits .and .i64 (a:Int) (b:Int)=((a &&& b:Nat):Int):=by
 have h1:(Yh 64 (a:Int) &&& Yh 64 (b:Int)).toNat=a &&& b:=by
  rw [Yfa,Yu,Yu]
  have h1:((a:Int)%((2^64:Nat):Int)).toNat=a:=by omega
  have h2:((b:Int)%((2^64:Nat):Int)).toNat=b:=by omega
  rw [h1,h2]
 have hlt:a &&& b≤a:=Nat.and_le_left
 unfold intBits
 show Yk .i64 (((Yh 64 (a:Int) &&& Yh 64 (b:Int)).toNat:Nat):Int)=_
 rw [h1]
 exact w64 (by omega) (by omega)
theorem Zojb (op part steps slots moves:Int) (mem:Str) (v w:Nat) (hv:v<16777216) (hw:w<16777216):∀k,24<k→Zbp k (stT op part steps slots moves mem v w)=some (Zuh op part steps slots moves mem v w):=by
 intro k hk
 have hl:=Z6c w
 have W:∀a b c:Int,Zhb a b c=some (decide (b≤a)&&decide (a≤c)):=fun _ _ _=>rfl
 have Z:Z4j (Zb w)=some ((Zb w).length:Int):=rfl
 unfold Zbp stT
 dsimp only
 rw [W]
 simp only [Ya]
 unfold Zuh
 by_cases h1:(decide (1≤op)&&decide (op≤5))=true
 ·rw [h1]
  simp only [Yb,cond_false,Yf]
  refine Za (Zbab v k hk) ?_
  simp only [Yb,cond_false]
  refine Za (Zbab w k hk) ?_
  simp only [Yb,cond_false]
  refine Za (Zuo v hv k hk) (Za (Zuo w hw k hk) ?_)
  rw [andi v w hv hw]
  by_cases h2:v &&& w=0
  ·rw [h2]
   simp only [decide_true,Yf]
   rw [show (((0:Nat):Int) != 0)=false from rfl]
   simp only [cond_false]
   by_cases h3:op=1
   ·rw [show (op==1)=true by simpa using h3,if_pos h3,cond_true]
    congr 1
    rw [Yx]
    simp only [Ye,beq_iff_eq,decide_eq_true_eq]
    constructor
    ·rintro ⟨⟨⟨⟨⟨a,b⟩,c⟩,d⟩,e⟩,f⟩
     exact ⟨a,b,c,d,e,by omega⟩
    ·rintro ⟨a,b,c,d,e,f⟩
     exact ⟨⟨⟨⟨⟨a,b⟩,c⟩,d⟩,e⟩,by omega⟩
   ·rw [show (op==1)=false by simpa using h3,if_neg h3,cond_false]
    have two:∀{a b:Prop} [Decidable a] [Decidable b],¬(a∧b)→(decide a&&decide b)=false:=fun {a b} _ _ h=>by
     rw [Yo,decide_eq_false_iff_not,decide_eq_false_iff_not]
     exact Classical.not_and_iff_not_or_not.1 h
    by_cases c1:1≤steps∧steps≤20
    ·refine Za (W steps 1 20) ?_
     rw [decide_eq_true c1.1,decide_eq_true c1.2]
     simp only [Yd,cond_true]
     by_cases c2:0≤slots∧slots≤4
     ·refine Za (W slots 0 4) ?_
      rw [decide_eq_true c2.1,decide_eq_true c2.2]
      simp only [Yd,cond_true]
      refine Za Z ?_
      rw [w64 (n:=steps+slots) (by omega) (by omega)]
      by_cases c3:((Zb w).length:Int)=steps+slots
      ·rw [show (((Zb w).length:Int)==steps+slots)=true by simpa using c3,cond_true]
       by_cases c4:mem.length=32
       ·rw [show ((mem.length:Int)==32)=true by simp;omega,cond_true]
        refine Za (W part 0 2) ?_
        by_cases c5:0≤part∧part≤2
        ·rw [decide_eq_true c5.1,decide_eq_true c5.2]
         simp only [Yd,cond_true]
         have tail:((Zhb moves 0 40).bind fun v14=>bif v14 then bif moves==0 then some true else some (op==5) else some false)=some (decide ((0≤moves∧moves≤40)∧(moves=0∨op=5))):=by
          refine Za (W moves 0 40) ?_
          by_cases c6:0≤moves∧moves≤40
          ·rw [decide_eq_true c6.1,decide_eq_true c6.2]
           simp only [Yd,cond_true]
           by_cases c7:moves=0
           ·rw [show (moves==0)=true by simpa using c7,decide_eq_true ⟨c6,.inl c7⟩]
            rfl
           ·rw [show (moves==0)=false by simpa using c7,cond_false]
            congr 1
            rw [Zdi]
            exact decide_eq_decide.2 ⟨fun q=>⟨c6,.inr q⟩,fun q=>q.2.resolve_left c7⟩
          ·rw [two c6,decide_eq_false (fun q=>c6 q.1)]
           rfl
         by_cases c7:part=0
         ·rw [show (part==0)=true by simpa using c7,cond_true]
          refine tail.trans ?_
          congr 1
          exact decide_eq_decide.2 ⟨fun q=>⟨c1,c2,c3,c4,c5,q.1,.inl c7,q.2⟩,fun q=>⟨q.2.2.2.2.2.1,q.2.2.2.2.2.2.2⟩⟩
         ·rw [show (part==0)=false by simpa using c7,cond_false]
          by_cases c8:op=4
          ·rw [show (op==4)=true by simpa using c8,cond_true]
           refine tail.trans ?_
           congr 1
           exact decide_eq_decide.2 ⟨fun q=>⟨c1,c2,c3,c4,c5,q.1,.inr c8,q.2⟩,fun q=>⟨q.2.2.2.2.2.1,q.2.2.2.2.2.2.2⟩⟩
          ·rw [show (op==4)=false by simpa using c8,decide_eq_false (fun q=>q.2.2.2.2.2.2.1.elim c7 c8)]
           rfl
        ·rw [two c5,decide_eq_false (fun q=>c5 q.2.2.2.2.1)]
         rfl
       ·rw [show ((mem.length:Int)==32)=false by simp;omega,decide_eq_false (fun q=>c4 q.2.2.2.1)]
        rfl
      ·rw [show (((Zb w).length:Int)==steps+slots)=false by simpa using c3,decide_eq_false (fun q=>c3 q.2.2.1)]
       rfl
     ·refine Za (W slots 0 4) ?_
      rw [two c2,decide_eq_false (fun q=>c2 q.2.1)]
      rfl
    ·refine Za (W steps 1 20) ?_
     rw [two c1,decide_eq_false (fun q=>c1 q.1)]
     rfl
  ·rw [show (((v &&& w:Nat):Int) != 0)=true by simp;omega,decide_eq_false h2]
   rfl
 ·rw [Y3.2 h1]
  rfl
theorem Zwn {v n:Nat}:((n:Nat):Int)∈Zb v ↔ n<24∧v.testBit n=true:=by
 unfold Zb Ztb
 rw [Y9]
 constructor
 ·rintro ⟨m,hm,e⟩
  rw [Yea,Yn] at hm
  have:m=n:=by omega
  rwa [this] at hm
 ·intro h
  exact ⟨n,by rw [Yea,Yn];exact h,rfl⟩
theorem Za0 (l:List Int) (x:Int) (hl:l.length≤1000):∀k,l.length<k→Z9c k l x=some (decide (x∈l)):=by
 intro k hk
 have run:=Zoh (fun j i=>Z9c.l0 j l x i) l (fun y=>y==x) (.inl ()) (fun _=>.inr true) (fun i hi=>by
  constructor
  ·intro hp j
   show Z9c.l0 (j+1) l x (i:Int)=Z9c.l0 j l x ((i+1:Nat):Int)
   rw [Z9c.l0,dlt hi,Zi hi,Zn (by omega)]
   simp only [cond_true,Ya,hp,cond_false]
  ·intro hp j
   show Z9c.l0 (j+1) l x (i:Int)=_
   rw [Z9c.l0,dlt hi,Zi hi]
   simp only [cond_true,Ya,hp]) (fun j=>by
  show Z9c.l0 (j+1) l x (l.length:Int)=_
  rw [Z9c.l0,Zy (Yc _)]
  rfl) hk
 have run:Z9c.l0 k l x 0=_:=run
 have ha:=Z5s (p:=fun y:Int=>y==x) (l:=l) (n:=0)
 unfold Z9c
 rw [run]
 cases hf:Zqb (fun y:Int=>y==x) l 0 with
 | some m=>
  rw [hf] at ha
  obtain ⟨y,hy,hy2⟩:=Y6.1 ha.symm
  have:y=x:=by simpa using hy2
  rw [decide_eq_true (this▸hy)]
  rfl
 | none=>
  rw [hf] at ha
  have:x∉l:=fun hx=>by
   have h2:(l.any fun y=>y==x)=true:=Y6.2 ⟨x,hx,by simp⟩
   rw [h2] at ha
   cases ha
  rw [decide_eq_false this]
  rfl
theorem Z7mb (op part steps slots moves:Int) (mem:Str) (v w:Nat) (hv:v<16777216) {k:Nat} (hk:100≤k):Zdf.l0 k k op part steps slots moves mem (Zb v) (Zb w) 0=some (if v &&& w=0 then .inl () else .inr false):=by
 have hl:=Z6c w
 have hl2:=Z6c v
 have h:=Z1y (fun j i=>Zdf.l0 k j op part steps slots moves mem (Zb v) (Zb w) (i:Int)) (Zb w).length (fun i=>!decide ((Zb w).getD i 0∈Zb v)) (fun _=>false) (fun i hi hp j=>?_) (fun i hi hp j=>?_) (fun j=>?_)
 ·have key:(Ym (Zb w).length).all (fun i=>!decide ((Zb w).getD i 0∈Zb v))=true ↔ v &&& w=0:=by
   rw [Yq]
   constructor
   ·intro h
    apply Nat.eq_of_testBit_eq
    intro n
    rw [Yua,Yxa]
    cases q1:v.testBit n with
    | false=>rfl
    | true=>
     cases q2:w.testBit n with
     | false=>rfl
     | true=>
      have hn:n<24:=by
       refine Nat.not_le.1 fun q=>?_
       have:v<2^n:=Nat.lt_of_lt_of_le hv (by have:=Yaa (n:=2) (by omega) q;simpa using this)
       rw [Nat.testBit_lt_two_pow this] at q1
       cases q1
      obtain ⟨i,hi,e⟩:=Y2.1 (Zwn.2 ⟨hn,q2⟩)
      have:=h i (Yn.2 hi)
      rw [List.getD_eq_getElem?_getD,List.getElem?_eq_getElem hi] at this
      have h3:¬((Zb w)[i]∈Zb v):=by simpa using this
      exact absurd (by rw [e];exact Zwn.2 ⟨hn,q1⟩) h3
   ·intro h i hi
    have hi:=Yn.1 hi
    rw [List.getD_eq_getElem?_getD,List.getElem?_eq_getElem hi]
    have:¬((Zb w)[i]∈Zb v):=fun hm=>by
     have hw:=Yl hi
     obtain ⟨n,hn,e⟩:=Y9.1 hw
     rw [← e] at hm hw
     have a:=(Zwn.1 hm).2
     have b:=(Zwn.1 hw).2
     have:=congrArg (Nat.testBit · n) h
     simp only [Yua,Yxa,a,b] at this
     cases this
    simpa using this
  rcases h with ⟨h1,h2⟩ | ⟨h1,i,_,_,h2⟩
  ·rw [if_pos (key.1 h1)]
   exact h2 k (by omega)
  ·rw [if_neg (fun q=>by rw [key.2 q] at h1;cases h1)]
   exact h2 k (by omega)
 ·have hp:(!decide ((Zb w).getD i 0∈Zb v))=true:=hp
  rw [List.getD_eq_getElem?_getD,List.getElem?_eq_getElem hi] at hp
  have hp:(!decide ((Zb w)[i]∈Zb v))=true:=hp
  conv=>lhs;unfold Zdf.l0
  rw [dlt hi,Zi hi,Zn (by omega)]
  simp only [cond_true,Ya]
  rw [Za0 _ _ (by omega) k (by omega)]
  rw [Yga] at hp
  rw [hp]
  rfl
 ·have hp:(!decide ((Zb w).getD i 0∈Zb v))=false:=hp
  rw [List.getD_eq_getElem?_getD,List.getElem?_eq_getElem hi] at hp
  have hp:(!decide ((Zb w)[i]∈Zb v))=false:=hp
  conv=>lhs;unfold Zdf.l0
  rw [dlt hi,Zi hi]
  simp only [cond_true,Ya]
  rw [Za0 _ _ (by omega) k (by omega)]
  rw [Yba] at hp
  rw [hp]
  rfl
 ·conv=>lhs;unfold Zdf.l0
  rw [Zy (Yc _)]
  rfl
theorem Zdob (op part steps slots moves:Int) (mem:Str) (v w:Nat) (hv:v<16777216) (hw:w<16777216) {k:Nat} (hk:100≤k):Zdf k (stT op part steps slots moves mem v w)=some (Zuh op part steps slots moves mem v w):=by
 have hl:=Z6c w
 have W:∀a b c:Int,Zfb a b c=some (decide (b≤a)&&decide (a≤c)):=fun _ _ _=>rfl
 have two:∀{a b:Prop} [Decidable a] [Decidable b],¬(a∧b)→(decide a&&decide b)=false:=fun {a b} _ _ h=>by
  rw [Yo,decide_eq_false_iff_not,decide_eq_false_iff_not]
  exact Classical.not_and_iff_not_or_not.1 h
 unfold Zdf stT
 dsimp only
 rw [W]
 simp only [Ya]
 unfold Zuh
 by_cases h1:(decide (1≤op)&&decide (op≤5))=true
 ·rw [h1]
  simp only [Yb,cond_false,Yf]
  refine Za (Zx5 v k (by omega)) ?_
  simp only [Yb,cond_false]
  refine Za (Zx5 w k (by omega)) ?_
  simp only [Yb,cond_false]
  refine Za (Z7mb op part steps slots moves mem v w hv hk) ?_
  by_cases h2:v &&& w=0
  ·rw [if_pos h2,decide_eq_true h2]
   dsimp only
   rw [Yf]
   by_cases h3:op=1
   ·rw [show (op==1)=true by simpa using h3,if_pos h3,cond_true]
    congr 1
    rw [Yx]
    simp only [Ye,beq_iff_eq,decide_eq_true_eq]
    constructor
    ·rintro ⟨⟨⟨⟨⟨a,b⟩,c⟩,d⟩,e⟩,f⟩
     exact ⟨a,b,c,d,e,by omega⟩
    ·rintro ⟨a,b,c,d,e,f⟩
     exact ⟨⟨⟨⟨⟨a,b⟩,c⟩,d⟩,e⟩,by omega⟩
   ·rw [show (op==1)=false by simpa using h3,if_neg h3,cond_false]
    refine Za (W steps 1 20) ?_
    by_cases c1:1≤steps∧steps≤20
    ·rw [decide_eq_true c1.1,decide_eq_true c1.2]
     simp only [Yd,Yb,cond_false]
     refine Za (W slots 0 4) ?_
     by_cases c2:0≤slots∧slots≤4
     ·rw [decide_eq_true c2.1,decide_eq_true c2.2,w64 (n:=steps+slots) (by omega) (by omega)]
      simp only [Yd,Yb,Yp]
      by_cases c3:((Zb w).length:Int)=steps+slots
      ·rw [show (((Zb w).length:Int) != steps+slots)=false by simpa using c3,Yp]
       by_cases c4:mem.length=32
       ·rw [show ((mem.length:Int) != 32)=false by simp;omega,cond_false]
        refine Za (W part 0 2) ?_
        by_cases c5:0≤part∧part≤2
        ·rw [decide_eq_true c5.1,decide_eq_true c5.2]
         simp only [Yd,cond_true]
         refine Za (W moves 0 40) ?_
         congr 1
         rw [Yx]
         simp only [Ye,Y5,beq_iff_eq,decide_eq_true_eq]
         exact ⟨fun q=>⟨c1,c2,c3,c4,c5,q.1.1,q.1.2,q.2⟩,fun q=>⟨⟨q.2.2.2.2.2.1,q.2.2.2.2.2.2.1⟩,q.2.2.2.2.2.2.2⟩⟩
        ·rw [two c5,decide_eq_false (fun q=>c5 q.2.2.2.2.1)]
         rfl
       ·rw [show ((mem.length:Int) != 32)=true by simp;omega,decide_eq_false (fun q=>c4 q.2.2.2.1)]
        rfl
      ·rw [show (((Zb w).length:Int) != steps+slots)=true by simpa using c3,decide_eq_false (fun q=>c3 q.2.2.1)]
       rfl
     ·rw [two c2,decide_eq_false (fun q=>c2 q.2.1)]
      rfl
    ·rw [two c1,decide_eq_false (fun q=>c1 q.1)]
     rfl
  ·rw [if_neg h2,decide_eq_false h2]
   rfl
 ·rw [Y3.2 h1]
  rfl
end Go.Proofs.Qz
namespace Go.Proofs.Qz
open Go
set_option linter.unusedVariables false
theorem Zgeb {s:Str} {r:Int×Int×Int×Int×Int×Int×Int×Str} {d:Nat} (h:stZ s=some (r,d)):∃a1 a2 a3 a4 a5 a6 a7,Got s 0 r.1 a1∧Got s a1 r.2.1 a2∧Got s a2 r.2.2.1 a3∧Got s a3 r.2.2.2.1 a4∧Got s a4 r.2.2.2.2.1 a5∧Got s a5 r.2.2.2.2.2.1 a6∧Got s a6 r.2.2.2.2.2.2.1 a7∧GotT s a7 r.2.2.2.2.2.2.2 d:=by
 unfold stZ at h
 obtain ⟨⟨n1,a1⟩,h1,h⟩:=Yj.1 h
 obtain ⟨⟨n2,a2⟩,h2,h⟩:=Yj.1 h
 obtain ⟨⟨n3,a3⟩,h3,h⟩:=Yj.1 h
 obtain ⟨⟨n4,a4⟩,h4,h⟩:=Yj.1 h
 obtain ⟨⟨n5,a5⟩,h5,h⟩:=Yj.1 h
 obtain ⟨⟨n6,a6⟩,h6,h⟩:=Yj.1 h
 obtain ⟨⟨n7,a7⟩,h7,h⟩:=Yj.1 h
 obtain ⟨⟨t,d'⟩,h8,h⟩:=Yya.1 h
 cases h
 exact ⟨a1,a2,a3,a4,a5,a6,a7,Zui h1,Zui h2,Zui h3,Zui h4,Zui h5,Zui h6,Zui h7,Zm6 h8⟩
def Z7d (r:Int×Int×Int×Int×Int×Int×Int×Str):Str:=Zm r.1++Zm r.2.1++Zm r.2.2.1++Zm r.2.2.2.1++Zm r.2.2.2.2.1++Zm r.2.2.2.2.2.1++Zm r.2.2.2.2.2.2.1++Z2b r.2.2.2.2.2.2.2
theorem Zyob {s:Str} {r:Int×Int×Int×Int×Int×Int×Int×Str} {d:Nat} (h:stZ s=some (r,d)):Z7d r=s ↔ d=s.length:=by
 obtain ⟨a1,a2,a3,a4,a5,a6,a7,g1,g2,g3,g4,g5,g6,g7,g8⟩:=Zgeb h
 have e0:s=Z7d r++s.drop d:=by
  have h1:=g1.eq
  rw [Ys,g2.eq,g3.eq,g4.eq,g5.eq,g6.eq,g7.eq,g8.eq] at h1
  unfold Z7d
  simp only [Yr]
  exact h1
 have hl:d=(Z7d r).length:=by
  have:=g1.at';have:=g2.at';have:=g3.at';have:=g4.at';have:=g5.at';have:=g6.at';have:=g7.at';have:=g8.at'
  unfold Z7d
  simp only [Yi]
  omega
 constructor
 ·intro h
  rw [hl,h]
 ·intro h
  rw [h,Yz,Yw] at e0
  exact e0.symm
def Z7n (s:Str):Option (Int×Int×Int×Int×Int×Str×Nat×Nat):=match stZ s with
 | some (r,d)=>if d=s.length∧(0≤r.2.2.2.2.2.1∧r.2.2.2.2.2.1<16777216)∧(0≤r.2.2.2.2.2.2.1∧r.2.2.2.2.2.2.1<16777216)∧Zuh r.1 r.2.1 r.2.2.1 r.2.2.2.1 r.2.2.2.2.1 r.2.2.2.2.2.2.2 r.2.2.2.2.2.1.toNat r.2.2.2.2.2.2.1.toNat=true
  then some (r.1,r.2.1,r.2.2.1,r.2.2.2.1,r.2.2.2.2.1,r.2.2.2.2.2.2.2,r.2.2.2.2.2.1.toNat,r.2.2.2.2.2.2.1.toNat) else none
 | none=>none
theorem Zbkb (s:Str) (hs:s.length≤8000):Ze fun k=>Zjp k s=some (match Z7n s with
  | some (a,b,c,d,e,m,v,w)=>(a,b,c,d,e,m,Zb v,Zb w,true)
  | none=>(0,0,0,0,0,[],[],[],false)):=by
 obtain ⟨v1,v2,v3,v4,v5,v6,v7,v8,hE,hc⟩:=Z0jb s hs
 refine (hE.and (Ze.ge 100 fun k hk=>hk)).mono fun k ⟨⟨q1,q2,q3,q4,q5,q6,q7,q8⟩,hk⟩=>?_
 unfold Zjp
 refine Za q1 (Za q2 (Za q3 (Za q4 (Za q5 (Za q6 (Za q7 (Za q8 ?_)))))))
 unfold Z7n
 rcases hc with ⟨d,hz,h8⟩ | ⟨hz,h8⟩
 ·rw [hz,h8]
  simp only [Yp]
  by_cases hd:d=s.length
  ·rw [show (((d:Nat):Int) != (s.length:Int))=false by rw [hd];simp,cond_false]
   have W:∀a b c:Int,Zhb a b c=some (decide (b≤a)&&decide (a≤c)):=fun _ _ _=>rfl
   refine Za (W _ _ _) ?_
   by_cases c6:0≤v6.1∧v6.1<16777216
   ·rw [decide_eq_true c6.1,decide_eq_true (by omega:v6.1≤16777215)]
    simp only [Yd,Yb,cond_false]
    refine Za (W _ _ _) ?_
    by_cases c7:0≤v7.1∧v7.1<16777216
    ·rw [decide_eq_true c7.1,decide_eq_true (by omega:v7.1≤16777215)]
     simp only [Yd,Yb,cond_false]
     have f6:=Zky v6.1.toNat (by omega) k (by omega)
     have f7:=Zky v7.1.toNat (by omega) k (by omega)
     rw [Yv c6.1] at f6
     rw [Yv c7.1] at f7
     refine Za f6 (Za f7 (Za (Zojb v1.1 v2.1 v3.1 v4.1 v5.1 v8.1 v6.1.toNat v7.1.toNat (by omega) (by omega) k (by omega)) ?_))
     cases hb:Zuh v1.1 v2.1 v3.1 v4.1 v5.1 v8.1 v6.1.toNat v7.1.toNat with
     | true=>
      rw [if_pos ⟨hd,c6,c7,rfl⟩]
      rfl
     | false=>
      rw [if_neg (fun q=>by cases q.2.2.2)]
      rfl
    ·rw [if_neg (fun q=>c7 q.2.2.1)]
     by_cases z:0≤v7.1
     ·rw [decide_eq_true z,decide_eq_false (by omega:¬v7.1≤16777215)];rfl
     ·rw [decide_eq_false z];rfl
   ·rw [if_neg (fun q=>c6 q.2.1)]
    by_cases z:0≤v6.1
    ·rw [decide_eq_true z,decide_eq_false (by omega:¬v6.1≤16777215)];rfl
    ·rw [decide_eq_false z];rfl
  ·rw [show (((d:Nat):Int) != (s.length:Int))=true by simp;omega,if_neg (fun q=>hd q.1)]
   rfl
 ·rw [hz,h8]
  rfl
theorem Z9bb {a b:Int} (ha:Num a) (hb:Num b) {x y:Str} (h:Zm a++x=Zm b++y):a=b:=by
 have h1:=Zgv a ha (Zm a++x) 0 x (by rw [Ys])
 have h2:=Zgv b hb (Zm a++x) 0 y (by rw [Ys,h])
 rw [h1] at h2
 injection h2
theorem Z4q:Zb 0=[]:=by decide
theorem Znt {n:Nat} (h:n<16777216):Num (n:Int):=⟨by omega,by omega⟩
theorem sL12 (op part steps slots moves:Int) (mem:Str) (v w:Nat) (h1:Num op) (h2:Num part) (h3:Num steps) (h4:Num slots) (h5:Num moves) (hv:v<16777216) (hw:w<16777216) (hm:mem.length≤8000):
  Ze fun k=>Zxl k (stT op part steps slots moves mem v w)=some (Z7d (op,part,steps,slots,moves,(v:Int),(w:Int),mem)):=by
 have l1:=Zgc op
 have l2:=Zgc part
 have l3:=Zgc steps
 have l4:=Zgc slots
 have l5:=Zgc moves
 have l6:=Zgc (v:Int)
 have l7:=Zgc (w:Int)
 have l8:=Zfj mem
 refine (((((((((Zwi op h1).and (Zwi part h2)).and (Zwi steps h3)).and (Zwi slots h4)).and (Zwi moves h5)).and (Zwi (v:Int) (Znt hv))).and (Zwi (w:Int) (Znt hw))).and (Zf0 mem hm)).and (Ze.ge 100 fun k hk=>hk)).mono fun k ⟨⟨⟨⟨⟨⟨⟨⟨q1,q2⟩,q3⟩,q4⟩,q5⟩,q6⟩,q7⟩,q8⟩,hk⟩=>?_
 unfold Zxl stT
 refine Za q1 (Za q2 (Za (Ztc (by omega)) (Za q3 (Za (Ztc (by simp;omega)) (Za q4 (Za (Ztc (by simp;omega)) (Za q5 (Za (Ztc (by simp;omega)) ?_))))))))
 refine Za (Z7z v hv k (by omega)) (Za q6 (Za (Ztc (by simp;omega)) (Za (Z7z w hw k (by omega)) (Za q7 (Za (Ztc (by simp;omega)) (Za q8 (Za (Ztc (by simp;omega)) rfl)))))))
theorem Zbob (op part steps slots moves:Int) (mem:Str) (v w:Nat) (h1:Num op) (h2:Num part) (h3:Num steps) (h4:Num slots) (h5:Num moves) (hv:v<16777216) (hw:w<16777216) (hm:mem.length≤8000):
  Ze fun k=>Zjq k (stT op part steps slots moves mem v w)=some (if Zuh op part steps slots moves mem v w=true then Z7d (op,part,steps,slots,moves,(v:Int),(w:Int),mem) else []):=by
 refine ((sL12 op part steps slots moves mem v w h1 h2 h3 h4 h5 hv hw hm).and (Ze.ge 100 fun k hk=>hk)).mono fun k ⟨q,hk⟩=>?_
 unfold Zjq
 refine Za (Zdob op part steps slots moves mem v w hv hw hk) ?_
 cases Zuh op part steps slots moves mem v w with
 | true=>
  simp only [Yb,cond_false,if_true]
  exact Za q rfl
 | false=>rfl
def Zei (n:Int):Nat:=if 0≤n∧n<16777216 then n.toNat else 0
theorem Zts (n:Int):Zei n<16777216:=by unfold Zei;split <;> omega
theorem Z9z (n:Int) {k:Nat} (hk:24<k):Zdd k n=some (Zb (Zei n)):=by
 unfold Zei
 by_cases h:0≤n∧n<16777216
 ·rw [if_pos h]
  have:=Zidb n.toNat (by omega) k hk
  rwa [Yv h.1] at this
 ·rw [if_neg h,Zqnb n (by omega) k,Z4q]
theorem Zxob {r:Int×Int×Int×Int×Int×Int×Int×Str} {a b:Int} {z:Str} (h6:Num r.2.2.2.2.2.1) (h7:Num r.2.2.2.2.2.2.1) (ha:Num a) (hb:Num b) (h:Z7d (r.1,r.2.1,r.2.2.1,r.2.2.2.1,r.2.2.2.2.1,a,b,r.2.2.2.2.2.2.2)=Z7d r++z):a=r.2.2.2.2.2.1∧b=r.2.2.2.2.2.2.1:=by
 unfold Z7d at h
 simp only [Yr,Yha] at h
 have e1:=Z9bb ha h6 h
 rw [e1] at h
 simp only [Yha] at h
 exact ⟨e1,Z9bb hb h7 h⟩
theorem Zcob (s:Str) (hs:s.length≤8000):Ze fun k=>Z6n k s=some (match Z7n s with
  | some (a,b,c,d,e,m,v,w)=>(a,b,c,d,e,m,Zb v,Zb w,0)
  | none=>(0,0,0,0,0,[],[],[],3)):=by
 obtain ⟨v1,v2,v3,v4,v5,v6,v7,v8,hE,hc⟩:=Z1nb s hs
 unfold Z7n
 rcases hc with ⟨d,hz,h8⟩ | ⟨hz,h8⟩
 ·obtain ⟨a1,a2,a3,a4,a5,a6,a7,g1,g2,g3,g4,g5,g6,g7,g8⟩:=Zgeb hz
  have hb:=Zbob v1.1 v2.1 v3.1 v4.1 v5.1 v8.1 (Zei v6.1) (Zei v7.1) g1.range g2.range g3.range g4.range g5.range (Zts _) (Zts _) g8.size
  refine ((hE.and hb).and (Ze.ge 100 fun k hk=>hk)).mono fun k ⟨⟨⟨q1,q2,q3,q4,q5,q6,q7,q8⟩,hb⟩,hk⟩=>?_
  unfold Z6n
  rw [decide_eq_false (by omega:¬(8000:Int)<(s.length:Int)),cond_false]
  refine Za q1 (Za q2 (Za q3 (Za q4 (Za q5 (Za q6 (Za (Z9z v6.1 (by omega)) (Za q7 (Za (Z9z v7.1 (by omega)) (Za q8 ?_)))))))))
  rw [h8]
  simp only [cond_false]
  refine Za hb ?_
  rw [hz,Z3q]
  dsimp only
  have hw:=Zyob hz
  have hpos:1≤s.length:=by
   have p1:=g1.le
   have p2:=Ze5 v1.1
   have p3:=g1.at'
   dsimp only at p1 p2 p3
   omega
  by_cases c:(0≤v6.1∧v6.1<16777216)∧(0≤v7.1∧v7.1<16777216)
  ·have e6:Zei v6.1=v6.1.toNat:=by unfold Zei;rw [if_pos c.1]
   have e7:Zei v7.1=v7.1.toNat:=by unfold Zei;rw [if_pos c.2]
   rw [e6,e7,Yv c.1.1,Yv c.2.1]
   cases hB:Zuh v1.1 v2.1 v3.1 v4.1 v5.1 v8.1 v6.1.toNat v7.1.toNat with
   | true=>
    rw [if_pos rfl]
    by_cases hd:d=s.length
    ·rw [decide_eq_true (hw.2 hd),if_pos ⟨hd,c.1,c.2,rfl⟩]
     rfl
    ·rw [decide_eq_false (fun q=>hd (hw.1 q)),if_neg (fun q=>hd q.1)]
     rfl
   | false=>
    rw [if_neg (by simp),if_neg (fun q=>by cases q.2.2.2),decide_eq_false (fun q=>by rw [← q] at hpos;simp at hpos)]
    rfl
  ·have hne:¬((if Zuh v1.1 v2.1 v3.1 v4.1 v5.1 v8.1 (Zei v6.1) (Zei v7.1)=true then Z7d (v1.1,v2.1,v3.1,v4.1,v5.1,((Zei v6.1:Nat):Int),((Zei v7.1:Nat):Int),v8.1) else [])=s):=by
    intro q
    split at q
    ·have e0:s=Z7d (v1.1,v2.1,v3.1,v4.1,v5.1,v6.1,v7.1,v8.1)++s.drop d:=by
      have h1:=g1.eq
      rw [Ys,g2.eq,g3.eq,g4.eq,g5.eq,g6.eq,g7.eq,g8.eq] at h1
      unfold Z7d
      simp only [Yr]
      exact h1
     have:=Zxob (r:=(v1.1,v2.1,v3.1,v4.1,v5.1,v6.1,v7.1,v8.1)) (z:=s.drop d) g6.range g7.range (Znt (Zts v6.1)) (Znt (Zts v7.1)) (q.trans e0)
     have b6:=Zts v6.1
     have b7:=Zts v7.1
     obtain ⟨e6,e7⟩:=this
     have e6:((Zei v6.1:Nat):Int)=v6.1:=e6
     have e7:((Zei v7.1:Nat):Int)=v7.1:=e7
     omega
    ·rw [← q] at hpos
     simp at hpos
   rw [decide_eq_false hne,if_neg (fun q=>c ⟨q.2.1,q.2.2.1⟩)]
   rfl
 ·refine (hE.and (Ze.ge 100 fun k hk=>hk)).mono fun k ⟨⟨q1,q2,q3,q4,q5,q6,q7,q8⟩,hk⟩=>?_
  unfold Z6n
  rw [decide_eq_false (by omega:¬(8000:Int)<(s.length:Int)),cond_false]
  refine Za q1 (Za q2 (Za q3 (Za q4 (Za q5 (Za q6 (Za (Z9z v6.1 (by omega)) (Za q7 (Za (Z9z v7.1 (by omega)) (Za q8 ?_)))))))))
  rw [h8,hz]
  rfl
end Go.Proofs.Qz
namespace Go.Proofs.Qz
open Go
set_option linter.unusedVariables false
abbrev StV:=Int×Int×Int×Int×Int×Str×Nat×Nat
def stM (m:Zq):Option StV:=if (1≤m.1∧m.1≤8)∧Z5f m.2=true∧(m.2.1.length:Int)=m.1+27 then (if (Zlb m.2).2.2.1=0 then Z7n (Zlb m.2).2.1 else none) else none
theorem Zgbb (f:Z9):(Zlb f).2.1.length≤80:=by
 unfold Zlb
 split
 ·exact Zibb _
 ·split
  ·exact Zibb _
  ·simp
theorem Zfbb (f:Z9):(Zlb f).2.2.2<0 ↔ (Zlb f).2.2.1≠0:=by
 unfold Zlb
 split
 ·rename_i h
  simp [h.1]
 ·split
  ·rename_i h
   simp [h]
  ·simp
def Zyr:Option StV→Int×Int×Int×Int×Int×Str×List Int×List Int×Bool
 | some (a,b,c,d,e,m,v,w)=>(a,b,c,d,e,m,Zb v,Zb w,true)
 | none=>(0,0,0,0,0,[],[],[],false)
theorem Zqy (m:Zq) (hl:m.2.1.length≤1048576) (hl2:m.2.2.length≤1048576):Ze fun k=>Znh k m=some (Zyr (stM m)):=by
 have hb:Z3j m.1=some (decide (1≤m.1)&&decide (m.1≤8)):=rfl
 unfold stM
 by_cases c1:1≤m.1∧m.1≤8
 ·cases c2:Z5f m.2 with
  | false=>
   refine (Ze.ge 1048577 fun k hk=>hk).mono fun k hk=>?_
   unfold Znh
   refine Za hb ?_
   rw [decide_eq_true c1.1,decide_eq_true c1.2]
   refine Za (Zh3 m.2 hl hl2 hk) ?_
   rw [c2,if_neg (fun q=>by cases q.2.1)]
   rfl
  | true=>
   have hz:Zji m.2.1=some (m.2.1.length:Int):=rfl
   have hw:Yk .i64 ((Yk .i64 (3+m.1))+24)=m.1+27:=by rw [w64 (n:=3+m.1) (by omega) (by omega),w64 (by omega) (by omega)];omega
   by_cases c3:(m.2.1.length:Int)=m.1+27
   ·refine (((Zl3 c2 (by omega)).and (Zbkb (Zlb m.2).2.1 (by have:=Zgbb m.2;omega))).and (Ze.ge 1048577 fun k hk=>hk)).mono fun k ⟨⟨h1,h2⟩,hk⟩=>?_
    unfold Znh
    refine Za hb ?_
    rw [decide_eq_true c1.1,decide_eq_true c1.2]
    refine Za (Zh3 m.2 hl hl2 hk) ?_
    rw [c2,Yb,cond_false]
    refine Za hz ?_
    rw [hw,show ((m.2.1.length:Int) != m.1+27)=false by simpa using c3,if_pos ⟨c1,rfl,c3⟩]
    refine Za h1 ?_
    by_cases c4:(Zlb m.2).2.2.1=0
    ·rw [if_pos c4,decide_eq_false (fun q=>(Zfbb m.2).1 q c4)]
     refine Za h2 ?_
     cases Z7n (Zlb m.2).2.1 <;> rfl
    ·rw [if_neg c4,decide_eq_true ((Zfbb m.2).2 c4)]
     rfl
   ·refine (Ze.ge 1048577 fun k hk=>hk).mono fun k hk=>?_
    unfold Znh
    refine Za hb ?_
    rw [decide_eq_true c1.1,decide_eq_true c1.2]
    refine Za (Zh3 m.2 hl hl2 hk) ?_
    rw [c2,Yb,cond_false]
    refine Za hz ?_
    rw [hw,show ((m.2.1.length:Int) != m.1+27)=true by simpa using c3,if_neg (fun q=>c3 q.2.2)]
    rfl
 ·refine Ze.of fun k=>?_
  unfold Znh
  refine Za hb ?_
  have:(decide (1≤m.1)&&decide (m.1≤8))=false:=by
   rw [Yo,decide_eq_false_iff_not,decide_eq_false_iff_not]
   exact Classical.not_and_iff_not_or_not.1 c1
  rw [this,if_neg (fun q=>c1 q.1)]
  rfl
theorem Z15 (m:Zq) (hl:m.2.1.length≤1048576) (hl2:m.2.2.length≤1048576):Ze fun k=>Zyi k m=some (Zyr (stM m)):=by
 have hb:Zfb m.1 1 8=some (decide (1≤m.1)&&decide (m.1≤8)):=rfl
 unfold stM
 by_cases c1:1≤m.1∧m.1≤8
 ·cases c2:Z5f m.2 with
  | false=>
   refine (Ze.ge 1048577 fun k hk=>hk).mono fun k hk=>?_
   unfold Zyi
   refine Za hb ?_
   rw [decide_eq_true c1.1,decide_eq_true c1.2]
   refine Za (Z8z m.2 hl hl2 hk) ?_
   rw [c2,if_neg (fun q=>by cases q.2.1)]
   rfl
  | true=>
   have hw:Yk .i64 ((Yk .i64 (3+m.1))+24)=m.1+27:=by rw [w64 (n:=3+m.1) (by omega) (by omega),w64 (by omega) (by omega)];omega
   by_cases c3:(m.2.1.length:Int)=m.1+27
   ·refine (((Zd0 c2 (by omega)).and (Zcob (Zlb m.2).2.1 (by have:=Zgbb m.2;omega))).and (Ze.ge 1048577 fun k hk=>hk)).mono fun k ⟨⟨h1,h2⟩,hk⟩=>?_
    unfold Zyi
    refine Za hb ?_
    rw [decide_eq_true c1.1,decide_eq_true c1.2]
    refine Za (Z8z m.2 hl hl2 hk) ?_
    rw [c2,hw,show ((m.2.1.length:Int) != m.1+27)=false by simpa using c3,if_pos ⟨c1,rfl,c3⟩]
    refine Za h1 ?_
    by_cases c4:(Zlb m.2).2.2.1=0
    ·rw [if_pos c4,show ((Zlb m.2).2.2.1 != 0)=false by simpa using c4]
     refine Za h2 ?_
     cases Z7n (Zlb m.2).2.1 <;> rfl
    ·rw [if_neg c4,show ((Zlb m.2).2.2.1 != 0)=true by simpa using c4]
     rfl
   ·refine (Ze.ge 1048577 fun k hk=>hk).mono fun k hk=>?_
    unfold Zyi
    refine Za hb ?_
    rw [decide_eq_true c1.1,decide_eq_true c1.2]
    refine Za (Z8z m.2 hl hl2 hk) ?_
    rw [c2,hw,show ((m.2.1.length:Int) != m.1+27)=true by simpa using c3,if_neg (fun q=>c3 q.2.2)]
    rfl
 ·refine Ze.of fun k=>?_
  unfold Zyi
  refine Za hb ?_
  have:(decide (1≤m.1)&&decide (m.1≤8))=false:=by
   rw [Yo,decide_eq_false_iff_not,decide_eq_false_iff_not]
   exact Classical.not_and_iff_not_or_not.1 c1
  rw [this,if_neg (fun q=>c1 q.1)]
  rfl
end Go.Proofs.Qz
namespace Go.Proofs.Qz
open Go
set_option linter.unusedVariables false
def Zwb (m:Zq):List Str:=(Ym m.1.toNat).map fun (i:Nat)=>Zz m.2 (3+(i:Int))
theorem Zccb {α:Type} (f:Nat→α) (i:Nat):(Ym (i+1)).map f=(Ym i).map f++[f i]:=by
 rw [Yna,List.map_append]
 rfl
theorem Zg3 {m:Zq} (h1:0≤m.1∧m.1≤8) (hl:m.1+3≤(m.2.1.length:Int)) (hl2:m.2.2.length≤1048576) {k:Nat} (hk:1048577≤k):Zud k m=some (Zwb m):=by
 have h:=Zrb (fun j i=>Zud.l0 k j m.1 m.2.1 m.2.2 m.1 (i:Int) ((Ym i).map fun (i:Nat)=>Zz m.2 (3+(i:Int)))) m.1.toNat (Zwb m) (fun i hi j=>?_) (fun j=>?_) k (by omega)
 ·have h:Zud.l0 k k m.1 m.2.1 m.2.2 m.1 0 []=some (Zwb m):=h
  unfold Zud
  exact Za h rfl
 ·have r:Z6f k (m.2.1,m.2.2) (3+(i:Int))=some (Zz m.2 (3+(i:Int))):=Zvo m.2 _ hl2 (by omega) (by omega) (by omega)
  conv=>lhs;unfold Zud.l0
  rw [decide_eq_true (by omega:(i:Int)<m.1),w64 (n:=3+(i:Int)) (by omega) (by omega),Zn (by omega),cond_true]
  refine Za r (Za (Z3 (by simp;omega)) ?_)
  rw [Zccb]
 ·conv=>lhs;unfold Zud.l0
  rw [decide_eq_false (by omega:¬((m.1.toNat:Nat):Int)<m.1)]
  rfl
theorem Zu5 {m:Zq} (h1:0≤m.1∧m.1≤8) (hl:m.1+3≤(m.2.1.length:Int)) (hl2:m.2.2.length≤1048576) {k:Nat} (hk:1048577≤k):Z6d k m=some (Zwb m):=by
 have h:=Zrb (fun j i=>Z6d.l0 k j m.1 m.2.1 m.2.2 (i:Int) ((Ym i).map fun (i:Nat)=>Zz m.2 (3+(i:Int)))) m.1.toNat (Zwb m) (fun i hi j=>?_) (fun j=>?_) k (by omega)
 ·have h:Z6d.l0 k k m.1 m.2.1 m.2.2 0 []=some (Zwb m):=h
  unfold Z6d
  exact Za h rfl
 ·have r:Zsb k (m.2.1,m.2.2) (3+(i:Int))=some (Zz m.2 (3+(i:Int))):=Z2n m.2 _ hl2 (by omega) (by omega) (by omega)
  conv=>lhs;unfold Z6d.l0
  rw [decide_eq_true (by omega:(i:Int)<m.1),w64 (n:=3+(i:Int)) (by omega) (by omega),Zn (by omega),cond_true]
  refine Za r (Za (Z3 (by simp;omega)) ?_)
  rw [Zccb]
 ·conv=>lhs;unfold Z6d.l0
  rw [decide_eq_false (by omega:¬((m.1.toNat:Nat):Int)<m.1)]
  rfl
end Go.Proofs.Qz
namespace Go.Proofs.Qz
open Go
set_option linter.unusedVariables false
theorem Zveb (t:Str) (h:t.length≤8000) (s:Str) (a:Nat) (r:Str) (hs:s.drop a=Z2b t++r):Zkh s a=(t,((a+(Z2b t).length:Nat):Int),0):=by
 unfold Z2b at hs
 rw [Yr] at hs
 have e:=Zgv (t.length:Int) ⟨by omega,by omega⟩ s a (t++r) hs
 have hlen:=congrArg Yda hs
 rw [Yja,Yi,Yi] at hlen
 have hp:=Ze5 (t.length:Int)
 unfold Zkh
 rw [e]
 simp only [if_true]
 rw [if_pos ⟨by omega,by omega⟩,if_neg (by omega)]
 have e1:(((a+(Zm (t.length:Int)).length:Nat):Int)+(t.length:Int)).toNat=a+(Zm (t.length:Int)).length+t.length:=by omega
 rw [e1,Yg,List.drop_take,Nat.add_sub_cancel_left,← Y7,hs,Y8,List.take_left]
 unfold Z2b
 rw [Yi]
 congr 2
 push_cast
 omega
theorem Zx4 (n:Int) (h:Num n) (s:Str) (a:Nat) (t:Str) (hs:s.drop a=Zm n++t):Zib s a=(n,s,((a+(Zm n).length:Nat):Int),false):=by
 unfold Zib
 rw [Zgv n h s a t hs]
 rfl
theorem Zcmb (x y z:Int) (t:Str) (hx:Num x) (hy:Num y) (hz:Num z) (ht:t.length≤8000):Zgj (Zm x++Zm y++Zm z++Z2b t)=some (x,y,z,t,(Zm x++Zm y++Zm z++Z2b t).length):=by
 generalize hs:Zm x++Zm y++Zm z++Z2b t=s
 have d0:s.drop 0=Zm x++(Zm y++Zm z++Z2b t):=by rw [← hs];simp
 have n1:=Zx4 x hx s 0 _ d0
 rw [Ywa] at n1
 have d1:s.drop (Zm x).length=Zm y++(Zm z++Z2b t):=by rw [← hs];simp
 have n2:=Zx4 y hy s _ _ d1
 have d2:s.drop ((Zm x).length+(Zm y).length)=Zm z++Z2b t:=by rw [← hs,← Yi];simp
 have n3:=Zx4 z hz s _ _ d2
 have d3:s.drop ((Zm x).length+(Zm y).length+(Zm z).length)=Z2b t++[]:=by rw [← hs,← Yi,← Yi];simp
 have n4:=Zveb t ht s _ _ d3
 have n4':Zzf s ((Zm x).length+(Zm y).length+(Zm z).length)=(t,s,(((Zm x).length+(Zm y).length+(Zm z).length+(Z2b t).length:Nat):Int),false):=by
  unfold Zzf
  rw [n4]
  rfl
 have hl:s.length=(Zm x).length+(Zm y).length+(Zm z).length+(Z2b t).length:=by rw [← hs];simp only [Yi]
 unfold Zgj
 rw [n1]
 simp only [Yg,Y4,if_false]
 rw [n2]
 simp only [Yg,Y4,if_false]
 rw [n3]
 simp only [Yg,Y4,if_false]
 rw [n4']
 simp only [Yg,Y4,if_false]
 rw [hl]
end Go.Proofs.Qz
namespace Go.Proofs.Qz
open Go
set_option linter.unusedVariables false
def Z7k (s:Str) (a:Nat):Option ((Int×Int×Int×Str)×Nat):=
 (Zob s a).bind fun x=>
 (Zob s x.2).bind fun y=>
 (Zob s y.2).bind fun z=>
 (Zqg s z.2).map fun t=>((x.1,y.1,z.1,t.1),t.2)
def Zgk (x y z:Int) (t:Str):Str:=Zm x++Zm y++Zm z++Z2b t
theorem Z1ob {s:Str} {a:Nat} {x y z:Int} {t:Str} {d:Nat} (h:Z7k s a=some ((x,y,z,t),d)):∃b c e,Got s a x b∧Got s b y c∧Got s c z e∧GotT s e t d:=by
 unfold Z7k at h
 obtain ⟨⟨n1,a1⟩,h1,h⟩:=Yj.1 h
 obtain ⟨⟨n2,a2⟩,h2,h⟩:=Yj.1 h
 obtain ⟨⟨n3,a3⟩,h3,h⟩:=Yj.1 h
 obtain ⟨⟨t',d'⟩,h8,h⟩:=Yya.1 h
 cases h
 exact ⟨a1,a2,a3,Zui h1,Zui h2,Zui h3,Zm6 h8⟩
theorem Zjeb {s:Str} {a:Nat} {x y z:Int} {t:Str} {d:Nat} (h:Z7k s a=some ((x,y,z,t),d)):s.drop a=Zgk x y z t++s.drop d∧d=a+(Zgk x y z t).length∧Num x∧Num y∧Num z∧t.length≤8000∧d≤s.length:=by
 obtain ⟨b,c,e,g1,g2,g3,g4⟩:=Z1ob h
 refine ⟨?_,?_,g1.range,g2.range,g3.range,g4.size,g4.le⟩
 ·have h1:=g1.eq
  rw [g2.eq,g3.eq,g4.eq] at h1
  unfold Zgk
  simp only [Yr]
  exact h1
 ·have:=g1.at';have:=g2.at';have:=g3.at';have:=g4.at'
  unfold Zgk
  simp only [Yi]
  omega
theorem Zw4 {s:Str} {a:Nat} {n:Int} (h:Num n) {t:Str} (hs:s.drop a=Zm n++t):Zob s a=some (n,a+(Zm n).length):=by
 unfold Zob
 rw [Zgv n h s a t hs]
 rfl
theorem Zcpb {s:Str} {a:Nat} {x:Str} (h:x.length≤8000) {t:Str} (hs:s.drop a=Z2b x++t):Zqg s a=some (x,a+(Z2b x).length):=by
 unfold Zqg
 rw [Zveb x h s a t hs]
 rfl
theorem Zww (s:Str) (a:Nat) (ha:a≤s.length) (x y z:Int) (t:Str):Zoi (s.drop a)=some (x,y,z,t) ↔ Z7k s a=some ((x,y,z,t),s.length)∧Zed x y z t 8=true:=by
 constructor
 ·intro h
  have hr:=Z0ob h
  unfold Zoi at h
  cases hq:Zgj (s.drop a) with
  | none=>rw [hq] at h;cases h
  | some q=>
   obtain ⟨x',y',z',t',d⟩:=q
   rw [hq] at h
   dsimp only at h
   split at h
   ·rename_i hc
    cases h
    obtain ⟨b,c,e,g1,g2,g3,g4⟩:=Zbcb hq
    have hb:Zgk x y z t=s.drop a:=(Ze3 g1 g2 g3 g4).2 hc.1
    refine ⟨?_,hr⟩
    have e0:s.drop a=Zm x++(Zm y++(Zm z++(Z2b t++[]))):=by
     rw [← hb]
     unfold Zgk
     simp only [Yr,Yw]
    have n1:=Zw4 g1.range e0
    have e1:s.drop (a+(Zm x).length)=Zm y++(Zm z++(Z2b t++[])):=by rw [← Y7,e0,Y8]
    have n2:=Zw4 g2.range e1
    have e2:s.drop (a+(Zm x).length+(Zm y).length)=Zm z++(Z2b t++[]):=by rw [← Y7,e1,Y8]
    have n3:=Zw4 g3.range e2
    have e3:s.drop (a+(Zm x).length+(Zm y).length+(Zm z).length)=Z2b t++[]:=by rw [← Y7,e2,Y8]
    have n4:=Zcpb g4.size e3
    have hl:=congrArg Yda e0
    simp only [Yja,Yi,List.length_nil] at hl
    unfold Z7k
    simp only [n1,n2,n3,n4,Ya,Option.map_some]
    congr 2
    omega
   ·cases h
 ·rintro ⟨h,hr⟩
  obtain ⟨h1,h2,n1,n2,n3,n4,_⟩:=Zjeb h
  rw [Yz,Yw] at h1
  unfold Zoi
  rw [h1]
  have:=Zcmb x y z t n1 n2 n3 n4
  unfold Zgk
  rw [this]
  dsimp only
  rw [if_pos ⟨rfl,hr⟩]
end Go.Proofs.Qz
namespace Go.Proofs.Qz
open Go
set_option linter.unusedVariables false
def Z8f (s:Str) (i:Int):Int×Int×Int×Str×Int:=
 if (Zwc s).2=0 then match Zob (Zl s) 0 with
  | some (n,a)=>match Zoi ((Zl s).drop a) with
   | some (x,y,z,t)=>if 0≤n∧n≤1000000 then (if n=i then (x,y,z,t,0) else (0,0,0,[],6)) else (0,0,0,[],3)
   | none=>(0,0,0,[],3)
  | none=>(0,0,0,[],3)
 else (0,0,0,[],(Zwc s).2)
theorem sL06 (x y z:Int) (t:Str) (hx:Num x) (hy:Num y) (hz:Num z) (ht:t.length≤8000):Ze fun k=>Zwl k (x,(y,(z,t)))=some (Zgk x y z t):=by
 have l1:=Zgc x
 have l2:=Zgc y
 have l3:=Zgc z
 have l4:=Zfj t
 refine (Zacb x y z t hx hy hz ht).mono fun k ⟨h1,h2,h3,h4⟩=>?_
 unfold Zwl
 exact Za h1 (Za h2 (Za (Ztc (by omega)) (Za h3 (Za (Ztc (by simp;omega)) (Za h4 (Za (Ztc (by simp;omega)) rfl))))))
theorem Zrdb (n x y z:Int) (t:Str) (hn:Num n) (hx:Num x) (hy:Num y) (hz:Num z) (ht:t.length≤8) (hr:Zed x y z t 8=true):Ze fun k=>Z0k k n (x,(y,(z,t)))=some (if 0≤n∧n≤1000000 then Zyg (Zm n++Zgk x y z t) else []):=by
 have W:Zfb n 0 1000000=some (decide (0≤n)&&decide (n≤1000000)):=rfl
 have l0:=Zgc n
 have l1:=Zgc x
 have l2:=Zgc y
 have l3:=Zgc z
 have l4:=Zfj t
 have lX:(Zgk x y z t).length≤60:=by unfold Zgk;simp only [Yi];omega
 by_cases c:0≤n∧n≤1000000
 ·refine (((Zwi n hn).and (sL06 x y z t hx hy hz (by omega))).and (Z05 (Zm n++Zgk x y z t) (by simp;omega))).mono fun k ⟨⟨h1,h2⟩,h3⟩=>?_
  unfold Z0k
  refine Za W ?_
  rw [decide_eq_true c.1,decide_eq_true c.2,if_pos c]
  simp only [Yd,Yb,cond_false]
  refine Za (Zg0 x y z t 8 (by omega) (by omega)) ?_
  rw [hr]
  simp only [Yb,cond_false]
  exact Za h1 (Za h2 (Za (Ztc (by omega)) (Za h3 rfl)))
 ·refine Ze.of fun k=>?_
  unfold Z0k
  refine Za W ?_
  have:(decide (0≤n)&&decide (n≤1000000))=false:=by
   rw [Yo,decide_eq_false_iff_not,decide_eq_false_iff_not]
   exact Classical.not_and_iff_not_or_not.1 c
  rw [this,if_neg c]
  rfl
theorem Z3nb (s:Str) (hs:s.length≤8000) (i:Int):Ze fun k=>Z1k k s i=some (Z8f s i):=by
 unfold Z8f
 by_cases hu:(Zwc s).2=0
 ·obtain ⟨e1,e2,e3⟩:=Zbu hu
  have hbl:(Zl s).length≤8000:=by rw [Z7q];omega
  rw [if_pos hu]
  cases hn:Zob (Zl s) 0 with
  | none=>
   have h0:StS (Zl s) (Zl s,((0:Nat):Int),false) (some 0):=⟨rfl,0,rfl,by omega,rfl,rfl⟩
   obtain ⟨v4,q4,h4,_⟩:=Zwm hbl h0
   rw [show Zd (Zl s) (some 0)=none by simp [Zd,hn]] at h4
   rcases h4.form with ⟨a,e,_,_⟩ | ⟨a,_,ha,e⟩
   ·cases e
   have hv:Zib (Zl s) 0=(0,Zl s,((0:Nat):Int),true):=by
    unfold Zob at hn
    unfold Zib
    split at hn
    ·cases hn
    ·rename_i h
     rw [if_neg h]
   have hv0:=Z6t (Zl s) 0 (by omega) hbl
   refine (((Zsl s hs).and hv0).and (Z25 (Zl s) hbl)).mono fun k ⟨⟨u,q4⟩,q6⟩=>?_
   have q4:Zcc k (Zl s,(0,false))=some (Zib (Zl s) 0):=q4
   unfold Z1k
   refine Za u ?_
   rw [hu,e1]
   refine Za q4 ?_
   rw [hv]
   have hc:Z9b (Zl s) ((0:Nat):Int) ((Zl s).length:Int)=some (Zl s):=by
    have:=Z0h (l:=Zl s) (i:=0) (j:=(Zl s).length) (by omega) (Yc _)
    rw [Yt] at this
    exact this
   refine Za hc (Za q6 ?_)
   rfl
  | some w=>
   obtain ⟨n,a⟩:=w
   have g:=Zui hn
   have hla:=g.le
   have hv:Zib (Zl s) 0=(n,Zl s,((a:Nat):Int),false):=by
    unfold Zob at hn
    unfold Zib
    split at hn
    ·rename_i h
     rcases Zwk (Zl s) 0 with ⟨n',a',e,g'⟩ | ⟨c,hc,e⟩
     ·rw [e] at hn ⊢
      cases hn
      rfl
     ·rw [e] at h;exact absurd h hc
    ·cases hn
   have hdl:((Zl s).drop a).length≤8000:=by simp;omega
   have hc:Z9b (Zl s) ((a:Nat):Int) ((Zl s).length:Int)=some ((Zl s).drop a):=by
    have:=Z0h (l:=Zl s) (i:=a) (j:=(Zl s).length) hla (Yc _)
    rw [Yt] at this
    exact this
   have hv0:=Z6t (Zl s) 0 (by omega) hbl
   dsimp only
   cases hst:Zoi ((Zl s).drop a) with
   | none=>
    refine (((Zsl s hs).and hv0).and (Z25 ((Zl s).drop a) hdl)).mono fun k ⟨⟨u,q4⟩,q6⟩=>?_
    have q4:Zcc k (Zl s,(0,false))=some (Zib (Zl s) 0):=q4
    rw [hst] at q6
    have q6:Zvl k ((Zl s).drop a)=some (0,0,0,[],3):=q6
    unfold Z1k
    refine Za u ?_
    rw [hu,e1]
    refine Za q4 ?_
    rw [hv]
    refine Za hc (Za q6 ?_)
    rfl
   | some st=>
    obtain ⟨x,y,z,t⟩:=st
    obtain ⟨hs1,hr⟩:=(Zww (Zl s) a hla x y z t).1 hst
    obtain ⟨b1,b2,nx,ny,nz,nt,_⟩:=Zjeb hs1
    rw [Yz,Yw] at b1
    have hwhole:Zm n++Zgk x y z t=Zl s:=by
     have:=g.eq
     rw [Ys,b1] at this
     exact this.symm
    refine ((((Zsl s hs).and hv0).and (Z25 ((Zl s).drop a) hdl)).and (Zrdb n x y z t g.range nx ny nz (Zvw hr) hr)).mono fun k ⟨⟨⟨u,q4⟩,q6⟩,q7⟩=>?_
    have q4:Zcc k (Zl s,(0,false))=some (Zib (Zl s) 0):=q4
    rw [hst] at q6
    have q6:Zvl k ((Zl s).drop a)=some (x,y,z,t,0):=q6
    unfold Z1k
    refine Za u ?_
    rw [hu,e1]
    refine Za q4 ?_
    rw [hv]
    refine Za hc (Za q6 ?_)
    rw [show (false||((0:Int) != 0))=false from rfl,cond_false]
    refine Za q7 ?_
    rw [hwhole,e2,Z3q]
    dsimp only
    by_cases c:0≤n∧n≤1000000
    ·rw [if_pos c,if_pos c,decide_eq_true rfl]
     simp only [Yb,cond_false]
     by_cases ci:n=i
     ·rw [if_pos ci,show (n != i)=false by simpa using ci]
      rfl
     ·rw [if_neg ci,show (n != i)=true by simpa using ci]
      rfl
    ·rw [if_neg c,if_neg c,decide_eq_false (fun q=>by rw [← q] at e3;simp at e3)]
     rfl
 ·rw [if_neg hu]
  refine (Zsl s hs).mono fun k u=>?_
  unfold Z1k
  refine Za u ?_
  rw [show ((Zwc s).2 != 0)=true by simpa using hu]
  rfl
theorem Zzjb {s:Str} (hs:s.length≤8000) {st:Str×Int×Bool} {p:Option Nat} (h:StS s st p):∃v:Int×Int×Int×Str×Str×Int×Bool,(Ze fun k=>Zhp k st=some v) ∧
  ((∃a q d,p=some a∧Z7k s a=some (q,d)∧v=(q.1,q.2.1,q.2.2.1,q.2.2.2,s,(d:Int),false))∨((∀a,p=some a→Z7k s a=none)∧v.2.2.2.2.2.2=true)):=by
 obtain ⟨v1,e1,h1,g1⟩:=Z2j hs h
 obtain ⟨v2,e2,h2,g2⟩:=Z2j hs h1
 obtain ⟨v3,e3,h3,g3⟩:=Z2j hs h2
 obtain ⟨v4,e4,h4,g4⟩:=Zo3 hs h3
 have bad:∀{st:Str×Int×Bool},StS s st none→st.2.2=true:=fun h=>h.2.choose_spec.2.2
 refine ⟨(v1.1,v2.1,v3.1,v4.1,v4.2.1,v4.2.2.1,v4.2.2.2),(((e1.and e2).and e3).and e4).mono fun k ⟨⟨⟨q1,q2⟩,q3⟩,q4⟩=>?_,?_⟩
 ·unfold Zhp
  exact Za q1 (Za q2 (Za q3 (Za q4 rfl)))
 clear e1 e2 e3 e4 h h1 h2 h3
 cases p with
 | none=>
  refine .inr ⟨fun a e=>(by cases e),bad (st:=v4.2) ?_⟩
  have:Zcb s (Zd s (Zd s (Zd s none)))=none:=rfl
  rwa [this] at h4
 | some a=>
  cases x1:Zob s a with
  | none=>
   refine .inr ⟨fun a' e=>by cases e;simp [Z7k,x1],bad (st:=v4.2) ?_⟩
   have:Zcb s (Zd s (Zd s (Zd s (some a))))=none:=by simp [Zd,Zcb,x1]
   rwa [this] at h4
  | some y1=>
  obtain ⟨n1,a1⟩:=y1
  cases x2:Zob s a1 with
  | none=>
   refine .inr ⟨fun a' e=>by cases e;simp [Z7k,x1,x2],bad (st:=v4.2) ?_⟩
   have:Zcb s (Zd s (Zd s (Zd s (some a))))=none:=by simp [Zd,Zcb,x1,x2]
   rwa [this] at h4
  | some y2=>
  obtain ⟨n2,a2⟩:=y2
  cases x3:Zob s a2 with
  | none=>
   refine .inr ⟨fun a' e=>by cases e;simp [Z7k,x1,x2,x3],bad (st:=v4.2) ?_⟩
   have:Zcb s (Zd s (Zd s (Zd s (some a))))=none:=by simp [Zd,Zcb,x1,x2,x3]
   rwa [this] at h4
  | some y3=>
  obtain ⟨n3,a3⟩:=y3
  cases x4:Zqg s a3 with
  | none=>
   refine .inr ⟨fun a' e=>by cases e;simp [Z7k,x1,x2,x3,x4],bad (st:=v4.2) ?_⟩
   have:Zcb s (Zd s (Zd s (Zd s (some a))))=none:=by simp [Zd,Zcb,x1,x2,x3,x4]
   rwa [this] at h4
  | some y4=>
   obtain ⟨t,d⟩:=y4
   have p1:Zd s (some a)=some a1:=by simp [Zd,x1]
   have p2:Zd s (Zd s (some a))=some a2:=by simp [Zd,x1,x2]
   have p3:Zd s (Zd s (Zd s (some a)))=some a3:=by simp [Zd,x1,x2,x3]
   have p4:Zcb s (Zd s (Zd s (Zd s (some a))))=some d:=by simp [Zd,Zcb,x1,x2,x3,x4]
   have r1:=g1 _ _ _ rfl x1
   have r2:=g2 _ _ _ p1 x2
   have r3:=g3 _ _ _ p2 x3
   have r4:=g4 _ _ _ p3 x4
   refine .inl ⟨a,(n1,n2,n3,t),d,rfl,by simp [Z7k,x1,x2,x3,x4],?_⟩
   rw [p4] at h4
   rcases h4.form with ⟨b,e,_,q⟩ | ⟨b,e,_,q⟩
   ·cases e
    rw [r1,r2,r3,r4,q]
   ·cases e
theorem Z2jb (s:Str) (hs:s.length≤8000) (i:Int):Ze fun k=>Zmm k s i=some (Z8f s i):=by
 unfold Z8f
 by_cases hu:(Zwc s).2=0
 ·obtain ⟨e1,e2,e3⟩:=Zbu hu
  have hbl:(Zl s).length≤8000:=by rw [Z7q];omega
  rw [if_pos hu]
  have h0:StS (Zl s) (Zl s,((0:Nat):Int),false) (some 0):=⟨rfl,0,rfl,by omega,rfl,rfl⟩
  obtain ⟨v4,q4,h4,g4⟩:=Z2j hbl h0
  obtain ⟨v5,q5,c5⟩:=Zzjb hbl h4
  refine (((Z9s s (by omega)).and q4).and q5).mono fun k ⟨⟨u,q4⟩,q5⟩=>?_
  unfold Zmm
  refine Za u ?_
  rw [hu,e1]
  refine Za q4 (Za q5 ?_)
  rcases c5 with ⟨a,q,d,hp,hst,hv⟩ | ⟨hno,hv⟩
  ·cases hn:Zob (Zl s) 0 with
   | none=>simp [Zd,hn] at hp
   | some w=>
    obtain ⟨n,a'⟩:=w
    have:a'=a:=by simpa [Zd,hn] using hp
    subst this
    have r4:=g4 _ _ _ rfl hn
    have hla:=(Zui hn).le
    obtain ⟨x,y,z,t⟩:=q
    rw [hv,r4]
    dsimp only
    have hT:Zii n=some (decide (0≤n)&&decide (n≤1000000)):=rfl
    by_cases hd:d=(Zl s).length
    ·rw [show (false||(((d:Nat):Int) != ((Zl s).length:Int)))=false by rw [hd];simp,cond_false]
     refine Za hT ?_
     cases hb:Zed x y z t 8 with
     | true=>
      have hso:=(Zww (Zl s) a' hla x y z t).2 ⟨by rw [hst,hd],hb⟩
      rw [hso]
      dsimp only
      by_cases c:0≤n∧n≤1000000
      ·rw [decide_eq_true c.1,decide_eq_true c.2,if_pos c]
       simp only [Yd,Yb,cond_false]
       refine Za (Zry x y z t 8 (by omega) (by omega)) ?_
       rw [hb]
       simp only [Yb,cond_false]
       by_cases ci:n=i
       ·rw [if_pos ci,show (n != i)=false by simpa using ci]
        rfl
       ·rw [if_neg ci,show (n != i)=true by simpa using ci]
        rfl
      ·have:(decide (0≤n)&&decide (n≤1000000))=false:=by
        rw [Yo,decide_eq_false_iff_not,decide_eq_false_iff_not]
        exact Classical.not_and_iff_not_or_not.1 c
       rw [this,if_neg c]
       rfl
     | false=>
      have hso:Zoi ((Zl s).drop a')=none:=by
       cases q:Zoi ((Zl s).drop a') with
       | none=>rfl
       | some r=>
        obtain ⟨x',y',z',t'⟩:=r
        obtain ⟨k1,k2⟩:=(Zww (Zl s) a' hla x' y' z' t').1 q
        rw [hst] at k1
        cases k1
        rw [hb] at k2
        cases k2
      rw [hso]
      dsimp only
      cases (decide (0≤n)&&decide (n≤1000000)) with
      | false=>rfl
      | true=>
       simp only [Yb,cond_false]
       refine Za (Zry x y z t 8 (by omega) (by omega)) ?_
       rw [hb]
       rfl
    ·rw [show (false||(((d:Nat):Int) != ((Zl s).length:Int)))=true by simp;omega]
     have hso:Zoi ((Zl s).drop a')=none:=by
      cases q:Zoi ((Zl s).drop a') with
      | none=>rfl
      | some r=>
       obtain ⟨x',y',z',t'⟩:=r
       obtain ⟨k1,k2⟩:=(Zww (Zl s) a' hla x' y' z' t').1 q
       rw [hst] at k1
       cases k1
       exact absurd rfl hd
     rw [hso]
     rfl
  ·rw [hv]
   cases hn:Zob (Zl s) 0 with
   | none=>rfl
   | some w=>
    obtain ⟨n,a⟩:=w
    have hla:=(Zui hn).le
    have hso:Zoi ((Zl s).drop a)=none:=by
     cases q:Zoi ((Zl s).drop a) with
     | none=>rfl
     | some r=>
      obtain ⟨x',y',z',t'⟩:=r
      obtain ⟨k1,k2⟩:=(Zww (Zl s) a hla x' y' z' t').1 q
      rw [hno a (by simp [Zd,hn])] at k1
      cases k1
    dsimp only
    rw [hso]
    rfl
 ·rw [if_neg hu]
  refine (Z9s s (by omega)).mono fun k u=>?_
  unfold Zmm
  refine Za u ?_
  rw [show ((Zwc s).2 != 0)=true by simpa using hu]
  rfl
end Go.Proofs.Qz
namespace Go.Proofs.Qz
open Go
set_option linter.unusedVariables false
def Zck:List Str→Nat→List Zk
 | [],_=>[]
 | s::l,i=>if (Z8f s (i:Int)).2.2.2.2=0 then ((Z8f s (i:Int)).1,(Z8f s (i:Int)).2.1,(Z8f s (i:Int)).2.2.1,(Z8f s (i:Int)).2.2.2.1)::Zck l (i+1) else []
theorem Z55:∀(l:List Str) (i:Nat),(Zck l i).length≤l.length
 | [],_=>Yc _
 | s::l,i=>by
  unfold Zck
  have:=Z55 l (i+1)
  split
  ·simp only [List.length_cons];omega
  ·simp
theorem Z2db (L:Nat→Nat→List Zk→Option (List Zk)) (l:List Str)
  (hs:∀i,(h:i<l.length)→∀acc j,acc.length≤i→L (j+1) i acc=if (Z8f l[i] (i:Int)).2.2.2.2=0 then L j (i+1) (acc++[((Z8f l[i] (i:Int)).1,(Z8f l[i] (i:Int)).2.1,(Z8f l[i] (i:Int)).2.2.1,(Z8f l[i] (i:Int)).2.2.2.1)]) else some acc)
  (he:∀acc j,L (j+1) l.length acc=some acc) {k:Nat} (hk:l.length<k):L k 0 []=some (Zck l 0):=by
 have key:∀(d i:Nat) (acc:List Zk),i+d=l.length→acc.length≤i→∀j,d<j→L j i acc=some (acc++Zck (l.drop i) i):=by
  intro d
  induction d with
  | zero=>
   intro i acc hi hacc j hj
   obtain ⟨j,rfl⟩:∃q,j=q+1:=⟨j-1,by omega⟩
   obtain rfl:i=l.length:=by omega
   rw [he,Yz]
   simp [Zck]
  | succ d ih=>
   intro i acc hi hacc j hj
   obtain ⟨j,rfl⟩:∃q,j=q+1:=⟨j-1,by omega⟩
   have h:i<l.length:=by omega
   rw [hs i h acc j hacc,List.drop_eq_getElem_cons h]
   by_cases c:(Z8f l[i] (i:Int)).2.2.2.2=0
   ·rw [if_pos c,ih (i+1) _ (by omega) (by simp;omega) j (by omega),Zck,if_pos c,Yr]
    rfl
   ·rw [if_neg c,Zck,if_neg c,Yw]
 have:=key l.length 0 [] (Ywa _) (by simp) k hk
 rw [this,Ys]
 rfl
theorem Z5jb (l:List Str) (hl:l.length≤1000) (hs:∀s∈l,s.length≤8000):Ze fun k=>Zmf k l=some (Zck l 0):=by
 have hr:Ze fun k=>∀i,i<l.length→∀h:i<l.length,Zmm k l[i] (i:Int)=some (Z8f l[i] (i:Int)):=Ze.all fun i h=>(Z2jb l[i] (hs _ (Yl h)) (i:Int)).mono fun k e h=>e
 refine (hr.and (Ze.ge (l.length+1) fun k hk=>hk)).mono fun k ⟨hr,hk⟩=>?_
 have h:=Z2db (fun j i acc=>Zmf.l0 k j l (l.length:Int) (i:Int) acc) l (fun i h acc j hacc=>?_) (fun acc j=>?_) (k:=k) (by omega)
 ·have h:Zmf.l0 k k l (l.length:Int) 0 []=some (Zck l 0):=h
  unfold Zmf
  exact Za h rfl
 ·conv=>lhs;unfold Zmf.l0
  rw [dlt h,Zn (by omega),cond_true]
  refine Za (Zi h) (Za (hr i h h) ?_)
  by_cases c:(Z8f l[i] (i:Int)).2.2.2.2=0
  ·rw [if_pos c,show ((Z8f l[i] (i:Int)).2.2.2.2 != 0)=false by simpa using c,cond_false]
   exact Za (Z3 (by simp;omega)) rfl
  ·rw [if_neg c,show ((Z8f l[i] (i:Int)).2.2.2.2 != 0)=true by simpa using c]
   rfl
 ·conv=>lhs;unfold Zmf.l0
  rw [Zy (Yc _)]
  rfl
theorem Z6nb (l:List Str) (hl:l.length≤1000) (hs:∀s∈l,s.length≤8000):Ze fun k=>Zyf k l=some (Zck l 0):=by
 have hr:Ze fun k=>∀i,i<l.length→∀h:i<l.length,Z1k k l[i] (i:Int)=some (Z8f l[i] (i:Int)):=Ze.all fun i h=>(Z3nb l[i] (hs _ (Yl h)) (i:Int)).mono fun k e h=>e
 refine (hr.and (Ze.ge (l.length+1) fun k hk=>hk)).mono fun k ⟨hr,hk⟩=>?_
 have h:=Z2db (fun j i acc=>Zyf.l0 k j l (i:Int) acc) l (fun i h acc j hacc=>?_) (fun acc j=>?_) (k:=k) (by omega)
 ·have h:Zyf.l0 k k l 0 []=some (Zck l 0):=h
  unfold Zyf
  exact Za h rfl
 ·conv=>lhs;unfold Zyf.l0
  rw [dlt h,Zn (by omega),cond_true]
  refine Za (Zi h) (Za (hr i h h) ?_)
  by_cases c:(Z8f l[i] (i:Int)).2.2.2.2=0
  ·rw [if_pos c,show ((Z8f l[i] (i:Int)).2.2.2.2 != 0)=false by simpa using c,cond_false]
   exact Za (Z3 (by simp;omega)) rfl
  ·rw [if_neg c,show ((Z8f l[i] (i:Int)).2.2.2.2 != 0)=true by simpa using c]
   rfl
 ·conv=>lhs;unfold Zyf.l0
  rw [Zy (Yc _)]
  rfl
end Go.Proofs.Qz
namespace Go.Proofs.Qz
open Go
set_option linter.unusedVariables false
def Z2i (m:Zq) (st:Int) (w:Nat):List Str:=((Zb w).drop st.toNat).map fun x=>Zz m.2 (3+m.1+x)
def Zc (m:Zq) (st:Int) (w:Nat):List Zk:=Zck (Z2i m st w) 0
theorem Zh1 (m:Zq) (st:Int) (w:Nat):(Z2i m st w).length≤24:=by
 have:=Z6c w
 unfold Z2i
 simp
 omega
theorem Z0y (m:Zq) (st:Int) (w:Nat):(Zc m st w).length≤24:=Ypa (Z55 _ _) (Zh1 m st w)
structure Fit (m:Zq) (st:Int) (w:Nat):Prop where
 b:1≤m.1∧m.1≤8
 f:Z5f m.2=true
 n:(m.2.1.length:Int)=m.1+27
 s:0≤st∧st≤((Zb w).length:Int)
theorem Fit.dirt {m:Zq} {st:Int} {w:Nat} (h:Fit m st w):m.2.2.length≤1048576:=by
 have:=(Zso h.f).1
 omega
theorem Zm7 {m:Zq} {st:Int} {w:Nat} (h:Z5f m.2=true):∀s∈Z2i m st w,s.length≤8000:=by
 intro s hs
 unfold Z2i at hs
 obtain ⟨x,_,rfl⟩:=Y9.1 hs
 have:=Zdm h (3+m.1+x)
 omega
theorem Zabb {α β:Type} {l:List α} (f:α→β) {i:Nat} (h:i<l.length):(l.take (i+1)).map f=(l.take i).map f++[f l[i]]:=Zpeb f h
theorem Ziv {m:Zq} {w:Nat} (ph tr nd st dn:Int) (dg:Str) (v:List Int) (h:Fit m st w):Ze fun k=>Z7c k m (ph,tr,nd,st,dn,dg,v,Zb w)=some (Zc m st w):=by
 obtain ⟨p,hp⟩:∃p:Nat,st=(p:Int):=⟨st.toNat,by have:=h.s;omega⟩
 subst hp
 have hb:=h.b
 have hn:=h.n
 have hd:=h.dirt
 have hw:=Z6c w
 have hs:p≤(Zb w).length:=by have:=h.s;omega
 refine ((Z5jb (Z2i m p w) (by have:=Zh1 m p w;omega) (Zm7 h.f)).and (Ze.ge 1048577 fun k hk=>hk)).mono fun k ⟨e,hk⟩=>?_
 have hc:Z9b (Zb w) ((p:Nat):Int) ((Zb w).length:Int)=some ((Zb w).drop p):=by
  have:=Z0h (l:=Zb w) (i:=p) (j:=(Zb w).length) hs (Yc _)
  rwa [Yt] at this
 have run:=Zrb (fun j i=>Z7c.l0 k j m.1 m.2.1 m.2.2 ((Zb w).drop p) (((Zb w).drop p).length:Int) (i:Int) ((((Zb w).drop p).take i).map fun x=>Zz m.2 (3+m.1+x))) ((Zb w).drop p).length (Z2i m p w) (fun i hi j=>?_) (fun j=>?_) k (by simp;omega)
 ·have run:Z7c.l0 k k m.1 m.2.1 m.2.2 ((Zb w).drop p) (((Zb w).drop p).length:Int) 0 []=some (Z2i m p w):=run
  unfold Z7c
  exact Za hc (Za run (Za e rfl))
 ·have hx:0≤((Zb w).drop p)[i]∧((Zb w).drop p)[i]≤23:=by
   rw [Yia]
   exact Zvj (by simp at hi;omega)
  have r:Z8i k (m.1,(m.2.1,m.2.2)) ((Zb w).drop p)[i]=some (Zz m.2 (3+m.1+((Zb w).drop p)[i])):=by
   unfold Z8i Zmh
   rw [w64 (n:=3+m.1) (by omega) (by omega),w64 (by omega) (by omega)]
   exact Za rfl (Za (Zvo m.2 _ hd (by omega) (by omega) (by omega)) rfl)
  conv=>lhs;unfold Z7c.l0
  rw [dlt hi,Zn (by simp at hi;omega),cond_true]
  refine Za (Zi hi) (Za r (Za (Z3 (by simp;omega)) ?_))
  rw [Zabb _ hi]
 ·conv=>lhs;unfold Z7c.l0
  rw [Zy (Yc _),Yt]
  rfl
theorem Zaq {m:Zq} {w:Nat} (ph tr nd st dn:Int) (dg:Str) (v:List Int) (h:Fit m st w):Ze fun k=>Zic k m (ph,tr,nd,st,dn,dg,v,Zb w)=some (Zc m st w):=by
 obtain ⟨p,hp⟩:∃p:Nat,st=(p:Int):=⟨st.toNat,by have:=h.s;omega⟩
 subst hp
 have hb:=h.b
 have hn:=h.n
 have hd:=h.dirt
 have hw:=Z6c w
 have hs:p≤(Zb w).length:=by have:=h.s;omega
 refine ((Z6nb (Z2i m p w) (by have:=Zh1 m p w;omega) (Zm7 h.f)).and (Ze.ge 1048577 fun k hk=>hk)).mono fun k ⟨e,hk⟩=>?_
 have run:=Zrb (fun j i=>Zic.l0 k j m.1 m.2.1 m.2.2 ph tr nd p dn dg v (Zb w) ((p+i:Nat):Int) ((((Zb w).drop p).take i).map fun x=>Zz m.2 (3+m.1+x))) ((Zb w).drop p).length (Z2i m p w) (fun i hi j=>?_) (fun j=>?_) k (by simp;omega)
 ·have run:Zic.l0 k k m.1 m.2.1 m.2.2 ph tr nd p dn dg v (Zb w) (p:Int) []=some (Z2i m p w):=run
  unfold Zic
  exact Za run (Za e rfl)
 ·have hi2:p+i<(Zb w).length:=by simp at hi;omega
  have hx:=Zvj hi2
  have hg:((Zb w).drop p)[i]=(Zb w)[p+i]:=Yia
  have r:Zsb k (m.2.1,m.2.2) (3+m.1+(Zb w)[p+i])=some (Zz m.2 (3+m.1+(Zb w)[p+i])):=Z2n m.2 _ hd (by omega) (by omega) (by omega)
  have ra:Zzg (m.1,(m.2.1,m.2.2)) (Zb w)[p+i]=some (3+m.1+(Zb w)[p+i]):=by
   unfold Zzg
   rw [w64 (n:=3+m.1) (by omega) (by omega),w64 (by omega) (by omega)]
  conv=>lhs;unfold Zic.l0
  rw [dlt hi2,Zn (by omega),cond_true]
  refine Za (Zi hi2) (Za ra (Za r (Za (Z3 (by simp;omega)) ?_)))
  rw [Zabb _ hi,hg]
  rfl
 ·have hq:p+((Zb w).drop p).length=(Zb w).length:=by simp;omega
  conv=>lhs;unfold Zic.l0
  rw [hq,Zy (Yc _),Yt]
  rfl
end Go.Proofs.Qz
