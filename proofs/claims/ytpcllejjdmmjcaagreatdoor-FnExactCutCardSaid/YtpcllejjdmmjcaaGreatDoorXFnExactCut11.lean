/- What the law FnExactCut needs, part 12 of 15: the Lean functions of the Go functions that it reaches, with the proofs that the calls come to what they say, and plain facts about them. Conditions: those that each theorem states. Written by a session and by its programs (after the kit's printer). -/
import Derived.Test.YtpcllejjdmmjcaaGreatDoorXFnExactCut10
open Option renaming bind_some → Ya, bind_eq_some_iff → Yl, map_eq_some_iff → Y0a, some → Y1a
open Bool renaming not_true → Yb, and_self → Ye, and_eq_true → Yg, true_and → Yh, and_eq_false_iff → Yq, false_or → Yr, eq_iff_iff → Yz, or_self → Y0, eq_false_iff → Y5, false_eq_true → Y6, or_eq_true → Y7, not_eq_false' → Yda, not_eq_true' → Yia
open Nat renaming le_refl → Yc, pow_le_pow_right → Yca, le_trans → Yra, lt_of_le_of_lt → Ysa, min_eq_left → Yta, mod_eq_of_lt → Yua, pow_succ → Yva, testBit_and → Ywa, testBit_eq_decide_div_mod_eq → Yxa, zero_add → Yya, zero_testBit → Yza
open List renaming getD_eq_getElem?_getD → Yd, getElem?_eq_getElem → Yf, length_append → Yk, getElem_mem → Yn, range → Yo, mem_range → Yp, all_eq_true → Ys, append_assoc → Yt, drop_zero → Yu, take_length → Yv, append_nil → Yy, drop_length → Y1, length_map → Y2, length_take → Y3, mem_iff_getElem → Y4, any_eq_true → Y8, drop_drop → Y9, drop_left → Yaa, mem_map → Yba, getElem_take → Yea, length → Yfa, mem_filter → Yga, append_cancel_left_eq → Yja, getElem_drop → Yka, length_drop → Yla, mem_cons_self → Yma, mem_reverse → Yna, pairwise_iff_getElem → Yoa, range_succ → Ypa, reverse_cons → Yqa
open Int renaming toNat_natCast → Yi, toNat_of_nonneg → Yx
open BitVec renaming ofInt → Yj, toNat_ofInt → Yw, toNat_and → Yha
open Go.IntKind renaming wrap → Ym
namespace Go.Proofs.Qz
open Go
set_option linter.unusedVariables false
def Z8i (f:Z2) (n:Int):Option Nat:=Zsb (fun x=>x.1==n) f.2 0
def Zz (f:Z2) (n:Int):Str:=match Z8i f n with
 | some i=>(f.2.getD i (0,[])).2
 | none=>f.1.getD n.toNat []
theorem Zkv {f:Z2} {n:Int} {i:Nat} (h:Z8i f n=some i):i<f.2.length:=by
 obtain ⟨_,h2,_⟩:=Zml h
 simpa using h2
theorem Z0y (f:Z2) (n:Int) (hl:f.2.length≤1048576) {k:Nat} (hk:f.2.length<k):Ztk k f n=some (match Z8i f n with | some i=>(i:Int) | none=>-1):=by
 have run:=Zrh (fun j i=>Zzd.l0 j f.2 (f.2.length:Int) i n) f.2 (fun x=>x.1==n) (.inl n) (fun i=>.inr ((i:Int),n)) (fun i hi=>by
  have e:Zzr f.2[i] n=some (f.2[i].1==n):=rfl;constructor
  ·intro hp j
   show Zzd.l0 (j+1) f.2 (f.2.length:Int) (i:Int) n=Zzd.l0 j f.2 (f.2.length:Int) ((i+1:Nat):Int) n;rw [Zzd.l0];rw [dlt hi,Zi hi,Zn (by omega)];simp only [Xe,Ya,e,hp,Xf]
  ·intro hp j
   show Zzd.l0 (j+1) f.2 (f.2.length:Int) (i:Int) n=_;unfold Zzd.l0;rw [dlt hi,Zi hi];simp only [Xe,Ya,e,hp]) (fun j=>by
  show Zzd.l0 (j+1) f.2 (f.2.length:Int) (f.2.length:Int) n=_;unfold Zzd.l0;rw [Zv (Yc _)];rfl) hk
 have run:Zzd.l0 k f.2 (f.2.length:Int) 0 n=_:=run
 unfold Ztk Zzd Z8i
 rw [run]
 cases Zsb (fun x:Zbd=>x.1==n) f.2 0 <;> rfl
theorem Z71 {α:Type} {l:List α} {i:Nat} (d:α) (h:i<l.length):at? l (i:Int)=some (l.getD i d):=by
 rw [Zi h,Yd,Yf h]
 rfl
theorem Zbr {α:Type} {l:List α} {n:Int} (d:α) (h0:0≤n) (h:n<(l.length:Int)):at? l n=some (l.getD n.toNat d):=by
 have:=Z71 (l:=l) (i:=n.toNat) d (by omega)
 rwa [Yx h0] at this
theorem Z1o (f:Z2) (n:Int) (hl:f.2.length≤1048576) (h0:0≤n) (h1:n<(f.1.length:Int)) {k:Nat} (hk:f.2.length<k):Zag k f n=some (Zz f n):=by
 unfold Zag Zz
 rw [Z0y f n hl hk]
 cases h:Z8i f n with
 | some i=>
  simp only [Ya];rw [Xa (by omega:(0:Int)≤(i:Int)),Z71 (0,[]) (Zkv h)];rfl
 | none=>
  simp only [Ya];rw [show decide ((0:Int)≤-1)=false from rfl,Zbr [] h0 h1];rfl
theorem Z8n (f:Z2) (n:Int) (hl:f.2.length≤1048576) (h0:0≤n) (h1:n<(f.1.length:Int)) {k:Nat} (hk:f.2.length<k):Ztb k f n=some (Zz f n):=by
 have run:=Zrh (fun j i=>Ztb.l0 j n f.1 f.2 i) f.2 (fun x=>x.1==n) (.inl ()) (fun i=>.inr (f.2.getD i (0,[])).2) (fun i hi=>by
  constructor
  ·intro hp j
   show Ztb.l0 (j+1) n f.1 f.2 (i:Int)=Ztb.l0 j n f.1 f.2 ((i+1:Nat):Int);rw [Ztb.l0];rw [dlt hi,Zi hi,Zn (by omega)];simp only [Xe,Ya,hp,Xf]
  ·intro hp j
   show Ztb.l0 (j+1) n f.1 f.2 (i:Int)=_;unfold Ztb.l0;rw [dlt hi,Zi hi];simp only [Xe,Ya,hp];rw [Yd,Yf hi];rfl) (fun j=>by
  show Ztb.l0 (j+1) n f.1 f.2 (f.2.length:Int)=_;unfold Ztb.l0;rw [Zv (Yc _)];rfl) hk
 have run:Ztb.l0 k n f.1 f.2 0=_:=run
 unfold Ztb Zz Z8i
 rw [run]
 cases Zsb (fun x:Zbd=>x.1==n) f.2 0 with
 | some i=>rfl
 | none=>
  simp only [Ya];rw [Zbr [] h0 h1];rfl
def okD (m:Nat) (l:List Zbd) (i:Nat):Bool:=decide (0≤(l.getD i (0,[])).1)&&decide ((l.getD i (0,[])).1≤(m:Int)-1)&&decide ((l.getD i (0,[])).2.length≤96) && !((l.take i).any fun x=>x.1==(l.getD i (0,[])).1)
def okS (s:Str):Bool:=decide (s.length≤96)
def Z9f (f:Z2):Bool:=decide (1≤f.1.length∧f.1.length≤40∧f.2.length≤f.1.length)&&(f.1.all okS&&(Yo f.2.length).all (okD f.1.length f.2))
theorem Zj9 {l:List Zbd} {i:Nat} (h:i<l.length):∃m,Zsb (fun x:Zbd=>x.1==(l.getD i (0,[])).1) l 0=some m∧m≤i∧(m<i ↔ (l.take i).any (fun x=>x.1==(l.getD i (0,[])).1)=true):=by
 have hg:l.getD i (0,[])=l[i]:=by rw [Yd,Yf h];rfl
 rw [hg]
 cases hf:Zsb (fun x:Zbd=>x.1==l[i].1) l 0 with
 | none=>
  have:=Zrr.1 hf l[i] (Yn h);simp at this
 | some m=>
  obtain ⟨_,h2,h3,h4⟩:=Zml hf;have h2:m<l.length:=by simpa using h2
  have h3:(l[m].1==l[i].1)=true:=by simpa using h3
  have h4:∀j,(hj:j<m)→(l[j].1==l[i].1)=false:=fun j hj=>by simpa using h4 j (by omega)
  have hle:m≤i:=by
   refine Nat.not_lt.1 fun q=>?_
   have:=h4 i q;simp at this
  refine ⟨m,rfl,hle,fun q=>?_,fun q=>?_⟩
  ·refine Y8.2 ⟨l[m],?_,h3⟩
   exact Y4.2 ⟨m,by simp;omega,by simp⟩
  ·obtain ⟨x,hx,hx2⟩:=Y8.1 q
   obtain ⟨j,hj,e⟩:=Y4.1 hx;rw [Y3] at hj;have hji:j<i:=by omega
   rw [Yea] at e;refine Ysa (Nat.not_lt.1 fun q2=>?_) hji;have:=h4 j q2;rw [e,hx2] at this;cases this
theorem Zz3 {s:List Str} (hl:s.length≤1048576) (d:List Zbd) (n:Int):Zqm (s,d) n=some (decide (0≤n)&&decide (n≤(s.length:Int)-1)):=by
 unfold Zqm Zmi Zhb
 simp only [Ya]
 rw [w64 (by omega) (by omega)]
theorem Z33 (f:Z2) (hl:f.1.length≤1048576) (hl2:f.2.length≤1048576) {k:Nat} (hk:1048577≤k):Zte k f=some (Z9f f):=by
 obtain ⟨s,d⟩:=f
 have hl:s.length≤1048576:=hl
 have hl2:d.length≤1048576:=hl2
 have hs:Zkq k s=some (!(s.all okS)):=by
  have run:=Zrh (fun j i=>Z5d.l0 j s (s.length:Int) i) s (fun x=>!(okS x)) (.inl ()) (fun i=>.inr (i:Int)) (fun i hi=>by
   have e:Zfp s[i]=some (!(okS s[i])):=by
    unfold Zfp okS
    by_cases q:s[i].length≤96
    ·rw [Xa q,Xb (by omega)];rfl
    ·rw [Xb q,Xa (by omega)];rfl
   constructor
   ·intro hp j
    show Z5d.l0 (j+1) s (s.length:Int) (i:Int)=Z5d.l0 j s (s.length:Int) ((i+1:Nat):Int);rw [Z5d.l0];rw [dlt hi,Zi hi,Zn (by omega)];simp only [Xe,Ya,e,hp,Xf]
   ·intro hp j
    show Z5d.l0 (j+1) s (s.length:Int) (i:Int)=_;unfold Z5d.l0;rw [dlt hi,Zi hi];simp only [Xe,Ya,e,hp]) (fun j=>by
   show Z5d.l0 (j+1) s (s.length:Int) (s.length:Int)=_;unfold Z5d.l0;rw [Zv (Yc _)];rfl) (show s.length<k by have:s.length≤1048576:=hl;omega)
  have run:Z5d.l0 k s (s.length:Int) 0=_:=run;unfold Zkq Z5d;rw [run];cases hf:Zsb (fun x=>!(okS x)) s 0 with
  | none=>
   have:s.all okS=true:=Ys.2 fun x hx=>by
    have:=Zrr.1 hf x hx;simpa using this
   rw [this];rfl
  | some i=>
   obtain ⟨_,h2,h3,_⟩:=Zml hf
   have:s.all okS=false:=by
    cases q:s.all okS with
    | false=>rfl
    | true=>
     have:=Ys.1 q _ (Yn h2);rw [this] at h3;cases h3
   rw [this];simp only [Ya];rw [Xa (by omega:(0:Int)≤(i:Int))];rfl
 have hd:=Zjz (fun j i=>Zte.l0 k j s d d (d.length:Int) (i:Int)) d.length (okD s.length d) (fun _=>false) (fun i hi hp j=>?_) (fun i hi hp j=>?_) (fun j=>?_)
 ·unfold Zte Z9f
  have h40:Zhb (s.length:Int) 1 40=some (decide (1≤s.length)&&decide (s.length≤40)):=by
   unfold Zhb;congr 2 <;> exact decide_eq_decide.2 (by omega)
  have hz:Zmi s=some (s.length:Int):=rfl;dsimp only;rw [hz];simp only [Ya];rw [h40];simp only [Ya]
  by_cases c:1≤s.length∧s.length≤40∧d.length≤s.length
  ·rw [Xa c.1,Xa c.2.1,Xb (by omega:¬(s.length:Int)<(d.length:Int)),Xa c,hs]
   simp only [Ye,Yb,Y0,Xf,Ya,Yh];cases ha:s.all okS with
   | false=>rfl
   | true=>
    simp only [Yb,Xf,Yh];rcases hd with ⟨h1,h2⟩ | ⟨h1,i,_,_,h2⟩
    ·have h2:Zte.l0 k k s d d (d.length:Int) 0=some (.inl ()):=h2 k (by have:d.length≤1048576:=hl2;omega)
     rw [h2,h1];rfl
    ·have h2:Zte.l0 k k s d d (d.length:Int) 0=some (.inr false):=h2 k (by have:d.length≤1048576:=hl2;omega)
     rw [h2,h1];rfl
  ·rw [Xb c]
   have:((!(decide (1≤s.length)&&decide (s.length≤40)))||decide ((s.length:Int)<(d.length:Int)))=true:=by
    rw [Y7,Yia,Yq,decide_eq_false_iff_not,decide_eq_false_iff_not,decide_eq_true_iff];omega
   rw [this];rfl
 all_goals skip
 ·have hg:d.getD i (0,[])=d[i]:=by rw [Yd,Yf hi];rfl
  have hp2:=hp;unfold okD at hp2;rw [Yg,Yg,Yg,hg] at hp2;obtain ⟨⟨⟨p1,p2⟩,p3⟩,p4⟩:=hp2;obtain ⟨m,m1,m2,m3⟩:=Zj9 hi;rw [hg] at m1 m3
  conv=>lhs;unfold Zte.l0
  rw [dlt hi,Zi hi,Zn (by omega)];simp only [Xe,Ya];rw [Zz3 hl,p1,p2];simp only [Ya,Ye,Yb,Yr];rw [Xb (by have:=of_decide_eq_true p3;omega:¬(96:Int)<(d[i].2.length:Int)),Z0y (s,d) _ hl2 (by show d.length<k;omega)];unfold Z8i;dsimp only;rw [m1];simp only [Xf,Ya]
  have hno:¬(m:Int)<(i:Int):=fun q=>by
   have:=m3.1 (by omega);rw [this] at p4;cases p4
  rw [Xb hno];rfl
 ·have hg:d.getD i (0,[])=d[i]:=by rw [Yd,Yf hi];rfl
  obtain ⟨m,m1,m2,m3⟩:=Zj9 hi;rw [hg] at m1 m3;have hp2:=hp;unfold okD at hp2;rw [hg] at hp2
  conv=>lhs;unfold Zte.l0
  rw [dlt hi,Zi hi];simp only [Xe,Ya];rw [Zz3 hl,Z0y (s,d) _ hl2 (by show d.length<k;omega)];unfold Z8i;dsimp only;rw [m1];simp only [Ya];cases q1:(decide (0≤d[i].1)&&decide (d[i].1≤(s.length:Int)-1)) with
  | false=>rfl
  | true=>
   rw [q1,Yh] at hp2
   by_cases q2:d[i].2.length≤96
   ·rw [Xa q2,Yh,Yda] at hp2
    rw [Xb (by omega:¬(96:Int)<(d[i].2.length:Int))];simp only [Yb,Y0,Xf];rw [Xa (by have:=m3.2 hp2;omega:(m:Int)<(i:Int))];rfl
   ·rw [Xa (by omega:(96:Int)<(d[i].2.length:Int))]
    rfl
 ·conv=>lhs;unfold Zte.l0
  rw [Zv (Yc _)];rfl
theorem Z5ab (d:List Zbd) (i:Nat) (hi:i<d.length) (k:Nat) (hk:i<k) (hl2:d.length≤1048576:=by omega):((d.take i).any (fun x=>x.1==(d.getD i (0,[])).1)=true∧∀s,Z1.l1 k s d (i:Int) 0=some (.inr false))∨((d.take i).any (fun x=>x.1==(d.getD i (0,[])).1)=false∧∀s,Z1.l1 k s d (i:Int) 0=some (.inl ())):=by
 have hg:d.getD i (0,[])=d[i]:=by rw [Yd,Yf hi];rfl
 rw [hg]
 have run:∀s,Z1.l1 k s d (i:Int) 0=some (match Zsb (fun x:Zbd=>x.1==d[i].1) (d.take i) 0 with | some _=>.inr false | none=>.inl ()):=fun s=>
  Zrh (fun j q=>Z1.l1 j s d (i:Int) q) (d.take i) (fun x=>x.1==d[i].1) (.inl ()) (fun _=>.inr false) (fun q hq=>by
   rw [Y3] at hq;have hq2:q<i:=by omega
   rw [Yea];constructor
   ·intro hp j
    show Z1.l1 (j+1) s d (i:Int) (q:Int)=Z1.l1 j s d (i:Int) ((q+1:Nat):Int);rw [Z1.l1];rw [dlt hq2,Zi (by omega:q<d.length),Zi hi,Zn (by omega)];simp only [Xe,Ya,hp,Xf]
   ·intro hp j
    show Z1.l1 (j+1) s d (i:Int) (q:Int)=_;rw [Z1.l1];rw [dlt hq2,Zi (by omega:q<d.length),Zi hi];simp only [Xe,Ya,hp]) (fun j=>by
   show Z1.l1 (j+1) s d (i:Int) ((d.take i).length:Int)=_;rw [Y3,Yta (by omega),Z1.l1,Zv (Yc _)];rfl) (by rw [Y3];omega)
 have ha:=Zit (p:=fun x:Zbd=>x.1==d[i].1) (l:=d.take i) (n:=0)
 cases hf:Zsb (fun x:Zbd=>x.1==d[i].1) (d.take i) 0 with
 | some m=>
  rw [hf] at ha;exact .inl ⟨ha.symm,fun s=>by rw [run s,hf]⟩
 | none=>
  rw [hf] at ha;exact .inr ⟨ha.symm,fun s=>by rw [run s,hf]⟩
theorem Zr0 (f:Z2) (hl:f.1.length≤1048576) (hl2:f.2.length≤1048576) {k:Nat} (hk:1048577≤k):Z1 k f=some (Z9f f):=by
 obtain ⟨s,d⟩:=f
 have hl:s.length≤1048576:=hl
 have hl2:d.length≤1048576:=hl2
 have hs:=Zjz (fun j i=>Z1.l0 j s d (i:Int)) s.length (fun i=>okS (s.getD i [])) (fun _=>false) (fun i hi hp j=>?_) (fun i hi hp j=>?_) (fun j=>?_)
 have hd:=Zjz (fun j i=>Z1.l2 k j s d (i:Int)) d.length (okD s.length d) (fun _=>false) (fun i hi hp j=>?_) (fun i hi hp j=>?_) (fun j=>?_)
 ·unfold Z1 Z9f
  dsimp only
  by_cases c:1≤s.length∧s.length≤40∧d.length≤s.length
  ·rw [Xb (by omega:¬(s.length:Int)<1),Xb (by omega:¬(40:Int)<(s.length:Int)),Xb (by omega:¬(s.length:Int)<(d.length:Int)),Xa c]
   simp only [Y0,Xf,Yh]
   have hall:(Yo s.length).all (fun i=>okS (s.getD i []))=s.all okS:=by
    rw [Yz,Ys,Ys];constructor
    ·intro h x hx
     obtain ⟨i,hi,rfl⟩:=Y4.1 hx;have:=h i (Yp.2 hi)
     rwa [Yd,Yf hi] at this
    ·intro h i hi
     have hi:=Yp.1 hi;rw [Yd,Yf hi];exact h _ (Yn hi)
   rcases hs with ⟨h1,h2⟩ | ⟨h1,i,_,_,h2⟩
   ·have h2:Z1.l0 k s d 0=some (.inl ()):=h2 k (by omega)
    rw [h2,← hall,h1];simp only [Ya,Yh];rcases hd with ⟨h3,h4⟩ | ⟨h3,i,_,_,h4⟩
    ·have h4:Z1.l2 k k s d 0=some (.inl ()):=h4 k (by omega)
     rw [h4,h3];rfl
    ·have h4:Z1.l2 k k s d 0=some (.inr false):=h4 k (by omega)
     rw [h4,h3];rfl
   ·have h2:Z1.l0 k s d 0=some (.inr false):=h2 k (by omega)
    rw [h2,← hall,h1];rfl
  ·rw [Xb c]
   have:((decide ((s.length:Int)<1)||decide (40<(s.length:Int)))||decide ((s.length:Int)<(d.length:Int)))=true:=by
    rw [Y7,Y7,decide_eq_true_iff,decide_eq_true_iff,decide_eq_true_iff];omega
   rw [this];rfl
 ·
  have hg:d.getD i (0,[])=d[i]:=by rw [Yd,Yf hi];rfl
  have hp2:=hp;unfold okD at hp2;rw [Yg,Yg,Yg,hg] at hp2;obtain ⟨⟨⟨p1,p2⟩,p3⟩,p4⟩:=hp2;have hin:=Z5ab d i hi k (by omega);rw [hg] at hin;rcases hin with ⟨q,_⟩ | ⟨_,q⟩
  ·rw [q] at p4;cases p4
  conv=>lhs;unfold Z1.l2
  rw [dlt hi,Zi hi,Zn (by omega),w64 (by omega) (by omega)];simp only [Xe,Ya];unfold Zfb;rw [p1,p2,q s];simp only [Ya,Ye,Yb,Xf];rw [Xb (by have:=of_decide_eq_true p3;omega:¬(96:Int)<(d[i].2.length:Int))];rfl
 ·have hg:d.getD i (0,[])=d[i]:=by rw [Yd,Yf hi];rfl
  have hp2:=hp;unfold okD at hp2;rw [hg] at hp2;have hin:=Z5ab d i hi k (by omega);rw [hg] at hin
  conv=>lhs;unfold Z1.l2
  rw [dlt hi,Zi hi,w64 (by omega) (by omega)];simp only [Xe,Ya];unfold Zfb;simp only [Ya];cases q1:(decide (0≤d[i].1)&&decide (d[i].1≤(s.length:Int)-1)) with
  | false=>rfl
  | true=>
   rw [q1,Yh] at hp2;simp only [Yb,Xf]
   by_cases q2:d[i].2.length≤96
   ·rw [Xa q2,Yh,Yda] at hp2
    rw [Xb (by omega:¬(96:Int)<(d[i].2.length:Int))];rcases hin with ⟨_,q⟩ | ⟨q,_⟩
    ·rw [q s]
     rfl
    ·rw [q] at hp2;cases hp2
   ·rw [Xa (by omega:(96:Int)<(d[i].2.length:Int))]
    rfl
 ·conv=>lhs;unfold Z1.l2
  rw [Zv (Yc _)];rfl
 ·have hg:s.getD i []=s[i]:=by rw [Yd,Yf hi];rfl
  have hp:okS (s.getD i [])=true:=hp;rw [hg] at hp;have hp:=of_decide_eq_true hp
  conv=>lhs;unfold Z1.l0
  rw [dlt hi,Zi hi,Zn (by omega)];simp only [Xe,Ya];rw [Xb (by omega:¬(96:Int)<(s[i].length:Int))];rfl
 ·have hg:s.getD i []=s[i]:=by rw [Yd,Yf hi];rfl
  have hp:okS (s.getD i [])=false:=hp;rw [hg] at hp;have hp:=of_decide_eq_false hp
  conv=>lhs;unfold Z1.l0
  rw [dlt hi,Zi hi];simp only [Xe,Ya];rw [Xa (by omega:(96:Int)<(s[i].length:Int))];rfl
 ·conv=>lhs;unfold Z1.l0
  rw [Zv (Yc _)];rfl
def Z7t (s:Str):Option (Int×Str×Nat):=if (Zdd s 0).2.2=0 then if (Znh s (Zdd s 0).2.1.toNat).2.2=0 then some ((Zdd s 0).1,(Znh s (Zdd s 0).2.1.toNat).1,(Znh s (Zdd s 0).2.1.toNat).2.1.toNat) else none else none
theorem Zncb {s:Str} {x:Int} {t:Str} {a d:Nat} (g1:Got s 0 x a) (g4:GotT s a t d):Zm x++Z3b t=s ↔ d=s.length:=by
 have e0:s=Zm x++(Z3b t++s.drop d):=by
  have h1:=g1.eq;rw [Yu,g4.eq] at h1;exact h1
 constructor
 ·intro h
  have:=g4.at';have:=g1.at';have hl:=congrArg Yfa h;rw [Yk] at hl;omega
 ·intro h
  rw [h,Y1,Yy] at e0;exact e0.symm
def Z3n (n:Int) (t:Str):Bool:=(decide (1≤n)&&decide (n≤1000000))&&decide (t.length≤80)
def Zsd (s:Str):Int×Str×Int:=if (Zyc s).2=0 then match Z7t (Zl s) with
  | some (n,t,d)=>if d=(Zl s).length∧Z3n n t=true then (n,t,0) else (0,[],3)
  | none=>(0,[],3) else (0,[],(Zyc s).2)
theorem Z8db (n:Int) (t:Str) (hn:Num n) (ht:t.length≤8000):Ze fun k=>Zjk k n t=some (if Z3n n t=true then Z4g (Zm n++Z3b t) else []):=by
 have is:Zfb n 1 1000000=some (decide (1≤n)&&decide (n≤1000000)):=rfl
 unfold Z3n
 by_cases h1:(decide (1≤n)&&decide (n≤1000000))=true
 ·by_cases h2:t.length≤80
  ·have l1:=Zhc n
   have l4:=Zij t;refine (((Zyi n hn).and (Zy0 t ht)).and (Zk6 (Zm n++Z3b t) (by simp;omega))).mono fun k ⟨⟨a,b⟩,c⟩=>?_
   unfold Zjk;rw [is,h1,Xb (by omega:¬(80:Int)<(t.length:Int)),Xa h2];simp only [Ya,Yb,Y0,Xf,Ye,if_true];rw [a,b];simp only [Ya];rw [Zvc (by omega)];simp only [Ya];rw [c];rfl
  ·refine Ze.of fun k=>?_
   unfold Zjk;rw [is,h1,Xa (by omega:(80:Int)<(t.length:Int)),Xb h2];rfl
 ·refine Ze.of fun k=>?_
  unfold Zjk;rw [is,Y5.2 h1];rfl
theorem Z9db (s:Str) (hs:s.length≤8000):Ze fun k=>Z4k k s=some (Zsd s):=by
 by_cases hu:(Zyc s).2=0
 ·obtain ⟨e1,e2,e3⟩:=Zru hu
  have hbl:(Zl s).length≤8000:=by rw [Zhr];omega
  rcases Z0k (Zl s) 0 with ⟨n,a,en,gn⟩ | ⟨c,hc,en⟩
  ·have hla:=gn.le
   rcases Z2q (Zl s) a with ⟨t,d,et,gt⟩ | ⟨c,hc,et⟩
   ·refine ((((Zyl s hs).and (Zku (Zl s) 0 (by omega) hbl)).and (Z4w (Zl s) a (by omega) hbl)).and (Z8db n t gn.range gt.size)).mono fun k ⟨⟨⟨h0,h1⟩,h2⟩,h3⟩=>?_
    have h1:Zld k (Zl s) 0=_:=h1;unfold Z4k Zsd Z7t;rw [Xc hu,h0,e1,en];simp only [Ya];rw [show ((0:Int) != 0)=false from rfl,Xf,h1,en];simp only [Ya,Yi];rw [h2,et];simp only [Ya,if_true,Yi];rw [show ((0:Int) != 0)=false from rfl,Y0,Xf,h3];simp only [Ya]
    by_cases hr:Z3n n t=true
    ·rw [Xc hr,Zdr]
     by_cases hd:d=(Zl s).length
     ·have:Z4g (Zm n++Z3b t)=s:=by rw [(Zncb gn gt).2 hd,e2]
      rw [Xa this,Xc ⟨hd,hr⟩];rfl
     ·rw [Xb (fun q=>hd ((Zncb gn gt).1 (Zpeb.1 (q.trans e2.symm)))),Xd (fun q=>hd q.1)]
      rfl
    ·rw [Xd hr,Xd (fun q=>hr q.2),Zu9 (by omega)]
     rfl
   ·refine (((Zyl s hs).and (Zku (Zl s) 0 (by omega) hbl)).and (Z4w (Zl s) a (by omega) hbl)).mono fun k ⟨⟨h0,h1⟩,h2⟩=>?_
    have h1:Zld k (Zl s) 0=_:=h1;unfold Z4k Zsd Z7t;rw [Xc hu,h0,e1,en];simp only [Ya];rw [show ((0:Int) != 0)=false from rfl,Xf,h1,en];simp only [Ya,Yi];rw [h2,et];simp only [Ya,if_true];rw [Xd hc,show ((0:Int) != 0)=false from rfl,Yr,show (c != 0)=true by simpa using hc];rfl
  ·refine (((Zyl s hs).and (Zku (Zl s) 0 (by omega) hbl)).and (Z4w (Zl s) 0 (by omega) hbl)).mono fun k ⟨⟨h0,h1⟩,h2⟩=>?_
   have h1:Zld k (Zl s) 0=_:=h1;have h2:Zzl k (Zl s) 0=_:=h2;unfold Z4k Zsd Z7t;rw [Xc hu,h0,e1,en];simp only [Ya];rw [show ((0:Int) != 0)=false from rfl,Xf,h1,en];simp only [Ya];rw [h2];simp only [Ya];rw [Xd hc,show (c != 0)=true by simpa using hc];rfl
 ·refine (Zyl s hs).mono fun k h0=>?_
  unfold Z4k Zsd;rw [Xd hu,h0];simp only [Ya];rw [show ((Zyc s).2 != 0)=true by simpa using hu];rfl
theorem Z0ab (s:Str) (hs:s.length≤8000):Ze fun k=>Zsm k s=some (Zsd s):=by
 by_cases hu:(Zyc s).2=0
 ·obtain ⟨e1,e2,e3⟩:=Zru hu
  have hbl:(Zl s).length≤8000:=by rw [Zhr];omega
  rcases Z0k (Zl s) 0 with ⟨n,a,en,gn⟩ | ⟨c,hc,en⟩
  ·have hla:=gn.le
   have hn:Zib (Zl s) 0=(n,Zl s,((a:Nat):Int),false):=by unfold Zib;rw [en];rfl
   refine (((Zot s (by omega)).and (Z73 (Zl s) 0 (by omega) (by omega))).and (Z3ab (Zl s) a (by omega) (by omega))).mono fun k ⟨⟨h0,h1⟩,h2⟩=>?_
   have h1:Zgc k (Zl s,(0,false))=_:=h1;unfold Zsm Zsd Z7t;rw [Xc hu,h0,e1,en];simp only [Ya];rw [show ((0:Int) != 0)=false from rfl,Xf,h1,hn];simp only [Ya,Yi];rw [h2];simp only [Ya,if_true];rcases Z2q (Zl s) a with ⟨t,d,et,gt⟩ | ⟨c,hc,et⟩
   ·have ht:Z4f (Zl s) a=(t,Zl s,((d:Nat):Int),false):=by unfold Z4f;rw [et];rfl
    rw [ht,et];simp only [Yr,if_true,Yi]
    by_cases hd:d=(Zl s).length
    ·rw [show (((d:Nat):Int) != ((Zl s).length:Int))=false by rw [hd];simp]
     simp only [Xf];have is:Zhb n 1 1000000=some (decide (1≤n)&&decide (n≤1000000)):=rfl;rw [is];simp only [Ya];unfold Z3n
     by_cases q1:(decide (1≤n)&&decide (n≤1000000))=true
     ·by_cases q2:t.length≤80
      ·rw [q1,Xa q2,Xb (by omega:¬(80:Int)<(t.length:Int)),Xc ⟨hd,rfl⟩]
       rfl
      ·rw [q1,Xb q2,Xa (by omega:(80:Int)<(t.length:Int)),Xd (fun q=>by cases q.2)]
       rfl
     ·rw [Y5.2 q1,Xd (fun q=>by cases q.2)]
      rfl
    ·rw [show (((d:Nat):Int) != ((Zl s).length:Int))=true by simp;omega,Xd (fun q=>hd q.1)]
     rfl
   ·have ht:Z4f (Zl s) a=([],Zl s,((a:Nat):Int),true):=by unfold Z4f;rw [et,Xd hc]
    rw [ht,et,Xd hc];rfl
  ·have hn:Zib (Zl s) 0=(0,Zl s,((0:Nat):Int),true):=by unfold Zib;rw [en,Xd hc]
   obtain ⟨t,a',hw,_⟩:=Z4ab (Zl s) 0 (by omega) (by omega);refine (((Zot s (by omega)).and (Z73 (Zl s) 0 (by omega) (by omega))).and hw).mono fun k ⟨⟨h0,h1⟩,h2⟩=>?_
   have h1:Zgc k (Zl s,(0,false))=_:=h1;unfold Zsm Zsd Z7t;rw [Xc hu,h0,e1,en,Xd hc];simp only [Ya];rw [show ((0:Int) != 0)=false from rfl,Xf,h1,hn];simp only [Ya];rw [h2];rfl
 ·refine (Zot s (by omega)).mono fun k h0=>?_
  unfold Zsm Zsd;rw [Xd hu,h0];simp only [Ya];rw [show ((Zyc s).2 != 0)=true by simpa using hu];rfl
theorem Z4bb (s:Str):(Zsd s).2.1.length≤80:=by
 unfold Zsd
 split
 ·split
  ·split
   ·rename_i h
    have:=h.2;unfold Z3n at this;rw [Yg] at this;exact of_decide_eq_true this.2
   ·simp
  ·simp
 ·simp
def Zlb (f:Z2):Int×Str×Int×Int:=if (Zsd (Zz f 0)).2.2=0∧((Zsd (Zz f 1)).2.2≠0∨(Zsd (Zz f 1)).1≤(Zsd (Zz f 0)).1) then ((Zsd (Zz f 0)).1,(Zsd (Zz f 0)).2.1,(Zsd (Zz f 0)).2.2,0) else if (Zsd (Zz f 1)).2.2=0 then ((Zsd (Zz f 1)).1,(Zsd (Zz f 1)).2.1,(Zsd (Zz f 1)).2.2,1) else (0,[],6,-1)
theorem Zyo {f:Z2} (h:Z9f f=true):(1≤f.1.length∧f.1.length≤40∧f.2.length≤f.1.length)∧(∀x∈f.1,x.length≤96)∧∀i,i<f.2.length→(f.2.getD i (0,[])).2.length≤96:=by
 unfold Z9f at h
 rw [Yg,Yg] at h
 obtain ⟨h1,h2,h3⟩:=h
 refine ⟨of_decide_eq_true h1,fun x hx=>of_decide_eq_true (Ys.1 h2 x hx),fun i hi=>?_⟩
 have:=Ys.1 h3 i (Yp.2 hi)
 unfold okD at this
 rw [Yg,Yg] at this
 exact of_decide_eq_true this.1.2
theorem Zkm {f:Z2} (h:Z9f f=true) (n:Int):(Zz f n).length≤96:=by
 obtain ⟨_,h1,h2⟩:=Zyo h
 unfold Zz
 cases hd:Z8i f n with
 | some i=>exact h2 i (Zkv hd)
 | none=>
  by_cases q:n.toNat<f.1.length
  ·show (f.1.getD n.toNat []).length≤96
   rw [Yd,Yf q];exact h1 _ (Yn q)
  ·show (f.1.getD n.toNat []).length≤96
   rw [Yd,List.getElem?_eq_none (by omega)];simp
theorem Z63 {f:Z2} (h:Z9f f=true) (h2:2≤f.1.length):Ze fun k=>Z1c k f=some (Zlb f):=by
 obtain ⟨⟨b1,b2,b3⟩,_⟩:=Zyo h
 refine (((Z0ab (Zz f 0) (by have:=Zkm h 0;omega)).and (Z0ab (Zz f 1) (by have:=Zkm h 1;omega))).and (Ze.ge 100 fun k hk=>hk)).mono fun k ⟨⟨m0,m1⟩,hk⟩=>?_
 obtain ⟨j,rfl⟩:∃j,k=j+3:=⟨k-3,by omega⟩
 have r0:Zag (j+3) (f.1,f.2) 0=some (Zz f 0):=Z1o f 0 (by omega) (by omega) (by omega) (by omega)
 have r1:Zag (j+3) (f.1,f.2) 1=some (Zz f 1):=Z1o f 1 (by omega) (by omega) (by omega) (by omega)
 have w1:Ym .i64 ((0:Int)+1)=1:=by decide
 have w2:Ym .i64 ((1:Int)+1)=2:=by decide
 unfold Zlb
 generalize Zsd (Zz f 0)=a at m0
 generalize Zsd (Zz f 1)=b at m1
 obtain ⟨an,at',ac⟩:=a
 obtain ⟨bn,bt,bc⟩:=b
 have s0:∀j2,Z1c.l0 (j+3) (j2+1) f.1 f.2 (-1) 0 0 [] 6=if ac=0 then Z1c.l0 (j+3) j2 f.1 f.2 0 1 an at' ac else Z1c.l0 (j+3) j2 f.1 f.2 (-1) 1 0 [] 6:=fun j2=>by
  conv=>lhs;unfold Z1c.l0
  rw [show decide ((0:Int)<2)=true from rfl,Xe,r0];simp only [Ya];rw [m0];simp only [Ya,w1]
  by_cases q:ac=0
  ·rw [Xc q,q]
   rfl
  ·rw [Xd q,show (ac==0)=false by simpa using q]
   rfl
 have s1:∀j2 (p n c:Int) (t:Str),Z1c.l0 (j+3) (j2+2) f.1 f.2 p 1 n t c=if bc=0∧(p<0∨n<bn) then some (1,bn,bt,bc) else some (p,n,t,c):=fun j2 p n c t=>by
  have fin:∀(p n c:Int) (t:Str),Z1c.l0 (j+3) (j2+1) f.1 f.2 p 2 n t c=some (p,n,t,c):=fun p n c t=>by
   conv=>lhs;unfold Z1c.l0
   rfl
  conv=>lhs;unfold Z1c.l0
  rw [show decide ((1:Int)<2)=true from rfl,Xe,r1];simp only [Ya];rw [m1];simp only [Ya,w2,fin]
  by_cases q:bc=0
  ·subst q
   by_cases q2:p<0
   ·rw [Xa q2,Xc ⟨rfl,.inl q2⟩]
    rfl
   ·rw [Xb q2]
    by_cases q3:n<bn
    ·rw [Xa q3,Xc ⟨rfl,.inr q3⟩]
     rfl
    ·rw [Xb q3,Xd (by omega)]
     rfl
  ·rw [show (bc==0)=false by simpa using q,Xd (fun w=>q w.1)]
   rfl
 unfold Z1c
 rw [show j+3=(j+2)+1 from rfl]
 rw [s0 (j+2)]
 by_cases q:ac=0
 ·rw [Xc q,s1 j]
  by_cases q2:bc=0
  ·by_cases q3:an<bn
   ·rw [Xc ⟨q2,.inr q3⟩,Xd (by simp only [not_and];intro _ ;omega),Xc q2]
    rfl
   ·rw [Xd (by omega),Xc ⟨q,.inr (by omega)⟩]
    rfl
  ·rw [Xd (fun w=>q2 w.1),Xc ⟨q,.inl q2⟩]
   rfl
 ·rw [Xd q,s1 j,Xd (c:=ac=0∧_) (fun w=>q w.1)]
  by_cases q2:bc=0
  ·rw [Xc ⟨q2,.inl (by decide)⟩,Xc q2]
   rfl
  ·rw [Xd (fun w=>q2 w.1),Xd q2]
   rfl
theorem Zw0 {f:Z2} (h:Z9f f=true) (h2:2≤f.1.length):Ze fun k=>Zbl k f=some (Zlb f):=by
 obtain ⟨⟨b1,b2,b3⟩,_⟩:=Zyo h
 refine (((Z9db (Zz f 0) (by have:=Zkm h 0;omega)).and (Z9db (Zz f 1) (by have:=Zkm h 1;omega))).and (Ze.ge 100 fun k hk=>hk)).mono fun k ⟨⟨m0,m1⟩,hk⟩=>?_
 have r0:Ztb k f 0=some (Zz f 0):=Z8n f 0 (by omega) (by omega) (by omega) (by omega)
 have r1:Ztb k f 1=some (Zz f 1):=Z8n f 1 (by omega) (by omega) (by omega) (by omega)
 unfold Zbl Zlb
 rw [r0]
 simp only [Ya]
 rw [m0]
 simp only [Ya]
 rw [r1]
 simp only [Ya]
 rw [m1]
 simp only [Ya]
 generalize Zsd (Zz f 0)=a
 generalize Zsd (Zz f 1)=b
 obtain ⟨an,at',ac⟩:=a
 obtain ⟨bn,bt,bc⟩:=b
 dsimp only
 by_cases q:ac=0
 ·rw [show (ac==0)=true by simpa using q,Yh]
  by_cases q2:bc=0
  ·rw [show (bc != 0)=false by simpa using q2,Yr,show (bc==0)=true by simpa using q2]
   by_cases q3:bn≤an
   ·rw [Xa q3,Xc ⟨q,.inr q3⟩]
    rfl
   ·rw [Xb q3,Xd (by omega),Xc q2]
    rfl
  ·rw [show (bc != 0)=true by simpa using q2,Xc ⟨q,.inl q2⟩]
   rfl
 ·rw [show (ac==0)=false by simpa using q,Xd (fun w=>q w.1)]
  by_cases q2:bc=0
  ·rw [show (bc==0)=true by simpa using q2,Xc q2]
   rfl
  ·rw [show (bc==0)=false by simpa using q2,Xd q2]
   rfl
def Zub (v:Nat) (n:Nat):List Nat:=(Yo n).filter fun i=>v.testBit i
def Zb (v:Nat):List Int:=(Zub v 24).map fun n=>((n:Nat):Int)
theorem Zfr (v n:Nat):Zub v (n+1)=if v.testBit n=true then Zub v n++[n] else Zub v n:=by
 unfold Zub
 rw [Ypa,List.filter_append]
 by_cases h:v.testBit n=true
 ·rw [Xc h,List.filter_cons_of_pos h];rfl
 ·rw [Xd h,List.filter_cons_of_neg h];simp
theorem Z5x (v n:Nat):(Zub v n).length≤n:=by
 unfold Zub
 refine Yra (List.length_filter_le _ _) ?_
 simp
theorem Z4s {v n x:Nat} (h:x∈Zub v n):x<n∧v.testBit x=true:=by
 unfold Zub at h
 rw [Yga,Yp] at h
 exact h
theorem Z7c (v:Nat):(Zb v).length≤24:=by
 unfold Zb
 rw [Y2]
 exact Z5x v 24
theorem Zvgb (a:Nat) (ha:a<9223372036854775808):intBits .and .i64 (a:Int) 1=((a%2:Nat):Int):=by
 unfold intBits
 simp only [IntKind.bits]
 have h1:(Yj 64 (a:Int) &&& Yj 64 1).toNat=a%2:=by
  rw [Yha,Yw,Yw];have:((a:Int)%((2^64:Nat):Int)).toNat=a:=by omega
  rw [this];show a &&& 1=a%2;rw [Nat.and_one_is_mod]
 show Ym .i64 (((Yj 64 (a:Int) &&& Yj 64 1).toNat:Nat):Int)=_
 rw [h1]
 exact w64 (by omega) (by omega)
theorem Zi8 (v i:Nat) (hv:v<16777216) (hi:i<24):(intBits .and .i64 (shr .i64 (v:Int) (i:Int)) 1==1)=v.testBit i:=by
 rw [Zpi .i64 _ i (by show i≤64;omega),Zvgb _ (Ysa (Nat.div_le_self _ _) (by omega)),Yxa]
 rw [Yz,beq_iff_eq,decide_eq_true_iff]
 omega
theorem Z1y (v:Nat) (hv:v<16777216):∀k,24<k→Zid k (v:Int)=some (Zb v):=by
 intro k hk
 have h:=Zrb (fun j i=>Zid.l0 j (v:Int) (i:Int) ((Zub v i).map fun n=>((n:Nat):Int))) 24 (Zb v) (fun i hi j=>?_) (fun j=>?_) k hk
 ·have h:Zid.l0 k (v:Int) 0 []=some (Zb v):=h
  unfold Zid;rw [h];rfl
 ·have hl:=Z5x v i
  conv=>lhs;unfold Zid.l0
  rw [Xa (by omega:(i:Int)<24),Zn (by omega)];dsimp only;rw [Xe,Z3c (by omega),Zi8 v i hv hi,Zfr];simp only [Ya];cases hb:v.testBit i with
  | true=>rw [Z4 (by simp;omega)];simp
  | false=>simp
 ·conv=>lhs;unfold Zid.l0
  rfl
theorem Z4db (v:Nat) (hv:v<16777216):∀k,24<k→Zfd k (v:Int)=some (Zb v):=by
 intro k hk
 have h:=Zrb (fun j i=>Zfd.l0 j (v:Int) (i:Int) ((Zub v i).map fun n=>((n:Nat):Int))) 24 (Zb v) (fun i hi j=>?_) (fun j=>?_) k hk
 ·have h:Zfd.l0 k (v:Int) 0 []=some (Zb v):=h
  unfold Zfd;rw [Xb (by omega:¬(v:Int)<0),Xb (by omega:¬(16777216:Int)≤(v:Int)),h];rfl
 ·have hl:=Z5x v i
  conv=>lhs;unfold Zfd.l0
  rw [Xa (by omega:(i:Int)<24),Zn (by omega)];dsimp only;rw [Xe,Z3c (by omega),Zi8 v i hv hi,Zfr];simp only [Ya];cases hb:v.testBit i with
  | true=>rw [Z4 (by simp;omega)];simp
  | false=>simp
 ·conv=>lhs;unfold Zfd.l0
  rfl
theorem Zcob (v:Int) (h:v<0∨16777216≤v) (k:Nat):Zfd k v=some []:=by
 unfold Zfd
 by_cases q:v<0
 ·rw [Xa q];rfl
 ·rw [Xb q,Xa (by omega:(16777216:Int)≤v)];rfl
theorem Zdv (v n:Nat):(Zub v n).Pairwise (· < ·):=List.Pairwise.filter _ List.pairwise_lt_range
theorem Zyj {v i:Nat} (h:i<(Zb v).length):0≤(Zb v)[i]∧(Zb v)[i]≤23:=by
 have hm:=Yn h
 obtain ⟨x,hx,e⟩:=Yba.1 hm
 have:=(Z4s hx).1
 omega
theorem Zl8 {v i:Nat} (h:i+1<(Zb v).length):(Zb v)[i]'(by omega)<(Zb v)[i+1]:=by
 have hl:(Zb v).length=(Zub v 24).length:=by unfold Zb;rw [Y2]
 have:=Yoa.1 (Zdv v 24) i (i+1) (by omega) (by omega) (by omega)
 have e:∀q (hq:q<(Zb v).length),(Zb v)[q]=(((Zub v 24)[q]'(by omega):Nat):Int):=fun q hq=>by simp [Zb]
 rw [e,e]
 omega
theorem Zxab (v:Nat):∀k,24<k→Zue k (Zb v)=some true:=by
 intro k hk
 have hlen:=Z7c v
 have h:=Zrb (fun j i=>Zue.l0 j (Zb v) (Zb v) ((Zb v).length:Int) (i:Int)) (Zb v).length (.inl ()) (fun i hi j=>?_) (fun j=>?_) k (by omega)
 ·have h:Zue.l0 k (Zb v) (Zb v) ((Zb v).length:Int) 0=some (.inl ()):=h
  unfold Zue;rw [h];rfl
 ·obtain ⟨q1,q2⟩:=Zyj hi
  conv=>lhs;unfold Zue.l0
  rw [dlt hi,Zi hi,Zn (by omega)];simp only [Xe,Ya];unfold Zhb;rw [Xa q1,Xa q2];simp only [Ya,Ye,Yb,Xf]
  by_cases h0:0<i
  ·obtain ⟨m,rfl⟩:∃m,i=m+1:=⟨i-1,by omega⟩
   have:=Zl8 hi;rw [Xa (by omega:(0:Int)<((m+1:Nat):Int)),w64 (by omega) (by omega),show ((m+1:Nat):Int)-1=(m:Int) by omega,Zi (by omega)];simp only [Xe,Ya];rw [Xb (by omega)];rfl
  ·rw [Xb (by omega:¬(0:Int)<(i:Int))]
   rfl
 ·conv=>lhs;unfold Zue.l0
  rw [Zv (Yc _)];rfl
theorem Zh6 (v:Nat):∀k,24<k→Z6d k (Zb v)=some true:=by
 intro k hk
 have hlen:=Z7c v
 have h:=Zrb (fun j i=>Z6d.l0 j (Zb v) (i:Int)) (Zb v).length (.inl ()) (fun i hi j=>?_) (fun j=>?_) k (by omega)
 ·have h:Z6d.l0 k (Zb v) 0=some (.inl ()):=h
  unfold Z6d;rw [Xb (by omega:¬(24:Int)<((Zb v).length:Int)),h];rfl
 ·obtain ⟨q1,q2⟩:=Zyj hi
  conv=>lhs;unfold Z6d.l0
  rw [dlt hi,Zi hi,Zn (by omega)];simp only [Xe,Ya];unfold Zfb;rw [Xa q1,Xa q2];simp only [Ya,Ye,Yb,Xf]
  by_cases h0:0<i
  ·obtain ⟨m,rfl⟩:∃m,i=m+1:=⟨i-1,by omega⟩
   have:=Zl8 hi;rw [Xa (by omega:(0:Int)<((m+1:Nat):Int)),w64 (by omega) (by omega),show ((m+1:Nat):Int)-1=(m:Int) by omega,Zi (by omega)];simp only [Xe,Ya];rw [Xb (by omega)];rfl
  ·rw [Xb (by omega:¬(0:Int)<(i:Int))]
   rfl
 ·conv=>lhs;unfold Z6d.l0
  rw [Zv (Yc _)];rfl
def Zme:List Nat→Nat
 | []=>0
 | x::l=>2^x+Zme l
theorem Z16 (a b:List Nat):Zme (a++b)=Zme a+Zme b:=by
 induction a with
 | nil=>simp [Zme]
 | cons x a ih=>rw [List.cons_append,Zme,Zme,ih];omega
theorem Zf1 (v:Nat):∀n,Zme (Zub v n)=v%2^n
 | 0=>by simp [Zub,Zme,Nat.mod_one]
 | n+1=>by
  have h2:v%2^(n+1)=v%2^n+2^n*(v/2^n%2):=by rw [Yva,Nat.mod_mul]
  rw [Zfr,h2];have ht:v.testBit n=decide (v/2^n%2=1):=Yxa
  by_cases hb:v.testBit n=true
  ·rw [Xc hb,Z16,Zf1 v n]
   rw [ht] at hb;rw [of_decide_eq_true hb];simp [Zme]
  ·rw [Xd hb,Zf1 v n]
   rw [ht] at hb;have:v/2^n%2≠1:=fun q=>hb (Xa q)
   have:v/2^n%2=0:=by omega
   rw [this];omega
theorem Zrpb {l:List Nat} {x:Nat} (hs:l.Pairwise (· < ·)) (h:∀y∈l,y<x):Zme l<2^x:=by
 have:∀(l:List Nat) (x:Nat),l.reverse.Pairwise (· < ·)→(∀y∈l,y<x)→Zme l<2^x:=by
  intro l
  induction l with
  | nil=>intro x _ _;exact Nat.two_pow_pos x
  | cons a l ih=>
   intro x hs h;rw [Yqa,List.pairwise_append] at hs;have ha:=h a Yma;have h1:=ih a hs.1 fun y hy=>hs.2.2 y (Yna.2 hy) a Yma
   have h2:2^(a+1)≤2^x:=Yca (by omega) ha;rw [Yva] at h2;rw [Zme];omega
 have hr:∀l:List Nat,Zme l.reverse=Zme l:=by
  intro l
  induction l with
  | nil=>rfl
  | cons a l ih=>rw [Yqa,Z16,ih,Zme,Zme,Zme];omega
 rw [← hr]
 refine this _ x ?_ fun y hy=>h y (Yna.1 hy)
 rwa [List.reverse_reverse]
theorem Zueb {x:Nat} (h:x<24):shl .i64 1 (x:Int)=((2^x:Nat):Int):=by
 have hp:2^x≤2^24:=Yca (by omega) (by omega)
 unfold shl
 rw [Yi,Yta (by show x≤64;omega),Int.one_mul]
 have e:(2:Int)^x=((2^x:Nat):Int):=by rw [Int.natCast_pow];rfl
 rw [e]
 have h24:(2:Nat)^24=16777216:=by decide
 generalize (2:Nat)^x=p at hp ⊢
 exact w64 (by omega) (by omega)
theorem ori (a b:Nat) (ha:a<9223372036854775808) (hb:b<9223372036854775808):intBits .or .i64 (a:Int) (b:Int)=((a ||| b:Nat):Int):=by
 have h1:(Yj 64 (a:Int) ||| Yj 64 (b:Int)).toNat=a ||| b:=by
  rw [BitVec.toNat_or,Yw,Yw];have h1:((a:Int)%((2^64:Nat):Int)).toNat=a:=by omega
  have h2:((b:Int)%((2^64:Nat):Int)).toNat=b:=by omega
  rw [h1,h2]
 have hlt:a ||| b<2^63:=Nat.or_lt_two_pow (by simpa using ha) (by simpa using hb)
 unfold intBits
 show Ym .i64 (((Yj 64 (a:Int) ||| Yj 64 (b:Int)).toNat:Nat):Int)=_
 rw [h1]
 exact w64 (by omega) (by simpa using (by exact_mod_cast hlt:((a ||| b:Nat):Int)<2^63))
theorem Zcfb {l:List Nat} {i:Nat} (h:i<l.length):Zme (l.take (i+1))=Zme (l.take i)+2^l[i]:=by
 rw [Zai h,Z16,Zme,Zme,Nat.add_zero]
theorem Zdfb {v i:Nat} (h:i<(Zub v 24).length):Zme ((Zub v 24).take i)<2^(Zub v 24)[i]:=by
 refine Zrpb ((Zdv v 24).sublist (List.take_sublist _ _)) fun y hy=>?_
 obtain ⟨j,hj,rfl⟩:=Y4.1 hy
 rw [Y3] at hj
 rw [Yea]
 exact Yoa.1 (Zdv v 24) j i (by omega) h (by omega)
theorem Zj8 {v i:Nat} (h:i<(Zub v 24).length):(Zb v)[i]'(by unfold Zb;rwa [Y2])=(((Zub v 24)[i]:Nat):Int)∧(Zub v 24)[i]<24∧2^(Zub v 24)[i]≤8388608:=by
 have hx:=(Z4s (Yn h)).1
 refine ⟨by simp [Zb],hx,?_⟩
 have:2^(Zub v 24)[i]≤2^23:=Yca (by omega) (by omega)
 simpa using this
theorem Z0o (v:Nat) (hv:v<16777216):∀k,24<k→Zmc k (Zb v)=some (v:Int):=by
 intro k hk
 have hlen:=Z7c v
 have hl:(Zb v).length=(Zub v 24).length:=by unfold Zb;rw [Y2]
 have h:=Zrb (fun j i=>Zmc.l0 j ((Zme ((Zub v 24).take i):Nat):Int) (Zb v) ((Zb v).length:Int) (i:Int)) (Zb v).length (v:Int) (fun i hi j=>?_) (fun j=>?_) k (by omega)
 ·have h:Zmc.l0 k 0 (Zb v) ((Zb v).length:Int) 0=some (v:Int):=h
  unfold Zmc;rw [h];rfl
 ·have hi2:i<(Zub v 24).length:=by omega
  obtain ⟨e1,e2,e3⟩:=Zj8 hi2;have hs:=Zdfb hi2
  conv=>lhs;unfold Zmc.l0
  rw [dlt hi,Zi hi,Zn (by omega)];simp only [Xe,Ya];rw [e1,Z3c (by omega),Zueb e2,ori _ _ (by omega) (by omega),Zcfb hi2];simp only [Ya]
  have:Zme ((Zub v 24).take i) ||| 2^(Zub v 24)[i]=Zme ((Zub v 24).take i)+2^(Zub v 24)[i]:=by
   have:=Nat.two_pow_add_eq_or_of_lt hs 1;rw [Nat.mul_one] at this;rw [Nat.or_comm,← this,Nat.add_comm]
  rw [this]
 ·conv=>lhs;unfold Zmc.l0
  rw [Zv (Yc _),hl,Yv,Zf1,Yua (by simpa using hv)];rfl
theorem Zq0 (v:Nat) (hv:v<16777216):∀k,24<k→Zud k (Zb v)=some (v:Int):=by
 intro k hk
 have hlen:=Z7c v
 have hl:(Zb v).length=(Zub v 24).length:=by unfold Zb;rw [Y2]
 have h:=Zrb (fun j i=>Zud.l0 j (Zb v) ((Zme ((Zub v 24).take i):Nat):Int) (i:Int)) (Zb v).length (v:Int) (fun i hi j=>?_) (fun j=>?_) k (by omega)
 ·have h:Zud.l0 k (Zb v) 0 0=some (v:Int):=h
  unfold Zud;rw [Zh6 v k hk];simp only [Ya,Yb,Xf];rw [h];rfl
 ·have hi2:i<(Zub v 24).length:=by omega
  obtain ⟨e1,e2,e3⟩:=Zj8 hi2;have hs:=Zdfb hi2
  conv=>lhs;unfold Zud.l0
  rw [dlt hi,Zi hi,Zn (by omega)];simp only [Xe,Ya];rw [e1,Z3c (by omega),Zueb e2,Zcfb hi2];simp only [Ya];rw [w64 (by omega) (by omega),← Int.natCast_add]
 ·conv=>lhs;unfold Zud.l0
  rw [Zv (Yc _),hl,Yv,Zf1,Yua (by simpa using hv)];rfl
def Zpb (s:Str) (a:Nat):Option (Int×Nat):=if (Zdd s a).2.2=0 then some ((Zdd s a).1,(Zdd s a).2.1.toNat) else none
def Zug (s:Str) (a:Nat):Option (Str×Nat):=if (Znh s a).2.2=0 then some ((Znh s a).1,(Znh s a).2.1.toNat) else none
theorem Zwi {s:Str} {a:Nat} {n:Int} {a':Nat} (h:Zpb s a=some (n,a')):Got s a n a':=by
 unfold Zpb at h
 rcases Z0k s a with ⟨m,b,e,g⟩ | ⟨c,hc,e⟩
 ·rw [e] at h
  simp only [if_true,Yi,Y1a.injEq,Prod.mk.injEq] at h;obtain ⟨rfl,rfl⟩:=h;exact g
 ·rw [e,Xd hc] at h
  cases h
theorem Z66 {s:Str} {a:Nat} {t:Str} {a':Nat} (h:Zug s a=some (t,a')):GotT s a t a':=by
 unfold Zug at h
 rcases Z2q s a with ⟨m,b,e,g⟩ | ⟨c,hc,e⟩
 ·rw [e] at h
  simp only [if_true,Yi,Y1a.injEq,Prod.mk.injEq] at h;obtain ⟨rfl,rfl⟩:=h;exact g
 ·rw [e,Xd hc] at h
  cases h
def StS (s:Str) (st:Str×Int×Bool) (p:Option Nat):Prop:=st.1=s∧∃a:Nat,st.2.1=(a:Int)∧a≤8000∧match p with
 | some q=>a=q∧st.2.2=false
 | none=>st.2.2=true
def Zd (s:Str) (p:Option Nat):Option Nat:=match p with
 | some a=>(Zpb s a).map (·.2)
 | none=>none
def Zcb (s:Str) (p:Option Nat):Option Nat:=match p with
 | some a=>(Zug s a).map (·.2)
 | none=>none
theorem Zccb {s:Str} (hs:s.length≤8000) (a:Nat) (ha:a≤8000):StS s (Zib s a).2 (Zd s (some a))∧∀n a',Zpb s a=some (n,a')→(Zib s a).1=n:=by
 show StS s (Zib s a).2 ((Zpb s a).map (·.2))∧_
 rcases Z0k s a with ⟨m,b,e,g⟩ | ⟨c,hc,e⟩
 ·have hb:=g.le
  have hr:Zib s a=(m,s,((b:Nat):Int),false):=by unfold Zib;rw [e];rfl
  have hn:Zpb s a=some (m,b):=by unfold Zpb;rw [e];rfl
  rw [hr,hn];exact ⟨⟨rfl,b,rfl,by omega,rfl,rfl⟩,fun n a' h=>by cases h;rfl⟩
 ·have hr:Zib s a=(0,s,(a:Int),true):=by unfold Zib;rw [e,Xd hc]
  have hn:Zpb s a=none:=by unfold Zpb;rw [e,Xd hc]
  rw [hr,hn];exact ⟨⟨rfl,a,rfl,ha,rfl⟩,fun n a' h=>by cases h⟩
theorem Zgfb {s:Str} (hs:s.length≤8000) (a:Nat) (ha:a≤8000):StS s (Z4f s a).2 (Zcb s (some a))∧∀n a',Zug s a=some (n,a')→(Z4f s a).1=n:=by
 show StS s (Z4f s a).2 ((Zug s a).map (·.2))∧_
 rcases Z2q s a with ⟨m,b,e,g⟩ | ⟨c,hc,e⟩
 ·have hb:=g.le
  have hr:Z4f s a=(m,s,((b:Nat):Int),false):=by unfold Z4f;rw [e];rfl
  have hn:Zug s a=some (m,b):=by unfold Zug;rw [e];rfl
  rw [hr,hn];exact ⟨⟨rfl,b,rfl,by omega,rfl,rfl⟩,fun n a' h=>by cases h;rfl⟩
 ·have hr:Z4f s a=([],s,(a:Int),true):=by unfold Z4f;rw [e,Xd hc]
  have hn:Zug s a=none:=by unfold Zug;rw [e,Xd hc]
  rw [hr,hn];exact ⟨⟨rfl,a,rfl,ha,rfl⟩,fun n a' h=>by cases h⟩
theorem StS.form {s:Str} {st:Str×Int×Bool} {p:Option Nat} (h:StS s st p):(∃a,p=some a∧a≤8000∧st=(s,((a:Int),false)))∨∃a:Nat,p=none∧a≤8000∧st=(s,((a:Int),true)):=by
 obtain ⟨x,y,z⟩:=st
 obtain ⟨rfl,a,h1,h2,h3⟩:=h
 have h1:y=(a:Int):=h1
 subst h1
 cases p with
 | some q=>
  obtain ⟨h4,h5⟩:=h3;have h5:z=false:=h5;exact .inl ⟨q,rfl,by omega,by rw [h4,h5]⟩
 | none=>
  have h3:z=true:=h3;exact .inr ⟨a,rfl,h2,by rw [h3]⟩
theorem Z3m {s:Str} (hs:s.length≤8000) {st:Str×Int×Bool} {p:Option Nat} (h:StS s st p):∃v,(Ze fun k=>Zdc k st=some v)∧StS s v.2 (Zd s p)∧∀a n a',p=some a→Zpb s a=some (n,a')→v.1=n:=by
 rcases h.form with ⟨a,rfl,ha,rfl⟩ | ⟨a,rfl,ha,rfl⟩
 ·obtain ⟨h1,h2⟩:=Zccb hs a ha
  exact ⟨_,Zmu s a (by omega) hs,h1,fun a0 n a' e h=>by cases e;exact h2 n a' h⟩
 ·exact ⟨_,Zj6 s a (by omega) hs,⟨rfl,a,rfl,ha,rfl⟩,fun a0 n a' e=>by cases e⟩
theorem Zieb {s:Str} (hs:s.length≤8000) {st:Str×Int×Bool} {p:Option Nat} (h:StS s st p):∃v,(Ze fun k=>Zwh k st=some v)∧StS s v.2 (Zcb s p)∧∀a n a',p=some a→Zug s a=some (n,a')→v.1=n:=by
 rcases h.form with ⟨a,rfl,ha,rfl⟩ | ⟨a,rfl,ha,rfl⟩
 ·obtain ⟨h1,h2⟩:=Zgfb hs a ha
  exact ⟨_,Zjeb s a (by omega) hs,h1,fun a0 n a' e h=>by cases e;exact h2 n a' h⟩
 ·exact ⟨_,Z10 s a (by omega) hs,⟨rfl,a,rfl,ha,rfl⟩,fun a0 n a' e=>by cases e⟩
theorem Z5j {s:Str} (hs:s.length≤8000) {st:Str×Int×Bool} {p:Option Nat} (h:StS s st p):∃v,(Ze fun k=>Zgc k st=some v)∧StS s v.2 (Zd s p)∧∀a n a',p=some a→Zpb s a=some (n,a')→v.1=n:=by
 rcases h.form with ⟨a,rfl,ha,rfl⟩ | ⟨a,rfl,ha,rfl⟩
 ·obtain ⟨h1,h2⟩:=Zccb hs a ha
  exact ⟨_,Z73 s a (by omega) (by omega),h1,fun a0 n a' e h=>by cases e;exact h2 n a' h⟩
 ·obtain ⟨n,a',h1,h2⟩:=Zfkb s a (by omega) (by omega)
  exact ⟨_,h1,⟨rfl,a',rfl,by omega,rfl⟩,fun a0 n a' e=>by cases e⟩
theorem Z93 {s:Str} (hs:s.length≤8000) {st:Str×Int×Bool} {p:Option Nat} (h:StS s st p):∃v,(Ze fun k=>Zyg k st=some v)∧StS s v.2 (Zcb s p)∧∀a n a',p=some a→Zug s a=some (n,a')→v.1=n:=by
 rcases h.form with ⟨a,rfl,ha,rfl⟩ | ⟨a,rfl,ha,rfl⟩
 ·obtain ⟨h1,h2⟩:=Zgfb hs a ha
  exact ⟨_,Z3ab s a (by omega) (by omega),h1,fun a0 n a' e h=>by cases e;exact h2 n a' h⟩
 ·obtain ⟨n,a',h1,h2⟩:=Z4ab s a (by omega) (by omega)
  exact ⟨_,h1,⟨rfl,a',rfl,by omega,rfl⟩,fun a0 n a' e=>by cases e⟩
def stZ (s:Str):Option ((Int×Int×Int×Int×Int×Int×Int×Str)×Nat):=(Zpb s 0).bind fun x1=>(Zpb s x1.2).bind fun x2=>(Zpb s x2.2).bind fun x3=>(Zpb s x3.2).bind fun x4=>(Zpb s x4.2).bind fun x5=>(Zpb s x5.2).bind fun x6=>(Zpb s x6.2).bind fun x7=>(Zug s x7.2).map fun t=>((x1.1,x2.1,x3.1,x4.1,x5.1,x6.1,x7.1,t.1),t.2)
theorem Znob (s:Str) (hs:s.length≤8000):∃v1 v2 v3 v4 v5 v6 v7:Int×Str×Int×Bool,∃v8:Str×Str×Int×Bool,(Ze fun k=>Zdc k (s,(0,false))=some v1∧Zdc k v1.2=some v2∧Zdc k v2.2=some v3∧Zdc k v3.2=some v4∧Zdc k v4.2=some v5∧Zdc k v5.2=some v6∧Zdc k v6.2=some v7∧Zwh k v7.2=some v8) ∧
  ((∃d:Nat,stZ s=some ((v1.1,v2.1,v3.1,v4.1,v5.1,v6.1,v7.1,v8.1),d)∧v8.2=(s,((d:Nat):Int),false))∨(stZ s=none∧v8.2.2.2=true)):=by
 have h0:StS s (s,((0:Nat):Int),false) (some 0):=⟨rfl,0,rfl,by omega,rfl,rfl⟩
 obtain ⟨v1,e1,h1,g1⟩:=Z3m hs h0
 obtain ⟨v2,e2,h2,g2⟩:=Z3m hs h1
 obtain ⟨v3,e3,h3,g3⟩:=Z3m hs h2
 obtain ⟨v4,e4,h4,g4⟩:=Z3m hs h3
 obtain ⟨v5,e5,h5,g5⟩:=Z3m hs h4
 obtain ⟨v6,e6,h6,g6⟩:=Z3m hs h5
 obtain ⟨v7,e7,h7,g7⟩:=Z3m hs h6
 obtain ⟨v8,e8,h8,g8⟩:=Zieb hs h7
 refine ⟨v1,v2,v3,v4,v5,v6,v7,v8,(((((((e1.and e2).and e3).and e4).and e5).and e6).and e7).and e8).mono fun k ⟨⟨⟨⟨⟨⟨⟨q1,q2⟩,q3⟩,q4⟩,q5⟩,q6⟩,q7⟩,q8⟩=>⟨q1,q2,q3,q4,q5,q6,q7,q8⟩,?_⟩
 clear e1 e2 e3 e4 e5 e6 e7 e8 h0 h1 h2 h3 h4 h5 h6 h7
 have bad:∀{st:Str×Int×Bool},StS s st none→st.2.2=true:=fun h=>h.2.choose_spec.2.2
 cases x1:Zpb s 0 with
 | none=>
  refine .inr ⟨by simp [stZ,x1],bad (st:=v8.2) ?_⟩;have:Zcb s (Zd s (Zd s (Zd s (Zd s (Zd s (Zd s (Zd s (some 0))))))))=none:=by simp [Zd,Zcb,x1]
  rwa [this] at h8
 | some y1=>
 obtain ⟨n1,a1⟩:=y1
 cases x2:Zpb s a1 with
 | none=>
  refine .inr ⟨by simp [stZ,x1,x2],bad (st:=v8.2) ?_⟩;have:Zcb s (Zd s (Zd s (Zd s (Zd s (Zd s (Zd s (Zd s (some 0))))))))=none:=by simp [Zd,Zcb,x1,x2]
  rwa [this] at h8
 | some y2=>
 obtain ⟨n2,a2⟩:=y2
 cases x3:Zpb s a2 with
 | none=>
  refine .inr ⟨by simp [stZ,x1,x2,x3],bad (st:=v8.2) ?_⟩;have:Zcb s (Zd s (Zd s (Zd s (Zd s (Zd s (Zd s (Zd s (some 0))))))))=none:=by simp [Zd,Zcb,x1,x2,x3]
  rwa [this] at h8
 | some y3=>
 obtain ⟨n3,a3⟩:=y3
 cases x4:Zpb s a3 with
 | none=>
  refine .inr ⟨by simp [stZ,x1,x2,x3,x4],bad (st:=v8.2) ?_⟩;have:Zcb s (Zd s (Zd s (Zd s (Zd s (Zd s (Zd s (Zd s (some 0))))))))=none:=by simp [Zd,Zcb,x1,x2,x3,x4]
  rwa [this] at h8
 | some y4=>
 obtain ⟨n4,a4⟩:=y4
 cases x5:Zpb s a4 with
 | none=>
  refine .inr ⟨by simp [stZ,x1,x2,x3,x4,x5],bad (st:=v8.2) ?_⟩;have:Zcb s (Zd s (Zd s (Zd s (Zd s (Zd s (Zd s (Zd s (some 0))))))))=none:=by simp [Zd,Zcb,x1,x2,x3,x4,x5]
  rwa [this] at h8
 | some y5=>
 obtain ⟨n5,a5⟩:=y5
 cases x6:Zpb s a5 with
 | none=>
  refine .inr ⟨by simp [stZ,x1,x2,x3,x4,x5,x6],bad (st:=v8.2) ?_⟩;have:Zcb s (Zd s (Zd s (Zd s (Zd s (Zd s (Zd s (Zd s (some 0))))))))=none:=by simp [Zd,Zcb,x1,x2,x3,x4,x5,x6]
  rwa [this] at h8
 | some y6=>
 obtain ⟨n6,a6⟩:=y6
 cases x7:Zpb s a6 with
 | none=>
  refine .inr ⟨by simp [stZ,x1,x2,x3,x4,x5,x6,x7],bad (st:=v8.2) ?_⟩;have:Zcb s (Zd s (Zd s (Zd s (Zd s (Zd s (Zd s (Zd s (some 0))))))))=none:=by simp [Zd,Zcb,x1,x2,x3,x4,x5,x6,x7]
  rwa [this] at h8
 | some y7=>
 obtain ⟨n7,a7⟩:=y7
 cases x8:Zug s a7 with
 | none=>
  refine .inr ⟨by simp [stZ,x1,x2,x3,x4,x5,x6,x7,x8],bad (st:=v8.2) ?_⟩;have:Zcb s (Zd s (Zd s (Zd s (Zd s (Zd s (Zd s (Zd s (some 0))))))))=none:=by simp [Zd,Zcb,x1,x2,x3,x4,x5,x6,x7,x8]
  rwa [this] at h8
 | some y8=>
  obtain ⟨t,d⟩:=y8;have p1:Zd s (some 0)=some a1:=by simp [Zd,x1]
  have p2:Zd s (Zd s (some 0))=some a2:=by simp [Zd,x1,x2]
  have p3:Zd s (Zd s (Zd s (some 0)))=some a3:=by simp [Zd,x1,x2,x3]
  have p4:Zd s (Zd s (Zd s (Zd s (some 0))))=some a4:=by simp [Zd,x1,x2,x3,x4]
  have p5:Zd s (Zd s (Zd s (Zd s (Zd s (some 0)))))=some a5:=by simp [Zd,x1,x2,x3,x4,x5]
  have p6:Zd s (Zd s (Zd s (Zd s (Zd s (Zd s (some 0))))))=some a6:=by simp [Zd,x1,x2,x3,x4,x5,x6]
  have p7:Zd s (Zd s (Zd s (Zd s (Zd s (Zd s (Zd s (some 0)))))))=some a7:=by simp [Zd,x1,x2,x3,x4,x5,x6,x7]
  have p8:Zcb s (Zd s (Zd s (Zd s (Zd s (Zd s (Zd s (Zd s (some 0))))))))=some d:=by simp [Zd,Zcb,x1,x2,x3,x4,x5,x6,x7,x8]
  have r1:=g1 _ _ _ rfl x1;have r2:=g2 _ _ _ p1 x2;have r3:=g3 _ _ _ p2 x3;have r4:=g4 _ _ _ p3 x4;have r5:=g5 _ _ _ p4 x5;have r6:=g6 _ _ _ p5 x6;have r7:=g7 _ _ _ p6 x7;have r8:=g8 _ _ _ p7 x8;refine .inl ⟨d,?_,?_⟩
  ·rw [r1,r2,r3,r4,r5,r6,r7,r8]
   simp [stZ,x1,x2,x3,x4,x5,x6,x7,x8]
  ·rw [p8] at h8
   rcases h8.form with ⟨a,e,_,q⟩ | ⟨a,e,_,q⟩
   ·cases e;exact q
   ·cases e
theorem Zkkb (s:Str) (hs:s.length≤8000):∃v1 v2 v3 v4 v5 v6 v7:Int×Str×Int×Bool,∃v8:Str×Str×Int×Bool,(Ze fun k=>Zgc k (s,(0,false))=some v1∧Zgc k v1.2=some v2∧Zgc k v2.2=some v3∧Zgc k v3.2=some v4∧Zgc k v4.2=some v5∧Zgc k v5.2=some v6∧Zgc k v6.2=some v7∧Zyg k v7.2=some v8) ∧
  ((∃d:Nat,stZ s=some ((v1.1,v2.1,v3.1,v4.1,v5.1,v6.1,v7.1,v8.1),d)∧v8.2=(s,((d:Nat):Int),false))∨(stZ s=none∧v8.2.2.2=true)):=by
 have h0:StS s (s,((0:Nat):Int),false) (some 0):=⟨rfl,0,rfl,by omega,rfl,rfl⟩
 obtain ⟨v1,e1,h1,g1⟩:=Z5j hs h0
 obtain ⟨v2,e2,h2,g2⟩:=Z5j hs h1
 obtain ⟨v3,e3,h3,g3⟩:=Z5j hs h2
 obtain ⟨v4,e4,h4,g4⟩:=Z5j hs h3
 obtain ⟨v5,e5,h5,g5⟩:=Z5j hs h4
 obtain ⟨v6,e6,h6,g6⟩:=Z5j hs h5
 obtain ⟨v7,e7,h7,g7⟩:=Z5j hs h6
 obtain ⟨v8,e8,h8,g8⟩:=Z93 hs h7
 refine ⟨v1,v2,v3,v4,v5,v6,v7,v8,(((((((e1.and e2).and e3).and e4).and e5).and e6).and e7).and e8).mono fun k ⟨⟨⟨⟨⟨⟨⟨q1,q2⟩,q3⟩,q4⟩,q5⟩,q6⟩,q7⟩,q8⟩=>⟨q1,q2,q3,q4,q5,q6,q7,q8⟩,?_⟩
 clear e1 e2 e3 e4 e5 e6 e7 e8 h0 h1 h2 h3 h4 h5 h6 h7
 have bad:∀{st:Str×Int×Bool},StS s st none→st.2.2=true:=fun h=>h.2.choose_spec.2.2
 cases x1:Zpb s 0 with
 | none=>
  refine .inr ⟨by simp [stZ,x1],bad (st:=v8.2) ?_⟩;have:Zcb s (Zd s (Zd s (Zd s (Zd s (Zd s (Zd s (Zd s (some 0))))))))=none:=by simp [Zd,Zcb,x1]
  rwa [this] at h8
 | some y1=>
 obtain ⟨n1,a1⟩:=y1
 cases x2:Zpb s a1 with
 | none=>
  refine .inr ⟨by simp [stZ,x1,x2],bad (st:=v8.2) ?_⟩;have:Zcb s (Zd s (Zd s (Zd s (Zd s (Zd s (Zd s (Zd s (some 0))))))))=none:=by simp [Zd,Zcb,x1,x2]
  rwa [this] at h8
 | some y2=>
 obtain ⟨n2,a2⟩:=y2
 cases x3:Zpb s a2 with
 | none=>
  refine .inr ⟨by simp [stZ,x1,x2,x3],bad (st:=v8.2) ?_⟩;have:Zcb s (Zd s (Zd s (Zd s (Zd s (Zd s (Zd s (Zd s (some 0))))))))=none:=by simp [Zd,Zcb,x1,x2,x3]
  rwa [this] at h8
 | some y3=>
 obtain ⟨n3,a3⟩:=y3
 cases x4:Zpb s a3 with
 | none=>
  refine .inr ⟨by simp [stZ,x1,x2,x3,x4],bad (st:=v8.2) ?_⟩;have:Zcb s (Zd s (Zd s (Zd s (Zd s (Zd s (Zd s (Zd s (some 0))))))))=none:=by simp [Zd,Zcb,x1,x2,x3,x4]
  rwa [this] at h8
 | some y4=>
 obtain ⟨n4,a4⟩:=y4
 cases x5:Zpb s a4 with
 | none=>
  refine .inr ⟨by simp [stZ,x1,x2,x3,x4,x5],bad (st:=v8.2) ?_⟩;have:Zcb s (Zd s (Zd s (Zd s (Zd s (Zd s (Zd s (Zd s (some 0))))))))=none:=by simp [Zd,Zcb,x1,x2,x3,x4,x5]
  rwa [this] at h8
 | some y5=>
 obtain ⟨n5,a5⟩:=y5
 cases x6:Zpb s a5 with
 | none=>
  refine .inr ⟨by simp [stZ,x1,x2,x3,x4,x5,x6],bad (st:=v8.2) ?_⟩;have:Zcb s (Zd s (Zd s (Zd s (Zd s (Zd s (Zd s (Zd s (some 0))))))))=none:=by simp [Zd,Zcb,x1,x2,x3,x4,x5,x6]
  rwa [this] at h8
 | some y6=>
 obtain ⟨n6,a6⟩:=y6
 cases x7:Zpb s a6 with
 | none=>
  refine .inr ⟨by simp [stZ,x1,x2,x3,x4,x5,x6,x7],bad (st:=v8.2) ?_⟩;have:Zcb s (Zd s (Zd s (Zd s (Zd s (Zd s (Zd s (Zd s (some 0))))))))=none:=by simp [Zd,Zcb,x1,x2,x3,x4,x5,x6,x7]
  rwa [this] at h8
 | some y7=>
 obtain ⟨n7,a7⟩:=y7
 cases x8:Zug s a7 with
 | none=>
  refine .inr ⟨by simp [stZ,x1,x2,x3,x4,x5,x6,x7,x8],bad (st:=v8.2) ?_⟩;have:Zcb s (Zd s (Zd s (Zd s (Zd s (Zd s (Zd s (Zd s (some 0))))))))=none:=by simp [Zd,Zcb,x1,x2,x3,x4,x5,x6,x7,x8]
  rwa [this] at h8
 | some y8=>
  obtain ⟨t,d⟩:=y8;have p1:Zd s (some 0)=some a1:=by simp [Zd,x1]
  have p2:Zd s (Zd s (some 0))=some a2:=by simp [Zd,x1,x2]
  have p3:Zd s (Zd s (Zd s (some 0)))=some a3:=by simp [Zd,x1,x2,x3]
  have p4:Zd s (Zd s (Zd s (Zd s (some 0))))=some a4:=by simp [Zd,x1,x2,x3,x4]
  have p5:Zd s (Zd s (Zd s (Zd s (Zd s (some 0)))))=some a5:=by simp [Zd,x1,x2,x3,x4,x5]
  have p6:Zd s (Zd s (Zd s (Zd s (Zd s (Zd s (some 0))))))=some a6:=by simp [Zd,x1,x2,x3,x4,x5,x6]
  have p7:Zd s (Zd s (Zd s (Zd s (Zd s (Zd s (Zd s (some 0)))))))=some a7:=by simp [Zd,x1,x2,x3,x4,x5,x6,x7]
  have p8:Zcb s (Zd s (Zd s (Zd s (Zd s (Zd s (Zd s (Zd s (some 0))))))))=some d:=by simp [Zd,Zcb,x1,x2,x3,x4,x5,x6,x7,x8]
  have r1:=g1 _ _ _ rfl x1;have r2:=g2 _ _ _ p1 x2;have r3:=g3 _ _ _ p2 x3;have r4:=g4 _ _ _ p3 x4;have r5:=g5 _ _ _ p4 x5;have r6:=g6 _ _ _ p5 x6;have r7:=g7 _ _ _ p6 x7;have r8:=g8 _ _ _ p7 x8;refine .inl ⟨d,?_,?_⟩
  ·rw [r1,r2,r3,r4,r5,r6,r7,r8]
   simp [stZ,x1,x2,x3,x4,x5,x6,x7,x8]
  ·rw [p8] at h8
   rcases h8.form with ⟨a,e,_,q⟩ | ⟨a,e,_,q⟩
   ·cases e;exact q
   ·cases e
abbrev StT:=Int×Int×Int×Int×Int×Str×List Int×List Int
def stT (op part steps slots moves:Int) (mem:Str) (v w:Nat):StT:=(op,part,steps,slots,moves,mem,Zb v,Zb w)
def Zxh (op part steps slots moves:Int) (mem:Str) (v w:Nat):Bool:=(decide (1≤op)&&decide (op≤5))&&(decide (v &&& w=0)&&(if op=1 then decide (part=0∧steps=0∧slots=0∧moves=0∧mem=[]∧(Zb w).length=0) else decide ((1≤steps∧steps≤20)∧(0≤slots∧slots≤4)∧((Zb w).length:Int)=steps+slots∧mem.length=32∧(0≤part∧part≤2)∧(0≤moves∧moves≤40)∧(part=0∨op=4)∧(moves=0∨op=5))))
theorem andi (a b:Nat) (ha:a<16777216) (hb:b<16777216):intBits .and .i64 (a:Int) (b:Int)=((a &&& b:Nat):Int):=by
 have h1:(Yj 64 (a:Int) &&& Yj 64 (b:Int)).toNat=a &&& b:=by
  rw [Yha,Yw,Yw];have h1:((a:Int)%((2^64:Nat):Int)).toNat=a:=by omega
  have h2:((b:Int)%((2^64:Nat):Int)).toNat=b:=by omega
  rw [h1,h2]
 have hlt:a &&& b≤a:=Nat.and_le_left
 unfold intBits
 show Ym .i64 (((Yj 64 (a:Int) &&& Yj 64 (b:Int)).toNat:Nat):Int)=_
 rw [h1]
 exact w64 (by omega) (by omega)
theorem Z8jb (op part steps slots moves:Int) (mem:Str) (v w:Nat) (hv:v<16777216) (hw:w<16777216):∀k,24<k→Zip k (stT op part steps slots moves mem v w)=some (Zxh op part steps slots moves mem v w):=by
 intro k hk
 have hl:=Z7c w
 have W:∀a b c:Int,Zhb a b c=some (decide (b≤a)&&decide (a≤c)):=fun _ _ _=>rfl
 have Z:Z8j (Zb w)=some ((Zb w).length:Int):=rfl
 unfold Zip stT
 dsimp only
 rw [W]
 simp only [Ya]
 unfold Zxh
 by_cases h1:(decide (1≤op)&&decide (op≤5))=true
 ·rw [h1]
  simp only [Yb,Xf,Yh];refine Za (Zxab v k hk) ?_;simp only [Yb,Xf];refine Za (Zxab w k hk) ?_;simp only [Yb,Xf];refine Za (Z0o v hv k hk) (Za (Z0o w hw k hk) ?_);rw [andi v w hv hw]
  by_cases h2:v &&& w=0
  ·rw [h2]
   simp only [decide_true,Yh];rw [show (((0:Nat):Int) != 0)=false from rfl];simp only [Xf]
   by_cases h3:op=1
   ·rw [show (op==1)=true by simpa using h3,Xc h3,Xe]
    congr 1;rw [Yz];simp only [Yg,beq_iff_eq,decide_eq_true_eq];constructor
    ·rintro ⟨⟨⟨⟨⟨a,b⟩,c⟩,d⟩,e⟩,f⟩
     exact ⟨a,b,c,d,e,by omega⟩
    ·rintro ⟨a,b,c,d,e,f⟩
     exact ⟨⟨⟨⟨⟨a,b⟩,c⟩,d⟩,e⟩,by omega⟩
   ·rw [show (op==1)=false by simpa using h3,Xd h3,Xf]
    have two:∀{a b:Prop} [Decidable a] [Decidable b],¬(a∧b)→(decide a&&decide b)=false:=fun {a b} _ _ h=>by
     rw [Yq,decide_eq_false_iff_not,decide_eq_false_iff_not];exact Classical.not_and_iff_not_or_not.1 h
    by_cases c1:1≤steps∧steps≤20
    ·refine Za (W steps 1 20) ?_
     rw [Xa c1.1,Xa c1.2];simp only [Ye,Xe]
     by_cases c2:0≤slots∧slots≤4
     ·refine Za (W slots 0 4) ?_
      rw [Xa c2.1,Xa c2.2];simp only [Ye,Xe];refine Za Z ?_;rw [w64 (n:=steps+slots) (by omega) (by omega)]
      by_cases c3:((Zb w).length:Int)=steps+slots
      ·rw [show (((Zb w).length:Int)==steps+slots)=true by simpa using c3,Xe]
       by_cases c4:mem.length=32
       ·rw [show ((mem.length:Int)==32)=true by simp;omega,Xe]
        refine Za (W part 0 2) ?_
        by_cases c5:0≤part∧part≤2
        ·rw [Xa c5.1,Xa c5.2]
         simp only [Ye,Xe]
         have tail:((Zhb moves 0 40).bind fun v14=>bif v14 then bif moves==0 then some true else some (op==5) else some false)=some (decide ((0≤moves∧moves≤40)∧(moves=0∨op=5))):=by
          refine Za (W moves 0 40) ?_
          by_cases c6:0≤moves∧moves≤40
          ·rw [Xa c6.1,Xa c6.2]
           simp only [Ye,Xe]
           by_cases c7:moves=0
           ·rw [show (moves==0)=true by simpa using c7,Xa ⟨c6,.inl c7⟩]
            rfl
           ·rw [show (moves==0)=false by simpa using c7,Xf]
            congr 1;rw [Zfi];exact decide_eq_decide.2 ⟨fun q=>⟨c6,.inr q⟩,fun q=>q.2.resolve_left c7⟩
          ·rw [two c6,Xb (fun q=>c6 q.1)]
           rfl
         by_cases c7:part=0
         ·rw [show (part==0)=true by simpa using c7,Xe]
          refine tail.trans ?_;congr 1;exact decide_eq_decide.2 ⟨fun q=>⟨c1,c2,c3,c4,c5,q.1,.inl c7,q.2⟩,fun q=>⟨q.2.2.2.2.2.1,q.2.2.2.2.2.2.2⟩⟩
         ·rw [show (part==0)=false by simpa using c7,Xf]
          by_cases c8:op=4
          ·rw [show (op==4)=true by simpa using c8,Xe]
           refine tail.trans ?_;congr 1;exact decide_eq_decide.2 ⟨fun q=>⟨c1,c2,c3,c4,c5,q.1,.inr c8,q.2⟩,fun q=>⟨q.2.2.2.2.2.1,q.2.2.2.2.2.2.2⟩⟩
          ·rw [show (op==4)=false by simpa using c8,Xb (fun q=>q.2.2.2.2.2.2.1.elim c7 c8)]
           rfl
        ·rw [two c5,Xb (fun q=>c5 q.2.2.2.2.1)]
         rfl
       ·rw [show ((mem.length:Int)==32)=false by simp;omega,Xb (fun q=>c4 q.2.2.2.1)]
        rfl
      ·rw [show (((Zb w).length:Int)==steps+slots)=false by simpa using c3,Xb (fun q=>c3 q.2.2.1)]
       rfl
     ·refine Za (W slots 0 4) ?_
      rw [two c2,Xb (fun q=>c2 q.2.1)];rfl
    ·refine Za (W steps 1 20) ?_
     rw [two c1,Xb (fun q=>c1 q.1)];rfl
  ·rw [show (((v &&& w:Nat):Int) != 0)=true by simp;omega,Xb h2]
   rfl
 ·rw [Y5.2 h1]
  rfl
theorem Z2n {v n:Nat}:((n:Nat):Int)∈Zb v ↔ n<24∧v.testBit n=true:=by
 unfold Zb Zub
 rw [Yba]
 constructor
 ·rintro ⟨m,hm,e⟩
  rw [Yga,Yp] at hm;have:m=n:=by omega
  rwa [this] at hm
 ·intro h
  exact ⟨n,by rw [Yga,Yp];exact h,rfl⟩
theorem Zt0 (l:List Int) (x:Int) (hl:l.length≤1000):∀k,l.length<k→Zad k l x=some (decide (x∈l)):=by
 intro k hk
 have run:=Zrh (fun j i=>Zad.l0 j l x i) l (fun y=>y==x) (.inl ()) (fun _=>.inr true) (fun i hi=>by
  constructor
  ·intro hp j
   show Zad.l0 (j+1) l x (i:Int)=Zad.l0 j l x ((i+1:Nat):Int);rw [Zad.l0,dlt hi,Zi hi,Zn (by omega)];simp only [Xe,Ya,hp,Xf]
  ·intro hp j
   show Zad.l0 (j+1) l x (i:Int)=_;rw [Zad.l0,dlt hi,Zi hi];simp only [Xe,Ya,hp]) (fun j=>by
  show Zad.l0 (j+1) l x (l.length:Int)=_;rw [Zad.l0,Zv (Yc _)];rfl) hk
 have run:Zad.l0 k l x 0=_:=run
 have ha:=Zit (p:=fun y:Int=>y==x) (l:=l) (n:=0)
 unfold Zad
 rw [run]
 cases hf:Zsb (fun y:Int=>y==x) l 0 with
 | some m=>
  rw [hf] at ha;obtain ⟨y,hy,hy2⟩:=Y8.1 ha.symm;have:y=x:=by simpa using hy2
  rw [Xa (this▸hy)];rfl
 | none=>
  rw [hf] at ha
  have:x∉l:=fun hx=>by
   have h2:(l.any fun y=>y==x)=true:=Y8.2 ⟨x,hx,by simp⟩;rw [h2] at ha;cases ha
  rw [Xb this];rfl
theorem Zrnb (op part steps slots moves:Int) (mem:Str) (v w:Nat) (hv:v<16777216) {k:Nat} (hk:100≤k):Zef.l0 k k op part steps slots moves mem (Zb v) (Zb w) 0=some (if v &&& w=0 then .inl () else .inr false):=by
 have hl:=Z7c w
 have hl2:=Z7c v
 have h:=Zjz (fun j i=>Zef.l0 k j op part steps slots moves mem (Zb v) (Zb w) (i:Int)) (Zb w).length (fun i=>!decide ((Zb w).getD i 0∈Zb v)) (fun _=>false) (fun i hi hp j=>?_) (fun i hi hp j=>?_) (fun j=>?_)
 ·have key:(Yo (Zb w).length).all (fun i=>!decide ((Zb w).getD i 0∈Zb v))=true ↔ v &&& w=0:=by
   rw [Ys];constructor
   ·intro h
    apply Nat.eq_of_testBit_eq;intro n;rw [Ywa,Yza];cases q1:v.testBit n with
    | false=>rfl
    | true=>
     cases q2:w.testBit n with
     | false=>rfl
     | true=>
      have hn:n<24:=by
       refine Nat.not_le.1 fun q=>?_
       have:v<2^n:=Nat.lt_of_lt_of_le hv (by have:=Yca (n:=2) (by omega) q;simpa using this);rw [Nat.testBit_lt_two_pow this] at q1;cases q1
      obtain ⟨i,hi,e⟩:=Y4.1 (Z2n.2 ⟨hn,q2⟩);have:=h i (Yp.2 hi);rw [Yd,Yf hi] at this;have h3:¬((Zb w)[i]∈Zb v):=by simpa using this
      exact absurd (by rw [e];exact Z2n.2 ⟨hn,q1⟩) h3
   ·intro h i hi
    have hi:=Yp.1 hi;rw [Yd,Yf hi]
    have:¬((Zb w)[i]∈Zb v):=fun hm=>by
     have hw:=Yn hi;obtain ⟨n,hn,e⟩:=Yba.1 hw;rw [← e] at hm hw;have a:=(Z2n.1 hm).2;have b:=(Z2n.1 hw).2;have:=congrArg (Nat.testBit · n) h;simp only [Ywa,Yza,a,b] at this;cases this
    simpa using this
  rcases h with ⟨h1,h2⟩ | ⟨h1,i,_,_,h2⟩
  ·rw [Xc (key.1 h1)]
   exact h2 k (by omega)
  ·rw [Xd (fun q=>by rw [key.2 q] at h1;cases h1)]
   exact h2 k (by omega)
 ·have hp:(!decide ((Zb w).getD i 0∈Zb v))=true:=hp
  rw [Yd,Yf hi] at hp;have hp:(!decide ((Zb w)[i]∈Zb v))=true:=hp
  conv=>lhs;unfold Zef.l0
  rw [dlt hi,Zi hi,Zn (by omega)];simp only [Xe,Ya];rw [Zt0 _ _ (by omega) k (by omega)];rw [Yia] at hp;rw [hp];rfl
 ·have hp:(!decide ((Zb w).getD i 0∈Zb v))=false:=hp
  rw [Yd,Yf hi] at hp;have hp:(!decide ((Zb w)[i]∈Zb v))=false:=hp
  conv=>lhs;unfold Zef.l0
  rw [dlt hi,Zi hi];simp only [Xe,Ya];rw [Zt0 _ _ (by omega) k (by omega)];rw [Yda] at hp;rw [hp];rfl
 ·conv=>lhs;unfold Zef.l0
  rw [Zv (Yc _)];rfl
theorem Zzob (op part steps slots moves:Int) (mem:Str) (v w:Nat) (hv:v<16777216) (hw:w<16777216) {k:Nat} (hk:100≤k):Zef k (stT op part steps slots moves mem v w)=some (Zxh op part steps slots moves mem v w):=by
 have hl:=Z7c w
 have W:∀a b c:Int,Zfb a b c=some (decide (b≤a)&&decide (a≤c)):=fun _ _ _=>rfl
 have two:∀{a b:Prop} [Decidable a] [Decidable b],¬(a∧b)→(decide a&&decide b)=false:=fun {a b} _ _ h=>by
  rw [Yq,decide_eq_false_iff_not,decide_eq_false_iff_not];exact Classical.not_and_iff_not_or_not.1 h
 unfold Zef stT
 dsimp only
 rw [W]
 simp only [Ya]
 unfold Zxh
 by_cases h1:(decide (1≤op)&&decide (op≤5))=true
 ·rw [h1]
  simp only [Yb,Xf,Yh];refine Za (Zh6 v k (by omega)) ?_;simp only [Yb,Xf];refine Za (Zh6 w k (by omega)) ?_;simp only [Yb,Xf];refine Za (Zrnb op part steps slots moves mem v w hv hk) ?_
  by_cases h2:v &&& w=0
  ·rw [Xc h2,Xa h2]
   dsimp only;rw [Yh]
   by_cases h3:op=1
   ·rw [show (op==1)=true by simpa using h3,Xc h3,Xe]
    congr 1;rw [Yz];simp only [Yg,beq_iff_eq,decide_eq_true_eq];constructor
    ·rintro ⟨⟨⟨⟨⟨a,b⟩,c⟩,d⟩,e⟩,f⟩
     exact ⟨a,b,c,d,e,by omega⟩
    ·rintro ⟨a,b,c,d,e,f⟩
     exact ⟨⟨⟨⟨⟨a,b⟩,c⟩,d⟩,e⟩,by omega⟩
   ·rw [show (op==1)=false by simpa using h3,Xd h3,Xf]
    refine Za (W steps 1 20) ?_
    by_cases c1:1≤steps∧steps≤20
    ·rw [Xa c1.1,Xa c1.2]
     simp only [Ye,Yb,Xf];refine Za (W slots 0 4) ?_
     by_cases c2:0≤slots∧slots≤4
     ·rw [Xa c2.1,Xa c2.2,w64 (n:=steps+slots) (by omega) (by omega)]
      simp only [Ye,Yb,Yr]
      by_cases c3:((Zb w).length:Int)=steps+slots
      ·rw [show (((Zb w).length:Int) != steps+slots)=false by simpa using c3,Yr]
       by_cases c4:mem.length=32
       ·rw [show ((mem.length:Int) != 32)=false by simp;omega,Xf]
        refine Za (W part 0 2) ?_
        by_cases c5:0≤part∧part≤2
        ·rw [Xa c5.1,Xa c5.2]
         simp only [Ye,Xe];refine Za (W moves 0 40) ?_;congr 1;rw [Yz];simp only [Yg,Y7,beq_iff_eq,decide_eq_true_eq];exact ⟨fun q=>⟨c1,c2,c3,c4,c5,q.1.1,q.1.2,q.2⟩,fun q=>⟨⟨q.2.2.2.2.2.1,q.2.2.2.2.2.2.1⟩,q.2.2.2.2.2.2.2⟩⟩
        ·rw [two c5,Xb (fun q=>c5 q.2.2.2.2.1)]
         rfl
       ·rw [show ((mem.length:Int) != 32)=true by simp;omega,Xb (fun q=>c4 q.2.2.2.1)]
        rfl
      ·rw [show (((Zb w).length:Int) != steps+slots)=true by simpa using c3,Xb (fun q=>c3 q.2.2.1)]
       rfl
     ·rw [two c2,Xb (fun q=>c2 q.2.1)]
      rfl
    ·rw [two c1,Xb (fun q=>c1 q.1)]
     rfl
  ·rw [Xd h2,Xb h2]
   rfl
 ·rw [Y5.2 h1]
  rfl
theorem Z2eb {s:Str} {r:Int×Int×Int×Int×Int×Int×Int×Str} {d:Nat} (h:stZ s=some (r,d)):∃a1 a2 a3 a4 a5 a6 a7,Got s 0 r.1 a1∧Got s a1 r.2.1 a2∧Got s a2 r.2.2.1 a3∧Got s a3 r.2.2.2.1 a4∧Got s a4 r.2.2.2.2.1 a5∧Got s a5 r.2.2.2.2.2.1 a6∧Got s a6 r.2.2.2.2.2.2.1 a7∧GotT s a7 r.2.2.2.2.2.2.2 d:=by
 unfold stZ at h
 obtain ⟨⟨n1,a1⟩,h1,h⟩:=Yl.1 h
 obtain ⟨⟨n2,a2⟩,h2,h⟩:=Yl.1 h
 obtain ⟨⟨n3,a3⟩,h3,h⟩:=Yl.1 h
 obtain ⟨⟨n4,a4⟩,h4,h⟩:=Yl.1 h
 obtain ⟨⟨n5,a5⟩,h5,h⟩:=Yl.1 h
 obtain ⟨⟨n6,a6⟩,h6,h⟩:=Yl.1 h
 obtain ⟨⟨n7,a7⟩,h7,h⟩:=Yl.1 h
 obtain ⟨⟨t,d'⟩,h8,h⟩:=Y0a.1 h
 cases h
 exact ⟨a1,a2,a3,a4,a5,a6,a7,Zwi h1,Zwi h2,Zwi h3,Zwi h4,Zwi h5,Zwi h6,Zwi h7,Z66 h8⟩
def Z9d (r:Int×Int×Int×Int×Int×Int×Int×Str):Str:=Zm r.1++Zm r.2.1++Zm r.2.2.1++Zm r.2.2.2.1++Zm r.2.2.2.2.1++Zm r.2.2.2.2.2.1++Zm r.2.2.2.2.2.2.1++Z3b r.2.2.2.2.2.2.2
theorem Zlpb {s:Str} {r:Int×Int×Int×Int×Int×Int×Int×Str} {d:Nat} (h:stZ s=some (r,d)):Z9d r=s ↔ d=s.length:=by
 obtain ⟨a1,a2,a3,a4,a5,a6,a7,g1,g2,g3,g4,g5,g6,g7,g8⟩:=Z2eb h
 have e0:s=Z9d r++s.drop d:=by
  have h1:=g1.eq;rw [Yu,g2.eq,g3.eq,g4.eq,g5.eq,g6.eq,g7.eq,g8.eq] at h1;unfold Z9d;simp only [Yt];exact h1
 have hl:d=(Z9d r).length:=by
  have:=g1.at';have:=g2.at';have:=g3.at';have:=g4.at';have:=g5.at';have:=g6.at';have:=g7.at';have:=g8.at';unfold Z9d;simp only [Yk];omega
 constructor
 ·intro h
  rw [hl,h]
 ·intro h
  rw [h,Y1,Yy] at e0;exact e0.symm
def Zdo (s:Str):Option (Int×Int×Int×Int×Int×Str×Nat×Nat):=match stZ s with
 | some (r,d)=>if d=s.length∧(0≤r.2.2.2.2.2.1∧r.2.2.2.2.2.1<16777216)∧(0≤r.2.2.2.2.2.2.1∧r.2.2.2.2.2.2.1<16777216)∧Zxh r.1 r.2.1 r.2.2.1 r.2.2.2.1 r.2.2.2.2.1 r.2.2.2.2.2.2.2 r.2.2.2.2.2.1.toNat r.2.2.2.2.2.2.1.toNat=true
  then some (r.1,r.2.1,r.2.2.1,r.2.2.2.1,r.2.2.2.2.1,r.2.2.2.2.2.2.2,r.2.2.2.2.2.1.toNat,r.2.2.2.2.2.2.1.toNat) else none
 | none=>none
theorem Zvkb (s:Str) (hs:s.length≤8000):Ze fun k=>Zqp k s=some (match Zdo s with
  | some (a,b,c,d,e,m,v,w)=>(a,b,c,d,e,m,Zb v,Zb w,true)
  | none=>(0,0,0,0,0,[],[],[],false)):=by
 obtain ⟨v1,v2,v3,v4,v5,v6,v7,v8,hE,hc⟩:=Zkkb s hs
 refine (hE.and (Ze.ge 100 fun k hk=>hk)).mono fun k ⟨⟨q1,q2,q3,q4,q5,q6,q7,q8⟩,hk⟩=>?_
 unfold Zqp
 refine Za q1 (Za q2 (Za q3 (Za q4 (Za q5 (Za q6 (Za q7 (Za q8 ?_)))))))
 unfold Zdo
 rcases hc with ⟨d,hz,h8⟩ | ⟨hz,h8⟩
 ·rw [hz,h8]
  simp only [Yr]
  by_cases hd:d=s.length
  ·rw [show (((d:Nat):Int) != (s.length:Int))=false by rw [hd];simp,Xf]
   have W:∀a b c:Int,Zhb a b c=some (decide (b≤a)&&decide (a≤c)):=fun _ _ _=>rfl
   refine Za (W _ _ _) ?_
   by_cases c6:0≤v6.1∧v6.1<16777216
   ·rw [Xa c6.1,Xa (by omega:v6.1≤16777215)]
    simp only [Ye,Yb,Xf];refine Za (W _ _ _) ?_
    by_cases c7:0≤v7.1∧v7.1<16777216
    ·rw [Xa c7.1,Xa (by omega:v7.1≤16777215)]
     simp only [Ye,Yb,Xf];have f6:=Z1y v6.1.toNat (by omega) k (by omega);have f7:=Z1y v7.1.toNat (by omega) k (by omega);rw [Yx c6.1] at f6;rw [Yx c7.1] at f7;refine Za f6 (Za f7 (Za (Z8jb v1.1 v2.1 v3.1 v4.1 v5.1 v8.1 v6.1.toNat v7.1.toNat (by omega) (by omega) k (by omega)) ?_));cases hb:Zxh v1.1 v2.1 v3.1 v4.1 v5.1 v8.1 v6.1.toNat v7.1.toNat with
     | true=>
      rw [Xc ⟨hd,c6,c7,rfl⟩];rfl
     | false=>
      rw [Xd (fun q=>by cases q.2.2.2)];rfl
    ·rw [Xd (fun q=>c7 q.2.2.1)]
     by_cases z:0≤v7.1
     ·rw [Xa z,Xb (by omega:¬v7.1≤16777215)];rfl
     ·rw [Xb z];rfl
   ·rw [Xd (fun q=>c6 q.2.1)]
    by_cases z:0≤v6.1
    ·rw [Xa z,Xb (by omega:¬v6.1≤16777215)];rfl
    ·rw [Xb z];rfl
  ·rw [show (((d:Nat):Int) != (s.length:Int))=true by simp;omega,Xd (fun q=>hd q.1)]
   rfl
 ·rw [hz,h8]
  rfl
theorem Zwcb {a b:Int} (ha:Num a) (hb:Num b) {x y:Str} (h:Zm a++x=Zm b++y):a=b:=by
 have h1:=Zwv a ha (Zm a++x) 0 x (by rw [Yu])
 have h2:=Zwv b hb (Zm a++x) 0 y (by rw [Yu,h])
 rw [h1] at h2
 injection h2
theorem Zer:Zb 0=[]:=by decide
theorem Z3t {n:Nat} (h:n<16777216):Num (n:Int):=⟨by omega,by omega⟩
theorem sL12 (op part steps slots moves:Int) (mem:Str) (v w:Nat) (h1:Num op) (h2:Num part) (h3:Num steps) (h4:Num slots) (h5:Num moves) (hv:v<16777216) (hw:w<16777216) (hm:mem.length≤8000):
  Ze fun k=>Z3l k (stT op part steps slots moves mem v w)=some (Z9d (op,part,steps,slots,moves,(v:Int),(w:Int),mem)):=by
 have l1:=Zhc op
 have l2:=Zhc part
 have l3:=Zhc steps
 have l4:=Zhc slots
 have l5:=Zhc moves
 have l6:=Zhc (v:Int)
 have l7:=Zhc (w:Int)
 have l8:=Zij mem
 refine (((((((((Zyi op h1).and (Zyi part h2)).and (Zyi steps h3)).and (Zyi slots h4)).and (Zyi moves h5)).and (Zyi (v:Int) (Z3t hv))).and (Zyi (w:Int) (Z3t hw))).and (Zy0 mem hm)).and (Ze.ge 100 fun k hk=>hk)).mono fun k ⟨⟨⟨⟨⟨⟨⟨⟨q1,q2⟩,q3⟩,q4⟩,q5⟩,q6⟩,q7⟩,q8⟩,hk⟩=>?_
 unfold Z3l stT
 refine Za q1 (Za q2 (Za (Zvc (by omega)) (Za q3 (Za (Zvc (by simp;omega)) (Za q4 (Za (Zvc (by simp;omega)) (Za q5 (Za (Zvc (by simp;omega)) ?_))))))))
 refine Za (Zq0 v hv k (by omega)) (Za q6 (Za (Zvc (by simp;omega)) (Za (Zq0 w hw k (by omega)) (Za q7 (Za (Zvc (by simp;omega)) (Za q8 (Za (Zvc (by simp;omega)) rfl)))))))
theorem Zxob (op part steps slots moves:Int) (mem:Str) (v w:Nat) (h1:Num op) (h2:Num part) (h3:Num steps) (h4:Num slots) (h5:Num moves) (hv:v<16777216) (hw:w<16777216) (hm:mem.length≤8000):
  Ze fun k=>Zpq k (stT op part steps slots moves mem v w)=some (if Zxh op part steps slots moves mem v w=true then Z9d (op,part,steps,slots,moves,(v:Int),(w:Int),mem) else []):=by
 refine ((sL12 op part steps slots moves mem v w h1 h2 h3 h4 h5 hv hw hm).and (Ze.ge 100 fun k hk=>hk)).mono fun k ⟨q,hk⟩=>?_
 unfold Zpq
 refine Za (Zzob op part steps slots moves mem v w hv hw hk) ?_
 cases Zxh op part steps slots moves mem v w with
 | true=>
  simp only [Yb,Xf,if_true];exact Za q rfl
 | false=>rfl
def Zgi (n:Int):Nat:=if 0≤n∧n<16777216 then n.toNat else 0
theorem Z5s (n:Int):Zgi n<16777216:=by unfold Zgi;split <;> omega
theorem Zs0 (n:Int) {k:Nat} (hk:24<k):Zfd k n=some (Zb (Zgi n)):=by
 unfold Zgi
 by_cases h:0≤n∧n<16777216
 ·rw [Xc h]
  have:=Z4db n.toNat (by omega) k hk
  rwa [Yx h.1] at this
 ·rw [Xd h,Zcob n (by omega) k,Zer]
theorem Zkpb {r:Int×Int×Int×Int×Int×Int×Int×Str} {a b:Int} {z:Str} (h6:Num r.2.2.2.2.2.1) (h7:Num r.2.2.2.2.2.2.1) (ha:Num a) (hb:Num b) (h:Z9d (r.1,r.2.1,r.2.2.1,r.2.2.2.1,r.2.2.2.2.1,a,b,r.2.2.2.2.2.2.2)=Z9d r++z):a=r.2.2.2.2.2.1∧b=r.2.2.2.2.2.2.1:=by
 unfold Z9d at h
 simp only [Yt,Yja] at h
 have e1:=Zwcb ha h6 h
 rw [e1] at h
 simp only [Yja] at h
 exact ⟨e1,Zwcb hb h7 h⟩
theorem Zyob (s:Str) (hs:s.length≤8000):Ze fun k=>Zco k s=some (match Zdo s with
  | some (a,b,c,d,e,m,v,w)=>(a,b,c,d,e,m,Zb v,Zb w,0)
  | none=>(0,0,0,0,0,[],[],[],3)):=by
 obtain ⟨v1,v2,v3,v4,v5,v6,v7,v8,hE,hc⟩:=Znob s hs
 unfold Zdo
 rcases hc with ⟨d,hz,h8⟩ | ⟨hz,h8⟩
 ·obtain ⟨a1,a2,a3,a4,a5,a6,a7,g1,g2,g3,g4,g5,g6,g7,g8⟩:=Z2eb hz
  have hb:=Zxob v1.1 v2.1 v3.1 v4.1 v5.1 v8.1 (Zgi v6.1) (Zgi v7.1) g1.range g2.range g3.range g4.range g5.range (Z5s _) (Z5s _) g8.size;refine ((hE.and hb).and (Ze.ge 100 fun k hk=>hk)).mono fun k ⟨⟨⟨q1,q2,q3,q4,q5,q6,q7,q8⟩,hb⟩,hk⟩=>?_
  unfold Zco;rw [Xb (by omega:¬(8000:Int)<(s.length:Int)),Xf];refine Za q1 (Za q2 (Za q3 (Za q4 (Za q5 (Za q6 (Za (Zs0 v6.1 (by omega)) (Za q7 (Za (Zs0 v7.1 (by omega)) (Za q8 ?_)))))))));rw [h8];simp only [Xf];refine Za hb ?_;rw [hz,Zdr];dsimp only;have hw:=Zlpb hz
  have hpos:1≤s.length:=by
   have p1:=g1.le;have p2:=Zx5 v1.1;have p3:=g1.at';dsimp only at p1 p2 p3;omega
  by_cases c:(0≤v6.1∧v6.1<16777216)∧(0≤v7.1∧v7.1<16777216)
  ·have e6:Zgi v6.1=v6.1.toNat:=by unfold Zgi;rw [Xc c.1]
   have e7:Zgi v7.1=v7.1.toNat:=by unfold Zgi;rw [Xc c.2]
   rw [e6,e7,Yx c.1.1,Yx c.2.1];cases hB:Zxh v1.1 v2.1 v3.1 v4.1 v5.1 v8.1 v6.1.toNat v7.1.toNat with
   | true=>
    rw [Xc rfl]
    by_cases hd:d=s.length
    ·rw [Xa (hw.2 hd),Xc ⟨hd,c.1,c.2,rfl⟩]
     rfl
    ·rw [Xb (fun q=>hd (hw.1 q)),Xd (fun q=>hd q.1)]
     rfl
   | false=>
    rw [Xd (by simp),Xd (fun q=>by cases q.2.2.2),Xb (fun q=>by rw [← q] at hpos;simp at hpos)];rfl
  ·have hne:¬((if Zxh v1.1 v2.1 v3.1 v4.1 v5.1 v8.1 (Zgi v6.1) (Zgi v7.1)=true then Z9d (v1.1,v2.1,v3.1,v4.1,v5.1,((Zgi v6.1:Nat):Int),((Zgi v7.1:Nat):Int),v8.1) else [])=s):=by
    intro q;split at q
    ·have e0:s=Z9d (v1.1,v2.1,v3.1,v4.1,v5.1,v6.1,v7.1,v8.1)++s.drop d:=by
      have h1:=g1.eq;rw [Yu,g2.eq,g3.eq,g4.eq,g5.eq,g6.eq,g7.eq,g8.eq] at h1;unfold Z9d;simp only [Yt];exact h1
     have:=Zkpb (r:=(v1.1,v2.1,v3.1,v4.1,v5.1,v6.1,v7.1,v8.1)) (z:=s.drop d) g6.range g7.range (Z3t (Z5s v6.1)) (Z3t (Z5s v7.1)) (q.trans e0);have b6:=Z5s v6.1;have b7:=Z5s v7.1;obtain ⟨e6,e7⟩:=this;have e6:((Zgi v6.1:Nat):Int)=v6.1:=e6;have e7:((Zgi v7.1:Nat):Int)=v7.1:=e7;omega
    ·rw [← q] at hpos
     simp at hpos
   rw [Xb hne,Xd (fun q=>c ⟨q.2.1,q.2.2.1⟩)];rfl
 ·refine (hE.and (Ze.ge 100 fun k hk=>hk)).mono fun k ⟨⟨q1,q2,q3,q4,q5,q6,q7,q8⟩,hk⟩=>?_
  unfold Zco;rw [Xb (by omega:¬(8000:Int)<(s.length:Int)),Xf];refine Za q1 (Za q2 (Za q3 (Za q4 (Za q5 (Za q6 (Za (Zs0 v6.1 (by omega)) (Za q7 (Za (Zs0 v7.1 (by omega)) (Za q8 ?_)))))))));rw [h8,hz];rfl
abbrev StV:=Int×Int×Int×Int×Int×Str×Nat×Nat
def stM (m:Zr):Option StV:=if (1≤m.1∧m.1≤8)∧Z9f m.2=true∧(m.2.1.length:Int)=m.1+27 then (if (Zlb m.2).2.2.1=0 then Zdo (Zlb m.2).2.1 else none) else none
theorem Z2bb (f:Z2):(Zlb f).2.1.length≤80:=by
 unfold Zlb
 split
 ·exact Z4bb _
 ·split
  ·exact Z4bb _
  ·simp
theorem Z1bb (f:Z2):(Zlb f).2.2.2<0 ↔ (Zlb f).2.2.1≠0:=by
 unfold Zlb
 split
 ·rename_i h
  simp [h.1]
 ·split
  ·rename_i h
   simp [h]
  ·simp
def Zas:Option StV→Int×Int×Int×Int×Int×Str×List Int×List Int×Bool
 | some (a,b,c,d,e,m,v,w)=>(a,b,c,d,e,m,Zb v,Zb w,true)
 | none=>(0,0,0,0,0,[],[],[],false)
theorem Z8y (m:Zr) (hl:m.2.1.length≤1048576) (hl2:m.2.2.length≤1048576):Ze fun k=>Zqh k m=some (Zas (stM m)):=by
 have hb:Z7j m.1=some (decide (1≤m.1)&&decide (m.1≤8)):=rfl
 unfold stM
 by_cases c1:1≤m.1∧m.1≤8
 ·cases c2:Z9f m.2 with
  | false=>
   refine (Ze.ge 1048577 fun k hk=>hk).mono fun k hk=>?_
   unfold Zqh;refine Za hb ?_;rw [Xa c1.1,Xa c1.2];refine Za (Z33 m.2 hl hl2 hk) ?_;rw [c2,Xd (fun q=>by cases q.2.1)];rfl
  | true=>
   have hz:Zmi m.2.1=some (m.2.1.length:Int):=rfl;have hw:Ym .i64 ((Ym .i64 (3+m.1))+24)=m.1+27:=by rw [w64 (n:=3+m.1) (by omega) (by omega),w64 (by omega) (by omega)];omega
   by_cases c3:(m.2.1.length:Int)=m.1+27
   ·refine (((Z63 c2 (by omega)).and (Zvkb (Zlb m.2).2.1 (by have:=Z2bb m.2;omega))).and (Ze.ge 1048577 fun k hk=>hk)).mono fun k ⟨⟨h1,h2⟩,hk⟩=>?_
    unfold Zqh;refine Za hb ?_;rw [Xa c1.1,Xa c1.2];refine Za (Z33 m.2 hl hl2 hk) ?_;rw [c2,Yb,Xf];refine Za hz ?_;rw [hw,show ((m.2.1.length:Int) != m.1+27)=false by simpa using c3,Xc ⟨c1,rfl,c3⟩];refine Za h1 ?_
    by_cases c4:(Zlb m.2).2.2.1=0
    ·rw [Xc c4,Xb (fun q=>(Z1bb m.2).1 q c4)]
     refine Za h2 ?_;cases Zdo (Zlb m.2).2.1 <;> rfl
    ·rw [Xd c4,Xa ((Z1bb m.2).2 c4)]
     rfl
   ·refine (Ze.ge 1048577 fun k hk=>hk).mono fun k hk=>?_
    unfold Zqh;refine Za hb ?_;rw [Xa c1.1,Xa c1.2];refine Za (Z33 m.2 hl hl2 hk) ?_;rw [c2,Yb,Xf];refine Za hz ?_;rw [hw,show ((m.2.1.length:Int) != m.1+27)=true by simpa using c3,Xd (fun q=>c3 q.2.2)];rfl
 ·refine Ze.of fun k=>?_
  unfold Zqh;refine Za hb ?_
  have:(decide (1≤m.1)&&decide (m.1≤8))=false:=by
   rw [Yq,decide_eq_false_iff_not,decide_eq_false_iff_not];exact Classical.not_and_iff_not_or_not.1 c1
  rw [this,Xd (fun q=>c1 q.1)];rfl
theorem Zl6 (m:Zr) (hl:m.2.1.length≤1048576) (hl2:m.2.2.length≤1048576):Ze fun k=>Z0i k m=some (Zas (stM m)):=by
 have hb:Zfb m.1 1 8=some (decide (1≤m.1)&&decide (m.1≤8)):=rfl
 unfold stM
 by_cases c1:1≤m.1∧m.1≤8
 ·cases c2:Z9f m.2 with
  | false=>
   refine (Ze.ge 1048577 fun k hk=>hk).mono fun k hk=>?_
   unfold Z0i;refine Za hb ?_;rw [Xa c1.1,Xa c1.2];refine Za (Zr0 m.2 hl hl2 hk) ?_;rw [c2,Xd (fun q=>by cases q.2.1)];rfl
  | true=>
   have hw:Ym .i64 ((Ym .i64 (3+m.1))+24)=m.1+27:=by rw [w64 (n:=3+m.1) (by omega) (by omega),w64 (by omega) (by omega)];omega
   by_cases c3:(m.2.1.length:Int)=m.1+27
   ·refine (((Zw0 c2 (by omega)).and (Zyob (Zlb m.2).2.1 (by have:=Z2bb m.2;omega))).and (Ze.ge 1048577 fun k hk=>hk)).mono fun k ⟨⟨h1,h2⟩,hk⟩=>?_
    unfold Z0i;refine Za hb ?_;rw [Xa c1.1,Xa c1.2];refine Za (Zr0 m.2 hl hl2 hk) ?_;rw [c2,hw,show ((m.2.1.length:Int) != m.1+27)=false by simpa using c3,Xc ⟨c1,rfl,c3⟩];refine Za h1 ?_
    by_cases c4:(Zlb m.2).2.2.1=0
    ·rw [Xc c4,show ((Zlb m.2).2.2.1 != 0)=false by simpa using c4]
     refine Za h2 ?_;cases Zdo (Zlb m.2).2.1 <;> rfl
    ·rw [Xd c4,show ((Zlb m.2).2.2.1 != 0)=true by simpa using c4]
     rfl
   ·refine (Ze.ge 1048577 fun k hk=>hk).mono fun k hk=>?_
    unfold Z0i;refine Za hb ?_;rw [Xa c1.1,Xa c1.2];refine Za (Zr0 m.2 hl hl2 hk) ?_;rw [c2,hw,show ((m.2.1.length:Int) != m.1+27)=true by simpa using c3,Xd (fun q=>c3 q.2.2)];rfl
 ·refine Ze.of fun k=>?_
  unfold Z0i;refine Za hb ?_
  have:(decide (1≤m.1)&&decide (m.1≤8))=false:=by
   rw [Yq,decide_eq_false_iff_not,decide_eq_false_iff_not];exact Classical.not_and_iff_not_or_not.1 c1
  rw [this,Xd (fun q=>c1 q.1)];rfl
def Zxb (m:Zr):List Str:=(Yo m.1.toNat).map fun (i:Nat)=>Zz m.2 (3+(i:Int))
theorem Zzcb {α:Type} (f:Nat→α) (i:Nat):(Yo (i+1)).map f=(Yo i).map f++[f i]:=by
 rw [Ypa,List.map_append]
 rfl
theorem Z23 {m:Zr} (h1:0≤m.1∧m.1≤8) (hl:m.1+3≤(m.2.1.length:Int)) (hl2:m.2.2.length≤1048576) {k:Nat} (hk:1048577≤k):Zvd k m=some (Zxb m):=by
 have h:=Zrb (fun j i=>Zvd.l0 k j m.1 m.2.1 m.2.2 m.1 (i:Int) ((Yo i).map fun (i:Nat)=>Zz m.2 (3+(i:Int)))) m.1.toNat (Zxb m) (fun i hi j=>?_) (fun j=>?_) k (by omega)
 ·have h:Zvd.l0 k k m.1 m.2.1 m.2.2 m.1 0 []=some (Zxb m):=h
  unfold Zvd;exact Za h rfl
 ·have r:Zag k (m.2.1,m.2.2) (3+(i:Int))=some (Zz m.2 (3+(i:Int))):=Z1o m.2 _ hl2 (by omega) (by omega) (by omega)
  conv=>lhs;unfold Zvd.l0
  rw [Xa (by omega:(i:Int)<m.1),w64 (n:=3+(i:Int)) (by omega) (by omega),Zn (by omega),Xe];refine Za r (Za (Z4 (by simp;omega)) ?_);rw [Zzcb]
 ·conv=>lhs;unfold Zvd.l0
  rw [Xb (by omega:¬((m.1.toNat:Nat):Int)<m.1)];rfl
theorem Zd6 {m:Zr} (h1:0≤m.1∧m.1≤8) (hl:m.1+3≤(m.2.1.length:Int)) (hl2:m.2.2.length≤1048576) {k:Nat} (hk:1048577≤k):Z8d k m=some (Zxb m):=by
 have h:=Zrb (fun j i=>Z8d.l0 k j m.1 m.2.1 m.2.2 (i:Int) ((Yo i).map fun (i:Nat)=>Zz m.2 (3+(i:Int)))) m.1.toNat (Zxb m) (fun i hi j=>?_) (fun j=>?_) k (by omega)
 ·have h:Z8d.l0 k k m.1 m.2.1 m.2.2 0 []=some (Zxb m):=h
  unfold Z8d;exact Za h rfl
 ·have r:Ztb k (m.2.1,m.2.2) (3+(i:Int))=some (Zz m.2 (3+(i:Int))):=Z8n m.2 _ hl2 (by omega) (by omega) (by omega)
  conv=>lhs;unfold Z8d.l0
  rw [Xa (by omega:(i:Int)<m.1),w64 (n:=3+(i:Int)) (by omega) (by omega),Zn (by omega),Xe];refine Za r (Za (Z4 (by simp;omega)) ?_);rw [Zzcb]
 ·conv=>lhs;unfold Z8d.l0
  rw [Xb (by omega:¬((m.1.toNat:Nat):Int)<m.1)];rfl
theorem Zhfb (t:Str) (h:t.length≤8000) (s:Str) (a:Nat) (r:Str) (hs:s.drop a=Z3b t++r):Znh s a=(t,((a+(Z3b t).length:Nat):Int),0):=by
 unfold Z3b at hs
 rw [Yt] at hs
 have e:=Zwv (t.length:Int) ⟨by omega,by omega⟩ s a (t++r) hs
 have hlen:=congrArg Yfa hs
 rw [Yla,Yk,Yk] at hlen
 have hp:=Zx5 (t.length:Int)
 unfold Znh
 rw [e]
 simp only [if_true]
 rw [Xc ⟨by omega,by omega⟩,Xd (by omega)]
 have e1:(((a+(Zm (t.length:Int)).length:Nat):Int)+(t.length:Int)).toNat=a+(Zm (t.length:Int)).length+t.length:=by omega
 rw [e1,Yi,List.drop_take,Nat.add_sub_cancel_left,← Y9,hs,Yaa,List.take_left]
 unfold Z3b
 rw [Yk]
 congr 2
 push_cast
 omega
theorem Zg5 (n:Int) (h:Num n) (s:Str) (a:Nat) (t:Str) (hs:s.drop a=Zm n++t):Zib s a=(n,s,((a+(Zm n).length:Nat):Int),false):=by
 unfold Zib
 rw [Zwv n h s a t hs]
 rfl
theorem Zxmb (x y z:Int) (t:Str) (hx:Num x) (hy:Num y) (hz:Num z) (ht:t.length≤8000):Zjj (Zm x++Zm y++Zm z++Z3b t)=some (x,y,z,t,(Zm x++Zm y++Zm z++Z3b t).length):=by
 generalize hs:Zm x++Zm y++Zm z++Z3b t=s
 have d0:s.drop 0=Zm x++(Zm y++Zm z++Z3b t):=by rw [← hs];simp
 have n1:=Zg5 x hx s 0 _ d0
 rw [Yya] at n1
 have d1:s.drop (Zm x).length=Zm y++(Zm z++Z3b t):=by rw [← hs];simp
 have n2:=Zg5 y hy s _ _ d1
 have d2:s.drop ((Zm x).length+(Zm y).length)=Zm z++Z3b t:=by rw [← hs,← Yk];simp
 have n3:=Zg5 z hz s _ _ d2
 have d3:s.drop ((Zm x).length+(Zm y).length+(Zm z).length)=Z3b t++[]:=by rw [← hs,← Yk,← Yk];simp
 have n4:=Zhfb t ht s _ _ d3
 have n4':Z4f s ((Zm x).length+(Zm y).length+(Zm z).length)=(t,s,(((Zm x).length+(Zm y).length+(Zm z).length+(Z3b t).length:Nat):Int),false):=by
  unfold Z4f;rw [n4];rfl
 have hl:s.length=(Zm x).length+(Zm y).length+(Zm z).length+(Z3b t).length:=by rw [← hs];simp only [Yk]
 unfold Zjj
 rw [n1]
 simp only [Yi,Y6,if_false]
 rw [n2]
 simp only [Yi,Y6,if_false]
 rw [n3]
 simp only [Yi,Y6,if_false]
 rw [n4']
 simp only [Yi,Y6,if_false]
 rw [hl]
def Zdl (s:Str) (a:Nat):Option ((Int×Int×Int×Str)×Nat):=(Zpb s a).bind fun x=>(Zpb s x.2).bind fun y=>(Zpb s y.2).bind fun z=>(Zug s z.2).map fun t=>((x.1,y.1,z.1,t.1),t.2)
def Zlk (x y z:Int) (t:Str):Str:=Zm x++Zm y++Zm z++Z3b t
theorem Zopb {s:Str} {a:Nat} {x y z:Int} {t:Str} {d:Nat} (h:Zdl s a=some ((x,y,z,t),d)):∃b c e,Got s a x b∧Got s b y c∧Got s c z e∧GotT s e t d:=by
 unfold Zdl at h
 obtain ⟨⟨n1,a1⟩,h1,h⟩:=Yl.1 h
 obtain ⟨⟨n2,a2⟩,h2,h⟩:=Yl.1 h
 obtain ⟨⟨n3,a3⟩,h3,h⟩:=Yl.1 h
 obtain ⟨⟨t',d'⟩,h8,h⟩:=Y0a.1 h
 cases h
 exact ⟨a1,a2,a3,Zwi h1,Zwi h2,Zwi h3,Z66 h8⟩
theorem Z5eb {s:Str} {a:Nat} {x y z:Int} {t:Str} {d:Nat} (h:Zdl s a=some ((x,y,z,t),d)):s.drop a=Zlk x y z t++s.drop d∧d=a+(Zlk x y z t).length∧Num x∧Num y∧Num z∧t.length≤8000∧d≤s.length:=by
 obtain ⟨b,c,e,g1,g2,g3,g4⟩:=Zopb h
 refine ⟨?_,?_,g1.range,g2.range,g3.range,g4.size,g4.le⟩
 ·have h1:=g1.eq
  rw [g2.eq,g3.eq,g4.eq] at h1;unfold Zlk;simp only [Yt];exact h1
 ·have:=g1.at';have:=g2.at';have:=g3.at';have:=g4.at'
  unfold Zlk;simp only [Yk];omega
theorem Zf5 {s:Str} {a:Nat} {n:Int} (h:Num n) {t:Str} (hs:s.drop a=Zm n++t):Zpb s a=some (n,a+(Zm n).length):=by
 unfold Zpb
 rw [Zwv n h s a t hs]
 rfl
theorem Z0pb {s:Str} {a:Nat} {x:Str} (h:x.length≤8000) {t:Str} (hs:s.drop a=Z3b x++t):Zug s a=some (x,a+(Z3b x).length):=by
 unfold Zug
 rw [Zhfb x h s a t hs]
 rfl
theorem Zcx (s:Str) (a:Nat) (ha:a≤s.length) (x y z:Int) (t:Str):Zri (s.drop a)=some (x,y,z,t) ↔ Zdl s a=some ((x,y,z,t),s.length)∧Zgd x y z t 8=true:=by
 constructor
 ·intro h
  have hr:=Znpb h;unfold Zri at h;cases hq:Zjj (s.drop a) with
  | none=>rw [hq] at h;cases h
  | some q=>
   obtain ⟨x',y',z',t',d⟩:=q;rw [hq] at h;dsimp only at h;split at h
   ·rename_i hc
    cases h;obtain ⟨b,c,e,g1,g2,g3,g4⟩:=Zycb hq;have hb:Zlk x y z t=s.drop a:=(Z03 g1 g2 g3 g4).2 hc.1;refine ⟨?_,hr⟩
    have e0:s.drop a=Zm x++(Zm y++(Zm z++(Z3b t++[]))):=by
     rw [← hb];unfold Zlk;simp only [Yt,Yy]
    have n1:=Zf5 g1.range e0;have e1:s.drop (a+(Zm x).length)=Zm y++(Zm z++(Z3b t++[])):=by rw [← Y9,e0,Yaa]
    have n2:=Zf5 g2.range e1;have e2:s.drop (a+(Zm x).length+(Zm y).length)=Zm z++(Z3b t++[]):=by rw [← Y9,e1,Yaa]
    have n3:=Zf5 g3.range e2;have e3:s.drop (a+(Zm x).length+(Zm y).length+(Zm z).length)=Z3b t++[]:=by rw [← Y9,e2,Yaa]
    have n4:=Z0pb g4.size e3;have hl:=congrArg Yfa e0;simp only [Yla,Yk,List.length_nil] at hl;unfold Zdl;simp only [n1,n2,n3,n4,Ya,Option.map_some];congr 2;omega
   ·cases h
 ·rintro ⟨h,hr⟩
  obtain ⟨h1,h2,n1,n2,n3,n4,_⟩:=Z5eb h;rw [Y1,Yy] at h1;unfold Zri;rw [h1];have:=Zxmb x y z t n1 n2 n3 n4;unfold Zlk;rw [this];dsimp only;rw [Xc ⟨rfl,hr⟩]
def Zcg (s:Str) (i:Int):Int×Int×Int×Str×Int:=
 if (Zyc s).2=0 then match Zpb (Zl s) 0 with
  | some (n,a)=>match Zri ((Zl s).drop a) with
   | some (x,y,z,t)=>if 0≤n∧n≤1000000 then (if n=i then (x,y,z,t,0) else (0,0,0,[],6)) else (0,0,0,[],3)
   | none=>(0,0,0,[],3)
  | none=>(0,0,0,[],3)
 else (0,0,0,[],(Zyc s).2)
theorem sL06 (x y z:Int) (t:Str) (hx:Num x) (hy:Num y) (hz:Num z) (ht:t.length≤8000):Ze fun k=>Z2l k (x,(y,(z,t)))=some (Zlk x y z t):=by
 have l1:=Zhc x
 have l2:=Zhc y
 have l3:=Zhc z
 have l4:=Zij t
 refine (Zxcb x y z t hx hy hz ht).mono fun k ⟨h1,h2,h3,h4⟩=>?_
 unfold Z2l
 exact Za h1 (Za h2 (Za (Zvc (by omega)) (Za h3 (Za (Zvc (by simp;omega)) (Za h4 (Za (Zvc (by simp;omega)) rfl))))))
theorem Zdeb (n x y z:Int) (t:Str) (hn:Num n) (hx:Num x) (hy:Num y) (hz:Num z) (ht:t.length≤8) (hr:Zgd x y z t 8=true):Ze fun k=>Z5k k n (x,(y,(z,t)))=some (if 0≤n∧n≤1000000 then Z4g (Zm n++Zlk x y z t) else []):=by
 have W:Zfb n 0 1000000=some (decide (0≤n)&&decide (n≤1000000)):=rfl
 have l0:=Zhc n
 have l1:=Zhc x
 have l2:=Zhc y
 have l3:=Zhc z
 have l4:=Zij t
 have lX:(Zlk x y z t).length≤60:=by unfold Zlk;simp only [Yk];omega
 by_cases c:0≤n∧n≤1000000
 ·refine (((Zyi n hn).and (sL06 x y z t hx hy hz (by omega))).and (Zk6 (Zm n++Zlk x y z t) (by simp;omega))).mono fun k ⟨⟨h1,h2⟩,h3⟩=>?_
  unfold Z5k;refine Za W ?_;rw [Xa c.1,Xa c.2,Xc c];simp only [Ye,Yb,Xf];refine Za (Zz0 x y z t 8 (by omega) (by omega)) ?_;rw [hr];simp only [Yb,Xf];exact Za h1 (Za h2 (Za (Zvc (by omega)) (Za h3 rfl)))
 ·refine Ze.of fun k=>?_
  unfold Z5k;refine Za W ?_
  have:(decide (0≤n)&&decide (n≤1000000))=false:=by
   rw [Yq,decide_eq_false_iff_not,decide_eq_false_iff_not];exact Classical.not_and_iff_not_or_not.1 c
  rw [this,Xd c];rfl
theorem Zpob (s:Str) (hs:s.length≤8000) (i:Int):Ze fun k=>Z6k k s i=some (Zcg s i):=by
 unfold Zcg
 by_cases hu:(Zyc s).2=0
 ·obtain ⟨e1,e2,e3⟩:=Zru hu
  have hbl:(Zl s).length≤8000:=by rw [Zhr];omega
  rw [Xc hu];cases hn:Zpb (Zl s) 0 with
  | none=>
   have h0:StS (Zl s) (Zl s,((0:Nat):Int),false) (some 0):=⟨rfl,0,rfl,by omega,rfl,rfl⟩;obtain ⟨v4,q4,h4,_⟩:=Z3m hbl h0;rw [show Zd (Zl s) (some 0)=none by simp [Zd,hn]] at h4;rcases h4.form with ⟨a,e,_,_⟩ | ⟨a,_,ha,e⟩
   ·cases e
   have hv:Zib (Zl s) 0=(0,Zl s,((0:Nat):Int),true):=by
    unfold Zpb at hn;unfold Zib;split at hn
    ·cases hn
    ·rename_i h
     rw [Xd h]
   have hv0:=Zmu (Zl s) 0 (by omega) hbl;refine (((Zyl s hs).and hv0).and (Zm6 (Zl s) hbl)).mono fun k ⟨⟨u,q4⟩,q6⟩=>?_
   have q4:Zdc k (Zl s,(0,false))=some (Zib (Zl s) 0):=q4;unfold Z6k;refine Za u ?_;rw [hu,e1];refine Za q4 ?_;rw [hv]
   have hc:Zob (Zl s) ((0:Nat):Int) ((Zl s).length:Int)=some (Zl s):=by
    have:=Znf (l:=Zl s) (i:=0) (j:=(Zl s).length) (by omega) (Yc _);rw [Yv] at this;exact this
   refine Za hc (Za q6 ?_);rfl
  | some w=>
   obtain ⟨n,a⟩:=w;have g:=Zwi hn;have hla:=g.le
   have hv:Zib (Zl s) 0=(n,Zl s,((a:Nat):Int),false):=by
    unfold Zpb at hn;unfold Zib;split at hn
    ·rename_i h
     rcases Z0k (Zl s) 0 with ⟨n',a',e,g'⟩ | ⟨c,hc,e⟩
     ·rw [e] at hn ⊢
      cases hn;rfl
     ·rw [e] at h;exact absurd h hc
    ·cases hn
   have hdl:((Zl s).drop a).length≤8000:=by simp;omega
   have hc:Zob (Zl s) ((a:Nat):Int) ((Zl s).length:Int)=some ((Zl s).drop a):=by
    have:=Znf (l:=Zl s) (i:=a) (j:=(Zl s).length) hla (Yc _);rw [Yv] at this;exact this
   have hv0:=Zmu (Zl s) 0 (by omega) hbl;dsimp only;cases hst:Zri ((Zl s).drop a) with
   | none=>
    refine (((Zyl s hs).and hv0).and (Zm6 ((Zl s).drop a) hdl)).mono fun k ⟨⟨u,q4⟩,q6⟩=>?_
    have q4:Zdc k (Zl s,(0,false))=some (Zib (Zl s) 0):=q4;rw [hst] at q6;have q6:Z1l k ((Zl s).drop a)=some (0,0,0,[],3):=q6;unfold Z6k;refine Za u ?_;rw [hu,e1];refine Za q4 ?_;rw [hv];refine Za hc (Za q6 ?_);rfl
   | some st=>
    obtain ⟨x,y,z,t⟩:=st;obtain ⟨hs1,hr⟩:=(Zcx (Zl s) a hla x y z t).1 hst;obtain ⟨b1,b2,nx,ny,nz,nt,_⟩:=Z5eb hs1;rw [Y1,Yy] at b1
    have hwhole:Zm n++Zlk x y z t=Zl s:=by
     have:=g.eq;rw [Yu,b1] at this;exact this.symm
    refine ((((Zyl s hs).and hv0).and (Zm6 ((Zl s).drop a) hdl)).and (Zdeb n x y z t g.range nx ny nz (Zbx hr) hr)).mono fun k ⟨⟨⟨u,q4⟩,q6⟩,q7⟩=>?_
    have q4:Zdc k (Zl s,(0,false))=some (Zib (Zl s) 0):=q4;rw [hst] at q6;have q6:Z1l k ((Zl s).drop a)=some (x,y,z,t,0):=q6;unfold Z6k;refine Za u ?_;rw [hu,e1];refine Za q4 ?_;rw [hv];refine Za hc (Za q6 ?_);rw [show (false||((0:Int) != 0))=false from rfl,Xf];refine Za q7 ?_;rw [hwhole,e2,Zdr];dsimp only
    by_cases c:0≤n∧n≤1000000
    ·rw [Xc c,Xc c,Xa rfl]
     simp only [Yb,Xf]
     by_cases ci:n=i
     ·rw [Xc ci,show (n != i)=false by simpa using ci]
      rfl
     ·rw [Xd ci,show (n != i)=true by simpa using ci]
      rfl
    ·rw [Xd c,Xd c,Xb (fun q=>by rw [← q] at e3;simp at e3)]
     rfl
 ·rw [Xd hu]
  refine (Zyl s hs).mono fun k u=>?_
  unfold Z6k;refine Za u ?_;rw [show ((Zyc s).2 != 0)=true by simpa using hu];rfl
theorem Zjkb {s:Str} (hs:s.length≤8000) {st:Str×Int×Bool} {p:Option Nat} (h:StS s st p):∃v:Int×Int×Int×Str×Str×Int×Bool,(Ze fun k=>Zop k st=some v) ∧
  ((∃a q d,p=some a∧Zdl s a=some (q,d)∧v=(q.1,q.2.1,q.2.2.1,q.2.2.2,s,(d:Int),false))∨((∀a,p=some a→Zdl s a=none)∧v.2.2.2.2.2.2=true)):=by
 obtain ⟨v1,e1,h1,g1⟩:=Z5j hs h
 obtain ⟨v2,e2,h2,g2⟩:=Z5j hs h1
 obtain ⟨v3,e3,h3,g3⟩:=Z5j hs h2
 obtain ⟨v4,e4,h4,g4⟩:=Z93 hs h3
 have bad:∀{st:Str×Int×Bool},StS s st none→st.2.2=true:=fun h=>h.2.choose_spec.2.2
 refine ⟨(v1.1,v2.1,v3.1,v4.1,v4.2.1,v4.2.2.1,v4.2.2.2),(((e1.and e2).and e3).and e4).mono fun k ⟨⟨⟨q1,q2⟩,q3⟩,q4⟩=>?_,?_⟩
 ·unfold Zop
  exact Za q1 (Za q2 (Za q3 (Za q4 rfl)))
 clear e1 e2 e3 e4 h h1 h2 h3
 cases p with
 | none=>
  refine .inr ⟨fun a e=>(by cases e),bad (st:=v4.2) ?_⟩;have:Zcb s (Zd s (Zd s (Zd s none)))=none:=rfl
  rwa [this] at h4
 | some a=>
  cases x1:Zpb s a with
  | none=>
   refine .inr ⟨fun a' e=>by cases e;simp [Zdl,x1],bad (st:=v4.2) ?_⟩;have:Zcb s (Zd s (Zd s (Zd s (some a))))=none:=by simp [Zd,Zcb,x1]
   rwa [this] at h4
  | some y1=>
  obtain ⟨n1,a1⟩:=y1;cases x2:Zpb s a1 with
  | none=>
   refine .inr ⟨fun a' e=>by cases e;simp [Zdl,x1,x2],bad (st:=v4.2) ?_⟩;have:Zcb s (Zd s (Zd s (Zd s (some a))))=none:=by simp [Zd,Zcb,x1,x2]
   rwa [this] at h4
  | some y2=>
  obtain ⟨n2,a2⟩:=y2;cases x3:Zpb s a2 with
  | none=>
   refine .inr ⟨fun a' e=>by cases e;simp [Zdl,x1,x2,x3],bad (st:=v4.2) ?_⟩;have:Zcb s (Zd s (Zd s (Zd s (some a))))=none:=by simp [Zd,Zcb,x1,x2,x3]
   rwa [this] at h4
  | some y3=>
  obtain ⟨n3,a3⟩:=y3;cases x4:Zug s a3 with
  | none=>
   refine .inr ⟨fun a' e=>by cases e;simp [Zdl,x1,x2,x3,x4],bad (st:=v4.2) ?_⟩;have:Zcb s (Zd s (Zd s (Zd s (some a))))=none:=by simp [Zd,Zcb,x1,x2,x3,x4]
   rwa [this] at h4
  | some y4=>
   obtain ⟨t,d⟩:=y4;have p1:Zd s (some a)=some a1:=by simp [Zd,x1]
   have p2:Zd s (Zd s (some a))=some a2:=by simp [Zd,x1,x2]
   have p3:Zd s (Zd s (Zd s (some a)))=some a3:=by simp [Zd,x1,x2,x3]
   have p4:Zcb s (Zd s (Zd s (Zd s (some a))))=some d:=by simp [Zd,Zcb,x1,x2,x3,x4]
   have r1:=g1 _ _ _ rfl x1;have r2:=g2 _ _ _ p1 x2;have r3:=g3 _ _ _ p2 x3;have r4:=g4 _ _ _ p3 x4;refine .inl ⟨a,(n1,n2,n3,t),d,rfl,by simp [Zdl,x1,x2,x3,x4],?_⟩;rw [p4] at h4;rcases h4.form with ⟨b,e,_,q⟩ | ⟨b,e,_,q⟩
   ·cases e
    rw [r1,r2,r3,r4,q]
   ·cases e
theorem Zmkb (s:Str) (hs:s.length≤8000) (i:Int):Ze fun k=>Ztm k s i=some (Zcg s i):=by
 unfold Zcg
 by_cases hu:(Zyc s).2=0
 ·obtain ⟨e1,e2,e3⟩:=Zru hu
  have hbl:(Zl s).length≤8000:=by rw [Zhr];omega
  rw [Xc hu];have h0:StS (Zl s) (Zl s,((0:Nat):Int),false) (some 0):=⟨rfl,0,rfl,by omega,rfl,rfl⟩;obtain ⟨v4,q4,h4,g4⟩:=Z5j hbl h0;obtain ⟨v5,q5,c5⟩:=Zjkb hbl h4;refine (((Zot s (by omega)).and q4).and q5).mono fun k ⟨⟨u,q4⟩,q5⟩=>?_
  unfold Ztm;refine Za u ?_;rw [hu,e1];refine Za q4 (Za q5 ?_);rcases c5 with ⟨a,q,d,hp,hst,hv⟩ | ⟨hno,hv⟩
  ·cases hn:Zpb (Zl s) 0 with
   | none=>simp [Zd,hn] at hp
   | some w=>
    obtain ⟨n,a'⟩:=w;have:a'=a:=by simpa [Zd,hn] using hp
    subst this;have r4:=g4 _ _ _ rfl hn;have hla:=(Zwi hn).le;obtain ⟨x,y,z,t⟩:=q;rw [hv,r4];dsimp only;have hT:Zli n=some (decide (0≤n)&&decide (n≤1000000)):=rfl
    by_cases hd:d=(Zl s).length
    ·rw [show (false||(((d:Nat):Int) != ((Zl s).length:Int)))=false by rw [hd];simp,Xf]
     refine Za hT ?_;cases hb:Zgd x y z t 8 with
     | true=>
      have hso:=(Zcx (Zl s) a' hla x y z t).2 ⟨by rw [hst,hd],hb⟩;rw [hso];dsimp only
      by_cases c:0≤n∧n≤1000000
      ·rw [Xa c.1,Xa c.2,Xc c]
       simp only [Ye,Yb,Xf];refine Za (Z9y x y z t 8 (by omega) (by omega)) ?_;rw [hb];simp only [Yb,Xf]
       by_cases ci:n=i
       ·rw [Xc ci,show (n != i)=false by simpa using ci]
        rfl
       ·rw [Xd ci,show (n != i)=true by simpa using ci]
        rfl
      ·have:(decide (0≤n)&&decide (n≤1000000))=false:=by
        rw [Yq,decide_eq_false_iff_not,decide_eq_false_iff_not];exact Classical.not_and_iff_not_or_not.1 c
       rw [this,Xd c];rfl
     | false=>
      have hso:Zri ((Zl s).drop a')=none:=by
       cases q:Zri ((Zl s).drop a') with
       | none=>rfl
       | some r=>
        obtain ⟨x',y',z',t'⟩:=r;obtain ⟨k1,k2⟩:=(Zcx (Zl s) a' hla x' y' z' t').1 q;rw [hst] at k1;cases k1;rw [hb] at k2;cases k2
      rw [hso];dsimp only;cases (decide (0≤n)&&decide (n≤1000000)) with
      | false=>rfl
      | true=>
       simp only [Yb,Xf];refine Za (Z9y x y z t 8 (by omega) (by omega)) ?_;rw [hb];rfl
    ·rw [show (false||(((d:Nat):Int) != ((Zl s).length:Int)))=true by simp;omega]
     have hso:Zri ((Zl s).drop a')=none:=by
      cases q:Zri ((Zl s).drop a') with
      | none=>rfl
      | some r=>
       obtain ⟨x',y',z',t'⟩:=r;obtain ⟨k1,k2⟩:=(Zcx (Zl s) a' hla x' y' z' t').1 q;rw [hst] at k1;cases k1;exact absurd rfl hd
     rw [hso];rfl
  ·rw [hv]
   cases hn:Zpb (Zl s) 0 with
   | none=>rfl
   | some w=>
    obtain ⟨n,a⟩:=w;have hla:=(Zwi hn).le
    have hso:Zri ((Zl s).drop a)=none:=by
     cases q:Zri ((Zl s).drop a) with
     | none=>rfl
     | some r=>
      obtain ⟨x',y',z',t'⟩:=r;obtain ⟨k1,k2⟩:=(Zcx (Zl s) a hla x' y' z' t').1 q;rw [hno a (by simp [Zd,hn])] at k1;cases k1
    dsimp only;rw [hso];rfl
 ·rw [Xd hu]
  refine (Zot s (by omega)).mono fun k u=>?_
  unfold Ztm;refine Za u ?_;rw [show ((Zyc s).2 != 0)=true by simpa using hu];rfl
def Zhk:List Str→Nat→List Zk
 | [],_=>[]
 | s::l,i=>if (Zcg s (i:Int)).2.2.2.2=0 then ((Zcg s (i:Int)).1,(Zcg s (i:Int)).2.1,(Zcg s (i:Int)).2.2.1,(Zcg s (i:Int)).2.2.2.1)::Zhk l (i+1) else []
theorem Zp6:∀(l:List Str) (i:Nat),(Zhk l i).length≤l.length
 | [],_=>Yc _
 | s::l,i=>by
  unfold Zhk;have:=Zp6 l (i+1);split
  ·simp only [List.length_cons];omega
  ·simp
theorem Zoeb (L:Nat→Nat→List Zk→Option (List Zk)) (l:List Str)
  (hs:∀i,(h:i<l.length)→∀acc j,acc.length≤i→L (j+1) i acc=if (Zcg l[i] (i:Int)).2.2.2.2=0 then L j (i+1) (acc++[((Zcg l[i] (i:Int)).1,(Zcg l[i] (i:Int)).2.1,(Zcg l[i] (i:Int)).2.2.1,(Zcg l[i] (i:Int)).2.2.2.1)]) else some acc)
  (he:∀acc j,L (j+1) l.length acc=some acc) {k:Nat} (hk:l.length<k):L k 0 []=some (Zhk l 0):=by
 have key:∀(d i:Nat) (acc:List Zk),i+d=l.length→acc.length≤i→∀j,d<j→L j i acc=some (acc++Zhk (l.drop i) i):=by
  intro d
  induction d with
  | zero=>
   intro i acc hi hacc j hj;obtain ⟨j,rfl⟩:∃q,j=q+1:=⟨j-1,by omega⟩;obtain rfl:i=l.length:=by omega
   rw [he,Y1];simp [Zhk]
  | succ d ih=>
   intro i acc hi hacc j hj;obtain ⟨j,rfl⟩:∃q,j=q+1:=⟨j-1,by omega⟩;have h:i<l.length:=by omega
   rw [hs i h acc j hacc,List.drop_eq_getElem_cons h]
   by_cases c:(Zcg l[i] (i:Int)).2.2.2.2=0
   ·rw [Xc c,ih (i+1) _ (by omega) (by simp;omega) j (by omega),Zhk,Xc c,Yt]
    rfl
   ·rw [Xd c,Zhk,Xd c,Yy]
 have:=key l.length 0 [] (Yya _) (by simp) k hk
 rw [this,Yu]
 rfl
theorem Zpkb (l:List Str) (hl:l.length≤1000) (hs:∀s∈l,s.length≤8000):Ze fun k=>Zqf k l=some (Zhk l 0):=by
 have hr:Ze fun k=>∀i,i<l.length→∀h:i<l.length,Ztm k l[i] (i:Int)=some (Zcg l[i] (i:Int)):=Ze.all fun i h=>(Zmkb l[i] (hs _ (Yn h)) (i:Int)).mono fun k e h=>e
 refine (hr.and (Ze.ge (l.length+1) fun k hk=>hk)).mono fun k ⟨hr,hk⟩=>?_
 have h:=Zoeb (fun j i acc=>Zqf.l0 k j l (l.length:Int) (i:Int) acc) l (fun i h acc j hacc=>?_) (fun acc j=>?_) (k:=k) (by omega)
 ·have h:Zqf.l0 k k l (l.length:Int) 0 []=some (Zhk l 0):=h
  unfold Zqf;exact Za h rfl
 ·conv=>lhs;unfold Zqf.l0
  rw [dlt h,Zn (by omega),Xe];refine Za (Zi h) (Za (hr i h h) ?_)
  by_cases c:(Zcg l[i] (i:Int)).2.2.2.2=0
  ·rw [Xc c,show ((Zcg l[i] (i:Int)).2.2.2.2 != 0)=false by simpa using c,Xf]
   exact Za (Z4 (by simp;omega)) rfl
  ·rw [Xd c,show ((Zcg l[i] (i:Int)).2.2.2.2 != 0)=true by simpa using c]
   rfl
 ·conv=>lhs;unfold Zqf.l0
  rw [Zv (Yc _)];rfl
theorem Zsob (l:List Str) (hl:l.length≤1000) (hs:∀s∈l,s.length≤8000):Ze fun k=>Z3f k l=some (Zhk l 0):=by
 have hr:Ze fun k=>∀i,i<l.length→∀h:i<l.length,Z6k k l[i] (i:Int)=some (Zcg l[i] (i:Int)):=Ze.all fun i h=>(Zpob l[i] (hs _ (Yn h)) (i:Int)).mono fun k e h=>e
 refine (hr.and (Ze.ge (l.length+1) fun k hk=>hk)).mono fun k ⟨hr,hk⟩=>?_
 have h:=Zoeb (fun j i acc=>Z3f.l0 k j l (i:Int) acc) l (fun i h acc j hacc=>?_) (fun acc j=>?_) (k:=k) (by omega)
 ·have h:Z3f.l0 k k l 0 []=some (Zhk l 0):=h
  unfold Z3f;exact Za h rfl
 ·conv=>lhs;unfold Z3f.l0
  rw [dlt h,Zn (by omega),Xe];refine Za (Zi h) (Za (hr i h h) ?_)
  by_cases c:(Zcg l[i] (i:Int)).2.2.2.2=0
  ·rw [Xc c,show ((Zcg l[i] (i:Int)).2.2.2.2 != 0)=false by simpa using c,Xf]
   exact Za (Z4 (by simp;omega)) rfl
  ·rw [Xd c,show ((Zcg l[i] (i:Int)).2.2.2.2 != 0)=true by simpa using c]
   rfl
 ·conv=>lhs;unfold Z3f.l0
  rw [Zv (Yc _)];rfl
def Z4i (m:Zr) (st:Int) (w:Nat):List Str:=((Zb w).drop st.toNat).map fun x=>Zz m.2 (3+m.1+x)
def Zc (m:Zr) (st:Int) (w:Nat):List Zk:=Zhk (Z4i m st w) 0
theorem Z21 (m:Zr) (st:Int) (w:Nat):(Z4i m st w).length≤24:=by
 have:=Z7c w
 unfold Z4i
 simp
 omega
theorem Ziz (m:Zr) (st:Int) (w:Nat):(Zc m st w).length≤24:=Yra (Zp6 _ _) (Z21 m st w)
structure Fit (m:Zr) (st:Int) (w:Nat):Prop where
 b:1≤m.1∧m.1≤8
 f:Z9f m.2=true
 n:(m.2.1.length:Int)=m.1+27
 s:0≤st∧st≤((Zb w).length:Int)
theorem Fit.dirt {m:Zr} {st:Int} {w:Nat} (h:Fit m st w):m.2.2.length≤1048576:=by
 have:=(Zyo h.f).1
 omega
theorem Z57 {m:Zr} {st:Int} {w:Nat} (h:Z9f m.2=true):∀s∈Z4i m st w,s.length≤8000:=by
 intro s hs
 unfold Z4i at hs
 obtain ⟨x,_,rfl⟩:=Yba.1 hs
 have:=Zkm h (3+m.1+x)
 omega
theorem Zwbb {α β:Type} {l:List α} (f:α→β) {i:Nat} (h:i<l.length):(l.take (i+1)).map f=(l.take i).map f++[f l[i]]:=Zbfb f h
theorem Zyv {m:Zr} {w:Nat} (ph tr nd st dn:Int) (dg:Str) (v:List Int) (h:Fit m st w):Ze fun k=>Z8c k m (ph,tr,nd,st,dn,dg,v,Zb w)=some (Zc m st w):=by
 obtain ⟨p,hp⟩:∃p:Nat,st=(p:Int):=⟨st.toNat,by have:=h.s;omega⟩
 subst hp
 have hb:=h.b
 have hn:=h.n
 have hd:=h.dirt
 have hw:=Z7c w
 have hs:p≤(Zb w).length:=by have:=h.s;omega
 refine ((Zpkb (Z4i m p w) (by have:=Z21 m p w;omega) (Z57 h.f)).and (Ze.ge 1048577 fun k hk=>hk)).mono fun k ⟨e,hk⟩=>?_
 have hc:Zob (Zb w) ((p:Nat):Int) ((Zb w).length:Int)=some ((Zb w).drop p):=by
  have:=Znf (l:=Zb w) (i:=p) (j:=(Zb w).length) hs (Yc _)
  rwa [Yv] at this
 have run:=Zrb (fun j i=>Z8c.l0 k j m.1 m.2.1 m.2.2 ((Zb w).drop p) (((Zb w).drop p).length:Int) (i:Int) ((((Zb w).drop p).take i).map fun x=>Zz m.2 (3+m.1+x))) ((Zb w).drop p).length (Z4i m p w) (fun i hi j=>?_) (fun j=>?_) k (by simp;omega)
 ·have run:Z8c.l0 k k m.1 m.2.1 m.2.2 ((Zb w).drop p) (((Zb w).drop p).length:Int) 0 []=some (Z4i m p w):=run
  unfold Z8c;exact Za hc (Za run (Za e rfl))
 ·have hx:0≤((Zb w).drop p)[i]∧((Zb w).drop p)[i]≤23:=by
   rw [Yka];exact Zyj (by simp at hi;omega)
  have r:Zbj k (m.1,(m.2.1,m.2.2)) ((Zb w).drop p)[i]=some (Zz m.2 (3+m.1+((Zb w).drop p)[i])):=by
   unfold Zbj Zph;rw [w64 (n:=3+m.1) (by omega) (by omega),w64 (by omega) (by omega)];exact Za rfl (Za (Z1o m.2 _ hd (by omega) (by omega) (by omega)) rfl)
  conv=>lhs;unfold Z8c.l0
  rw [dlt hi,Zn (by simp at hi;omega),Xe];refine Za (Zi hi) (Za r (Za (Z4 (by simp;omega)) ?_));rw [Zwbb _ hi]
 ·conv=>lhs;unfold Z8c.l0
  rw [Zv (Yc _),Yv];rfl
theorem Zgq {m:Zr} {w:Nat} (ph tr nd st dn:Int) (dg:Str) (v:List Int) (h:Fit m st w):Ze fun k=>Zjc k m (ph,tr,nd,st,dn,dg,v,Zb w)=some (Zc m st w):=by
 obtain ⟨p,hp⟩:∃p:Nat,st=(p:Int):=⟨st.toNat,by have:=h.s;omega⟩
 subst hp
 have hb:=h.b
 have hn:=h.n
 have hd:=h.dirt
 have hw:=Z7c w
 have hs:p≤(Zb w).length:=by have:=h.s;omega
 refine ((Zsob (Z4i m p w) (by have:=Z21 m p w;omega) (Z57 h.f)).and (Ze.ge 1048577 fun k hk=>hk)).mono fun k ⟨e,hk⟩=>?_
 have run:=Zrb (fun j i=>Zjc.l0 k j m.1 m.2.1 m.2.2 ph tr nd p dn dg v (Zb w) ((p+i:Nat):Int) ((((Zb w).drop p).take i).map fun x=>Zz m.2 (3+m.1+x))) ((Zb w).drop p).length (Z4i m p w) (fun i hi j=>?_) (fun j=>?_) k (by simp;omega)
 ·have run:Zjc.l0 k k m.1 m.2.1 m.2.2 ph tr nd p dn dg v (Zb w) (p:Int) []=some (Z4i m p w):=run
  unfold Zjc;exact Za run (Za e rfl)
 ·have hi2:p+i<(Zb w).length:=by simp at hi;omega
  have hx:=Zyj hi2;have hg:((Zb w).drop p)[i]=(Zb w)[p+i]:=Yka;have r:Ztb k (m.2.1,m.2.2) (3+m.1+(Zb w)[p+i])=some (Zz m.2 (3+m.1+(Zb w)[p+i])):=Z8n m.2 _ hd (by omega) (by omega) (by omega)
  have ra:Z5g (m.1,(m.2.1,m.2.2)) (Zb w)[p+i]=some (3+m.1+(Zb w)[p+i]):=by
   unfold Z5g;rw [w64 (n:=3+m.1) (by omega) (by omega),w64 (by omega) (by omega)]
  conv=>lhs;unfold Zjc.l0
  rw [dlt hi2,Zn (by omega),Xe];refine Za (Zi hi2) (Za ra (Za r (Za (Z4 (by simp;omega)) ?_)));rw [Zwbb _ hi,hg];rfl
 ·have hq:p+((Zb w).drop p).length=(Zb w).length:=by simp;omega
  conv=>lhs;unfold Zjc.l0
  rw [hq,Zv (Yc _),Yv];rfl
end Go.Proofs.Qz
