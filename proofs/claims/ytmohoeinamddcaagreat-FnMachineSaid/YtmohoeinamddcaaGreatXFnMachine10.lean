/- What the law FnMachine needs, part 11 of 16: the Lean functions of the Go functions that it reaches, with the proofs that the calls come to what they say, and plain facts about them. Conditions: those that each theorem states. Written by a session and by its programs (after the kit's printer). -/
import Derived.Lib.ItoaNum
import Derived.Test.YtmohoeinamddcaaGreatXFnMachine9
open Option renaming bind_some → Ya, some → Ysa, isSome_some → Yeb
open List renaming range → Yb, replicate → Yd, getElem_mem → Ye, mem_cons_self → Yh, all_eq_true → Yj, append_assoc → Yk, getElem?_cons_succ → Yl, length_take → Ym, mem_singleton → Yn, getElem?_eq_getElem → Yp, length_filter_le → Yq, mem_range → Yr, append_nil → Yt, getElem?_cons_zero → Yu, length_cons → Yv, nodup_nil → Yw, take_length → Yx, filter_append → Y1, length_append → Y2, length_erase_of_mem → Y3, length_replicate → Y4, length_set → Y5, nodup_append → Y6, nodup_cons → Y7, drop_zero → Y8, length_range → Y9, mem_append → Yaa, drop_eq_getElem_cons → Yea, eq_nil_of_length_eq_zero → Yfa, find? → Yga, find?_eq_none → Yha, getElem_of_mem → Yia, getElem_replicate → Yja, getElem_set → Yka, getElem_take → Yla, length_map → Yma, length_nil → Yna, mem_filter → Yoa, mem_of_mem_erase → Ypa, take → Yqa, any_eq_true → Yxa, drop_length → Yya, ext_getElem → Yza, filter_eq_self → Y0a, find?_append → Y1a, find?_some → Y2a, getD_eq_getElem?_getD → Y3a, getElem_map → Y4a, getElem_range → Y5a, map_append → Y6a, mem_append_right → Y7a, mem_map → Y8a, mem_of_find?_eq_some → Y9a, not_all_eq_any_not → Yab, take_sublist → Ybb, take_succ_cons → Ycb
open Nat renaming le_refl → Yc, zero_add → Yi, lt_or_ge → Yba, zero_le → Yca, not_lt_zero → Yra, le_trans → Ydb
open Bool renaming and_eq_true → Yf, not_true → Yo, and_self → Ys, eq_false_iff → Yy, false_eq_true → Yz, true_and → Y0, eq_iff_iff → Yta, or_eq_true → Yua, or_false → Yva
open Int renaming toNat_natCast → Yg, eq_ofNat_of_zero_le → Ywa
open Go.IntKind renaming wrap → Yda
namespace Go.Proofs.Qz
open Go
set_option linter.unusedVariables false
theorem Z90 (s:Str) (h:s.length≤8000):Zc fun k=>Zgj k s=some (Zcb s):=by
 refine (Zdj (s.length:Int) ⟨by omega,by omega⟩).mono fun k hk=>?_
 have:=Zuc (s.length:Int)
 unfold Zgj
 rw [Xb (by omega:¬(8000<(s.length:Int))),hk]
 simp only [Xf,Ya]
 rw [Zwd (by omega)]
 rfl
section
variable (s:Str) (a:Nat) (ha:a<9223372036854775000)
include ha
theorem Zcx (hs:s.length≤8000):Zc fun k=>Zjm k s (a:Int)=some (Zxh s a):=by
 refine (Zuu s a ha hs).mono fun k h=>?_
 unfold Zjm Zxh
 rw [h]
 rcases Zfl s a with ⟨n,a',e,g⟩ | ⟨c,hc,e⟩
 ·rw [e]
  simp only [if_true,Ya];have hle:=g.le;rw [show ((0:Int) != 0)=false from rfl,Xf]
  by_cases hn:0≤n∧n≤8000
  ·rw [Xb (by omega:¬(n<0)),Xb (by omega:¬(8000<n)),Xc hn,w64 (n:=(s.length:Int)-n) (by omega) (by omega),w64 (n:=(a':Int)+n) (by omega) (by omega)]
   by_cases hq:n > (s.length:Int)-(a':Int)
   ·rw [Xa (by omega:(s.length:Int)-n<(a':Int)),Xc hq]
    rfl
   ·rw [Xb (by omega:¬((s.length:Int)-n<(a':Int))),Xd hq]
    obtain ⟨m,rfl⟩:∃m:Nat,n=(m:Int):=⟨n.toNat,by omega⟩;rw [show ((a':Int)+(m:Int))=((a'+m:Nat):Int) by omega];have hc:=Zhi (l:=s) (i:=a') (j:=a'+m) (by omega) (by omega);simp only [Yva,Xf];rw [hc];rfl
  ·rw [Xd hn,show (decide (n<0)||decide (8000<n))=true by
    by_cases h0:n<0
    ·rw [Xa h0];rfl
    ·rw [Xa (by omega:8000<n),Bool.or_true]]
   rfl
 ·rw [e]
  simp only [Ya];rw [Xd hc,show (c != 0)=true by simpa using hc];rfl
theorem Zb4 (hs:s.length≤140737488351232):Zc fun k=>Z4p k s (a:Int)=some (Zxh s a):=by
 refine (Zjz s a ha hs).mono fun k h=>?_
 unfold Z4p Zxh
 rw [h]
 rcases Zfl s a with ⟨n,a',e,g⟩ | ⟨c,hc,e⟩
 ·rw [e]
  simp only [if_true,Ya];have hle:=g.le;rw [show ((0:Int) != 0)=false from rfl,Xf];unfold Znb;simp only [Ya]
  by_cases hn:0≤n∧n≤8000
  ·rw [Xa (by omega:0≤n),Xa (by omega:n≤8000),Xc hn,w64 (n:=(s.length:Int)-(a':Int)) (by omega) (by omega),w64 (n:=(a':Int)+n) (by omega) (by omega)]
   by_cases hq:n > (s.length:Int)-(a':Int)
   ·rw [Xa (by omega:(s.length:Int)-(a':Int)<n),Xc hq]
    rfl
   ·rw [Xb (by omega:¬((s.length:Int)-(a':Int)<n)),Xd hq]
    obtain ⟨m,rfl⟩:∃m:Nat,n=(m:Int):=⟨n.toNat,by omega⟩;rw [show ((a':Int)+(m:Int))=((a'+m:Nat):Int) by omega];have hc:=Zhi (l:=s) (i:=a') (j:=a'+m) (by omega) (by omega);simp only [Bool.and_true,Yo,Xf];rw [hc];rfl
  ·rw [Xd hn,show (decide (0≤n)&&decide (n≤8000))=false by
    by_cases h0:0≤n
    ·rw [Xb (by omega:¬(n≤8000)),Bool.and_false]
    ·rw [Xb h0];rfl]
   rfl
 ·rw [e]
  simp only [Ya];rw [Xd hc,show (c != 0)=true by simpa using hc];rfl
theorem Z5bb (hs:s.length≤140737488351232):Zc fun k=>Z7g k (s,((a:Int),false))=some (Zhg s a):=by
 refine (Zb4 s a ha hs).mono fun k h=>?_
 unfold Z7g Zhg
 rw [h]
 rcases Znr s a with ⟨n,a',e,g⟩ | ⟨c,hc,e⟩
 ·rw [e];rfl
 ·rw [e,Xd hc]
  simp only [Ya];rw [show (c != 0)=true by simpa using hc];rfl
theorem Zofb (hs:s.length≤8000):Zc fun k=>Z6h k (s,((a:Int),false))=some (Zhg s a):=by
 refine (Zcx s a ha hs).mono fun k h=>?_
 unfold Z6h Zhg
 rw [h]
 rcases Znr s a with ⟨n,a',e,g⟩ | ⟨c,hc,e⟩
 ·rw [e];rfl
 ·rw [e,Xd hc]
  simp only [Ya];rw [show (c != 0)=true by simpa using hc];rfl
theorem Zb1 (hs:s.length≤8000):Zc fun k=>Z6h k (s,((a:Int),true))=some ([],s,(a:Int),true):=by
 refine (Zcx s a ha hs).mono fun k h=>?_
 unfold Z6h
 rw [h]
 rfl
theorem Z6bb (hs:s.length≤140737488351232):∃(t:Str) (a':Nat),(Zc fun k=>Z7g k (s,((a:Int),true))=some (t,s,(a':Int),true))∧a'≤max a s.length:=by
 rcases Znr s a with ⟨n,a',e,g⟩ | ⟨c,hc,e⟩
 ·refine ⟨n,a',(Zb4 s a ha hs).mono fun k h=>?_,?_⟩
  ·unfold Z7g
   rw [h,e];rfl
  ·have:=g.le;omega
 ·refine ⟨[],a,(Zb4 s a ha hs).mono fun k h=>?_,by omega⟩
  unfold Z7g;rw [h,e];simp only [Ya];rw [show (c != 0)=true by simpa using hc];rfl
end
def Ztj (s:Str):Option (Int×Int×Int×Str×Nat):=if (Zkb s 0).2.2.2=true then none else if (Zkb s (Zkb s 0).2.2.1.toNat).2.2.2=true then none else if (Zkb s (Zkb s (Zkb s 0).2.2.1.toNat).2.2.1.toNat).2.2.2=true then none else if (Zhg s (Zkb s (Zkb s (Zkb s 0).2.2.1.toNat).2.2.1.toNat).2.2.1.toNat).2.2.2=true then none else some ((Zkb s 0).1,(Zkb s (Zkb s 0).2.2.1.toNat).1,(Zkb s (Zkb s (Zkb s 0).2.2.1.toNat).2.2.1.toNat).1,(Zhg s (Zkb s (Zkb s (Zkb s 0).2.2.1.toNat).2.2.1.toNat).2.2.1.toNat).1,(Zhg s (Zkb s (Zkb s (Zkb s 0).2.2.1.toNat).2.2.1.toNat).2.2.1.toNat).2.2.1.toNat)
theorem Z83 {s:Str} {x y z:Int} {t:Str} {a b c d:Nat} (g1:Got s 0 x a) (g2:Got s a y b) (g3:Got s b z c) (g4:GotT s c t d):Zk x++Zk y++Zk z++Zcb t=s ↔ d=s.length:=by
 have e1:=g1.eq
 have e2:=g2.eq
 have e3:=g3.eq
 have e4:=g4.eq
 rw [Y8] at e1
 constructor
 ·intro h
  have h1:=congrArg List.length h;rw [Y2,Y2,Y2] at h1;have:=g1.at';have:=g2.at';have:=g3.at';have:=g4.at';omega
 ·rintro rfl
  rw [List.drop_of_length_le (l:=s) (i:=s.length) (Yc _),Yt] at e4;rw [← e4,Yk,← e3,Yk,← e2,← e1]
theorem Z2db {s:Str} {x y z:Int} {t:Str} {d:Nat} (h:Ztj s=some (x,y,z,t,d)):∃a b c,Got s 0 x a∧Got s a y b∧Got s b z c∧GotT s c t d:=by
 unfold Ztj at h
 rcases Zau s 0 with ⟨x',a,e1,g1⟩ | e1
 ·rw [e1] at h
  simp only [Yg,Yz,if_false] at h;rcases Zau s a with ⟨y',b,e2,g2⟩ | e2
  ·rw [e2] at h
   simp only [Yg,Yz,if_false] at h;rcases Zau s b with ⟨z',c,e3,g3⟩ | e3
   ·rw [e3] at h
    simp only [Yg,Yz,if_false] at h;rcases Zjgb s c with ⟨t',d',e4,g4⟩ | e4
    ·rw [e4] at h
     simp only [Yg,Yz,if_false,Ysa.injEq,Prod.mk.injEq] at h;obtain ⟨rfl,rfl,rfl,rfl,rfl⟩:=h;exact ⟨a,b,c,g1,g2,g3,g4⟩
    ·rw [e4] at h;simp at h
   ·rw [e3] at h;simp at h
  ·rw [e2] at h;simp at h
 ·rw [e1] at h;simp at h
def Z8gb (k:Nat) (s:Str):Prop:=∃v3 v4 v5:Int×Str×Int×Bool,∃v6:Str×Str×Int×Bool,Zoc k (s,(0,false))=some v3∧Zoc k v3.2=some v4∧Zoc k v4.2=some v5∧Z6h k v5.2=some v6 ∧ ((∃x y z t d,Ztj s=some (x,y,z,t,d)∧v3.1=x∧v4.1=y∧v5.1=z∧v6=(t,s,((d:Nat):Int),false))∨(Ztj s=none∧v6.2.2.2=true))
theorem Zheb (s:Str) (hs:s.length≤8000):Zc fun k=>Z8gb k s:=by
 have f0:=Zvu s 0 (by omega) hs
 rcases Zau s 0 with ⟨x,a,e1,g1⟩ | e1
 ·have l1:=g1.le
  have f1:=Zvu s a (by omega) hs;rcases Zau s a with ⟨y,b,e2,g2⟩ | e2
  ·have l2:=g2.le
   have f2:=Zvu s b (by omega) hs;rcases Zau s b with ⟨z,c,e3,g3⟩ | e3
   ·have l3:=g3.le
    have f3:=Zofb s c (by omega) hs;refine (((f0.and f1).and f2).and f3).mono fun k ⟨⟨⟨h0,h1⟩,h2⟩,h3⟩=>⟨Zkb s 0,Zkb s a,Zkb s b,Zhg s c,h0,?_,?_,?_,?_⟩
    ·rw [e1];exact h1
    ·rw [e2];exact h2
    ·rw [e3];exact h3
    ·rcases Zjgb s c with ⟨t,d,e4,g4⟩ | e4
     ·refine .inl ⟨x,y,z,t,d,?_,by rw [e1],by rw [e2],by rw [e3],e4⟩
      unfold Ztj;simp [e1,e2,e3,e4]
     ·refine .inr ⟨?_,by rw [e4]⟩
      unfold Ztj;simp [e1,e2,e3,e4]
   ·have f3:=Zb1 s b (by omega) hs
    refine (((f0.and f1).and f2).and f3).mono fun k ⟨⟨⟨h0,h1⟩,h2⟩,h3⟩=>⟨Zkb s 0,Zkb s a,Zkb s b,([],s,(b:Int),true),h0,?_,?_,?_,.inr ⟨?_,?_⟩⟩
    ·rw [e1];exact h1
    ·rw [e2];exact h2
    ·rw [e3];exact h3
    ·unfold Ztj
     simp [e1,e2,e3]
    ·rfl
  ·have f2:=Z16 s a (by omega) hs
   have f3:=Zb1 s a (by omega) hs;refine (((f0.and f1).and f2).and f3).mono fun k ⟨⟨⟨h0,h1⟩,h2⟩,h3⟩=>⟨Zkb s 0,Zkb s a,(0,s,(a:Int),true),([],s,(a:Int),true),h0,?_,?_,h3,.inr ⟨?_,rfl⟩⟩
   ·rw [e1];exact h1
   ·rw [e2];exact h2
   ·unfold Ztj
    simp [e1,e2]
 ·have f1:=Z16 s 0 (by omega) hs
  have f3:=Zb1 s 0 (by omega) hs;refine ((f0.and f1).and f3).mono fun k ⟨⟨h0,h1⟩,h3⟩=>⟨Zkb s 0,(0,s,((0:Nat):Int),true),(0,s,((0:Nat):Int),true),([],s,((0:Nat):Int),true),h0,?_,h1,h3,.inr ⟨?_,rfl⟩⟩
  ·rw [e1];exact h1
  ·unfold Ztj
   simp [e1]
def Z6c (k t f:Int) (d:Str) (n:Int):Bool:=if k=1 then decide (0≤t)&&decide (t≤n-1)&&decide (f=0)&&(d==[]) else if k=2 then decide (0≤t)&&decide (t≤n-1)&&decide (f=0)&&decide ((d.length:Int)=8) else if k=3 then decide (0≤t)&&decide (t≤n-1)&&(decide (0≤f)&&decide (f≤n-1))&&(d==[]) else if k=4 then decide (0≤t)&&decide (t≤n-1)&&(decide (0≤f)&&decide (f≤n-1))&&decide ((d.length:Int)=8) else if k=5 then decide (t=0)&&(decide (0≤f)&&decide (f≤1000000))&&(d==[]) else false
theorem Zex (k t f:Int) (d:Str) (n:Int) (h1:1≤n) (h2:n≤8):Z4h (k,(t,(f,d))) n=some (Z6c k t f d n):=by
 unfold Z4h Z9 Z6c
 simp only [Ya]
 rw [w64 (n:=n-1) (by omega) (by omega),Xa h1,Xa h2]
 simp only [Zei]
 generalize (decide (0≤t)&&decide (t≤n-1))=P
 generalize (decide (0≤f)&&decide (f≤n-1))=Q
 generalize (decide (0≤f)&&decide (f≤1000000))=R
 generalize (d==([]:Str))=E
 generalize decide ((d.length:Int)=8)=Z
 by_cases c1:k=1
 ·subst c1;cases P <;> by_cases h:f=0 <;> simp [h]
 by_cases c2:k=2
 ·subst c2;cases P <;> by_cases h:f=0 <;> simp [h]
 by_cases c3:k=3
 ·subst c3;cases P <;> cases Q <;> simp
 by_cases c4:k=4
 ·subst c4;cases P <;> cases Q <;> simp
 by_cases c5:k=5
 ·subst c5;cases R <;> by_cases h:t=0 <;> simp [h]
 simp [c1,c2,c3,c4,c5]
theorem Zi4 (k t f:Int) (d:Str) (n:Int) (h1:1≤n) (h2:n≤8):Zkd (k,(t,(f,d))) n=some (Z6c k t f d n):=by
 have hw:Yda .i64 (n-1)=n-1:=w64 (by omega) (by omega)
 unfold Zkd
 simp only [Znb,Zti,Ya,hw,Zkd.j0,Zkd.j1,Z6c,Zei]
 generalize (decide (0≤t)&&decide (t≤n-1))=P
 generalize (decide (0≤f)&&decide (f≤n-1))=Q
 generalize (d==([]:Str))=E
 by_cases c1:k=1
 ·subst c1;cases P <;> by_cases h:f=0 <;> simp [h]
 by_cases c2:k=2
 ·subst c2;cases P <;> by_cases h:f=0 <;> simp [h]
 by_cases c3:k=3
 ·subst c3;cases P <;> cases Q <;> simp
 by_cases c4:k=4
 ·subst c4;cases P <;> cases Q <;> simp
 by_cases c5:k=5
 ·subst c5;cases E <;> by_cases h:t=0 <;> simp [h]
 have hk:(decide (1≤k)&&decide (k≤5))=false:=by
  rw [Yy,Ne,Yf,decide_eq_true_eq,decide_eq_true_eq];omega
 simp [c1,c2,c3,c4,c5,hk]
theorem Zys {k t f:Int} {d:Str} {n:Int} (h:Z6c k t f d n=true):d.length≤8:=by
 unfold Z6c at h
 have e:(d==([]:Str))=true→d.length≤8:=fun q=>by
  rw [Zvr] at q;rw [of_decide_eq_true q];simp
 have e8:decide ((d.length:Int)=8)=true→d.length≤8:=fun q=>by
  have:=of_decide_eq_true q;omega
 split at h
 ·exact e ((Yf _ _).mp h).2
 split at h
 ·exact e8 ((Yf _ _).mp h).2
 split at h
 ·exact e ((Yf _ _).mp h).2
 split at h
 ·exact e8 ((Yf _ _).mp h).2
 split at h
 ·exact e ((Yf _ _).mp h).2
 ·cases h
def Z8h (s:Str):Option (Int×Int×Int×Str):=match Ztj s with
 | some (x,y,z,t,d)=>if d=s.length∧Z6c x y z t 8=true then some (x,y,z,t) else none
 | none=>none
theorem Zzrb {s:Str} {x y z:Int} {t:Str} (h:Z8h s=some (x,y,z,t)):Z6c x y z t 8=true:=by
 unfold Z8h at h
 split at h
 ·split at h
  ·rename_i hq
   cases h;exact hq.2
  ·cases h
 ·cases h
theorem Z1db (x y z:Int) (t:Str) (hx:Num x) (hy:Num y) (hz:Num z) (ht:t.length≤8000):Zc fun k=>Zec k x=some (Zk x)∧Zec k y=some (Zk y)∧Zec k z=some (Zk z)∧Zgj k t=some (Zcb t):=((Zdj x hx).and ((Zdj y hy).and ((Zdj z hz).and (Z90 t ht))))
theorem Z3qb (x y z:Int) (t:Str) (hx:Num x) (hy:Num y) (hz:Num z) (ht:t.length≤8000):Zc fun k=>Zdr k (x,(y,(z,t)))=some (if Z6c x y z t 8=true then Zk x++Zk y++Zk z++Zcb t else []):=by
 refine (Z1db x y z t hx hy hz ht).mono fun k ⟨h1,h2,h3,h4⟩=>?_
 have l1:=Zuc x
 have l2:=Zuc y
 have l3:=Zuc z
 have l4:=Zok t
 unfold Zdr
 rw [Zex x y z t 8 (by omega) (by omega)]
 simp only [Ya]
 by_cases hb:Z6c x y z t 8=true
 ·rw [hb,Xc rfl]
  unfold Zmm;simp only [Yo,Xf];rw [h1,h2,h3,h4];simp only [Ya];rw [Zwd (by omega)];simp only [Ya];rw [Zwd (by simp;omega)];simp only [Ya];rw [Zwd (by simp;omega)];rfl
 ·rw [Xd hb,(Yy.2 hb:Z6c x y z t 8=false)]
  rfl
theorem Ztab {s:Str} (h:1≤s.length):(([]:Str)==s)=false:=by
 cases s with
 | nil=>exact absurd h (by simp)
 | cons _ _=>rfl
theorem Z66 (s:Str) (hs:s.length≤8000):Zc fun k=>Zlm k s=some (match Z8h s with
  | some (x,y,z,t)=>(x,y,z,t,0)
  | none=>(0,0,0,[],3)):=by
 cases hq:Ztj s with
 | none=>
  refine (Zheb s hs).mono fun k ⟨v3,v4,v5,v6,h3,h4,h5,h6,h⟩=>?_
  have h7:v6.2.2.2=true:=by
   rcases h with ⟨x,y,z,t,d,e,_⟩ | ⟨_,h⟩
   ·rw [hq] at e;cases e
   ·exact h
  unfold Zlm Z8h;rw [hq,Xb (by omega:¬(8000<(s.length:Int)))];simp only [Xf];rw [h3];simp only [Ya];rw [h4];simp only [Ya];rw [h5];simp only [Ya];rw [h6];simp only [Ya];rw [h7];rfl
 | some q=>
  obtain ⟨x,y,z,t,d⟩:=q;obtain ⟨a,b,c,g1,g2,g3,g4⟩:=Z2db hq;refine ((Zheb s hs).and (Z3qb x y z t g1.range g2.range g3.range g4.size)).mono fun k ⟨⟨v3,v4,v5,v6,h3,h4,h5,h6,h⟩,hb⟩=>?_
  have h7:v3.1=x∧v4.1=y∧v5.1=z∧v6=(t,s,((d:Nat):Int),false):=by
   rcases h with ⟨x',y',z',t',d',e,h⟩ | ⟨e,_⟩
   ·rw [hq] at e;cases e;exact h
   ·rw [hq] at e;cases e
  obtain ⟨i1,i2,i3,i4⟩:=h7;unfold Zlm Z8h;rw [hq,Xb (by omega:¬(8000<(s.length:Int)))];simp only [Xf];rw [h3];simp only [Ya];rw [h4];simp only [Ya];rw [h5];simp only [Ya];rw [h6];simp only [Ya];rw [i1,i2,i3,i4];simp only [Xf];rw [hb];simp only [Ya]
  by_cases hr:Z6c x y z t 8=true
  ·rw [Xc hr,Zvr]
   by_cases hd:d=s.length
   ·rw [Xa ((Z83 g1 g2 g3 g4).2 hd),Xc ⟨hd,hr⟩]
    rfl
   ·rw [Xb (fun q=>hd ((Z83 g1 g2 g3 g4).1 q)),Xd (fun q=>hd q.1)]
    rfl
  ·have:=g1.le
   have:=g1.at';have:=Zc6 x;rw [Xd hr,Xd (fun q=>hr q.2),Ztab (by omega)];rfl
abbrev Zi:=Int×Int×Int×Str
theorem Zdnb {S R:Type} (L:Nat→S→Option R) (m:S→Nat) (I:S→Prop) (Q:R→Prop) (step:∀s,I s→(∃r,(∀j,L (j+1) s=some r)∧Q r)∨∃s',I s'∧m s'<m s∧∀j,L (j+1) s=L j s'):∀(n:Nat) (s:S),I s→m s≤n→∃r,Q r∧∀j,n<j→L j s=some r:=by
 intro n
 induction n with
 | zero=>
  intro s hi hm;rcases step s hi with ⟨r,hr,hq⟩ | ⟨s',_,hm',_⟩
  ·refine ⟨r,hq,fun j hj=>?_⟩
   obtain ⟨j,rfl⟩:∃q,j=q+1:=⟨j-1,by omega⟩;exact hr j
  ·omega
 | succ n ih=>
  intro s hi hm;rcases step s hi with ⟨r,hr,hq⟩ | ⟨s',hi',hm',hs⟩
  ·refine ⟨r,hq,fun j hj=>?_⟩
   obtain ⟨j,rfl⟩:∃q,j=q+1:=⟨j-1,by omega⟩;exact hr j
  ·obtain ⟨r,hq,hr⟩:=ih s' hi' (by omega)
   refine ⟨r,hq,fun j hj=>?_⟩;obtain ⟨j,rfl⟩:∃q,j=q+1:=⟨j-1,by omega⟩;rw [hs j];exact hr j (by omega)
theorem Zwb {α:Type} {l:List α} {i:Int} (h:0≤i) (h2:i<(l.length:Int)):∃x,at? l i=some x∧x∈l:=by
 obtain ⟨n,rfl⟩:∃n:Nat,i=(n:Int):=⟨i.toNat,by omega⟩
 exact ⟨l[n]'(by omega),Zh (by omega),Ye _⟩
theorem wid {n:Int} (h0:0≤n) (h1:n<9223372036854775808):Yda .i64 n=n:=w64 (by omega) h1
theorem Z67 {n:Int} (h0:0≤n) (h1:n<18446744073709551616):Yda .u64 n=n:=by rw [Zfh];omega
theorem Znp {α:Type} {l:List α} {i j:Int} (h0:0≤i) (h1:i≤j) (h2:j≤(l.length:Int)):∃t,Z2b l i j=some t∧(t.length:Int)=j-i:=by
 obtain ⟨a,rfl⟩:∃n:Nat,i=(n:Int):=⟨i.toNat,by omega⟩
 obtain ⟨b,rfl⟩:∃n:Nat,j=(n:Int):=⟨j.toNat,by omega⟩
 refine ⟨_,Zhi (by omega) (by omega),?_⟩
 rw [List.length_drop,Ym]
 omega
def Znf (n:Int) (x:Zi):Bool:=Z6c x.1 x.2.1 x.2.2.1 x.2.2.2 n
theorem Zcmb (x:Zi) (n:Int) (h1:1≤n) (h2:n≤8):Zkd x n=some (Znf n x):=Zi4 x.1 x.2.1 x.2.2.1 x.2.2.2 n h1 h2
theorem Zmfb (x:Zi) (n:Int) (h1:1≤n) (h2:n≤8):Z4h x n=some (Znf n x):=Zex x.1 x.2.1 x.2.2.1 x.2.2.2 n h1 h2
def isW (x:Zi):Bool:=x.1 != 5
def Zg (l:List Zi):List Zi:=l.filter isW
def Zod (l:List Zi):List Int:=(Zg l).map fun x=>x.2.1
def Zji:Int→List Zi→Bool
 | _,[]=>true
 | a,x::l=>if x.1=5 then decide (a<x.2.2.1)&&Zji x.2.2.1 l else Zji a l
def Zab (l:List Zi) (n:Int):Int:=if 20<l.length∨¬(1≤n∧n≤8)∨l.all (Znf n)=false then 1 else if ¬(Zod l).Nodup then 12 else if Zji (-1) l then 0 else 8
theorem Zox {l:List Zi} {i:Nat} (h:i<l.length):Zod (l.take (i+1))=if isW l[i] then Zod (l.take i)++[(l[i]).2.1] else Zod (l.take i):=by
 unfold Zod Zg
 rw [Zjj h,Y1,Y6a]
 split
 ·rename_i hw;simp [hw]
 ·rename_i hw;simp [hw]
theorem Zzt {x:Zi} (h:x.1≠5):isW x=true:=by unfold isW;simpa using h
theorem Zcw {x:Zi} (h:x.1=5):isW x=false:=by unfold isW;simp [h]
theorem Zpgb {l:List Zi} (i:Nat):(Zod (l.take i)).Sublist (Zod l):=by
 unfold Zod Zg
 exact (((Ybb i l).filter _).map _)
theorem Ztnb {l:List Zi} {b:Int}:b∈Zod l ↔ ∃x∈l,isW x=true∧x.2.1=b:=by
 unfold Zod Zg
 rw [Y8a]
 constructor
 ·rintro ⟨x,hx,e⟩
  rw [Yoa] at hx;exact ⟨x,hx.1,hx.2,e⟩
 ·rintro ⟨x,h1,h2,e⟩
  exact ⟨x,Yoa.2 ⟨h1,h2⟩,e⟩
theorem Zh5 {l:List Zi} {b:Int} {i:Nat}:b∈Zod (l.take i) ↔ ∃j,∃h:j<l.length,j<i∧isW l[j]=true∧(l[j]).2.1=b:=by
 rw [Ztnb]
 constructor
 ·rintro ⟨x,hx,h1,h2⟩
  obtain ⟨j,hj,rfl⟩:=Yia hx;rw [Yla] at h1 h2;rw [Ym] at hj;exact ⟨j,by omega,by omega,h1,h2⟩
 ·rintro ⟨j,h,hji,h1,h2⟩
  refine ⟨l[j],?_,h1,h2⟩;rw [List.mem_take_iff_getElem];exact ⟨j,by omega,rfl⟩
def Z7o (b:Int) (x:Zi):Bool:=isW x&&(x.2.1==b)
def Zpx (l:List Zi) (b:Int):Int:=match Zmb (Z7o b) l 0 with
 | some i=>(i:Int)
 | none=>-1
theorem Zfmb (l:List Zi) (b:Int) (hl:l.length≤1048576):∀k,l.length<k→Ziq k l b=some (Zpx l b):=by
 intro k hk
 have run:=Zii (fun j i=>Zue.l0 j l (l.length:Int) i b) l (Z7o b) (.inl b) (fun i=>.inr ((i:Int),b)) (fun i hi=>by
  have e:Zds l[i] b=some (Z7o b l[i]):=rfl;constructor
  ·intro hp j
   show Zue.l0 (j+1) l (l.length:Int) (i:Int) b=Zue.l0 j l (l.length:Int) ((i+1:Nat):Int) b;rw [Zue.l0];rw [dlt hi,Zh hi,Zs (by omega)];simp only [Xe,Ya,e,hp,Xf]
  ·intro hp j
   show Zue.l0 (j+1) l (l.length:Int) (i:Int) b=_;unfold Zue.l0;rw [dlt hi,Zh hi];simp only [Xe,Ya,e,hp]) (fun j=>by
  show Zue.l0 (j+1) l (l.length:Int) (l.length:Int) b=_;unfold Zue.l0;rw [Z8 (Yc _)];rfl) hk
 have run:Zue.l0 k l (l.length:Int) 0 b=_:=run
 unfold Ziq Zue Zpx
 rw [run]
 cases Zmb (Z7o b) l 0 <;> rfl
theorem Zqgb {l:List Zi} {i:Nat} (h:i<l.length) (hw:isW l[i]=true):Zpx l (l[i]).2.1<(i:Int) ↔ (l[i]).2.1∈Zod (l.take i):=by
 unfold Zpx
 rw [Zh5]
 cases hf:Zmb (Z7o (l[i]).2.1) l 0 with
 | none=>
  have:=Zrp.1 hf l[i] (Ye h);unfold Z7o at this;rw [hw] at this;simp at this
 | some m=>
  obtain ⟨_,h2,h3,h4⟩:=Zdk hf;have h4:∀j,(hj:j<m)→Z7o (l[i]).2.1 (l[j]'(by omega))=false:=h4;unfold Z7o at h3;simp only [Yf,beq_iff_eq] at h3;constructor
  ·intro hm
   have hm:(m:Int)<(i:Int):=hm;exact ⟨m,h2,by omega,h3.1,h3.2⟩
  ·rintro ⟨j,hj,hji,h5,h6⟩
   show (m:Int)<(i:Int);rcases Yba m i with h | h
   ·omega
   ·have:=h4 j (by omega)
    unfold Z7o at this;rw [h5,h6] at this;simp at this
theorem Zhlb (l:List Zi) (n:Int) (h1:1≤n) (h2:n≤8) (hl:l.length≤1048576):∀k,l.length<k→Z2q k l n=some (!(l.all (Znf n)),n):=by
 intro k hk
 have run:=Zii (fun j i=>Zte.l0 j l (l.length:Int) i n) l (fun x=>!(Znf n x)) (.inl n) (fun i=>.inr ((i:Int),n)) (fun i hi=>by
  have e:Zhq l[i] n=some (!(Znf n l[i])):=by
   unfold Zhq;rw [Zcmb _ _ h1 h2];rfl
  constructor
  ·intro hp j
   show Zte.l0 (j+1) l (l.length:Int) (i:Int) n=Zte.l0 j l (l.length:Int) ((i+1:Nat):Int) n;rw [Zte.l0];rw [dlt hi,Zh hi,Zs (by omega)];simp only [Xe,Ya,e,hp,Xf]
  ·intro hp j
   show Zte.l0 (j+1) l (l.length:Int) (i:Int) n=_;unfold Zte.l0;rw [dlt hi,Zh hi];simp only [Xe,Ya,e,hp]) (fun j=>by
  show Zte.l0 (j+1) l (l.length:Int) (l.length:Int) n=_;unfold Zte.l0;rw [Z8 (Yc _)];rfl) hk
 have run:Zte.l0 k l (l.length:Int) 0 n=_:=run
 have hany:=Zpt (p:=fun x=>!(Znf n x)) (l:=l) (n:=0)
 rw [← Yab] at hany
 unfold Z2q Zte
 rw [run,← hany]
 cases Zmb (fun x=>!(Znf n x)) l 0 with
 | none=>rfl
 | some m=>
  simp only [Ya,Yeb];rw [Xa (by omega:(0:Int)≤(m:Int))]
theorem Zjlb (l:List Zi) (hl:l.length≤20) (k:Nat) (hk:20<k):∀(d i:Nat) (a:Int) (b:Bool),i+d=l.length→(Zod (l.take i)).Nodup→∀j,d<j →
  Zwf.l0 k j l a b l (l.length:Int) (i:Int)=some (if (Zod l).Nodup then .inl (b&&Zji a (l.drop i)) else .inr 12):=by
 intro d
 induction d with
 | zero=>
  intro i a b hi hn j hj;obtain ⟨j,rfl⟩:∃q,j=q+1:=⟨j-1,by omega⟩;obtain rfl:i=l.length:=by omega
  rw [Yx] at hn;unfold Zwf.l0;rw [Z8 (Yc _),Xc hn,Yya];simp [Zji]
 | succ d ih=>
  intro i a b hi hn j hj;obtain ⟨j,rfl⟩:∃q,j=q+1:=⟨j-1,by omega⟩;have hlt:i<l.length:=by omega
  rw [Zwf.l0,dlt hlt,Zh hlt,Zs (by omega)];simp only [Xe,Ya];rw [Yea hlt]
  by_cases h5:(l[i]).1=5
  ·have hw:=Zcw h5
   have hn2:(Zod (l.take (i+1))).Nodup:=by rw [Zox hlt,hw];exact hn
   have e:((l[i]).1 != 5)=false:=by simp [h5]
   rw [e];simp only [Xf];rw [ih (i+1) _ _ (by omega) hn2 j (by omega)];simp only [Zji,Xc h5,Bool.and_assoc]
  ·have hw:=Zzt h5
   have e:((l[i]).1 != 5)=true:=by simpa using h5
   rw [e];simp only [Xe];rw [Zfmb l (l[i]).2.1 (by omega) k (by omega)];simp only [Ya]
   by_cases ht:Zpx l (l[i]).2.1<(i:Int)
   ·rw [Xa ht]
    have hin:=(Zqgb hlt hw).1 ht
    have hnd:¬(Zod l).Nodup:=by
     intro hnd;have h3:=(Zpgb (l:=l) (i+1)).nodup hnd;rw [Zox hlt,hw] at h3;simp only [if_true] at h3;exact (Y6.1 h3).2.2 _ hin _ (Yn.2 rfl) rfl
    rw [Xd hnd];rfl
   ·rw [Xb ht]
    have hn2:(Zod (l.take (i+1))).Nodup:=by
     rw [Zox hlt,hw];refine Y6.2 ⟨hn,Y7.2 ⟨(fun h=>nomatch h),Yw⟩,fun x hx y hy e=>?_⟩;rw [Yn.1 hy] at e;subst e;exact ht ((Zqgb hlt hw).2 hx)
    simp only [Xf];rw [ih (i+1) _ _ (by omega) hn2 j (by omega)];simp only [Zji,Xd h5]
theorem Zdmb (l:List Zi) (n:Int) (hl:l.length≤1048576):Zc fun k=>Zwf k l n=some (Zab l n):=by
 refine Zc.ge (l.length+30) fun k hk=>?_
 unfold Zwf Zjk Znb Zab
 simp only [Ya]
 by_cases hb:1≤n∧n≤8
 ·rw [Xa hb.1,Xa hb.2]
  by_cases h20:20<l.length
  ·rw [Xa (by omega:(20:Int)<(l.length:Int)),Xc (.inl h20)]
   rfl
  ·rw [Xb (by omega:¬((20:Int)<(l.length:Int))),Zhlb l n hb.1 hb.2 hl k (by omega)]
   simp only [Ys,Yo,Yva,Xf,Ya];cases ha:l.all (Znf n) with
   | false=>rw [Xc (.inr (.inr rfl))];rfl
   | true=>
    rw [Xd (by rintro (h | h | h);exact h20 h;exact h hb;cases h)];simp only [Yo,Xf];have run:=Zjlb l (by omega) k (by omega) l.length 0 (-1) true (Yi _) Yw k (by omega);rw [Y8,Y0] at run;have run:Zwf.l0 k k l (-1) true l (l.length:Int) 0=_:=run;rw [run]
    by_cases hd:(Zod l).Nodup
    ·rw [Xc hd,Xd (not_not_intro hd)]
     cases Zji (-1) l <;> rfl
    ·rw [Xd hd,Xc hd]
     rfl
 ·have e:(!(decide (1≤n)&&decide (n≤8))||decide ((20:Int)<(l.length:Int)))=true:=by
   rw [show (decide (1≤n)&&decide (n≤8))=false by rw [Yy,Ne,Yf,decide_eq_true_eq,decide_eq_true_eq];exact hb];rfl
  rw [e,Xc (.inr (.inl hb))];rfl
theorem Z3pb (l:List Zi) (i:Nat) (hi:i<l.length) (hl:l.length≤1048576):∀(d c j:Nat),(hc:c+d=i)→d<j→(∀q,(hq:q<c)→isW l[i]=true→isW (l[q]'(by omega))=true→(l[q]'(by omega)).2.1≠(l[i]).2.1) →
  Zy.l1 j l (i:Int) (c:Int)=some (if isW l[i]=true∧(l[i]).2.1∈Zod (l.take i) then .inr 12 else .inl ()):=by
 intro d
 induction d with
 | zero=>
  intro c j hc hj hq;obtain ⟨j,rfl⟩:∃q,j=q+1:=⟨j-1,by omega⟩;obtain rfl:c=i:=by omega
  unfold Zy.l1;rw [Z8 (Yc _),Xd]
  ·rfl
  ·rintro ⟨h1,h2⟩
   obtain ⟨q,hq1,hq2,hq3,hq4⟩:=Zh5.1 h2;exact hq q hq2 h1 hq3 hq4
 | succ d ih=>
  intro c j hc hj hq;obtain ⟨j,rfl⟩:∃q,j=q+1:=⟨j-1,by omega⟩;have hcl:c<l.length:=by omega
  rw [Zy.l1,dlt (by omega:c<i),Zh hi,Zh hcl,Zs (by omega)];simp only [Xe,Ya]
  have go:(isW l[i]=true→isW l[c]=true→(l[c]).2.1≠(l[i]).2.1)→Zy.l1 j l (i:Int) ((c+1:Nat):Int)=some (if isW l[i]=true∧(l[i]).2.1∈Zod (l.take i) then .inr 12 else .inl ()):=fun h=>by
   refine ih (c+1) j (by omega) (by omega) fun q hqc h1 h2=>?_
   rcases Yba q c with h3 | h3
   ·exact hq q h3 h1 h2
   ·obtain rfl:q=c:=by omega
    exact h h1 h2
  by_cases h5:(l[i]).1=5
  ·rw [show ((l[i]).1 != 5)=false by simp [h5]]
   simp only [Xf];exact go fun h1=>by rw [Zcw h5] at h1;cases h1
  ·rw [show ((l[i]).1 != 5)=true by simpa using h5]
   simp only [Xe]
   by_cases h6:(l[c]).1=5
   ·rw [show ((l[c]).1 != 5)=false by simp [h6]]
    simp only [Xf];exact go fun _ h1=>by rw [Zcw h6] at h1;cases h1
   ·rw [show ((l[c]).1 != 5)=true by simpa using h6]
    simp only [Xe]
    by_cases h7:(l[i]).2.1=(l[c]).2.1
    ·rw [show ((l[i]).2.1==(l[c]).2.1)=true by simpa using h7,Xc ⟨Zzt h5,Zh5.2 ⟨c,hcl,by omega,Zzt h6,h7.symm⟩⟩]
     rfl
    ·rw [show ((l[i]).2.1==(l[c]).2.1)=false by simpa using h7]
     simp only [Xf];exact go fun _ _ e=>h7 e.symm
theorem Z4pb (l:List Zi) (hl:l.length≤20) (k:Nat) (hk:20<k):∀(d i:Nat),i+d=l.length→(Zod (l.take i)).Nodup→∀j,d<j →
  Zy.l2 k j l (i:Int)=some (if (Zod l).Nodup then .inl () else .inr 12):=by
 intro d
 induction d with
 | zero=>
  intro i hi hn j hj;obtain ⟨j,rfl⟩:∃q,j=q+1:=⟨j-1,by omega⟩;obtain rfl:i=l.length:=by omega
  rw [Yx] at hn;unfold Zy.l2;rw [Z8 (Yc _),Xc hn];rfl
 | succ d ih=>
  intro i hi hn j hj;obtain ⟨j,rfl⟩:∃q,j=q+1:=⟨j-1,by omega⟩;have hlt:i<l.length:=by omega
  rw [Zy.l2,dlt hlt,Zs (by omega)];have run:=Z3pb l i hlt (by omega) i 0 k (Yi _) (by omega) (fun q hq=>by omega);have run:Zy.l1 k l (i:Int) 0=_:=run;simp only [Xe];rw [run]
  by_cases h:isW l[i]=true∧(l[i]).2.1∈Zod (l.take i)
  ·rw [Xc h]
   have hnd:¬(Zod l).Nodup:=by
    intro hnd;have h3:=(Zpgb (l:=l) (i+1)).nodup hnd;rw [Zox hlt,h.1] at h3;simp only [if_true] at h3;exact (Y6.1 h3).2.2 _ h.2 _ (Yn.2 rfl) rfl
   rw [Xd hnd];rfl
  ·rw [Xd h]
   simp only [Ya];refine ih (i+1) (by omega) ?_ j (by omega);rw [Zox hlt];split
   ·rename_i hw
    refine Y6.2 ⟨hn,Y7.2 ⟨(fun h=>nomatch h),Yw⟩,fun x hx y hy e=>?_⟩;rw [Yn.1 hy] at e;subst e;exact h ⟨hw,hx⟩
   ·exact hn
theorem Z5pb (l:List Zi) (hl:l.length≤20):∀(d i:Nat) (a:Int),i+d=l.length→∀j,d<j →
  Zy.l3 j l a (i:Int)=some (if Zji a (l.drop i) then .inl () else .inr 8):=by
 intro d
 induction d with
 | zero=>
  intro i a hi j hj;obtain ⟨j,rfl⟩:∃q,j=q+1:=⟨j-1,by omega⟩;obtain rfl:i=l.length:=by omega
  unfold Zy.l3;rw [Z8 (Yc _),Yya];rfl
 | succ d ih=>
  intro i a hi j hj;obtain ⟨j,rfl⟩:∃q,j=q+1:=⟨j-1,by omega⟩;have hlt:i<l.length:=by omega
  rw [Zy.l3,dlt hlt,Zh hlt,Zs (by omega)];simp only [Xe,Ya];rw [Yea hlt]
  by_cases h5:(l[i]).1=5
  ·rw [show ((l[i]).1 != 5)=false by simp [h5]]
   simp only [Xf,Zji,Xc h5]
   by_cases h6:a<(l[i]).2.2.1
   ·rw [Xb (by omega:¬((l[i]).2.2.1≤a)),Xa h6,Y0]
    exact ih (i+1) _ (by omega) j (by omega)
   ·rw [Xa (by omega:(l[i]).2.2.1≤a),Xb h6]
    rfl
  ·rw [show ((l[i]).1 != 5)=true by simpa using h5]
   simp only [Xe,Zji,Xd h5];exact ih (i+1) _ (by omega) j (by omega)
theorem Z2pb (l:List Zi) (n:Int) (h1:1≤n) (h2:n≤8) (hl:l.length≤20):∀k,20<k→Zy.l0 k l n 0=some (if l.all (Znf n) then .inl () else .inr 1):=by
 intro k hk
 have run:=Zii (fun j i=>Zy.l0 j l n i) l (fun x=>!(Znf n x)) (.inl ()) (fun i=>.inr 1) (fun i hi=>by
  constructor
  ·intro hp j
   show Zy.l0 (j+1) l n (i:Int)=Zy.l0 j l n ((i+1:Nat):Int);rw [Zy.l0,dlt hi,Zh hi,Zs (by omega)];simp only [Xe,Ya];rw [Zmfb _ _ h1 h2];simp only [Ya,hp,Xf]
  ·intro hp j
   show Zy.l0 (j+1) l n (i:Int)=_;unfold Zy.l0;rw [dlt hi,Zh hi];simp only [Xe,Ya];rw [Zmfb _ _ h1 h2];simp only [Ya,hp,Xe]) (fun j=>by
  show Zy.l0 (j+1) l n (l.length:Int)=_;unfold Zy.l0;rw [Z8 (Yc _)];rfl) (by omega:l.length<k)
 have run:Zy.l0 k l n 0=_:=run
 have hany:=Zpt (p:=fun x=>!(Znf n x)) (l:=l) (n:=0)
 rw [← Yab] at hany
 rw [run]
 cases hf:Zmb (fun x=>!(Znf n x)) l 0 with
 | none=>
  rw [hf] at hany;have:l.all (Znf n)=true:=by simpa using hany.symm
  rw [this];rfl
 | some m=>
  rw [hf] at hany;have:l.all (Znf n)=false:=by simpa using hany.symm
  rw [this];rfl
theorem Zqs (l:List Zi) (n:Int) (hl:l.length≤1048576):Zc fun k=>Zy k l n=some (Zab l n):=by
 refine Zc.ge 30 fun k hk=>?_
 unfold Zy Z9 Zab
 simp only [Ya]
 by_cases h20:20<l.length
 ·rw [Xa (by omega:(20:Int)<(l.length:Int)),Xc (.inl h20)]
  rfl
 rw [Xb (by omega:¬((20:Int)<(l.length:Int)))]
 simp only [Xf]
 by_cases hb:1≤n∧n≤8
 ·rw [Xa hb.1,Xa hb.2,Z2pb l n hb.1 hb.2 (by omega) k (by omega)]
  simp only [Ys,Yo,Xf];cases ha:l.all (Znf n) with
  | false=>simp only [Yz,if_false];rw [Xc (.inr (.inr True.intro))];rfl
  | true=>
   simp only [if_true,Ya];rw [Xd (by rintro (h | h | h);exact h20 h;exact h hb;cases h)];have r2:=Z4pb l (by omega) k (by omega) l.length 0 (Yi _) Yw k (by omega);have r2:Zy.l2 k k l 0=_:=r2;have r3:=Z5pb l (by omega) l.length 0 (-1) (Yi _) k (by omega);rw [Y8] at r3;have r3:Zy.l3 k l (-1) 0=_:=r3;rw [r2]
   by_cases hd:(Zod l).Nodup
   ·rw [Xc hd,Xd (not_not_intro hd)]
    simp only [Ya];rw [r3];cases Zji (-1) l <;> rfl
   ·rw [Xd hd,Xc hd]
    rfl
 ·have e:(decide (1≤n)&&decide (n≤8))=false:=by rw [Yy,Ne,Yf,decide_eq_true_eq,decide_eq_true_eq];exact hb
  rw [e,Xc (.inr (.inl hb))];rfl
theorem Zvg {l:List Zi} {n:Int} (h:Zab l n=0):l.length≤20∧1≤n∧n≤8∧(∀x∈l,Znf n x=true)∧(Zod l).Nodup∧Zji (-1) l=true:=by
 unfold Zab at h
 split at h
 ·cases h
 ·rename_i h1
  split at h
  ·cases h
  ·rename_i h2
   split at h
   ·rename_i h3
    have h1a:¬20<l.length:=fun q=>h1 (.inl q)
    have h1b:1≤n∧n≤8:=Decidable.not_not.1 fun q=>h1 (.inr (.inl q))
    have h1c:l.all (Znf n)=true:=by
     cases ha:l.all (Znf n) with
     | true=>rfl
     | false=>exact absurd (.inr (.inr ha)) h1
    exact ⟨by omega,h1b.1,h1b.2,fun x hx=>Yj.1 h1c x hx,Decidable.not_not.1 h2,h3⟩
   ·cases h
abbrev Z0c:=Int×Int×Int×Int
theorem Z76 (l:List Zi) (hl:l.length≤20):∀k,20<k→Zsd k l=some (Zg l):=by
 intro k hk
 have run:=Zbnb (fun j (s:List Zi) i=>Zsd.l0 j l i s) l (fun s x=>.inl (if isW x then s++[x] else s)) (fun s=>s) (fun i s=>s=Zg (l.take i)) (fun i hi s hs=>by
  refine .inl ⟨_,rfl,?_,fun j=>?_⟩
  ·unfold Zg at hs ⊢
   rw [Zjj hi,Y1,hs]
   by_cases hw:isW l[i]=true
   ·rw [Xc hw];simp [hw]
   ·rw [Xd hw];simp [hw]
  ·show Zsd.l0 (j+1) l (i:Int) s=Zsd.l0 j l ((i+1:Nat):Int) (if isW l[i] then s++[l[i]] else s)
   have hsl:s.length≤20:=by
    rw [hs];refine Ydb (Yq _ _) ?_;rw [Ym];omega
   rw [Zsd.l0,dlt hi,Xa (by omega:(l.length:Int)≤20),Zh hi,Zs (by omega)];simp only [Ys,Xe,Ya]
   by_cases h5:(l[i]).1=5
   ·rw [show ((l[i]).1 != 5)=false by simp [h5],Zcw h5]
    rfl
   ·rw [show ((l[i]).1 != 5)=true by simpa using h5,Zzt h5,Z6 (by simp;omega)]
    rfl) (fun s hs j=>by
  show Zsd.l0 (j+1) l (l.length:Int) s=some s;unfold Zsd.l0;rw [Z8 (Yc _)];rfl) (s:=[]) rfl (by omega:l.length<k)
 have fold:∀(m s:List Zi),Zgm (fun s x=>.inl (if isW x then s++[x] else s)) (fun s=>s) m s=s++Zg m:=by
  intro m
  induction m with
  | nil=>intro s;simp [Zgm,Zg]
  | cons x m ih=>
   intro s;rw [Zgpb rfl,ih];unfold Zg
   by_cases hw:isW x=true
   ·rw [Xc hw,List.filter_cons_of_pos hw];simp
   ·rw [Xd hw,List.filter_cons_of_neg hw]
 rw [fold,List.nil_append] at run
 have run:Zsd.l0 k l 0 []=some (Zg l):=run
 unfold Zsd
 rw [run]
 rfl
theorem Zmlb (l:List Zi) (hl:l.length≤1048576):∀(d j0:Nat) (c:List Zi),j0+d=l.length→c.length=l.length→c.drop j0=l.drop j0→(Zg (l.take j0)).length≤j0→c.take (Zg (l.take j0)).length=Zg (l.take j0)→(Zg (l.take j0)).length<j0 →
  ∀j,d<j→∃c',Zng.l0 j ((Zg (l.take j0)).length:Int) (j0:Int) c=some ((((Zg l).length:Nat):Int),c')∧c'.length=l.length∧c'.take (Zg l).length=Zg l:=by
 intro d
 induction d with
 | zero=>
  intro j0 c hj hc hd hle ht hlt j hjj;obtain ⟨j,rfl⟩:∃q,j=q+1:=⟨j-1,by omega⟩;obtain rfl:j0=l.length:=by omega
  rw [Yx] at ht ⊢;refine ⟨c,?_,hc,ht⟩;unfold Zng.l0;rw [Z8 (by omega:c.length≤l.length)];rfl
 | succ d ih=>
  intro j0 c hj hc hd hle ht hlt j hjj;obtain ⟨j,rfl⟩:∃q,j=q+1:=⟨j-1,by omega⟩;have h1:j0<l.length:=by omega
  have h2:j0<c.length:=by omega
  have hcj:c[j0]=l[j0]:=by
   have:=congrArg (fun z=>z[0]?) hd;simp only [List.getElem?_drop,Nat.add_zero] at this;rw [Yp h2,Yp h1] at this;exact Ysa.inj this
  have hdrop:c.drop (j0+1)=l.drop (j0+1):=by
   have:=congrArg (fun z=>z.drop 1) hd;simpa [List.drop_drop,Nat.add_comm] using this
  rw [Zng.l0,dlt h2,Zh h2,Zs (by omega)];simp only [Xe,Ya,Z5l,hcj]
  have htake:Zg (l.take (j0+1))=if isW l[j0] then Zg (l.take j0)++[l[j0]] else Zg (l.take j0):=by
   unfold Zg;rw [Zjj h1,Y1]
   by_cases hw:isW l[j0]=true
   ·rw [Xc hw];simp [hw]
   ·rw [Xd hw];simp [hw]
  generalize hW:Zg (l.take j0)=W at ht hle hlt htake ⊢
  by_cases h5:(l[j0]).1=5
  ·rw [show ((l[j0]).1==5)=true by simpa using h5]
   simp only [Yo,Xf];rw [Zcw h5] at htake;have htake:Zg (l.take (j0+1))=W:=htake;have:=ih (j0+1) c (by omega) hc hdrop (by rw [htake];omega) (by rw [htake];exact ht) (by rw [htake];omega) j (by omega);rw [htake] at this;exact this
  ·rw [show ((l[j0]).1==5)=false by simpa using h5]
   have hwl:W.length<c.length:=by omega
   rw [Zh hwl,Zs (by omega),Yg];simp only [Bool.not_false,Xe,Ya];rw [Zzt h5] at htake;have htake:Zg (l.take (j0+1))=W++[l[j0]]:=htake;have hlen:(Zg (l.take (j0+1))).length=W.length+1:=by rw [htake];simp
   have:=ih (j0+1) (c.set W.length l[j0]) (by omega) (by simpa using hc) (by
    rw [List.drop_set_of_lt (by omega)];exact hdrop) (by omega) (by
    rw [hlen,htake,List.take_add_one,List.take_set_of_le (Yc _),ht,List.getElem?_set_self (by omega)];rfl) (by omega) j (by omega)
   rw [hlen] at this;exact this
theorem Zk4 (l:List Zi) (hl:l.length≤1048576):∀k,l.length<k→Zbl k l=some (Zg l):=by
 intro k hk
 have clone:Zwj l=some l:=by
  unfold Zwj;rw [Z6 (by simp;omega)];rfl
 have run:=Zii (fun j i=>Zve.l0 j l (l.length:Int) i) l (fun x=>!(isW x)) (.inl ()) (fun i=>.inr (i:Int)) (fun i hi=>by
  have e:Z5l l[i]=some (!(isW l[i])):=by unfold Z5l isW;simp [bne]
  constructor
  ·intro hp j
   show Zve.l0 (j+1) l (l.length:Int) (i:Int)=Zve.l0 j l (l.length:Int) ((i+1:Nat):Int);rw [Zve.l0,dlt hi,Zh hi,Zs (by omega)];simp only [Xe,Ya,e,hp,Xf]
  ·intro hp j
   show Zve.l0 (j+1) l (l.length:Int) (i:Int)=_;unfold Zve.l0;rw [dlt hi,Zh hi];simp only [Xe,Ya,e,hp]) (fun j=>by
  show Zve.l0 (j+1) l (l.length:Int) (l.length:Int)=_;unfold Zve.l0;rw [Z8 (Yc _)];rfl) hk
 have run:Zve.l0 k l (l.length:Int) 0=_:=run
 unfold Zbl
 rw [clone]
 simp only [Ya]
 unfold Zng Zve
 rw [run]
 cases hf:Zmb (fun x=>!(isW x)) l 0 with
 | none=>
  have hall:=Zrp.1 hf
  have:Zg l=l:=by
   unfold Zg;exact Y0a.2 fun x hx=>by simpa using hall x hx
  rw [this];rfl
 | some m=>
  obtain ⟨_,h2,h3,h4⟩:=Zdk hf;have h2:m<l.length:=h2;have h3:(!(isW l[m]))=true:=h3;have h4:∀j,(hj:j<m)→(!(isW (l[j]'(by omega))))=false:=h4
  have hW:Zg (l.take m)=l.take m:=by
   unfold Zg;refine Y0a.2 fun x hx=>?_
   obtain ⟨j,hj,rfl⟩:=Yia hx;rw [Ym] at hj;rw [Yla];simpa using h4 j (by omega)
  have hW2:Zg (l.take (m+1))=l.take m:=by
   have:Zg (l.take (m+1))=Zg (l.take m):=by
    unfold Zg;rw [Zjj h2,Y1];have:isW l[m]=false:=by simpa using h3
    simp [this]
   rw [this,hW]
  have hlen:(Zg (l.take (m+1))).length=m:=by rw [hW2,Ym];omega
  obtain ⟨c',e1,e2,e3⟩:=Zmlb l hl (l.length-(m+1)) (m+1) l (by omega) rfl rfl (by omega) (by rw [hlen,hW2]) (by omega) k (by omega);rw [hlen] at e1;have hne:(((m:Nat):Int) == -1)=false:=by rw [Zei];exact Xb (by omega)
  simp only [Ya,hne,Xf];rw [Zs (by omega),e1];simp only [Ya];have hwl:(Zg l).length≤l.length:=Yq _ _
  have ht:Zmr (((Zg l).length:Nat):Int) c'.length=some ():=by
   unfold Zmr;rw [Xc ⟨by omega,by omega⟩]
  rw [ht];simp only [Ya,Yg]
  have hcut:Z2b (Yqa (Zg l).length c'++Yd (c'.length-(Zg l).length) ((0,(0,(0,[]))):Zi)) 0 (((Zg l).length:Nat):Int)=some (Zg l):=by
   have hc:(Yqa (Zg l).length c').length=(Zg l).length:=by rw [e3]
   have:=Zhi (l:=Yqa (Zg l).length c'++Yd (c'.length-(Zg l).length) ((0,(0,(0,[]))):Zi)) (i:=0) (j:=(Zg l).length) (Yca _) (by rw [Y2,hc];omega);rw [Y8,List.take_append_of_le_length (by rw [hc];omega)] at this;rw [e3] at this ⊢;rw [Yx] at this;exact this
  rw [hcut];rfl
def Z9i (x:Zi) (b:Int):Bool:=((x.1==3)||(x.1==4))&&(x.2.2.1==b)
def wAt (w:List Zi) (i:Nat):Zi:=w.getD i (0,(0,(0,[])))
theorem Zrg {w:List Zi} {i:Nat} (h:i<w.length):wAt w i=w[i]:=by
 unfold wAt
 rw [Y3a,Yp h]
 rfl
def Z3c (w:List Zi) (left:List Nat) (st:List Int) (i:Nat):Bool:=Z6f (wAt w i).2.1 st || !(left.any fun k=>(k != i)&&Z9i (wAt w k) (wAt w i).2.1)
def Zrb (w:List Zi):Nat→List Nat→List Int→List Z0c
 | 0,_,_=>[]
 | _+1,[],_=>[]
 | n+1,i0::rest,st=>match (i0::rest).find? (Z3c w (i0::rest) st) with
  | some i=>(2,((i:Int),((wAt w i).2.1,0)))::Zrb w n ((i0::rest).erase i) st
  | none=>(1,((i0:Int),((wAt w i0).2.1,(st.length:Int))))::Zrb w n (i0::rest) (Z6d (wAt w i0).2.1 st)
def Zj (l:List Zi):List Z0c:=Zrb (Zg l) 40 (Yb (Zg l).length) []
theorem Zqw:∀(n:Nat) (l:List Nat),l.Nodup→(∀x∈l,x<n)→l.length≤n
 | 0,l,_,h=>by
  cases l with
  | nil=>exact Yc _
  | cons x l=>exact absurd (h x Yh) (Yra _)
 | n+1,l,hn,h=>by
  by_cases hm:n∈l
  ·have h1:=Zqw n (l.erase n) (hn.erase n) (fun x hx=>by
    have h2:=h x (Ypa hx);have h3:=(hn.mem_erase_iff.1 hx).1;omega)
   rw [Y3 hm] at h1;omega
  ·have:=Zqw n l hn (fun x hx=>by
    have h2:=h x hx;rcases Yba x n with h3 | h3
    ·exact h3
    ·have:x=n:=by omega
     exact absurd (this▸hx) hm)
   omega
theorem Zjs {l:List Int} (hn:l.Nodup) (h:∀x∈l,0≤x∧x≤7):l.length≤8:=by
 have:=Zqw 8 (l.map Int.toNat) (by
  refine List.pairwise_map.2 (hn.imp_of_mem fun {a b} ha hb hab e=>hab ?_);have:=h a ha;have:=h b hb;omega) (fun x hx=>by
  obtain ⟨y,hy,rfl⟩:=Y8a.1 hx;have:=h y hy;omega)
 simpa using this
structure PlanI (w:List Zi) (left:List Nat) (st:List Int):Prop where
 nd:left.Nodup
 lt:∀i∈left,i<w.length
 sd:st.Nodup
 sb:∀b∈st,0≤b∧b≤7
theorem Zgz {k:Int} {l:List Int}:Z6f k l=true ↔ k∈l:=by
 unfold Z6f
 rw [Yxa]
 constructor
 ·rintro ⟨x,hx,e⟩
  have:k=x:=by simpa using e
  subst this;exact hx
 ·exact fun h=>⟨k,h,by simp⟩
theorem Zf8 {k:Int} {l:List Int} (h:Z6f k l=false):Z6d k l=l++[k]:=by unfold Z6d;rw [h];rfl
theorem Zbkb {w:List Zi} {left:List Nat} {st:List Int} {i:Nat} (h:Z3c w left st i=false):Z6f (wAt w i).2.1 st=false:=by
 unfold Z3c at h
 exact ((Bool.or_eq_false_iff).1 h).1
theorem PlanI.stash {w:List Zi} {i0:Nat} {rest:List Nat} {st:List Int} (h:PlanI w (i0::rest) st) (hw:∀x∈w,0≤x.2.1∧x.2.1≤7) (hf:(i0::rest).find? (Z3c w (i0::rest) st)=none):
  PlanI w (i0::rest) (Z6d (wAt w i0).2.1 st)∧(Z6d (wAt w i0).2.1 st).length=st.length+1∧Z6d (wAt w i0).2.1 st=st++[(wAt w i0).2.1]:=by
 have h0:=Yha.1 hf i0 Yh
 have h1:=Zbkb (Yy.2 h0)
 have hi:=h.lt i0 Yh
 rw [Zf8 h1]
 refine ⟨⟨h.nd,h.lt,?_,?_⟩,by simp,rfl⟩
 ·refine Y6.2 ⟨h.sd,Y7.2 ⟨(fun h=>nomatch h),Yw⟩,fun x hx y hy e=>?_⟩
  rw [Yn.1 hy] at e;subst e;rw [Zgz.2 hx] at h1;cases h1
 ·intro b hb
  rcases Yaa.1 hb with hb | hb
  ·exact h.sb b hb
  ·rw [Yn.1 hb,Zrg hi]
   exact hw _ (Ye hi)
theorem PlanI.done {w:List Zi} {left:List Nat} {st:List Int} (h:PlanI w left st) (i:Nat):PlanI w (left.erase i) st:=⟨h.nd.erase i,fun j hj=>h.lt j (Ypa hj),h.sd,h.sb⟩
def Zbb (l:List Nat):List Int:=List.map (fun (n:Nat)=>(n:Int)) l
theorem Zaw {l:List Nat} {i:Nat} (h:i<l.length):(Zbb l)[i]'(by simpa [Zbb] using h)=((l[i]:Nat):Int):=by simp [Zbb]
theorem Zyt (l:List Nat):(Zbb l).length=l.length:=by simp [Zbb]
theorem Zklb (w:List Zi) (left:List Nat) (i:Nat) (b:Int) (hw:w.length≤1000) (hl:left.length≤1000) (hlt:∀q∈left,q<w.length):∀k,left.length<k →
  Z3q k (Zbb left) (i:Int) w b=some (left.any fun k=>(k != i)&&Z9i (wAt w k) b,(i:Int),b):=by
 intro k hk
 have run:=Zii (fun j q=>Zwe.l0 j (Zbb left) w ((Zbb left).length:Int) q (i:Int) b) left (fun k=>(k != i)&&Z9i (wAt w k) b) (.inl ((i:Int),b)) (fun q=>.inr ((q:Int),((i:Int),b))) (fun q hq=>by
  have hql:left[q]<w.length:=hlt _ (Ye hq);have hq':q<(Zbb left).length:=by rw [Zyt];exact hq
  have e:Zdq ((left[q]:Nat):Int) (i:Int) w b=some ((left[q] != i)&&Z9i (wAt w left[q]) b):=by
   unfold Zdq
   by_cases hne:left[q]=i
   ·rw [show (((left[q]:Nat):Int) != (i:Int))=false by simp [hne],show (left[q] != i)=false by simp [hne]]
    rfl
   ·rw [show (((left[q]:Nat):Int) != (i:Int))=true by simp;omega,show (left[q] != i)=true by simpa using hne,Zh hql,Zrg hql]
    rfl
  constructor
  ·intro hp j
   show Zwe.l0 (j+1) (Zbb left) w ((Zbb left).length:Int) (q:Int) (i:Int) b=Zwe.l0 j (Zbb left) w ((Zbb left).length:Int) ((q+1:Nat):Int) (i:Int) b;rw [Zwe.l0,dlt hq',Zh hq',Zs (by omega),Zaw hq];simp only [Xe,Ya,e,hp,Xf]
  ·intro hp j
   show Zwe.l0 (j+1) (Zbb left) w ((Zbb left).length:Int) (q:Int) (i:Int) b=_;rw [Zwe.l0,dlt hq',Zh hq',Zaw hq];simp only [Xe,Ya,e,hp]) (fun j=>by
  show Zwe.l0 (j+1) (Zbb left) w ((Zbb left).length:Int) (left.length:Int) (i:Int) b=_;unfold Zwe.l0;rw [Z8 (by rw [Zyt];exact Yc _)];rfl) hk
 have run:Zwe.l0 k (Zbb left) w ((Zbb left).length:Int) 0 (i:Int) b=_:=run
 have hany:=Zpt (p:=fun k=>(k != i)&&Z9i (wAt w k) b) (l:=left) (n:=0)
 unfold Z3q Zwe
 rw [run,← hany]
 cases Zmb (fun k=>(k != i)&&Z9i (wAt w k) b) left 0 with
 | none=>rfl
 | some m=>
  simp only [Ya,Yeb];rw [Xa (by omega:(0:Int)≤(m:Int))]
theorem Zplb (w:List Zi) (left:List Nat) (st:List Int) (i:Nat) (hw:w.length≤1000) (hl:left.length≤1000) (hlt:∀q∈left,q<w.length) (hi:i<w.length):∀k,left.length<k →
  Zcq k (i:Int) w st (Zbb left)=some (Z3c w left st i,st):=by
 intro k hk
 unfold Zcq Z3c
 rw [Zh hi,Zrg hi]
 simp only [Ya]
 cases Z6f (w[i]).2.1 st with
 | true=>rfl
 | false=>
  rw [Zklb w left i _ hw hl hlt k hk];rfl
theorem Zxlb (w:List Zi) (left:List Nat) (st:List Int) (hw:w.length≤1000) (hl:left.length≤1000) (hlt:∀q∈left,q<w.length):∀k,left.length<k →
  Zke k (Zbb left) w st (Zbb left)=some (match Zmb (Z3c w left st) left 0 with | some p=>(p:Int) | none=>-1,w,st):=by
 intro k hk
 have run:=Zii (fun j q=>Zke.l0 k j (Zbb left) (Zbb left) ((Zbb left).length:Int) q w st) left (Z3c w left st) (.inl (w,st)) (fun q=>.inr ((q:Int),(w,st))) (fun q hq=>by
  have hql:left[q]<w.length:=hlt _ (Ye hq);have hq':q<(Zbb left).length:=by rw [Zyt];exact hq
  have e:=Zplb w left st left[q] hw hl hlt hql k hk;constructor
  ·intro hp j
   show Zke.l0 k (j+1) (Zbb left) (Zbb left) ((Zbb left).length:Int) (q:Int) w st=Zke.l0 k j (Zbb left) (Zbb left) ((Zbb left).length:Int) ((q+1:Nat):Int) w st;rw [Zke.l0,dlt hq',Zh hq',Zs (by omega),Zaw hq];simp only [Xe,Ya,e,hp,Xf]
  ·intro hp j
   show Zke.l0 k (j+1) (Zbb left) (Zbb left) ((Zbb left).length:Int) (q:Int) w st=_;rw [Zke.l0,dlt hq',Zh hq',Zaw hq];simp only [Xe,Ya,e,hp]) (fun j=>by
  show Zke.l0 k (j+1) (Zbb left) (Zbb left) ((Zbb left).length:Int) (left.length:Int) w st=_;unfold Zke.l0;rw [Z8 (by rw [Zyt];exact Yc _)];rfl) hk
 have run:Zke.l0 k k (Zbb left) (Zbb left) ((Zbb left).length:Int) 0 w st=_:=run
 unfold Zke
 rw [run]
 cases Zmb (Z3c w left st) left 0 <;> rfl
theorem Z4v {α:Type} {p:α→Bool}:∀{l:List α} {n:Nat},(Zmb p l n=none∧l.find? p=none)∨∃i,∃h:i<l.length,Zmb p l n=some (n+i)∧l.find? p=some l[i]∧∀j,(hj:j<i)→p (l[j]'(by omega))=false
 | [],n=>.inl ⟨rfl,rfl⟩
 | x::l,n=>by
  cases hp:p x with
  | true=>exact .inr ⟨0,by simp,by simp [Zmb,hp],by simp [Yga,hp],fun j hj=>absurd hj (Yra _)⟩
  | false=>
   have e1:Zmb p (x::l) n=Zmb p l (n+1):=by simp [Zmb,hp]
   have e2:(x::l).find? p=l.find? p:=by simp [Yga,hp]
   rw [e1,e2];rcases Z4v (p:=p) (l:=l) (n:=n+1) with ⟨h1,h2⟩ | ⟨i,hi,h1,h2,h3⟩
   ·exact .inl ⟨h1,h2⟩
   ·refine .inr ⟨i+1,by simpa using hi,by rw [h1];congr 1;omega,by rw [h2];rfl,fun j hj=>?_⟩
    cases j with
    | zero=>exact hp
    | succ j=>exact h3 j (by omega)
theorem Z0ab:∀{l:List Nat} {i:Nat} (h:i<l.length),l.Nodup→l.erase l[i]=l.take i++l.drop (i+1)
 | x::l,0,h,hn=>by simp
 | x::l,i+1,h,hn=>by
  have hi:i<l.length:=by simpa using h
  have hne:x≠l[i]:=fun e=>(Y7.1 hn).1 (e▸Ye hi)
  rw [List.getElem_cons_succ,List.erase_cons_tail (by simpa using hne),Z0ab hi (Y7.1 hn).2];rfl
theorem Z2lb (w:List Zi) (hw:w.length≤20) (hwb:∀x∈w,0≤x.2.1∧x.2.1≤7) (k:Nat) (hk:20<k):∀(d:Nat) (left:List Nat) (st:List Int) (out:List Z0c),PlanI w left st→left.length+(8-st.length)≤d→out.length+d≤100→∀n j,d<n→d<j →
  ∃f,Z6b.l1 k j w out (Zbb left) st=some (w,out++Zrb w n left st,f):=by
 intro d
 induction d with
 | zero=>
  intro left st out hI hd ho n j hn hj;obtain ⟨j,rfl⟩:∃q,j=q+1:=⟨j-1,by omega⟩;obtain ⟨n,rfl⟩:∃q,n=q+1:=⟨n-1,by omega⟩;obtain rfl:left=[]:=Yfa (by omega);refine ⟨(Zbb [],st),?_⟩;unfold Z6b.l1;rw [Xb (by simp [Zbb]:¬((0:Int)<((Zbb ([]:List Nat)).length:Int)))];simp only [Xf,Zrb,Yt]
 | succ d ih=>
  intro left st out hI hd ho n j hn hj;obtain ⟨j,rfl⟩:∃q,j=q+1:=⟨j-1,by omega⟩;obtain ⟨n,rfl⟩:∃q,n=q+1:=⟨n-1,by omega⟩;have hll:left.length≤20:=Ydb (Zqw w.length left hI.nd hI.lt) hw;have hsl:=Zjs hI.sd hI.sb;cases left with
  | nil=>
   refine ⟨(Zbb [],st),?_⟩;unfold Z6b.l1;rw [Xb (by simp [Zbb]:¬((0:Int)<((Zbb ([]:List Nat)).length:Int)))];simp only [Xf,Zrb,Yt]
  | cons i0 rest=>
   have hi0:=hI.lt i0 Yh;rw [Z6b.l1,Xa (by rw [Zyt,Yv];omega:(0:Int)<((Zbb (i0::rest)).length:Int)),Zxlb w (i0::rest) st (by omega) (by omega) hI.lt k (by omega)];simp only [Xe,Ya];rcases Z4v (p:=Z3c w (i0::rest) st) (l:=i0::rest) (n:=0) with ⟨h1,h2⟩ | ⟨p,hp,h1,h2,h3⟩
   ·obtain ⟨g1,g2,g3⟩:=hI.stash hwb h2
    have hst:=Zjs g1.sd g1.sb;rw [g2] at hst;rw [h1];have e0:at? (Zbb (i0::rest)) 0=some (i0:Int):=rfl;rw [Xa (by decide:(-1:Int)<0),e0];simp only [Xe,Ya];rw [Zh hi0];simp only [Ya];rw [Z6 (by simp;omega)];simp only [Ya]
    have hp2:Zrb w (n+1) (i0::rest) st=(1,((i0:Int),((wAt w i0).2.1,(st.length:Int))))::Zrb w n (i0::rest) (Z6d (wAt w i0).2.1 st):=by
     simp only [Zrb,h2]
    rw [hp2,Zrg hi0];rw [Zrg hi0] at g1 g2;obtain ⟨f,hf⟩:=ih (i0::rest) (Z6d (w[i0]).2.1 st) (out++[(1,((i0:Int),((w[i0]).2.1,(st.length:Int))))]) g1 (by omega) (by simp;omega) n j (by omega) (by omega);exact ⟨f,by rw [hf,Yk];rfl⟩
   ·rw [h1,Yi]
    have hpi:p<(Zbb (i0::rest)).length:=by rw [Zyt];exact hp
    have hpl:=hI.lt _ (Ye hp);rw [Xb (by omega:¬((p:Int)<0)),Zh hpi,Zaw hp,Zs (by omega)];simp only [Xf,Ya];rw [Zh hpl];simp only [Ya];rw [Z6 (by simp;omega)]
    have hdel:slices_Delete_int (Zbb (i0::rest)) (p:Int) ((p+1:Nat):Int)=some (Zbb ((i0::rest).erase (i0::rest)[p])):=by
     unfold slices_Delete_int;rw [Xc ⟨by omega,by omega,by omega⟩,Yg,Yg,Z0ab hp hI.nd];simp [Zbb,List.map_take,List.map_drop]
    rw [hdel];simp only [Ya]
    have hp2:Zrb w (n+1) (i0::rest) st=(2,(((i0::rest)[p]:Nat):Int),(wAt w (i0::rest)[p]).2.1,0)::Zrb w n ((i0::rest).erase (i0::rest)[p]) st:=by
     simp only [Zrb,h2]
    have hle:((i0::rest).erase (i0::rest)[p]).length=(i0::rest).length-1:=Y3 (Ye hp);rw [hp2,Zrg hpl]
    obtain ⟨f,hf⟩:=ih ((i0::rest).erase (i0::rest)[p]) st (out++[(2,((((i0::rest)[p]:Nat):Int),((w[(i0::rest)[p]]).2.1,0)))]) (hI.done _) (by
     rw [hle];have:(i0::rest).length=rest.length+1:=rfl;omega) (by simp;omega) n j (by omega) (by omega)
    exact ⟨f,by rw [hf,Yk];rfl⟩
theorem Zolb (n:Nat) (hn:n≤20):∀k,n<k→Z6b.l0 k (n:Int) 0 (Yd n 0)=some (Zbb (Yb n)):=by
 intro k hk
 have run:=Z59 (fun j i c=>Z6b.l0 j (n:Int) i c) (Zbb (Yb n)) (0:Int) (fun i hi c hc j=>by
  have hin:i<n:=by simpa [Zbb] using hi
  have hl:(Zbb (Yb n)).length=n:=by simp [Zbb]
  show Z6b.l0 (j+1) (n:Int) (i:Int) c=Z6b.l0 j (n:Int) ((i+1:Nat):Int) (c.set i (Zbb (Yb n))[i]);rw [Z6b.l0,dlt hin,Zh (by omega:i<c.length),Zs (by omega),Yg];simp [Zbb]) (fun c j=>by
  show Z6b.l0 (j+1) (n:Int) ((Zbb (Yb n)).length:Int) c=some c;have hl:(Zbb (Yb n)).length=n:=by simp [Zbb]
  unfold Z6b.l0;rw [hl,Z8 (Yc _)];rfl) (k:=k) (by simp [Zbb];omega)
 have hl:(Zbb (Yb n)).length=n:=by simp [Zbb]
 rw [hl] at run
 exact run
theorem Zk1 (w:List Zi):PlanI w (Yb w.length) []:=⟨List.nodup_range,fun i hi=>Yr.1 hi,Yw,fun b hb=>nomatch hb⟩
theorem Z3bb (l:List Zi) (hl:l.length≤20) (hb:∀x∈Zg l,0≤x.2.1∧x.2.1≤7):Zc fun k=>Z6b k l=some (Zj l):=by
 refine Zc.ge 60 fun k hk=>?_
 have hwl:(Zg l).length≤l.length:=Yq _ _
 unfold Z6b
 rw [Zk4 l (by omega) k (by omega)]
 simp only [Ya]
 rw [Zpq (by omega)]
 simp only [Ya,Y4]
 rw [Zolb _ (by omega) k (by omega)]
 simp only [Ya]
 obtain ⟨f,hf⟩:=Z2lb (Zg l) (by omega) hb k (by omega) 30 (Yb (Zg l).length) [] [] (Zk1 _) (by simp;omega) (by simp) 40 k (by omega) (by omega)
 rw [hf]
 rfl
theorem Zanb {R:Type} (L:Nat→Int→Option R) (n:Nat) (p:Nat→Bool) (a:R) (b:Nat→R)
  (hs:∀(i:Nat),i<n→(p i=false→∀j,L (j+1) (i:Int)=L j ((i+1:Nat):Int))∧(p i=true→∀j,L (j+1) (i:Int)=some (b i)))
  (he:∀j,L (j+1) (n:Int)=some a) {k:Nat} (hk:n<k):L k 0=some (match (Yb n).find? p with | some i=>b i | none=>a):=by
 have hl:(Yb n).length=n:=Y9
 have run:=Zii L (Yb n) p a b (fun i hi=>by rw [Y5a];exact hs i (by omega)) (by rw [hl];exact he) (k:=k) (by rw [hl];exact hk)
 rw [run]
 rcases Z4v (p:=p) (l:=Yb n) (n:=0) with ⟨h1,h2⟩ | ⟨q,hq,h1,h2,h3⟩
 ·rw [h1,h2]
 ·rw [h1,h2,Yi,Y5a]
def Zgl:Option Nat→Int
 | some i=>(i:Int)
 | none=>-1
theorem Zy5 (i:Nat):decide (Zgl (some i)<0)=false:=Xb (by show ¬((i:Int)<0);omega)
theorem Zndb:decide (Zgl none<0)=true:=rfl
structure PlanR (w:List Zi) (left:List Nat) (st:List Int) (lB sB:List Bool):Prop where
 pi:PlanI w left st
 so:left.Pairwise (· < ·)
 ll:lB.length=w.length
 lm:∀i,(h:i<lB.length)→lB[i]=decide (i∈left)
 sl:sB.length=8
 sm:∀b:Nat,(h:b<sB.length)→sB[b]=Z6f (b:Int) st
section
variable {w:List Zi} {left:List Nat} {st:List Int} {lB sB:List Bool}
theorem PlanR.done (h:PlanR w left st lB sB) (i:Nat):PlanR w (left.erase i) st (lB.set i false) sB:=by
 refine ⟨h.pi.done i,h.so.sublist List.erase_sublist,by rw [Y5];exact h.ll,fun q hq=>?_,h.sl,h.sm⟩
 rw [Y5] at hq
 rw [Yka]
 by_cases hi:i=q
 ·subst hi
  rw [Xc rfl,Xb];intro hm;exact (h.pi.nd.mem_erase_iff.1 hm).1 rfl
 ·rw [Xd hi,h.lm q hq,Yta,decide_eq_true_eq,decide_eq_true_eq,h.pi.nd.mem_erase_iff]
  exact ⟨fun g=>⟨fun e=>hi e.symm,g⟩,fun g=>g.2⟩
theorem PlanR.stash (h:PlanR w left st lB sB) {b:Nat} {st':List Int} (hp:PlanI w left st') (e:st'=st++[(b:Int)]):PlanR w left st' lB (sB.set b true):=by
 refine ⟨hp,h.so,h.ll,h.lm,by rw [Y5];exact h.sl,fun q hq=>?_⟩
 rw [Y5] at hq
 rw [Yka,e]
 have ha:Z6f (q:Int) (st++[(b:Int)])=(Z6f (q:Int) st||((b:Int)==(q:Int)||(q:Int)==(b:Int))):=by
  rw [Yta,Zgz,Yua,Zgz,Yaa,Yn,Yua,beq_iff_eq,beq_iff_eq];constructor
  ·rintro (g | g)
   ·exact .inl g
   ·exact .inr (.inr g)
  ·rintro (g | g | g)
   ·exact .inl g
   ·exact .inr g.symm
   ·exact .inr g
 rw [ha]
 by_cases hb:b=q
 ·subst hb
  rw [Xc rfl];simp
 ·rw [Xd hb,h.sm q hq]
  have e1:((b:Int)==(q:Int))=false:=by rw [Zei];exact Xb (by omega)
  have e2:((q:Int)==(b:Int))=false:=by rw [Zei];exact Xb (by omega)
  rw [e1,e2];simp
theorem Z0pb (h:PlanR w left st lB sB) (hw:w.length≤20) (hwb:∀x∈w,0≤x.2.1∧x.2.1≤7) (i:Nat) (hi:i<w.length):∀k,20<k→Znd k w lB sB (i:Int)=some (!(Z3c w left st i)):=by
 intro k hk
 obtain ⟨h0,h7⟩:=hwb _ (Ye hi)
 obtain ⟨b,hb⟩:=Ywa h0
 have hbs:b<sB.length:=by have:=h.sl;omega
 have run:=Zanb (fun j q=>Znd.l0 j w lB (i:Int) q) w.length (fun q=>(q != i)&&(decide (q∈left)&&Z9i (wAt w q) (wAt w i).2.1)) (.inl ()) (fun _=>.inr true) (fun q hq=>by
  have hql:q<lB.length:=by have:=h.ll;omega
  have e0:Zus w[q] (w[i]).2.1=some (Z9i (wAt w q) (wAt w i).2.1):=by rw [Zrg hq,Zrg hi];rfl
  have key:∀j,Znd.l0 (j+1) w lB (i:Int) (q:Int)=if ((q != i)&&(decide (q∈left)&&Z9i (wAt w q) (wAt w i).2.1))=true then some (.inr true) else Znd.l0 j w lB (i:Int) ((q+1:Nat):Int):=by
   intro j;rw [Znd.l0,dlt hq,Zh hql,Zh hq,Zh hi,Zs (by omega),h.lm q hql];simp only [Xe,Ya,e0]
   by_cases hne:q=i
   ·rw [show ((q:Int) != (i:Int))=false by simp [hne],show (q != i)=false by simp [hne]]
    rfl
   ·rw [show ((q:Int) != (i:Int))=true by simp;omega,show (q != i)=true by simpa using hne]
    cases decide (q∈left) with
    | false=>rfl
    | true=>cases Z9i (wAt w q) (wAt w i).2.1 <;> rfl
  constructor
  ·intro hp j
   show Znd.l0 (j+1) w lB (i:Int) (q:Int)=Znd.l0 j w lB (i:Int) ((q+1:Nat):Int);rw [key,Xd (by rw [hp];exact Bool.false_ne_true)]
  ·intro hp j
   show Znd.l0 (j+1) w lB (i:Int) (q:Int)=_;rw [key,Xc hp]) (fun j=>by
  show Znd.l0 (j+1) w lB (i:Int) (w.length:Int)=_;unfold Znd.l0;rw [Z8 (Yc _)];rfl) (by omega:w.length<k)
 have run:Znd.l0 k w lB (i:Int) 0=_:=run
 unfold Znd Z3c
 rw [Zh hi,Zrg hi]
 simp only [Ya]
 have hat:at? sB (w[i]).2.1=some (Z6f (w[i]).2.1 st):=by
  rw [hb,Zh hbs,h.sm b hbs]
 rw [hat]
 simp only [Ya]
 cases Z6f (w[i]).2.1 st with
 | true=>rfl
 | false=>
  simp only [Xf,Bool.false_or,Bool.not_not];rw [run];rw [Zrg hi];cases hf:(Yb w.length).find? (fun q=>(q != i)&&(decide (q∈left)&&Z9i (wAt w q) (w[i]).2.1)) with
  | none=>
   have:=Yha.1 hf
   have:(left.any fun k=>(k != i)&&Z9i (wAt w k) (w[i]).2.1)=false:=by
    rw [List.any_eq_false];intro x hx hc;refine this x (Yr.2 (h.pi.lt x hx)) ?_;rw [Xa hx,Y0];exact hc
   rw [this];rfl
  | some q=>
   have h1:=Y2a hf
   have:(left.any fun k=>(k != i)&&Z9i (wAt w k) (w[i]).2.1)=true:=by
    rw [Yxa];simp only [Yf,decide_eq_true_eq] at h1;exact ⟨q,h1.2.1,by rw [Yf];exact ⟨h1.1,h1.2.2⟩⟩
   rw [this];rfl
theorem Zlqb (h:PlanR w left st lB sB) (hw:w.length≤20) (hwb:∀x∈w,0≤x.2.1∧x.2.1≤7) (k:Nat) (hk:20<k):∀(d i:Nat) (dn todo:List Nat),i+d=w.length→left=dn++todo→(∀x∈dn,x<i)→(∀x∈todo,i≤x)→∀j,d<j →
  Zbe.l0 k j w lB sB (Zgl (dn.find? (Z3c w left st))) (Zgl dn.head?) (i:Int)=some (Zgl (left.find? (Z3c w left st)),Zgl left.head?):=by
 intro d
 induction d with
 | zero=>
  intro i dn todo hi hl h1 h2 j hj;obtain ⟨j,rfl⟩:∃q,j=q+1:=⟨j-1,by omega⟩;obtain rfl:i=w.length:=by omega
  have ht:todo=[]:=by
   cases todo with
   | nil=>rfl
   | cons y t=>
    have:=h2 y Yh;have:=h.pi.lt y (by rw [hl];exact Y7a _ Yh);omega
  subst ht;rw [Yt] at hl;rw [← hl];unfold Zbe.l0;rw [Z8 (Yc _)];rfl
 | succ d ih=>
  intro i dn todo hi hl h1 h2 j hj;obtain ⟨j,rfl⟩:∃q,j=q+1:=⟨j-1,by omega⟩;have hiw:i<w.length:=by omega
  have hil:i<lB.length:=by have:=h.ll;omega
  rw [Zbe.l0,dlt hiw,Zh hil,Zs (by omega),h.lm i hil,Z0pb h hw hwb i hiw k hk];simp only [Xe,Ya]
  by_cases hm:i∈left
  ·rw [Xa hm]
   have hit:i∈todo:=by
    rw [hl] at hm;rcases Yaa.1 hm with g | g
    ·exact absurd (h1 i g) (Nat.lt_irrefl _)
    ·exact g
   have hso:=h.so;rw [hl] at hso;have hst:=(List.pairwise_append.1 hso).2.1;cases todo with
   | nil=>exact nomatch hit
   | cons y t=>
    have hyt:=List.pairwise_cons.1 hst
    have hyi:y=i:=by
     rcases List.mem_cons.1 hit with g | g
     ·exact g.symm
     ·have:=hyt.1 i g
      have:=h2 y Yh;omega
    subst hyi
    have ih':=ih (y+1) (dn++[y]) t (by omega) (by rw [hl,Yk];rfl) (fun x hx=>by
     rcases Yaa.1 hx with g | g
     ·have:=h1 x g;omega
     ·rw [Yn.1 g];omega) (fun x hx=>hyt.1 x hx) j (by omega)
    have eA:(dn++[y]).find? (Z3c w left st)=(dn.find? (Z3c w left st)).or (if Z3c w left st y then some y else none):=by
     rw [Y1a];congr 1;unfold Yga;cases Z3c w left st y <;> rfl
    have eB:(dn++[y]).head? = (dn.head?).or (some y):=by cases dn <;> rfl
    rw [eA,eB] at ih';simp only [Yo,Xf];cases hB:dn.head? with
    | none=>
     have hdn:dn=[]:=by cases dn with | nil=>rfl | cons a b=>cases hB
     subst hdn;rw [hB] at ih';have e1:(([]:List Nat).find? (Z3c w left st))=none:=rfl;rw [e1] at ih' ⊢;rw [Zndb];simp only [Xe];cases hf:Z3c w left st y with
     | true=>rw [hf] at ih';exact ih'
     | false=>rw [hf] at ih';exact ih'
    | some a=>
     rw [hB] at ih';rw [Zy5];simp only [Xf];cases hA:dn.find? (Z3c w left st) with
     | none=>
      rw [hA] at ih';rw [Zndb];simp only [Xe];cases hf:Z3c w left st y with
      | true=>rw [hf] at ih';exact ih'
      | false=>rw [hf] at ih';exact ih'
     | some c=>
      rw [hA] at ih';rw [Zy5];exact ih'
  ·rw [Xb hm]
   exact ih (i+1) dn todo (by omega) hl (fun x hx=>by have:=h1 x hx;omega) (fun x hx=>by
    have:=h2 x hx;rcases Yba i x with g | g
    ·exact g
    ·have:x=i:=by omega
     subst this;exact absurd (by rw [hl];exact Y7a _ hx) hm) j (by omega)
theorem Z06 (h:PlanR w left st lB sB) (hw:w.length≤20) (hwb:∀x∈w,0≤x.2.1∧x.2.1≤7) (k:Nat) (hk:21<k):Zbe k w lB sB=some (Zgl (left.find? (Z3c w left st)),Zgl left.head?):=by
 have run:=Zlqb h hw hwb k (by omega) w.length 0 [] left (Yi _) rfl (fun x hx=>nomatch hx) (fun x _=>Yca x) k (by omega)
 have run:Zbe.l0 k k w lB sB (-1) (-1) 0=_:=run
 unfold Zbe
 rw [run]
 rfl
end
theorem Znqb (w:List Zi) (hw:w.length≤20) (hwb:∀x∈w,0≤x.2.1∧x.2.1≤7) (k:Nat) (hk:21<k):∀(d:Nat) (left:List Nat) (st:List Int) (lB sB:List Bool) (out:List Z0c),PlanR w left st lB sB→left.length+(8-st.length)≤d→out.length+d≤100→∀n j,d<n→d<j →
  Zzb.l1 k j (st.length:Int) w lB sB out=some (out++Zrb w n left st):=by
 intro d
 induction d with
 | zero=>
  intro left st lB sB out hI hd ho n j hn hj;obtain ⟨j,rfl⟩:∃q,j=q+1:=⟨j-1,by omega⟩;obtain ⟨n,rfl⟩:∃q,n=q+1:=⟨n-1,by omega⟩;obtain rfl:left=[]:=Yfa (by omega);unfold Zzb.l1;rw [Z06 hI hw hwb k hk];simp only [Zrb,Yt];rfl
 | succ d ih=>
  intro left st lB sB out hI hd ho n j hn hj;obtain ⟨j,rfl⟩:∃q,j=q+1:=⟨j-1,by omega⟩;obtain ⟨n,rfl⟩:∃q,n=q+1:=⟨n-1,by omega⟩;have hsl:=Zjs hI.pi.sd hI.pi.sb;cases left with
  | nil=>
   unfold Zzb.l1;rw [Z06 hI hw hwb k hk];simp only [Zrb,Yt];rfl
  | cons i0 rest=>
   have hi0:=hI.pi.lt i0 Yh;rw [Zzb.l1,Z06 hI hw hwb k hk];simp only [Ya];rw [show (i0::rest).head? = some i0 from rfl,Zy5];simp only [Xf];rcases Z4v (p:=Z3c w (i0::rest) st) (l:=i0::rest) (n:=0) with ⟨h1,h2⟩ | ⟨p,hp,h1,h2,h3⟩
   ·obtain ⟨g1,g2,g3⟩:=hI.pi.stash hwb h2
    have hst:=Zjs g1.sd g1.sb;rw [g2] at hst;rw [h2]
    have hp2:Zrb w (n+1) (i0::rest) st=(1,((i0:Int),((wAt w i0).2.1,(st.length:Int))))::Zrb w n (i0::rest) (Z6d (wAt w i0).2.1 st):=by
     simp only [Zrb,h2]
    rw [hp2,Zrg hi0];rw [Zrg hi0] at g1 g2 g3;obtain ⟨q0,q7⟩:=hwb _ (Ye hi0);obtain ⟨b,hb⟩:=Ywa q0;have hb:(w[i0]).2.1=(b:Int):=hb;have hbs:b<sB.length:=by have:=hI.sl;omega
    rw [show decide (0≤Zgl none)=false from rfl,show Zgl (some i0)=(i0:Int) from rfl,Zh hi0,Zs (by omega)];simp only [Xf,Ya];rw [Z6 (by simp;omega),hb,Zh hbs];simp only [Ya,Yg];rw [hb] at g1 g2 g3;have:=ih (i0::rest) (Z6d (b:Int) st) lB (sB.set b true) (out++[(1,((i0:Int),((b:Int),(st.length:Int))))]) (hI.stash g1 g3) (by omega) (by simp;omega) n j (by omega) (by omega);rw [g2] at this;rw [this,Yk];rfl
   ·rw [h2]
    have hpl:=hI.pi.lt _ (Ye hp);have hll:(i0::rest)[p]<lB.length:=by have:=hI.ll;omega
    have hp2:Zrb w (n+1) (i0::rest) st=(2,(((i0::rest)[p]:Nat):Int),(wAt w (i0::rest)[p]).2.1,0)::Zrb w n ((i0::rest).erase (i0::rest)[p]) st:=by
     simp only [Zrb,h2]
    have hle:((i0::rest).erase (i0::rest)[p]).length=(i0::rest).length-1:=Y3 (Ye hp);rw [hp2,Zrg hpl];rw [show decide (0≤Zgl (some (i0::rest)[p]))=true from Xa (Int.natCast_nonneg _),show Zgl (some (i0::rest)[p])=(((i0::rest)[p]:Nat):Int) from rfl,Zh hpl,Zh hll];simp only [Xe,Ya,Yg];rw [Z6 (by simp;omega)];simp only [Ya]
    rw [ih ((i0::rest).erase (i0::rest)[p]) st (lB.set (i0::rest)[p] false) sB (out++[(2,((((i0::rest)[p]:Nat):Int),((w[(i0::rest)[p]]).2.1,0)))]) (hI.done _) (by
     rw [hle];have:(i0::rest).length=rest.length+1:=rfl;omega) (by simp;omega) n j (by omega) (by omega),Yk]
    rfl
theorem Zbqb (w:List Zi) (hw:w.length≤20):∀k,w.length<k→Zzb.l0 k 0 w (Yd w.length false)=some (w,Yd w.length true):=by
 intro k hk
 have run:=Z59 (fun j i c=>(Zzb.l0 j i w c).map fun p=>p.2) (Yd w.length true) false (fun i hi c hc j=>by
  have hiw:i<w.length:=by simpa using hi
  have hic:i<c.length:=by rw [hc];exact hi
  show (Zzb.l0 (j+1) (i:Int) w c).map _=(Zzb.l0 j ((i+1:Nat):Int) w (c.set i (Yd w.length true)[i])).map _;rw [Zzb.l0,dlt hiw,Zh hic,Zs (by omega),Yg,Yja];rfl) (fun c j=>by
  show (Zzb.l0 (j+1) ((Yd w.length true).length:Int) w c).map _=some c;unfold Zzb.l0;rw [Z8 (by simp)];rfl) (k:=k) (by simpa using hk)
 have fst:∀(d i:Nat) (c:List Bool) (r:List Zi×List Bool),i+d=w.length→∀j,Zzb.l0 j (i:Int) w c=some r→r.1=w:=by
  intro d
  induction d with
  | zero=>
   intro i c r hi j h;cases j with
   | zero=>cases h
   | succ j=>
    unfold Zzb.l0 at h;rw [Z8 (by omega:w.length≤i)] at h;cases h;rfl
  | succ d ih=>
   intro i c r hi j h;cases j with
   | zero=>cases h
   | succ j=>
    rw [Zzb.l0,dlt (by omega:i<w.length),Zs (by omega)] at h;simp only [Xe] at h;cases ha:at? c (i:Int) with
    | none=>rw [ha] at h;cases h
    | some v=>
     rw [ha] at h;exact ih (i+1) _ r (by omega) j h
 rw [Y4] at run
 have run:(Zzb.l0 k 0 w (Yd w.length false)).map (fun p=>p.2)=some (Yd w.length true):=run
 cases hr:Zzb.l0 k 0 w (Yd w.length false) with
 | none=>rw [hr] at run;cases run
 | some r=>
  rw [hr] at run;have h1:=fst w.length 0 _ r (Yi _) k hr;have h2:r.2=Yd w.length true:=Ysa.inj run;obtain ⟨r1,r2⟩:=r;have h1:r1=w:=h1;have h2:r2=Yd w.length true:=h2;rw [h1,h2]
theorem Zrrb (w:List Zi):PlanR w (Yb w.length) [] (Yd w.length true) (Yd 8 false):=by
 refine ⟨Zk1 w,List.pairwise_lt_range,Y4,fun i hi=>?_,Y4,fun b hb=>?_⟩
 ·rw [Y4] at hi
  rw [Yja,Xa (Yr.2 hi)]
 ·rw [Yja]
  rfl
theorem Zuw (l:List Zi) (hl:l.length≤20) (hb:∀x∈Zg l,0≤x.2.1∧x.2.1≤7):(Zj l).length≤28:=by
 have hwl:(Zg l).length≤l.length:=Yq _ _
 have key:∀(n:Nat) (left:List Nat) (st:List Int),PlanI (Zg l) left st→(Zrb (Zg l) n left st).length≤left.length+(8-st.length):=by
  intro n
  induction n with
  | zero=>intro left st h;exact Yca _
  | succ n ih=>
   intro left st h;cases left with
   | nil=>exact Yca _
   | cons i0 rest=>
    rcases Z4v (p:=Z3c (Zg l) (i0::rest) st) (l:=i0::rest) (n:=0) with ⟨h1,h2⟩ | ⟨p,hp,h1,h2,h3⟩
    ·obtain ⟨g1,g2,g3⟩:=h.stash hb h2
     have hst:=Zjs g1.sd g1.sb;have:=ih _ _ g1;simp only [Zrb,h2,Yv] at this ⊢;omega
    ·have:=ih _ _ (h.done (i0::rest)[p])
     have hle:((i0::rest).erase (i0::rest)[p]).length=(i0::rest).length-1:=Y3 (Ye hp);rw [hle] at this;simp only [Zrb,h2,Yv] at this ⊢;omega
 have:=key 40 _ _ (Zk1 (Zg l))
 rw [Y9,Yna] at this
 unfold Zj
 omega
theorem Zjfb (l:List Zi) (hl:l.length≤20) (hb:∀x∈Zg l,0≤x.2.1∧x.2.1≤7):∀k,60≤k→Zzb k l=some (Zj l):=by
 intro k hk
 have hwl:(Zg l).length≤l.length:=Yq _ _
 unfold Zzb
 rw [Z76 l hl k (by omega)]
 simp only [Ya]
 rw [Zpq (by omega)]
 simp only [Ya]
 rw [Zbqb _ (by omega) k (by omega)]
 simp only [Ya]
 rw [show Z9g 1 8 8 false=some (Yd 8 false) from Zpq (n:=8) (by omega)]
 simp only [Ya]
 have run:=Znqb (Zg l) (by omega) hb k (by omega) 30 _ [] _ _ [] (Zrrb _) (by simp;omega) (by simp) 40 k (by omega) (by omega)
 have run:Zzb.l1 k k 0 (Zg l) (Yd (Zg l).length true) (Yd 8 false) []=_:=run
 rw [run]
 rfl
def Z3b (l:List Z0c):Int:=(((l.filter fun m=>m.1==1).length:Nat):Int)
theorem Zg7 {l:List Z0c} {i:Nat} (h:i<l.length):Z3b (l.take (i+1))=if (l[i]).1=1 then Z3b (l.take i)+1 else Z3b (l.take i):=by
 unfold Z3b
 rw [Zjj h,Y1]
 split
 ·rename_i hw;simp [hw]
 ·rename_i hw;simp [hw]
theorem Zi1 (l:List Z0c):0≤Z3b l∧Z3b l≤(l.length:Int):=by
 unfold Z3b
 have:=Yq (fun m:Z0c=>m.1==1) l
 omega
theorem Z56 (l:List Z0c) (hl:l.length≤40):∀k,41≤k→Zne k l=some (Z3b l):=by
 intro k hk
 have key:∀(d i:Nat),i+d=l.length→∀j,d<j→Zne.l0 j l (Z3b (l.take i)) (i:Int)=some (Z3b l):=by
  intro d
  induction d with
  | zero=>
   intro i hi j hj;obtain ⟨j,rfl⟩:∃q,j=q+1:=⟨j-1,by omega⟩;obtain rfl:i=l.length:=by omega
   unfold Zne.l0;rw [Z8 (Yc _),Yx];rfl
  | succ d ih=>
   intro i hi j hj;obtain ⟨j,rfl⟩:∃q,j=q+1:=⟨j-1,by omega⟩;have h:i<l.length:=by omega
   have hb:=Zi1 (l.take i);have hbl:(l.take i).length≤40:=by rw [Ym];omega
   have:=ih (i+1) (by omega) j (by omega);rw [Zg7 h] at this;rw [Zne.l0,dlt h,Xa (by omega:(l.length:Int)≤40),Zh h,Zs (by omega),w64 (n:=Z3b (l.take i)+1) (by omega) (by omega)];simp only [Ys,Xe,Ya]
   by_cases h1:(l[i]).1=1
   ·rw [Xc h1] at this
    rw [show ((l[i]).1==1)=true by simpa using h1];exact this
   ·rw [Xd h1] at this
    rw [show ((l[i]).1==1)=false by simpa using h1];exact this
 have run:=key l.length 0 (Yi _) k (by omega)
 have run:Zne.l0 k l 0 0=_:=run
 unfold Zne
 rw [run]
 rfl
theorem Z8lb (l:List Z0c) (hl:l.length≤40):∀k,41≤k→Zvf k l=some (Z3b l):=by
 intro k hk
 have key:∀(d i:Nat),i+d=l.length→∀j,d<j→Zvf.l0 j (Z3b (l.take i)) l (l.length:Int) (i:Int)=some (Z3b l):=by
  intro d
  induction d with
  | zero=>
   intro i hi j hj;obtain ⟨j,rfl⟩:∃q,j=q+1:=⟨j-1,by omega⟩;obtain rfl:i=l.length:=by omega
   unfold Zvf.l0;rw [Z8 (Yc _),Yx];rfl
  | succ d ih=>
   intro i hi j hj;obtain ⟨j,rfl⟩:∃q,j=q+1:=⟨j-1,by omega⟩;have h:i<l.length:=by omega
   have hb:=Zi1 (l.take i);have hbl:(l.take i).length≤40:=by rw [Ym];omega
   have:=ih (i+1) (by omega) j (by omega);rw [Zg7 h] at this;rw [Zvf.l0,dlt h,Zh h,Zs (by omega),w64 (n:=Z3b (l.take i)+1) (by omega) (by omega)];simp only [Xe,Ya]
   by_cases h1:(l[i]).1=1
   ·rw [Xc h1] at this
    rw [show ((l[i]).1==1)=true by simpa using h1];exact this
   ·rw [Xd h1] at this
    rw [show ((l[i]).1==1)=false by simpa using h1];exact this
 have run:=key l.length 0 (Yi _) k (by omega)
 have run:Zvf.l0 k 0 l (l.length:Int) 0=_:=run
 unfold Zvf
 rw [run]
 rfl
theorem Z3m {l:List Zi} {n:Int} (h:Zab l n=0):∀x∈Zg l,0≤x.2.1∧x.2.1≤7:=by
 obtain ⟨_,h1,h2,h3,_,_⟩:=Zvg h
 intro x hx
 unfold Zg at hx
 rw [Yoa] at hx
 have hs:=h3 x hx.1
 have hw:=hx.2
 unfold isW at hw
 have h5:x.1≠5:=by simpa using hw
 unfold Znf Z6c at hs
 rw [Xd h5] at hs
 split at hs
 ·simp only [Yf,decide_eq_true_eq] at hs;omega
 ·split at hs
  ·simp only [Yf,decide_eq_true_eq] at hs;omega
  ·split at hs
   ·simp only [Yf,decide_eq_true_eq] at hs;omega
   ·split at hs
    ·simp only [Yf,decide_eq_true_eq] at hs;omega
    ·cases hs
theorem Z26 (l:List Zi) (n:Int) (h:Zab l n=0):Zc fun k=>Z3h k l n=some (Zj l,0):=by
 have hl:=(Zvg h).1
 refine ((Zqs l n (by omega)).and (Zc.ge 60 fun k hk=>hk)).mono fun k hk=>?_
 unfold Z3h
 rw [Xb (by omega:¬((400:Int)<(l.length:Int))),hk.1,h,Zjfb l hl (Z3m h) k hk.2]
 rfl
theorem Zzfb (m:Z0c) (l:List Z0c):Z3b (m::l)=(if m.1=1 then 1 else 0)+Z3b l:=by
 unfold Z3b
 rw [List.filter_cons]
 by_cases h:m.1=1
 ·rw [Xc h,show (m.1==1)=true by simpa using h,Xc rfl,Yv];omega
 ·rw [Xd h,show (m.1==1)=false by simpa using h,Xd (by simp)];omega
theorem Ztob {w:List Zi} (hw:∀x∈w,0≤x.2.1∧x.2.1≤7):∀(n:Nat) (left:List Nat) (st:List Int),PlanI w left st→left.length+(8-st.length)≤n →
  (∀j∈left,∃i:Nat,(Zrb w n left st)[i]? = some (2,((j:Int),((wAt w j).2.1,0)))) ∧
  (∀(i:Nat) (m:Z0c),(Zrb w n left st)[i]? = some m→∃j∈left,m=(2,((j:Int),((wAt w j).2.1,0)))∨m=(1,((j:Int),((wAt w j).2.1,(st.length:Int)+Z3b ((Zrb w n left st).take i))))) ∧
  ∀(i i':Nat) (m m':Z0c),(Zrb w n left st)[i]? = some m→(Zrb w n left st)[i']? = some m'→m.1=2→m'.1=2→m.2.1=m'.2.1→i=i':=by
 intro n
 induction n with
 | zero=>
  intro left st h hn;have:left=[]:=Yfa (by omega);subst this;exact ⟨fun j hj=>(by cases hj),fun i m h=>(by cases h),fun i i' m m' h=>(by cases h)⟩
 | succ n ih=>
  intro left st h hn;cases left with
  | nil=>exact ⟨fun j hj=>(by cases hj),fun i m h=>(by cases h),fun i i' m m' h=>(by cases h)⟩
  | cons i0 rest=>
   have hst:=Zjs h.sd h.sb;cases hf:(i0::rest).find? (Z3c w (i0::rest) st) with
   | none=>
    obtain ⟨g1,g2,g3⟩:=h.stash hw hf;have hst':=Zjs g1.sd g1.sb;obtain ⟨k1,k2,k3⟩:=ih _ _ g1 (by rw [g2];omega);have e:Zrb w (n+1) (i0::rest) st=(1,((i0:Int),((wAt w i0).2.1,(st.length:Int))))::Zrb w n (i0::rest) (Z6d (wAt w i0).2.1 st):=by simp only [Zrb,hf]
    rw [e];refine ⟨fun j hj=>?_,fun i m hm=>?_,fun i i' m m' hm hm' h2 h2' he=>?_⟩
    ·obtain ⟨i,hi⟩:=k1 j hj
     exact ⟨i+1,by rw [Yl];exact hi⟩
    ·cases i with
     | zero=>
      rw [Yu] at hm;cases hm;exact ⟨i0,Yh,.inr (by simp [Z3b])⟩
     | succ i=>
      rw [Yl] at hm;obtain ⟨j,hj,q⟩:=k2 i m hm;refine ⟨j,hj,?_⟩;rcases q with q | q
      ·exact .inl q
      ·refine .inr ?_
       rw [q,g2,Ycb,Zzfb,Xc rfl];congr 3;omega
    ·cases i with
     | zero=>
      rw [Yu] at hm;cases hm;cases h2
     | succ i=>
      cases i' with
      | zero=>
       rw [Yu] at hm';cases hm';cases h2'
      | succ i'=>
       rw [Yl] at hm hm';rw [k3 i i' m m' hm hm' h2 h2' he]
   | some i1=>
    have hi1:i1∈i0::rest:=Y9a hf;have hle:((i0::rest).erase i1).length=(i0::rest).length-1:=Y3 hi1;obtain ⟨k1,k2,k3⟩:=ih _ _ (h.done i1) (by rw [hle];simp only [Yv] at hn ⊢;omega);have e:Zrb w (n+1) (i0::rest) st=(2,((i1:Int),((wAt w i1).2.1,0)))::Zrb w n ((i0::rest).erase i1) st:=by simp only [Zrb,hf]
    have away:∀(i:Nat) (m:Z0c),(Zrb w n ((i0::rest).erase i1) st)[i]? = some m→m.2.1≠(i1:Int):=fun i m hm q=>by
     obtain ⟨j,hj,r⟩:=k2 i m hm;have hj:=(h.nd.mem_erase_iff.1 hj).1;rcases r with r | r <;> rw [r] at q <;> exact hj (by have q:(j:Int)=(i1:Int):=q;omega)
    rw [e];refine ⟨fun j hj=>?_,fun i m hm=>?_,fun i i' m m' hm hm' h2 h2' he=>?_⟩
    ·by_cases hj1:j=i1
     ·subst hj1
      exact ⟨0,rfl⟩
     ·obtain ⟨i,hi⟩:=k1 j (h.nd.mem_erase_iff.2 ⟨hj1,hj⟩)
      exact ⟨i+1,by rw [Yl];exact hi⟩
    ·cases i with
     | zero=>
      rw [Yu] at hm;cases hm;exact ⟨i1,hi1,.inl rfl⟩
     | succ i=>
      rw [Yl] at hm;obtain ⟨j,hj,q⟩:=k2 i m hm;refine ⟨j,Ypa hj,?_⟩;rcases q with q | q
      ·exact .inl q
      ·refine .inr ?_
       rw [q,Ycb,Zzfb,Xd (show ¬((2:Int)=1) by decide)];congr 3;omega
    ·cases i with
     | zero=>
      cases i' with
      | zero=>rfl
      | succ i'=>
       rw [Yu] at hm;rw [Yl] at hm';cases hm;exact absurd he.symm (away i' m' hm')
     | succ i=>
      cases i' with
      | zero=>
       rw [Yl] at hm;rw [Yu] at hm';cases hm';exact absurd he (away i m hm)
      | succ i'=>
       rw [Yl] at hm hm';rw [k3 i i' m m' hm hm' h2 h2' he]
structure PlanF (l:List Zi) (n:Int):Prop where
 all:∀j,j<(Zg l).length→∃i:Nat,(Zj l)[i]? = some (2,((j:Int),((wAt (Zg l) j).2.1,0)))
 form:∀(i:Nat) (m:Z0c),(Zj l)[i]? = some m→∃j,j<(Zg l).length∧(m=(2,((j:Int),((wAt (Zg l) j).2.1,0)))∨m=(1,((j:Int),((wAt (Zg l) j).2.1,Z3b ((Zj l).take i)))))
 one:∀(i i':Nat) (m m':Z0c),(Zj l)[i]? = some m→(Zj l)[i']? = some m'→m.1=2→m'.1=2→m.2.1=m'.2.1→i=i'
theorem Zd0 {l:List Zi} {n:Int} (h:Zab l n=0):PlanF l n:=by
 have hl:=(Zvg h).1
 have hwl:(Zg l).length≤l.length:=Yq _ _
 obtain ⟨h1,h2,h3⟩:=Ztob (Z3m h) 40 _ _ (Zk1 (Zg l)) (by rw [Y9,Yna];omega)
 refine ⟨fun j hj=>h1 j (Yr.2 hj),fun i m hm=>?_,h3⟩
 obtain ⟨j,hj,q⟩:=h2 i m hm
 refine ⟨j,Yr.1 hj,?_⟩
 rcases q with q | q
 ·exact .inl q
 ·refine .inr ?_
  rw [q,Yna];show _=(1,((j:Int),((wAt (Zg l) j).2.1,Z3b ((Zj l).take i))));congr 3;show ((0:Nat):Int)+Z3b ((Zj l).take i)=_;omega
theorem Z0fb {l:List Z0c} {i:Nat} {m:Z0c} (h:l[i]? = some m) (h1:m.1=1):Z3b (l.take i)<Z3b l:=by
 obtain ⟨hi,rfl⟩:=List.getElem?_eq_some_iff.1 h
 have h2:Z3b (l.take (i+1))=Z3b (l.take i)+1:=by rw [Zg7 hi,Xc h1]
 have h3:Z3b (l.take (i+1))≤Z3b l:=by
  unfold Z3b;have:=((Ybb (i+1) l).filter fun m=>m.1==1).length_le;omega
 omega
def Zpd (base:List Str) (w:List Zi) (done:Int→Bool) (mk:Zi→Str):List Str:=
 (Yb base.length).map fun (b:Nat)=>match w.find? (fun x=>x.2.1==(b:Int)) with
  | some x=>if done (b:Int)=true then base.getD b [] else mk x
  | none=>base.getD b []
theorem Zsh (base:List Str) (w:List Zi) (done:Int→Bool) (mk:Zi→Str):(Zpd base w done mk).length=base.length:=by simp [Zpd]
theorem Z8o {base:List Str} {w:List Zi} {done:Int→Bool} {mk:Zi→Str} {b:Nat} (h:b<base.length):(Zpd base w done mk)[b]'(by rw [Zsh];exact h)=match w.find? (fun x=>x.2.1==(b:Int)) with
  | some x=>if done (b:Int)=true then base.getD b [] else mk x
  | none=>base.getD b []:=by simp [Zpd]
theorem Z27 (base:List Str) (done:Int→Bool) (mk:Zi→Str):Zpd base [] done mk=base:=by
 refine Yza (Zsh _ _ _ _) fun b h1 h2=>?_
 rw [Z8o h2]
 show base.getD b []=_
 rw [Y3a,Yp h2]
 rfl
theorem Zksb {base:List Str} {w:List Zi} {done done':Int→Bool} {mk mk':Zi→Str} (h:∀x∈w,done x.2.1=done' x.2.1) (hm:∀x∈w,mk x=mk' x):Zpd base w done mk=Zpd base w done' mk':=by
 unfold Zpd
 refine List.map_congr_left fun b _=>?_
 cases hf:w.find? (fun x=>x.2.1==(b:Int)) with
 | none=>rfl
 | some x=>
  have hx:=Y9a hf;have hb:x.2.1=(b:Int):=by simpa using Y2a hf
  have:=h x hx;rw [hb] at this;dsimp only;rw [this,hm x hx]
theorem Z37 {base:List Str} {w:List Zi} {done:Int→Bool} {mk:Zi→Str} (hn:(w.map fun x=>x.2.1).Nodup) {i:Nat} (h:i<w.length) (h0:0≤w[i].2.1) (h1:w[i].2.1<(base.length:Int)):
  Zpd base (w.take (i+1)) done mk=if done w[i].2.1=true then Zpd base (w.take i) done mk else (Zpd base (w.take i) done mk).set w[i].2.1.toNat (mk w[i]):=by
 have away:∀b:Int,w[i].2.1=b→(w.take i).find? (fun x=>x.2.1==b)=none:=fun b hb=>by
  refine Yha.2 fun x hx=>?_
  obtain ⟨j,hj,rfl⟩:=List.mem_iff_getElem.1 hx;rw [Ym] at hj;rw [Yla];intro q;have q:w[j].2.1=b:=by simpa using q
  have:=List.pairwise_iff_getElem.1 hn j i (by rw [Yma];omega) (by rw [Yma];exact h) (by omega);rw [Y4a,Y4a] at this;exact this (q.trans hb.symm)
 have hfind:∀b:Int,(w.take (i+1)).find? (fun x=>x.2.1==b)=if w[i].2.1=b then some w[i] else (w.take i).find? (fun x=>x.2.1==b):=fun b=>by
  rw [Zjj h,Y1a]
  by_cases hb:w[i].2.1=b
  ·rw [Xc hb,away b hb]
   simp [hb]
  ·rw [Xd hb]
   have:([w[i]].find? fun x=>x.2.1==b)=none:=by simp [hb]
   rw [this];cases (w.take i).find? (fun x=>x.2.1==b) <;> rfl
 refine Yza ?_ fun b k1 k2=>?_
 ·split
  ·rw [Zsh,Zsh]
  ·rw [Zsh,Y5,Zsh]
 ·rw [Zsh] at k1
  rw [Z8o k1,hfind]
  by_cases hd:done w[i].2.1=true
  ·simp only [Xc hd]
   rw [Z8o k1]
   by_cases hb:w[i].2.1=(b:Int)
   ·rw [Xc hb,away _ hb]
    dsimp only;rw [← hb,Xc hd]
   ·rw [Xd hb]
  ·simp only [Xd hd]
   rw [Yka]
   by_cases hb:w[i].2.1=(b:Int)
   ·rw [Xc hb,Xc (by omega)]
    dsimp only;rw [← hb,Xd hd]
   ·rw [Xd hb,Xd (by omega),Z8o k1]
theorem Zk8 (n:Nat) (p:Nat→Bool):(∀i,i<n→p i=true)∨∃m,m<n∧p m=false∧∀i,i<m→p i=true:=by
 induction n with
 | zero=>exact .inl fun i hi=>absurd hi (Yra i)
 | succ n ih=>
  rcases ih with h | ⟨m,h1,h2,h3⟩
  ·cases hp:p n with
   | true=>
    refine .inl fun i hi=>?_
    rcases Nat.eq_or_lt_of_le (Nat.le_of_lt_succ hi) with rfl | hi
    ·exact hp
    ·exact h i hi
   | false=>exact .inr ⟨n,Nat.lt_succ_self n,hp,h⟩
  ·exact .inr ⟨m,Nat.lt_succ_of_lt h1,h2,h3⟩
theorem Zqhb {α:Type} {l:List α} {q:α→Bool}:(∀x∈l,q x=true) ↔ ∀i,(h:i<l.length)→q l[i]=true:=by
 constructor
 ·exact fun h i hi=>h _ (Ye hi)
 ·intro h x hx
  obtain ⟨i,hi,rfl⟩:=Yia hx;exact h i hi
theorem Zucb {α:Type} (l:List α) (q:α→Bool):(l.all q=true)∨(l.all q=false∧∃m,∃h:m<l.length,q l[m]=false∧∀i,(hi:i<m)→q (l[i]'(by omega))=true):=by
 rcases Zk8 l.length (fun i=>match l[i]? with | some x=>q x | none=>true) with h | ⟨m,h1,h2,h3⟩
 ·refine .inl (Yj.2 (Zqhb.2 fun i hi=>?_))
  have:=h i hi
  rwa [Yp hi] at this
 ·rw [Yp h1] at h2
  replace h2:q l[m]=false:=h2;refine .inr ⟨?_,m,h1,h2,fun i hi=>?_⟩
  ·cases ha:l.all q with
   | false=>rfl
   | true=>rw [Yj.1 ha _ (Ye h1)] at h2;cases h2
  ·have:=h3 i hi
   rwa [Yp (by omega)] at this
theorem Zwz {R:Type} (L:Nat→Nat→Option (Unit ⊕ R)) (n:Nat) (p:Nat→Bool) (q:Nat→R) (hs:∀i,i<n→p i=true→∀j,L (j+1) i=L j (i+1)) (hf:∀i,i<n→p i=false→∀j,L (j+1) i=some (.inr (q i))) (he:∀j,L (j+1) n=some (.inl ())):
  ((Yb n).all p=true∧∀k,n<k→L k 0=some (.inl ()))∨((Yb n).all p=false∧∃i,i<n∧p i=false∧∀k,n<k→L k 0=some (.inr (q i))):=by
 rcases Zk8 n p with h | ⟨m,h1,h2,h3⟩
 ·refine .inl ⟨Yj.2 fun i hi=>h i (Yr.1 hi),Zrc L n _ (fun i hi=>hs i hi (h i hi)) he⟩
 ·refine .inr ⟨?_,m,h1,h2,fun k hk=>Zrc L m _ (fun i hi=>hs i (by omega) (h3 i hi)) (hf m h1 h2) k (by omega)⟩
  cases ha:(Yb n).all p with
  | false=>rfl
  | true=>rw [Yj.1 ha m (Yr.2 h1)] at h2;cases h2
def Zcl (s:Str):Bool:=decide (s.length=8)
def Zyd (l:List Str):Bool:=(decide (1≤l.length)&&decide (l.length≤8))&&l.all Zcl
theorem Zdx (l:List Str) {k:Nat} (hk:100≤k):Zvc k l=some (Zyd l):=by
 unfold Zvc Zyd
 by_cases h1:1≤l.length
 ·by_cases h2:l.length≤8
  ·rw [Xb (by omega:¬((l.length:Int)<1)),Xb (by omega:¬(8<(l.length:Int))),Xa h1,Xa h2]
   simp only [Bool.or_self,Xf,Ys,Y0]
   have good:∀i,(h:i<l.length)→Zcl l[i]=true→∀j,Zvc.l0 (j+1) l (i:Int)=Zvc.l0 j l ((i+1:Nat):Int):=fun i h hb j=>by
    have hb:l[i].length=8:=by simpa [Zcl] using hb
    conv=>lhs;unfold Zvc.l0
    rw [dlt h,Zh h,Zs (by omega)];simp only [Xe,Ya,hb];rfl
   rcases Zucb l Zcl with h | ⟨h,m,hm,h3,h4⟩
   ·have run:=Zrc (fun j i=>Zvc.l0 j l (i:Int)) l.length (.inl ()) (fun i hi j=>good i hi (Yj.1 h _ (Ye hi)) j) (fun j=>by
     show Zvc.l0 (j+1) l (l.length:Int)=_;unfold Zvc.l0;rw [Z8 (Yc _)];rfl) k (by omega)
    have run:Zvc.l0 k l 0=some (.inl ()):=run;rw [run,h];rfl
   ·have run:=Zrc (fun j i=>Zvc.l0 j l (i:Int)) m (.inr false) (fun i hi j=>good i (by omega) (h4 i hi) j) (fun j=>by
     show Zvc.l0 (j+1) l (m:Int)=_;have hb:l[m].length≠8:=by simpa [Zcl] using h3
     unfold Zvc.l0;rw [dlt hm,Zh hm];simp only [Xe,Ya];rw [show ((l[m].length:Int) != 8)=true by simp;omega];rfl) k (by omega)
    have run:Zvc.l0 k l 0=some (.inr false):=run;rw [run,h];rfl
  ·rw [Xa (by omega:8<(l.length:Int)),Xb h2]
   simp
 ·rw [Xa (by omega:(l.length:Int)<1),Xb h1]
  simp
theorem Zzbb (l:List Str) {k:Nat} (hk:100≤k):Z4l k l=some (Zyd l):=by
 have hb:Zjk (l.length:Int)=some (decide (1≤(l.length:Int))&&decide ((l.length:Int)≤8)):=rfl
 have hz:Znh l=some (l.length:Int):=rfl
 unfold Z4l Zyd
 refine Za hz (Za hb ?_)
 by_cases h1:1≤l.length
 ·by_cases h2:l.length≤8
  ·rw [Xa (by omega:(1:Int)≤(l.length:Int)),Xa (by omega:(l.length:Int)≤8),Xa h1,Xa h2]
   simp only [Xe,Ys,Y0]
   have good:∀i,(h:i<l.length)→Zcl l[i]=true→∀j,Z8d.l0 (j+1) l (l.length:Int) (i:Int)=Z8d.l0 j l (l.length:Int) ((i+1:Nat):Int):=fun i h hb j=>by
    have hb:l[i].length=8:=by simpa [Zcl] using hb
    conv=>lhs;unfold Z8d.l0
    rw [dlt h,Zh h,Zs (by omega)];simp only [Xe,Ya,Z6p,hb];rfl
   unfold Zss Z8d;rcases Zucb l Zcl with h | ⟨h,m,hm,h3,h4⟩
   ·have run:=Zrc (fun j i=>Z8d.l0 j l (l.length:Int) (i:Int)) l.length (.inl ()) (fun i hi j=>good i hi (Yj.1 h _ (Ye hi)) j) (fun j=>by
     show Z8d.l0 (j+1) l (l.length:Int) (l.length:Int)=_;unfold Z8d.l0;rw [Z8 (Yc _)];rfl) k (by omega)
    have run:Z8d.l0 k l (l.length:Int) 0=some (.inl ()):=run;rw [run,h];rfl
   ·have run:=Zrc (fun j i=>Z8d.l0 j l (l.length:Int) (i:Int)) m (.inr (m:Int)) (fun i hi j=>good i (by omega) (h4 i hi) j) (fun j=>by
     show Z8d.l0 (j+1) l (l.length:Int) (m:Int)=_;have hb:l[m].length≠8:=by simpa [Zcl] using h3
     unfold Z8d.l0;rw [dlt hm,Zh hm];simp only [Xe,Ya,Z6p];rw [show ((l[m].length:Int) != 8)=true by simp;omega];rfl) k (by omega)
    have run:Z8d.l0 k l (l.length:Int) 0=some (.inr (m:Int)):=run;rw [run,h];simp only [Ya];rw [Xa (by omega:(0:Int)≤(m:Int))];rfl
  ·rw [Xb (by omega:¬((l.length:Int)≤8)),Xb h2]
   simp
 ·rw [Xb (by omega:¬((1:Int)≤(l.length:Int))),Xb h1]
  simp
theorem Zik {l:List Str} (h:Zyd l=true):1≤l.length∧l.length≤8∧∀s∈l,s.length=8:=by
 unfold Zyd at h
 simp only [Yf,decide_eq_true_eq] at h
 exact ⟨h.1.1,h.1.2,fun s hs=>by simpa [Zcl] using Yj.1 h.2 s hs⟩
theorem Zabb:∀(l:List Str) (n:Nat),(∀s∈l,s.length≤n)→l.flatten.length≤n*l.length
 | [],n,_=>by simp
 | x::l,n,h=>by
  have h1:=h x Yh;have h2:=Zabb l n fun s hs=>h s (List.mem_cons_of_mem _ hs)
  rw [List.flatten_cons,Y2,Yv,Nat.mul_succ];omega
theorem Z1cb {β:Type} (l:List β) (f:Nat→β) (i:Nat) (h:i<l.length):((Yb i).map f++l.drop i).set i (f i)=(Yb (i+1)).map f++l.drop (i+1):=by
 rw [List.set_append_right _ _ (by simp),Yma,Y9,Nat.sub_self,Yea h,List.set_cons_zero,List.range_succ,Y6a,Yk]
 rfl
theorem Z0cb {β:Type} (l:List β) (f:Nat→β) (i:Nat) (h:i≤l.length):((Yb i).map f++l.drop i).length=l.length:=by simp;omega
def Ev {α:Type} (f:Nat→Option α) (Q:α→Prop):Prop:=∃p,Q p∧Zc fun k=>f k=some p
theorem Ev.bind {α β:Type} {f:Nat→Option α} {g:Nat→α→Option β} {Q:α→Prop} {R:β→Prop} (h:Ev f Q) (k:∀p,Q p→Ev (fun k=>g k p) R):Ev (fun k=>(f k).bind (g k)) R:=by
 obtain ⟨p,hp,e⟩:=h
 obtain ⟨q,hq,e2⟩:=k p hp
 exact ⟨q,hq,(e.and e2).mono fun k h=>(congrArg (fun z=>Option.bind z (g k)) h.1).trans h.2⟩
theorem Ev.ret {α:Type} {p:α} {Q:α→Prop} (h:Q p):Ev (fun _=>some p) Q:=⟨p,h,Zc.of fun _=>rfl⟩
theorem Ev.of {α:Type} {x:Option α} {Q:α→Prop} (h:∃p,x=some p∧Q p):Ev (fun _=>x) Q:=by
 obtain ⟨p,e,h⟩:=h
 exact ⟨p,h,Zc.of fun _=>e⟩
theorem Ev.ever {α:Type} {f:Nat→Option α} {p:α} {Q:α→Prop} (h:Zc fun k=>f k=some p) (q:Q p):Ev f Q:=⟨p,q,h⟩
theorem Ev.mono {α:Type} {f:Nat→Option α} {Q R:α→Prop} (h:Ev f Q) (k:∀p,Q p→R p):Ev f R:=by
 obtain ⟨p,hp,e⟩:=h
 exact ⟨p,k p hp,e⟩
theorem Ev.cond {α:Type} {b:Bool} {f g:Nat→Option α} {Q:α→Prop} (h1:b=true→Ev f Q) (h2:b=false→Ev g Q):Ev (fun k=>bif b then f k else g k) Q:=by
 cases b with
 | true=>exact h1 rfl
 | false=>exact h2 rfl
theorem Ev.bnd {α β:Type} {x:Option α} {g:Nat→α→Option β} {R:β→Prop} {p:α} (h:x=some p) (k:Ev (fun k=>g k p) R):Ev (fun k=>x.bind (g k)) R:=by
 rw [h]
 exact k
theorem Zno {S R:Type} (L:Nat→Nat→S→Option R) (m:S→Nat) (I:S→Prop) (Q:R→Prop) (step:∀s,I s→(∃r,(Zc fun k=>∀j,L k (j+1) s=some r)∧Q r)∨∃s',I s'∧m s'<m s∧Zc fun k=>∀j,L k (j+1) s=L k j s'):∀(n:Nat) (s:S),I s→m s≤n→∃r,Q r∧Zc fun k=>∀j,n<j→L k j s=some r:=by
 intro n
 induction n with
 | zero=>
  intro s hi hm;rcases step s hi with ⟨r,hr,hq⟩ | ⟨s',_,hm',_⟩
  ·refine ⟨r,hq,hr.mono fun k hr j hj=>?_⟩
   obtain ⟨j,rfl⟩:∃q,j=q+1:=⟨j-1,by omega⟩;exact hr j
  ·omega
 | succ n ih=>
  intro s hi hm;rcases step s hi with ⟨r,hr,hq⟩ | ⟨s',hi',hm',hs⟩
  ·refine ⟨r,hq,hr.mono fun k hr j hj=>?_⟩
   obtain ⟨j,rfl⟩:∃q,j=q+1:=⟨j-1,by omega⟩;exact hr j
  ·obtain ⟨r,hq,hr⟩:=ih s' hi' (by omega)
   refine ⟨r,hq,(hr.and hs).mono fun k h j hj=>?_⟩;obtain ⟨j,rfl⟩:∃q,j=q+1:=⟨j-1,by omega⟩;rw [h.2 j];exact h.1 j (by omega)
theorem Ev.loop {S R:Type} (L:Nat→Nat→S→Option R) (m:S→Nat) (I:S→Prop) (Q:R→Prop) (s:S) (hs:I s) (step:∀s,I s→(∃r,(Zc fun k=>∀j,L k (j+1) s=some r)∧Q r)∨∃s',I s'∧m s'<m s∧Zc fun k=>∀j,L k (j+1) s=L k j s'):Ev (fun k=>L k k s) Q:=by
 obtain ⟨r,hq,K,h⟩:=Zno L m I Q step (m s) s hs (Yc _)
 exact ⟨r,hq,K+m s+1,fun k hk=>h k (by omega) k (by omega)⟩
abbrev Z5b:=Int×Str
abbrev Z5:=List Str×List Z5b
abbrev Zo:=Int×Z5
theorem Z3mb (s:Str):Ztb (Zgb s)=s:=by
 unfold Ztb Zgb
 rw [List.map_map]
 have:((fun n:Int=>UInt8.ofNat n.toNat) ∘ fun b:UInt8=>(b.toNat:Int))=id:=by
  funext b
  simp
 rw [this,List.map_id]
theorem Zw2 (a b:Str):Zgb (a++b)=Zgb a++Zgb b:=by simp [Zgb]
theorem Zx2 (s:Str):(Zgb s).length=s.length:=by simp [Zgb]
end Go.Proofs.Qz
