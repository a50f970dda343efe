/- What the law FnExactDeedDo needs, part 13 of 15: the Lean functions of the Go functions that it reaches, with the proofs that the calls come to what they say, and plain facts about them. Conditions: those that each theorem states. Written by a session and by its programs (after the kit's printer). -/
import Derived.Test.YtpcllejjdmmjcaaGreatDoorXFnExactDeedDo10
import Derived.Test.YtpcllejjdmmjcaaGreatDoorXFnExactDeedDo11
open Go.IntKind renaming wrap → Ya, max → Yra
open Option renaming bind_some → Yb, bind_eq_some_iff → Y2, map_eq_some_iff → Yab
open List renaming length_append → Yc, replicate → Yd, append_assoc → Yg, getElem?_eq_getElem → Yi, getElem_map → Yj, range → Yk, append_nil → Yn, getElem_mem → Yo, length_map → Yp, length_take → Yq, take_length → Yr, length_cons → Ys, drop_zero → Yt, getD_eq_getElem?_getD → Yu, getElem_take → Yv, mem_iff_getElem → Yw, drop_drop → Yz, mem_cons → Y0, not_mem_nil → Y1, drop_left → Y8, drop_length → Y9, getElem_drop → Yaa, length_drop → Yba, pairwise_iff_getElem → Yca, ext_getElem → Yga, length → Yha, length_nil → Yia, length_replicate → Yja, any_eq_false → Ysa, any_eq_true → Yta, drop_eq_getElem_cons → Yua, drop_of_length_le → Yva, drop_take → Ywa, flatMap_append → Yxa, flatMap_cons → Yya, getElem?_eq_some_iff → Yza, getElem_range → Y0a, length_range → Y1a, length_set → Y2a, mem_map → Y3a, nil_append → Y4a, replicate_zero → Y5a
open Nat renaming le_refl → Ye, le_of_eq → Yka, mod_lt → Yla, div_lt_of_lt_mul → Y6a, lt_trichotomy → Y7a, pow_succ → Y8a, zero_add → Y9a
open Bool renaming not_true → Yf, true_and → Yh, and_eq_true → Yl, or_true → Yx, and_eq_false_iff → Y3, and_self → Y4, false_eq_true → Y5, or_false → Y6, false_and → Yda, true_or → Yea, false_or → Yoa, not_false → Ypa, or_eq_false_iff → Yqa
open Int renaming toNat_natCast → Ym, tmod → Yy, tmod_eq_emod_of_nonneg → Y7, toNat_of_nonneg → Yfa
open BitVec renaming ofInt → Yma, ofInt_natCast → Yna
namespace Go.Proofs.Qz
open Go
set_option linter.unusedVariables false
abbrev StV:=Int×Int×Int×Int×Int×Str×Nat×Nat
def stM (m:Zp):Option StV:=if (1≤m.1∧m.1≤8)∧Zhg m.2=true∧(m.2.1.length:Int)=m.1+27 then (if (Zlb m.2).2.2.1=0 then Z5o (Zlb m.2).2.1 else none) else none
theorem Zedb (f:Z2):(Zlb f).2.1.length≤80:=by
 unfold Zlb
 split
 ·exact Zgdb _
 ·split
  ·exact Zgdb _
  ·simp
theorem Zddb (f:Z2):(Zlb f).2.2.2<0 ↔ (Zlb f).2.2.1≠0:=by
 unfold Zlb
 split
 ·rename_i h
  simp [h.1]
 ·split
  ·rename_i h
   simp [h]
  ·simp
def Zet:Option StV→Int×Int×Int×Int×Int×Str×List Int×List Int×Bool
 | some (a,b,c,d,e,m,v,w)=>(a,b,c,d,e,m,Zb v,Zb w,true)
 | none=>(0,0,0,0,0,[],[],[],false)
theorem Zru (m:Zp) (hl:m.2.1.length≤1048576) (hl2:m.2.2.length≤1048576):Zc fun k=>Zsg k m=some (Zet (stM m)):=by
 have hb:Zhk m.1=some (decide (1≤m.1)&&decide (m.1≤8)):=rfl
 unfold stM
 by_cases c1:1≤m.1∧m.1≤8
 ·cases c2:Zhg m.2 with
  | false=>
   refine (Zc.ge 1048577 fun k hk=>hk).mono fun k hk=>?_
   unfold Zsg;refine Za hb ?_;rw [Xa c1.1,Xa c1.2];refine Za (Zc5 m.2 hl hl2 hk) ?_;rw [c2,Xd (fun q=>by cases q.2.1)];rfl
  | true=>
   have hz:Zzi m.2.1=some (m.2.1.length:Int):=rfl;have hw:Ya .i64 ((Ya .i64 (3+m.1))+24)=m.1+27:=by rw [w64 (n:=3+m.1) (by omega) (by omega),w64 (by omega) (by omega)];omega
   by_cases c3:(m.2.1.length:Int)=m.1+27
   ·refine (((Zf5 c2 (by omega)).and (Zmmb (Zlb m.2).2.1 (by have:=Zedb m.2;omega))).and (Zc.ge 1048577 fun k hk=>hk)).mono fun k ⟨⟨h1,h2⟩,hk⟩=>?_
    unfold Zsg;refine Za hb ?_;rw [Xa c1.1,Xa c1.2];refine Za (Zc5 m.2 hl hl2 hk) ?_;rw [c2,Yf,Xf];refine Za hz ?_;rw [hw,show ((m.2.1.length:Int) != m.1+27)=false by simpa using c3,Xc ⟨c1,rfl,c3⟩];refine Za h1 ?_
    by_cases c4:(Zlb m.2).2.2.1=0
    ·rw [Xc c4,Xb (fun q=>(Zddb m.2).1 q c4)]
     refine Za h2 ?_;cases Z5o (Zlb m.2).2.1 <;> rfl
    ·rw [Xd c4,Xa ((Zddb m.2).2 c4)]
     rfl
   ·refine (Zc.ge 1048577 fun k hk=>hk).mono fun k hk=>?_
    unfold Zsg;refine Za hb ?_;rw [Xa c1.1,Xa c1.2];refine Za (Zc5 m.2 hl hl2 hk) ?_;rw [c2,Yf,Xf];refine Za hz ?_;rw [hw,show ((m.2.1.length:Int) != m.1+27)=true by simpa using c3,Xd (fun q=>c3 q.2.2)];rfl
 ·refine Zc.of fun k=>?_
  unfold Zsg;refine Za hb ?_
  have:(decide (1≤m.1)&&decide (m.1≤8))=false:=by
   rw [Y3,decide_eq_false_iff_not,decide_eq_false_iff_not];exact Classical.not_and_iff_not_or_not.1 c1
  rw [this,Xd (fun q=>c1 q.1)];rfl
theorem Zay (m:Zp) (hl:m.2.1.length≤1048576) (hl2:m.2.2.length≤1048576):Zc fun k=>Zrh k m=some (Zet (stM m)):=by
 have hb:Z7 m.1 1 8=some (decide (1≤m.1)&&decide (m.1≤8)):=rfl
 unfold stM
 by_cases c1:1≤m.1∧m.1≤8
 ·cases c2:Zhg m.2 with
  | false=>
   refine (Zc.ge 1048577 fun k hk=>hk).mono fun k hk=>?_
   unfold Zrh;refine Za hb ?_;rw [Xa c1.1,Xa c1.2];refine Za (Zx1 m.2 hl hl2 hk) ?_;rw [c2,Xd (fun q=>by cases q.2.1)];rfl
  | true=>
   have hw:Ya .i64 ((Ya .i64 (3+m.1))+24)=m.1+27:=by rw [w64 (n:=3+m.1) (by omega) (by omega),w64 (by omega) (by omega)];omega
   by_cases c3:(m.2.1.length:Int)=m.1+27
   ·refine (((Z21 c2 (by omega)).and (Zlqb (Zlb m.2).2.1 (by have:=Zedb m.2;omega))).and (Zc.ge 1048577 fun k hk=>hk)).mono fun k ⟨⟨h1,h2⟩,hk⟩=>?_
    unfold Zrh;refine Za hb ?_;rw [Xa c1.1,Xa c1.2];refine Za (Zx1 m.2 hl hl2 hk) ?_;rw [c2,hw,show ((m.2.1.length:Int) != m.1+27)=false by simpa using c3,Xc ⟨c1,rfl,c3⟩];refine Za h1 ?_
    by_cases c4:(Zlb m.2).2.2.1=0
    ·rw [Xc c4,show ((Zlb m.2).2.2.1 != 0)=false by simpa using c4]
     refine Za h2 ?_;cases Z5o (Zlb m.2).2.1 <;> rfl
    ·rw [Xd c4,show ((Zlb m.2).2.2.1 != 0)=true by simpa using c4]
     rfl
   ·refine (Zc.ge 1048577 fun k hk=>hk).mono fun k hk=>?_
    unfold Zrh;refine Za hb ?_;rw [Xa c1.1,Xa c1.2];refine Za (Zx1 m.2 hl hl2 hk) ?_;rw [c2,hw,show ((m.2.1.length:Int) != m.1+27)=true by simpa using c3,Xd (fun q=>c3 q.2.2)];rfl
 ·refine Zc.of fun k=>?_
  unfold Zrh;refine Za hb ?_
  have:(decide (1≤m.1)&&decide (m.1≤8))=false:=by
   rw [Y3,decide_eq_false_iff_not,decide_eq_false_iff_not];exact Classical.not_and_iff_not_or_not.1 c1
  rw [this,Xd (fun q=>c1 q.1)];rfl
def Zxb (m:Zp):List Str:=(Yk m.1.toNat).map fun (i:Nat)=>Zz m.2 (3+(i:Int))
theorem Zaeb {α:Type} (f:Nat→α) (i:Nat):(Yk (i+1)).map f=(Yk i).map f++[f i]:=by
 rw [List.range_succ,List.map_append]
 rfl
theorem Za5 {m:Zp} (h1:0≤m.1∧m.1≤8) (hl:m.1+3≤(m.2.1.length:Int)) (hl2:m.2.2.length≤1048576) {k:Nat} (hk:1048577≤k):Zzd k m=some (Zxb m):=by
 have h:=Zqb (fun j i=>Zzd.l0 k j m.1 m.2.1 m.2.2 m.1 (i:Int) ((Yk i).map fun (i:Nat)=>Zz m.2 (3+(i:Int)))) m.1.toNat (Zxb m) (fun i hi j=>?_) (fun j=>?_) k (by omega)
 ·have h:Zzd.l0 k k m.1 m.2.1 m.2.2 m.1 0 []=some (Zxb m):=h
  unfold Zzd;exact Za h rfl
 ·have r:Zig k (m.2.1,m.2.2) (3+(i:Int))=some (Zz m.2 (3+(i:Int))):=Zwp m.2 _ hl2 (by omega) (by omega) (by omega)
  conv=>lhs;unfold Zzd.l0
  rw [Xa (by omega:(i:Int)<m.1),w64 (n:=3+(i:Int)) (by omega) (by omega),Zm (by omega),Xe];refine Za r (Za (Z5 (by simp;omega)) ?_);rw [Zaeb]
 ·conv=>lhs;unfold Zzd.l0
  rw [Xb (by omega:¬((m.1.toNat:Nat):Int)<m.1)];rfl
theorem Zn7 {m:Zp} (h1:0≤m.1∧m.1≤8) (hl:m.1+3≤(m.2.1.length:Int)) (hl2:m.2.2.length≤1048576) {k:Nat} (hk:1048577≤k):Zde k m=some (Zxb m):=by
 have h:=Zqb (fun j i=>Zde.l0 k j m.1 m.2.1 m.2.2 (i:Int) ((Yk i).map fun (i:Nat)=>Zz m.2 (3+(i:Int)))) m.1.toNat (Zxb m) (fun i hi j=>?_) (fun j=>?_) k (by omega)
 ·have h:Zde.l0 k k m.1 m.2.1 m.2.2 0 []=some (Zxb m):=h
  unfold Zde;exact Za h rfl
 ·have r:Ztb k (m.2.1,m.2.2) (3+(i:Int))=some (Zz m.2 (3+(i:Int))):=Zzo m.2 _ hl2 (by omega) (by omega) (by omega)
  conv=>lhs;unfold Zde.l0
  rw [Xa (by omega:(i:Int)<m.1),w64 (n:=3+(i:Int)) (by omega) (by omega),Zm (by omega),Xe];refine Za r (Za (Z5 (by simp;omega)) ?_);rw [Zaeb]
 ·conv=>lhs;unfold Zde.l0
  rw [Xb (by omega:¬((m.1.toNat:Nat):Int)<m.1)];rfl
theorem Zxgb (t:Str) (h:t.length≤8000) (s:Str) (a:Nat) (r:Str) (hs:s.drop a=Z3b t++r):Zzh s a=(t,((a+(Z3b t).length:Nat):Int),0):=by
 unfold Z3b at hs
 rw [Yg] at hs
 have e:=Zzw (t.length:Int) ⟨by omega,by omega⟩ s a (t++r) hs
 have hlen:=congrArg Yha hs
 rw [Yba,Yc,Yc] at hlen
 have hp:=Z76 (t.length:Int)
 unfold Zzh
 rw [e]
 simp only [if_true]
 rw [Xc ⟨by omega,by omega⟩,Xd (by omega)]
 have e1:(((a+(Zn (t.length:Int)).length:Nat):Int)+(t.length:Int)).toNat=a+(Zn (t.length:Int)).length+t.length:=by omega
 rw [e1,Ym,Ywa,Nat.add_sub_cancel_left,← Yz,hs,Y8,List.take_left]
 unfold Z3b
 rw [Yc]
 congr 2
 push_cast
 omega
theorem Zq6 (n:Int) (h:Num n) (s:Str) (a:Nat) (t:Str) (hs:s.drop a=Zn n++t):Zib s a=(n,s,((a+(Zn n).length:Nat):Int),false):=by
 unfold Zib
 rw [Zzw n h s a t hs]
 rfl
theorem Znob (x y z:Int) (t:Str) (hx:Num x) (hy:Num y) (hz:Num z) (ht:t.length≤8000):Zuj (Zn x++Zn y++Zn z++Z3b t)=some (x,y,z,t,(Zn x++Zn y++Zn z++Z3b t).length):=by
 generalize hs:Zn x++Zn y++Zn z++Z3b t=s
 have d0:s.drop 0=Zn x++(Zn y++Zn z++Z3b t):=by rw [← hs];simp
 have n1:=Zq6 x hx s 0 _ d0
 rw [Y9a] at n1
 have d1:s.drop (Zn x).length=Zn y++(Zn z++Z3b t):=by rw [← hs];simp
 have n2:=Zq6 y hy s _ _ d1
 have d2:s.drop ((Zn x).length+(Zn y).length)=Zn z++Z3b t:=by rw [← hs,← Yc];simp
 have n3:=Zq6 z hz s _ _ d2
 have d3:s.drop ((Zn x).length+(Zn y).length+(Zn z).length)=Z3b t++[]:=by rw [← hs,← Yc,← Yc];simp
 have n4:=Zxgb t ht s _ _ d3
 have n4':Zcg s ((Zn x).length+(Zn y).length+(Zn z).length)=(t,s,(((Zn x).length+(Zn y).length+(Zn z).length+(Z3b t).length:Nat):Int),false):=by
  unfold Zcg;rw [n4];rfl
 have hl:s.length=(Zn x).length+(Zn y).length+(Zn z).length+(Z3b t).length:=by rw [← hs];simp only [Yc]
 unfold Zuj
 rw [n1]
 simp only [Ym,Y5,if_false]
 rw [n2]
 simp only [Ym,Y5,if_false]
 rw [n3]
 simp only [Ym,Y5,if_false]
 rw [n4']
 simp only [Ym,Y5,if_false]
 rw [hl]
def Zwl (s:Str) (a:Nat):Option ((Int×Int×Int×Str)×Nat):=(Zrb s a).bind fun x=>(Zrb s x.2).bind fun y=>(Zrb s y.2).bind fun z=>(Z4g s z.2).map fun t=>((x.1,y.1,z.1,t.1),t.2)
def Zvk (x y z:Int) (t:Str):Str:=Zn x++Zn y++Zn z++Z3b t
theorem Zbrb {s:Str} {a:Nat} {x y z:Int} {t:Str} {d:Nat} (h:Zwl s a=some ((x,y,z,t),d)):∃b c e,Got s a x b∧Got s b y c∧Got s c z e∧GotT s e t d:=by
 unfold Zwl at h
 obtain ⟨⟨n1,a1⟩,h1,h⟩:=Y2.1 h
 obtain ⟨⟨n2,a2⟩,h2,h⟩:=Y2.1 h
 obtain ⟨⟨n3,a3⟩,h3,h⟩:=Y2.1 h
 obtain ⟨⟨t',d'⟩,h8,h⟩:=Yab.1 h
 cases h
 exact ⟨a1,a2,a3,Z8i h1,Z8i h2,Z8i h3,Zf8 h8⟩
theorem Zkgb {s:Str} {a:Nat} {x y z:Int} {t:Str} {d:Nat} (h:Zwl s a=some ((x,y,z,t),d)):s.drop a=Zvk x y z t++s.drop d∧d=a+(Zvk x y z t).length∧Num x∧Num y∧Num z∧t.length≤8000∧d≤s.length:=by
 obtain ⟨b,c,e,g1,g2,g3,g4⟩:=Zbrb h
 refine ⟨?_,?_,g1.range,g2.range,g3.range,g4.size,g4.le⟩
 ·have h1:=g1.eq
  rw [g2.eq,g3.eq,g4.eq] at h1;unfold Zvk;simp only [Yg];exact h1
 ·have:=g1.at';have:=g2.at';have:=g3.at';have:=g4.at'
  unfold Zvk;simp only [Yc];omega
theorem Zp6 {s:Str} {a:Nat} {n:Int} (h:Num n) {t:Str} (hs:s.drop a=Zn n++t):Zrb s a=some (n,a+(Zn n).length):=by
 unfold Zrb
 rw [Zzw n h s a t hs]
 rfl
theorem Zorb {s:Str} {a:Nat} {x:Str} (h:x.length≤8000) {t:Str} (hs:s.drop a=Z3b x++t):Z4g s a=some (x,a+(Z3b x).length):=by
 unfold Z4g
 rw [Zxgb x h s a t hs]
 rfl
theorem Ziy (s:Str) (a:Nat) (ha:a≤s.length) (x y z:Int) (t:Str):Z3i (s.drop a)=some (x,y,z,t) ↔ Zwl s a=some ((x,y,z,t),s.length)∧Zjd x y z t 8=true:=by
 constructor
 ·intro h
  have hr:=Zarb h;unfold Z3i at h;cases hq:Zuj (s.drop a) with
  | none=>rw [hq] at h;cases h
  | some q=>
   obtain ⟨x',y',z',t',d⟩:=q;rw [hq] at h;dsimp only at h;split at h
   ·rename_i hc
    cases h;obtain ⟨b,c,e,g1,g2,g3,g4⟩:=Z9db hq;have hb:Zvk x y z t=s.drop a:=(Z74 g1 g2 g3 g4).2 hc.1;refine ⟨?_,hr⟩
    have e0:s.drop a=Zn x++(Zn y++(Zn z++(Z3b t++[]))):=by
     rw [← hb];unfold Zvk;simp only [Yg,Yn]
    have n1:=Zp6 g1.range e0;have e1:s.drop (a+(Zn x).length)=Zn y++(Zn z++(Z3b t++[])):=by rw [← Yz,e0,Y8]
    have n2:=Zp6 g2.range e1;have e2:s.drop (a+(Zn x).length+(Zn y).length)=Zn z++(Z3b t++[]):=by rw [← Yz,e1,Y8]
    have n3:=Zp6 g3.range e2;have e3:s.drop (a+(Zn x).length+(Zn y).length+(Zn z).length)=Z3b t++[]:=by rw [← Yz,e2,Y8]
    have n4:=Zorb g4.size e3;have hl:=congrArg Yha e0;simp only [Yba,Yc,Yia] at hl;unfold Zwl;simp only [n1,n2,n3,n4,Yb,Option.map_some];congr 2;omega
   ·cases h
 ·rintro ⟨h,hr⟩
  obtain ⟨h1,h2,n1,n2,n3,n4,_⟩:=Zkgb h;rw [Y9,Yn] at h1;unfold Z3i;rw [h1];have:=Znob x y z t n1 n2 n3 n4;unfold Zvk;rw [this];dsimp only;rw [Xc ⟨rfl,hr⟩]
def Zkg (s:Str) (i:Int):Int×Int×Int×Str×Int:=
 if (Zyc s).2=0 then match Zrb (Zl s) 0 with
  | some (n,a)=>match Z3i ((Zl s).drop a) with
   | some (x,y,z,t)=>if 0≤n∧n≤1000000 then (if n=i then (x,y,z,t,0) else (0,0,0,[],6)) else (0,0,0,[],3)
   | none=>(0,0,0,[],3)
  | none=>(0,0,0,[],3)
 else (0,0,0,[],(Zyc s).2)
theorem sL06 (x y z:Int) (t:Str) (hx:Num x) (hy:Num y) (hz:Num z) (ht:t.length≤8000):Zc fun k=>Znm k (x,(y,(z,t)))=some (Zvk x y z t):=by
 have l1:=Zhc x
 have l2:=Zhc y
 have l3:=Zhc z
 have l4:=Ztj t
 refine (Z8db x y z t hx hy hz ht).mono fun k ⟨h1,h2,h3,h4⟩=>?_
 unfold Znm
 exact Za h1 (Za h2 (Za (Zwc (by omega)) (Za h3 (Za (Zwc (by simp;omega)) (Za h4 (Za (Zwc (by simp;omega)) rfl))))))
theorem Zsfb (n x y z:Int) (t:Str) (hn:Num n) (hx:Num x) (hy:Num y) (hz:Num z) (ht:t.length≤8) (hr:Zjd x y z t 8=true):Zc fun k=>Zol k n (x,(y,(z,t)))=some (if 0≤n∧n≤1000000 then Zeh (Zn n++Zvk x y z t) else []):=by
 have W:Z7 n 0 1000000=some (decide (0≤n)&&decide (n≤1000000)):=rfl
 have l0:=Zhc n
 have l1:=Zhc x
 have l2:=Zhc y
 have l3:=Zhc z
 have l4:=Ztj t
 have lX:(Zvk x y z t).length≤60:=by unfold Zvk;simp only [Yc];omega
 by_cases c:0≤n∧n≤1000000
 ·refine (((Zaj n hn).and (sL06 x y z t hx hy hz (by omega))).and (Zu7 (Zn n++Zvk x y z t) (by simp;omega))).mono fun k ⟨⟨h1,h2⟩,h3⟩=>?_
  unfold Zol;refine Za W ?_;rw [Xa c.1,Xa c.2,Xc c];simp only [Y4,Yf,Xf];refine Za (Z51 x y z t 8 (by omega) (by omega)) ?_;rw [hr];simp only [Yf,Xf];exact Za h1 (Za h2 (Za (Zwc (by omega)) (Za h3 rfl)))
 ·refine Zc.of fun k=>?_
  unfold Zol;refine Za W ?_
  have:(decide (0≤n)&&decide (n≤1000000))=false:=by
   rw [Y3,decide_eq_false_iff_not,decide_eq_false_iff_not];exact Classical.not_and_iff_not_or_not.1 c
  rw [this,Xd c];rfl
theorem Zcqb (s:Str) (hs:s.length≤8000) (i:Int):Zc fun k=>Zpl k s i=some (Zkg s i):=by
 unfold Zkg
 by_cases hu:(Zyc s).2=0
 ·obtain ⟨e1,e2,e3⟩:=Ztv hu
  have hbl:(Zl s).length≤8000:=by rw [Zis];omega
  rw [Xc hu];cases hn:Zrb (Zl s) 0 with
  | none=>
   have h0:StS (Zl s) (Zl s,((0:Nat):Int),false) (some 0):=⟨rfl,0,rfl,by omega,rfl,rfl⟩;obtain ⟨v4,q4,h4,_⟩:=Zpn hbl h0;rw [show Zf (Zl s) (some 0)=none by simp [Zf,hn]] at h4;rcases h4.form with ⟨a,e,_,_⟩ | ⟨a,_,ha,e⟩
   ·cases e
   have hv:Zib (Zl s) 0=(0,Zl s,((0:Nat):Int),true):=by
    unfold Zrb at hn;unfold Zib;split at hn
    ·cases hn
    ·rename_i h
     rw [Xd h]
   have hv0:=Zov (Zl s) 0 (by omega) hbl;refine (((Zhm s hs).and hv0).and (Zv7 (Zl s) hbl)).mono fun k ⟨⟨u,q4⟩,q6⟩=>?_
   have q4:Zdc k (Zl s,(0,false))=some (Zib (Zl s) 0):=q4;unfold Zpl;refine Za u ?_;rw [hu,e1];refine Za q4 ?_;rw [hv]
   have hc:Zpb (Zl s) ((0:Nat):Int) ((Zl s).length:Int)=some (Zl s):=by
    have:=Zwf (l:=Zl s) (i:=0) (j:=(Zl s).length) (by omega) (Ye _);rw [Yr] at this;exact this
   refine Za hc (Za q6 ?_);rfl
  | some w=>
   obtain ⟨n,a⟩:=w;have g:=Z8i hn;have hla:=g.le
   have hv:Zib (Zl s) 0=(n,Zl s,((a:Nat):Int),false):=by
    unfold Zrb at hn;unfold Zib;split at hn
    ·rename_i h
     rcases Zhl (Zl s) 0 with ⟨n',a',e,g'⟩ | ⟨c,hc,e⟩
     ·rw [e] at hn ⊢
      cases hn;rfl
     ·rw [e] at h;exact absurd h hc
    ·cases hn
   have hdl:((Zl s).drop a).length≤8000:=by simp;omega
   have hc:Zpb (Zl s) ((a:Nat):Int) ((Zl s).length:Int)=some ((Zl s).drop a):=by
    have:=Zwf (l:=Zl s) (i:=a) (j:=(Zl s).length) hla (Ye _);rw [Yr] at this;exact this
   have hv0:=Zov (Zl s) 0 (by omega) hbl;dsimp only;cases hst:Z3i ((Zl s).drop a) with
   | none=>
    refine (((Zhm s hs).and hv0).and (Zv7 ((Zl s).drop a) hdl)).mono fun k ⟨⟨u,q4⟩,q6⟩=>?_
    have q4:Zdc k (Zl s,(0,false))=some (Zib (Zl s) 0):=q4;rw [hst] at q6;have q6:Zmm k ((Zl s).drop a)=some (0,0,0,[],3):=q6;unfold Zpl;refine Za u ?_;rw [hu,e1];refine Za q4 ?_;rw [hv];refine Za hc (Za q6 ?_);rfl
   | some st=>
    obtain ⟨x,y,z,t⟩:=st;obtain ⟨hs1,hr⟩:=(Ziy (Zl s) a hla x y z t).1 hst;obtain ⟨b1,b2,nx,ny,nz,nt,_⟩:=Zkgb hs1;rw [Y9,Yn] at b1
    have hwhole:Zn n++Zvk x y z t=Zl s:=by
     have:=g.eq;rw [Yt,b1] at this;exact this.symm
    refine ((((Zhm s hs).and hv0).and (Zv7 ((Zl s).drop a) hdl)).and (Zsfb n x y z t g.range nx ny nz (Zhy hr) hr)).mono fun k ⟨⟨⟨u,q4⟩,q6⟩,q7⟩=>?_
    have q4:Zdc k (Zl s,(0,false))=some (Zib (Zl s) 0):=q4;rw [hst] at q6;have q6:Zmm k ((Zl s).drop a)=some (x,y,z,t,0):=q6;unfold Zpl;refine Za u ?_;rw [hu,e1];refine Za q4 ?_;rw [hv];refine Za hc (Za q6 ?_);rw [show (false||((0:Int) != 0))=false from rfl,Xf];refine Za q7 ?_;rw [hwhole,e2,Zes];dsimp only
    by_cases c:0≤n∧n≤1000000
    ·rw [Xc c,Xc c,Xa rfl]
     simp only [Yf,Xf]
     by_cases ci:n=i
     ·rw [Xc ci,show (n != i)=false by simpa using ci]
      rfl
     ·rw [Xd ci,show (n != i)=true by simpa using ci]
      rfl
    ·rw [Xd c,Xd c,Xb (fun q=>by rw [← q] at e3;simp at e3)]
     rfl
 ·rw [Xd hu]
  refine (Zhm s hs).mono fun k u=>?_
  unfold Zpl;refine Za u ?_;rw [show ((Zyc s).2 != 0)=true by simpa using hu];rfl
theorem Zamb {s:Str} (hs:s.length≤8000) {st:Str×Int×Bool} {p:Option Nat} (h:StS s st p):∃v:Int×Int×Int×Str×Str×Int×Bool,(Zc fun k=>Zjq k st=some v) ∧
  ((∃a q d,p=some a∧Zwl s a=some (q,d)∧v=(q.1,q.2.1,q.2.2.1,q.2.2.2,s,(d:Int),false))∨((∀a,p=some a→Zwl s a=none)∧v.2.2.2.2.2.2=true)):=by
 obtain ⟨v1,e1,h1,g1⟩:=Zgk hs h
 obtain ⟨v2,e2,h2,g2⟩:=Zgk hs h1
 obtain ⟨v3,e3,h3,g3⟩:=Zgk hs h2
 obtain ⟨v4,e4,h4,g4⟩:=Zi5 hs h3
 have bad:∀{st:Str×Int×Bool},StS s st none→st.2.2=true:=fun h=>h.2.choose_spec.2.2
 refine ⟨(v1.1,v2.1,v3.1,v4.1,v4.2.1,v4.2.2.1,v4.2.2.2),(((e1.and e2).and e3).and e4).mono fun k ⟨⟨⟨q1,q2⟩,q3⟩,q4⟩=>?_,?_⟩
 ·unfold Zjq
  exact Za q1 (Za q2 (Za q3 (Za q4 rfl)))
 clear e1 e2 e3 e4 h h1 h2 h3
 cases p with
 | none=>
  refine .inr ⟨fun a e=>(by cases e),bad (st:=v4.2) ?_⟩;have:Zeb s (Zf s (Zf s (Zf s none)))=none:=rfl
  rwa [this] at h4
 | some a=>
  cases x1:Zrb s a with
  | none=>
   refine .inr ⟨fun a' e=>by cases e;simp [Zwl,x1],bad (st:=v4.2) ?_⟩;have:Zeb s (Zf s (Zf s (Zf s (some a))))=none:=by simp [Zf,Zeb,x1]
   rwa [this] at h4
  | some y1=>
  obtain ⟨n1,a1⟩:=y1;cases x2:Zrb s a1 with
  | none=>
   refine .inr ⟨fun a' e=>by cases e;simp [Zwl,x1,x2],bad (st:=v4.2) ?_⟩;have:Zeb s (Zf s (Zf s (Zf s (some a))))=none:=by simp [Zf,Zeb,x1,x2]
   rwa [this] at h4
  | some y2=>
  obtain ⟨n2,a2⟩:=y2;cases x3:Zrb s a2 with
  | none=>
   refine .inr ⟨fun a' e=>by cases e;simp [Zwl,x1,x2,x3],bad (st:=v4.2) ?_⟩;have:Zeb s (Zf s (Zf s (Zf s (some a))))=none:=by simp [Zf,Zeb,x1,x2,x3]
   rwa [this] at h4
  | some y3=>
  obtain ⟨n3,a3⟩:=y3;cases x4:Z4g s a3 with
  | none=>
   refine .inr ⟨fun a' e=>by cases e;simp [Zwl,x1,x2,x3,x4],bad (st:=v4.2) ?_⟩;have:Zeb s (Zf s (Zf s (Zf s (some a))))=none:=by simp [Zf,Zeb,x1,x2,x3,x4]
   rwa [this] at h4
  | some y4=>
   obtain ⟨t,d⟩:=y4;have p1:Zf s (some a)=some a1:=by simp [Zf,x1]
   have p2:Zf s (Zf s (some a))=some a2:=by simp [Zf,x1,x2]
   have p3:Zf s (Zf s (Zf s (some a)))=some a3:=by simp [Zf,x1,x2,x3]
   have p4:Zeb s (Zf s (Zf s (Zf s (some a))))=some d:=by simp [Zf,Zeb,x1,x2,x3,x4]
   have r1:=g1 _ _ _ rfl x1;have r2:=g2 _ _ _ p1 x2;have r3:=g3 _ _ _ p2 x3;have r4:=g4 _ _ _ p3 x4;refine .inl ⟨a,(n1,n2,n3,t),d,rfl,by simp [Zwl,x1,x2,x3,x4],?_⟩;rw [p4] at h4;rcases h4.form with ⟨b,e,_,q⟩ | ⟨b,e,_,q⟩
   ·cases e
    rw [r1,r2,r3,r4,q]
   ·cases e
theorem Zdmb (s:Str) (hs:s.length≤8000) (i:Int):Zc fun k=>Zfn k s i=some (Zkg s i):=by
 unfold Zkg
 by_cases hu:(Zyc s).2=0
 ·obtain ⟨e1,e2,e3⟩:=Ztv hu
  have hbl:(Zl s).length≤8000:=by rw [Zis];omega
  rw [Xc hu];have h0:StS (Zl s) (Zl s,((0:Nat):Int),false) (some 0):=⟨rfl,0,rfl,by omega,rfl,rfl⟩;obtain ⟨v4,q4,h4,g4⟩:=Zgk hbl h0;obtain ⟨v5,q5,c5⟩:=Zamb hbl h4;refine (((Zsu s (by omega)).and q4).and q5).mono fun k ⟨⟨u,q4⟩,q5⟩=>?_
  unfold Zfn;refine Za u ?_;rw [hu,e1];refine Za q4 (Za q5 ?_);rcases c5 with ⟨a,q,d,hp,hst,hv⟩ | ⟨hno,hv⟩
  ·cases hn:Zrb (Zl s) 0 with
   | none=>simp [Zf,hn] at hp
   | some w=>
    obtain ⟨n,a'⟩:=w;have:a'=a:=by simpa [Zf,hn] using hp
    subst this;have r4:=g4 _ _ _ rfl hn;have hla:=(Z8i hn).le;obtain ⟨x,y,z,t⟩:=q;rw [hv,r4];dsimp only;have hT:Zyi n=some (decide (0≤n)&&decide (n≤1000000)):=rfl
    by_cases hd:d=(Zl s).length
    ·rw [show (false||(((d:Nat):Int) != ((Zl s).length:Int)))=false by rw [hd];simp,Xf]
     refine Za hT ?_;cases hb:Zjd x y z t 8 with
     | true=>
      have hso:=(Ziy (Zl s) a' hla x y z t).2 ⟨by rw [hst,hd],hb⟩;rw [hso];dsimp only
      by_cases c:0≤n∧n≤1000000
      ·rw [Xa c.1,Xa c.2,Xc c]
       simp only [Y4,Yf,Xf];refine Za (Zd0 x y z t 8 (by omega) (by omega)) ?_;rw [hb];simp only [Yf,Xf]
       by_cases ci:n=i
       ·rw [Xc ci,show (n != i)=false by simpa using ci]
        rfl
       ·rw [Xd ci,show (n != i)=true by simpa using ci]
        rfl
      ·have:(decide (0≤n)&&decide (n≤1000000))=false:=by
        rw [Y3,decide_eq_false_iff_not,decide_eq_false_iff_not];exact Classical.not_and_iff_not_or_not.1 c
       rw [this,Xd c];rfl
     | false=>
      have hso:Z3i ((Zl s).drop a')=none:=by
       cases q:Z3i ((Zl s).drop a') with
       | none=>rfl
       | some r=>
        obtain ⟨x',y',z',t'⟩:=r;obtain ⟨k1,k2⟩:=(Ziy (Zl s) a' hla x' y' z' t').1 q;rw [hst] at k1;cases k1;rw [hb] at k2;cases k2
      rw [hso];dsimp only;cases (decide (0≤n)&&decide (n≤1000000)) with
      | false=>rfl
      | true=>
       simp only [Yf,Xf];refine Za (Zd0 x y z t 8 (by omega) (by omega)) ?_;rw [hb];rfl
    ·rw [show (false||(((d:Nat):Int) != ((Zl s).length:Int)))=true by simp;omega]
     have hso:Z3i ((Zl s).drop a')=none:=by
      cases q:Z3i ((Zl s).drop a') with
      | none=>rfl
      | some r=>
       obtain ⟨x',y',z',t'⟩:=r;obtain ⟨k1,k2⟩:=(Ziy (Zl s) a' hla x' y' z' t').1 q;rw [hst] at k1;cases k1;exact absurd rfl hd
     rw [hso];rfl
  ·rw [hv]
   cases hn:Zrb (Zl s) 0 with
   | none=>rfl
   | some w=>
    obtain ⟨n,a⟩:=w;have hla:=(Z8i hn).le
    have hso:Z3i ((Zl s).drop a)=none:=by
     cases q:Z3i ((Zl s).drop a) with
     | none=>rfl
     | some r=>
      obtain ⟨x',y',z',t'⟩:=r;obtain ⟨k1,k2⟩:=(Ziy (Zl s) a hla x' y' z' t').1 q;rw [hno a (by simp [Zf,hn])] at k1;cases k1
    dsimp only;rw [hso];rfl
 ·rw [Xd hu]
  refine (Zsu s (by omega)).mono fun k u=>?_
  unfold Zfn;refine Za u ?_;rw [show ((Zyc s).2 != 0)=true by simpa using hu];rfl
def Zsk:List Str→Nat→List Zk
 | [],_=>[]
 | s::l,i=>if (Zkg s (i:Int)).2.2.2.2=0 then ((Zkg s (i:Int)).1,(Zkg s (i:Int)).2.1,(Zkg s (i:Int)).2.2.1,(Zkg s (i:Int)).2.2.2.1)::Zsk l (i+1) else []
theorem Zy7:∀(l:List Str) (i:Nat),(Zsk l i).length≤l.length
 | [],_=>Ye _
 | s::l,i=>by
  unfold Zsk;have:=Zy7 l (i+1);split
  ·simp only [Ys];omega
  ·simp
theorem Z3fb (L:Nat→Nat→List Zk→Option (List Zk)) (l:List Str)
  (hs:∀i,(h:i<l.length)→∀acc j,acc.length≤i→L (j+1) i acc=if (Zkg l[i] (i:Int)).2.2.2.2=0 then L j (i+1) (acc++[((Zkg l[i] (i:Int)).1,(Zkg l[i] (i:Int)).2.1,(Zkg l[i] (i:Int)).2.2.1,(Zkg l[i] (i:Int)).2.2.2.1)]) else some acc)
  (he:∀acc j,L (j+1) l.length acc=some acc) {k:Nat} (hk:l.length<k):L k 0 []=some (Zsk l 0):=by
 have key:∀(d i:Nat) (acc:List Zk),i+d=l.length→acc.length≤i→∀j,d<j→L j i acc=some (acc++Zsk (l.drop i) i):=by
  intro d
  induction d with
  | zero=>
   intro i acc hi hacc j hj;obtain ⟨j,rfl⟩:∃q,j=q+1:=⟨j-1,by omega⟩;obtain rfl:i=l.length:=by omega
   rw [he,Y9];simp [Zsk]
  | succ d ih=>
   intro i acc hi hacc j hj;obtain ⟨j,rfl⟩:∃q,j=q+1:=⟨j-1,by omega⟩;have h:i<l.length:=by omega
   rw [hs i h acc j hacc,Yua h]
   by_cases c:(Zkg l[i] (i:Int)).2.2.2.2=0
   ·rw [Xc c,ih (i+1) _ (by omega) (by simp;omega) j (by omega),Zsk,Xc c,Yg]
    rfl
   ·rw [Xd c,Zsk,Xd c,Yn]
 have:=key l.length 0 [] (Y9a _) (by simp) k hk
 rw [this,Yt]
 rfl
theorem Zgmb (l:List Str) (hl:l.length≤1000) (hs:∀s∈l,s.length≤8000):Zc fun k=>Zzf k l=some (Zsk l 0):=by
 have hr:Zc fun k=>∀i,i<l.length→∀h:i<l.length,Zfn k l[i] (i:Int)=some (Zkg l[i] (i:Int)):=Zc.all fun i h=>(Zdmb l[i] (hs _ (Yo h)) (i:Int)).mono fun k e h=>e
 refine (hr.and (Zc.ge (l.length+1) fun k hk=>hk)).mono fun k ⟨hr,hk⟩=>?_
 have h:=Z3fb (fun j i acc=>Zzf.l0 k j l (l.length:Int) (i:Int) acc) l (fun i h acc j hacc=>?_) (fun acc j=>?_) (k:=k) (by omega)
 ·have h:Zzf.l0 k k l (l.length:Int) 0 []=some (Zsk l 0):=h
  unfold Zzf;exact Za h rfl
 ·conv=>lhs;unfold Zzf.l0
  rw [dlt h,Zm (by omega),Xe];refine Za (Zg h) (Za (hr i h h) ?_)
  by_cases c:(Zkg l[i] (i:Int)).2.2.2.2=0
  ·rw [Xc c,show ((Zkg l[i] (i:Int)).2.2.2.2 != 0)=false by simpa using c,Xf]
   exact Za (Z5 (by simp;omega)) rfl
  ·rw [Xd c,show ((Zkg l[i] (i:Int)).2.2.2.2 != 0)=true by simpa using c]
   rfl
 ·conv=>lhs;unfold Zzf.l0
  rw [Zs (Ye _)];rfl
theorem Zfqb (l:List Str) (hl:l.length≤1000) (hs:∀s∈l,s.length≤8000):Zc fun k=>Zbg k l=some (Zsk l 0):=by
 have hr:Zc fun k=>∀i,i<l.length→∀h:i<l.length,Zpl k l[i] (i:Int)=some (Zkg l[i] (i:Int)):=Zc.all fun i h=>(Zcqb l[i] (hs _ (Yo h)) (i:Int)).mono fun k e h=>e
 refine (hr.and (Zc.ge (l.length+1) fun k hk=>hk)).mono fun k ⟨hr,hk⟩=>?_
 have h:=Z3fb (fun j i acc=>Zbg.l0 k j l (i:Int) acc) l (fun i h acc j hacc=>?_) (fun acc j=>?_) (k:=k) (by omega)
 ·have h:Zbg.l0 k k l 0 []=some (Zsk l 0):=h
  unfold Zbg;exact Za h rfl
 ·conv=>lhs;unfold Zbg.l0
  rw [dlt h,Zm (by omega),Xe];refine Za (Zg h) (Za (hr i h h) ?_)
  by_cases c:(Zkg l[i] (i:Int)).2.2.2.2=0
  ·rw [Xc c,show ((Zkg l[i] (i:Int)).2.2.2.2 != 0)=false by simpa using c,Xf]
   exact Za (Z5 (by simp;omega)) rfl
  ·rw [Xd c,show ((Zkg l[i] (i:Int)).2.2.2.2 != 0)=true by simpa using c]
   rfl
 ·conv=>lhs;unfold Zbg.l0
  rw [Zs (Ye _)];rfl
def Zfj (m:Zp) (st:Int) (w:Nat):List Str:=((Zb w).drop st.toNat).map fun x=>Zz m.2 (3+m.1+x)
def Zd (m:Zp) (st:Int) (w:Nat):List Zk:=Zsk (Zfj m st w) 0
theorem Z82 (m:Zp) (st:Int) (w:Nat):(Zfj m st w).length≤24:=by
 have:=Z9c w
 unfold Zfj
 simp
 omega
theorem Zm0 (m:Zp) (st:Int) (w:Nat):(Zd m st w).length≤24:=Nat.le_trans (Zy7 _ _) (Z82 m st w)
structure Fit (m:Zp) (st:Int) (w:Nat):Prop where
 b:1≤m.1∧m.1≤8
 f:Zhg m.2=true
 n:(m.2.1.length:Int)=m.1+27
 s:0≤st∧st≤((Zb w).length:Int)
theorem Fit.dirt {m:Zp} {st:Int} {w:Nat} (h:Fit m st w):m.2.2.length≤1048576:=by
 have:=(Zsp h.f).1
 omega
theorem Zd9 {m:Zp} {st:Int} {w:Nat} (h:Zhg m.2=true):∀s∈Zfj m st w,s.length≤8000:=by
 intro s hs
 unfold Zfj at hs
 obtain ⟨x,_,rfl⟩:=Y3a.1 hs
 have:=Z4m h (3+m.1+x)
 omega
theorem Z9cb {α β:Type} {l:List α} (f:α→β) {i:Nat} (h:i<l.length):(l.take (i+1)).map f=(l.take i).map f++[f l[i]]:=Zrgb f h
theorem Z2w {m:Zp} {w:Nat} (ph tr nd st dn:Int) (dg:Str) (v:List Int) (h:Fit m st w):Zc fun k=>Zad k m (ph,tr,nd,st,dn,dg,v,Zb w)=some (Zd m st w):=by
 obtain ⟨p,hp⟩:∃p:Nat,st=(p:Int):=⟨st.toNat,by have:=h.s;omega⟩
 subst hp
 have hb:=h.b
 have hn:=h.n
 have hd:=h.dirt
 have hw:=Z9c w
 have hs:p≤(Zb w).length:=by have:=h.s;omega
 refine ((Zgmb (Zfj m p w) (by have:=Z82 m p w;omega) (Zd9 h.f)).and (Zc.ge 1048577 fun k hk=>hk)).mono fun k ⟨e,hk⟩=>?_
 have hc:Zpb (Zb w) ((p:Nat):Int) ((Zb w).length:Int)=some ((Zb w).drop p):=by
  have:=Zwf (l:=Zb w) (i:=p) (j:=(Zb w).length) hs (Ye _)
  rwa [Yr] at this
 have run:=Zqb (fun j i=>Zad.l0 k j m.1 m.2.1 m.2.2 ((Zb w).drop p) (((Zb w).drop p).length:Int) (i:Int) ((((Zb w).drop p).take i).map fun x=>Zz m.2 (3+m.1+x))) ((Zb w).drop p).length (Zfj m p w) (fun i hi j=>?_) (fun j=>?_) k (by simp;omega)
 ·have run:Zad.l0 k k m.1 m.2.1 m.2.2 ((Zb w).drop p) (((Zb w).drop p).length:Int) 0 []=some (Zfj m p w):=run
  unfold Zad;exact Za hc (Za run (Za e rfl))
 ·have hx:0≤((Zb w).drop p)[i]∧((Zb w).drop p)[i]≤23:=by
   rw [Yaa];exact Z9j (by simp at hi;omega)
  have r:Zmj k (m.1,(m.2.1,m.2.2)) ((Zb w).drop p)[i]=some (Zz m.2 (3+m.1+((Zb w).drop p)[i])):=by
   unfold Zmj Z1h;rw [w64 (n:=3+m.1) (by omega) (by omega),w64 (by omega) (by omega)];exact Za rfl (Za (Zwp m.2 _ hd (by omega) (by omega) (by omega)) rfl)
  conv=>lhs;unfold Zad.l0
  rw [dlt hi,Zm (by simp at hi;omega),Xe];refine Za (Zg hi) (Za r (Za (Z5 (by simp;omega)) ?_));rw [Z9cb _ hi]
 ·conv=>lhs;unfold Zad.l0
  rw [Zs (Ye _),Yr];rfl
theorem Zgr {m:Zp} {w:Nat} (ph tr nd st dn:Int) (dg:Str) (v:List Int) (h:Fit m st w):Zc fun k=>Zjc k m (ph,tr,nd,st,dn,dg,v,Zb w)=some (Zd m st w):=by
 obtain ⟨p,hp⟩:∃p:Nat,st=(p:Int):=⟨st.toNat,by have:=h.s;omega⟩
 subst hp
 have hb:=h.b
 have hn:=h.n
 have hd:=h.dirt
 have hw:=Z9c w
 have hs:p≤(Zb w).length:=by have:=h.s;omega
 refine ((Zfqb (Zfj m p w) (by have:=Z82 m p w;omega) (Zd9 h.f)).and (Zc.ge 1048577 fun k hk=>hk)).mono fun k ⟨e,hk⟩=>?_
 have run:=Zqb (fun j i=>Zjc.l0 k j m.1 m.2.1 m.2.2 ph tr nd p dn dg v (Zb w) ((p+i:Nat):Int) ((((Zb w).drop p).take i).map fun x=>Zz m.2 (3+m.1+x))) ((Zb w).drop p).length (Zfj m p w) (fun i hi j=>?_) (fun j=>?_) k (by simp;omega)
 ·have run:Zjc.l0 k k m.1 m.2.1 m.2.2 ph tr nd p dn dg v (Zb w) (p:Int) []=some (Zfj m p w):=run
  unfold Zjc;exact Za run (Za e rfl)
 ·have hi2:p+i<(Zb w).length:=by simp at hi;omega
  have hx:=Z9j hi2;have hg:((Zb w).drop p)[i]=(Zb w)[p+i]:=Yaa;have r:Ztb k (m.2.1,m.2.2) (3+m.1+(Zb w)[p+i])=some (Zz m.2 (3+m.1+(Zb w)[p+i])):=Zzo m.2 _ hd (by omega) (by omega) (by omega)
  have ra:Zfh (m.1,(m.2.1,m.2.2)) (Zb w)[p+i]=some (3+m.1+(Zb w)[p+i]):=by
   unfold Zfh;rw [w64 (n:=3+m.1) (by omega) (by omega),w64 (by omega) (by omega)]
  conv=>lhs;unfold Zjc.l0
  rw [dlt hi2,Zm (by omega),Xe];refine Za (Zg hi2) (Za ra (Za r (Za (Z5 (by simp;omega)) ?_)));rw [Z9cb _ hi,hg];rfl
 ·have hq:p+((Zb w).drop p).length=(Zb w).length:=by simp;omega
  conv=>lhs;unfold Zjc.l0
  rw [hq,Zs (Ye _),Yr];rfl
end Go.Proofs.Qz
namespace Go.Proofs.Qz
open Go Go.RowKit
set_option linter.unusedVariables false
def dgT (x n:Int):Int:=intBits .or .u32 (shr .u32 x n) (shl .u32 x (32-n))
theorem Zeob (x y:Int):intBits .or .u32 x y=intBits .or .u32 y x:=by
 unfold intBits
 simp [BitVec.or_comm]
theorem Z7m {n:Int} (x:Int) (hn:n∈([2,6,7,11,13,17,18,19,22,25]:List Int)):Zei x n=some (dgT x n):=by
 have h:intBits .and .u64 (Ya .u64 (Ya .i64 (0-n))) 31=32-n∧Ya .u64 (32-(32-n))=n∧0≤n∧n≤32:=by
  revert n
  decide +kernel
 obtain ⟨h1,h2,h3,h4⟩:=h
 unfold Zei Zhs
 rw [h1]
 dsimp only
 rw [h2,Z4c (by omega),Z4c h3]
 simp only [Yb]
 rw [Zeob]
 rfl
theorem Zqn {n:Int} (x:Int) (h:0≤n∧n≤32):Zki x n=some (dgT x n):=by
 unfold Zki
 have h2:Ya .u64 (32-n)=32-n:=by rw [Zth];omega
 dsimp only
 rw [Z4c h.1,h2,Z4c (by omega)]
 rfl
def Zez (b:Str) (i:Nat):Int:=Ya .u32 (((b.getD i 0).toNat:Nat):Int)
def dgW (b:Str) (i:Nat):Int:=intBits .or .u32 (intBits .or .u32 (intBits .or .u32 (shl .u32 (Zez b (4*i)) 24) (shl .u32 (Zez b (4*i+1)) 16)) (shl .u32 (Zez b (4*i+2)) 8)) (Zez b (4*i+3))
theorem atD {α:Type} {l:List α} {j:Int} {n:Nat} (d:α) (hj:j=(n:Int)) (h:n<l.length):at? l j=some (l.getD n d):=by
 rw [hj,Zg h,Yu,Yi h]
 rfl
theorem Z6fb {α:Type} {l:List α} {i:Nat} {x:α} (h:i<l.length):Zmt l (i:Int) x=some (l.set i x):=by
 unfold Zmt
 rw [Xc ⟨by omega,by omega⟩]
 rfl
theorem Zwmb (b:Str) {i:Nat} (h:4*i+4≤b.length):Z3p (b.drop (4*i))=some (dgW b i):=by
 have hd:∀q,q<4→(b.drop (4*i)).getD q 0=b.getD (4*i+q) 0:=fun q _=>by
  rw [Yu,Yu,List.getElem?_drop]
 have hl:(b.drop (4*i)).length=b.length-4*i:=by simp
 unfold Z3p
 rw [atD (j:=0) (n:=0) 0 rfl (by omega),atD (j:=1) (n:=1) 0 rfl (by omega),atD (j:=2) (n:=2) 0 rfl (by omega),atD (j:=3) (n:=3) 0 rfl (by omega),hd 0 (by omega),hd 1 (by omega),hd 2 (by omega),hd 3 (by omega)]
 rfl
def dgN (w:List Int) (i:Nat):Int:=Ya .u32 ((Ya .u32 ((Ya .u32 (w.getD (i-16) 0+(intBits .xor .u32 (intBits .xor .u32 (dgT (w.getD (i-15) 0) 7) (dgT (w.getD (i-15) 0) 18)) (shr .u32 (w.getD (i-15) 0) 3))))+w.getD (i-7) 0))+(intBits .xor .u32 (intBits .xor .u32 (dgT (w.getD (i-2) 0) 17) (dgT (w.getD (i-2) 0) 19)) (shr .u32 (w.getD (i-2) 0) 10)))
def dgS (b:Str):Nat→List Int
 | 0=>Yd 64 0
 | i+1=>(dgS b i).set i (if i<16 then dgW b i else dgN (dgS b i) i)
theorem Zfu (b:Str):∀i,(dgS b i).length=64
 | 0=>by simp [dgS]
 | i+1=>by rw [dgS,Y2a,Zfu b i]
theorem Z6r {i d:Nat} (h:d≤i) (hi:i<64):Ya .i64 ((i:Int)-(d:Int))=((i-d:Nat):Int):=by rw [w64] <;> omega
theorem Zhmb {b:Str} (hb:b.length=64):∀k,64<k→Zsb.l0 k b 0 (Yd 64 (0:Int))=some (dgS b 64):=by
 refine Zqb (fun j i=>Zsb.l0 j b (i:Int) (dgS b i)) 64 _ (fun i hi j=>?_) fun j=>?_
 ·have hl:=Zfu b i
  conv=>lhs;unfold Zsb.l0
  rw [Xa (by omega:(i:Int)<64),Zm (by omega)];dsimp only;rw [Xe]
  by_cases h16:i<16
  ·rw [Xa (by omega:(i:Int)<16),w64 (n:=4*(i:Int)) (by omega) (by omega)]
   have hc:Zpb b (4*(i:Int)) (b.length:Int)=some (b.drop (4*i)):=by
    have:=Zwf (l:=b) (i:=4*i) (j:=b.length) (by omega) (Ye _);rw [Yr] at this;rw [show (4*(i:Int))=((4*i:Nat):Int) by omega];exact this
   rw [hc];simp only [Xe,Yb];rw [Zwmb b (by omega)];simp only [Yb];rw [atD (n:=i) 0 rfl (by omega)];simp only [Yb];rw [Z6fb (by omega)];simp only [Yb];rw [dgS,Xc h16]
  ·rw [Xb (by omega:¬(i:Int)<16)]
   simp only [Xf];rw [show (15:Int)=((15:Nat):Int) from rfl,show (2:Int)=((2:Nat):Int) from rfl,show (16:Int)=((16:Nat):Int) from rfl,Z6r (by omega) hi,Z6r (by omega) hi,Z6r (by omega) hi];rw [show Ya .i64 ((i:Int)-7)=((i-7:Nat):Int) from Z6r (d:=7) (by omega) hi];rw [atD (n:=i-15) 0 rfl (by omega),atD (n:=i-2) 0 rfl (by omega),atD (n:=i-16) 0 rfl (by omega),atD (n:=i-7) 0 rfl (by omega),atD (n:=i) 0 rfl (by omega)];simp only [Yb];rw [Z7m _ (by decide),Z7m _ (by decide),Z4c (by omega),Z7m _ (by decide),Z7m _ (by decide),Z4c (by omega)];simp only [Yb];rw [Z6fb (by omega)];simp only [Yb];rw [dgS,Xd h16];rfl
 ·conv=>lhs;unfold Zsb.l0
  rw [Xb (by omega:¬((64:Nat):Int)<64)];rfl
theorem Zgqb {b:Str} (hb:b.length=64):∀k,16<k→Zab.l0 k b 0 (Yd 64 (0:Int))=some (dgS b 16):=by
 refine Zqb (fun j i=>Zab.l0 j b (i:Int) (dgS b i)) 16 _ (fun i hi j=>?_) fun j=>?_
 ·have hl:=Zfu b i
  conv=>lhs;unfold Zab.l0
  rw [Xa (by omega:(i:Int)<16),Zm (by omega),w64 (n:=4*(i:Int)) (by omega) (by omega)];dsimp only;rw [Xe,w64 (n:=4*(i:Int)+1) (by omega) (by omega),w64 (n:=4*(i:Int)+2) (by omega) (by omega),w64 (n:=4*(i:Int)+3) (by omega) (by omega)];rw [atD (j:=4*(i:Int)) (n:=4*i) 0 (by omega) (by omega),atD (j:=4*(i:Int)+1) (n:=4*i+1) 0 (by omega) (by omega),atD (j:=4*(i:Int)+2) (n:=4*i+2) 0 (by omega) (by omega),atD (j:=4*(i:Int)+3) (n:=4*i+3) 0 (by omega) (by omega),atD (j:=(i:Int)) (n:=i) 0 rfl (by omega)];rw [Z4c (by omega),Z4c (by omega),Z4c (by omega)];simp only [Yb,Ym];rw [dgS,Xc hi];rfl
 ·conv=>lhs;unfold Zab.l0
  rw [Xb (by omega:¬((16:Nat):Int)<16)];rfl
theorem Zhqb {b:Str} (hb:b.length=64):∀(d i j:Nat),i+d=64→16≤i→d<j→Zab.l1 j (i:Int) (dgS b i)=some (dgS b 64):=by
 intro d
 induction d with
 | zero=>
  intro i j h1 h2 h3;obtain rfl:i=64:=by omega
  obtain ⟨j,rfl⟩:∃q,j=q+1:=⟨j-1,by omega⟩
  conv=>lhs;unfold Zab.l1
  rw [Xb (by omega:¬((64:Nat):Int)<64)];rfl
 | succ d ih=>
  intro i j h1 h2 h3;obtain ⟨j,rfl⟩:∃q,j=q+1:=⟨j-1,by omega⟩;have hi:i<64:=by omega
  have hl:=Zfu b i;rw [← ih (i+1) j (by omega) (by omega) (by omega)]
  conv=>lhs;unfold Zab.l1
  rw [Xa (by omega:(i:Int)<64),Zm (by omega)];dsimp only;rw [Xe];rw [show Ya .i64 ((i:Int)-15)=((i-15:Nat):Int) from Z6r (d:=15) (by omega) hi,show Ya .i64 ((i:Int)-2)=((i-2:Nat):Int) from Z6r (d:=2) (by omega) hi,show Ya .i64 ((i:Int)-16)=((i-16:Nat):Int) from Z6r (d:=16) (by omega) hi,show Ya .i64 ((i:Int)-7)=((i-7:Nat):Int) from Z6r (d:=7) (by omega) hi];rw [atD (n:=i-15) 0 rfl (by omega),atD (n:=i-2) 0 rfl (by omega),atD (n:=i-16) 0 rfl (by omega),atD (n:=i-7) 0 rfl (by omega),atD (j:=(i:Int)) (n:=i) 0 rfl (by omega)];simp only [Yb];rw [Zqn _ (by omega),Zqn _ (by omega),Z4c (by omega),Zqn _ (by omega),Zqn _ (by omega),Z4c (by omega)];simp only [Yb,Ym];rw [dgS,Xd (by omega)];rfl
abbrev S8:=Int×Int×Int×Int×Int×Int×Int×Int
def dgR1 (key w:Int) (s:S8):Int:=Ya .u32 ((Ya .u32 ((Ya .u32 ((Ya .u32 (s.2.2.2.2.2.2.2+(intBits .xor .u32 (intBits .xor .u32 (dgT s.2.2.2.2.1 6) (dgT s.2.2.2.2.1 11)) (dgT s.2.2.2.2.1 25))))+(intBits .xor .u32 (intBits .and .u32 s.2.2.2.2.1 s.2.2.2.2.2.1) (intBits .and .u32 (intBits .xor .u32 (Yra .u32) s.2.2.2.2.1) s.2.2.2.2.2.2.1))))+key))+w)
def dgR2 (s:S8):Int:=Ya .u32 ((intBits .xor .u32 (intBits .xor .u32 (dgT s.1 2) (dgT s.1 13)) (dgT s.1 22))+(intBits .xor .u32 (intBits .xor .u32 (intBits .and .u32 s.1 s.2.1) (intBits .and .u32 s.1 s.2.2.1)) (intBits .and .u32 s.2.1 s.2.2.1)))
def dgR (key w:Int) (s:S8):S8:=(Ya .u32 (dgR1 key w s+dgR2 s),s.1,s.2.1,s.2.2.1,Ya .u32 (s.2.2.2.1+dgR1 key w s),s.2.2.2.2.1,s.2.2.2.2.2.1,s.2.2.2.2.2.2.1)
def dgI (w:List Int) (s:S8):Nat→S8
 | 0=>s
 | i+1=>dgR (Z0n.getD i 0) (w.getD i 0) (dgI w s i)
theorem Zscb:Z0n.length=64:=by decide
theorem Z7mb:Zrt=some Z0n:=rfl
theorem Zemb {w:List Int} (hw:w.length=64) (s:S8):∀k,64<k→Zsb.l1 k s.1 s.2.1 s.2.2.1 s.2.2.2.1 s.2.2.2.2.1 s.2.2.2.2.2.1 s.2.2.2.2.2.2.1 s.2.2.2.2.2.2.2 0 w=some (dgI w s 64):=by
 have hk:=Zscb
 refine Zqb (fun j i=>Zsb.l1 j (dgI w s i).1 (dgI w s i).2.1 (dgI w s i).2.2.1 (dgI w s i).2.2.2.1 (dgI w s i).2.2.2.2.1 (dgI w s i).2.2.2.2.2.1 (dgI w s i).2.2.2.2.2.2.1 (dgI w s i).2.2.2.2.2.2.2 (i:Int) w) 64 _ (fun i hi j=>?_) fun j=>?_
 ·conv=>lhs;unfold Zsb.l1
  rw [Xa (by omega:(i:Int)<64),Zm (by omega),Xe];rw [Z7m _ (by decide),Z7m _ (by decide),Z7m _ (by decide),Z7m _ (by decide),Z7m _ (by decide),Z7m _ (by decide)];simp only [Yb];rw [atD (l:=Z0n) (j:=(i:Int)) (n:=i) 0 rfl (by omega),atD (l:=w) (j:=(i:Int)) (n:=i) 0 rfl (by omega)];simp only [Yb];rfl
 ·conv=>lhs;unfold Zsb.l1
  rw [Xb (by omega:¬((64:Nat):Int)<64)];rfl
theorem Zdqb {w:List Int} (hw:w.length=64) (s:S8):∀k,64<k→Zab.l2 k s.1 s.2.1 s.2.2.1 s.2.2.2.1 s.2.2.2.2.1 s.2.2.2.2.2.1 s.2.2.2.2.2.2.1 s.2.2.2.2.2.2.2 0 w Z0n=some (dgI w s 64):=by
 have hk:=Zscb
 refine Zqb (fun j i=>Zab.l2 j (dgI w s i).1 (dgI w s i).2.1 (dgI w s i).2.2.1 (dgI w s i).2.2.2.1 (dgI w s i).2.2.2.2.1 (dgI w s i).2.2.2.2.2.1 (dgI w s i).2.2.2.2.2.2.1 (dgI w s i).2.2.2.2.2.2.2 (i:Int) w Z0n) 64 _ (fun i hi j=>?_) fun j=>?_
 ·conv=>lhs;unfold Zab.l2
  rw [Xa (by omega:(i:Int)<64),Zm (by omega),Xe];rw [Zqn _ (by omega),Zqn _ (by omega),Zqn _ (by omega),Zqn _ (by omega),Zqn _ (by omega),Zqn _ (by omega)];simp only [Yb];rw [atD (l:=Z0n) (j:=(i:Int)) (n:=i) 0 rfl (by omega),atD (l:=w) (j:=(i:Int)) (n:=i) 0 rfl (by omega)];simp only [Yb];rfl
 ·conv=>lhs;unfold Zab.l2
  rw [Xb (by omega:¬((64:Nat):Int)<64)];rfl
def lst (s:S8):List Int:=[s.1,s.2.1,s.2.2.1,s.2.2.2.1,s.2.2.2.2.1,s.2.2.2.2.2.1,s.2.2.2.2.2.2.1,s.2.2.2.2.2.2.2]
def dgP (x r:S8):S8:=(Ya .u32 (x.1+r.1),Ya .u32 (x.2.1+r.2.1),Ya .u32 (x.2.2.1+r.2.2.1),Ya .u32 (x.2.2.2.1+r.2.2.2.1),Ya .u32 (x.2.2.2.2.1+r.2.2.2.2.1),Ya .u32 (x.2.2.2.2.2.1+r.2.2.2.2.2.1),Ya .u32 (x.2.2.2.2.2.2.1+r.2.2.2.2.2.2.1),Ya .u32 (x.2.2.2.2.2.2.2+r.2.2.2.2.2.2.2))
def W32 (n:Int):Prop:=0≤n∧n<4294967296
def U32 (s:S8):Prop:=W32 s.1∧W32 s.2.1∧W32 s.2.2.1∧W32 s.2.2.2.1∧W32 s.2.2.2.2.1∧W32 s.2.2.2.2.2.1∧W32 s.2.2.2.2.2.2.1∧W32 s.2.2.2.2.2.2.2
theorem Z8o (n:Int):W32 (Ya .u32 n):=by
 unfold W32
 rw [Zyt]
 omega
theorem Z7o {n:Int} (h:W32 n):Ya .u32 n=n:=by
 unfold W32 at h
 rw [Zyt]
 omega
theorem w32l {n:Int} (h:W32 n):Ya .i64 n=n:=by
 unfold W32 at h
 exact w64 (by omega) (by omega)
theorem Zhjb (x r:S8):U32 (dgP x r):=⟨Z8o _,Z8o _,Z8o _,Z8o _,Z8o _,Z8o _,Z8o _,Z8o _⟩
theorem lt8 {i:Nat} (h:i<8):i=0∨i=1∨i=2∨i=3∨i=4∨i=5∨i=6∨i=7:=by omega
theorem Zqmb (x r:S8):∀k,8<k→Zsb.l2 k r.1 r.2.1 r.2.2.1 r.2.2.2.1 r.2.2.2.2.1 r.2.2.2.2.2.1 r.2.2.2.2.2.2.1 r.2.2.2.2.2.2.2 0 (lst x)=some (lst (dgP x r)):=by
 refine Zqb (fun j i=>Zsb.l2 j r.1 r.2.1 r.2.2.1 r.2.2.2.1 r.2.2.2.2.1 r.2.2.2.2.2.1 r.2.2.2.2.2.2.1 r.2.2.2.2.2.2.2 (i:Int) ((lst (dgP x r)).take i++(lst x).drop i)) 8 _ (fun i hi j=>?_) fun j=>?_
 ·rcases lt8 hi with rfl | rfl | rfl | rfl | rfl | rfl | rfl | rfl <;> kernel_rfl
 ·kernel_rfl
def dgQ (x r:Int):Int:=Ya .i64 (Ya .u32 (Ya .u32 x+r))
def dgL (x r:S8):List Int:=[dgQ x.1 r.1,dgQ x.2.1 r.2.1,dgQ x.2.2.1 r.2.2.1,dgQ x.2.2.2.1 r.2.2.2.1,dgQ x.2.2.2.2.1 r.2.2.2.2.1,dgQ x.2.2.2.2.2.1 r.2.2.2.2.2.1,dgQ x.2.2.2.2.2.2.1 r.2.2.2.2.2.2.1,dgQ x.2.2.2.2.2.2.2 r.2.2.2.2.2.2.2]
theorem Zpqb (x r:S8):∀k,8<k→Zab.l3 k (lst x) 0 (lst r) []=some (dgL x r):=by
 refine Zqb (fun j i=>Zab.l3 j (lst x) (i:Int) (lst r) ((dgL x r).take i)) 8 _ (fun i hi j=>?_) fun j=>?_
 ·rcases lt8 hi with rfl | rfl | rfl | rfl | rfl | rfl | rfl | rfl <;> kernel_rfl
 ·kernel_rfl
theorem Znp {x:Int} (r:Int) (h:W32 x):dgQ x r=Ya .u32 (x+r):=by
 unfold dgQ
 rw [Z7o h,w32l (Z8o _)]
def dgB (x:S8) (b:Str):S8:=dgP x (dgI (dgS b 64) x 64)
theorem Z8cb (x:S8):at? (lst x) 0=some x.1∧at? (lst x) 1=some x.2.1∧at? (lst x) 2=some x.2.2.1∧at? (lst x) 3=some x.2.2.2.1∧at? (lst x) 4=some x.2.2.2.2.1∧at? (lst x) 5=some x.2.2.2.2.2.1∧at? (lst x) 6=some x.2.2.2.2.2.2.1∧at? (lst x) 7=some x.2.2.2.2.2.2.2:=⟨rfl,rfl,rfl,rfl,rfl,rfl,rfl,rfl⟩
theorem Zglb (x:S8) {b:Str} (hb:b.length=64) {k:Nat} (hk:66≤k):Zsb k (lst x) b=some (lst (dgB x b)):=by
 obtain ⟨a0,a1,a2,a3,a4,a5,a6,a7⟩:=Z8cb x
 unfold Zsb
 refine Za (Zhmb hb _ (by omega)) ?_
 refine Za a0 (Za a0 (Za a1 (Za a1 (Za a2 (Za a2 (Za a3 (Za a3 (Za a4 (Za a4 (Za a5 (Za a5 (Za a6 (Za a6 (Za a7 (Za a7 ?_)))))))))))))))
 refine Za (Zemb (Zfu b 64) x _ (by omega)) ?_
 refine Za (Zqmb x _ _ (by omega)) ?_
 rw [dgB]
theorem Zlpb {x:S8} (hx:U32 x) {b:Str} (hb:b.length=64) {k:Nat} (hk:66≤k):Zab k (lst x) b=some (lst (dgB x b)):=by
 obtain ⟨h0,h1,h2,h3,h4,h5,h6,h7⟩:=hx
 obtain ⟨a0,a1,a2,a3,a4,a5,a6,a7⟩:=Z8cb x
 have hm:Z3g 4 64 64 (0:Int)=some (Yd 64 0):=rfl
 have hs:Zab.l1 k 16 (dgS b 16)=some (dgS b 64):=Zhqb hb 48 16 _ rfl (Ye _) (by omega)
 unfold Zab
 refine Za hm (Za (Zgqb hb _ (by omega)) (Za hs ?_))
 refine Za a0 (Za a1 (Za a2 (Za a3 (Za a4 (Za a5 (Za a6 (Za a7 (Za Z7mb ?_))))))))
 rw [Z7o h0,Z7o h1,Z7o h2,Z7o h3,Z7o h4,Z7o h5,Z7o h6,Z7o h7]
 refine Za (Zdqb (Zfu b 64) x _ (by omega)) ?_
 refine Za (Zpqb x (dgI (dgS b 64) x 64) _ (by omega)) ?_
 unfold dgL
 rw [Znp _ h0,Znp _ h1,Znp _ h2,Znp _ h3,Znp _ h4,Znp _ h5,Znp _ h6,Znp _ h7,dgB,dgP,lst]
def dgF:Nat→Str→S8→S8
 | 0,_,x=>x
 | n+1,s,x=>dgF n (s.drop 64) (dgB x (s.take 64))
theorem Zsab (x:S8) (b:Str):U32 (dgB x b):=Zhjb _ _
theorem Zd4:∀(n:Nat) (s:Str) {x:S8},U32 x→U32 (dgF n s x)
 | 0,_,_,h=>h
 | n+1,s,x,_=>Zd4 n _ (Zsab _ _)
theorem Zhlb {k:Nat} (hk:66≤k):∀(n:Nat) (s:Str) (x:S8) (j:Nat),s.length=64*n→n<j→Zpc.l0 k j s (lst x)=some (lst (dgF n s x)):=by
 intro n
 induction n with
 | zero=>
  intro s x j hs hj;obtain ⟨j,rfl⟩:∃q,j=q+1:=⟨j-1,by omega⟩;obtain rfl:s=[]:=List.eq_nil_of_length_eq_zero (by omega);rfl
 | succ n ih=>
  intro s x j hs hj;obtain ⟨j,rfl⟩:∃q,j=q+1:=⟨j-1,by omega⟩
  have hne:(s==[])=false:=by
   cases s with
   | nil=>simp at hs
   | cons a s=>rfl
  have h1:Zpb s 0 64=some (s.take 64):=Zwf (l:=s) (i:=0) (j:=64) (by omega) (by omega)
  have h2:Zpb s 64 (s.length:Int)=some (s.drop 64):=by
   have:=Zwf (l:=s) (i:=64) (j:=s.length) (by omega) (Ye _);rw [Yr] at this;exact this
  unfold Zpc.l0;rw [hne];simp only [Ypa,Xe];refine Za h1 (Za (Zglb x (by simp;omega) hk) (Za h2 ?_));rw [ih (s.drop 64) _ j (by simp;omega) (by omega),dgF]
theorem Znpb {k:Nat} (hk:66≤k) (all:Str) (hal:all.length≤1000000):∀(d q:Nat) (x:S8) (j:Nat),all.length=64*(q+d)→d<j→U32 x→Z6.l2 k j (Zhb all) ((64*q:Nat):Int) (lst x)=some (lst (dgF d (all.drop (64*q)) x)):=by
 have hbl:(Zhb all).length=all.length:=Zs3 all
 intro d
 induction d with
 | zero=>
  intro q x j h1 hj hx;obtain ⟨j,rfl⟩:∃q,j=q+1:=⟨j-1,by omega⟩;unfold Z6.l2;rw [Xb (by omega:¬((64*q:Nat):Int)<((Zhb all).length:Int))];rfl
 | succ d ih=>
  intro q x j h1 hj hx;obtain ⟨j,rfl⟩:∃q,j=q+1:=⟨j-1,by omega⟩;have hw:Ya .i64 (((64*q:Nat):Int)+64)=((64*(q+1):Nat):Int):=by rw [w64] <;> omega
  have hc:Zpb (Zhb all) ((64*q:Nat):Int) ((64*(q+1):Nat):Int)=some (Zhb ((all.drop (64*q)).take 64)):=by
   rw [Zwf (by omega) (by omega)];unfold Zhb;rw [← List.map_take,← List.map_drop,Ywa];congr 3;omega
  unfold Z6.l2;rw [Xa (by omega:((64*q:Nat):Int)<((Zhb all).length:Int)),hw];simp only [Xe];refine Za hc ?_;rw [Zhnb];refine Za (Zlpb hx (by simp;omega) hk) ?_;rw [ih (q+1) _ j (by omega) (by omega) (Zsab _ _),dgF,Yz];rfl
def Zof (n:Nat):Nat:=(119-n%64)%64
def shN (n:Int):Nat→Int
 | 0=>n
 | q+1=>shr .u64 (shN n q) 8
def bb (c:Nat) (n:Int) (i:Nat):List Int:=Yd (c-i) 0++((Yk i).reverse.map fun q=>Ya .u8 (shN n q))
theorem Zflb (n:Int):∀k,8<k→Z0d k n 8=some (Zob (bb 8 n 8)):=by
 intro k hk
 have h:∀k,8<k→Z0d.l0 k n (7-((0:Nat):Int)) (bb 8 n 0)=some (bb 8 n 8):=by
  refine Zqb (fun j i=>Z0d.l0 j (shN n i) (7-(i:Int)) (bb 8 n i)) 8 _ (fun i hi j=>?_) fun j=>?_
  ·rcases lt8 hi with rfl | rfl | rfl | rfl | rfl | rfl | rfl | rfl <;> kernel_rfl
  ·kernel_rfl
 have hm:Z3g 1 8 8 (0:Int)=some (Yd 8 0):=rfl
 unfold Z0d
 refine Za hm (Za (h k hk) rfl)
theorem Zelb (n:Int):∀k,4<k→Z0d k n 4=some (Zob (bb 4 n 4)):=by
 intro k hk
 have h:∀k,4<k→Z0d.l0 k n (3-((0:Nat):Int)) (bb 4 n 0)=some (bb 4 n 4):=by
  refine Zqb (fun j i=>Z0d.l0 j (shN n i) (3-(i:Int)) (bb 4 n i)) 4 _ (fun i hi j=>?_) fun j=>?_
  ·rcases (by omega:i=0∨i=1∨i=2∨i=3) with rfl | rfl | rfl | rfl <;> kernel_rfl
  ·kernel_rfl
 have hm:Z3g 1 4 4 (0:Int)=some (Yd 4 0):=rfl
 unfold Z0d
 refine Za hm (Za (h k hk) rfl)
theorem Z7fb (N:Nat):∀q,shN (N:Int) q=((N/2^(8*q):Nat):Int)
 | 0=>by simp [shN]
 | q+1=>by
  rw [shN,Z7fb N q,show (8:Int)=((8:Nat):Int) from rfl,Z2i .u64 _ 8 (by decide),Nat.div_div_eq_div_mul,← Nat.pow_add,Nat.mul_add]
theorem Zn9 (c:Nat) (N:Nat):bb c (N:Int) c=(Yk c).map fun i=>((N/2^(8*(c-1-i))%256:Nat):Int):=by
 unfold bb
 rw [Nat.sub_self,Y5a,Y4a]
 apply Yga
 ·simp
 ·intro i h1 h2
  simp only [Yp,List.length_reverse,Y1a] at h1;simp only [Yj,List.getElem_reverse,Y0a,Y1a];rw [Z7fb,u8w];omega
def be8 (N:Nat):List Int:=(Yk 8).map fun i=>((N/2^(8*(8-1-i))%256:Nat):Int)
theorem Z1pb (N:Nat) (b:List Int) (hb:b.length≤1000000):∀k,8<k→Z6.l1 k (N:Int) 56 b=some (b++be8 N):=by
 have hl:(be8 N).length=8:=by simp [be8]
 have h:=Zqb (fun j i=>Z6.l1 j (N:Int) (56-8*(i:Int)) (b++(be8 N).take i)) 8 (b++be8 N) (fun i hi j=>?_) fun j=>?_
 ·intro k hk
  have:=h k hk;simpa using this
 ·have hn:(56:Int)-8*(i:Int)=((56-8*i:Nat):Int):=by omega
  conv=>lhs;unfold Z6.l1
  rw [Xa (by omega:(0:Int)≤56-8*(i:Int)),show Ya .i64 ((56:Int)-8*(i:Int)-8)=56-8*((i+1:Nat):Int) by rw [w64] <;> omega,Zr8 (by omega) (by omega)];simp only [Xe]
  have he:Ya .u8 (shr .u64 (N:Int) (56-8*(i:Int)))=(be8 N)[i]'(by omega):=by
   rw [hn,Z2i .u64 _ _ (by show 56-8*i≤64;omega),u8w];simp only [be8,Yj,Y0a];rw [show 8*(8-1-i)=56-8*i by omega];omega
  refine Za (Z4c (by omega)) (Za (Z5 (by simp;omega)) ?_);rw [he,Zni (by omega),Yg]
 ·conv=>lhs;unfold Z6.l1
  rw [Xb (by omega:¬(0:Int)≤56-8*((8:Nat):Int)),List.take_of_length_le (by omega)];rfl
theorem Ziib {a b:Int} (h:a≠b):(a != b)=true:=by simp [h]
theorem Zxqb (b:List Int) (n:Nat) (hb:b.length=n+1) (hn:n≤1000000):∀k,64<k→Z6.l0 k b=some (b++Yd (Zof n) 0):=by
 have hz:Zof n<64:=Yla _ (by omega)
 have h:=Zqb (fun j i=>Z6.l0 j (b++Yd i 0)) (Zof n) (b++Yd (Zof n) 0) (fun i hi j=>?_) fun j=>?_
 ·intro k hk
  have:=h k (by omega);rw [Y5a,Yn] at this;exact this
 ·have hm:Yy (((b++Yd i (0:Int)).length:Nat):Int) 64=(((n+1+i)%64:Nat):Int):=by
   rw [Y7 (by omega),Yc,Yja,hb];omega
  conv=>lhs;unfold Z6.l0
  refine Za (Z7q (by decide)) ?_;rw [hm,Ziib (by unfold Zof at hi;omega)];simp only [Xe];refine Za (Z5 (by simp;omega)) ?_;rw [Yg,← List.replicate_succ']
 ·have hm:Yy (((b++Yd (Zof n) (0:Int)).length:Nat):Int) 64=56:=by
   rw [Y7 (by omega),Yc,Yja,hb];unfold Zof;omega
  conv=>lhs;unfold Z6.l0
  refine Za (Z7q (by decide)) ?_;rw [hm];rfl
def Z9q (t:Str):Str:=t++([128]:Str)++Yd (Zof t.length) 0++Zob (be8 (8*t.length))
theorem Zxdb (t:Str):(Z9q t).length=64*((t.length+9+Zof t.length)/64):=by
 unfold Z9q
 have:(Zob (be8 (8*t.length))).length=8:=by rw [Zel];simp [be8]
 simp only [Yc,Yja,this,List.length_singleton]
 unfold Zof
 omega
def Zqs:S8:=(1779033703,3144134277,1013904242,2773480762,1359893119,2600822924,528734635,1541459225)
def Z3h (x:Int):List Int:=bb 4 x 4
def Z1i (t:Str):Str:=Zob ((lst (dgF ((t.length+9+Zof t.length)/64) (Z9q t) Zqs)).flatMap Z3h)
theorem iOut (x:S8) (hx:U32 x) {k:Nat} (hk:10≤k):Zpc.l1 k k [] x.1 x.2.1 x.2.2.1 x.2.2.2.1 x.2.2.2.2.1 x.2.2.2.2.2.1 x.2.2.2.2.2.2.1 x.2.2.2.2.2.2.2 0=some (Zob ((lst x).flatMap Z3h)):=by
 have hl:(lst x).length=8:=rfl
 have hU:∀v∈lst x,W32 v:=by
  obtain ⟨h0,h1,h2,h3,h4,h5,h6,h7⟩:=hx;intro v hv;simp only [lst,Y0,Y1,or_false] at hv;rcases hv with rfl | rfl | rfl | rfl | rfl | rfl | rfl | rfl <;> assumption
 have ho:∀v,(Z3h v).length=4:=fun v=>by simp [Z3h,bb]
 have hfl:∀i,i≤8→(((lst x).take i).flatMap Z3h).length=4*i:=by
  intro i hi
  have:∀l:List Int,(l.flatMap Z3h).length=4*l.length:=fun l=>by
   induction l with
   | nil=>rfl
   | cons a l ih=>rw [Yya,Yc,ih,ho,Ys];omega
  rw [this,Yq,hl];omega
 have h:=Zqb (fun j i=>Zpc.l1 k j (Zob (((lst x).take i).flatMap Z3h)) x.1 x.2.1 x.2.2.1 x.2.2.2.1 x.2.2.2.2.1 x.2.2.2.2.2.1 x.2.2.2.2.2.2.1 x.2.2.2.2.2.2.2 (i:Int)) 8 (Zob ((lst x).flatMap Z3h)) (fun i hi j=>?_) fun j=>?_
 ·exact h k (by omega)
 ·conv=>lhs;unfold Zpc.l1
  rw [Xa (by omega:(i:Int)<8),Zm (by omega)];simp only [Xe];have hat:at? [x.1,x.2.1,x.2.2.1,x.2.2.2.1,x.2.2.2.2.1,x.2.2.2.2.2.1,x.2.2.2.2.2.2.1,x.2.2.2.2.2.2.2] (i:Int)=some ((lst x)[i]'(by omega)):=Zg (l:=lst x) (by omega);refine Za hat ?_;have hw:=hU _ (Yo (show i<(lst x).length by omega));rw [show Ya .u64 ((lst x)[i]'(by omega))=(lst x)[i]'(by omega) by unfold W32 at hw;exact Zr8 hw.1 (by omega)];refine Za (Zelb _ k (by omega)) ?_;refine Za (Zwc (by rw [Zel,Zel,hfl i (by omega)];have:=ho ((lst x)[i]'(by omega));unfold Z3h at this;rw [this];omega)) ?_;rw [Zni (by omega),Yxa,Zgnb];simp [Z3h]
 ·conv=>lhs;unfold Zpc.l1
  rw [Xb (by omega:¬((8:Nat):Int)<8)];rfl
theorem sOut (x:S8) (hx:U32 x):∀k,8<k→Z6.l3 k 0 (lst x) []=some ((lst x).flatMap Z3h):=by
 have hl:(lst x).length=8:=rfl
 have hU:∀v∈lst x,W32 v:=by
  obtain ⟨h0,h1,h2,h3,h4,h5,h6,h7⟩:=hx;intro v hv;simp only [lst,Y0,Y1,or_false] at hv;rcases hv with rfl | rfl | rfl | rfl | rfl | rfl | rfl | rfl <;> assumption
 have ho:∀v,(Z3h v).length=4:=fun v=>by simp [Z3h,bb]
 have hfl:∀i,i≤8→(((lst x).take i).flatMap Z3h).length=4*i:=by
  intro i hi
  have:∀l:List Int,(l.flatMap Z3h).length=4*l.length:=fun l=>by
   induction l with
   | nil=>rfl
   | cons a l ih=>rw [Yya,Yc,ih,ho,Ys];omega
  rw [this,Yq,hl];omega
 refine Zqb (fun j i=>Z6.l3 j (i:Int) (lst x) (((lst x).take i).flatMap Z3h)) 8 _ (fun i hi j=>?_) fun j=>?_
 ·conv=>lhs;unfold Z6.l3
  rw [Xa (by omega:(i:Int)<8),Zm (by omega)];simp only [Xe];have hat:at? (lst x) (i:Int)=some ((lst x)[i]'(by omega)):=Zg (by omega);have hw:=hU _ (Yo (show i<(lst x).length by omega));refine Za hat (Za hat (Za (Z4c (by omega)) (Za (Z4c (by omega)) (Za (Z4c (by omega)) (Za (Z5 (by rw [hfl i (by omega)];simp;omega)) ?_)))));rw [Zni (by omega),Yxa]
  have he:[Ya .u8 (shr .i64 ((lst x)[i]'(by omega)) 24),Ya .u8 (shr .i64 ((lst x)[i]'(by omega)) 16),Ya .u8 (shr .i64 ((lst x)[i]'(by omega)) 8),Ya .u8 ((lst x)[i]'(by omega))]=Z3h ((lst x)[i]'(by omega)):=by
   generalize (lst x)[i]'(by omega)=v at hw;unfold W32 at hw;obtain ⟨N,rfl⟩:∃N:Nat,v=(N:Int):=⟨v.toNat,by omega⟩;unfold Z3h;rw [Zn9,show (24:Int)=((24:Nat):Int) from rfl,show (16:Int)=((16:Nat):Int) from rfl,show (8:Int)=((8:Nat):Int) from rfl,Z2i .i64 _ 24 (by decide),Z2i .i64 _ 16 (by decide),Z2i .i64 _ 8 (by decide),u8w,u8w,u8w,u8w];simp [Yk,Yk.loop]
  rw [he];simp
 ·conv=>lhs;unfold Z6.l3
  rw [Xb (by omega:¬((8:Nat):Int)<8)];rfl
theorem Ze4:U32 Zqs:=by unfold U32 W32 Zqs;decide
theorem Ztib (n:Nat):Zhb (Yd n 0)=Yd n 0:=by simp [Zhb]
theorem Zsib (N:Nat):Zhb (Zob (be8 N))=be8 N:=by
 unfold Zhb Zob
 rw [List.map_map]
 have:∀z∈be8 N,0≤z∧z<256:=by
  intro z hz;obtain ⟨i,_,rfl⟩:=Y3a.1 hz;omega
 have h2:∀l:List Int,(∀z∈l,0≤z∧z<256)→l.map ((fun b:UInt8=>((b.toNat:Nat):Int)) ∘ fun n:Int=>UInt8.ofNat n.toNat)=l:=by
  intro l
  induction l with
  | nil=>intro _;rfl
  | cons a l ih=>
   intro h;have ha:=h a List.mem_cons_self;rw [List.map_cons,ih fun z hz=>h z (List.mem_cons_of_mem _ hz)];congr 1;show (((UInt8.ofNat a.toNat).toNat:Nat):Int)=a;rw [UInt8.toNat_ofNat'];omega
 exact h2 _ this
theorem iSha (t:Str) (ht:t.length≤100000) {k:Nat} (hk:200000≤k):Zpc k t=some (Z1i t):=by
 have hz:Zof t.length<64:=Yla _ (by omega)
 have hm:Yy (Ya .i64 (119-(Yy ((t.length):Int) 64))) 64=(Zof t.length:Int):=by
  have h1:Yy ((t.length):Int) 64=((t.length%64:Nat):Int):=by rw [Y7 (by omega)];omega
  rw [h1,w64 (by omega) (by omega),Y7 (by omega)];unfold Zof;omega
 have hr:strings_Repeat ([0]:Str) (Zof t.length:Int)=some (Yd (Zof t.length) 0):=by
  unfold strings_Repeat;rw [Xc ⟨by omega,by simp;omega,by omega⟩];have:Lib.repeatL ([0]:Str) (Zof t.length)=Yd (Zof t.length*1) 0:=Lib.repeatL_replicate 0 1 (Zof t.length);rw [Ym,this,Nat.mul_one]
 have hb:Ya .u64 (8*(Ya .u64 ((t.length):Int)))=((8*t.length:Nat):Int):=by rw [Zth,Zth];omega
 have h8:Z0d k ((8*t.length:Nat):Int) 8=some (Zob (be8 (8*t.length))):=by
  rw [Zflb _ k (by omega),Zn9];rfl
 have hl8:(Zob (be8 (8*t.length))).length=8:=by rw [Zel];simp [be8]
 unfold Zpc
 rw [hm,hb]
 refine Za (Z7q (by decide)) (Za (Z7q (by decide)) (Za (Zwc (by simp;omega)) (Za hr (Za (Zwc (by simp;omega)) (Za h8 (Za (Zwc (by rw [hl8];simp;omega)) ?_))))))
 have hp:=Zxdb t
 have hF:=Zhlb (k:=k) (by omega) ((t.length+9+Zof t.length)/64) (Z9q t) Zqs k hp (by omega)
 refine Za hF ?_
 refine Za (iOut (dgF ((t.length+9+Zof t.length)/64) (Z9q t) Zqs) (Zd4 _ _ Ze4) (by omega)) ?_
 rw [Z1i]
theorem sSha (t:Str) (ht:t.length≤100000) {k:Nat} (hk:200000≤k):Z6 k t=some (Z1i t):=by
 have hz:Zof t.length<64:=Yla _ (by omega)
 have hbl:=Zs3 t
 have h0:Zt 1 (Zhb t) [128]=some (Zhb t++[128]):=Z5 (by simp;omega)
 have h1:=Zxqb (Zhb t++[128]) t.length (by simp [hbl]) (by omega) k (by omega)
 have hw:Ya .u64 (Ya .i64 (8*((t.length):Int)))=((8*t.length:Nat):Int):=by rw [w64 (by omega) (by omega),Zr8 (by omega) (by omega)];omega
 have h2:=Z1pb (8*t.length) (Zhb t++[128]++Yd (Zof t.length) 0) (by simp [hbl];omega) k (by omega)
 have hall:Zhb t++[128]++Yd (Zof t.length) 0++be8 (8*t.length)=Zhb (Z9q t):=by
  unfold Z9q;rw [Zr3,Zr3,Zr3,Ztib,Zsib];rfl
 have hp:=Zxdb t
 have h3:=Znpb (k:=k) (by omega) (Z9q t) (by omega) ((t.length+9+Zof t.length)/64) 0 Zqs k (by omega) (by omega) Ze4
 unfold Z6
 rw [hw]
 refine Za (Zveb (by omega)) (Za h0 (Za h1 (Za h2 ?_)))
 rw [hall]
 refine Za (a:=lst Zqs) rfl (Za h3 ?_)
 refine Za (sOut _ (Zd4 _ _ Ze4) k (by omega)) ?_
 rw [Z1i,Nat.mul_zero,Yt]
end Go.Proofs.Qz
namespace Go.Proofs.Qz
open Go
set_option linter.unusedVariables false
theorem Z5mb (l:List Str):Lib.join l []=l.flatten:=by
 cases l with
 | nil=>rfl
 | cons x r=>
  rw [Lib.join_cons,Lib.joinTail,List.flatten_cons];congr 2;exact List.map_id' r
theorem Zolb {l:List Str} (h:Zxi l=true) {k:Nat} (hk:200000≤k):Z7p k l=some (Z1i l.flatten):=by
 obtain ⟨h1,h2,h3⟩:=Z3w h
 have hf:=Zx4 l 8 fun s hs=>Yka (h3 s hs)
 have hj:strings_Join l []=some l.flatten:=by
  unfold strings_Join;rw [Z5mb,Xc ⟨by omega,by omega⟩]
 unfold Z7p
 exact Za hj (Za (iSha _ (by omega) hk) rfl)
theorem Ztpb {l:List Str} (h:Zxi l=true):Zc fun k=>Z3o k l=some (Z1i l.flatten):=by
 obtain ⟨h1,h2,h3⟩:=Z3w h
 have hf:=Zx4 l 8 fun s hs=>Yka (h3 s hs)
 have run:=Z3ib (fun k j acc i=>Z6e.l0 j l acc i) l id 8 100000 (fun s hs=>Yka (h3 s hs)) (fun i hi=>Zc.of fun k acc j ha=>by
  show Z6e.l0 (j+1) l acc (i:Int)=_;have:=h3 _ (Yo hi)
  conv=>lhs;unfold Z6e.l0
  rw [dlt hi,Zg hi,Zm (by omega)];simp only [Xe,Yb];rw [Zwc (by omega)];rfl) (fun k acc j=>by
  show Z6e.l0 (j+1) l acc (l.length:Int)=_;unfold Z6e.l0;rw [Zs (Ye _)];rfl) [] (by simp;omega)
 refine (run.and (Zc.ge 200000 fun k hk=>hk)).mono fun k ⟨run,hk⟩=>?_
 have hj:Z6e k l=some l.flatten:=by
  have run:Z6e.l0 k l [] 0=some ([]++(l.map id).flatten):=run;rw [List.map_id,Y4a] at run;unfold Z6e;exact Za run rfl
 unfold Z3o Zpt
 refine Za (Zq7 l (by omega)) ?_
 rw [h]
 simp only [Yf,Xf]
 refine Za hj ?_
 rw [Xb (by omega:¬(8000<(l.flatten.length:Int)))]
 exact Za (Za (sSha _ (by omega) hk) rfl) rfl
def Zgy (m:Zp) (st dn:Int) (w:Nat):Bool:=decide (Zfb (Zd m st w) m.1=0)&&(decide (Z7b (Zh (Zd m st w))≤st)&&decide (dn≤((Zh (Zd m st w)).length:Int)))
def Ztg (m:Zp):Bool:=match stM m with
 | some (ph,tr,nd,st,dn,dg,v,w)=>Zxi (Zxb m)&&(decide (ph≤2)||Zgy m st dn w)
 | none=>false
theorem Zjgb {s:Str} {a b c d e:Int} {x:Str} {v w:Nat} (h:Z5o s=some (a,b,c,d,e,x,v,w)):Z7h a b c d e x v w=true∧v<16777216∧w<16777216:=by
 unfold Z5o at h
 split at h
 ·split at h
  ·rename_i hc
   cases h;refine ⟨hc.2.2.2,?_,?_⟩
   ·have:=hc.2.1;omega
   ·have:=hc.2.2.1;omega
  ·cases h
 ·cases h
theorem Zf2 {m:Zp} {a b c d e:Int} {x:Str} {v w:Nat} (h:stM m=some (a,b,c,d,e,x,v,w)):Fit m d w∧(1≤a∧a≤5)∧Z7h a b c d e x v w=true:=by
 unfold stM at h
 split at h
 ·rename_i hc
  split at h
  ·have h:=(Zjgb h).1
   have h0:=h;unfold Z7h at h;rw [Yl,Yl,decide_eq_true_eq,decide_eq_true_eq,Yl] at h;refine ⟨⟨hc.1,hc.2.1,hc.2.2,?_⟩,h.1,h0⟩;have h2:=h.2.2;split at h2
   ·have h2:=of_decide_eq_true h2
    omega
   ·have h2:=of_decide_eq_true h2
    omega
  ·cases h
 ·cases h
theorem Zvp (m:Zp) (hl:m.2.1.length≤1048576) (hl2:m.2.2.length≤1048576):Zc fun k=>Zik k m=some (Ztg m):=by
 unfold Ztg
 cases hs:stM m with
 | none=>
  refine (Zru m hl hl2).mono fun k e=>?_
  rw [hs] at e;unfold Zik;exact Za e rfl
 | some z=>
  obtain ⟨ph,tr,nd,st,dn,dg,v,w⟩:=z;obtain ⟨hf,hph,hst⟩:=Zf2 hs;have hb:=hf.b;have hn:=hf.n;have hll:=Zm0 m st w;dsimp only;have pre:Zc fun k=>Zsg k m=some (Zet (some (ph,tr,nd,st,dn,dg,v,w))):=by rw [← hs];exact Zru m hl hl2
  refine ((((pre.and (Z2w ph tr nd st dn dg (Zb v) hf)).and (Ze0 (Zd m st w) m.1 (by omega))).and (Zc.ge 1048577 fun k hk=>hk)).and (if hc:Zfb (Zd m st w) m.1=0 then (Zqu (Zd m st w) (Zfg hc).1 (Zij hc)).mono fun k e _=>e else Zc.of fun k q=>absurd q hc:Zc fun k=>Zfb (Zd m st w) m.1=0→Znb k (Zd m st w)=some (Zh (Zd m st w)))).mono fun k ⟨⟨⟨⟨e1,e2⟩,e3⟩,hk⟩,e4⟩=>?_
  unfold Zik;refine Za e1 ?_;show (bif !true then _ else _)=_;rw [Yf,Xf];refine Za (Za5 (m:=m) ⟨by omega,hb.2⟩ (by omega) hl2 hk) (Za (Zwlb (Zxb m) (by omega)) ?_);cases Zxi (Zxb m) with
  | false=>rfl
  | true=>
   rw [Yf,Xf,Yh];show (bif (ph==1)||(ph==2) then _ else _)=_
   by_cases hp:ph≤2
   ·rw [show ((ph==1)||(ph==2))=true by
     rcases (by omega:ph=1∨ph=2) with q | q <;> rw [q] <;> rfl,Xa hp]
    rfl
   ·rw [show ((ph==1)||(ph==2))=false by
     have h1:(ph==1)=false:=by simp;omega
     have h2:(ph==2)=false:=by simp;omega
     rw [h1,h2];rfl,Xb hp,Xf,Yoa]
    refine Za e2 (Za e3 ?_);unfold Zgy
    by_cases hc:Zfb (Zd m st w) m.1=0
    ·have hpl:=Zqx _ (Zfg hc).1 (Zij hc)
     rw [show (Zfb (Zd m st w) m.1 != 0)=false by simpa using hc,Xf,Xa hc,Yh];refine Za (e4 hc) (Za (Zgcb _ (by omega) k (by omega)) ?_);show (bif decide (Z7b (Zh (Zd m st w))≤st) then _ else _)=_;cases decide (Z7b (Zh (Zd m st w))≤st) <;> rfl
    ·rw [show (Zfb (Zd m st w) m.1 != 0)=true by simpa using hc,Xb hc]
     rfl
theorem Zkt (m:Zp) (hl:m.2.1.length≤1048576) (hl2:m.2.2.length≤1048576):Zc fun k=>Zkm k m=some (Ztg m):=by
 unfold Ztg
 cases hs:stM m with
 | none=>
  refine (Zay m hl hl2).mono fun k e=>?_
  rw [hs] at e;unfold Zkm;exact Za e rfl
 | some z=>
  obtain ⟨ph,tr,nd,st,dn,dg,v,w⟩:=z;obtain ⟨hf,hph,hst⟩:=Zf2 hs;have hb:=hf.b;have hn:=hf.n;have hll:=Zm0 m st w;dsimp only;have pre:Zc fun k=>Zrh k m=some (Zet (some (ph,tr,nd,st,dn,dg,v,w))):=by rw [← hs];exact Zay m hl hl2
  refine ((((pre.and (Zgr ph tr nd st dn dg (Zb v) hf)).and (Z61 (Zd m st w) m.1 (by omega))).and (Zc.ge 1048577 fun k hk=>hk))).mono fun k ⟨⟨⟨e1,e2⟩,e3⟩,hk⟩=>?_
  unfold Zkm;refine Za e1 ?_;show (bif true then _ else _)=_;rw [Xe];refine Za (Zn7 (m:=m) ⟨by omega,hb.2⟩ (by omega) hl2 hk) (Za (Zq7 (Zxb m) (by omega)) ?_);cases Zxi (Zxb m) with
  | false=>rfl
  | true=>
   rw [Xe,Yh];refine Za (a:=decide (ph≤2)||Zgy m st dn w) ?_ rfl;unfold Zut;show (bif decide (ph≤2) then _ else _)=_
   by_cases hp:ph≤2
   ·rw [Xa hp]
    rfl
   ·rw [Xb hp,Xf,Yoa]
    refine Za e2 ?_;unfold Z1j Zgy;rw [Xb (by omega:¬(400<((Zd m st w).length:Int))),Xf]
    by_cases hc:Zfb (Zd m st w) m.1=0
    ·have hpl:=Zqx _ (Zfg hc).1 (Zij hc)
     refine Za (a:=(Zh (Zd m st w),0)) ?_ ?_
     ·refine Za e3 ?_
      rw [show (Zfb (Zd m st w) m.1 != 0)=false by simpa using hc,Xf];exact Za (Zqfb _ (Zfg hc).1 (Zij hc) k (by omega)) rfl
     rw [Xa hc,Yh];show (bif ((0:Int)==0) then _ else _)=_;rw [show ((0:Int)==0)=true from rfl,Xe];refine Za (Zufb (Zh (Zd m st w)) (by omega) k (by omega)) ?_;show (bif decide (Z7b (Zh (Zd m st w))≤st) then _ else _)=_;cases decide (Z7b (Zh (Zd m st w))≤st) <;> rfl
    ·refine Za (a:=([],Zfb (Zd m st w) m.1)) ?_ ?_
     ·refine Za e3 ?_
      rw [show (Zfb (Zd m st w) m.1 != 0)=true by simpa using hc];rfl
     rw [Xb hc];show (bif (Zfb (Zd m st w) m.1==0) then _ else _)=_;rw [show (Zfb (Zd m st w) m.1==0)=false by simpa using hc];rfl
def Zpm (b:Int) (m:Zvc):Bool:=(m.1==1)&&(m.2.2.1==b)
def doP (b:Int) (m:Zvc):Bool:=(m.1==2)&&(m.2.2.1==b)
def Z5j (mv:List Zvc) (dn:Nat) (b:Int):Int:=match Zmb (Zpm b) (mv.take dn) 0 with
 | some i=>(mv.getD i (0,(0,(0,0)))).2.2.2
 | none=>-1
theorem Z3z {l:List Zvc} {i:Nat} (h:i<l.length):l.getD i (0,(0,(0,0)))=l[i]:=by
 rw [Yu,Yi h]
 rfl
theorem Zkmb {mv:List Zvc} {dn:Nat} (h:dn≤mv.length) (hl:mv.length≤40) (b:Int) {k:Nat} (hk:100≤k):Zvd k mv (dn:Int) b=some (Z5j mv dn b):=by
 have hlen:(mv.take dn).length=dn:=by rw [Yq];omega
 have run:=Z2g (fun j i=>Zvd.l0 j b (mv.take dn) ((mv.take dn).length:Int) i) (mv.take dn) (Zpm b) (.inl ()) (fun i=>.inr (mv.getD i (0,(0,(0,0)))).2.2.2) (fun i hi=>⟨fun hp j=>?_,fun hp j=>?_⟩) (fun j=>?_) (k:=k) (by omega)
 ·have run:Zvd.l0 k b (mv.take dn) ((mv.take dn).length:Int) 0=_:=run
  have hc:Zpb mv 0 (dn:Int)=some (mv.take dn):=by
   have:=Zwf (l:=mv) (i:=0) (j:=dn) (by omega) h
   rwa [Yt] at this
  unfold Zvd Z5j;refine Za hc (Za run ?_);cases Zmb (Zpm b) (mv.take dn) 0 <;> rfl
 ·show Zvd.l0 (j+1) b (mv.take dn) _ (i:Int)=Zvd.l0 j b (mv.take dn) _ ((i+1:Nat):Int)
  conv=>lhs;unfold Zvd.l0
  rw [dlt hi,Zm (by omega),Xe];refine Za (Zg hi) ?_;unfold Zpm at hp;rw [hp];rfl
 ·show Zvd.l0 (j+1) b (mv.take dn) _ (i:Int)=_
  conv=>lhs;unfold Zvd.l0
  rw [dlt hi,Zm (by omega),Xe];refine Za (Zg hi) ?_;unfold Zpm at hp;rw [hp,Xe,Z3z (by omega),Yv]
 ·show Zvd.l0 (j+1) b (mv.take dn) _ _=_
  unfold Zvd.l0;rw [Zs (Ye _)];rfl
theorem Zjqb {mv:List Zvc} {dn:Nat} (h:dn≤mv.length) (hl:mv.length≤40) (b:Int) {k:Nat} (hk:100≤k):Zrd k mv (dn:Int) b=some (Z5j mv dn b):=by
 have hlen:(mv.take dn).length=dn:=by rw [Yq];omega
 have run:=Z2g (fun j i=>Zrd.l0 j mv (dn:Int) b i) (mv.take dn) (Zpm b) (.inl ()) (fun i=>.inr (mv.getD i (0,(0,(0,0)))).2.2.2) (fun i hi=>⟨fun hp j=>?_,fun hp j=>?_⟩) (fun j=>?_) (k:=k) (by omega)
 ·have run:Zrd.l0 k mv (dn:Int) b 0=_:=run
  unfold Zrd Z5j;refine Za run ?_;cases Zmb (Zpm b) (mv.take dn) 0 <;> rfl
 ·show Zrd.l0 (j+1) mv (dn:Int) b (i:Int)=Zrd.l0 j mv (dn:Int) b ((i+1:Nat):Int)
  rw [Yv] at hp
  conv=>lhs;unfold Zrd.l0
  rw [dlt (by omega:i<dn),Zm (by omega),Xe];refine Za (Zg (by omega)) ?_;dsimp only;unfold Zpm at hp;cases h1:(mv[i]'(by omega)).1==1 with
  | false=>rfl
  | true=>
   rw [h1,Yh] at hp;rw [Xe];refine Za (Zg (by omega)) ?_;rw [hp];rfl
 ·show Zrd.l0 (j+1) mv (dn:Int) b (i:Int)=_
  rw [Yv] at hp;unfold Zpm at hp;rw [Yl] at hp
  conv=>lhs;unfold Zrd.l0
  rw [dlt (by omega:i<dn),Zm (by omega),Xe];refine Za (Zg (by omega)) ?_;dsimp only;rw [hp.1,Xe];refine Za (Zg (by omega)) ?_;rw [hp.2,Xe];refine Za (Zg (by omega)) ?_;rw [Z3z (by omega)]
 ·show Zrd.l0 (j+1) mv (dn:Int) b ((mv.take dn).length:Int)=_
  rw [hlen];unfold Zrd.l0;rw [Zs (Ye _)];rfl
theorem Zggb {l:List Zk} {n:Int} (h:Zfb l n=0) (dn:Nat) (b:Int):Z5j (Zh l) dn b = -1∨(0≤Z5j (Zh l) dn b∧Z5j (Zh l) dn b<Z7b (Zh l)):=by
 unfold Z5j
 cases hf:Zmb (Zpm b) ((Zh l).take dn) 0 with
 | none=>exact .inl rfl
 | some i=>
  right;obtain ⟨_,hi,hp,_⟩:=Z4l hf;simp only [Nat.sub_zero] at hi hp;rw [Yq] at hi;rw [Yv] at hp;dsimp only;rw [Z3z (by omega)];have hm:(Zh l)[i]? = some (Zh l)[i]:=Yi (by omega);unfold Zpm at hp;rw [Yl] at hp;have h1:(Zh l)[i].1=1:=by simpa using hp.1
  obtain ⟨j,_,q | q⟩:=(Z70 h).form i _ hm
  ·rw [q] at h1
   cases h1
  ·have hs:(Zh l)[i].2.2.2=Z7b ((Zh l).take i):=by rw [q]
   rw [hs];exact ⟨(Ze2 _).1,Zcgb hm h1⟩
def Ztp (m:Zp) (w:Nat) (mv:List Zvc) (dn:Nat) (x:Zk):Str:=if x.1=3∨x.1=4 then (if 0≤Z5j mv dn x.2.2.1 then Zz m.2 (3+m.1+(Zb w).getD (Z5j mv dn x.2.2.1).toNat 0) else Zz m.2 (3+x.2.2.1)) else []
def Zoh (m:Zp) (w:Nat) (mv:List Zvc) (dn:Nat) (x:Zk):Str:=Zph x (Ztp m w mv dn x)
structure Sound (m:Zp) (st dn:Int) (w:Nat):Prop where
 fit:Fit m st w
 code:Zfb (Zd m st w) m.1=0
 slots:Z7b (Zh (Zd m st w))≤st
 dn:0≤dn∧dn≤((Zh (Zd m st w)).length:Int)
theorem Sound.plan {m:Zp} {st dn:Int} {w:Nat} (h:Sound m st dn w):(Zh (Zd m st w)).length≤28:=Zqx _ (Zfg h.code).1 (Zij h.code)
theorem Z7t {w:Nat} {n:Int} (h0:0≤n) (h1:n<((Zb w).length:Int)):at? (Zb w) n=some ((Zb w).getD n.toNat 0)∧0≤(Zb w).getD n.toNat 0∧(Zb w).getD n.toNat 0≤23:=by
 obtain ⟨i,rfl⟩:∃i:Nat,n=(i:Int):=⟨n.toNat,by omega⟩
 have hi:i<(Zb w).length:=by omega
 have hg:(Zb w).getD i 0=(Zb w)[i]:=by
  rw [Yu,Yi hi];rfl
 rw [Ym,hg]
 exact ⟨Zg hi,Z9j hi⟩
theorem Z9bb {m:Zp} {st:Int} {w:Nat} (h:Fit m st w) {n:Int} (h0:0≤n) (h1:n≤23) {k:Nat} (hk:1048577≤k):Zmj k (m.1,(m.2.1,m.2.2)) n=some (Zz m.2 (3+m.1+n)):=by
 have hb:=h.b
 have hn:=h.n
 unfold Zmj Z1h
 rw [w64 (n:=3+m.1) (by omega) (by omega),w64 (by omega) (by omega)]
 exact Za rfl (Za (Zwp m.2 _ h.dirt (by omega) (by omega) (by have:=h.dirt;omega)) rfl)
theorem Z8x {m:Zp} {st:Int} {w:Nat} (h:Fit m st w) {n:Int} (h0:0≤n) (h1:n≤23):Zfh m n=some (3+m.1+n):=by
 have hb:=h.b
 unfold Zfh
 rw [w64 (n:=3+m.1) (by omega) (by omega),w64 (by omega) (by omega)]
theorem Z5z {m:Zp} {st:Int} {w:Nat} (h:Fit m st w) {n:Int} (h0:0≤n) (h1:n≤23):Z1h m n=some (3+m.1+n):=by
 have hb:=h.b
 unfold Z1h
 rw [w64 (n:=3+m.1) (by omega) (by omega),w64 (by omega) (by omega)]
theorem Zdcb {m:Zp} {st dn:Int} {w:Nat} (h:Sound m st dn w) (ph tr nd:Int) (dg:Str) (v:List Int) {x:Zk} (hx:WriteOk x m.1) {k:Nat} (hk:1048577≤k):
  Zjg k m (ph,(tr,(nd,(st,(dn,(dg,(v,Zb w))))))) (Zh (Zd m st w)) x=some (Zoh m w (Zh (Zd m st w)) dn.toNat x):=by
 have hb:=h.fit.b
 have hn:=h.fit.n
 have hd:=h.fit.dirt
 have hdn:=h.dn
 have hpl:=h.plan
 have hsl:=h.slots
 have hs:=h.fit.s
 have hsrc:=hx.src
 have hrd:Zig k (m.2.1,m.2.2) (3+x.2.2.1)=some (Zz m.2 (3+x.2.2.1)):=Zwp m.2 _ hd (by omega) (by omega) (by omega)
 have hso:=Zkmb (mv:=Zh (Zd m st w)) (dn:=dn.toNat) (by omega) (by omega) x.2.2.1 (k:=k) (by omega)
 rw [Yfa hdn.1] at hso
 have hj:Zjg.j0 k (Zh (Zd m st w)) m.1 m.2.1 m.2.2 ph tr nd st dn dg v (Zb w) [] x.1 x.2.1 x.2.2.1 x.2.2.2=some (Ztp m w (Zh (Zd m st w)) dn.toNat x,x):=by
  unfold Zjg.j0 Ztp
  by_cases c:x.1=3∨x.1=4
  ·rw [Xc c,show ((x.1==3)||(x.1==4))=true by rcases c with q | q <;> rw [q] <;> rfl,Xe,w64 (n:=3+x.2.2.1) (by omega) (by omega)]
   refine Za hrd (Za hso ?_);rcases Zggb h.code dn.toNat x.2.2.1 with q | ⟨q1,q2⟩
   ·rw [q]
    rfl
   ·obtain ⟨e1,e2,e3⟩:=Z7t (w:=w) (n:=Z5j (Zh (Zd m st w)) dn.toNat x.2.2.1) q1 (by omega)
    rw [Xa q1,Xe,Xc q1];exact Za e1 (Za (Z9bb h.fit e2 e3 hk) rfl)
  ·rw [Xd c,show ((x.1==3)||(x.1==4))=false by
    rw [Yqa];exact ⟨by simp;omega,by simp;omega⟩]
   rfl
 unfold Zjg Zoh
 refine Za hj ?_
 dsimp only
 by_cases c4:x.1=4
 ·by_cases c8:(Ztp m w (Zh (Zd m st w)) dn.toNat x).length=8
  ·rw [show ((x.1==4)&&(((Ztp m w (Zh (Zd m st w)) dn.toNat x).length:Int) != 8))=false by rw [c8];simp,Xf]
   have hdata:x.2.2.2.length=8:=by rcases hx.kind with q | q | q | q;omega;omega;omega;exact q.2
   exact Za (Ze5 (.inr (.inr (.inr ⟨c8,hdata⟩))) (by omega)) rfl
  ·rw [show ((x.1==4)&&(((Ztp m w (Zh (Zd m st w)) dn.toNat x).length:Int) != 8))=true by
    rw [Yl];exact ⟨by simpa using c4,by simp;omega⟩]
   unfold Zph Z3t;rw [Xd (by omega),Xd (by omega),Xd (by omega),Xd (fun q=>c8 q.1)];rfl
 ·rw [show (x.1==4)=false by simpa using c4,Yda,Xf]
  exact Za (Ze5 (by rcases hx.kind with q | q | q | q;exact .inl q;exact .inr (.inl q);exact .inr (.inr (.inl q));exact absurd q.1 c4) (by omega)) rfl
theorem Zlfb {m:Zp} {st dn:Int} {w:Nat} (h:Sound m st dn w) (ph tr nd:Int) (dg:Str) (v:List Int) {x:Zk} (hx:WriteOk x m.1) {k:Nat} (hk:1048577≤k):
  Zyn k m (ph,(tr,(nd,(st,(dn,(dg,(v,Zb w))))))) (Zh (Zd m st w)) x=some (Zoh m w (Zh (Zd m st w)) dn.toNat x):=by
 have hb:=h.fit.b
 have hn:=h.fit.n
 have hd:=h.fit.dirt
 have hdn:=h.dn
 have hpl:=h.plan
 have hsl:=h.slots
 have hs:=h.fit.s
 have hsrc:=hx.src
 have hrd:Ztb k m.2 (3+x.2.2.1)=some (Zz m.2 (3+x.2.2.1)):=Zzo m.2 _ hd (by omega) (by omega) (by omega)
 have hso:=Zjqb (mv:=Zh (Zd m st w)) (dn:=dn.toNat) (by omega) (by omega) x.2.2.1 (k:=k) (by omega)
 rw [Yfa hdn.1] at hso
 unfold Zyn Zoh Ztp
 by_cases c:x.1=3∨x.1=4
 ·rw [Xc c,show ((x.1==3)||(x.1==4))=true by rcases c with q | q <;> rw [q] <;> rfl,Xe,w64 (n:=3+x.2.2.1) (by omega) (by omega)]
  refine Za hrd (Za hso ?_);rcases Zggb h.code dn.toNat x.2.2.1 with q | ⟨q1,q2⟩
  ·rw [q]
   exact Za (Z11 _ _ (by omega)) rfl
  ·obtain ⟨e1,e2,e3⟩:=Z7t (w:=w) (n:=Z5j (Zh (Zd m st w)) dn.toNat x.2.2.1) q1 (by omega)
   rw [Xa q1,Xe,Xc q1]
   have hst:Zxr k m (ph,(tr,(nd,(st,(dn,(dg,(v,Zb w))))))) (Z5j (Zh (Zd m st w)) dn.toNat x.2.2.1)=some (Zz m.2 (3+m.1+(Zb w).getD (Z5j (Zh (Zd m st w)) dn.toNat x.2.2.1).toNat 0)):=by
    unfold Zxr;exact Za e1 (Za (Z8x h.fit e2 e3) (Za (Zzo m.2 _ hd (by omega) (by omega) (by omega)) rfl))
   exact Za hst (Za (Z11 _ _ (by omega)) rfl)
 ·rw [Xd c,show ((x.1==3)||(x.1==4))=false by
   rw [Yqa];exact ⟨by simp;omega,by simp;omega⟩]
  exact Za (Z11 _ _ (by omega)) rfl
def Zck (mv:List Zvc) (dn:Nat) (b:Int):Bool:=(mv.take dn).any (doP b)
def Z2t (m:Zp) (st dn:Int) (w:Nat):List Str:=Z7c (Zxb m) (Zi (Zd m st w)) (Zck (Zh (Zd m st w)) dn.toNat) (Zoh m w (Zh (Zd m st w)) dn.toNat)
theorem Z9y (m:Zp):(Zxb m).length=m.1.toNat:=by simp [Zxb]
theorem Zplb (l:List Zvc) (hl:l.length≤40) (b:Int) {k:Nat} (hk:100≤k):Zhr k l b=some (l.any (doP b),b):=by
 have run:=Z2g (fun j i=>Z3d.l0 j l (l.length:Int) i b) l (doP b) (.inl b) (fun i=>.inr ((i:Int),b)) (fun i hi=>⟨fun hp j=>?_,fun hp j=>?_⟩) (fun j=>?_) (k:=k) (by omega)
 ·have run:Z3d.l0 k l (l.length:Int) 0 b=_:=run
  have hany:=Zdo (p:=doP b) (l:=l) (n:=0);unfold Zhr Z3d;rw [run];cases hf:Zmb (doP b) l 0 with
  | none=>
   rw [hf] at hany;rw [← hany];rfl
  | some i=>
   rw [hf] at hany;rw [← hany];simp only [Yb];rw [Xa (by omega:(0:Int)≤(i:Int))];rfl
 ·show Z3d.l0 (j+1) l _ (i:Int) b=Z3d.l0 j l _ ((i+1:Nat):Int) b
  conv=>lhs;unfold Z3d.l0
  rw [dlt hi,Zm (by omega),Xe];refine Za (Zg hi) ?_;unfold Z2p;unfold doP at hp;rw [hp];rfl
 ·show Z3d.l0 (j+1) l _ (i:Int) b=_
  conv=>lhs;unfold Z3d.l0
  rw [dlt hi,Zm (by omega),Xe];refine Za (Zg hi) ?_;unfold Z2p;unfold doP at hp;rw [hp];rfl
 ·show Z3d.l0 (j+1) l _ _ b=_
  unfold Z3d.l0;rw [Zs (Ye _)];rfl
theorem Zvmb {m:Zp} {st dn:Int} {w:Nat} (h:Sound m st dn w) (ph tr nd:Int) (dg:Str) (v:List Int) {k:Nat} (hk:1048577≤k):
  Zwe.l0 k k m.1 m.2.1 m.2.2 (Zi (Zd m st w)) ((Zi (Zd m st w)).length:Int) 0 ph tr nd st dn dg (Zxb m) v (Zb w) (Zh (Zd m st w))=some (ph,(tr,(nd,(st,(dn,(dg,(Z2t m st dn w,(v,(Zb w,Zh (Zd m st w)))))))))):=by
 have hb:=h.fit.b
 have hdn:=h.dn
 have hpl:=h.plan
 have hbl:=Z9y m
 have hll:=Zm0 m st w
 have hwl:(Zi (Zd m st w)).length≤(Zd m st w).length:=List.length_filter_le _ _
 have hnd:((Zi (Zd m st w)).map fun x=>x.2.1).Nodup:=(Zfg h.code).2.2.2.2.1
 have run:=Zqb (fun j i=>Zwe.l0 k j m.1 m.2.1 m.2.2 (Zi (Zd m st w)) ((Zi (Zd m st w)).length:Int) (i:Int) ph tr nd st dn dg (Z7c (Zxb m) ((Zi (Zd m st w)).take i) (Zck (Zh (Zd m st w)) dn.toNat) (Zoh m w (Zh (Zd m st w)) dn.toNat)) v (Zb w) (Zh (Zd m st w))) (Zi (Zd m st w)).length (ph,(tr,(nd,(st,(dn,(dg,(Z2t m st dn w,(v,(Zb w,Zh (Zd m st w)))))))))) (fun i hi j=>?_) (fun j=>?_) k (by omega)
 ·have run:Zwe.l0 k k m.1 m.2.1 m.2.2 (Zi (Zd m st w)) ((Zi (Zd m st w)).length:Int) 0 ph tr nd st dn dg (Z7c (Zxb m) [] (Zck (Zh (Zd m st w)) dn.toNat) (Zoh m w (Zh (Zd m st w)) dn.toNat)) v (Zb w) (Zh (Zd m st w))=_:=run
  rw [Zn8] at run;exact run
 ·have hx:=Zuv h.code _ (Yo hi)
  have hto:=hx.tgt;have hv:(Z7c (Zxb m) ((Zi (Zd m st w)).take i) (Zck (Zh (Zd m st w)) dn.toNat) (Zoh m w (Zh (Zd m st w)) dn.toNat)).length=(Zxb m).length:=Z8h _ _ _ _;have hat:=Zep (l:=Z7c (Zxb m) ((Zi (Zd m st w)).take i) (Zck (Zh (Zd m st w)) dn.toNat) (Zoh m w (Zh (Zd m st w)) dn.toNat)) hto.1 (by rw [hv];omega)
  have hcut:Zpb (Zh (Zd m st w)) 0 dn=some ((Zh (Zd m st w)).take dn.toNat):=by
   have:=Zwf (l:=Zh (Zd m st w)) (i:=0) (j:=dn.toNat) (by omega) (by omega);rw [Yt,Yfa hdn.1] at this;exact this
  have hdone:Z1p k (Zi (Zd m st w))[i].2.1 (Zh (Zd m st w)) (ph,(tr,(nd,(st,(dn,(dg,(v,Zb w)))))))=some (Zck (Zh (Zd m st w)) dn.toNat (Zi (Zd m st w))[i].2.1):=by
   unfold Z1p;exact Za hcut (Za (Zplb _ (by rw [Yq];omega) _ (by omega)) rfl)
  conv=>lhs;unfold Zwe.l0
  rw [dlt hi,Zm (by omega),Xe];refine Za (Zg hi) (Za hdone ?_);rw [Zo8 hnd hi hto.1 (by omega)];cases hq:Zck (Zh (Zd m st w)) dn.toNat (Zi (Zd m st w))[i].2.1 with
  | true=>rfl
  | false=>
   rw [Ypa,Xe,Xd Bool.false_ne_true];exact Za (Zdcb h ph tr nd dg v hx hk) (Za hat (Za hat rfl))
 ·conv=>lhs;unfold Zwe.l0
  rw [Zs (Ye _),Yr];rfl
def Zah (mv:List Zvc) (dn i:Nat) (b:Int):Bool:=((mv.take i).drop dn).any (doP b)
theorem Zzjb {w:List Zk} (hn:(w.map fun x=>x.2.1).Nodup) {j:Nat} (h:j<w.length):w.find? (fun x=>x.2.1==w[j].2.1)=some w[j]:=by
 cases hf:w.find? (fun x=>x.2.1==w[j].2.1) with
 | none=>exact absurd (List.find?_eq_none.1 hf _ (Yo h)) (by simp)
 | some x=>
  have hx:=List.mem_of_find?_eq_some hf;have he:x.2.1=w[j].2.1:=by simpa using List.find?_some hf
  obtain ⟨q,hq,rfl⟩:=Yw.1 hx
  have:q=j:=by
   rcases Y7a q j with c | c | c
   ·have:=Yca.1 hn q j (by rw [Yp];exact hq) (by rw [Yp];exact h) c
    rw [Yj,Yj] at this;exact absurd he this
   ·exact c
   ·have:=Yca.1 hn j q (by rw [Yp];exact h) (by rw [Yp];exact hq) c
    rw [Yj,Yj] at this;exact absurd he.symm this
  subst this;rfl
theorem Z4rb {base:List Str} {w:List Zk} {f g:Int→Bool} {mk:Zk→Str} (hn:(w.map fun x=>x.2.1).Nodup) {j:Nat} (h:j<w.length) (h0:0≤w[j].2.1) (h1:w[j].2.1<(base.length:Int)) (hg:∀b,g b=(f b||(b==w[j].2.1))):
  Z7c base w (fun b=>!(g b)) mk=(Z7c base w (fun b=>!(f b)) mk).set w[j].2.1.toNat (mk w[j]):=by
 refine Yga ?_ fun b k1 k2=>?_
 ·rw [Z8h,Y2a,Z8h]
 ·rw [Z8h] at k1
  rw [Z5r k1,List.getElem_set]
  by_cases hb:w[j].2.1=(b:Int)
  ·rw [Xc (by omega),← hb,Zzjb hn h]
   dsimp only;rw [hg,show (w[j].2.1==w[j].2.1)=true by simp,Yx,Xd (by simp)]
  ·rw [Xd (by omega),Z5r k1]
   have:((b:Int)==w[j].2.1)=false:=by simp;omega
   rw [hg,this,Y6]
theorem Z9mb {mv:List Zvc} {dn i:Nat} (h:i<mv.length) (b:Int):Zah mv dn (i+1) b=(Zah mv dn i b||(decide (dn≤i)&&doP b mv[i])):=by
 unfold Zah
 rw [Zni h]
 by_cases c:dn≤i
 ·rw [Xa c,Yh,List.drop_append_of_le_length (by rw [Yq];omega),List.any_append]
  simp
 ·rw [Xb c,Yda,Y6,Yva (by simp;omega),Yva (by simp;omega)]
theorem Z8mb {l:List Zk} {n:Int} (h:Zfb l n=0) {dn:Nat} (hd:dn≤(Zh l).length):∀x∈Zi l,(!(Zah (Zh l) dn (Zh l).length x.2.1))=Zck (Zh l) dn x.2.1:=by
 intro x hx
 obtain ⟨j,hj,rfl⟩:=Yw.1 hx
 have hnd:((Zi l).map fun x=>x.2.1).Nodup:=(Zfg h).2.2.2.2.1
 have hF:=Z70 h
 obtain ⟨i,hi⟩:=hF.all j hj
 rw [Zwg hj] at hi
 have only:∀(i':Nat) (m:Zvc),(Zh l)[i']? = some m→doP (Zi l)[j].2.1 m=true→i'=i:=fun i' m hm hp=>by
  unfold doP at hp;rw [Yl] at hp;have h2:m.1=2:=by simpa using hp.1
  have hb:m.2.2.1=(Zi l)[j].2.1:=by simpa using hp.2
  obtain ⟨j',hj',q | q⟩:=hF.form i' m hm
  ·rw [Zwg hj'] at q
   have hb':(Zi l)[j'].2.1=(Zi l)[j].2.1:=by rw [q] at hb;exact hb
   have hjj:j'=j:=by
    rcases Y7a j' j with c | c | c
    ·have:=Yca.1 hnd j' j (by rw [Yp];exact hj') (by rw [Yp];exact hj) c
     rw [Yj,Yj] at this;exact absurd hb' this
    ·exact c
    ·have:=Yca.1 hnd j j' (by rw [Yp];exact hj) (by rw [Yp];exact hj') c
     rw [Yj,Yj] at this;exact absurd hb'.symm this
   subst hjj;exact hF.one i' i m _ hm hi h2 rfl (by rw [q])
  ·rw [q] at h2
   cases h2
 have self:doP (Zi l)[j].2.1 (2,((j:Int),((Zi l)[j].2.1,0)))=true:=by simp [doP]
 have hil:i<(Zh l).length:=(Yza.1 hi).1
 have hie:(Zh l)[i]=(2,((j:Int),((Zi l)[j].2.1,0))):=(Yza.1 hi).2
 have e1:Zck (Zh l) dn (Zi l)[j].2.1=decide (i<dn):=by
  unfold Zck
  by_cases c:i<dn
  ·rw [Xa c]
   refine Yta.2 ⟨(Zh l)[i],?_,by rw [hie];exact self⟩;exact Yw.2 ⟨i,by rw [Yq];omega,by rw [Yv]⟩
  ·rw [Xb c]
   refine Ysa.2 fun m hm hp=>?_
   obtain ⟨q,hq,rfl⟩:=Yw.1 hm;rw [Yq] at hq;rw [Yv] at hp;have:=only q _ (Yi (by omega)) hp;omega
 have e2:Zah (Zh l) dn (Zh l).length (Zi l)[j].2.1=decide (dn≤i):=by
  unfold Zah;rw [Yr]
  by_cases c:dn≤i
  ·rw [Xa c]
   refine Yta.2 ⟨(Zh l)[i],?_,by rw [hie];exact self⟩;exact Yw.2 ⟨i-dn,by rw [Yba];omega,by rw [Yaa];congr 1;omega⟩
  ·rw [Xb c]
   refine Ysa.2 fun m hm hp=>?_
   obtain ⟨q,hq,rfl⟩:=Yw.1 hm;rw [Yba] at hq;rw [Yaa] at hp;have:=only (dn+q) _ (Yi (by omega)) hp;omega
 rw [e1,e2]
 by_cases c:dn≤i
 ·rw [Xa c,Xb (by omega:¬i<dn)]
  rfl
 ·rw [Xb c,Xa (by omega:i<dn)]
  rfl
theorem Ztqb {m:Zp} {st dn:Int} {w:Nat} (h:Sound m st dn w) (ph tr nd:Int) (dg:Str) (v:List Int) {k:Nat} (hk:1048577≤k):
  Z9e.l0 k k m.1 m.2.1 m.2.2 ph tr nd st dn dg v (Zb w) 0 (Zh (Zd m st w)) (Zi (Zd m st w)) (Zxb m)=some (Z2t m st dn w):=by
 have hb:=h.fit.b
 have hdn:=h.dn
 have hpl:=h.plan
 have hbl:=Z9y m
 have hF:=Z70 h.code
 have hnd:((Zi (Zd m st w)).map fun x=>x.2.1).Nodup:=(Zfg h.code).2.2.2.2.1
 have run:=Zqb (fun j i=>Z9e.l0 k j m.1 m.2.1 m.2.2 ph tr nd st dn dg v (Zb w) (i:Int) (Zh (Zd m st w)) (Zi (Zd m st w)) (Z7c (Zxb m) (Zi (Zd m st w)) (fun b=>!(Zah (Zh (Zd m st w)) dn.toNat i b)) (Zoh m w (Zh (Zd m st w)) dn.toNat))) (Zh (Zd m st w)).length (Z2t m st dn w) (fun i hi j=>?_) (fun j=>?_) k (by omega)
 ·have run:Z9e.l0 k k m.1 m.2.1 m.2.2 ph tr nd st dn dg v (Zb w) 0 (Zh (Zd m st w)) (Zi (Zd m st w)) (Z7c (Zxb m) (Zi (Zd m st w)) (fun b=>!(Zah (Zh (Zd m st w)) dn.toNat 0 b)) (Zoh m w (Zh (Zd m st w)) dn.toNat))=_:=run
  have e:Z7c (Zxb m) (Zi (Zd m st w)) (fun b=>!(Zah (Zh (Zd m st w)) dn.toNat 0 b)) (Zoh m w (Zh (Zd m st w)) dn.toNat)=Zxb m:=by
   refine Yga (Z8h _ _ _ _) fun b h1 h2=>?_
   rw [Z5r h2];have hz:Zah (Zh (Zd m st w)) dn.toNat 0 (b:Int)=false:=by simp [Zah]
   have hg:(Zxb m).getD b []=(Zxb m)[b]:=by
    rw [Yu,Yi h2];rfl
   rw [hz,hg];cases (Zi (Zd m st w)).find? (fun x=>x.2.1==(b:Int)) <;> rfl
  rw [e] at run;exact run
 ·conv=>lhs;unfold Z9e.l0
  rw [dlt hi,Zm (by omega),Xe];refine Za (Zg hi) (Za (Zg hi) ?_);dsimp only;have hstep:=Z9mb (mv:=Zh (Zd m st w)) (dn:=dn.toNat) hi;obtain ⟨q,hq,hm | hm⟩:=hF.form i _ (Yi hi)
  ·rw [Zwg hq] at hm
   by_cases c:dn.toNat≤i
   ·rw [hm]
    rw [show ((((2:Int),((q:Int),((Zi (Zd m st w))[q].2.1,(0:Int)))).1==2)&&decide (dn≤(i:Int)))=true by rw [Xa (by omega:dn≤(i:Int))];rfl,Xe];have hx:=Zuv h.code _ (Yo hq);have hto:=hx.tgt;have hat:at? (Zh (Zd m st w)) (i:Int)=some (2,((q:Int),((Zi (Zd m st w))[q].2.1,0))):=by rw [Zg hi,hm]
    have hv:(Z7c (Zxb m) (Zi (Zd m st w)) (fun b=>!(Zah (Zh (Zd m st w)) dn.toNat i b)) (Zoh m w (Zh (Zd m st w)) dn.toNat)).length=(Zxb m).length:=Z8h _ _ _ _;have hat2:=Zep (l:=Z7c (Zxb m) (Zi (Zd m st w)) (fun b=>!(Zah (Zh (Zd m st w)) dn.toNat i b)) (Zoh m w (Zh (Zd m st w)) dn.toNat)) hto.1 (by rw [hv];omega);refine Za hat (Za hat (Za hat (Za hat ?_)));refine Za (Zg hq) (Za (Zg hq) (Za (Zlfb h ph tr nd dg v hx hk) (Za hat2 (Za hat2 ?_))))
    have hset:=Z4rb (base:=Zxb m) (w:=Zi (Zd m st w)) (f:=Zah (Zh (Zd m st w)) dn.toNat i) (g:=Zah (Zh (Zd m st w)) dn.toNat (i+1)) (mk:=Zoh m w (Zh (Zd m st w)) dn.toNat) hnd hq hto.1 (by omega) (fun b=>by
     rw [hstep b,Xa c,Yh,hm];congr 1;unfold doP;rw [show (((2:Int),((q:Int),((Zi (Zd m st w))[q].2.1,(0:Int)))).1==2)=true from rfl,Yh];exact Bool.beq_comm)
    rw [hset]
   ·rw [show (((Zh (Zd m st w))[i].1==2)&&decide (dn≤(i:Int)))=false by rw [Xb (by omega:¬dn≤(i:Int)),Bool.and_false],Xf]
    have:(fun b=>!(Zah (Zh (Zd m st w)) dn.toNat (i+1) b))=fun b=>!(Zah (Zh (Zd m st w)) dn.toNat i b):=by
     funext b
     rw [hstep b,Xb c,Yda,Y6]
    rw [this]
  ·rw [show (((Zh (Zd m st w))[i].1==2)&&decide (dn≤(i:Int)))=false by rw [hm];rfl,Xf]
   have:(fun b=>!(Zah (Zh (Zd m st w)) dn.toNat (i+1) b))=fun b=>!(Zah (Zh (Zd m st w)) dn.toNat i b):=by
    funext b
    rw [hstep b,hm];simp [doP]
   rw [this]
 ·have e:Z7c (Zxb m) (Zi (Zd m st w)) (fun b=>!(Zah (Zh (Zd m st w)) dn.toNat (Zh (Zd m st w)).length b)) (Zoh m w (Zh (Zd m st w)) dn.toNat)=Z2t m st dn w:=Z3rb (Z8mb h.code (by omega)) (fun _ _=>rfl)
  conv=>lhs;unfold Z9e.l0
  rw [Zs (Ye _),e];rfl
theorem Zdob:∀a:Nat,a<256→intBits .or .u8 ((a:Nat):Int) 128=((a%128+128:Nat):Int):=by decide +kernel
theorem iput:∀(f u:Nat) (acc:List Int) (j:Nat),u<128^f→u<18446744073709551616→acc.length+f≤100→0<f→f<j+1→∃p:Int×List Int,Zfc.l1 j (u:Int) acc=some p∧p.2.length≤100∧p.2++[Ya .u8 p.1]=acc++Zkc f u
 | 0,_,_,_,_,_,_,h,_=>absurd h (by omega)
 | f+1,u,acc,0,hu,hb,hl,_,hj=>by omega
 | f+1,u,acc,j+1,hu,hb,hl,_,hj=>by
  unfold Zfc.l1
  by_cases h:128≤u
  ·have hf:0<f:=by
    rcases Nat.eq_zero_or_pos f with rfl | h'
    ·simp at hu;omega
    ·exact h'
   obtain ⟨p,e,e1,e2⟩:=iput f (u/128) (acc++[((u%128+128:Nat):Int)]) j (by rw [Y8a] at hu;exact Y6a (by rw [Nat.mul_comm];exact hu)) (by omega) (by simp;omega) hf (by omega);refine ⟨p,?_,e1,?_⟩
   ·have e3:intBits .or .u8 (Ya .u8 (u:Int)) 128=((u%128+128:Nat):Int):=by
     rw [u8w,show (u:Int)%256=((u%256:Nat):Int) by omega,Zdob _ (by omega)];congr 1;omega
    have e4:shr .u64 (u:Int) 7=((u/128:Nat):Int):=Z2i .u64 u 7 (by decide);rw [Xa (by omega:(127:Int)<(u:Int)),e3,e4];simp only [Xe];rw [Z5 (by simp;omega),Z4c (by omega)];exact e
   ·rw [e2,Yg]
    simp [Zkc,h]
  ·refine ⟨((u:Int),acc),?_,by show acc.length≤100;omega,?_⟩
   ·rw [Xb (by omega:¬((127:Int)<(u:Int)))]
    rfl
   ·show acc++[Ya .u8 (u:Int)]=_
    rw [u8w,show ((u:Int)%256)=(u:Int) by omega];simp [Zkc,h]
theorem Z3nb (a:Nat) (h:a<18446744073709551616):intBits .xor .u64 (Yra .u64) (a:Int)=((18446744073709551615-a:Nat):Int):=by
 show Ya .u64 (((Yma 64 ((18446744073709551615:Nat):Int)) ^^^ (Yma 64 (a:Int))).toNat:Int)=_
 have e:(BitVec.ofNat 64 18446744073709551615)=BitVec.allOnes 64:=by decide
 rw [Yna,Yna,e,BitVec.allOnes_xor,BitVec.toNat_not,BitVec.toNat_ofNat,Zth,Nat.mod_eq_of_lt (show a<2^64 by omega)]
 omega
theorem Za0 (n:Int) (h:Num n):Zc fun k=>Zfc k n=some (Zn n):=by
 refine Zc.ge 10 fun k hk=>?_
 have hz:=Zu8 h
 obtain ⟨p,e,e1,e2⟩:=iput 10 (zig n) [] k (by omega) hz (by simp) (by omega) (by omega)
 have hs:Zfc.j0 n (shl .u64 (Ya .u64 n) 1)=some ((zig n:Nat):Int):=by
  unfold Num at h
  have e0:shl .u64 (Ya .u64 n) 1=(2*n)%18446744073709551616:=by
   have:shl .u64 (Ya .u64 n) 1=Ya .u64 (Ya .u64 n*2):=rfl;rw [this,Zth,Zth];omega
  unfold Zfc.j0;rw [e0]
  by_cases hn:n<0
  ·rw [Xa hn,show (2*n)%18446744073709551616=((18446744073709551616+2*n).toNat:Int) by omega,Xe,Z3nb _ (by omega)]
   congr 1;unfold zig;rw [Xc hn];omega
  ·rw [Xb hn,Xf]
   congr 1;unfold zig;rw [Xd hn];omega
 unfold Zfc
 rw [Z4c (by omega),hs]
 simp only [Yb]
 rw [e]
 simp only [Yb]
 rw [Z5 (by simp;omega),e2]
 rfl
def Zmk:List Int→Str
 | []=>[]
 | n::l=>Zn n++Zmk l
theorem Z86:∀l:List Int,(Zmk l).length≤10*l.length
 | []=>Nat.zero_le _
 | n::l=>by
  have:=Zhc n;have:=Z86 l;simp only [Zmk,Yc,Ys];omega
theorem Zh5 (l:List Int) (hw:∀n∈l,Num n) (hl:l.length≤1000000):Zc fun k=>Z1d k l=some (Zmk l):=by
 have hp:Zc fun k=>∀i,i<l.length→∀n,l[i]? = some n→Zfc k n=some (Zn n):=Zc.all fun i hi=>(Za0 l[i] (hw _ (Yo hi))).mono fun k h n hn=>by
  rw [Yi hi] at hn;cases hn;exact h
 have key:∀(d i:Nat) (acc:Str),l.length-i=d→i≤l.length→acc.length≤10*i→Zc fun k=>∀j,d<j→Z1d.l0 k j acc l (l.length:Int) (i:Int)=some (acc++Zmk (l.drop i)):=by
  intro d
  induction d with
  | zero=>
   intro i acc hd hi ha;refine Zc.of fun k j hj=>?_
   obtain ⟨j,rfl⟩:∃m,j=m+1:=⟨j-1,by omega⟩;unfold Z1d.l0;rw [Xb (by omega:¬((i:Int)<(l.length:Int))),List.drop_eq_nil_of_le (by omega)];simp only [Xf,Zmk,Yn]
  | succ d ih=>
   intro i acc hd hi ha;have hlt:i<l.length:=by omega
   have:=Zhc l[i];refine (hp.and (ih (i+1) (acc++Zn l[i]) (by omega) (by omega) (by rw [Yc];omega))).mono fun k ⟨h1,h2⟩ j hj=>?_
   obtain ⟨j,rfl⟩:∃m,j=m+1:=⟨j-1,by omega⟩;unfold Z1d.l0;rw [Xa (by omega:(i:Int)<(l.length:Int)),Zg hlt];simp only [Xe,Yb];rw [h1 i hlt _ (Yi hlt)];simp only [Yb];rw [Zwc (by omega)];simp only [Yb];rw [Zm (by omega),h2 j (by omega),Yua hlt,Zmk,Yg]
 obtain ⟨K,h⟩:=key l.length 0 [] (by omega) (by omega) (by simp)
 refine Zc.ge (K+l.length+1) fun k hk=>?_
 have h:=h k (by omega) k (by omega)
 have h:Z1d.l0 k k [] l (l.length:Int) 0=some (Zmk l):=h
 unfold Z1d
 rw [h]
 rfl
theorem Zb0 (s:Str) (h:s.length≤1000000):Zc fun k=>Znj k s=some (Z3b s):=by
 refine (Za0 (s.length:Int) (by constructor <;> omega)).mono fun k e=>?_
 have:=Zhc (s.length:Int)
 unfold Znj Z3b
 rw [e]
 simp only [Yb]
 rw [Zwc (by omega)]
 rfl
def Zwt (x:Zk):Str:=Zn x.1++Zn x.2.1++Zn x.2.2.1++Z3b x.2.2.2
def Zv2 (x:Zk):Prop:=Num x.1∧Num x.2.1∧Num x.2.2.1
theorem Zmob (x y z:Int):Zmk [x,y,z]=Zn x++Zn y++Zn z:=by simp [Zmk]
theorem Zpmb (x:Zk) (hn:Zv2 x) (h:x.2.2.2.length≤8):Zc fun k=>Zmq k x=some (Zwt x):=by
 have l1:=Zhc x.1
 have l2:=Zhc x.2.1
 have l3:=Zhc x.2.2.1
 have l4:=Ztj x.2.2.2
 refine ((Zh5 [x.1,x.2.1,x.2.2.1] (by
  intro n hm;simp only [Y0,Y1,or_false] at hm;rcases hm with rfl | rfl | rfl
  ·exact hn.1
  ·exact hn.2.1
  ·exact hn.2.2) (by simp)).and (Zb0 x.2.2.2 (by omega))).mono fun k ⟨h1,h2⟩=>?_
 unfold Zmq Zwt
 rw [h1,h2,Zmob]
 simp only [Yb]
 rw [Zwc (by simp;omega)]
 rfl
abbrev Zcf:=Bool×Int×Str
def Zmi:Zcf:=(true,(0,[]))
def Zw0 (n:Int) (t:Str):Str:=Zeh (Zn n++Z3b t)
def Zmo (f:Z2) (t:Str):List Zcf:=if (Zlb f).1<1000000 then [(false,((if (Zlb f).2.2.2=0 then 1 else 0),Zw0 ((Zlb f).1+1) t)),Zmi] else []
theorem Z7l (f:Z2) (t:Str):(Zmo f t).length≤2:=by unfold Zmo;split <;> simp
theorem Zfdb (s:Str):0≤(Zwd s).1∧(Zwd s).1≤1000000:=by
 unfold Zwd
 split
 ·split
  ·split
   ·rename_i h
    have h:=h.2;unfold Zso at h;simp only [Yl,decide_eq_true_eq] at h;exact ⟨by show 0≤_;omega,h.1.2⟩
   ·simp
  ·simp
 ·simp
theorem Zv0 (f:Z2):0≤(Zlb f).1∧(Zlb f).1≤1000000:=by
 unfold Zlb
 split
 ·exact Zfdb _
 ·split
  ·exact Zfdb _
  ·simp
theorem Zzlb (n:Int) (t:Str) (hn:Num n) (ht:t.length≤80):Zc fun k=>Zjo k n t=some (Zw0 n t):=by
 have l1:=Zhc n
 have l4:=Ztj t
 refine (((Za0 n hn).and (Zb0 t (by omega))).and (Zc0 (Zn n++Z3b t) (by simp;omega))).mono fun k ⟨⟨a,b⟩,c⟩=>?_
 unfold Zjo
 exact Za a (Za b (Za (Zwc (by omega)) (Za c rfl)))
theorem Zylb {f:Z2} (h:Zhg f=true) (h2:2≤f.1.length) (t:Str) (ht:t.length≤80):Zc fun k=>Zeq k f t=some (Zmo f t):=by
 have hg:=Zv0 f
 refine ((Zf5 h h2).and (Zzlb ((Zlb f).1+1) t (by constructor <;> omega) ht)).mono fun k ⟨a,b⟩=>?_
 unfold Zeq Zmo
 refine Za a ?_
 dsimp only
 rw [w64 (n:=(Zlb f).1+1) (by omega) (by omega)]
 by_cases c:(Zlb f).1<1000000
 ·rw [Xc c,Xb (by omega:¬((1000000:Int)<(Zlb f).1+1)),Xf]
  by_cases d:(Zlb f).2.2.2=0
  ·rw [Xc d,show ((Zlb f).2.2.2==0)=true by simpa using d,Xe]
   exact Za b rfl
  ·rw [Xd d,show ((Zlb f).2.2.2==0)=false by simpa using d,Xf]
   exact Za b rfl
 ·rw [Xd c,Xa (by omega:(1000000:Int)<(Zlb f).1+1)]
  rfl
theorem Z3pb {f:Z2} (h:Zhg f=true) (h2:2≤f.1.length) (t:Str) (ht:t.length≤80):Zc fun k=>Zvr k f t=some (Zmo f t):=by
 have hg:=Zv0 f
 refine ((Z21 h h2).and (Zmfb ((Zlb f).1+1) t (by constructor <;> omega) (by omega))).mono fun k ⟨a,b⟩=>?_
 unfold Zvr Zmo
 refine Za a ?_
 dsimp only
 by_cases c:(Zlb f).1<1000000
 ·have hm:Zso ((Zlb f).1+1) t=true:=by
   unfold Zso;rw [Xa (by omega:1≤(Zlb f).1+1),Xa (by omega:(Zlb f).1+1≤1000000),Xa ht];rfl
  rw [hm,Xc rfl] at b;rw [Xc c,Xb (by omega:¬((1000000:Int)≤(Zlb f).1)),Xf,w64 (n:=(Zlb f).1+1) (by omega) (by omega)]
  by_cases d:(Zlb f).2.2.2=0
  ·rw [Xc d,show ((Zlb f).2.2.2 != 0)=false by simpa using d,Xf]
   exact Za b rfl
  ·rw [Xd d,show ((Zlb f).2.2.2 != 0)=true by simpa using d,Xe]
   exact Za b rfl
 ·rw [Xd c,Xa (by omega:(1000000:Int)≤(Zlb f).1)]
  rfl
theorem Z4z:∀(f u b:Nat),u<128^b→0<b→(Zkc f u).length≤b
 | 0,_,_,_,_=>by simp [Zkc]
 | f+1,u,b,h,hb=>by
  unfold Zkc;split
  ·rename_i h8
   obtain ⟨b,rfl⟩:∃q,b=q+1:=⟨b-1,by omega⟩;cases b with
   | zero=>simp at h;omega
   | succ b=>
    have:=Z4z f (u/128) (b+1) (by rw [Y8a] at h;exact Y6a (by omega)) (by omega);simp only [Ys];omega
  ·simp;omega
theorem Zsx {n:Int} (h0:0≤n) (h:n<64):(Zn n).length≤1:=by
 unfold Zn
 rw [Zel]
 refine Z4z 10 _ 1 ?_ (by omega)
 unfold zig
 rw [Xd (by omega)]
 omega
theorem Z5db {n:Nat} (h:n<16777216):(Zn (n:Int)).length≤4:=by
 unfold Zn
 rw [Zel]
 refine Z4z 10 _ 4 ?_ (by omega)
 unfold zig
 rw [Xd (by omega)]
 omega
structure Keep (a b c d e:Int) (x:Str) (v w:Nat):Prop where
 a:0≤a∧a<64
 b:0≤b∧b<64
 c:0≤c∧c<64
 d:0≤d∧d<64
 e:0≤e∧e<64
 x:x.length≤32
 v:v<16777216
 w:w<16777216
theorem Znn {n:Int} (h:0≤n∧n<64):Num n:=by constructor <;> omega
theorem Keep.len {a b c d e:Int} {x:Str} {v w:Nat} (h:Keep a b c d e x v w):(Zee (a,b,c,d,e,(v:Int),(w:Int),x)).length≤80:=by
 have h1:=Zsx h.a.1 h.a.2
 have h2:=Zsx h.b.1 h.b.2
 have h3:=Zsx h.c.1 h.c.2
 have h4:=Zsx h.d.1 h.d.2
 have h5:=Zsx h.e.1 h.e.2
 have h6:=Z5db h.v
 have h7:=Z5db h.w
 have h8:=Ztj x
 have hx:=h.x
 unfold Zee
 simp only [Yc]
 omega
theorem Zlmb {a b c d e:Int} {x:Str} {v w:Nat} (h:Keep a b c d e x v w):Zc fun k=>Zko k (stT a b c d e x v w)=some (Zee (a,b,c,d,e,(v:Int),(w:Int),x)):=by
 have hx:=h.x
 have hp:=Z86 [a,b,c,d,e,(v:Int),(w:Int)]
 simp only [Ys,Yia] at hp
 have h8:=Ztj x
 refine (((Zh5 [a,b,c,d,e,(v:Int),(w:Int)] (fun n hn=>?_) (by simp)).and (Zb0 x (by omega))).and (Zc.ge 100 fun k hk=>hk)).mono fun k ⟨⟨q1,q2⟩,hk⟩=>?_
 ·simp only [Y0,Y1,or_false] at hn
  rcases hn with rfl | rfl | rfl | rfl | rfl | rfl | rfl
  ·exact Znn h.a
  ·exact Znn h.b
  ·exact Znn h.c
  ·exact Znn h.d
  ·exact Znn h.e
  ·exact Z6u h.v
  ·exact Z6u h.w
 ·unfold Zko stT
  refine Za (Zup v h.v k (by omega)) (Za (Zup w h.w k (by omega)) (Za q1 (Za q2 (Za (Zwc (by omega)) ?_))));unfold Zee;simp only [Zmk,Yg,Yn]
def Zne (f:Z2) (a b c d e:Int) (x:Str) (v w:Nat):List Zcf:=Zmo f (Zee (a,b,c,d,e,(v:Int),(w:Int),x))
theorem Zfk {m:Zp} (hf:Zhg m.2=true) (h2:2≤m.2.1.length) {a b c d e:Int} {x:Str} {v w:Nat} (h:Keep a b c d e x v w):Zc fun k=>Zke k m (a,b,c,d,e,x,Zb v,Zb w)=some (Zne m.2 a b c d e x v w):=by
 refine ((Zlmb h).and (Zylb hf h2 _ h.len)).mono fun k ⟨q1,q2⟩=>?_
 have q1:Zko k (a,b,c,d,e,x,Zb v,Zb w)=_:=q1
 unfold Zke
 exact Za q1 (Za q2 rfl)
theorem Zrk {m:Zp} (hf:Zhg m.2=true) (h2:2≤m.2.1.length) {a b c d e:Int} {x:Str} {v w:Nat} (h:Keep a b c d e x v w):Zc fun k=>Z8e k m (a,b,c,d,e,x,Zb v,Zb w)=some (Zne m.2 a b c d e x v w):=by
 have hx:=h.x
 refine ((sL12 a b c d e x v w (Znn h.a) (Znn h.b) (Znn h.c) (Znn h.d) (Znn h.e) h.v h.w (by omega)).and (Z3pb hf h2 _ h.len)).mono fun k ⟨q1,q2⟩=>?_
 have q1:Zom k (a,b,c,d,e,x,Zb v,Zb w)=_:=q1
 unfold Z8e
 exact Za q1 (Za q2 rfl)
def Zdm (n a:Int) (t:Str):Str:=Zn n++Zn a++Z3b t
def Zlk (n a:Int) (t:Str):Str:=Zeh (Zdm n a t)
def Zln (n a:Int) (t:Str):Bool:=(decide (0≤n)&&decide (n≤1000000))&&((decide (0≤a)&&decide (a≤39))&&decide (t.length=8))
theorem Zmx {n a:Int} {t:Str}:Zln n a t=true ↔ (0≤n∧n≤1000000)∧(0≤a∧a≤39)∧t.length=8:=by
 unfold Zln
 simp only [Yl,decide_eq_true_eq]
theorem Zmdb (n a:Int) (t:Str):(Zdm n a t).length≤30+t.length:=by
 have:=Zhc n
 have:=Zhc a
 have:=Ztj t
 unfold Zdm
 simp only [Yc]
 omega
theorem Z2lb (n a:Int) (t:Str) (hn:Num n) (ha:Num a) (ht:t.length≤8000):Zc fun k=>Zfq k n a t=some (Zlk n a t):=by
 have l:=Zmdb n a t
 have hp:=Z86 [n,a]
 simp only [Ys,Yia] at hp
 have h4:=Ztj t
 refine (((Zh5 [n,a] (fun z hz=>?_) (by simp)).and (Zb0 t (by omega))).and (Zc0 (Zdm n a t) (by omega))).mono fun k ⟨⟨q1,q2⟩,q3⟩=>?_
 ·simp only [Y0,Y1,or_false] at hz
  rcases hz with rfl | rfl
  ·exact hn
  ·exact ha
 ·have e:Zmk [n,a]++Z3b t=Zdm n a t:=by simp only [Zmk,Zdm,Yg,Yn]
  unfold Zfq;refine Za q1 (Za q2 (Za (Zwc (by omega)) ?_));rw [e];exact Za q3 rfl
theorem Zofb (n a:Int) (t:Str) (hn:Num n) (ha:Num a) (ht:t.length≤8000):Zc fun k=>Zlm k n a t=some (if Zln n a t=true then Zlk n a t else []):=by
 have W1:Z7 n 0 1000000=some (decide (0≤n)&&decide (n≤1000000)):=rfl
 have W2:Z7 a 0 39=some (decide (0≤a)&&decide (a≤39)):=rfl
 have l1:=Zhc n
 have l2:=Zhc a
 have l4:=Ztj t
 by_cases hB:Zln n a t=true
 ·obtain ⟨h1,h2,h3⟩:=Zmx.1 hB
  have l:=Zmdb n a t;refine ((((Zaj n hn).and (Zaj a ha)).and (Z41 t ht)).and (Zu7 (Zdm n a t) (by omega))).mono fun k ⟨⟨⟨q1,q2⟩,q3⟩,q4⟩=>?_
  rw [Xc hB];unfold Zlm;refine Za W1 ?_;rw [Xa h1.1,Xa h1.2,Y4,Yf,Xf];refine Za W2 ?_;rw [Xa h2.1,Xa h2.2,show (((t.length:Nat):Int) != 8)=false by rw [h3];rfl,Y4,Yf,Bool.or_self,Xf];refine Za q1 (Za q2 (Za (Zwc (by omega)) (Za q3 (Za (Zwc (by simp;omega)) (Za q4 rfl)))))
 ·refine Zc.of fun k=>?_
  rw [Xd hB];unfold Zln at hB;unfold Zlm;refine Za W1 ?_;cases c1:decide (0≤n)&&decide (n≤1000000) with
  | false=>rfl
  | true=>
   rw [Yf,Xf];refine Za W2 ?_;rw [c1,Yh] at hB
   have:(!(decide (0≤a)&&decide (a≤39))||(((t.length:Nat):Int) != 8))=true:=by
    cases c2:decide (0≤a)&&decide (a≤39) with
    | false=>rfl
    | true=>
     rw [c2,Yh] at hB;have h8:t.length≠8:=fun q=>hB (Xa q)
     simp;omega
   rw [this];rfl
def Zmn (s:Str):Option ((Int×Int×Str)×Nat):=(Zrb s 0).bind fun x=>(Zrb s x.2).bind fun y=>(Z4g s y.2).map fun t=>((x.1,(y.1,t.1)),t.2)
theorem Z6nb {s:Str} {n a:Int} {t:Str} {d:Nat} (h:Zmn s=some ((n,(a,t)),d)):Num n∧Num a∧t.length≤8000∧(Zdm n a t=s ↔ d=s.length):=by
 unfold Zmn at h
 obtain ⟨⟨n1,a1⟩,h1,h⟩:=Y2.1 h
 obtain ⟨⟨n2,a2⟩,h2,h⟩:=Y2.1 h
 obtain ⟨⟨t',d'⟩,h8,h⟩:=Yab.1 h
 simp only [Prod.mk.injEq] at h
 obtain ⟨⟨x1,x2,x3⟩,x4⟩:=h
 replace x1:=x1.symm
 replace x2:=x2.symm
 replace x3:=x3.symm
 replace x4:=x4.symm
 subst x1 x2 x3 x4
 have g1:=Z8i h1
 have g2:=Z8i h2
 have g3:=Zf8 h8
 refine ⟨g1.range,g2.range,g3.size,?_⟩
 have e0:s=Zn n++(Zn a++(Z3b t++s.drop d)):=by
  have q:=g1.eq;rw [Yt,g2.eq,g3.eq] at q;exact q
 have p1:=g1.at'
 have p2:=g2.at'
 have p3:=g3.at'
 dsimp only at p1 p2 p3
 constructor
 ·intro q
  have hl:=congrArg Yha q;unfold Zdm at hl;simp only [Yc] at hl;omega
 ·intro q
  rw [q,Y9,Yn] at e0;unfold Zdm;rw [Yg];exact e0.symm
theorem Z7nb:Zmn []=none:=rfl
def Zx2 (s:Str) (v4 v5:Int×Str×Int×Bool) (v6:Str×Str×Int×Bool):Prop:=(∃n a t,∃d:Nat,Zmn s=some ((n,(a,t)),d)∧v4.1=n∧v5.1=a∧v6=(t,(s,((d:Int),false))))∨(Zmn s=none∧v6.2.2.2=true)
theorem Zmeb {s:Str} {v4 v5:Int×Str×Int×Bool} {v6:Str×Str×Int×Bool} (h4:StS s v4.2 (Zf s (some 0))) (g4:∀a n a',(some 0:Option Nat)=some a→Zrb s a=some (n,a')→v4.1=n)
  (h5:StS s v5.2 (Zf s (Zf s (some 0)))) (g5:∀a n a',Zf s (some 0)=some a→Zrb s a=some (n,a')→v5.1=n) (h6:StS s v6.2 (Zeb s (Zf s (Zf s (some 0))))) (g6:∀a n a',Zf s (Zf s (some 0))=some a→Z4g s a=some (n,a')→v6.1=n):Zx2 s v4 v5 v6:=by
 have bad:StS s v6.2 none→v6.2.2.2=true:=fun h=>h.2.choose_spec.2.2
 cases x1:Zrb s 0 with
 | none=>
  refine .inr ⟨by simp [Zmn,x1],bad ?_⟩;have:Zeb s (Zf s (Zf s (some 0)))=none:=by simp [Zf,Zeb,x1]
  rwa [this] at h6
 | some y1=>
  obtain ⟨n1,a1⟩:=y1;have p1:Zf s (some 0)=some a1:=by simp [Zf,x1]
  cases x2:Zrb s a1 with
  | none=>
   refine .inr ⟨by simp [Zmn,x1,x2],bad ?_⟩;have:Zeb s (Zf s (Zf s (some 0)))=none:=by simp [Zf,Zeb,x1,x2]
   rwa [this] at h6
  | some y2=>
   obtain ⟨n2,a2⟩:=y2;have p2:Zf s (Zf s (some 0))=some a2:=by simp [Zf,x1,x2]
   cases x3:Z4g s a2 with
   | none=>
    refine .inr ⟨by simp [Zmn,x1,x2,x3],bad ?_⟩;have:Zeb s (Zf s (Zf s (some 0)))=none:=by simp [Zf,Zeb,x1,x2,x3]
    rwa [this] at h6
   | some y3=>
    obtain ⟨t,d⟩:=y3;have p3:Zeb s (Zf s (Zf s (some 0)))=some d:=by simp [Zf,Zeb,x1,x2,x3]
    refine .inl ⟨n1,n2,t,d,by simp [Zmn,x1,x2,x3],g4 _ _ _ rfl x1,g5 _ _ _ p1 x2,?_⟩;have r6:=g6 _ _ _ p2 x3;rw [p3] at h6;rcases h6.form with ⟨b,e,_,q⟩ | ⟨b,e,_,q⟩
    ·cases e
     rw [← r6,← q]
    ·cases e
theorem Zigb (s:Str):StS s (s,(((0:Nat):Int),false)) (some 0):=⟨rfl,0,rfl,by omega,rfl,rfl⟩
theorem Z9lb (s:Str) (hs:s.length≤8000):∃v4 v5 v6,(Zc fun k=>Zgc k (s,(0,false))=some v4∧Zgc k v4.2=some v5∧Z8g k v5.2=some v6)∧Zx2 s v4 v5 v6:=by
 obtain ⟨v4,q4,h4,g4⟩:=Zgk hs (Zigb s)
 obtain ⟨v5,q5,h5,g5⟩:=Zgk hs h4
 obtain ⟨v6,q6,h6,g6⟩:=Zi5 hs h5
 exact ⟨v4,v5,v6,((q4.and q5).and q6).mono fun k h=>⟨h.1.1,h.1.2,h.2⟩,Zmeb h4 g4 h5 g5 h6 g6⟩
theorem Z9pb (s:Str) (hs:s.length≤8000):∃v4 v5 v6,(Zc fun k=>Zdc k (s,(0,false))=some v4∧Zdc k v4.2=some v5∧Z5h k v5.2=some v6)∧Zx2 s v4 v5 v6:=by
 obtain ⟨v4,q4,h4,g4⟩:=Zpn hs (Zigb s)
 obtain ⟨v5,q5,h5,g5⟩:=Zpn hs h4
 obtain ⟨v6,q6,h6,g6⟩:=Zxfb hs h5
 exact ⟨v4,v5,v6,((q4.and q5).and q6).mono fun k h=>⟨h.1.1,h.1.2,h.2⟩,Zmeb h4 g4 h5 g5 h6 g6⟩
def Znd (s:Str) (n:Int):Zcf:=if (Zyc s).2=0 then match Zmn (Zl s) with
  | some ((n',(a,t)),d)=>if (d=(Zl s).length∧n'=n)∧Zln n a t=true then (false,(a,t)) else Zmi
  | none=>Zmi
 else Zmi
theorem Zo6 (s:Str) (n:Int) (h:(Znd s n).1=false):0≤(Znd s n).2.1∧(Znd s n).2.1≤39:=by
 unfold Znd at h ⊢
 split at h
 ·rename_i q
  rw [Xc q];split at h
  ·split at h
   ·rename_i q2
    rw [Xc q2];exact (Zmx.1 q2.2).2.1
   ·cases h
  ·cases h
 ·cases h
theorem Z3lb (s:Str) (hs:s.length≤8000) (n:Int):Zc fun k=>Zgq k s n=some (Znd s n):=by
 have hl:=Z7gb s
 obtain ⟨v4,v5,v6,hE,h3⟩:=Z9lb (Zyc s).1 (by omega)
 refine ((Zsu s (by omega)).and hE).mono fun k ⟨u,q4,q5,q6⟩=>?_
 have hT:Zyi n=some (decide (0≤n)&&decide (n≤1000000)):=rfl
 unfold Zgq Znd
 refine Za u (Za q4 (Za q5 (Za q6 ?_)))
 by_cases hu:(Zyc s).2=0
 ·obtain ⟨e1,e2,_⟩:=Ztv hu
  have e0:(Zyc s).1=Zl s:=by rw [e1]
  rw [Xc hu,show ((Zyc s).2 != 0)=false by simpa using hu,e0];rw [e0] at h3;rcases h3 with ⟨n',a,t,d,hz,h4,h5,h6⟩ | ⟨hz,hb⟩
  ·rw [hz,h6,h4]
   dsimp only;have hW:Z3 v5.1 0 39=some (decide (0≤v5.1)&&decide (v5.1≤39)):=rfl;rw [h5] at hW ⊢
   by_cases cd:d=(Zl s).length
   ·by_cases cn:n'=n
    ·rw [show ((((false||false)||(((d:Nat):Int) != ((Zl s).length:Int))))||(n' != n))=false by rw [cd,cn];simp,Xf]
     refine Za hT ?_;unfold Zln;cases c1:decide (0≤n)&&decide (n≤1000000) with
     | false=>
      rw [Xd (fun q=>by cases q.2)];rfl
     | true=>
      rw [Yf,Xf];refine Za hW ?_;cases c2:decide (0≤a)&&decide (a≤39) with
      | false=>
       rw [Xd (fun q=>by cases q.2)];rfl
      | true=>
       by_cases c8:t.length=8
       ·rw [Xc ⟨⟨cd,cn⟩,by rw [Xa c8];rfl⟩,show (((t.length:Nat):Int) != 8)=false by rw [c8];rfl]
        rfl
       ·rw [Xd (fun q=>by rw [Xb c8] at q;cases q.2),show (((t.length:Nat):Int) != 8)=true by simp;omega]
        rfl
    ·rw [Xd (fun q=>cn q.1.2),show (n' != n)=true by simpa using cn,Yx]
     rfl
   ·rw [Xd (fun q=>cd q.1.1),show (((d:Nat):Int) != ((Zl s).length:Int))=true by simp;omega]
    simp only [Yx,Yea,Xe];rfl
  ·rw [hz,hb]
   simp only [Yx,Yea,Xe];rfl
 ·rw [Xd hu,show ((Zyc s).2 != 0)=true by simpa using hu]
  simp only [Yea,Xe];rfl
theorem Z5pb (s:Str) (hs:s.length≤8000) (n:Int):Zc fun k=>Zun k s n=some (Znd s n):=by
 have hl:=Z7gb s
 obtain ⟨v4,v5,v6,hE,h3⟩:=Z9pb (Zyc s).1 (by omega)
 by_cases hu:(Zyc s).2=0
 ·obtain ⟨e1,e2,e3⟩:=Ztv hu
  have e0:(Zyc s).1=Zl s:=by rw [e1]
  rw [e0] at h3;rcases h3 with ⟨n',a,t,d,hz,h4,h5,h6⟩ | ⟨hz,hb⟩
  ·obtain ⟨r1,r2,r3,r4⟩:=Z6nb hz
   refine (((Zhm s hs).and hE).and (Zofb n' a t r1 r2 r3)).mono fun k ⟨⟨u,q4,q5,q6⟩,q7⟩=>?_
   unfold Zun Znd;refine Za u (Za q4 (Za q5 (Za q6 ?_)));rw [Xc hu,hz,h6,h4,h5];dsimp only;rw [show (false||(s==[]))=false by cases s with | nil=>simp at e3 | cons _ _=>rfl,Xf];refine Za q7 ?_
   by_cases cn:n'=n
   ·subst cn
    rw [show (n' != n')=false by simp,Y6]
    by_cases cB:Zln n' a t=true
    ·rw [Xc cB]
     by_cases cd:d=(Zl s).length
     ·have:Zlk n' a t=s:=by
       unfold Zlk;rw [r4.2 cd,e2]
      rw [Xc ⟨⟨cd,rfl⟩,cB⟩,this,show (s==s)=true by simp];rfl
     ·have:Zlk n' a t≠s:=fun q=>by
       unfold Zlk at q;rw [← e2] at q;exact cd (r4.1 (Z4fb.1 q))
      rw [Xd (fun q=>cd q.1.1),show (Zlk n' a t==s)=false by simpa using this];rfl
    ·rw [Xd cB,Xd (fun q=>cB q.2),show (([]:Str)==s)=false by cases s with | nil=>simp at e3 | cons _ _=>rfl]
     rfl
   ·rw [show (n' != n)=true by simpa using cn,Yx,Xd (fun (q:(d=(Zl s).length∧n'=n)∧Zln n a t=true)=>cn q.1.2)]
    rfl
  ·refine ((Zhm s hs).and hE).mono fun k ⟨u,q4,q5,q6⟩=>?_
   unfold Zun Znd;refine Za u (Za q4 (Za q5 (Za q6 ?_)));rw [Xc hu,hz,hb];rfl
 ·have e0:=Zyrb hu
  rw [e0] at h3;rcases h3 with ⟨n',a,t,d,hz,_⟩ | ⟨hz,hb⟩
  ·rw [Z7nb] at hz
   cases hz
  ·refine ((Zhm s hs).and hE).mono fun k ⟨u,q4,q5,q6⟩=>?_
   unfold Zun Znd;refine Za u (Za q4 (Za q5 (Za q6 ?_)));rw [Xd hu,hb];rfl
end Go.Proofs.Qz
