/- What the law FnMachine needs, part 12 of 16: the Lean functions of the Go functions that it reaches, with the proofs that the calls come to what they say, and plain facts about them. Conditions: those that each theorem states. Written by a session and by its programs (after the kit's printer). -/
import Derived.Test.YtmohoeinamddcaaGreatXFnMachine10
open Option renaming bind_some → Ya, bind_eq_some_iff → Yn, some → Yja, map_eq_some_iff → Y9a
open Bool renaming not_true → Yb, and_eq_true → Yf, and_self → Yh, true_and → Yj, and_eq_false_iff → Yr, false_or → Ys, or_self → Yx, eq_iff_iff → Y2, false_ne_true → Y3, or_eq_true → Y4, eq_false_iff → Y9, false_eq_true → Yaa, not_eq_false' → Yfa, not_eq_true' → Yla
open List renaming getD_eq_getElem?_getD → Yc, getElem?_eq_getElem → Yd, range → Yg, getElem_mem → Yl, length_append → Ym, append_assoc → Yp, mem_range → Yq, all_eq_true → Yt, append_nil → Yu, drop_zero → Yv, length_map → Yz, replicate → Y0, take_length → Y1, drop_length → Y5, length_take → Y6, mem_filter → Y7, mem_iff_getElem → Y8, any_eq_true → Yba, drop_drop → Yca, drop_left → Yda, getElem_take → Yga, length → Yha, mem_map → Yia, append_cancel_left_eq → Yma, filter_append → Yna, filter_cons_of_neg → Yoa, filter_cons_of_pos → Ypa, length_drop → Yqa, length_filter_le → Yra, mem_cons_self → Ysa, mem_reverse → Yta, pairwise_iff_getElem → Yua, range_succ → Yva, reverse_cons → Ywa, take_left → Yxa, take_prefix → Yya
open Nat renaming le_refl → Ye, pow_le_pow_right → Yea, add_zero → Yza, lt_of_le_of_lt → Y0a, min_eq_left → Y1a, mod_eq_of_lt → Y2a, pow_succ → Y3a, sub_self → Y4a, testBit_and → Y5a, testBit_eq_decide_div_mod_eq → Y6a, zero_add → Y7a, zero_testBit → Y8a
open Int renaming toNat_natCast → Yi, toNat_of_nonneg → Yy
open BitVec renaming ofInt → Yk, toNat_ofInt → Yw, toNat_and → Yka
open Go.IntKind renaming wrap → Yo
namespace Go.Proofs.Qz
open Go
set_option linter.unusedVariables false
def xb (a b:Str) (i:Nat):Int:=intBits .xor .u8 ((a.getD i 0).toNat:Int) ((b.getD i 0).toNat:Int)
def Zy1 (a b:Str):Str:=Ztb ((Yg 8).map (xb a b))
def Z3s (a b:Str):Str:=if a.length=8∧b.length=8 then Zy1 a b else []
theorem Zh2 {s:Str} {i:Nat} (h:i<s.length):at? s (i:Int)=some (s.getD i 0):=by
 rw [Zh h,Yc,Yd h]
 rfl
theorem Zkmb {a b:Str} (ha:a.length=8) (hb:b.length=8) {k:Nat} (hk:10≤k):Zbg k a b=some (Zy1 a b):=by
 have hbl:(Zgb a).length=8:=by rw [Zx2,ha]
 have run:=Zrc (fun j i=>Zbg.l0 j b ((Zgb a).length:Int) (i:Int) ((Yg i).map (xb a b)++(Zgb a).drop i)) 8 ((Yg 8).map (xb a b)) (fun i hi j=>?_) (fun j=>?_) k (by omega)
 ·have run:Zbg.l0 k b ((Zgb a).length:Int) 0 (Zgb a)=some ((Yg 8).map (xb a b)):=run
  unfold Zbg;exact Za (Zk6 (by omega)) (Za run rfl)
 ·have hl:=Z0cb (Zgb a) (xb a b) i (by omega)
  have hat:at? ((Yg i).map (xb a b)++(Zgb a).drop i) (i:Int)=some ((a.getD i 0).toNat:Int):=by
   rw [Zh (by rw [hl];omega)];rw [List.getElem_append_right (by simp)];simp only [Yz,List.length_range,Y4a,List.getElem_drop,Yza];unfold Zgb;rw [List.getElem_map,Yc,Yd (by omega)];rfl
  conv=>lhs;unfold Zbg.l0
  rw [Xa (by omega:(i:Int)<((Zgb a).length:Int)),Zs (by omega),Xe];refine Za hat (Za hat (Za (Zh2 (by omega)) (Za hat (Za hat ?_))));have:=Z1cb (Zgb a) (xb a b) i (by omega);rw [Yi,show intBits .xor .u8 ((a.getD i 0).toNat:Int) ((b.getD i 0).toNat:Int)=xb a b i from rfl,this]
 ·conv=>lhs;unfold Zbg.l0
  rw [hbl,List.drop_of_length_le (by omega),Yu];rfl
theorem Zbrb (a b:Str) {k:Nat} (hk:10≤k):Z2d k a b=some (Z3s a b):=by
 unfold Z3s Z2d
 by_cases h:a.length=8∧b.length=8
 ·obtain ⟨ha,hb⟩:=h
  rw [Xc ⟨ha,hb⟩,show (((a.length:Int) != 8)||((b.length:Int) != 8))=false by rw [ha,hb];rfl,Xf];have hm:Z9g 1 8 8 (0:Int)=some (Y0 8 0):=rfl;have run:=Zrc (fun j i=>Z2d.l0 j a b (i:Int) ((Yg i).map (xb a b)++(Y0 8 (0:Int)).drop i)) 8 ((Yg 8).map (xb a b)) (fun i hi j=>?_) (fun j=>?_) k (by omega)
  ·have run:Z2d.l0 k a b 0 (Y0 8 0)=some ((Yg 8).map (xb a b)):=run
   exact Za hm (Za run rfl)
  ·have hl:=Z0cb (Y0 8 (0:Int)) (xb a b) i (by simp;omega)
   rw [List.length_replicate] at hl;obtain ⟨z,hat⟩:∃z,at? ((Yg i).map (xb a b)++(Y0 8 (0:Int)).drop i) (i:Int)=some z:=⟨_,Zh (by rw [hl];exact hi)⟩
   conv=>lhs;unfold Z2d.l0
   rw [Xa (by omega:(i:Int)<8),Zs (by omega),Xe];refine Za (Zh2 (by omega)) (Za (Zh2 (by omega)) (Za hat (Za hat ?_)));have:=Z1cb (Y0 8 (0:Int)) (xb a b) i (by simp;omega);rw [Yi,show intBits .xor .u8 ((a.getD i 0).toNat:Int) ((b.getD i 0).toNat:Int)=xb a b i from rfl,this]
  ·conv=>lhs;unfold Z2d.l0
   rfl
 ·rw [Xd h,show (((a.length:Int) != 8)||((b.length:Int) != 8))=true by
   rw [Y4]
   by_cases ha:a.length=8
   ·right;simp;omega
   ·left;simp;omega]
  rfl
def Z87:Str:=[0,0,0,0,0,0,0,0]
def Zah (x:Zi) (s:Str):Str:=if x.1=1 then Z87 else if x.1=2 then x.2.2.2 else if x.1=3 then s else Z3s s x.2.2.2
theorem Z50 (x:Zi) (s:Str) {k:Nat} (hk:10≤k):Zhj k x s=some (Zah x s):=by
 have hz:Z5o=some Z87:=rfl
 unfold Zhj Zah
 by_cases h1:x.1=1
 ·rw [Xc h1,show (x.1==1)=true by simpa using h1]
  exact Za hz rfl
 ·rw [Xd h1,show (x.1==1)=false by simpa using h1,Xf]
  by_cases h2:x.1=2
  ·rw [Xc h2,show (x.1==2)=true by simpa using h2]
   rfl
  ·rw [Xd h2,show (x.1==2)=false by simpa using h2,Xf]
   by_cases h3:x.1=3
   ·rw [Xc h3,show (x.1==3)=true by simpa using h3]
    rfl
   ·rw [Xd h3,show (x.1==3)=false by simpa using h3,Xf]
    exact Za (Zbrb _ _ hk) rfl
theorem Zd4 {x:Zi} {s:Str} (h:x.1=1∨x.1=2∨x.1=3∨(s.length=8∧x.2.2.2.length=8)) {k:Nat} (hk:10≤k):Zgn k x s=some (Zah x s):=by
 unfold Zgn Zah
 by_cases h1:x.1=1
 ·rw [Xc h1,show (x.1==1)=true by simpa using h1]
  rfl
 ·rw [Xd h1,show (x.1==1)=false by simpa using h1,Xf]
  by_cases h2:x.1=2
  ·rw [Xc h2,show (x.1==2)=true by simpa using h2]
   rfl
  ·rw [Xd h2,show (x.1==2)=false by simpa using h2,Xf]
   by_cases h3:x.1=3
   ·rw [Xc h3,show (x.1==3)=true by simpa using h3]
    rfl
   ·rw [Xd h3,show (x.1==3)=false by simpa using h3,Xf]
    obtain ⟨a,b⟩:s.length=8∧x.2.2.2.length=8:=by
     rcases h with h | h | h | h
     ·exact absurd h h1
     ·exact absurd h h2
     ·exact absurd h h3
     ·exact h
    refine Za (Zkmb a b hk) ?_;unfold Z3s;rw [Xc ⟨a,b⟩]
structure WriteOk (x:Zi) (n:Int):Prop where
 kind:x.1=1∨x.1=2∨x.1=3∨(x.1=4∧x.2.2.2.length=8)
 tgt:0≤x.2.1∧x.2.1<n
 src:0≤x.2.2.1∧x.2.2.1<n
theorem Z3u {l:List Zi} {n:Int} (h:Zab l n=0):∀x∈Zg l,WriteOk x n:=by
 intro x hx
 obtain ⟨_,h1,_,hs,_⟩:=Zvg h
 unfold Zg at hx
 obtain ⟨hx,hw⟩:=Y7.1 hx
 have h5:x.1≠5:=by unfold isW at hw;simpa using hw
 have hs:=hs x hx
 unfold Znf Z6c at hs
 split at hs
 ·rename_i q
  simp only [Yf,decide_eq_true_eq] at hs;exact ⟨.inl q,by omega,by omega⟩
 ·split at hs
  ·rename_i q
   simp only [Yf,decide_eq_true_eq] at hs;exact ⟨.inr (.inl q),by omega,by omega⟩
  ·split at hs
   ·rename_i q
    simp only [Yf,decide_eq_true_eq] at hs;exact ⟨.inr (.inr (.inl q)),by omega,by omega⟩
   ·split at hs
    ·rename_i q
     simp only [Yf,decide_eq_true_eq] at hs;exact ⟨.inr (.inr (.inr ⟨q,by omega⟩)),by omega,by omega⟩
    ·cases hs
def Zqf (base:List Str) (l:List Zi):List Str:=Zpd base (Zg l) (fun _=>false) fun x=>Zah x (base.getD x.2.2.1.toNat [])
theorem Ztr {l:List Str} {n:Int} (h0:0≤n) (h1:n<(l.length:Int)):at? l n=some (l.getD n.toNat []):=by
 obtain ⟨i,rfl⟩:∃i:Nat,n=(i:Int):=⟨n.toNat,by omega⟩
 rw [Zh (by omega),Yc,Yi,Yd (by omega)]
 rfl
theorem Z23 {l:List Str} {n:Nat} (h:n<l.length):l.getD n []∈l:=by
 rw [Yc,Yd h]
 exact Yl h
theorem Zilb {base:List Str} {l:List Zi} {n:Int} (hc:Zab l n=0) (hb:(base.length:Int)=n) (h8:∀s∈base,s.length=8) {k:Nat} (hk:100≤k):Z8f k base l=some (Zqf base l):=by
 obtain ⟨hl,h1,h2,_,hnd,_⟩:=Zvg hc
 have hw:(Zg l).length≤l.length:=Yra _ _
 have hcl:slices_Clone_string base=some base:=by
  unfold slices_Clone_string;exact Za (Z6 (by simp;omega)) rfl
 have run:=Zrc (fun j i=>Z8f.l0 k j base ((Zg l).length:Int) (i:Int) (Zpd base ((Zg l).take i) (fun _=>false) fun x=>Zah x (base.getD x.2.2.1.toNat [])) (Zg l)) (Zg l).length (Zqf base l) (fun i hi j=>?_) (fun j=>?_) k (by omega)
 ·have run:Z8f.l0 k k base ((Zg l).length:Int) 0 (Zpd base [] (fun _=>false) fun x=>Zah x (base.getD x.2.2.1.toNat [])) (Zg l)=some (Zqf base l):=run
  rw [Z27] at run;unfold Z8f;exact Za hcl (Za (Zk4 l (by omega) k (by omega)) (Za run rfl))
 ·have hx:=Z3u hc _ (Yl hi)
  have hsrc:=hx.src;have hto:=hx.tgt;have hv:(Zpd base ((Zg l).take i) (fun _=>false) fun x=>Zah x (base.getD x.2.2.1.toNat [])).length=base.length:=Zsh _ _ _ _;have hs8:=h8 _ (Z23 (l:=base) (n:=(Zg l)[i].2.2.1.toNat) (by omega));have hat:=Ztr (l:=Zpd base ((Zg l).take i) (fun _=>false) fun x=>Zah x (base.getD x.2.2.1.toNat [])) hto.1 (by rw [hv];omega)
  conv=>lhs;unfold Z8f.l0
  rw [dlt hi,Zs (by omega),Xe];refine Za (Zh hi) (Za (Zh hi) (Za (Ztr hsrc.1 (by omega)) (Za (Zd4 (by rcases hx.kind with q | q | q | q;exact .inl q;exact .inr (.inl q);exact .inr (.inr (.inl q));exact .inr (.inr (.inr ⟨hs8,q.2⟩))) (by omega)) (Za hat (Za hat ?_)))));rw [Z37 hnd hi hto.1 (by omega),Xd Y3]
 ·conv=>lhs;unfold Z8f.l0
  rw [Z8 (Ye _),Y1];rfl
theorem Zxpb {base:List Str} {l:List Zi} {n:Int} (hc:Zab l n=0) (hb:(base.length:Int)=n) {k:Nat} (hk:100≤k):Zgd k base l=some (Zqf base l):=by
 obtain ⟨hl,h1,h2,_,hnd,_⟩:=Zvg hc
 have run:=Zrc (fun j i=>Zgd.l0 k j base l (i:Int) (Zpd base (Zg (l.take i)) (fun _=>false) fun x=>Zah x (base.getD x.2.2.1.toNat []))) l.length (Zqf base l) (fun i hi j=>?_) (fun j=>?_) k (by omega)
 ·have run:Zgd.l0 k k base l 0 (Zpd base [] (fun _=>false) fun x=>Zah x (base.getD x.2.2.1.toNat []))=some (Zqf base l):=run
  rw [Z27] at run;have ha:Zw 16 ([]:List Str) base=some base:=Z6 (by simp;omega);unfold Zgd;exact Za ha (Za run rfl)
 ·have hv:(Zpd base (Zg (l.take i)) (fun _=>false) fun x=>Zah x (base.getD x.2.2.1.toNat [])).length=base.length:=Zsh _ _ _ _
  have ht:Zg (l.take (i+1))=if isW l[i] then Zg (l.take i)++[l[i]] else Zg (l.take i):=by
   unfold Zg;rw [Zjj hi,Yna];cases h:isW l[i] with
   | true=>rw [Xc rfl,Ypa h];rfl
   | false=>rw [Xd Y3,Yoa (by rw [h];exact Y3)];simp
  have hpre:Zg (l.take i) <+: Zg l:=by
   unfold Zg;exact (Yya i l).filter _
  conv=>lhs;unfold Zgd.l0
  rw [dlt hi,Zs (by omega),Xe];refine Za (Zh hi) ?_;dsimp only;rw [ht];cases hw:isW l[i] with
  | false=>
   have h5:l[i].1=5:=by unfold isW at hw;simpa using hw
   rw [show (l[i].1 != 5)=false by simpa using h5,Xd Y3];rfl
  | true=>
   have h5:l[i].1≠5:=by unfold isW at hw;simpa using hw
   have hx:=Z3u hc l[i] (Y7.2 ⟨Yl hi,hw⟩);have hsrc:=hx.src;have hto:=hx.tgt;have hat:=Ztr (l:=Zpd base (Zg (l.take i)) (fun _=>false) fun x=>Zah x (base.getD x.2.2.1.toNat [])) hto.1 (by rw [hv];omega);rw [show (l[i].1 != 5)=true by simpa using h5,Xe,Xc rfl];refine Za (Zh hi) (Za (Zh hi) (Za (Zh hi) (Za (Ztr hsrc.1 (by omega)) (Za (Z50 _ _ (by omega)) (Za hat (Za hat ?_))))))
   have hpre2:Zg (l.take (i+1)) <+: Zg l:=by
    unfold Zg;exact (Yya (i+1) l).filter _
   rw [ht,hw,Xc rfl] at hpre2;obtain ⟨r,hr⟩:=hpre2
   have hlen:(Zg (l.take i)).length<(Zg l).length:=by
    rw [← hr];simp
   have e1:(Zg l)[(Zg (l.take i)).length]=l[i]:=by
    have:(Zg l)[(Zg (l.take i)).length]? = some l[i]:=by
     rw [← hr,Yp,List.getElem?_append_right (Ye _),Y4a];rfl
    rw [Yd hlen] at this;exact Yja.inj this
   have e2:(Zg l).take (Zg (l.take i)).length=Zg (l.take i):=by
    rw [← hr,Yp,Yxa]
   have e3:(Zg l).take ((Zg (l.take i)).length+1)=Zg (l.take i)++[l[i]]:=by
    rw [Zjj hlen,e1,e2]
   have:=Z37 (base:=base) (w:=Zg l) (done:=fun _=>false) (mk:=fun x=>Zah x (base.getD x.2.2.1.toNat [])) hnd hlen (by rw [e1];exact hto.1) (by rw [e1];omega);rw [e1,e2,e3,Xd Y3] at this;rw [this]
 ·conv=>lhs;unfold Zgd.l0
  rw [Z8 (Ye _),Y1];rfl
theorem Zkfb {base:List Str} {l:List Zi} (hi:Zyd base=true) (hl:l.length≤400):Zc fun k=>Zun k base l=some (if Zab l (base.length:Int)=0 then (Zqf base l,0) else ([],Zab l (base.length:Int))):=by
 have hb:=Zik hi
 refine ((Zqs l (base.length:Int) (by omega)).and (Zc.ge 100 fun k hk=>hk)).mono fun k ⟨e,hk⟩=>?_
 unfold Zun
 refine Za (a:=if Zab l (base.length:Int)=0 then (Zqf base l,0) else ([],Zab l (base.length:Int))) ?_ rfl
 unfold Zkm
 rw [Xb (by omega:¬((400:Int)<(base.length:Int))),Xb (by omega:¬((400:Int)<(l.length:Int))),Yx,Xf]
 refine Za (Zdx base hk) ?_
 rw [hi,Yb,Xf]
 refine Za e ?_
 by_cases c:Zab l (base.length:Int)=0
 ·rw [Xc c,show (Zab l (base.length:Int) != 0)=false by simpa using c,Xf]
  exact Za (Zxpb c rfl hk) rfl
 ·rw [Xd c,show (Zab l (base.length:Int) != 0)=true by simpa using c]
  rfl
def Zqi (f:Z5) (n:Int):Option Nat:=Zmb (fun x=>x.1==n) f.2 0
def Zm (f:Z5) (n:Int):Str:=match Zqi f n with
 | some i=>(f.2.getD i (0,[])).2
 | none=>f.1.getD n.toNat []
theorem Zht {f:Z5} {n:Int} {i:Nat} (h:Zqi f n=some i):i<f.2.length:=by
 obtain ⟨_,h2,_⟩:=Zdk h
 simpa using h2
theorem Ziz (f:Z5) (n:Int) (hl:f.2.length≤1048576) {k:Nat} (hk:f.2.length<k):Z7k k f n=some (match Zqi f n with | some i=>(i:Int) | none=>-1):=by
 have run:=Zii (fun j i=>Zre.l0 j f.2 (f.2.length:Int) i n) f.2 (fun x=>x.1==n) (.inl n) (fun i=>.inr ((i:Int),n)) (fun i hi=>by
  have e:Zbs f.2[i] n=some (f.2[i].1==n):=rfl;constructor
  ·intro hp j
   show Zre.l0 (j+1) f.2 (f.2.length:Int) (i:Int) n=Zre.l0 j f.2 (f.2.length:Int) ((i+1:Nat):Int) n;rw [Zre.l0];rw [dlt hi,Zh hi,Zs (by omega)];simp only [Xe,Ya,e,hp,Xf]
  ·intro hp j
   show Zre.l0 (j+1) f.2 (f.2.length:Int) (i:Int) n=_;unfold Zre.l0;rw [dlt hi,Zh hi];simp only [Xe,Ya,e,hp]) (fun j=>by
  show Zre.l0 (j+1) f.2 (f.2.length:Int) (f.2.length:Int) n=_;unfold Zre.l0;rw [Z8 (Ye _)];rfl) hk
 have run:Zre.l0 k f.2 (f.2.length:Int) 0 n=_:=run
 unfold Z7k Zre Zqi
 rw [run]
 cases Zmb (fun x:Z5b=>x.1==n) f.2 0 <;> rfl
theorem Zi2 {α:Type} {l:List α} {i:Nat} (d:α) (h:i<l.length):at? l (i:Int)=some (l.getD i d):=by
 rw [Zh h,Yc,Yd h]
 rfl
theorem Z6s {α:Type} {l:List α} {n:Int} (d:α) (h0:0≤n) (h:n<(l.length:Int)):at? l n=some (l.getD n.toNat d):=by
 have:=Zi2 (l:=l) (i:=n.toNat) d (by omega)
 rwa [Yy h0] at this
theorem Ztt (f:Z5) (n:Int) (hl:f.2.length≤1048576) (h0:0≤n) (h1:n<(f.1.length:Int)) {k:Nat} (hk:f.2.length<k):Zyh k f n=some (Zm f n):=by
 unfold Zyh Zm
 rw [Ziz f n hl hk]
 cases h:Zqi f n with
 | some i=>
  simp only [Ya];rw [Xa (by omega:(0:Int)≤(i:Int)),Zi2 (0,[]) (Zht h)];rfl
 | none=>
  simp only [Ya];rw [show decide ((0:Int)≤-1)=false from rfl,Z6s [] h0 h1];rfl
theorem Zon (f:Z5) (n:Int) (hl:f.2.length≤1048576) (h0:0≤n) (h1:n<(f.1.length:Int)) {k:Nat} (hk:f.2.length<k):Zub k f n=some (Zm f n):=by
 have run:=Zii (fun j i=>Zub.l0 j n f.1 f.2 i) f.2 (fun x=>x.1==n) (.inl ()) (fun i=>.inr (f.2.getD i (0,[])).2) (fun i hi=>by
  constructor
  ·intro hp j
   show Zub.l0 (j+1) n f.1 f.2 (i:Int)=Zub.l0 j n f.1 f.2 ((i+1:Nat):Int);rw [Zub.l0];rw [dlt hi,Zh hi,Zs (by omega)];simp only [Xe,Ya,hp,Xf]
  ·intro hp j
   show Zub.l0 (j+1) n f.1 f.2 (i:Int)=_;unfold Zub.l0;rw [dlt hi,Zh hi];simp only [Xe,Ya,hp];rw [Yc,Yd hi];rfl) (fun j=>by
  show Zub.l0 (j+1) n f.1 f.2 (f.2.length:Int)=_;unfold Zub.l0;rw [Z8 (Ye _)];rfl) hk
 have run:Zub.l0 k n f.1 f.2 0=_:=run
 unfold Zub Zm Zqi
 rw [run]
 cases Zmb (fun x:Z5b=>x.1==n) f.2 0 with
 | some i=>rfl
 | none=>
  simp only [Ya];rw [Z6s [] h0 h1];rfl
def okD (m:Nat) (l:List Z5b) (i:Nat):Bool:=decide (0≤(l.getD i (0,[])).1)&&decide ((l.getD i (0,[])).1≤(m:Int)-1)&&decide ((l.getD i (0,[])).2.length≤96) && !((l.take i).any fun x=>x.1==(l.getD i (0,[])).1)
def okS (s:Str):Bool:=decide (s.length≤96)
def Zwg (f:Z5):Bool:=decide (1≤f.1.length∧f.1.length≤40∧f.2.length≤f.1.length)&&(f.1.all okS&&(Yg f.2.length).all (okD f.1.length f.2))
theorem Ziab {l:List Z5b} {i:Nat} (h:i<l.length):∃m,Zmb (fun x:Z5b=>x.1==(l.getD i (0,[])).1) l 0=some m∧m≤i∧(m<i ↔ (l.take i).any (fun x=>x.1==(l.getD i (0,[])).1)=true):=by
 have hg:l.getD i (0,[])=l[i]:=by rw [Yc,Yd h];rfl
 rw [hg]
 cases hf:Zmb (fun x:Z5b=>x.1==l[i].1) l 0 with
 | none=>
  have:=Zrp.1 hf l[i] (Yl h);simp at this
 | some m=>
  obtain ⟨_,h2,h3,h4⟩:=Zdk hf;have h2:m<l.length:=by simpa using h2
  have h3:(l[m].1==l[i].1)=true:=by simpa using h3
  have h4:∀j,(hj:j<m)→(l[j].1==l[i].1)=false:=fun j hj=>by simpa using h4 j (by omega)
  have hle:m≤i:=by
   refine Nat.not_lt.1 fun q=>?_
   have:=h4 i q;simp at this
  refine ⟨m,rfl,hle,fun q=>?_,fun q=>?_⟩
  ·refine Yba.2 ⟨l[m],?_,h3⟩
   exact Y8.2 ⟨m,by simp;omega,by simp⟩
  ·obtain ⟨x,hx,hx2⟩:=Yba.1 q
   obtain ⟨j,hj,e⟩:=Y8.1 hx;rw [Y6] at hj;have hji:j<i:=by omega
   rw [Yga] at e;refine Y0a (Nat.not_lt.1 fun q2=>?_) hji;have:=h4 j q2;rw [e,hx2] at this;cases this
theorem Ztbb {s:List Str} (hl:s.length≤1048576) (d:List Z5b) (n:Int):Zxp (s,d) n=some (decide (0≤n)&&decide (n≤(s.length:Int)-1)):=by
 unfold Zxp Znh Znb
 simp only [Ya]
 rw [w64 (by omega) (by omega)]
theorem Za4 (f:Z5) (hl:f.1.length≤1048576) (hl2:f.2.length≤1048576) {k:Nat} (hk:1048577≤k):Zdf k f=some (Zwg f):=by
 obtain ⟨s,d⟩:=f
 have hl:s.length≤1048576:=hl
 have hl2:d.length≤1048576:=hl2
 have hs:Z4q k s=some (!(s.all okS)):=by
  have run:=Zii (fun j i=>Zxe.l0 j s (s.length:Int) i) s (fun x=>!(okS x)) (.inl ()) (fun i=>.inr (i:Int)) (fun i hi=>by
   have e:Z5p s[i]=some (!(okS s[i])):=by
    unfold Z5p okS
    by_cases q:s[i].length≤96
    ·rw [Xa q,Xb (by omega)];rfl
    ·rw [Xb q,Xa (by omega)];rfl
   constructor
   ·intro hp j
    show Zxe.l0 (j+1) s (s.length:Int) (i:Int)=Zxe.l0 j s (s.length:Int) ((i+1:Nat):Int);rw [Zxe.l0];rw [dlt hi,Zh hi,Zs (by omega)];simp only [Xe,Ya,e,hp,Xf]
   ·intro hp j
    show Zxe.l0 (j+1) s (s.length:Int) (i:Int)=_;unfold Zxe.l0;rw [dlt hi,Zh hi];simp only [Xe,Ya,e,hp]) (fun j=>by
   show Zxe.l0 (j+1) s (s.length:Int) (s.length:Int)=_;unfold Zxe.l0;rw [Z8 (Ye _)];rfl) (show s.length<k by have:s.length≤1048576:=hl;omega)
  have run:Zxe.l0 k s (s.length:Int) 0=_:=run;unfold Z4q Zxe;rw [run];cases hf:Zmb (fun x=>!(okS x)) s 0 with
  | none=>
   have:s.all okS=true:=Yt.2 fun x hx=>by
    have:=Zrp.1 hf x hx;simpa using this
   rw [this];rfl
  | some i=>
   obtain ⟨_,h2,h3,_⟩:=Zdk hf
   have:s.all okS=false:=by
    cases q:s.all okS with
    | false=>rfl
    | true=>
     have:=Yt.1 q _ (Yl h2);rw [this] at h3;cases h3
   rw [this];simp only [Ya];rw [Xa (by omega:(0:Int)≤(i:Int))];rfl
 have hd:=Zwz (fun j i=>Zdf.l0 k j s d d (d.length:Int) (i:Int)) d.length (okD s.length d) (fun _=>false) (fun i hi hp j=>?_) (fun i hi hp j=>?_) (fun j=>?_)
 ·unfold Zdf Zwg
  have h40:Znb (s.length:Int) 1 40=some (decide (1≤s.length)&&decide (s.length≤40)):=by
   unfold Znb;congr 2 <;> exact decide_eq_decide.2 (by omega)
  have hz:Znh s=some (s.length:Int):=rfl;dsimp only;rw [hz];simp only [Ya];rw [h40];simp only [Ya]
  by_cases c:1≤s.length∧s.length≤40∧d.length≤s.length
  ·rw [Xa c.1,Xa c.2.1,Xb (by omega:¬(s.length:Int)<(d.length:Int)),Xa c,hs]
   simp only [Yh,Yb,Yx,Xf,Ya,Yj];cases ha:s.all okS with
   | false=>rfl
   | true=>
    simp only [Yb,Xf,Yj];rcases hd with ⟨h1,h2⟩ | ⟨h1,i,_,_,h2⟩
    ·have h2:Zdf.l0 k k s d d (d.length:Int) 0=some (.inl ()):=h2 k (by have:d.length≤1048576:=hl2;omega)
     rw [h2,h1];rfl
    ·have h2:Zdf.l0 k k s d d (d.length:Int) 0=some (.inr false):=h2 k (by have:d.length≤1048576:=hl2;omega)
     rw [h2,h1];rfl
  ·rw [Xb c]
   have:((!(decide (1≤s.length)&&decide (s.length≤40)))||decide ((s.length:Int)<(d.length:Int)))=true:=by
    rw [Y4,Yla,Yr,decide_eq_false_iff_not,decide_eq_false_iff_not,decide_eq_true_iff];omega
   rw [this];rfl
 all_goals skip
 ·have hg:d.getD i (0,[])=d[i]:=by rw [Yc,Yd hi];rfl
  have hp2:=hp;unfold okD at hp2;rw [Yf,Yf,Yf,hg] at hp2;obtain ⟨⟨⟨p1,p2⟩,p3⟩,p4⟩:=hp2;obtain ⟨m,m1,m2,m3⟩:=Ziab hi;rw [hg] at m1 m3
  conv=>lhs;unfold Zdf.l0
  rw [dlt hi,Zh hi,Zs (by omega)];simp only [Xe,Ya];rw [Ztbb hl,p1,p2];simp only [Ya,Yh,Yb,Ys];rw [Xb (by have:=of_decide_eq_true p3;omega:¬(96:Int)<(d[i].2.length:Int)),Ziz (s,d) _ hl2 (by show d.length<k;omega)];unfold Zqi;dsimp only;rw [m1];simp only [Xf,Ya]
  have hno:¬(m:Int)<(i:Int):=fun q=>by
   have:=m3.1 (by omega);rw [this] at p4;cases p4
  rw [Xb hno];rfl
 ·have hg:d.getD i (0,[])=d[i]:=by rw [Yc,Yd hi];rfl
  obtain ⟨m,m1,m2,m3⟩:=Ziab hi;rw [hg] at m1 m3;have hp2:=hp;unfold okD at hp2;rw [hg] at hp2
  conv=>lhs;unfold Zdf.l0
  rw [dlt hi,Zh hi];simp only [Xe,Ya];rw [Ztbb hl,Ziz (s,d) _ hl2 (by show d.length<k;omega)];unfold Zqi;dsimp only;rw [m1];simp only [Ya];cases q1:(decide (0≤d[i].1)&&decide (d[i].1≤(s.length:Int)-1)) with
  | false=>rfl
  | true=>
   rw [q1,Yj] at hp2
   by_cases q2:d[i].2.length≤96
   ·rw [Xa q2,Yj,Yfa] at hp2
    rw [Xb (by omega:¬(96:Int)<(d[i].2.length:Int))];simp only [Yb,Yx,Xf];rw [Xa (by have:=m3.2 hp2;omega:(m:Int)<(i:Int))];rfl
   ·rw [Xa (by omega:(96:Int)<(d[i].2.length:Int))]
    rfl
 ·conv=>lhs;unfold Zdf.l0
  rw [Z8 (Ye _)];rfl
theorem Z7bb (d:List Z5b) (i:Nat) (hi:i<d.length) (k:Nat) (hk:i<k) (hl2:d.length≤1048576:=by omega):((d.take i).any (fun x=>x.1==(d.getD i (0,[])).1)=true∧∀s,Z7.l1 k s d (i:Int) 0=some (.inr false))∨((d.take i).any (fun x=>x.1==(d.getD i (0,[])).1)=false∧∀s,Z7.l1 k s d (i:Int) 0=some (.inl ())):=by
 have hg:d.getD i (0,[])=d[i]:=by rw [Yc,Yd hi];rfl
 rw [hg]
 have run:∀s,Z7.l1 k s d (i:Int) 0=some (match Zmb (fun x:Z5b=>x.1==d[i].1) (d.take i) 0 with | some _=>.inr false | none=>.inl ()):=fun s=>
  Zii (fun j q=>Z7.l1 j s d (i:Int) q) (d.take i) (fun x=>x.1==d[i].1) (.inl ()) (fun _=>.inr false) (fun q hq=>by
   rw [Y6] at hq;have hq2:q<i:=by omega
   rw [Yga];constructor
   ·intro hp j
    show Z7.l1 (j+1) s d (i:Int) (q:Int)=Z7.l1 j s d (i:Int) ((q+1:Nat):Int);rw [Z7.l1];rw [dlt hq2,Zh (by omega:q<d.length),Zh hi,Zs (by omega)];simp only [Xe,Ya,hp,Xf]
   ·intro hp j
    show Z7.l1 (j+1) s d (i:Int) (q:Int)=_;rw [Z7.l1];rw [dlt hq2,Zh (by omega:q<d.length),Zh hi];simp only [Xe,Ya,hp]) (fun j=>by
   show Z7.l1 (j+1) s d (i:Int) ((d.take i).length:Int)=_;rw [Y6,Y1a (by omega),Z7.l1,Z8 (Ye _)];rfl) (by rw [Y6];omega)
 have ha:=Zpt (p:=fun x:Z5b=>x.1==d[i].1) (l:=d.take i) (n:=0)
 cases hf:Zmb (fun x:Z5b=>x.1==d[i].1) (d.take i) 0 with
 | some m=>
  rw [hf] at ha;exact .inl ⟨ha.symm,fun s=>by rw [run s,hf]⟩
 | none=>
  rw [hf] at ha;exact .inr ⟨ha.symm,fun s=>by rw [run s,hf]⟩
theorem Z10 (f:Z5) (hl:f.1.length≤1048576) (hl2:f.2.length≤1048576) {k:Nat} (hk:1048577≤k):Z7 k f=some (Zwg f):=by
 obtain ⟨s,d⟩:=f
 have hl:s.length≤1048576:=hl
 have hl2:d.length≤1048576:=hl2
 have hs:=Zwz (fun j i=>Z7.l0 j s d (i:Int)) s.length (fun i=>okS (s.getD i [])) (fun _=>false) (fun i hi hp j=>?_) (fun i hi hp j=>?_) (fun j=>?_)
 have hd:=Zwz (fun j i=>Z7.l2 k j s d (i:Int)) d.length (okD s.length d) (fun _=>false) (fun i hi hp j=>?_) (fun i hi hp j=>?_) (fun j=>?_)
 ·unfold Z7 Zwg
  dsimp only
  by_cases c:1≤s.length∧s.length≤40∧d.length≤s.length
  ·rw [Xb (by omega:¬(s.length:Int)<1),Xb (by omega:¬(40:Int)<(s.length:Int)),Xb (by omega:¬(s.length:Int)<(d.length:Int)),Xa c]
   simp only [Yx,Xf,Yj]
   have hall:(Yg s.length).all (fun i=>okS (s.getD i []))=s.all okS:=by
    rw [Y2,Yt,Yt];constructor
    ·intro h x hx
     obtain ⟨i,hi,rfl⟩:=Y8.1 hx;have:=h i (Yq.2 hi)
     rwa [Yc,Yd hi] at this
    ·intro h i hi
     have hi:=Yq.1 hi;rw [Yc,Yd hi];exact h _ (Yl hi)
   rcases hs with ⟨h1,h2⟩ | ⟨h1,i,_,_,h2⟩
   ·have h2:Z7.l0 k s d 0=some (.inl ()):=h2 k (by omega)
    rw [h2,← hall,h1];simp only [Ya,Yj];rcases hd with ⟨h3,h4⟩ | ⟨h3,i,_,_,h4⟩
    ·have h4:Z7.l2 k k s d 0=some (.inl ()):=h4 k (by omega)
     rw [h4,h3];rfl
    ·have h4:Z7.l2 k k s d 0=some (.inr false):=h4 k (by omega)
     rw [h4,h3];rfl
   ·have h2:Z7.l0 k s d 0=some (.inr false):=h2 k (by omega)
    rw [h2,← hall,h1];rfl
  ·rw [Xb c]
   have:((decide ((s.length:Int)<1)||decide (40<(s.length:Int)))||decide ((s.length:Int)<(d.length:Int)))=true:=by
    rw [Y4,Y4,decide_eq_true_iff,decide_eq_true_iff,decide_eq_true_iff];omega
   rw [this];rfl
 ·
  have hg:d.getD i (0,[])=d[i]:=by rw [Yc,Yd hi];rfl
  have hp2:=hp;unfold okD at hp2;rw [Yf,Yf,Yf,hg] at hp2;obtain ⟨⟨⟨p1,p2⟩,p3⟩,p4⟩:=hp2;have hin:=Z7bb d i hi k (by omega);rw [hg] at hin;rcases hin with ⟨q,_⟩ | ⟨_,q⟩
  ·rw [q] at p4;cases p4
  conv=>lhs;unfold Z7.l2
  rw [dlt hi,Zh hi,Zs (by omega),w64 (by omega) (by omega)];simp only [Xe,Ya];unfold Z9;rw [p1,p2,q s];simp only [Ya,Yh,Yb,Xf];rw [Xb (by have:=of_decide_eq_true p3;omega:¬(96:Int)<(d[i].2.length:Int))];rfl
 ·have hg:d.getD i (0,[])=d[i]:=by rw [Yc,Yd hi];rfl
  have hp2:=hp;unfold okD at hp2;rw [hg] at hp2;have hin:=Z7bb d i hi k (by omega);rw [hg] at hin
  conv=>lhs;unfold Z7.l2
  rw [dlt hi,Zh hi,w64 (by omega) (by omega)];simp only [Xe,Ya];unfold Z9;simp only [Ya];cases q1:(decide (0≤d[i].1)&&decide (d[i].1≤(s.length:Int)-1)) with
  | false=>rfl
  | true=>
   rw [q1,Yj] at hp2;simp only [Yb,Xf]
   by_cases q2:d[i].2.length≤96
   ·rw [Xa q2,Yj,Yfa] at hp2
    rw [Xb (by omega:¬(96:Int)<(d[i].2.length:Int))];rcases hin with ⟨_,q⟩ | ⟨q,_⟩
    ·rw [q s]
     rfl
    ·rw [q] at hp2;cases hp2
   ·rw [Xa (by omega:(96:Int)<(d[i].2.length:Int))]
    rfl
 ·conv=>lhs;unfold Z7.l2
  rw [Z8 (Ye _)];rfl
 ·have hg:s.getD i []=s[i]:=by rw [Yc,Yd hi];rfl
  have hp:okS (s.getD i [])=true:=hp;rw [hg] at hp;have hp:=of_decide_eq_true hp
  conv=>lhs;unfold Z7.l0
  rw [dlt hi,Zh hi,Zs (by omega)];simp only [Xe,Ya];rw [Xb (by omega:¬(96:Int)<(s[i].length:Int))];rfl
 ·have hg:s.getD i []=s[i]:=by rw [Yc,Yd hi];rfl
  have hp:okS (s.getD i [])=false:=hp;rw [hg] at hp;have hp:=of_decide_eq_false hp
  conv=>lhs;unfold Z7.l0
  rw [dlt hi,Zh hi];simp only [Xe,Ya];rw [Xa (by omega:(96:Int)<(s[i].length:Int))];rfl
 ·conv=>lhs;unfold Z7.l0
  rw [Z8 (Ye _)];rfl
def Zsq (s:Str):Option (Int×Str×Nat):=if (Zxd s 0).2.2=0 then if (Zxh s (Zxd s 0).2.1.toNat).2.2=0 then some ((Zxd s 0).1,(Zxh s (Zxd s 0).2.1.toNat).1,(Zxh s (Zxd s 0).2.1.toNat).2.1.toNat) else none else none
theorem Zqdb {s:Str} {x:Int} {t:Str} {a d:Nat} (g1:Got s 0 x a) (g4:GotT s a t d):Zk x++Zcb t=s ↔ d=s.length:=by
 have e0:s=Zk x++(Zcb t++s.drop d):=by
  have h1:=g1.eq;rw [Yv,g4.eq] at h1;exact h1
 constructor
 ·intro h
  have:=g4.at';have:=g1.at';have hl:=congrArg Yha h;rw [Ym] at hl;omega
 ·intro h
  rw [h,Y5,Yu] at e0;exact e0.symm
def Zmn (n:Int) (t:Str):Bool:=(decide (1≤n)&&decide (n≤1000000))&&decide (t.length≤80)
def Zhc (s:Str):Int×Str×Int:=if (Zxc s).2=0 then match Zsq (Zn s) with
  | some (n,t,d)=>if d=(Zn s).length∧Zmn n t=true then (n,t,0) else (0,[],3)
  | none=>(0,[],3) else (0,[],(Zxc s).2)
theorem Zz6 (n:Int) (t:Str) (hn:Num n) (ht:t.length≤8000):Zc fun k=>Zfj k n t=some (if Zmn n t=true then Zhf (Zk n++Zcb t) else []):=by
 have is:Z9 n 1 1000000=some (decide (1≤n)&&decide (n≤1000000)):=rfl
 unfold Zmn
 by_cases h1:(decide (1≤n)&&decide (n≤1000000))=true
 ·by_cases h2:t.length≤80
  ·have l1:=Zuc n
   have l4:=Zok t;refine (((Zdj n hn).and (Z90 t ht)).and (Za1 (Zk n++Zcb t) (by simp;omega))).mono fun k ⟨⟨a,b⟩,c⟩=>?_
   unfold Zfj;rw [is,h1,Xb (by omega:¬(80:Int)<(t.length:Int)),Xa h2];simp only [Ya,Yb,Yx,Xf,Yh,if_true];rw [a,b];simp only [Ya];rw [Zwd (by omega)];simp only [Ya];rw [c];rfl
  ·refine Zc.of fun k=>?_
   unfold Zfj;rw [is,h1,Xa (by omega:(80:Int)<(t.length:Int)),Xb h2];rfl
 ·refine Zc.of fun k=>?_
  unfold Zfj;rw [is,Y9.2 h1];rfl
theorem Zhfb (s:Str) (hs:s.length≤8000):Zc fun k=>Zml k s=some (Zhc s):=by
 by_cases hu:(Zxc s).2=0
 ·obtain ⟨e1,e2,e3⟩:=Z1s hu
  have hbl:(Zn s).length≤8000:=by rw [Zxr];omega
  rcases Zfl (Zn s) 0 with ⟨n,a,en,gn⟩ | ⟨c,hc,en⟩
  ·have hla:=gn.le
   rcases Znr (Zn s) a with ⟨t,d,et,gt⟩ | ⟨c,hc,et⟩
   ·refine ((((Zjl s hs).and (Zuu (Zn s) 0 (by omega) hbl)).and (Zcx (Zn s) a (by omega) hbl)).and (Zz6 n t gn.range gt.size)).mono fun k ⟨⟨⟨h0,h1⟩,h2⟩,h3⟩=>?_
    have h1:Z9d k (Zn s) 0=_:=h1;unfold Zml Zhc Zsq;rw [Xc hu,h0,e1,en];simp only [Ya];rw [show ((0:Int) != 0)=false from rfl,Xf,h1,en];simp only [Ya,Yi];rw [h2,et];simp only [Ya,if_true,Yi];rw [show ((0:Int) != 0)=false from rfl,Yx,Xf,h3];simp only [Ya]
    by_cases hr:Zmn n t=true
    ·rw [Xc hr,Zvr]
     by_cases hd:d=(Zn s).length
     ·have:Zhf (Zk n++Zcb t)=s:=by rw [(Zqdb gn gt).2 hd,e2]
      rw [Xa this,Xc ⟨hd,hr⟩];rfl
     ·rw [Xb (fun q=>hd ((Zqdb gn gt).1 (Zsfb.1 (q.trans e2.symm)))),Xd (fun q=>hd q.1)]
      rfl
    ·rw [Xd hr,Xd (fun q=>hr q.2),Ztab (by omega)]
     rfl
   ·refine (((Zjl s hs).and (Zuu (Zn s) 0 (by omega) hbl)).and (Zcx (Zn s) a (by omega) hbl)).mono fun k ⟨⟨h0,h1⟩,h2⟩=>?_
    have h1:Z9d k (Zn s) 0=_:=h1;unfold Zml Zhc Zsq;rw [Xc hu,h0,e1,en];simp only [Ya];rw [show ((0:Int) != 0)=false from rfl,Xf,h1,en];simp only [Ya,Yi];rw [h2,et];simp only [Ya,if_true];rw [Xd hc,show ((0:Int) != 0)=false from rfl,Ys,show (c != 0)=true by simpa using hc];rfl
  ·refine (((Zjl s hs).and (Zuu (Zn s) 0 (by omega) hbl)).and (Zcx (Zn s) 0 (by omega) hbl)).mono fun k ⟨⟨h0,h1⟩,h2⟩=>?_
   have h1:Z9d k (Zn s) 0=_:=h1;have h2:Zjm k (Zn s) 0=_:=h2;unfold Zml Zhc Zsq;rw [Xc hu,h0,e1,en];simp only [Ya];rw [show ((0:Int) != 0)=false from rfl,Xf,h1,en];simp only [Ya];rw [h2];simp only [Ya];rw [Xd hc,show (c != 0)=true by simpa using hc];rfl
 ·refine (Zjl s hs).mono fun k h0=>?_
  unfold Zml Zhc;rw [Xd hu,h0];simp only [Ya];rw [show ((Zxc s).2 != 0)=true by simpa using hu];rfl
theorem Z2bb (s:Str) (hs:s.length≤8000):Zc fun k=>Zhn k s=some (Zhc s):=by
 by_cases hu:(Zxc s).2=0
 ·obtain ⟨e1,e2,e3⟩:=Z1s hu
  have hbl:(Zn s).length≤8000:=by rw [Zxr];omega
  rcases Zfl (Zn s) 0 with ⟨n,a,en,gn⟩ | ⟨c,hc,en⟩
  ·have hla:=gn.le
   have hn:Zkb (Zn s) 0=(n,Zn s,((a:Nat):Int),false):=by unfold Zkb;rw [en];rfl
   refine (((Zvt s (by omega)).and (Ze4 (Zn s) 0 (by omega) (by omega))).and (Z5bb (Zn s) a (by omega) (by omega))).mono fun k ⟨⟨h0,h1⟩,h2⟩=>?_
   have h1:Zqc k (Zn s,(0,false))=_:=h1;unfold Zhn Zhc Zsq;rw [Xc hu,h0,e1,en];simp only [Ya];rw [show ((0:Int) != 0)=false from rfl,Xf,h1,hn];simp only [Ya,Yi];rw [h2];simp only [Ya,if_true];rcases Znr (Zn s) a with ⟨t,d,et,gt⟩ | ⟨c,hc,et⟩
   ·have ht:Zhg (Zn s) a=(t,Zn s,((d:Nat):Int),false):=by unfold Zhg;rw [et];rfl
    rw [ht,et];simp only [Ys,if_true,Yi]
    by_cases hd:d=(Zn s).length
    ·rw [show (((d:Nat):Int) != ((Zn s).length:Int))=false by rw [hd];simp]
     simp only [Xf];have is:Znb n 1 1000000=some (decide (1≤n)&&decide (n≤1000000)):=rfl;rw [is];simp only [Ya];unfold Zmn
     by_cases q1:(decide (1≤n)&&decide (n≤1000000))=true
     ·by_cases q2:t.length≤80
      ·rw [q1,Xa q2,Xb (by omega:¬(80:Int)<(t.length:Int)),Xc ⟨hd,rfl⟩]
       rfl
      ·rw [q1,Xb q2,Xa (by omega:(80:Int)<(t.length:Int)),Xd (fun q=>by cases q.2)]
       rfl
     ·rw [Y9.2 q1,Xd (fun q=>by cases q.2)]
      rfl
    ·rw [show (((d:Nat):Int) != ((Zn s).length:Int))=true by simp;omega,Xd (fun q=>hd q.1)]
     rfl
   ·have ht:Zhg (Zn s) a=([],Zn s,((a:Nat):Int),true):=by unfold Zhg;rw [et,Xd hc]
    rw [ht,et,Xd hc];rfl
  ·have hn:Zkb (Zn s) 0=(0,Zn s,((0:Nat):Int),true):=by unfold Zkb;rw [en,Xd hc]
   obtain ⟨t,a',hw,_⟩:=Z6bb (Zn s) 0 (by omega) (by omega);refine (((Zvt s (by omega)).and (Ze4 (Zn s) 0 (by omega) (by omega))).and hw).mono fun k ⟨⟨h0,h1⟩,h2⟩=>?_
   have h1:Zqc k (Zn s,(0,false))=_:=h1;unfold Zhn Zhc Zsq;rw [Xc hu,h0,e1,en,Xd hc];simp only [Ya];rw [show ((0:Int) != 0)=false from rfl,Xf,h1,hn];simp only [Ya];rw [h2];rfl
 ·refine (Zvt s (by omega)).mono fun k h0=>?_
  unfold Zhn Zhc;rw [Xd hu,h0];simp only [Ya];rw [show ((Zxc s).2 != 0)=true by simpa using hu];rfl
theorem Z6cb (s:Str):(Zhc s).2.1.length≤80:=by
 unfold Zhc
 split
 ·split
  ·split
   ·rename_i h
    have:=h.2;unfold Zmn at this;rw [Yf] at this;exact of_decide_eq_true this.2
   ·simp
  ·simp
 ·simp
def Zr (f:Z5):Int×Str×Int×Int:=if (Zhc (Zm f 0)).2.2=0∧((Zhc (Zm f 1)).2.2≠0∨(Zhc (Zm f 1)).1≤(Zhc (Zm f 0)).1) then ((Zhc (Zm f 0)).1,(Zhc (Zm f 0)).2.1,(Zhc (Zm f 0)).2.2,0) else if (Zhc (Zm f 1)).2.2=0 then ((Zhc (Zm f 1)).1,(Zhc (Zm f 1)).2.1,(Zhc (Zm f 1)).2.2,1) else (0,[],6,-1)
theorem Z7r {f:Z5} (h:Zwg f=true):(1≤f.1.length∧f.1.length≤40∧f.2.length≤f.1.length)∧(∀x∈f.1,x.length≤96)∧∀i,i<f.2.length→(f.2.getD i (0,[])).2.length≤96:=by
 unfold Zwg at h
 rw [Yf,Yf] at h
 obtain ⟨h1,h2,h3⟩:=h
 refine ⟨of_decide_eq_true h1,fun x hx=>of_decide_eq_true (Yt.1 h2 x hx),fun i hi=>?_⟩
 have:=Yt.1 h3 i (Yq.2 hi)
 unfold okD at this
 rw [Yf,Yf] at this
 exact of_decide_eq_true this.1.2
theorem Zeo {f:Z5} (h:Zwg f=true) (n:Int):(Zm f n).length≤96:=by
 obtain ⟨_,h1,h2⟩:=Z7r h
 unfold Zm
 cases hd:Zqi f n with
 | some i=>exact h2 i (Zht hd)
 | none=>
  by_cases q:n.toNat<f.1.length
  ·show (f.1.getD n.toNat []).length≤96
   rw [Yc,Yd q];exact h1 _ (Yl q)
  ·show (f.1.getD n.toNat []).length≤96
   rw [Yc,List.getElem?_eq_none (by omega)];simp
theorem Z1bb {f:Z5} (h:Zwg f=true) (h2:2≤f.1.length):Zc fun k=>Zzd k f=some (Zr f):=by
 obtain ⟨⟨b1,b2,b3⟩,_⟩:=Z7r h
 refine (((Z2bb (Zm f 0) (by have:=Zeo h 0;omega)).and (Z2bb (Zm f 1) (by have:=Zeo h 1;omega))).and (Zc.ge 100 fun k hk=>hk)).mono fun k ⟨⟨m0,m1⟩,hk⟩=>?_
 obtain ⟨j,rfl⟩:∃j,k=j+3:=⟨k-3,by omega⟩
 have r0:Zyh (j+3) (f.1,f.2) 0=some (Zm f 0):=Ztt f 0 (by omega) (by omega) (by omega) (by omega)
 have r1:Zyh (j+3) (f.1,f.2) 1=some (Zm f 1):=Ztt f 1 (by omega) (by omega) (by omega) (by omega)
 have w1:Yo .i64 ((0:Int)+1)=1:=by decide
 have w2:Yo .i64 ((1:Int)+1)=2:=by decide
 unfold Zr
 generalize Zhc (Zm f 0)=a at m0
 generalize Zhc (Zm f 1)=b at m1
 obtain ⟨an,at',ac⟩:=a
 obtain ⟨bn,bt,bc⟩:=b
 have s0:∀j2,Zzd.l0 (j+3) (j2+1) f.1 f.2 (-1) 0 0 [] 6=if ac=0 then Zzd.l0 (j+3) j2 f.1 f.2 0 1 an at' ac else Zzd.l0 (j+3) j2 f.1 f.2 (-1) 1 0 [] 6:=fun j2=>by
  conv=>lhs;unfold Zzd.l0
  rw [show decide ((0:Int)<2)=true from rfl,Xe,r0];simp only [Ya];rw [m0];simp only [Ya,w1]
  by_cases q:ac=0
  ·rw [Xc q,q]
   rfl
  ·rw [Xd q,show (ac==0)=false by simpa using q]
   rfl
 have s1:∀j2 (p n c:Int) (t:Str),Zzd.l0 (j+3) (j2+2) f.1 f.2 p 1 n t c=if bc=0∧(p<0∨n<bn) then some (1,bn,bt,bc) else some (p,n,t,c):=fun j2 p n c t=>by
  have fin:∀(p n c:Int) (t:Str),Zzd.l0 (j+3) (j2+1) f.1 f.2 p 2 n t c=some (p,n,t,c):=fun p n c t=>by
   conv=>lhs;unfold Zzd.l0
   rfl
  conv=>lhs;unfold Zzd.l0
  rw [show decide ((1:Int)<2)=true from rfl,Xe,r1];simp only [Ya];rw [m1];simp only [Ya,w2,fin]
  by_cases q:bc=0
  ·subst q
   by_cases q2:p<0
   ·rw [Xa q2,Xc ⟨rfl,.inl q2⟩]
    rfl
   ·rw [Xb q2]
    by_cases q3:n<bn
    ·rw [Xa q3,Xc ⟨rfl,.inr q3⟩]
     rfl
    ·rw [Xb q3,Xd (by omega)]
     rfl
  ·rw [show (bc==0)=false by simpa using q,Xd (fun w=>q w.1)]
   rfl
 unfold Zzd
 rw [show j+3=(j+2)+1 from rfl]
 rw [s0 (j+2)]
 by_cases q:ac=0
 ·rw [Xc q,s1 j]
  by_cases q2:bc=0
  ·by_cases q3:an<bn
   ·rw [Xc ⟨q2,.inr q3⟩,Xd (by simp only [not_and];intro _ ;omega),Xc q2]
    rfl
   ·rw [Xd (by omega),Xc ⟨q,.inr (by omega)⟩]
    rfl
  ·rw [Xd (fun w=>q2 w.1),Xc ⟨q,.inl q2⟩]
   rfl
 ·rw [Xd q,s1 j,Xd (c:=ac=0∧_) (fun w=>q w.1)]
  by_cases q2:bc=0
  ·rw [Xc ⟨q2,.inl (by decide)⟩,Xc q2]
   rfl
  ·rw [Xd (fun w=>q2 w.1),Xd q2]
   rfl
theorem Z60 {f:Z5} (h:Zwg f=true) (h2:2≤f.1.length):Zc fun k=>Zrl k f=some (Zr f):=by
 obtain ⟨⟨b1,b2,b3⟩,_⟩:=Z7r h
 refine (((Zhfb (Zm f 0) (by have:=Zeo h 0;omega)).and (Zhfb (Zm f 1) (by have:=Zeo h 1;omega))).and (Zc.ge 100 fun k hk=>hk)).mono fun k ⟨⟨m0,m1⟩,hk⟩=>?_
 have r0:Zub k f 0=some (Zm f 0):=Zon f 0 (by omega) (by omega) (by omega) (by omega)
 have r1:Zub k f 1=some (Zm f 1):=Zon f 1 (by omega) (by omega) (by omega) (by omega)
 unfold Zrl Zr
 rw [r0]
 simp only [Ya]
 rw [m0]
 simp only [Ya]
 rw [r1]
 simp only [Ya]
 rw [m1]
 simp only [Ya]
 generalize Zhc (Zm f 0)=a
 generalize Zhc (Zm f 1)=b
 obtain ⟨an,at',ac⟩:=a
 obtain ⟨bn,bt,bc⟩:=b
 dsimp only
 by_cases q:ac=0
 ·rw [show (ac==0)=true by simpa using q,Yj]
  by_cases q2:bc=0
  ·rw [show (bc != 0)=false by simpa using q2,Ys,show (bc==0)=true by simpa using q2]
   by_cases q3:bn≤an
   ·rw [Xa q3,Xc ⟨q,.inr q3⟩]
    rfl
   ·rw [Xb q3,Xd (by omega),Xc q2]
    rfl
  ·rw [show (bc != 0)=true by simpa using q2,Xc ⟨q,.inl q2⟩]
   rfl
 ·rw [show (ac==0)=false by simpa using q,Xd (fun w=>q w.1)]
  by_cases q2:bc=0
  ·rw [show (bc==0)=true by simpa using q2,Xc q2]
   rfl
  ·rw [show (bc==0)=false by simpa using q2,Xd q2]
   rfl
def Z1b (v:Nat) (n:Nat):List Nat:=(Yg n).filter fun i=>v.testBit i
def Zb (v:Nat):List Int:=(Z1b v 24).map fun n=>((n:Nat):Int)
theorem Zhy (v n:Nat):Z1b v (n+1)=if v.testBit n=true then Z1b v n++[n] else Z1b v n:=by
 unfold Z1b
 rw [Yva,Yna]
 by_cases h:v.testBit n=true
 ·rw [Xc h,Ypa h];rfl
 ·rw [Xd h,Yoa h];simp
theorem Zgy (v n:Nat):(Z1b v n).length≤n:=by
 unfold Z1b
 refine Nat.le_trans (Yra _ _) ?_
 simp
theorem Z9s {v n x:Nat} (h:x∈Z1b v n):x<n∧v.testBit x=true:=by
 unfold Z1b at h
 rw [Y7,Yq] at h
 exact h
theorem Z7d (v:Nat):(Zb v).length≤24:=by
 unfold Zb
 rw [Yz]
 exact Zgy v 24
theorem Z5hb (a:Nat) (ha:a<9223372036854775808):intBits .and .i64 (a:Int) 1=((a%2:Nat):Int):=by
 unfold intBits
 simp only [IntKind.bits]
 have h1:(Yk 64 (a:Int) &&& Yk 64 1).toNat=a%2:=by
  rw [Yka,Yw,Yw];have:((a:Int)%((2^64:Nat):Int)).toNat=a:=by omega
  rw [this];show a &&& 1=a%2;rw [Nat.and_one_is_mod]
 show Yo .i64 (((Yk 64 (a:Int) &&& Yk 64 1).toNat:Nat):Int)=_
 rw [h1]
 exact w64 (by omega) (by omega)
theorem Z88 (v i:Nat) (hv:v<16777216) (hi:i<24):(intBits .and .i64 (shr .i64 (v:Int) (i:Int)) 1==1)=v.testBit i:=by
 rw [Zxi .i64 _ i (by show i≤64;omega),Z5hb _ (Y0a (Nat.div_le_self _ _) (by omega)),Y6a]
 rw [Y2,beq_iff_eq,decide_eq_true_iff]
 omega
theorem Zybb (v:Nat) (hv:v<16777216):∀k,24<k→Zcf k (v:Int)=some (Zb v):=by
 intro k hk
 have h:=Zrc (fun j i=>Zcf.l0 j (v:Int) (i:Int) ((Z1b v i).map fun n=>((n:Nat):Int))) 24 (Zb v) (fun i hi j=>?_) (fun j=>?_) k hk
 ·have h:Zcf.l0 k (v:Int) 0 []=some (Zb v):=h
  unfold Zcf;rw [h];rfl
 ·have hl:=Zgy v i
  conv=>lhs;unfold Zcf.l0
  rw [Xa (by omega:(i:Int)<24),Zs (by omega)];dsimp only;rw [Xe,Zdc (by omega),Z88 v i hv hi,Zhy];simp only [Ya];cases hb:v.testBit i with
  | true=>rw [Z6 (by simp;omega)];simp
  | false=>simp
 ·conv=>lhs;unfold Zcf.l0
  rfl
theorem Zcfb (v:Nat) (hv:v<16777216):∀k,24<k→Z1d k (v:Int)=some (Zb v):=by
 intro k hk
 have h:=Zrc (fun j i=>Z1d.l0 j (v:Int) (i:Int) ((Z1b v i).map fun n=>((n:Nat):Int))) 24 (Zb v) (fun i hi j=>?_) (fun j=>?_) k hk
 ·have h:Z1d.l0 k (v:Int) 0 []=some (Zb v):=h
  unfold Z1d;rw [Xb (by omega:¬(v:Int)<0),Xb (by omega:¬(16777216:Int)≤(v:Int)),h];rfl
 ·have hl:=Zgy v i
  conv=>lhs;unfold Z1d.l0
  rw [Xa (by omega:(i:Int)<24),Zs (by omega)];dsimp only;rw [Xe,Zdc (by omega),Z88 v i hv hi,Zhy];simp only [Ya];cases hb:v.testBit i with
  | true=>rw [Z6 (by simp;omega)];simp
  | false=>simp
 ·conv=>lhs;unfold Z1d.l0
  rfl
theorem Zgqb (v:Int) (h:v<0∨16777216≤v) (k:Nat):Z1d k v=some []:=by
 unfold Z1d
 by_cases q:v<0
 ·rw [Xa q];rfl
 ·rw [Xb q,Xa (by omega:(16777216:Int)≤v)];rfl
theorem Zwr (v n:Nat):(Z1b v n).Pairwise (· < ·):=List.Pairwise.filter _ List.pairwise_lt_range
theorem Z3k {v i:Nat} (h:i<(Zb v).length):0≤(Zb v)[i]∧(Zb v)[i]≤23:=by
 have hm:=Yl h
 obtain ⟨x,hx,e⟩:=Yia.1 hm
 have:=(Z9s hx).1
 omega
theorem Zb9 {v i:Nat} (h:i+1<(Zb v).length):(Zb v)[i]'(by omega)<(Zb v)[i+1]:=by
 have hl:(Zb v).length=(Z1b v 24).length:=by unfold Zb;rw [Yz]
 have:=Yua.1 (Zwr v 24) i (i+1) (by omega) (by omega) (by omega)
 have e:∀q (hq:q<(Zb v).length),(Zb v)[q]=(((Z1b v 24)[q]'(by omega):Nat):Int):=fun q hq=>by simp [Zb]
 rw [e,e]
 omega
theorem Z0bb (v:Nat):∀k,24<k→Zef k (Zb v)=some true:=by
 intro k hk
 have hlen:=Z7d v
 have h:=Zrc (fun j i=>Zef.l0 j (Zb v) (Zb v) ((Zb v).length:Int) (i:Int)) (Zb v).length (.inl ()) (fun i hi j=>?_) (fun j=>?_) k (by omega)
 ·have h:Zef.l0 k (Zb v) (Zb v) ((Zb v).length:Int) 0=some (.inl ()):=h
  unfold Zef;rw [h];rfl
 ·obtain ⟨q1,q2⟩:=Z3k hi
  conv=>lhs;unfold Zef.l0
  rw [dlt hi,Zh hi,Zs (by omega)];simp only [Xe,Ya];unfold Znb;rw [Xa q1,Xa q2];simp only [Ya,Yh,Yb,Xf]
  by_cases h0:0<i
  ·obtain ⟨m,rfl⟩:∃m,i=m+1:=⟨i-1,by omega⟩
   have:=Zb9 hi;rw [Xa (by omega:(0:Int)<((m+1:Nat):Int)),w64 (by omega) (by omega),show ((m+1:Nat):Int)-1=(m:Int) by omega,Zh (by omega)];simp only [Xe,Ya];rw [Xb (by omega)];rfl
  ·rw [Xb (by omega:¬(0:Int)<(i:Int))]
   rfl
 ·conv=>lhs;unfold Zef.l0
  rw [Z8 (Ye _)];rfl
theorem Zy6 (v:Nat):∀k,24<k→Znc k (Zb v)=some true:=by
 intro k hk
 have hlen:=Z7d v
 have h:=Zrc (fun j i=>Znc.l0 j (Zb v) (i:Int)) (Zb v).length (.inl ()) (fun i hi j=>?_) (fun j=>?_) k (by omega)
 ·have h:Znc.l0 k (Zb v) 0=some (.inl ()):=h
  unfold Znc;rw [Xb (by omega:¬(24:Int)<((Zb v).length:Int)),h];rfl
 ·obtain ⟨q1,q2⟩:=Z3k hi
  conv=>lhs;unfold Znc.l0
  rw [dlt hi,Zh hi,Zs (by omega)];simp only [Xe,Ya];unfold Z9;rw [Xa q1,Xa q2];simp only [Ya,Yh,Yb,Xf]
  by_cases h0:0<i
  ·obtain ⟨m,rfl⟩:∃m,i=m+1:=⟨i-1,by omega⟩
   have:=Zb9 hi;rw [Xa (by omega:(0:Int)<((m+1:Nat):Int)),w64 (by omega) (by omega),show ((m+1:Nat):Int)-1=(m:Int) by omega,Zh (by omega)];simp only [Xe,Ya];rw [Xb (by omega)];rfl
  ·rw [Xb (by omega:¬(0:Int)<(i:Int))]
   rfl
 ·conv=>lhs;unfold Znc.l0
  rw [Z8 (Ye _)];rfl
def Z8e:List Nat→Nat
 | []=>0
 | x::l=>2^x+Z8e l
theorem Zn7 (a b:List Nat):Z8e (a++b)=Z8e a+Z8e b:=by
 induction a with
 | nil=>simp [Z8e]
 | cons x a ih=>rw [List.cons_append,Z8e,Z8e,ih];omega
theorem Zq1 (v:Nat):∀n,Z8e (Z1b v n)=v%2^n
 | 0=>by simp [Z1b,Z8e,Nat.mod_one]
 | n+1=>by
  have h2:v%2^(n+1)=v%2^n+2^n*(v/2^n%2):=by rw [Y3a,Nat.mod_mul]
  rw [Zhy,h2];have ht:v.testBit n=decide (v/2^n%2=1):=Y6a
  by_cases hb:v.testBit n=true
  ·rw [Xc hb,Zn7,Zq1 v n]
   rw [ht] at hb;rw [of_decide_eq_true hb];simp [Z8e]
  ·rw [Xd hb,Zq1 v n]
   rw [ht] at hb;have:v/2^n%2≠1:=fun q=>hb (Xa q)
   have:v/2^n%2=0:=by omega
   rw [this];omega
theorem Z7rb {l:List Nat} {x:Nat} (hs:l.Pairwise (· < ·)) (h:∀y∈l,y<x):Z8e l<2^x:=by
 have:∀(l:List Nat) (x:Nat),l.reverse.Pairwise (· < ·)→(∀y∈l,y<x)→Z8e l<2^x:=by
  intro l
  induction l with
  | nil=>intro x _ _;exact Nat.two_pow_pos x
  | cons a l ih=>
   intro x hs h;rw [Ywa,List.pairwise_append] at hs;have ha:=h a Ysa;have h1:=ih a hs.1 fun y hy=>hs.2.2 y (Yta.2 hy) a Ysa
   have h2:2^(a+1)≤2^x:=Yea (by omega) ha;rw [Y3a] at h2;rw [Z8e];omega
 have hr:∀l:List Nat,Z8e l.reverse=Z8e l:=by
  intro l
  induction l with
  | nil=>rfl
  | cons a l ih=>rw [Ywa,Zn7,ih,Z8e,Z8e,Z8e];omega
 rw [← hr]
 refine this _ x ?_ fun y hy=>h y (Yta.1 hy)
 rwa [List.reverse_reverse]
theorem Zxfb {x:Nat} (h:x<24):shl .i64 1 (x:Int)=((2^x:Nat):Int):=by
 have hp:2^x≤2^24:=Yea (by omega) (by omega)
 unfold shl
 rw [Yi,Y1a (by show x≤64;omega),Int.one_mul]
 have e:(2:Int)^x=((2^x:Nat):Int):=by rw [Int.natCast_pow];rfl
 rw [e]
 have h24:(2:Nat)^24=16777216:=by decide
 generalize (2:Nat)^x=p at hp ⊢
 exact w64 (by omega) (by omega)
theorem ori (a b:Nat) (ha:a<9223372036854775808) (hb:b<9223372036854775808):intBits .or .i64 (a:Int) (b:Int)=((a ||| b:Nat):Int):=by
 have h1:(Yk 64 (a:Int) ||| Yk 64 (b:Int)).toNat=a ||| b:=by
  rw [BitVec.toNat_or,Yw,Yw];have h1:((a:Int)%((2^64:Nat):Int)).toNat=a:=by omega
  have h2:((b:Int)%((2^64:Nat):Int)).toNat=b:=by omega
  rw [h1,h2]
 have hlt:a ||| b<2^63:=Nat.or_lt_two_pow (by simpa using ha) (by simpa using hb)
 unfold intBits
 show Yo .i64 (((Yk 64 (a:Int) ||| Yk 64 (b:Int)).toNat:Nat):Int)=_
 rw [h1]
 exact w64 (by omega) (by simpa using (by exact_mod_cast hlt:((a ||| b:Nat):Int)<2^63))
theorem Zggb {l:List Nat} {i:Nat} (h:i<l.length):Z8e (l.take (i+1))=Z8e (l.take i)+2^l[i]:=by
 rw [Zjj h,Zn7,Z8e,Z8e,Yza]
theorem Zhgb {v i:Nat} (h:i<(Z1b v 24).length):Z8e ((Z1b v 24).take i)<2^(Z1b v 24)[i]:=by
 refine Z7rb ((Zwr v 24).sublist (List.take_sublist _ _)) fun y hy=>?_
 obtain ⟨j,hj,rfl⟩:=Y8.1 hy
 rw [Y6] at hj
 rw [Yga]
 exact Yua.1 (Zwr v 24) j i (by omega) h (by omega)
theorem Z98 {v i:Nat} (h:i<(Z1b v 24).length):(Zb v)[i]'(by unfold Zb;rwa [Yz])=(((Z1b v 24)[i]:Nat):Int)∧(Z1b v 24)[i]<24∧2^(Z1b v 24)[i]≤8388608:=by
 have hx:=(Z9s (Yl h)).1
 refine ⟨by simp [Zb],hx,?_⟩
 have:2^(Z1b v 24)[i]≤2^23:=Yea (by omega) (by omega)
 simpa using this
theorem Zhz (v:Nat) (hv:v<16777216):∀k,24<k→Zqe k (Zb v)=some (v:Int):=by
 intro k hk
 have hlen:=Z7d v
 have hl:(Zb v).length=(Z1b v 24).length:=by unfold Zb;rw [Yz]
 have h:=Zrc (fun j i=>Zqe.l0 j ((Z8e ((Z1b v 24).take i):Nat):Int) (Zb v) ((Zb v).length:Int) (i:Int)) (Zb v).length (v:Int) (fun i hi j=>?_) (fun j=>?_) k (by omega)
 ·have h:Zqe.l0 k 0 (Zb v) ((Zb v).length:Int) 0=some (v:Int):=h
  unfold Zqe;rw [h];rfl
 ·have hi2:i<(Z1b v 24).length:=by omega
  obtain ⟨e1,e2,e3⟩:=Z98 hi2;have hs:=Zhgb hi2
  conv=>lhs;unfold Zqe.l0
  rw [dlt hi,Zh hi,Zs (by omega)];simp only [Xe,Ya];rw [e1,Zdc (by omega),Zxfb e2,ori _ _ (by omega) (by omega),Zggb hi2];simp only [Ya]
  have:Z8e ((Z1b v 24).take i) ||| 2^(Z1b v 24)[i]=Z8e ((Z1b v 24).take i)+2^(Z1b v 24)[i]:=by
   have:=Nat.two_pow_add_eq_or_of_lt hs 1;rw [Nat.mul_one] at this;rw [Nat.or_comm,← this,Nat.add_comm]
  rw [this]
 ·conv=>lhs;unfold Zqe.l0
  rw [Z8 (Ye _),hl,Y1,Zq1,Y2a (by simpa using hv)];rfl
theorem Zz0 (v:Nat) (hv:v<16777216):∀k,24<k→Zle k (Zb v)=some (v:Int):=by
 intro k hk
 have hlen:=Z7d v
 have hl:(Zb v).length=(Z1b v 24).length:=by unfold Zb;rw [Yz]
 have h:=Zrc (fun j i=>Zle.l0 j (Zb v) ((Z8e ((Z1b v 24).take i):Nat):Int) (i:Int)) (Zb v).length (v:Int) (fun i hi j=>?_) (fun j=>?_) k (by omega)
 ·have h:Zle.l0 k (Zb v) 0 0=some (v:Int):=h
  unfold Zle;rw [Zy6 v k hk];simp only [Ya,Yb,Xf];rw [h];rfl
 ·have hi2:i<(Z1b v 24).length:=by omega
  obtain ⟨e1,e2,e3⟩:=Z98 hi2;have hs:=Zhgb hi2
  conv=>lhs;unfold Zle.l0
  rw [dlt hi,Zh hi,Zs (by omega)];simp only [Xe,Ya];rw [e1,Zdc (by omega),Zxfb e2,Zggb hi2];simp only [Ya];rw [w64 (by omega) (by omega),← Int.natCast_add]
 ·conv=>lhs;unfold Zle.l0
  rw [Z8 (Ye _),hl,Y1,Zq1,Y2a (by simpa using hv)];rfl
def Zqb (s:Str) (a:Nat):Option (Int×Nat):=if (Zxd s a).2.2=0 then some ((Zxd s a).1,(Zxd s a).2.1.toNat) else none
def Z0g (s:Str) (a:Nat):Option (Str×Nat):=if (Zxh s a).2.2=0 then some ((Zxh s a).1,(Zxh s a).2.1.toNat) else none
theorem Z7i {s:Str} {a:Nat} {n:Int} {a':Nat} (h:Zqb s a=some (n,a')):Got s a n a':=by
 unfold Zqb at h
 rcases Zfl s a with ⟨m,b,e,g⟩ | ⟨c,hc,e⟩
 ·rw [e] at h
  simp only [if_true,Yi,Yja.injEq,Prod.mk.injEq] at h;obtain ⟨rfl,rfl⟩:=h;exact g
 ·rw [e,Xd hc] at h
  cases h
theorem Zs7 {s:Str} {a:Nat} {t:Str} {a':Nat} (h:Z0g s a=some (t,a')):GotT s a t a':=by
 unfold Z0g at h
 rcases Znr s a with ⟨m,b,e,g⟩ | ⟨c,hc,e⟩
 ·rw [e] at h
  simp only [if_true,Yi,Yja.injEq,Prod.mk.injEq] at h;obtain ⟨rfl,rfl⟩:=h;exact g
 ·rw [e,Xd hc] at h
  cases h
def StS (s:Str) (st:Str×Int×Bool) (p:Option Nat):Prop:=st.1=s∧∃a:Nat,st.2.1=(a:Int)∧a≤8000∧match p with
 | some q=>a=q∧st.2.2=false
 | none=>st.2.2=true
def Zd (s:Str) (p:Option Nat):Option Nat:=match p with
 | some a=>(Zqb s a).map (·.2)
 | none=>none
def Zjb (s:Str) (p:Option Nat):Option Nat:=match p with
 | some a=>(Z0g s a).map (·.2)
 | none=>none
theorem Zidb {s:Str} (hs:s.length≤8000) (a:Nat) (ha:a≤8000):StS s (Zkb s a).2 (Zd s (some a))∧∀n a',Zqb s a=some (n,a')→(Zkb s a).1=n:=by
 show StS s (Zkb s a).2 ((Zqb s a).map (·.2))∧_
 rcases Zfl s a with ⟨m,b,e,g⟩ | ⟨c,hc,e⟩
 ·have hb:=g.le
  have hr:Zkb s a=(m,s,((b:Nat):Int),false):=by unfold Zkb;rw [e];rfl
  have hn:Zqb s a=some (m,b):=by unfold Zqb;rw [e];rfl
  rw [hr,hn];exact ⟨⟨rfl,b,rfl,by omega,rfl,rfl⟩,fun n a' h=>by cases h;rfl⟩
 ·have hr:Zkb s a=(0,s,(a:Int),true):=by unfold Zkb;rw [e,Xd hc]
  have hn:Zqb s a=none:=by unfold Zqb;rw [e,Xd hc]
  rw [hr,hn];exact ⟨⟨rfl,a,rfl,ha,rfl⟩,fun n a' h=>by cases h⟩
theorem Zkgb {s:Str} (hs:s.length≤8000) (a:Nat) (ha:a≤8000):StS s (Zhg s a).2 (Zjb s (some a))∧∀n a',Z0g s a=some (n,a')→(Zhg s a).1=n:=by
 show StS s (Zhg s a).2 ((Z0g s a).map (·.2))∧_
 rcases Znr s a with ⟨m,b,e,g⟩ | ⟨c,hc,e⟩
 ·have hb:=g.le
  have hr:Zhg s a=(m,s,((b:Nat):Int),false):=by unfold Zhg;rw [e];rfl
  have hn:Z0g s a=some (m,b):=by unfold Z0g;rw [e];rfl
  rw [hr,hn];exact ⟨⟨rfl,b,rfl,by omega,rfl,rfl⟩,fun n a' h=>by cases h;rfl⟩
 ·have hr:Zhg s a=([],s,(a:Int),true):=by unfold Zhg;rw [e,Xd hc]
  have hn:Z0g s a=none:=by unfold Z0g;rw [e,Xd hc]
  rw [hr,hn];exact ⟨⟨rfl,a,rfl,ha,rfl⟩,fun n a' h=>by cases h⟩
theorem StS.form {s:Str} {st:Str×Int×Bool} {p:Option Nat} (h:StS s st p):(∃a,p=some a∧a≤8000∧st=(s,((a:Int),false)))∨∃a:Nat,p=none∧a≤8000∧st=(s,((a:Int),true)):=by
 obtain ⟨x,y,z⟩:=st
 obtain ⟨rfl,a,h1,h2,h3⟩:=h
 have h1:y=(a:Int):=h1
 subst h1
 cases p with
 | some q=>
  obtain ⟨h4,h5⟩:=h3;have h5:z=false:=h5;exact .inl ⟨q,rfl,by omega,by rw [h4,h5]⟩
 | none=>
  have h3:z=true:=h3;exact .inr ⟨a,rfl,h2,by rw [h3]⟩
theorem Zpn {s:Str} (hs:s.length≤8000) {st:Str×Int×Bool} {p:Option Nat} (h:StS s st p):∃v,(Zc fun k=>Zoc k st=some v)∧StS s v.2 (Zd s p)∧∀a n a',p=some a→Zqb s a=some (n,a')→v.1=n:=by
 rcases h.form with ⟨a,rfl,ha,rfl⟩ | ⟨a,rfl,ha,rfl⟩
 ·obtain ⟨h1,h2⟩:=Zidb hs a ha
  exact ⟨_,Zvu s a (by omega) hs,h1,fun a0 n a' e h=>by cases e;exact h2 n a' h⟩
 ·exact ⟨_,Z16 s a (by omega) hs,⟨rfl,a,rfl,ha,rfl⟩,fun a0 n a' e=>by cases e⟩
theorem Znfb {s:Str} (hs:s.length≤8000) {st:Str×Int×Bool} {p:Option Nat} (h:StS s st p):∃v,(Zc fun k=>Z6h k st=some v)∧StS s v.2 (Zjb s p)∧∀a n a',p=some a→Z0g s a=some (n,a')→v.1=n:=by
 rcases h.form with ⟨a,rfl,ha,rfl⟩ | ⟨a,rfl,ha,rfl⟩
 ·obtain ⟨h1,h2⟩:=Zkgb hs a ha
  exact ⟨_,Zofb s a (by omega) hs,h1,fun a0 n a' e h=>by cases e;exact h2 n a' h⟩
 ·exact ⟨_,Zb1 s a (by omega) hs,⟨rfl,a,rfl,ha,rfl⟩,fun a0 n a' e=>by cases e⟩
theorem Zhk {s:Str} (hs:s.length≤8000) {st:Str×Int×Bool} {p:Option Nat} (h:StS s st p):∃v,(Zc fun k=>Zqc k st=some v)∧StS s v.2 (Zd s p)∧∀a n a',p=some a→Zqb s a=some (n,a')→v.1=n:=by
 rcases h.form with ⟨a,rfl,ha,rfl⟩ | ⟨a,rfl,ha,rfl⟩
 ·obtain ⟨h1,h2⟩:=Zidb hs a ha
  exact ⟨_,Ze4 s a (by omega) (by omega),h1,fun a0 n a' e h=>by cases e;exact h2 n a' h⟩
 ·obtain ⟨n,a',h1,h2⟩:=Z1lb s a (by omega) (by omega)
  exact ⟨_,h1,⟨rfl,a',rfl,by omega,rfl⟩,fun a0 n a' e=>by cases e⟩
theorem Zj4 {s:Str} (hs:s.length≤8000) {st:Str×Int×Bool} {p:Option Nat} (h:StS s st p):∃v,(Zc fun k=>Z7g k st=some v)∧StS s v.2 (Zjb s p)∧∀a n a',p=some a→Z0g s a=some (n,a')→v.1=n:=by
 rcases h.form with ⟨a,rfl,ha,rfl⟩ | ⟨a,rfl,ha,rfl⟩
 ·obtain ⟨h1,h2⟩:=Zkgb hs a ha
  exact ⟨_,Z5bb s a (by omega) (by omega),h1,fun a0 n a' e h=>by cases e;exact h2 n a' h⟩
 ·obtain ⟨n,a',h1,h2⟩:=Z6bb s a (by omega) (by omega)
  exact ⟨_,h1,⟨rfl,a',rfl,by omega,rfl⟩,fun a0 n a' e=>by cases e⟩
def stZ (s:Str):Option ((Int×Int×Int×Int×Int×Int×Int×Str)×Nat):=(Zqb s 0).bind fun x1=>(Zqb s x1.2).bind fun x2=>(Zqb s x2.2).bind fun x3=>(Zqb s x3.2).bind fun x4=>(Zqb s x4.2).bind fun x5=>(Zqb s x5.2).bind fun x6=>(Zqb s x6.2).bind fun x7=>(Z0g s x7.2).map fun t=>((x1.1,x2.1,x3.1,x4.1,x5.1,x6.1,x7.1,t.1),t.2)
theorem Zqqb (s:Str) (hs:s.length≤8000):∃v1 v2 v3 v4 v5 v6 v7:Int×Str×Int×Bool,∃v8:Str×Str×Int×Bool,(Zc fun k=>Zoc k (s,(0,false))=some v1∧Zoc k v1.2=some v2∧Zoc k v2.2=some v3∧Zoc k v3.2=some v4∧Zoc k v4.2=some v5∧Zoc k v5.2=some v6∧Zoc k v6.2=some v7∧Z6h k v7.2=some v8) ∧
  ((∃d:Nat,stZ s=some ((v1.1,v2.1,v3.1,v4.1,v5.1,v6.1,v7.1,v8.1),d)∧v8.2=(s,((d:Nat):Int),false))∨(stZ s=none∧v8.2.2.2=true)):=by
 have h0:StS s (s,((0:Nat):Int),false) (some 0):=⟨rfl,0,rfl,by omega,rfl,rfl⟩
 obtain ⟨v1,e1,h1,g1⟩:=Zpn hs h0
 obtain ⟨v2,e2,h2,g2⟩:=Zpn hs h1
 obtain ⟨v3,e3,h3,g3⟩:=Zpn hs h2
 obtain ⟨v4,e4,h4,g4⟩:=Zpn hs h3
 obtain ⟨v5,e5,h5,g5⟩:=Zpn hs h4
 obtain ⟨v6,e6,h6,g6⟩:=Zpn hs h5
 obtain ⟨v7,e7,h7,g7⟩:=Zpn hs h6
 obtain ⟨v8,e8,h8,g8⟩:=Znfb hs h7
 refine ⟨v1,v2,v3,v4,v5,v6,v7,v8,(((((((e1.and e2).and e3).and e4).and e5).and e6).and e7).and e8).mono fun k ⟨⟨⟨⟨⟨⟨⟨q1,q2⟩,q3⟩,q4⟩,q5⟩,q6⟩,q7⟩,q8⟩=>⟨q1,q2,q3,q4,q5,q6,q7,q8⟩,?_⟩
 clear e1 e2 e3 e4 e5 e6 e7 e8 h0 h1 h2 h3 h4 h5 h6 h7
 have bad:∀{st:Str×Int×Bool},StS s st none→st.2.2=true:=fun h=>h.2.choose_spec.2.2
 cases x1:Zqb s 0 with
 | none=>
  refine .inr ⟨by simp [stZ,x1],bad (st:=v8.2) ?_⟩;have:Zjb s (Zd s (Zd s (Zd s (Zd s (Zd s (Zd s (Zd s (some 0))))))))=none:=by simp [Zd,Zjb,x1]
  rwa [this] at h8
 | some y1=>
 obtain ⟨n1,a1⟩:=y1
 cases x2:Zqb s a1 with
 | none=>
  refine .inr ⟨by simp [stZ,x1,x2],bad (st:=v8.2) ?_⟩;have:Zjb s (Zd s (Zd s (Zd s (Zd s (Zd s (Zd s (Zd s (some 0))))))))=none:=by simp [Zd,Zjb,x1,x2]
  rwa [this] at h8
 | some y2=>
 obtain ⟨n2,a2⟩:=y2
 cases x3:Zqb s a2 with
 | none=>
  refine .inr ⟨by simp [stZ,x1,x2,x3],bad (st:=v8.2) ?_⟩;have:Zjb s (Zd s (Zd s (Zd s (Zd s (Zd s (Zd s (Zd s (some 0))))))))=none:=by simp [Zd,Zjb,x1,x2,x3]
  rwa [this] at h8
 | some y3=>
 obtain ⟨n3,a3⟩:=y3
 cases x4:Zqb s a3 with
 | none=>
  refine .inr ⟨by simp [stZ,x1,x2,x3,x4],bad (st:=v8.2) ?_⟩;have:Zjb s (Zd s (Zd s (Zd s (Zd s (Zd s (Zd s (Zd s (some 0))))))))=none:=by simp [Zd,Zjb,x1,x2,x3,x4]
  rwa [this] at h8
 | some y4=>
 obtain ⟨n4,a4⟩:=y4
 cases x5:Zqb s a4 with
 | none=>
  refine .inr ⟨by simp [stZ,x1,x2,x3,x4,x5],bad (st:=v8.2) ?_⟩;have:Zjb s (Zd s (Zd s (Zd s (Zd s (Zd s (Zd s (Zd s (some 0))))))))=none:=by simp [Zd,Zjb,x1,x2,x3,x4,x5]
  rwa [this] at h8
 | some y5=>
 obtain ⟨n5,a5⟩:=y5
 cases x6:Zqb s a5 with
 | none=>
  refine .inr ⟨by simp [stZ,x1,x2,x3,x4,x5,x6],bad (st:=v8.2) ?_⟩;have:Zjb s (Zd s (Zd s (Zd s (Zd s (Zd s (Zd s (Zd s (some 0))))))))=none:=by simp [Zd,Zjb,x1,x2,x3,x4,x5,x6]
  rwa [this] at h8
 | some y6=>
 obtain ⟨n6,a6⟩:=y6
 cases x7:Zqb s a6 with
 | none=>
  refine .inr ⟨by simp [stZ,x1,x2,x3,x4,x5,x6,x7],bad (st:=v8.2) ?_⟩;have:Zjb s (Zd s (Zd s (Zd s (Zd s (Zd s (Zd s (Zd s (some 0))))))))=none:=by simp [Zd,Zjb,x1,x2,x3,x4,x5,x6,x7]
  rwa [this] at h8
 | some y7=>
 obtain ⟨n7,a7⟩:=y7
 cases x8:Z0g s a7 with
 | none=>
  refine .inr ⟨by simp [stZ,x1,x2,x3,x4,x5,x6,x7,x8],bad (st:=v8.2) ?_⟩;have:Zjb s (Zd s (Zd s (Zd s (Zd s (Zd s (Zd s (Zd s (some 0))))))))=none:=by simp [Zd,Zjb,x1,x2,x3,x4,x5,x6,x7,x8]
  rwa [this] at h8
 | some y8=>
  obtain ⟨t,d⟩:=y8;have p1:Zd s (some 0)=some a1:=by simp [Zd,x1]
  have p2:Zd s (Zd s (some 0))=some a2:=by simp [Zd,x1,x2]
  have p3:Zd s (Zd s (Zd s (some 0)))=some a3:=by simp [Zd,x1,x2,x3]
  have p4:Zd s (Zd s (Zd s (Zd s (some 0))))=some a4:=by simp [Zd,x1,x2,x3,x4]
  have p5:Zd s (Zd s (Zd s (Zd s (Zd s (some 0)))))=some a5:=by simp [Zd,x1,x2,x3,x4,x5]
  have p6:Zd s (Zd s (Zd s (Zd s (Zd s (Zd s (some 0))))))=some a6:=by simp [Zd,x1,x2,x3,x4,x5,x6]
  have p7:Zd s (Zd s (Zd s (Zd s (Zd s (Zd s (Zd s (some 0)))))))=some a7:=by simp [Zd,x1,x2,x3,x4,x5,x6,x7]
  have p8:Zjb s (Zd s (Zd s (Zd s (Zd s (Zd s (Zd s (Zd s (some 0))))))))=some d:=by simp [Zd,Zjb,x1,x2,x3,x4,x5,x6,x7,x8]
  have r1:=g1 _ _ _ rfl x1;have r2:=g2 _ _ _ p1 x2;have r3:=g3 _ _ _ p2 x3;have r4:=g4 _ _ _ p3 x4;have r5:=g5 _ _ _ p4 x5;have r6:=g6 _ _ _ p5 x6;have r7:=g7 _ _ _ p6 x7;have r8:=g8 _ _ _ p7 x8;refine .inl ⟨d,?_,?_⟩
  ·rw [r1,r2,r3,r4,r5,r6,r7,r8]
   simp [stZ,x1,x2,x3,x4,x5,x6,x7,x8]
  ·rw [p8] at h8
   rcases h8.form with ⟨a,e,_,q⟩ | ⟨a,e,_,q⟩
   ·cases e;exact q
   ·cases e
theorem Z5lb (s:Str) (hs:s.length≤8000):∃v1 v2 v3 v4 v5 v6 v7:Int×Str×Int×Bool,∃v8:Str×Str×Int×Bool,(Zc fun k=>Zqc k (s,(0,false))=some v1∧Zqc k v1.2=some v2∧Zqc k v2.2=some v3∧Zqc k v3.2=some v4∧Zqc k v4.2=some v5∧Zqc k v5.2=some v6∧Zqc k v6.2=some v7∧Z7g k v7.2=some v8) ∧
  ((∃d:Nat,stZ s=some ((v1.1,v2.1,v3.1,v4.1,v5.1,v6.1,v7.1,v8.1),d)∧v8.2=(s,((d:Nat):Int),false))∨(stZ s=none∧v8.2.2.2=true)):=by
 have h0:StS s (s,((0:Nat):Int),false) (some 0):=⟨rfl,0,rfl,by omega,rfl,rfl⟩
 obtain ⟨v1,e1,h1,g1⟩:=Zhk hs h0
 obtain ⟨v2,e2,h2,g2⟩:=Zhk hs h1
 obtain ⟨v3,e3,h3,g3⟩:=Zhk hs h2
 obtain ⟨v4,e4,h4,g4⟩:=Zhk hs h3
 obtain ⟨v5,e5,h5,g5⟩:=Zhk hs h4
 obtain ⟨v6,e6,h6,g6⟩:=Zhk hs h5
 obtain ⟨v7,e7,h7,g7⟩:=Zhk hs h6
 obtain ⟨v8,e8,h8,g8⟩:=Zj4 hs h7
 refine ⟨v1,v2,v3,v4,v5,v6,v7,v8,(((((((e1.and e2).and e3).and e4).and e5).and e6).and e7).and e8).mono fun k ⟨⟨⟨⟨⟨⟨⟨q1,q2⟩,q3⟩,q4⟩,q5⟩,q6⟩,q7⟩,q8⟩=>⟨q1,q2,q3,q4,q5,q6,q7,q8⟩,?_⟩
 clear e1 e2 e3 e4 e5 e6 e7 e8 h0 h1 h2 h3 h4 h5 h6 h7
 have bad:∀{st:Str×Int×Bool},StS s st none→st.2.2=true:=fun h=>h.2.choose_spec.2.2
 cases x1:Zqb s 0 with
 | none=>
  refine .inr ⟨by simp [stZ,x1],bad (st:=v8.2) ?_⟩;have:Zjb s (Zd s (Zd s (Zd s (Zd s (Zd s (Zd s (Zd s (some 0))))))))=none:=by simp [Zd,Zjb,x1]
  rwa [this] at h8
 | some y1=>
 obtain ⟨n1,a1⟩:=y1
 cases x2:Zqb s a1 with
 | none=>
  refine .inr ⟨by simp [stZ,x1,x2],bad (st:=v8.2) ?_⟩;have:Zjb s (Zd s (Zd s (Zd s (Zd s (Zd s (Zd s (Zd s (some 0))))))))=none:=by simp [Zd,Zjb,x1,x2]
  rwa [this] at h8
 | some y2=>
 obtain ⟨n2,a2⟩:=y2
 cases x3:Zqb s a2 with
 | none=>
  refine .inr ⟨by simp [stZ,x1,x2,x3],bad (st:=v8.2) ?_⟩;have:Zjb s (Zd s (Zd s (Zd s (Zd s (Zd s (Zd s (Zd s (some 0))))))))=none:=by simp [Zd,Zjb,x1,x2,x3]
  rwa [this] at h8
 | some y3=>
 obtain ⟨n3,a3⟩:=y3
 cases x4:Zqb s a3 with
 | none=>
  refine .inr ⟨by simp [stZ,x1,x2,x3,x4],bad (st:=v8.2) ?_⟩;have:Zjb s (Zd s (Zd s (Zd s (Zd s (Zd s (Zd s (Zd s (some 0))))))))=none:=by simp [Zd,Zjb,x1,x2,x3,x4]
  rwa [this] at h8
 | some y4=>
 obtain ⟨n4,a4⟩:=y4
 cases x5:Zqb s a4 with
 | none=>
  refine .inr ⟨by simp [stZ,x1,x2,x3,x4,x5],bad (st:=v8.2) ?_⟩;have:Zjb s (Zd s (Zd s (Zd s (Zd s (Zd s (Zd s (Zd s (some 0))))))))=none:=by simp [Zd,Zjb,x1,x2,x3,x4,x5]
  rwa [this] at h8
 | some y5=>
 obtain ⟨n5,a5⟩:=y5
 cases x6:Zqb s a5 with
 | none=>
  refine .inr ⟨by simp [stZ,x1,x2,x3,x4,x5,x6],bad (st:=v8.2) ?_⟩;have:Zjb s (Zd s (Zd s (Zd s (Zd s (Zd s (Zd s (Zd s (some 0))))))))=none:=by simp [Zd,Zjb,x1,x2,x3,x4,x5,x6]
  rwa [this] at h8
 | some y6=>
 obtain ⟨n6,a6⟩:=y6
 cases x7:Zqb s a6 with
 | none=>
  refine .inr ⟨by simp [stZ,x1,x2,x3,x4,x5,x6,x7],bad (st:=v8.2) ?_⟩;have:Zjb s (Zd s (Zd s (Zd s (Zd s (Zd s (Zd s (Zd s (some 0))))))))=none:=by simp [Zd,Zjb,x1,x2,x3,x4,x5,x6,x7]
  rwa [this] at h8
 | some y7=>
 obtain ⟨n7,a7⟩:=y7
 cases x8:Z0g s a7 with
 | none=>
  refine .inr ⟨by simp [stZ,x1,x2,x3,x4,x5,x6,x7,x8],bad (st:=v8.2) ?_⟩;have:Zjb s (Zd s (Zd s (Zd s (Zd s (Zd s (Zd s (Zd s (some 0))))))))=none:=by simp [Zd,Zjb,x1,x2,x3,x4,x5,x6,x7,x8]
  rwa [this] at h8
 | some y8=>
  obtain ⟨t,d⟩:=y8;have p1:Zd s (some 0)=some a1:=by simp [Zd,x1]
  have p2:Zd s (Zd s (some 0))=some a2:=by simp [Zd,x1,x2]
  have p3:Zd s (Zd s (Zd s (some 0)))=some a3:=by simp [Zd,x1,x2,x3]
  have p4:Zd s (Zd s (Zd s (Zd s (some 0))))=some a4:=by simp [Zd,x1,x2,x3,x4]
  have p5:Zd s (Zd s (Zd s (Zd s (Zd s (some 0)))))=some a5:=by simp [Zd,x1,x2,x3,x4,x5]
  have p6:Zd s (Zd s (Zd s (Zd s (Zd s (Zd s (some 0))))))=some a6:=by simp [Zd,x1,x2,x3,x4,x5,x6]
  have p7:Zd s (Zd s (Zd s (Zd s (Zd s (Zd s (Zd s (some 0)))))))=some a7:=by simp [Zd,x1,x2,x3,x4,x5,x6,x7]
  have p8:Zjb s (Zd s (Zd s (Zd s (Zd s (Zd s (Zd s (Zd s (some 0))))))))=some d:=by simp [Zd,Zjb,x1,x2,x3,x4,x5,x6,x7,x8]
  have r1:=g1 _ _ _ rfl x1;have r2:=g2 _ _ _ p1 x2;have r3:=g3 _ _ _ p2 x3;have r4:=g4 _ _ _ p3 x4;have r5:=g5 _ _ _ p4 x5;have r6:=g6 _ _ _ p5 x6;have r7:=g7 _ _ _ p6 x7;have r8:=g8 _ _ _ p7 x8;refine .inl ⟨d,?_,?_⟩
  ·rw [r1,r2,r3,r4,r5,r6,r7,r8]
   simp [stZ,x1,x2,x3,x4,x5,x6,x7,x8]
  ·rw [p8] at h8
   rcases h8.form with ⟨a,e,_,q⟩ | ⟨a,e,_,q⟩
   ·cases e;exact q
   ·cases e
abbrev StT:=Int×Int×Int×Int×Int×Str×List Int×List Int
def stT (op part steps slots moves:Int) (mem:Str) (v w:Nat):StT:=(op,part,steps,slots,moves,mem,Zb v,Zb w)
def Zzg (op part steps slots moves:Int) (mem:Str) (v w:Nat):Bool:=(decide (1≤op)&&decide (op≤5))&&(decide (v &&& w=0)&&(if op=1 then decide (part=0∧steps=0∧slots=0∧moves=0∧mem=[]∧(Zb w).length=0) else decide ((1≤steps∧steps≤20)∧(0≤slots∧slots≤4)∧((Zb w).length:Int)=steps+slots∧mem.length=32∧(0≤part∧part≤2)∧(0≤moves∧moves≤40)∧(part=0∨op=4)∧(moves=0∨op=5))))
theorem andi (a b:Nat) (ha:a<16777216) (hb:b<16777216):intBits .and .i64 (a:Int) (b:Int)=((a &&& b:Nat):Int):=by
 have h1:(Yk 64 (a:Int) &&& Yk 64 (b:Int)).toNat=a &&& b:=by
  rw [Yka,Yw,Yw];have h1:((a:Int)%((2^64:Nat):Int)).toNat=a:=by omega
  have h2:((b:Int)%((2^64:Nat):Int)).toNat=b:=by omega
  rw [h1,h2]
 have hlt:a &&& b≤a:=Nat.and_le_left
 unfold intBits
 show Yo .i64 (((Yk 64 (a:Int) &&& Yk 64 (b:Int)).toNat:Nat):Int)=_
 rw [h1]
 exact w64 (by omega) (by omega)
theorem Zqlb (op part steps slots moves:Int) (mem:Str) (v w:Nat) (hv:v<16777216) (hw:w<16777216):∀k,24<k→Z7p k (stT op part steps slots moves mem v w)=some (Zzg op part steps slots moves mem v w):=by
 intro k hk
 have hl:=Z7d w
 have W:∀a b c:Int,Znb a b c=some (decide (b≤a)&&decide (a≤c)):=fun _ _ _=>rfl
 have Z:Zcs (Zb w)=some ((Zb w).length:Int):=rfl
 unfold Z7p stT
 dsimp only
 rw [W]
 simp only [Ya]
 unfold Zzg
 by_cases h1:(decide (1≤op)&&decide (op≤5))=true
 ·rw [h1]
  simp only [Yb,Xf,Yj];refine Za (Z0bb v k hk) ?_;simp only [Yb,Xf];refine Za (Z0bb w k hk) ?_;simp only [Yb,Xf];refine Za (Zhz v hv k hk) (Za (Zhz w hw k hk) ?_);rw [andi v w hv hw]
  by_cases h2:v &&& w=0
  ·rw [h2]
   simp only [decide_true,Yj];rw [show (((0:Nat):Int) != 0)=false from rfl];simp only [Xf]
   by_cases h3:op=1
   ·rw [show (op==1)=true by simpa using h3,Xc h3,Xe]
    congr 1;rw [Y2];simp only [Yf,beq_iff_eq,decide_eq_true_eq];constructor
    ·rintro ⟨⟨⟨⟨⟨a,b⟩,c⟩,d⟩,e⟩,f⟩
     exact ⟨a,b,c,d,e,by omega⟩
    ·rintro ⟨a,b,c,d,e,f⟩
     exact ⟨⟨⟨⟨⟨a,b⟩,c⟩,d⟩,e⟩,by omega⟩
   ·rw [show (op==1)=false by simpa using h3,Xd h3,Xf]
    have two:∀{a b:Prop} [Decidable a] [Decidable b],¬(a∧b)→(decide a&&decide b)=false:=fun {a b} _ _ h=>by
     rw [Yr,decide_eq_false_iff_not,decide_eq_false_iff_not];exact Classical.not_and_iff_not_or_not.1 h
    by_cases c1:1≤steps∧steps≤20
    ·refine Za (W steps 1 20) ?_
     rw [Xa c1.1,Xa c1.2];simp only [Yh,Xe]
     by_cases c2:0≤slots∧slots≤4
     ·refine Za (W slots 0 4) ?_
      rw [Xa c2.1,Xa c2.2];simp only [Yh,Xe];refine Za Z ?_;rw [w64 (n:=steps+slots) (by omega) (by omega)]
      by_cases c3:((Zb w).length:Int)=steps+slots
      ·rw [show (((Zb w).length:Int)==steps+slots)=true by simpa using c3,Xe]
       by_cases c4:mem.length=32
       ·rw [show ((mem.length:Int)==32)=true by simp;omega,Xe]
        refine Za (W part 0 2) ?_
        by_cases c5:0≤part∧part≤2
        ·rw [Xa c5.1,Xa c5.2]
         simp only [Yh,Xe]
         have tail:((Znb moves 0 40).bind fun v14=>bif v14 then bif moves==0 then some true else some (op==5) else some false)=some (decide ((0≤moves∧moves≤40)∧(moves=0∨op=5))):=by
          refine Za (W moves 0 40) ?_
          by_cases c6:0≤moves∧moves≤40
          ·rw [Xa c6.1,Xa c6.2]
           simp only [Yh,Xe]
           by_cases c7:moves=0
           ·rw [show (moves==0)=true by simpa using c7,Xa ⟨c6,.inl c7⟩]
            rfl
           ·rw [show (moves==0)=false by simpa using c7,Xf]
            congr 1;rw [Zei];exact decide_eq_decide.2 ⟨fun q=>⟨c6,.inr q⟩,fun q=>q.2.resolve_left c7⟩
          ·rw [two c6,Xb (fun q=>c6 q.1)]
           rfl
         by_cases c7:part=0
         ·rw [show (part==0)=true by simpa using c7,Xe]
          refine tail.trans ?_;congr 1;exact decide_eq_decide.2 ⟨fun q=>⟨c1,c2,c3,c4,c5,q.1,.inl c7,q.2⟩,fun q=>⟨q.2.2.2.2.2.1,q.2.2.2.2.2.2.2⟩⟩
         ·rw [show (part==0)=false by simpa using c7,Xf]
          by_cases c8:op=4
          ·rw [show (op==4)=true by simpa using c8,Xe]
           refine tail.trans ?_;congr 1;exact decide_eq_decide.2 ⟨fun q=>⟨c1,c2,c3,c4,c5,q.1,.inr c8,q.2⟩,fun q=>⟨q.2.2.2.2.2.1,q.2.2.2.2.2.2.2⟩⟩
          ·rw [show (op==4)=false by simpa using c8,Xb (fun q=>q.2.2.2.2.2.2.1.elim c7 c8)]
           rfl
        ·rw [two c5,Xb (fun q=>c5 q.2.2.2.2.1)]
         rfl
       ·rw [show ((mem.length:Int)==32)=false by simp;omega,Xb (fun q=>c4 q.2.2.2.1)]
        rfl
      ·rw [show (((Zb w).length:Int)==steps+slots)=false by simpa using c3,Xb (fun q=>c3 q.2.2.1)]
       rfl
     ·refine Za (W slots 0 4) ?_
      rw [two c2,Xb (fun q=>c2 q.2.1)];rfl
    ·refine Za (W steps 1 20) ?_
     rw [two c1,Xb (fun q=>c1 q.1)];rfl
  ·rw [show (((v &&& w:Nat):Int) != 0)=true by simp;omega,Xb h2]
   rfl
 ·rw [Y9.2 h1]
  rfl
theorem Zoo {v n:Nat}:((n:Nat):Int)∈Zb v ↔ n<24∧v.testBit n=true:=by
 unfold Zb Z1b
 rw [Yia]
 constructor
 ·rintro ⟨m,hm,e⟩
  rw [Y7,Yq] at hm;have:m=n:=by omega
  rwa [this] at hm
 ·intro h
  exact ⟨n,by rw [Y7,Yq];exact h,rfl⟩
theorem Z30 (l:List Int) (x:Int) (hl:l.length≤1000):∀k,l.length<k→Ztd k l x=some (decide (x∈l)):=by
 intro k hk
 have run:=Zii (fun j i=>Ztd.l0 j l x i) l (fun y=>y==x) (.inl ()) (fun _=>.inr true) (fun i hi=>by
  constructor
  ·intro hp j
   show Ztd.l0 (j+1) l x (i:Int)=Ztd.l0 j l x ((i+1:Nat):Int);rw [Ztd.l0,dlt hi,Zh hi,Zs (by omega)];simp only [Xe,Ya,hp,Xf]
  ·intro hp j
   show Ztd.l0 (j+1) l x (i:Int)=_;rw [Ztd.l0,dlt hi,Zh hi];simp only [Xe,Ya,hp]) (fun j=>by
  show Ztd.l0 (j+1) l x (l.length:Int)=_;rw [Ztd.l0,Z8 (Ye _)];rfl) hk
 have run:Ztd.l0 k l x 0=_:=run
 have ha:=Zpt (p:=fun y:Int=>y==x) (l:=l) (n:=0)
 unfold Ztd
 rw [run]
 cases hf:Zmb (fun y:Int=>y==x) l 0 with
 | some m=>
  rw [hf] at ha;obtain ⟨y,hy,hy2⟩:=Yba.1 ha.symm;have:y=x:=by simpa using hy2
  rw [Xa (this▸hy)];rfl
 | none=>
  rw [hf] at ha
  have:x∉l:=fun hx=>by
   have h2:(l.any fun y=>y==x)=true:=Yba.2 ⟨x,hx,by simp⟩;rw [h2] at ha;cases ha
  rw [Xb this];rfl
theorem Zwpb (op part steps slots moves:Int) (mem:Str) (v w:Nat) (hv:v<16777216) {k:Nat} (hk:100≤k):Z6e.l0 k k op part steps slots moves mem (Zb v) (Zb w) 0=some (if v &&& w=0 then .inl () else .inr false):=by
 have hl:=Z7d w
 have hl2:=Z7d v
 have h:=Zwz (fun j i=>Z6e.l0 k j op part steps slots moves mem (Zb v) (Zb w) (i:Int)) (Zb w).length (fun i=>!decide ((Zb w).getD i 0∈Zb v)) (fun _=>false) (fun i hi hp j=>?_) (fun i hi hp j=>?_) (fun j=>?_)
 ·have key:(Yg (Zb w).length).all (fun i=>!decide ((Zb w).getD i 0∈Zb v))=true ↔ v &&& w=0:=by
   rw [Yt];constructor
   ·intro h
    apply Nat.eq_of_testBit_eq;intro n;rw [Y5a,Y8a];cases q1:v.testBit n with
    | false=>rfl
    | true=>
     cases q2:w.testBit n with
     | false=>rfl
     | true=>
      have hn:n<24:=by
       refine Nat.not_le.1 fun q=>?_
       have:v<2^n:=Nat.lt_of_lt_of_le hv (by have:=Yea (n:=2) (by omega) q;simpa using this);rw [Nat.testBit_lt_two_pow this] at q1;cases q1
      obtain ⟨i,hi,e⟩:=Y8.1 (Zoo.2 ⟨hn,q2⟩);have:=h i (Yq.2 hi);rw [Yc,Yd hi] at this;have h3:¬((Zb w)[i]∈Zb v):=by simpa using this
      exact absurd (by rw [e];exact Zoo.2 ⟨hn,q1⟩) h3
   ·intro h i hi
    have hi:=Yq.1 hi;rw [Yc,Yd hi]
    have:¬((Zb w)[i]∈Zb v):=fun hm=>by
     have hw:=Yl hi;obtain ⟨n,hn,e⟩:=Yia.1 hw;rw [← e] at hm hw;have a:=(Zoo.1 hm).2;have b:=(Zoo.1 hw).2;have:=congrArg (Nat.testBit · n) h;simp only [Y5a,Y8a,a,b] at this;cases this
    simpa using this
  rcases h with ⟨h1,h2⟩ | ⟨h1,i,_,_,h2⟩
  ·rw [Xc (key.1 h1)]
   exact h2 k (by omega)
  ·rw [Xd (fun q=>by rw [key.2 q] at h1;cases h1)]
   exact h2 k (by omega)
 ·have hp:(!decide ((Zb w).getD i 0∈Zb v))=true:=hp
  rw [Yc,Yd hi] at hp;have hp:(!decide ((Zb w)[i]∈Zb v))=true:=hp
  conv=>lhs;unfold Z6e.l0
  rw [dlt hi,Zh hi,Zs (by omega)];simp only [Xe,Ya];rw [Z30 _ _ (by omega) k (by omega)];rw [Yla] at hp;rw [hp];rfl
 ·have hp:(!decide ((Zb w).getD i 0∈Zb v))=false:=hp
  rw [Yc,Yd hi] at hp;have hp:(!decide ((Zb w)[i]∈Zb v))=false:=hp
  conv=>lhs;unfold Z6e.l0
  rw [dlt hi,Zh hi];simp only [Xe,Ya];rw [Z30 _ _ (by omega) k (by omega)];rw [Yfa] at hp;rw [hp];rfl
 ·conv=>lhs;unfold Z6e.l0
  rw [Z8 (Ye _)];rfl
theorem Z1qb (op part steps slots moves:Int) (mem:Str) (v w:Nat) (hv:v<16777216) (hw:w<16777216) {k:Nat} (hk:100≤k):Z6e k (stT op part steps slots moves mem v w)=some (Zzg op part steps slots moves mem v w):=by
 have hl:=Z7d w
 have W:∀a b c:Int,Z9 a b c=some (decide (b≤a)&&decide (a≤c)):=fun _ _ _=>rfl
 have two:∀{a b:Prop} [Decidable a] [Decidable b],¬(a∧b)→(decide a&&decide b)=false:=fun {a b} _ _ h=>by
  rw [Yr,decide_eq_false_iff_not,decide_eq_false_iff_not];exact Classical.not_and_iff_not_or_not.1 h
 unfold Z6e stT
 dsimp only
 rw [W]
 simp only [Ya]
 unfold Zzg
 by_cases h1:(decide (1≤op)&&decide (op≤5))=true
 ·rw [h1]
  simp only [Yb,Xf,Yj];refine Za (Zy6 v k (by omega)) ?_;simp only [Yb,Xf];refine Za (Zy6 w k (by omega)) ?_;simp only [Yb,Xf];refine Za (Zwpb op part steps slots moves mem v w hv hk) ?_
  by_cases h2:v &&& w=0
  ·rw [Xc h2,Xa h2]
   dsimp only;rw [Yj]
   by_cases h3:op=1
   ·rw [show (op==1)=true by simpa using h3,Xc h3,Xe]
    congr 1;rw [Y2];simp only [Yf,beq_iff_eq,decide_eq_true_eq];constructor
    ·rintro ⟨⟨⟨⟨⟨a,b⟩,c⟩,d⟩,e⟩,f⟩
     exact ⟨a,b,c,d,e,by omega⟩
    ·rintro ⟨a,b,c,d,e,f⟩
     exact ⟨⟨⟨⟨⟨a,b⟩,c⟩,d⟩,e⟩,by omega⟩
   ·rw [show (op==1)=false by simpa using h3,Xd h3,Xf]
    refine Za (W steps 1 20) ?_
    by_cases c1:1≤steps∧steps≤20
    ·rw [Xa c1.1,Xa c1.2]
     simp only [Yh,Yb,Xf];refine Za (W slots 0 4) ?_
     by_cases c2:0≤slots∧slots≤4
     ·rw [Xa c2.1,Xa c2.2,w64 (n:=steps+slots) (by omega) (by omega)]
      simp only [Yh,Yb,Ys]
      by_cases c3:((Zb w).length:Int)=steps+slots
      ·rw [show (((Zb w).length:Int) != steps+slots)=false by simpa using c3,Ys]
       by_cases c4:mem.length=32
       ·rw [show ((mem.length:Int) != 32)=false by simp;omega,Xf]
        refine Za (W part 0 2) ?_
        by_cases c5:0≤part∧part≤2
        ·rw [Xa c5.1,Xa c5.2]
         simp only [Yh,Xe];refine Za (W moves 0 40) ?_;congr 1;rw [Y2];simp only [Yf,Y4,beq_iff_eq,decide_eq_true_eq];exact ⟨fun q=>⟨c1,c2,c3,c4,c5,q.1.1,q.1.2,q.2⟩,fun q=>⟨⟨q.2.2.2.2.2.1,q.2.2.2.2.2.2.1⟩,q.2.2.2.2.2.2.2⟩⟩
        ·rw [two c5,Xb (fun q=>c5 q.2.2.2.2.1)]
         rfl
       ·rw [show ((mem.length:Int) != 32)=true by simp;omega,Xb (fun q=>c4 q.2.2.2.1)]
        rfl
      ·rw [show (((Zb w).length:Int) != steps+slots)=true by simpa using c3,Xb (fun q=>c3 q.2.2.1)]
       rfl
     ·rw [two c2,Xb (fun q=>c2 q.2.1)]
      rfl
    ·rw [two c1,Xb (fun q=>c1 q.1)]
     rfl
  ·rw [Xd h2,Xb h2]
   rfl
 ·rw [Y9.2 h1]
  rfl
theorem Z7fb {s:Str} {r:Int×Int×Int×Int×Int×Int×Int×Str} {d:Nat} (h:stZ s=some (r,d)):∃a1 a2 a3 a4 a5 a6 a7,Got s 0 r.1 a1∧Got s a1 r.2.1 a2∧Got s a2 r.2.2.1 a3∧Got s a3 r.2.2.2.1 a4∧Got s a4 r.2.2.2.2.1 a5∧Got s a5 r.2.2.2.2.2.1 a6∧Got s a6 r.2.2.2.2.2.2.1 a7∧GotT s a7 r.2.2.2.2.2.2.2 d:=by
 unfold stZ at h
 obtain ⟨⟨n1,a1⟩,h1,h⟩:=Yn.1 h
 obtain ⟨⟨n2,a2⟩,h2,h⟩:=Yn.1 h
 obtain ⟨⟨n3,a3⟩,h3,h⟩:=Yn.1 h
 obtain ⟨⟨n4,a4⟩,h4,h⟩:=Yn.1 h
 obtain ⟨⟨n5,a5⟩,h5,h⟩:=Yn.1 h
 obtain ⟨⟨n6,a6⟩,h6,h⟩:=Yn.1 h
 obtain ⟨⟨n7,a7⟩,h7,h⟩:=Yn.1 h
 obtain ⟨⟨t,d'⟩,h8,h⟩:=Y9a.1 h
 cases h
 exact ⟨a1,a2,a3,a4,a5,a6,a7,Z7i h1,Z7i h2,Z7i h3,Z7i h4,Z7i h5,Z7i h6,Z7i h7,Zs7 h8⟩
def Zdd (r:Int×Int×Int×Int×Int×Int×Int×Str):Str:=Zk r.1++Zk r.2.1++Zk r.2.2.1++Zk r.2.2.2.1++Zk r.2.2.2.2.1++Zk r.2.2.2.2.2.1++Zk r.2.2.2.2.2.2.1++Zcb r.2.2.2.2.2.2.2
theorem Zqrb {s:Str} {r:Int×Int×Int×Int×Int×Int×Int×Str} {d:Nat} (h:stZ s=some (r,d)):Zdd r=s ↔ d=s.length:=by
 obtain ⟨a1,a2,a3,a4,a5,a6,a7,g1,g2,g3,g4,g5,g6,g7,g8⟩:=Z7fb h
 have e0:s=Zdd r++s.drop d:=by
  have h1:=g1.eq;rw [Yv,g2.eq,g3.eq,g4.eq,g5.eq,g6.eq,g7.eq,g8.eq] at h1;unfold Zdd;simp only [Yp];exact h1
 have hl:d=(Zdd r).length:=by
  have:=g1.at';have:=g2.at';have:=g3.at';have:=g4.at';have:=g5.at';have:=g6.at';have:=g7.at';have:=g8.at';unfold Zdd;simp only [Ym];omega
 constructor
 ·intro h
  rw [hl,h]
 ·intro h
  rw [h,Y5,Yu] at e0;exact e0.symm
def Zpm (s:Str):Option (Int×Int×Int×Int×Int×Str×Nat×Nat):=match stZ s with
 | some (r,d)=>if d=s.length∧(0≤r.2.2.2.2.2.1∧r.2.2.2.2.2.1<16777216)∧(0≤r.2.2.2.2.2.2.1∧r.2.2.2.2.2.2.1<16777216)∧Zzg r.1 r.2.1 r.2.2.1 r.2.2.2.1 r.2.2.2.2.1 r.2.2.2.2.2.2.2 r.2.2.2.2.2.1.toNat r.2.2.2.2.2.2.1.toNat=true
  then some (r.1,r.2.1,r.2.2.1,r.2.2.2.1,r.2.2.2.2.1,r.2.2.2.2.2.2.2,r.2.2.2.2.2.1.toNat,r.2.2.2.2.2.2.1.toNat) else none
 | none=>none
theorem Zbmb (s:Str) (hs:s.length≤8000):Zc fun k=>Zgq k s=some (match Zpm s with
  | some (a,b,c,d,e,m,v,w)=>(a,b,c,d,e,m,Zb v,Zb w,true)
  | none=>(0,0,0,0,0,[],[],[],false)):=by
 obtain ⟨v1,v2,v3,v4,v5,v6,v7,v8,hE,hc⟩:=Z5lb s hs
 refine (hE.and (Zc.ge 100 fun k hk=>hk)).mono fun k ⟨⟨q1,q2,q3,q4,q5,q6,q7,q8⟩,hk⟩=>?_
 unfold Zgq
 refine Za q1 (Za q2 (Za q3 (Za q4 (Za q5 (Za q6 (Za q7 (Za q8 ?_)))))))
 unfold Zpm
 rcases hc with ⟨d,hz,h8⟩ | ⟨hz,h8⟩
 ·rw [hz,h8]
  simp only [Ys]
  by_cases hd:d=s.length
  ·rw [show (((d:Nat):Int) != (s.length:Int))=false by rw [hd];simp,Xf]
   have W:∀a b c:Int,Znb a b c=some (decide (b≤a)&&decide (a≤c)):=fun _ _ _=>rfl
   refine Za (W _ _ _) ?_
   by_cases c6:0≤v6.1∧v6.1<16777216
   ·rw [Xa c6.1,Xa (by omega:v6.1≤16777215)]
    simp only [Yh,Yb,Xf];refine Za (W _ _ _) ?_
    by_cases c7:0≤v7.1∧v7.1<16777216
    ·rw [Xa c7.1,Xa (by omega:v7.1≤16777215)]
     simp only [Yh,Yb,Xf];have f6:=Zybb v6.1.toNat (by omega) k (by omega);have f7:=Zybb v7.1.toNat (by omega) k (by omega);rw [Yy c6.1] at f6;rw [Yy c7.1] at f7;refine Za f6 (Za f7 (Za (Zqlb v1.1 v2.1 v3.1 v4.1 v5.1 v8.1 v6.1.toNat v7.1.toNat (by omega) (by omega) k (by omega)) ?_));cases hb:Zzg v1.1 v2.1 v3.1 v4.1 v5.1 v8.1 v6.1.toNat v7.1.toNat with
     | true=>
      rw [Xc ⟨hd,c6,c7,rfl⟩];rfl
     | false=>
      rw [Xd (fun q=>by cases q.2.2.2)];rfl
    ·rw [Xd (fun q=>c7 q.2.2.1)]
     by_cases z:0≤v7.1
     ·rw [Xa z,Xb (by omega:¬v7.1≤16777215)];rfl
     ·rw [Xb z];rfl
   ·rw [Xd (fun q=>c6 q.2.1)]
    by_cases z:0≤v6.1
    ·rw [Xa z,Xb (by omega:¬v6.1≤16777215)];rfl
    ·rw [Xb z];rfl
  ·rw [show (((d:Nat):Int) != (s.length:Int))=true by simp;omega,Xd (fun q=>hd q.1)]
   rfl
 ·rw [hz,h8]
  rfl
theorem Z0db {a b:Int} (ha:Num a) (hb:Num b) {x y:Str} (h:Zk a++x=Zk b++y):a=b:=by
 have h1:=Zan a ha (Zk a++x) 0 x (by rw [Yv])
 have h2:=Zan b hb (Zk a++x) 0 y (by rw [Yv,h])
 rw [h1] at h2
 injection h2
theorem Z8s:Zb 0=[]:=by decide
theorem Zqq {n:Nat} (h:n<16777216):Num (n:Int):=⟨by omega,by omega⟩
theorem Zx6 (op part steps slots moves:Int) (mem:Str) (v w:Nat) (h1:Num op) (h2:Num part) (h3:Num steps) (h4:Num slots) (h5:Num moves) (hv:v<16777216) (hw:w<16777216) (hm:mem.length≤8000):
  Zc fun k=>Zuk k (stT op part steps slots moves mem v w)=some (Zdd (op,part,steps,slots,moves,(v:Int),(w:Int),mem)):=by
 have l1:=Zuc op
 have l2:=Zuc part
 have l3:=Zuc steps
 have l4:=Zuc slots
 have l5:=Zuc moves
 have l6:=Zuc (v:Int)
 have l7:=Zuc (w:Int)
 have l8:=Zok mem
 refine (((((((((Zdj op h1).and (Zdj part h2)).and (Zdj steps h3)).and (Zdj slots h4)).and (Zdj moves h5)).and (Zdj (v:Int) (Zqq hv))).and (Zdj (w:Int) (Zqq hw))).and (Z90 mem hm)).and (Zc.ge 100 fun k hk=>hk)).mono fun k ⟨⟨⟨⟨⟨⟨⟨⟨q1,q2⟩,q3⟩,q4⟩,q5⟩,q6⟩,q7⟩,q8⟩,hk⟩=>?_
 unfold Zuk stT
 refine Za q1 (Za q2 (Za (Zwd (by omega)) (Za q3 (Za (Zwd (by simp;omega)) (Za q4 (Za (Zwd (by simp;omega)) (Za q5 (Za (Zwd (by simp;omega)) ?_))))))))
 refine Za (Zz0 v hv k (by omega)) (Za q6 (Za (Zwd (by simp;omega)) (Za (Zz0 w hw k (by omega)) (Za q7 (Za (Zwd (by simp;omega)) (Za q8 (Za (Zwd (by simp;omega)) rfl)))))))
theorem Zlfb (op part steps slots moves:Int) (mem:Str) (v w:Nat) (h1:Num op) (h2:Num part) (h3:Num steps) (h4:Num slots) (h5:Num moves) (hv:v<16777216) (hw:w<16777216) (hm:mem.length≤8000):
  Zc fun k=>Ztk k (stT op part steps slots moves mem v w)=some (if Zzg op part steps slots moves mem v w=true then Zdd (op,part,steps,slots,moves,(v:Int),(w:Int),mem) else []):=by
 refine ((Zx6 op part steps slots moves mem v w h1 h2 h3 h4 h5 hv hw hm).and (Zc.ge 100 fun k hk=>hk)).mono fun k ⟨q,hk⟩=>?_
 unfold Ztk
 refine Za (Z1qb op part steps slots moves mem v w hv hw hk) ?_
 cases Zzg op part steps slots moves mem v w with
 | true=>
  simp only [Yb,Xf,if_true];exact Za q rfl
 | false=>rfl
def Zoi (n:Int):Nat:=if 0≤n∧n<16777216 then n.toNat else 0
theorem Zat (n:Int):Zoi n<16777216:=by unfold Zoi;split <;> omega
theorem Z20 (n:Int) {k:Nat} (hk:24<k):Z1d k n=some (Zb (Zoi n)):=by
 unfold Zoi
 by_cases h:0≤n∧n<16777216
 ·rw [Xc h]
  have:=Zcfb n.toNat (by omega) k hk
  rwa [Yy h.1] at this
 ·rw [Xd h,Zgqb n (by omega) k,Z8s]
theorem Zorb {r:Int×Int×Int×Int×Int×Int×Int×Str} {a b:Int} {z:Str} (h6:Num r.2.2.2.2.2.1) (h7:Num r.2.2.2.2.2.2.1) (ha:Num a) (hb:Num b) (h:Zdd (r.1,r.2.1,r.2.2.1,r.2.2.2.1,r.2.2.2.2.1,a,b,r.2.2.2.2.2.2.2)=Zdd r++z):a=r.2.2.2.2.2.1∧b=r.2.2.2.2.2.2.1:=by
 unfold Zdd at h
 simp only [Yp,Yma] at h
 have e1:=Z0db ha h6 h
 rw [e1] at h
 simp only [Yma] at h
 exact ⟨e1,Z0db hb h7 h⟩
theorem Z0qb (s:Str) (hs:s.length≤8000):Zc fun k=>Z3o k s=some (match Zpm s with
  | some (a,b,c,d,e,m,v,w)=>(a,b,c,d,e,m,Zb v,Zb w,0)
  | none=>(0,0,0,0,0,[],[],[],3)):=by
 obtain ⟨v1,v2,v3,v4,v5,v6,v7,v8,hE,hc⟩:=Zqqb s hs
 unfold Zpm
 rcases hc with ⟨d,hz,h8⟩ | ⟨hz,h8⟩
 ·obtain ⟨a1,a2,a3,a4,a5,a6,a7,g1,g2,g3,g4,g5,g6,g7,g8⟩:=Z7fb hz
  have hb:=Zlfb v1.1 v2.1 v3.1 v4.1 v5.1 v8.1 (Zoi v6.1) (Zoi v7.1) g1.range g2.range g3.range g4.range g5.range (Zat _) (Zat _) g8.size;refine ((hE.and hb).and (Zc.ge 100 fun k hk=>hk)).mono fun k ⟨⟨⟨q1,q2,q3,q4,q5,q6,q7,q8⟩,hb⟩,hk⟩=>?_
  unfold Z3o;rw [Xb (by omega:¬(8000:Int)<(s.length:Int)),Xf];refine Za q1 (Za q2 (Za q3 (Za q4 (Za q5 (Za q6 (Za (Z20 v6.1 (by omega)) (Za q7 (Za (Z20 v7.1 (by omega)) (Za q8 ?_)))))))));rw [h8];simp only [Xf];refine Za hb ?_;rw [hz,Zvr];dsimp only;have hw:=Zqrb hz
  have hpos:1≤s.length:=by
   have p1:=g1.le;have p2:=Zc6 v1.1;have p3:=g1.at';dsimp only at p1 p2 p3;omega
  by_cases c:(0≤v6.1∧v6.1<16777216)∧(0≤v7.1∧v7.1<16777216)
  ·have e6:Zoi v6.1=v6.1.toNat:=by unfold Zoi;rw [Xc c.1]
   have e7:Zoi v7.1=v7.1.toNat:=by unfold Zoi;rw [Xc c.2]
   rw [e6,e7,Yy c.1.1,Yy c.2.1];cases hB:Zzg v1.1 v2.1 v3.1 v4.1 v5.1 v8.1 v6.1.toNat v7.1.toNat with
   | true=>
    rw [Xc rfl]
    by_cases hd:d=s.length
    ·rw [Xa (hw.2 hd),Xc ⟨hd,c.1,c.2,rfl⟩]
     rfl
    ·rw [Xb (fun q=>hd (hw.1 q)),Xd (fun q=>hd q.1)]
     rfl
   | false=>
    rw [Xd (by simp),Xd (fun q=>by cases q.2.2.2),Xb (fun q=>by rw [← q] at hpos;simp at hpos)];rfl
  ·have hne:¬((if Zzg v1.1 v2.1 v3.1 v4.1 v5.1 v8.1 (Zoi v6.1) (Zoi v7.1)=true then Zdd (v1.1,v2.1,v3.1,v4.1,v5.1,((Zoi v6.1:Nat):Int),((Zoi v7.1:Nat):Int),v8.1) else [])=s):=by
    intro q;split at q
    ·have e0:s=Zdd (v1.1,v2.1,v3.1,v4.1,v5.1,v6.1,v7.1,v8.1)++s.drop d:=by
      have h1:=g1.eq;rw [Yv,g2.eq,g3.eq,g4.eq,g5.eq,g6.eq,g7.eq,g8.eq] at h1;unfold Zdd;simp only [Yp];exact h1
     have:=Zorb (r:=(v1.1,v2.1,v3.1,v4.1,v5.1,v6.1,v7.1,v8.1)) (z:=s.drop d) g6.range g7.range (Zqq (Zat v6.1)) (Zqq (Zat v7.1)) (q.trans e0);have b6:=Zat v6.1;have b7:=Zat v7.1;obtain ⟨e6,e7⟩:=this;have e6:((Zoi v6.1:Nat):Int)=v6.1:=e6;have e7:((Zoi v7.1:Nat):Int)=v7.1:=e7;omega
    ·rw [← q] at hpos
     simp at hpos
   rw [Xb hne,Xd (fun q=>c ⟨q.2.1,q.2.2.1⟩)];rfl
 ·refine (hE.and (Zc.ge 100 fun k hk=>hk)).mono fun k ⟨⟨q1,q2,q3,q4,q5,q6,q7,q8⟩,hk⟩=>?_
  unfold Z3o;rw [Xb (by omega:¬(8000:Int)<(s.length:Int)),Xf];refine Za q1 (Za q2 (Za q3 (Za q4 (Za q5 (Za q6 (Za (Z20 v6.1 (by omega)) (Za q7 (Za (Z20 v7.1 (by omega)) (Za q8 ?_)))))))));rw [h8,hz];rfl
abbrev StV:=Int×Int×Int×Int×Int×Str×Nat×Nat
def stM (m:Zo):Option StV:=if (1≤m.1∧m.1≤8)∧Zwg m.2=true∧(m.2.1.length:Int)=m.1+27 then (if (Zr m.2).2.2.1=0 then Zpm (Zr m.2).2.1 else none) else none
theorem Z4cb (f:Z5):(Zr f).2.1.length≤80:=by
 unfold Zr
 split
 ·exact Z6cb _
 ·split
  ·exact Z6cb _
  ·simp
theorem Z3cb (f:Z5):(Zr f).2.2.2<0 ↔ (Zr f).2.2.1≠0:=by
 unfold Zr
 split
 ·rename_i h
  simp [h.1]
 ·split
  ·rename_i h
   simp [h]
  ·simp
def Zeu:Option StV→Int×Int×Int×Int×Int×Str×List Int×List Int×Bool
 | some (a,b,c,d,e,m,v,w)=>(a,b,c,d,e,m,Zb v,Zb w,true)
 | none=>(0,0,0,0,0,[],[],[],false)
theorem Zut (m:Zo) (hl:m.2.1.length≤1048576) (hl2:m.2.2.length≤1048576):Zc fun k=>Zag k m=some (Zeu (stM m)):=by
 have hb:Zjk m.1=some (decide (1≤m.1)&&decide (m.1≤8)):=rfl
 unfold stM
 by_cases c1:1≤m.1∧m.1≤8
 ·cases c2:Zwg m.2 with
  | false=>
   refine (Zc.ge 1048577 fun k hk=>hk).mono fun k hk=>?_
   unfold Zag;refine Za hb ?_;rw [Xa c1.1,Xa c1.2];refine Za (Za4 m.2 hl hl2 hk) ?_;rw [c2,Xd (fun q=>by cases q.2.1)];rfl
  | true=>
   have hz:Znh m.2.1=some (m.2.1.length:Int):=rfl;have hw:Yo .i64 ((Yo .i64 (3+m.1))+24)=m.1+27:=by rw [w64 (n:=3+m.1) (by omega) (by omega),w64 (by omega) (by omega)];omega
   by_cases c3:(m.2.1.length:Int)=m.1+27
   ·refine (((Z1bb c2 (by omega)).and (Zbmb (Zr m.2).2.1 (by have:=Z4cb m.2;omega))).and (Zc.ge 1048577 fun k hk=>hk)).mono fun k ⟨⟨h1,h2⟩,hk⟩=>?_
    unfold Zag;refine Za hb ?_;rw [Xa c1.1,Xa c1.2];refine Za (Za4 m.2 hl hl2 hk) ?_;rw [c2,Yb,Xf];refine Za hz ?_;rw [hw,show ((m.2.1.length:Int) != m.1+27)=false by simpa using c3,Xc ⟨c1,rfl,c3⟩];refine Za h1 ?_
    by_cases c4:(Zr m.2).2.2.1=0
    ·rw [Xc c4,Xb (fun q=>(Z3cb m.2).1 q c4)]
     refine Za h2 ?_;cases Zpm (Zr m.2).2.1 <;> rfl
    ·rw [Xd c4,Xa ((Z3cb m.2).2 c4)]
     rfl
   ·refine (Zc.ge 1048577 fun k hk=>hk).mono fun k hk=>?_
    unfold Zag;refine Za hb ?_;rw [Xa c1.1,Xa c1.2];refine Za (Za4 m.2 hl hl2 hk) ?_;rw [c2,Yb,Xf];refine Za hz ?_;rw [hw,show ((m.2.1.length:Int) != m.1+27)=true by simpa using c3,Xd (fun q=>c3 q.2.2)];rfl
 ·refine Zc.of fun k=>?_
  unfold Zag;refine Za hb ?_
  have:(decide (1≤m.1)&&decide (m.1≤8))=false:=by
   rw [Yr,decide_eq_false_iff_not,decide_eq_false_iff_not];exact Classical.not_and_iff_not_or_not.1 c1
  rw [this,Xd (fun q=>c1 q.1)];rfl
theorem Zps (m:Zo) (hl:m.2.1.length≤1048576) (hl2:m.2.2.length≤1048576):Zc fun k=>Zjf k m=some (Zeu (stM m)):=by
 have hb:Z9 m.1 1 8=some (decide (1≤m.1)&&decide (m.1≤8)):=rfl
 unfold stM
 by_cases c1:1≤m.1∧m.1≤8
 ·cases c2:Zwg m.2 with
  | false=>
   refine (Zc.ge 1048577 fun k hk=>hk).mono fun k hk=>?_
   unfold Zjf;refine Za hb ?_;rw [Xa c1.1,Xa c1.2];refine Za (Z10 m.2 hl hl2 hk) ?_;rw [c2,Xd (fun q=>by cases q.2.1)];rfl
  | true=>
   have hw:Yo .i64 ((Yo .i64 (3+m.1))+24)=m.1+27:=by rw [w64 (n:=3+m.1) (by omega) (by omega),w64 (by omega) (by omega)];omega
   by_cases c3:(m.2.1.length:Int)=m.1+27
   ·refine (((Z60 c2 (by omega)).and (Z0qb (Zr m.2).2.1 (by have:=Z4cb m.2;omega))).and (Zc.ge 1048577 fun k hk=>hk)).mono fun k ⟨⟨h1,h2⟩,hk⟩=>?_
    unfold Zjf;refine Za hb ?_;rw [Xa c1.1,Xa c1.2];refine Za (Z10 m.2 hl hl2 hk) ?_;rw [c2,hw,show ((m.2.1.length:Int) != m.1+27)=false by simpa using c3,Xc ⟨c1,rfl,c3⟩];refine Za h1 ?_
    by_cases c4:(Zr m.2).2.2.1=0
    ·rw [Xc c4,show ((Zr m.2).2.2.1 != 0)=false by simpa using c4]
     refine Za h2 ?_;cases Zpm (Zr m.2).2.1 <;> rfl
    ·rw [Xd c4,show ((Zr m.2).2.2.1 != 0)=true by simpa using c4]
     rfl
   ·refine (Zc.ge 1048577 fun k hk=>hk).mono fun k hk=>?_
    unfold Zjf;refine Za hb ?_;rw [Xa c1.1,Xa c1.2];refine Za (Z10 m.2 hl hl2 hk) ?_;rw [c2,hw,show ((m.2.1.length:Int) != m.1+27)=true by simpa using c3,Xd (fun q=>c3 q.2.2)];rfl
 ·refine Zc.of fun k=>?_
  unfold Zjf;refine Za hb ?_
  have:(decide (1≤m.1)&&decide (m.1≤8))=false:=by
   rw [Yr,decide_eq_false_iff_not,decide_eq_false_iff_not];exact Classical.not_and_iff_not_or_not.1 c1
  rw [this,Xd (fun q=>c1 q.1)];rfl
def Zsb (m:Zo):List Str:=(Yg m.1.toNat).map fun (i:Nat)=>Zm m.2 (3+(i:Int))
theorem Z4db {α:Type} (f:Nat→α) (i:Nat):(Yg (i+1)).map f=(Yg i).map f++[f i]:=by
 rw [Yva,List.map_append]
 rfl
theorem Z93 {m:Zo} (h1:0≤m.1∧m.1≤8) (hl:m.1+3≤(m.2.1.length:Int)) (hl2:m.2.2.length≤1048576) {k:Nat} (hk:1048577≤k):Zoe k m=some (Zsb m):=by
 have h:=Zrc (fun j i=>Zoe.l0 k j m.1 m.2.1 m.2.2 m.1 (i:Int) ((Yg i).map fun (i:Nat)=>Zm m.2 (3+(i:Int)))) m.1.toNat (Zsb m) (fun i hi j=>?_) (fun j=>?_) k (by omega)
 ·have h:Zoe.l0 k k m.1 m.2.1 m.2.2 m.1 0 []=some (Zsb m):=h
  unfold Zoe;exact Za h rfl
 ·have r:Zyh k (m.2.1,m.2.2) (3+(i:Int))=some (Zm m.2 (3+(i:Int))):=Ztt m.2 _ hl2 (by omega) (by omega) (by omega)
  conv=>lhs;unfold Zoe.l0
  rw [Xa (by omega:(i:Int)<m.1),w64 (n:=3+(i:Int)) (by omega) (by omega),Zs (by omega),Xe];refine Za r (Za (Z6 (by simp;omega)) ?_);rw [Z4db]
 ·conv=>lhs;unfold Zoe.l0
  rw [Xb (by omega:¬((m.1.toNat:Nat):Int)<m.1)];rfl
theorem Zy0 {m:Zo} (h1:0≤m.1∧m.1≤8) (hl:m.1+3≤(m.2.1.length:Int)) (hl2:m.2.2.length≤1048576) {k:Nat} (hk:1048577≤k):Zde k m=some (Zsb m):=by
 have h:=Zrc (fun j i=>Zde.l0 k j m.1 m.2.1 m.2.2 (i:Int) ((Yg i).map fun (i:Nat)=>Zm m.2 (3+(i:Int)))) m.1.toNat (Zsb m) (fun i hi j=>?_) (fun j=>?_) k (by omega)
 ·have h:Zde.l0 k k m.1 m.2.1 m.2.2 0 []=some (Zsb m):=h
  unfold Zde;exact Za h rfl
 ·have r:Zub k (m.2.1,m.2.2) (3+(i:Int))=some (Zm m.2 (3+(i:Int))):=Zon m.2 _ hl2 (by omega) (by omega) (by omega)
  conv=>lhs;unfold Zde.l0
  rw [Xa (by omega:(i:Int)<m.1),w64 (n:=3+(i:Int)) (by omega) (by omega),Zs (by omega),Xe];refine Za r (Za (Z6 (by simp;omega)) ?_);rw [Z4db]
 ·conv=>lhs;unfold Zde.l0
  rw [Xb (by omega:¬((m.1.toNat:Nat):Int)<m.1)];rfl
theorem Z1u (t:Str) (h:t.length≤8000) (s:Str) (a:Nat) (r:Str) (hs:s.drop a=Zcb t++r):Zxh s a=(t,((a+(Zcb t).length:Nat):Int),0):=by
 unfold Zcb at hs
 rw [Yp] at hs
 have e:=Zan (t.length:Int) ⟨by omega,by omega⟩ s a (t++r) hs
 have hlen:=congrArg Yha hs
 rw [Yqa,Ym,Ym] at hlen
 have hp:=Zc6 (t.length:Int)
 unfold Zxh
 rw [e]
 simp only [if_true]
 rw [Xc ⟨by omega,by omega⟩,Xd (by omega)]
 have e1:(((a+(Zk (t.length:Int)).length:Nat):Int)+(t.length:Int)).toNat=a+(Zk (t.length:Int)).length+t.length:=by omega
 rw [e1,Yi,List.drop_take,Nat.add_sub_cancel_left,← Yca,hs,Yda,Yxa]
 unfold Zcb
 rw [Ym]
 congr 2
 push_cast
 omega
theorem Zt5 (n:Int) (h:Num n) (s:Str) (a:Nat) (t:Str) (hs:s.drop a=Zk n++t):Zkb s a=(n,s,((a+(Zk n).length:Nat):Int),false):=by
 unfold Zkb
 rw [Zan n h s a t hs]
 rfl
theorem Z3db (x y z:Int) (t:Str) (hx:Num x) (hy:Num y) (hz:Num z) (ht:t.length≤8000):Ztj (Zk x++Zk y++Zk z++Zcb t)=some (x,y,z,t,(Zk x++Zk y++Zk z++Zcb t).length):=by
 generalize hs:Zk x++Zk y++Zk z++Zcb t=s
 have d0:s.drop 0=Zk x++(Zk y++Zk z++Zcb t):=by rw [← hs];simp
 have n1:=Zt5 x hx s 0 _ d0
 rw [Y7a] at n1
 have d1:s.drop (Zk x).length=Zk y++(Zk z++Zcb t):=by rw [← hs];simp
 have n2:=Zt5 y hy s _ _ d1
 have d2:s.drop ((Zk x).length+(Zk y).length)=Zk z++Zcb t:=by rw [← hs,← Ym];simp
 have n3:=Zt5 z hz s _ _ d2
 have d3:s.drop ((Zk x).length+(Zk y).length+(Zk z).length)=Zcb t++[]:=by rw [← hs,← Ym,← Ym];simp
 have n4:=Z1u t ht s _ _ d3
 have n4':Zhg s ((Zk x).length+(Zk y).length+(Zk z).length)=(t,s,(((Zk x).length+(Zk y).length+(Zk z).length+(Zcb t).length:Nat):Int),false):=by
  unfold Zhg;rw [n4];rfl
 have hl:s.length=(Zk x).length+(Zk y).length+(Zk z).length+(Zcb t).length:=by rw [← hs];simp only [Ym]
 unfold Ztj
 rw [n1]
 simp only [Yi,Yaa,if_false]
 rw [n2]
 simp only [Yi,Yaa,if_false]
 rw [n3]
 simp only [Yi,Yaa,if_false]
 rw [n4']
 simp only [Yi,Yaa,if_false]
 rw [hl]
def Ztl (s:Str) (a:Nat):Option ((Int×Int×Int×Str)×Nat):=(Zqb s a).bind fun x=>(Zqb s x.2).bind fun y=>(Zqb s y.2).bind fun z=>(Z0g s z.2).map fun t=>((x.1,y.1,z.1,t.1),t.2)
def Zvk (x y z:Int) (t:Str):Str:=Zk x++Zk y++Zk z++Zcb t
theorem Z1rb {s:Str} {a:Nat} {x y z:Int} {t:Str} {d:Nat} (h:Ztl s a=some ((x,y,z,t),d)):∃b c e,Got s a x b∧Got s b y c∧Got s c z e∧GotT s e t d:=by
 unfold Ztl at h
 obtain ⟨⟨n1,a1⟩,h1,h⟩:=Yn.1 h
 obtain ⟨⟨n2,a2⟩,h2,h⟩:=Yn.1 h
 obtain ⟨⟨n3,a3⟩,h3,h⟩:=Yn.1 h
 obtain ⟨⟨t',d'⟩,h8,h⟩:=Y9a.1 h
 cases h
 exact ⟨a1,a2,a3,Z7i h1,Z7i h2,Z7i h3,Zs7 h8⟩
theorem Zagb {s:Str} {a:Nat} {x y z:Int} {t:Str} {d:Nat} (h:Ztl s a=some ((x,y,z,t),d)):s.drop a=Zvk x y z t++s.drop d∧d=a+(Zvk x y z t).length∧Num x∧Num y∧Num z∧t.length≤8000∧d≤s.length:=by
 obtain ⟨b,c,e,g1,g2,g3,g4⟩:=Z1rb h
 refine ⟨?_,?_,g1.range,g2.range,g3.range,g4.size,g4.le⟩
 ·have h1:=g1.eq
  rw [g2.eq,g3.eq,g4.eq] at h1;unfold Zvk;simp only [Yp];exact h1
 ·have:=g1.at';have:=g2.at';have:=g3.at';have:=g4.at'
  unfold Zvk;simp only [Ym];omega
theorem Zbm {s:Str} {a:Nat} {n:Int} (h:Num n) {t:Str} (hs:s.drop a=Zk n++t):Zqb s a=some (n,a+(Zk n).length):=by
 unfold Zqb
 rw [Zan n h s a t hs]
 rfl
theorem Zlgb {s:Str} {a:Nat} {x:Str} (h:x.length≤8000) {t:Str} (hs:s.drop a=Zcb x++t):Z0g s a=some (x,a+(Zcb x).length):=by
 unfold Z0g
 rw [Z1u x h s a t hs]
 rfl
theorem Zkx (s:Str) (a:Nat) (ha:a≤s.length) (x y z:Int) (t:Str):Z8h (s.drop a)=some (x,y,z,t) ↔ Ztl s a=some ((x,y,z,t),s.length)∧Z6c x y z t 8=true:=by
 constructor
 ·intro h
  have hr:=Zzrb h;unfold Z8h at h;cases hq:Ztj (s.drop a) with
  | none=>rw [hq] at h;cases h
  | some q=>
   obtain ⟨x',y',z',t',d⟩:=q;rw [hq] at h;dsimp only at h;split at h
   ·rename_i hc
    cases h;obtain ⟨b,c,e,g1,g2,g3,g4⟩:=Z2db hq;have hb:Zvk x y z t=s.drop a:=(Z83 g1 g2 g3 g4).2 hc.1;refine ⟨?_,hr⟩
    have e0:s.drop a=Zk x++(Zk y++(Zk z++(Zcb t++[]))):=by
     rw [← hb];unfold Zvk;simp only [Yp,Yu]
    have n1:=Zbm g1.range e0;have e1:s.drop (a+(Zk x).length)=Zk y++(Zk z++(Zcb t++[])):=by rw [← Yca,e0,Yda]
    have n2:=Zbm g2.range e1;have e2:s.drop (a+(Zk x).length+(Zk y).length)=Zk z++(Zcb t++[]):=by rw [← Yca,e1,Yda]
    have n3:=Zbm g3.range e2;have e3:s.drop (a+(Zk x).length+(Zk y).length+(Zk z).length)=Zcb t++[]:=by rw [← Yca,e2,Yda]
    have n4:=Zlgb g4.size e3;have hl:=congrArg Yha e0;simp only [Yqa,Ym,List.length_nil] at hl;unfold Ztl;simp only [n1,n2,n3,n4,Ya,Option.map_some];congr 2;omega
   ·cases h
 ·rintro ⟨h,hr⟩
  obtain ⟨h1,h2,n1,n2,n3,n4,_⟩:=Zagb h;rw [Y5,Yu] at h1;unfold Z8h;rw [h1];have:=Z3db x y z t n1 n2 n3 n4;unfold Zvk;rw [this];dsimp only;rw [Xc ⟨rfl,hr⟩]
def Z4e (s:Str) (i:Int):Int×Int×Int×Str×Int:=
 if (Zxc s).2=0 then match Zqb (Zn s) 0 with
  | some (n,a)=>match Z8h ((Zn s).drop a) with
   | some (x,y,z,t)=>if 0≤n∧n≤1000000 then (if n=i then (x,y,z,t,0) else (0,0,0,[],6)) else (0,0,0,[],3)
   | none=>(0,0,0,[],3)
  | none=>(0,0,0,[],3)
 else (0,0,0,[],(Zxc s).2)
theorem sL06 (x y z:Int) (t:Str) (hx:Num x) (hy:Num y) (hz:Num z) (ht:t.length≤8000):Zc fun k=>Zmm k (x,(y,(z,t)))=some (Zvk x y z t):=by
 have l1:=Zuc x
 have l2:=Zuc y
 have l3:=Zuc z
 have l4:=Zok t
 refine (Z1db x y z t hx hy hz ht).mono fun k ⟨h1,h2,h3,h4⟩=>?_
 unfold Zmm
 exact Za h1 (Za h2 (Za (Zwd (by omega)) (Za h3 (Za (Zwd (by simp;omega)) (Za h4 (Za (Zwd (by simp;omega)) rfl))))))
theorem Z36 (n x y z:Int) (t:Str) (hn:Num n) (hx:Num x) (hy:Num y) (hz:Num z) (ht:t.length≤8) (hr:Z6c x y z t 8=true):Zc fun k=>Zyi k n (x,(y,(z,t)))=some (if 0≤n∧n≤1000000 then Zhf (Zk n++Zvk x y z t) else []):=by
 have W:Z9 n 0 1000000=some (decide (0≤n)&&decide (n≤1000000)):=rfl
 have l0:=Zuc n
 have l1:=Zuc x
 have l2:=Zuc y
 have l3:=Zuc z
 have l4:=Zok t
 have lX:(Zvk x y z t).length≤60:=by unfold Zvk;simp only [Ym];omega
 by_cases c:0≤n∧n≤1000000
 ·refine (((Zdj n hn).and (sL06 x y z t hx hy hz (by omega))).and (Za1 (Zk n++Zvk x y z t) (by simp;omega))).mono fun k ⟨⟨h1,h2⟩,h3⟩=>?_
  unfold Zyi;refine Za W ?_;rw [Xa c.1,Xa c.2,Xc c];simp only [Yh,Yb,Xf];refine Za (Zex x y z t 8 (by omega) (by omega)) ?_;rw [hr];simp only [Yb,Xf];exact Za h1 (Za h2 (Za (Zwd (by omega)) (Za h3 rfl)))
 ·refine Zc.of fun k=>?_
  unfold Zyi;refine Za W ?_
  have:(decide (0≤n)&&decide (n≤1000000))=false:=by
   rw [Yr,decide_eq_false_iff_not,decide_eq_false_iff_not];exact Classical.not_and_iff_not_or_not.1 c
  rw [this,Xd c];rfl
theorem Zsqb (s:Str) (hs:s.length≤8000) (i:Int):Zc fun k=>Zol k s i=some (Z4e s i):=by
 unfold Z4e
 by_cases hu:(Zxc s).2=0
 ·obtain ⟨e1,e2,e3⟩:=Z1s hu
  have hbl:(Zn s).length≤8000:=by rw [Zxr];omega
  rw [Xc hu];cases hn:Zqb (Zn s) 0 with
  | none=>
   have h0:StS (Zn s) (Zn s,((0:Nat):Int),false) (some 0):=⟨rfl,0,rfl,by omega,rfl,rfl⟩;obtain ⟨v4,q4,h4,_⟩:=Zpn hbl h0;rw [show Zd (Zn s) (some 0)=none by simp [Zd,hn]] at h4;rcases h4.form with ⟨a,e,_,_⟩ | ⟨a,_,ha,e⟩
   ·cases e
   have hv:Zkb (Zn s) 0=(0,Zn s,((0:Nat):Int),true):=by
    unfold Zqb at hn;unfold Zkb;split at hn
    ·cases hn
    ·rename_i h
     rw [Xd h]
   have hv0:=Zvu (Zn s) 0 (by omega) hbl;refine (((Zjl s hs).and hv0).and (Z66 (Zn s) hbl)).mono fun k ⟨⟨u,q4⟩,q6⟩=>?_
   have q4:Zoc k (Zn s,(0,false))=some (Zkb (Zn s) 0):=q4;unfold Zol;refine Za u ?_;rw [hu,e1];refine Za q4 ?_;rw [hv]
   have hc:Z2b (Zn s) ((0:Nat):Int) ((Zn s).length:Int)=some (Zn s):=by
    have:=Zhi (l:=Zn s) (i:=0) (j:=(Zn s).length) (by omega) (Ye _);rw [Y1] at this;exact this
   refine Za hc (Za q6 ?_);rfl
  | some w=>
   obtain ⟨n,a⟩:=w;have g:=Z7i hn;have hla:=g.le
   have hv:Zkb (Zn s) 0=(n,Zn s,((a:Nat):Int),false):=by
    unfold Zqb at hn;unfold Zkb;split at hn
    ·rename_i h
     rcases Zfl (Zn s) 0 with ⟨n',a',e,g'⟩ | ⟨c,hc,e⟩
     ·rw [e] at hn ⊢
      cases hn;rfl
     ·rw [e] at h;exact absurd h hc
    ·cases hn
   have hdl:((Zn s).drop a).length≤8000:=by simp;omega
   have hc:Z2b (Zn s) ((a:Nat):Int) ((Zn s).length:Int)=some ((Zn s).drop a):=by
    have:=Zhi (l:=Zn s) (i:=a) (j:=(Zn s).length) hla (Ye _);rw [Y1] at this;exact this
   have hv0:=Zvu (Zn s) 0 (by omega) hbl;dsimp only;cases hst:Z8h ((Zn s).drop a) with
   | none=>
    refine (((Zjl s hs).and hv0).and (Z66 ((Zn s).drop a) hdl)).mono fun k ⟨⟨u,q4⟩,q6⟩=>?_
    have q4:Zoc k (Zn s,(0,false))=some (Zkb (Zn s) 0):=q4;rw [hst] at q6;have q6:Zlm k ((Zn s).drop a)=some (0,0,0,[],3):=q6;unfold Zol;refine Za u ?_;rw [hu,e1];refine Za q4 ?_;rw [hv];refine Za hc (Za q6 ?_);rfl
   | some st=>
    obtain ⟨x,y,z,t⟩:=st;obtain ⟨hs1,hr⟩:=(Zkx (Zn s) a hla x y z t).1 hst;obtain ⟨b1,b2,nx,ny,nz,nt,_⟩:=Zagb hs1;rw [Y5,Yu] at b1
    have hwhole:Zk n++Zvk x y z t=Zn s:=by
     have:=g.eq;rw [Yv,b1] at this;exact this.symm
    refine ((((Zjl s hs).and hv0).and (Z66 ((Zn s).drop a) hdl)).and (Z36 n x y z t g.range nx ny nz (Zys hr) hr)).mono fun k ⟨⟨⟨u,q4⟩,q6⟩,q7⟩=>?_
    have q4:Zoc k (Zn s,(0,false))=some (Zkb (Zn s) 0):=q4;rw [hst] at q6;have q6:Zlm k ((Zn s).drop a)=some (x,y,z,t,0):=q6;unfold Zol;refine Za u ?_;rw [hu,e1];refine Za q4 ?_;rw [hv];refine Za hc (Za q6 ?_);rw [show (false||((0:Int) != 0))=false from rfl,Xf];refine Za q7 ?_;rw [hwhole,e2,Zvr];dsimp only
    by_cases c:0≤n∧n≤1000000
    ·rw [Xc c,Xc c,Xa rfl]
     simp only [Yb,Xf]
     by_cases ci:n=i
     ·rw [Xc ci,show (n != i)=false by simpa using ci]
      rfl
     ·rw [Xd ci,show (n != i)=true by simpa using ci]
      rfl
    ·rw [Xd c,Xd c,Xb (fun q=>by rw [← q] at e3;simp at e3)]
     rfl
 ·rw [Xd hu]
  refine (Zjl s hs).mono fun k u=>?_
  unfold Zol;refine Za u ?_;rw [show ((Zxc s).2 != 0)=true by simpa using hu];rfl
theorem Z4lb {s:Str} (hs:s.length≤8000) {st:Str×Int×Bool} {p:Option Nat} (h:StS s st p):∃v:Int×Int×Int×Str×Str×Int×Bool,(Zc fun k=>Zeq k st=some v) ∧
  ((∃a q d,p=some a∧Ztl s a=some (q,d)∧v=(q.1,q.2.1,q.2.2.1,q.2.2.2,s,(d:Int),false))∨((∀a,p=some a→Ztl s a=none)∧v.2.2.2.2.2.2=true)):=by
 obtain ⟨v1,e1,h1,g1⟩:=Zhk hs h
 obtain ⟨v2,e2,h2,g2⟩:=Zhk hs h1
 obtain ⟨v3,e3,h3,g3⟩:=Zhk hs h2
 obtain ⟨v4,e4,h4,g4⟩:=Zj4 hs h3
 have bad:∀{st:Str×Int×Bool},StS s st none→st.2.2=true:=fun h=>h.2.choose_spec.2.2
 refine ⟨(v1.1,v2.1,v3.1,v4.1,v4.2.1,v4.2.2.1,v4.2.2.2),(((e1.and e2).and e3).and e4).mono fun k ⟨⟨⟨q1,q2⟩,q3⟩,q4⟩=>?_,?_⟩
 ·unfold Zeq
  exact Za q1 (Za q2 (Za q3 (Za q4 rfl)))
 clear e1 e2 e3 e4 h h1 h2 h3
 cases p with
 | none=>
  refine .inr ⟨fun a e=>(by cases e),bad (st:=v4.2) ?_⟩;have:Zjb s (Zd s (Zd s (Zd s none)))=none:=rfl
  rwa [this] at h4
 | some a=>
  cases x1:Zqb s a with
  | none=>
   refine .inr ⟨fun a' e=>by cases e;simp [Ztl,x1],bad (st:=v4.2) ?_⟩;have:Zjb s (Zd s (Zd s (Zd s (some a))))=none:=by simp [Zd,Zjb,x1]
   rwa [this] at h4
  | some y1=>
  obtain ⟨n1,a1⟩:=y1;cases x2:Zqb s a1 with
  | none=>
   refine .inr ⟨fun a' e=>by cases e;simp [Ztl,x1,x2],bad (st:=v4.2) ?_⟩;have:Zjb s (Zd s (Zd s (Zd s (some a))))=none:=by simp [Zd,Zjb,x1,x2]
   rwa [this] at h4
  | some y2=>
  obtain ⟨n2,a2⟩:=y2;cases x3:Zqb s a2 with
  | none=>
   refine .inr ⟨fun a' e=>by cases e;simp [Ztl,x1,x2,x3],bad (st:=v4.2) ?_⟩;have:Zjb s (Zd s (Zd s (Zd s (some a))))=none:=by simp [Zd,Zjb,x1,x2,x3]
   rwa [this] at h4
  | some y3=>
  obtain ⟨n3,a3⟩:=y3;cases x4:Z0g s a3 with
  | none=>
   refine .inr ⟨fun a' e=>by cases e;simp [Ztl,x1,x2,x3,x4],bad (st:=v4.2) ?_⟩;have:Zjb s (Zd s (Zd s (Zd s (some a))))=none:=by simp [Zd,Zjb,x1,x2,x3,x4]
   rwa [this] at h4
  | some y4=>
   obtain ⟨t,d⟩:=y4;have p1:Zd s (some a)=some a1:=by simp [Zd,x1]
   have p2:Zd s (Zd s (some a))=some a2:=by simp [Zd,x1,x2]
   have p3:Zd s (Zd s (Zd s (some a)))=some a3:=by simp [Zd,x1,x2,x3]
   have p4:Zjb s (Zd s (Zd s (Zd s (some a))))=some d:=by simp [Zd,Zjb,x1,x2,x3,x4]
   have r1:=g1 _ _ _ rfl x1;have r2:=g2 _ _ _ p1 x2;have r3:=g3 _ _ _ p2 x3;have r4:=g4 _ _ _ p3 x4;refine .inl ⟨a,(n1,n2,n3,t),d,rfl,by simp [Ztl,x1,x2,x3,x4],?_⟩;rw [p4] at h4;rcases h4.form with ⟨b,e,_,q⟩ | ⟨b,e,_,q⟩
   ·cases e
    rw [r1,r2,r3,r4,q]
   ·cases e
theorem Z6lb (s:Str) (hs:s.length≤8000) (i:Int):Zc fun k=>Zin k s i=some (Z4e s i):=by
 unfold Z4e
 by_cases hu:(Zxc s).2=0
 ·obtain ⟨e1,e2,e3⟩:=Z1s hu
  have hbl:(Zn s).length≤8000:=by rw [Zxr];omega
  rw [Xc hu];have h0:StS (Zn s) (Zn s,((0:Nat):Int),false) (some 0):=⟨rfl,0,rfl,by omega,rfl,rfl⟩;obtain ⟨v4,q4,h4,g4⟩:=Zhk hbl h0;obtain ⟨v5,q5,c5⟩:=Z4lb hbl h4;refine (((Zvt s (by omega)).and q4).and q5).mono fun k ⟨⟨u,q4⟩,q5⟩=>?_
  unfold Zin;refine Za u ?_;rw [hu,e1];refine Za q4 (Za q5 ?_);rcases c5 with ⟨a,q,d,hp,hst,hv⟩ | ⟨hno,hv⟩
  ·cases hn:Zqb (Zn s) 0 with
   | none=>simp [Zd,hn] at hp
   | some w=>
    obtain ⟨n,a'⟩:=w;have:a'=a:=by simpa [Zd,hn] using hp
    subst this;have r4:=g4 _ _ _ rfl hn;have hla:=(Z7i hn).le;obtain ⟨x,y,z,t⟩:=q;rw [hv,r4];dsimp only;have hT:Zti n=some (decide (0≤n)&&decide (n≤1000000)):=rfl
    by_cases hd:d=(Zn s).length
    ·rw [show (false||(((d:Nat):Int) != ((Zn s).length:Int)))=false by rw [hd];simp,Xf]
     refine Za hT ?_;cases hb:Z6c x y z t 8 with
     | true=>
      have hso:=(Zkx (Zn s) a' hla x y z t).2 ⟨by rw [hst,hd],hb⟩;rw [hso];dsimp only
      by_cases c:0≤n∧n≤1000000
      ·rw [Xa c.1,Xa c.2,Xc c]
       simp only [Yh,Yb,Xf];refine Za (Zi4 x y z t 8 (by omega) (by omega)) ?_;rw [hb];simp only [Yb,Xf]
       by_cases ci:n=i
       ·rw [Xc ci,show (n != i)=false by simpa using ci]
        rfl
       ·rw [Xd ci,show (n != i)=true by simpa using ci]
        rfl
      ·have:(decide (0≤n)&&decide (n≤1000000))=false:=by
        rw [Yr,decide_eq_false_iff_not,decide_eq_false_iff_not];exact Classical.not_and_iff_not_or_not.1 c
       rw [this,Xd c];rfl
     | false=>
      have hso:Z8h ((Zn s).drop a')=none:=by
       cases q:Z8h ((Zn s).drop a') with
       | none=>rfl
       | some r=>
        obtain ⟨x',y',z',t'⟩:=r;obtain ⟨k1,k2⟩:=(Zkx (Zn s) a' hla x' y' z' t').1 q;rw [hst] at k1;cases k1;rw [hb] at k2;cases k2
      rw [hso];dsimp only;cases (decide (0≤n)&&decide (n≤1000000)) with
      | false=>rfl
      | true=>
       simp only [Yb,Xf];refine Za (Zi4 x y z t 8 (by omega) (by omega)) ?_;rw [hb];rfl
    ·rw [show (false||(((d:Nat):Int) != ((Zn s).length:Int)))=true by simp;omega]
     have hso:Z8h ((Zn s).drop a')=none:=by
      cases q:Z8h ((Zn s).drop a') with
      | none=>rfl
      | some r=>
       obtain ⟨x',y',z',t'⟩:=r;obtain ⟨k1,k2⟩:=(Zkx (Zn s) a' hla x' y' z' t').1 q;rw [hst] at k1;cases k1;exact absurd rfl hd
     rw [hso];rfl
  ·rw [hv]
   cases hn:Zqb (Zn s) 0 with
   | none=>rfl
   | some w=>
    obtain ⟨n,a⟩:=w;have hla:=(Z7i hn).le
    have hso:Z8h ((Zn s).drop a)=none:=by
     cases q:Z8h ((Zn s).drop a) with
     | none=>rfl
     | some r=>
      obtain ⟨x',y',z',t'⟩:=r;obtain ⟨k1,k2⟩:=(Zkx (Zn s) a hla x' y' z' t').1 q;rw [hno a (by simp [Zd,hn])] at k1;cases k1
    dsimp only;rw [hso];rfl
 ·rw [Xd hu]
  refine (Zvt s (by omega)).mono fun k u=>?_
  unfold Zin;refine Za u ?_;rw [show ((Zxc s).2 != 0)=true by simpa using hu];rfl
def Zwi:List Str→Nat→List Zi
 | [],_=>[]
 | s::l,i=>if (Z4e s (i:Int)).2.2.2.2=0 then ((Z4e s (i:Int)).1,(Z4e s (i:Int)).2.1,(Z4e s (i:Int)).2.2.1,(Z4e s (i:Int)).2.2.2.1)::Zwi l (i+1) else []
theorem Z96:∀(l:List Str) (i:Nat),(Zwi l i).length≤l.length
 | [],_=>Ye _
 | s::l,i=>by
  unfold Zwi;have:=Z96 l (i+1);split
  ·simp only [List.length_cons];omega
  ·simp
theorem Zrfb (L:Nat→Nat→List Zi→Option (List Zi)) (l:List Str)
  (hs:∀i,(h:i<l.length)→∀acc j,acc.length≤i→L (j+1) i acc=if (Z4e l[i] (i:Int)).2.2.2.2=0 then L j (i+1) (acc++[((Z4e l[i] (i:Int)).1,(Z4e l[i] (i:Int)).2.1,(Z4e l[i] (i:Int)).2.2.1,(Z4e l[i] (i:Int)).2.2.2.1)]) else some acc)
  (he:∀acc j,L (j+1) l.length acc=some acc) {k:Nat} (hk:l.length<k):L k 0 []=some (Zwi l 0):=by
 have key:∀(d i:Nat) (acc:List Zi),i+d=l.length→acc.length≤i→∀j,d<j→L j i acc=some (acc++Zwi (l.drop i) i):=by
  intro d
  induction d with
  | zero=>
   intro i acc hi hacc j hj;obtain ⟨j,rfl⟩:∃q,j=q+1:=⟨j-1,by omega⟩;obtain rfl:i=l.length:=by omega
   rw [he,Y5];simp [Zwi]
  | succ d ih=>
   intro i acc hi hacc j hj;obtain ⟨j,rfl⟩:∃q,j=q+1:=⟨j-1,by omega⟩;have h:i<l.length:=by omega
   rw [hs i h acc j hacc,List.drop_eq_getElem_cons h]
   by_cases c:(Z4e l[i] (i:Int)).2.2.2.2=0
   ·rw [Xc c,ih (i+1) _ (by omega) (by simp;omega) j (by omega),Zwi,Xc c,Yp]
    rfl
   ·rw [Xd c,Zwi,Xd c,Yu]
 have:=key l.length 0 [] (Y7a _) (by simp) k hk
 rw [this,Yv]
 rfl
theorem Z7lb (l:List Str) (hl:l.length≤1000) (hs:∀s∈l,s.length≤8000):Zc fun k=>Z9f k l=some (Zwi l 0):=by
 have hr:Zc fun k=>∀i,i<l.length→∀h:i<l.length,Zin k l[i] (i:Int)=some (Z4e l[i] (i:Int)):=Zc.all fun i h=>(Z6lb l[i] (hs _ (Yl h)) (i:Int)).mono fun k e h=>e
 refine (hr.and (Zc.ge (l.length+1) fun k hk=>hk)).mono fun k ⟨hr,hk⟩=>?_
 have h:=Zrfb (fun j i acc=>Z9f.l0 k j l (l.length:Int) (i:Int) acc) l (fun i h acc j hacc=>?_) (fun acc j=>?_) (k:=k) (by omega)
 ·have h:Z9f.l0 k k l (l.length:Int) 0 []=some (Zwi l 0):=h
  unfold Z9f;exact Za h rfl
 ·conv=>lhs;unfold Z9f.l0
  rw [dlt h,Zs (by omega),Xe];refine Za (Zh h) (Za (hr i h h) ?_)
  by_cases c:(Z4e l[i] (i:Int)).2.2.2.2=0
  ·rw [Xc c,show ((Z4e l[i] (i:Int)).2.2.2.2 != 0)=false by simpa using c,Xf]
   exact Za (Z6 (by simp;omega)) rfl
  ·rw [Xd c,show ((Z4e l[i] (i:Int)).2.2.2.2 != 0)=true by simpa using c]
   rfl
 ·conv=>lhs;unfold Z9f.l0
  rw [Z8 (Ye _)];rfl
theorem Zvqb (l:List Str) (hl:l.length≤1000) (hs:∀s∈l,s.length≤8000):Zc fun k=>Zgg k l=some (Zwi l 0):=by
 have hr:Zc fun k=>∀i,i<l.length→∀h:i<l.length,Zol k l[i] (i:Int)=some (Z4e l[i] (i:Int)):=Zc.all fun i h=>(Zsqb l[i] (hs _ (Yl h)) (i:Int)).mono fun k e h=>e
 refine (hr.and (Zc.ge (l.length+1) fun k hk=>hk)).mono fun k ⟨hr,hk⟩=>?_
 have h:=Zrfb (fun j i acc=>Zgg.l0 k j l (i:Int) acc) l (fun i h acc j hacc=>?_) (fun acc j=>?_) (k:=k) (by omega)
 ·have h:Zgg.l0 k k l 0 []=some (Zwi l 0):=h
  unfold Zgg;exact Za h rfl
 ·conv=>lhs;unfold Zgg.l0
  rw [dlt h,Zs (by omega),Xe];refine Za (Zh h) (Za (hr i h h) ?_)
  by_cases c:(Z4e l[i] (i:Int)).2.2.2.2=0
  ·rw [Xc c,show ((Z4e l[i] (i:Int)).2.2.2.2 != 0)=false by simpa using c,Xf]
   exact Za (Z6 (by simp;omega)) rfl
  ·rw [Xd c,show ((Z4e l[i] (i:Int)).2.2.2.2 != 0)=true by simpa using c]
   rfl
 ·conv=>lhs;unfold Zgg.l0
  rw [Z8 (Ye _)];rfl
end Go.Proofs.Qz
