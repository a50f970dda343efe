/- What the law FnExactDeedDo needs, part 12 of 15: the Lean functions of the Go functions that it reaches, with the proofs that the calls come to what they say, and plain facts about them. Conditions: those that each theorem states. Written by a session and by its programs (after the kit's printer). -/
import Derived.Lib.ItoaNum
import Derived.Test.YtpcllejjdmmjcaaGreatDoorXFnExactDeedDo9
import Derived.Test.YtpcllejjdmmjcaaGreatDoorXFnExactDeedDo10
open Option renaming bind_some → Ya, bind_eq_some_iff → Ys, some → Yga
open Nat renaming le_refl → Yb, pow_le_pow_right → Y7, sub_self → Yfa, add_zero → Ywa, lt_of_le_of_lt → Yxa, min_eq_left → Yya, mod_eq_of_lt → Yza, pow_succ → Y0a, testBit_and → Y1a, testBit_eq_decide_div_mod_eq → Y2a, zero_testBit → Y3a
open Bool renaming not_true → Yc, and_eq_true → Yf, and_self → Yg, true_and → Yi, false_or → Yp, or_self → Yq, eq_iff_iff → Yx, false_ne_true → Yy, or_eq_true → Yz, eq_false_iff → Y5, and_eq_false_iff → Y8, not_eq_false' → Y9, not_eq_true' → Yia
open List renaming getD_eq_getElem?_getD → Yd, getElem?_eq_getElem → Ye, range → Yh, getElem_mem → Yj, all_eq_true → Ym, mem_range → Yo, length_map → Yr, append_assoc → Yv, replicate → Yw, drop_zero → Y0, length_take → Y1, mem_filter → Y2, mem_iff_getElem → Y3, take_length → Y4, any_eq_true → Y6, append_nil → Yaa, getElem_take → Yba, length_append → Yca, mem_cons_self → Yda, mem_map → Yea, append_cancel_left_eq → Yja, drop_length → Yka, filter_append → Yla, filter_cons_of_neg → Yma, filter_cons_of_pos → Yna, length → Yoa, length_filter_le → Ypa, length_range → Yqa, mem_reverse → Yra, pairwise_iff_getElem → Ysa, range_succ → Yta, reverse_cons → Yua, take_prefix → Yva
open BitVec renaming ofInt → Yk, toNat_ofInt → Yt, toNat_and → Yha
open Int renaming toNat_natCast → Yl, toNat_of_nonneg → Yu
open Go.IntKind renaming wrap → Yn
namespace Go.Proofs.Qz
open Go
set_option linter.unusedVariables false
def Zcl (s:Str):Bool:=decide (s.length=8)
def Zxi (l:List Str):Bool:=(decide (1≤l.length)&&decide (l.length≤8))&&l.all Zcl
theorem Zq7 (l:List Str) {k:Nat} (hk:100≤k):Zuc k l=some (Zxi l):=by
 unfold Zuc Zxi
 by_cases h1:1≤l.length
 ·by_cases h2:l.length≤8
  ·rw [Xb (by omega:¬((l.length:Int)<1)),Xb (by omega:¬(8<(l.length:Int))),Xa h1,Xa h2]
   simp only [Yq,Xf,Yg,Yi]
   have good:∀i,(h:i<l.length)→Zcl l[i]=true→∀j,Zuc.l0 (j+1) l (i:Int)=Zuc.l0 j l ((i+1:Nat):Int):=fun i h hb j=>by
    have hb:l[i].length=8:=by simpa [Zcl] using hb
    conv=>lhs;unfold Zuc.l0
    rw [dlt h,Zg h,Zm (by omega)];simp only [Xe,Ya,hb];rfl
   rcases Z6cb l Zcl with h | ⟨h,m,hm,h3,h4⟩
   ·have run:=Zqb (fun j i=>Zuc.l0 j l (i:Int)) l.length (.inl ()) (fun i hi j=>good i hi (Ym.1 h _ (Yj hi)) j) (fun j=>by
     show Zuc.l0 (j+1) l (l.length:Int)=_;unfold Zuc.l0;rw [Zs (Yb _)];rfl) k (by omega)
    have run:Zuc.l0 k l 0=some (.inl ()):=run;rw [run,h];rfl
   ·have run:=Zqb (fun j i=>Zuc.l0 j l (i:Int)) m (.inr false) (fun i hi j=>good i (by omega) (h4 i hi) j) (fun j=>by
     show Zuc.l0 (j+1) l (m:Int)=_;have hb:l[m].length≠8:=by simpa [Zcl] using h3
     unfold Zuc.l0;rw [dlt hm,Zg hm];simp only [Xe,Ya];rw [show ((l[m].length:Int) != 8)=true by simp;omega];rfl) k (by omega)
    have run:Zuc.l0 k l 0=some (.inr false):=run;rw [run,h];rfl
  ·rw [Xa (by omega:8<(l.length:Int)),Xb h2]
   simp
 ·rw [Xa (by omega:(l.length:Int)<1),Xb h1]
  simp
theorem Zwlb (l:List Str) {k:Nat} (hk:100≤k):Zbq k l=some (Zxi l):=by
 have hb:Zhk (l.length:Int)=some (decide (1≤(l.length:Int))&&decide ((l.length:Int)≤8)):=rfl
 have hz:Zzi l=some (l.length:Int):=rfl
 unfold Zbq Zxi
 refine Za hz (Za hb ?_)
 by_cases h1:1≤l.length
 ·by_cases h2:l.length≤8
  ·rw [Xa (by omega:(1:Int)≤(l.length:Int)),Xa (by omega:(l.length:Int)≤8),Xa h1,Xa h2]
   simp only [Xe,Yg,Yi]
   have good:∀i,(h:i<l.length)→Zcl l[i]=true→∀j,Zod.l0 (j+1) l (l.length:Int) (i:Int)=Zod.l0 j l (l.length:Int) ((i+1:Nat):Int):=fun i h hb j=>by
    have hb:l[i].length=8:=by simpa [Zcl] using hb
    conv=>lhs;unfold Zod.l0
    rw [dlt h,Zg h,Zm (by omega)];simp only [Xe,Ya,Zcq,hb];rfl
   unfold Zot Zod;rcases Z6cb l Zcl with h | ⟨h,m,hm,h3,h4⟩
   ·have run:=Zqb (fun j i=>Zod.l0 j l (l.length:Int) (i:Int)) l.length (.inl ()) (fun i hi j=>good i hi (Ym.1 h _ (Yj hi)) j) (fun j=>by
     show Zod.l0 (j+1) l (l.length:Int) (l.length:Int)=_;unfold Zod.l0;rw [Zs (Yb _)];rfl) k (by omega)
    have run:Zod.l0 k l (l.length:Int) 0=some (.inl ()):=run;rw [run,h];rfl
   ·have run:=Zqb (fun j i=>Zod.l0 j l (l.length:Int) (i:Int)) m (.inr (m:Int)) (fun i hi j=>good i (by omega) (h4 i hi) j) (fun j=>by
     show Zod.l0 (j+1) l (l.length:Int) (m:Int)=_;have hb:l[m].length≠8:=by simpa [Zcl] using h3
     unfold Zod.l0;rw [dlt hm,Zg hm];simp only [Xe,Ya,Zcq];rw [show ((l[m].length:Int) != 8)=true by simp;omega];rfl) k (by omega)
    have run:Zod.l0 k l (l.length:Int) 0=some (.inr (m:Int)):=run;rw [run,h];simp only [Ya];rw [Xa (by omega:(0:Int)≤(m:Int))];rfl
  ·rw [Xb (by omega:¬((l.length:Int)≤8)),Xb h2]
   simp
 ·rw [Xb (by omega:¬((1:Int)≤(l.length:Int))),Xb h1]
  simp
theorem Z3w {l:List Str} (h:Zxi l=true):1≤l.length∧l.length≤8∧∀s∈l,s.length=8:=by
 unfold Zxi at h
 simp only [Yf,decide_eq_true_eq] at h
 exact ⟨h.1.1,h.1.2,fun s hs=>by simpa [Zcl] using Ym.1 h.2 s hs⟩
theorem Zx4:∀(l:List Str) (n:Nat),(∀s∈l,s.length≤n)→l.flatten.length≤n*l.length
 | [],n,_=>by simp
 | x::l,n,h=>by
  have h1:=h x Yda;have h2:=Zx4 l n fun s hs=>h s (List.mem_cons_of_mem _ hs)
  rw [List.flatten_cons,Yca,List.length_cons,Nat.mul_succ];omega
def mtL:Nat→Int→Str→Str
 | 0,_,o=>o
 | d+1,n,o=>if 0<n then mtL d (n.tdiv 10) (Zob [Yn .u8 (Yn .i64 (48+n.tmod 10))]++o) else o
def mt (n:Int):Str:=if n≤0 then [109,48] else [109]++mtL 20 n []
theorem Zhdb:∀(d:Nat) (n:Int) (o:Str),(mtL d n o).length≤o.length+d
 | 0,_,_=>Yb _
 | d+1,n,o=>by
  unfold mtL;split
  ·have:=Zhdb d (n.tdiv 10) (Zob [Yn .u8 (Yn .i64 (48+n.tmod 10))]++o)
   simp [Zob] at this ⊢;omega
  ·omega
theorem Zadb:∀(d:Nat) (n:Int) (o:Str) (j:Nat),n<10^d→n<9223372036854775808→o.length+d≤1000→d<j→Z3c.l0 j n o=some (mtL d n o)
 | d,n,o,0,_,_,_,h=>absurd h (Nat.not_lt_zero d)
 | 0,n,o,j+1,h,_,_,_=>by
  have:¬(0<n):=by
   have:n<1:=h;omega
  unfold Z3c.l0 mtL;rw [Xb this];rfl
 | d+1,n,o,j+1,h,hb,ho,hj=>by
  unfold Z3c.l0 mtL
  by_cases hn:0<n
  ·have e:n.tdiv 10=n/10:=Int.tdiv_eq_ediv_of_nonneg (by omega)
   rw [Xa hn,Xc hn,Z7q (by omega:(10:Int)≠0)];simp only [Xe,Ya];rw [Zwc (by simp [Zob];omega)];simp only [Ya];rw [w64 (by rw [e];omega) (by rw [e];omega)];refine Zadb d (n.tdiv 10) _ j ?_ (by rw [e];omega) (by simp [Zob];omega) (by omega);rw [e];have h':n<10^d*10:=by rw [← Int.pow_succ];exact h
   omega
  ·rw [Xb hn,Xd hn]
   rfl
theorem Zq0 (n:Int) (h:n<9223372036854775808):Zc fun k=>Z3c k n=some (mt n):=by
 refine ⟨21,fun k hk=>?_⟩
 unfold Z3c mt
 by_cases hn:n≤0
 ·rw [Xa hn,Xc hn];rfl
 ·rw [Xb hn,Xd hn]
  simp only [Xf]
  have h20:n<10^20:=by
   have:(10:Int)^20=100000000000000000000:=by rfl
   omega
  rw [Zadb 20 n [] k h20 h (by simp) (by omega)];simp only [Ya];have hl:=Zhdb 20 n [];rw [Zwc (by simp at hl ⊢;omega)];rfl
theorem Zgib (s:Str):(s==s)=true:=by simp
def Zkk (n:Nat) (k:Int):List Str:=(Yh n).map fun (i:Nat)=>mt (k+(i:Int))
theorem Zgx {β:Type} (l:List β) (f:Nat→β) (i:Nat) (h:i<l.length):((Yh i).map f++l.drop i).set i (f i)=(Yh (i+1)).map f++l.drop (i+1):=by
 rw [List.set_append_right _ _ (by simp),Yr,Yqa,Yfa,List.drop_eq_getElem_cons h,List.set_cons_zero,Yta,List.map_append,Yv]
 rfl
theorem Z6q {β:Type} (l:List β) (f:Nat→β) (i:Nat) (h:i≤l.length):((Yh i).map f++l.drop i).length=l.length:=by simp;omega
theorem Zcib {α:Type} {l:List α} {i:Nat} {x:α} (h:i<l.length):at? (l.set i x) (i:Int)=some x:=by
 rw [Zg (by rw [List.length_set];exact h),List.getElem_set_self]
def Ev {α:Type} (f:Nat→Option α) (Q:α→Prop):Prop:=∃p,Q p∧Zc fun k=>f k=some p
theorem Ev.bind {α β:Type} {f:Nat→Option α} {g:Nat→α→Option β} {Q:α→Prop} {R:β→Prop} (h:Ev f Q) (k:∀p,Q p→Ev (fun k=>g k p) R):Ev (fun k=>(f k).bind (g k)) R:=by
 obtain ⟨p,hp,e⟩:=h
 obtain ⟨q,hq,e2⟩:=k p hp
 exact ⟨q,hq,(e.and e2).mono fun k h=>(congrArg (fun z=>Option.bind z (g k)) h.1).trans h.2⟩
theorem Ev.ret {α:Type} {p:α} {Q:α→Prop} (h:Q p):Ev (fun _=>some p) Q:=⟨p,h,Zc.of fun _=>rfl⟩
theorem Ev.of {α:Type} {x:Option α} {Q:α→Prop} (h:∃p,x=some p∧Q p):Ev (fun _=>x) Q:=by
 obtain ⟨p,e,h⟩:=h
 exact ⟨p,h,Zc.of fun _=>e⟩
theorem Ev.mono {α:Type} {f:Nat→Option α} {Q R:α→Prop} (h:Ev f Q) (k:∀p,Q p→R p):Ev f R:=by
 obtain ⟨p,hp,e⟩:=h
 exact ⟨p,k p hp,e⟩
theorem Ev.cond {α:Type} {b:Bool} {f g:Nat→Option α} {Q:α→Prop} (h1:b=true→Ev f Q) (h2:b=false→Ev g Q):Ev (fun k=>bif b then f k else g k) Q:=by
 cases b with
 | true=>exact h1 rfl
 | false=>exact h2 rfl
theorem Zmnb {S R:Type} (L:Nat→Nat→S→Option R) (m:S→Nat) (I:S→Prop) (Q:R→Prop) (step:∀s,I s→(∃r,(Zc fun k=>∀j,L k (j+1) s=some r)∧Q r)∨∃s',I s'∧m s'<m s∧Zc fun k=>∀j,L k (j+1) s=L k j s'):∀(n:Nat) (s:S),I s→m s≤n→∃r,Q r∧Zc fun k=>∀j,n<j→L k j s=some r:=by
 intro n
 induction n with
 | zero=>
  intro s hi hm;rcases step s hi with ⟨r,hr,hq⟩ | ⟨s',_,hm',_⟩
  ·refine ⟨r,hq,hr.mono fun k hr j hj=>?_⟩
   obtain ⟨j,rfl⟩:∃q,j=q+1:=⟨j-1,by omega⟩;exact hr j
  ·omega
 | succ n ih=>
  intro s hi hm;rcases step s hi with ⟨r,hr,hq⟩ | ⟨s',hi',hm',hs⟩
  ·refine ⟨r,hq,hr.mono fun k hr j hj=>?_⟩
   obtain ⟨j,rfl⟩:∃q,j=q+1:=⟨j-1,by omega⟩;exact hr j
  ·obtain ⟨r,hq,hr⟩:=ih s' hi' (by omega)
   refine ⟨r,hq,(hr.and hs).mono fun k h j hj=>?_⟩;obtain ⟨j,rfl⟩:∃q,j=q+1:=⟨j-1,by omega⟩;rw [h.2 j];exact h.1 j (by omega)
theorem Ev.loop {S R:Type} (L:Nat→Nat→S→Option R) (m:S→Nat) (I:S→Prop) (Q:R→Prop) (s:S) (hs:I s) (step:∀s,I s→(∃r,(Zc fun k=>∀j,L k (j+1) s=some r)∧Q r)∨∃s',I s'∧m s'<m s∧Zc fun k=>∀j,L k (j+1) s=L k j s'):Ev (fun k=>L k k s) Q:=by
 obtain ⟨r,hq,K,h⟩:=Zmnb L m I Q step (m s) s hs (Yb _)
 exact ⟨r,hq,K+m s+1,fun k hk=>h k (by omega) k (by omega)⟩
abbrev Z8c:=Int×Str
abbrev Z2:=List Str×List Z8c
abbrev Zp:=Int×Z2
theorem Zpgb {α:Type} (L:Nat→Int→Int→Option (Int ⊕ Int)) (l:List α) (len:α→Nat) (n:Int) (h0:0≤n)
  (hs:∀i,(h:i<l.length)→∀s,0≤s→s≤n→∀j,L (j+1) s (i:Int)=if s<(len l[i]:Int) then some (.inr (-1)) else L j (s-(len l[i]:Int)) ((i+1:Nat):Int))
  (he:∀s j,L (j+1) s (l.length:Int)=some (.inl s)):Ev (fun k=>L k n 0) fun r=>(∃v,r = .inl v∧0≤v∧v≤n∧∀x∈l,(len x:Int)≤n)∨r = .inr (-1):=by
 refine Ev.loop (fun k j (z:Int×Nat)=>L j z.1 (z.2:Int)) (fun z=>l.length-z.2) (fun z=>0≤z.1∧z.1≤n∧z.2≤l.length∧∀x∈l.take z.2,(len x:Int)≤n) _ (n,0) ⟨h0,Int.le_refl _,Nat.zero_le _,fun x hx=>by simp at hx⟩ ?_
 rintro ⟨s,i⟩ ⟨q0,q1,q2,q3⟩
 have q0:0≤s:=q0
 have q1:s≤n:=q1
 have q2:i≤l.length:=q2
 by_cases hi:i<l.length
 ·by_cases hb:s<(len l[i]:Int)
  ·left
   refine ⟨.inr (-1),Zc.of fun k j=>?_,.inr rfl⟩;show L (j+1) s (i:Int)=_;rw [hs i hi s q0 q1,Xc hb]
  ·right
   refine ⟨(s-(len l[i]:Int),i+1),⟨by show 0≤s-_;omega,by show s-_≤n;omega,hi,fun x hx=>?_⟩,by show l.length-(i+1)<l.length-i;omega,Zc.of fun k j=>?_⟩
   ·have hx:x∈l.take (i+1):=hx
    rw [Zni hi] at hx;rcases List.mem_append.1 hx with hx | hx
    ·exact q3 x hx
    ·rw [List.mem_singleton.1 hx];omega
   ·show L (j+1) s (i:Int)=L j (s-(len l[i]:Int)) ((i+1:Nat):Int)
    rw [hs i hi s q0 q1,Xd hb]
 ·left
  obtain rfl:i=l.length:=by omega
  refine ⟨.inl s,Zc.of fun k j=>he s j,.inl ⟨s,rfl,q0,q1,fun x hx=>q3 x (by rw [Y4];exact hx)⟩⟩
theorem Zlrb (l:List Str) (n:Int) (hl:l.length≤140737488351232) (hx:∀x∈l,x.length≤140737488351232) (h0:0≤n) (h1:n≤1048576):Ev (fun k=>Zkf k l n) fun v=>v≤n∧(0≤v→(l.length:Int)≤n∧∀x∈l,(x.length:Int)≤n):=by
 unfold Zkf
 rw [w64 (n:=n-(l.length:Int)) (by omega) (by omega)]
 refine Ev.cond (fun h=>Ev.ret ⟨by omega,fun h=>by omega⟩) fun h=>?_
 have h:0≤n-(l.length:Int):=by simpa using h
 refine Ev.bind (Zpgb (fun j s i=>Zkf.l0 j l s i) l Yoa (n-(l.length:Int)) h (fun i hi s s0 s1 j=>?_) fun s j=>?_) fun r hr=>?_
 ·show Zkf.l0 (j+1) l s (i:Int)=_
  have hb:=hx _ (Yj hi);rw [Zkf.l0,dlt hi,Zg hi,Zm (by omega),];simp only [Xe,Ya];rw [w64 (n:=s-((l[i]).length:Int)) (by omega) (by omega)]
  by_cases hc:s<((l[i]).length:Int)
  ·rw [Xc hc,Xa (by omega:s-((l[i]).length:Int)<0)];rfl
  ·rw [Xd hc,Xb (by omega:¬(s-((l[i]).length:Int)<0))];rfl
 ·show Zkf.l0 (j+1) l s (l.length:Int)=_
  unfold Zkf.l0;rw [Zs (Yb _)];rfl
 ·rcases hr with ⟨v,rfl,v0,v1,v2⟩ | rfl
  ·exact Ev.ret ⟨by omega,fun _=>⟨by omega,fun x hx=>by have:=v2 x hx;omega⟩⟩
  ·exact Ev.ret ⟨by omega,fun h=>by omega⟩
theorem Zhrb (l:List Z8c) (n:Int) (hl:l.length≤140737488351232) (hx:∀x∈l,x.2.length≤140737488351232) (h0:0≤n) (h1:n≤1048576):Ev (fun k=>Zjf k l n) fun v=>v≤n∧(0≤v→(l.length:Int)≤n∧∀x∈l,(x.2.length:Int)≤n):=by
 unfold Zjf
 rw [w64 (n:=n-(l.length:Int)) (by omega) (by omega)]
 refine Ev.cond (fun h=>Ev.ret ⟨by omega,fun h=>by omega⟩) fun h=>?_
 have h:0≤n-(l.length:Int):=by simpa using h
 refine Ev.bind (Zpgb (fun j s i=>Zjf.l0 j l s i) l (fun x=>x.2.length) (n-(l.length:Int)) h (fun i hi s s0 s1 j=>?_) fun s j=>?_) fun r hr=>?_
 ·show Zjf.l0 (j+1) l s (i:Int)=_
  have hb:=hx _ (Yj hi)
  have e:Zyq l[i] s=some (if s<((l[i]).2.length:Int) then -1 else s-((l[i]).2.length:Int)):=by
   unfold Zyq;rw [w64 (n:=s-((l[i]).2.length:Int)) (by omega) (by omega)];dsimp only
   by_cases hc:s<((l[i]).2.length:Int)
   ·rw [Xc hc,Xa (by omega:s-((l[i]).2.length:Int)<0)];rfl
   ·rw [Xd hc,Xb (by omega:¬(s-((l[i]).2.length:Int)<0))];rfl
  rw [Zjf.l0,dlt hi,Zg hi,Zm (by omega)];simp only [Xe,Ya];rw [e];simp only [Ya]
  by_cases hc:s<((l[i]).2.length:Int)
  ·rw [Xc hc,Xc hc];rfl
  ·rw [Xd hc,Xd hc,Xb (by omega:¬(s-((l[i]).2.length:Int)<0))];rfl
 ·show Zjf.l0 (j+1) l s (l.length:Int)=_
  unfold Zjf.l0;rw [Zs (Yb _)];rfl
 ·rcases hr with ⟨v,rfl,v0,v1,v2⟩ | rfl
  ·exact Ev.ret ⟨by omega,fun _=>⟨by omega,fun x hx=>by have:=v2 x hx;omega⟩⟩
  ·exact Ev.ret ⟨by omega,fun h=>by omega⟩
def Zu2 (f:Z2):Prop:=(f.1.length≤140737488351232∧∀x∈f.1,x.length≤140737488351232)∧f.2.length≤140737488351232∧∀x∈f.2,x.2.length≤140737488351232
def Zzv (f:Z2) (n:Int):Prop:=((f.1.length:Int)≤n∧∀x∈f.1,(x.length:Int)≤n)∧(f.2.length:Int)≤n∧∀x∈f.2,(x.2.length:Int)≤n
theorem Zirb (f:Z2) (n:Int) (hb:Zu2 f) (h0:0≤n) (h1:n≤1048576):Ev (fun k=>Zzq k f n) fun v=>v≤n∧(0≤v→Zzv f n):=by
 unfold Zzq
 refine Ev.bind (Zlrb f.1 n hb.1.1 hb.1.2 h0 h1) fun v hv=>Ev.cond (fun _=>Ev.ret ⟨by omega,fun h=>by omega⟩) fun hc=>?_
 have hc:0≤v:=by simpa using hc
 refine Ev.bind (Zhrb f.2 v hb.2.1 hb.2.2 hc (by omega)) fun u hu=>Ev.cond (fun _=>Ev.ret ⟨by omega,fun h=>by omega⟩) fun hd=>Ev.ret ⟨by omega,fun hu0=>?_⟩
 obtain ⟨a1,a2⟩:=hv.2 hc
 obtain ⟨b1,b2⟩:=hu.2 hu0
 exact ⟨⟨a1,a2⟩,by omega,fun x hx=>by have:=b2 x hx;omega⟩
theorem Zjrb (m:Zp) (n:Int) (hb:Zu2 m.2) (h0:0≤n) (h1:n≤1048576):Ev (fun k=>Z0q k m n) fun v=>v≤n∧(0≤v→Zzv m.2 n):=by
 unfold Z0q
 exact Ev.bind (Zirb m.2 n hb h0 h1) fun v hv=>Ev.cond (fun _=>Ev.ret ⟨by omega,fun h=>by omega⟩) fun _=>Ev.ret hv
theorem Zogb (l:List Int) (n:Int) (hl:l.length≤140737488351232) (h0:0≤n) (h1:n≤1048576):∃v,Zpo l n=some v∧v≤n∧(0≤v→(l.length:Int)≤n):=by
 unfold Zpo
 rw [w64 (n:=n-(l.length:Int)) (by omega) (by omega)]
 dsimp only
 by_cases hc:n-(l.length:Int)<0
 ·rw [Xa hc];exact ⟨-1,rfl,by omega,fun h=>by omega⟩
 ·rw [Xb hc];exact ⟨_,rfl,by omega,fun h=>by omega⟩
theorem Zvrb (l:List Str) (hl:l.length≤1048576):Zc fun k=>Zmf k l=some l:=by
 refine Zc.ge (l.length+1) fun k hk=>?_
 unfold Zmf
 rw [Z0u (by omega)]
 simp only [Ya]
 rw [Zkw (fun j i c=>Zmf.l0 j l i c) l ([]:Str) (fun i hi c hc j=>by
  show Zmf.l0 (j+1) l (i:Int) c=_;rw [Zmf.l0,dlt hi,Zg hi,Zg (by omega:i<c.length),Zm (by omega)];rfl) (fun c j=>by
  show Zmf.l0 (j+1) l (l.length:Int) c=_;unfold Zmf.l0;rw [Zs (Yb _)];rfl) (k:=k) (by omega)]
 rfl
theorem Zrrb (l:List Z8c) (hl:l.length≤1048576):Zc fun k=>Zlf k l=some l:=by
 refine Zc.ge (l.length+1) fun k hk=>?_
 unfold Zlf
 rw [Z0u (by omega)]
 simp only [Ya]
 rw [Zkw (fun j i c=>Zlf.l0 j l i c) l ((0,[]):Z8c) (fun i hi c hc j=>by
  show Zlf.l0 (j+1) l (i:Int) c=_;rw [Zlf.l0,dlt hi,Zg hi,Zg (by omega:i<c.length),Zm (by omega)];rfl) (fun c j=>by
  show Zlf.l0 (j+1) l (l.length:Int) c=_;unfold Zlf.l0;rw [Zs (Yb _)];rfl) (k:=k) (by omega)]
 rfl
theorem Zygb (l:List Int) (hl:l.length≤1048576):Zc fun k=>Z2e k l=some l:=by
 refine Zc.ge (l.length+1) fun k hk=>?_
 unfold Z2e
 rw [Z0u (by omega)]
 simp only [Ya]
 rw [Zkw (fun j i c=>Z2e.l0 j l i c) l (0:Int) (fun i hi c hc j=>by
  show Z2e.l0 (j+1) l (i:Int) c=_;rw [Z2e.l0,dlt hi,Zg hi,Zg (by omega:i<c.length),Zm (by omega)];rfl) (fun c j=>by
  show Z2e.l0 (j+1) l (l.length:Int) c=_;unfold Z2e.l0;rw [Zs (Yb _)];rfl) (k:=k) (by omega)]
 rfl
theorem Zsrb (f:Z2) (n:Int) (hf:Zzv f n) (hn:n≤1048576):Zc fun k=>Z2q k f=some f:=by
 have h1:=hf.1.1
 have h2:=hf.2.1
 refine ((Zvrb f.1 (by omega)).and (Zrrb f.2 (by omega))).mono fun k ⟨e1,e2⟩=>?_
 unfold Z2q
 rw [e1,e2]
 rfl
theorem Zurb (m:Zp) (n:Int) (hf:Zzv m.2 n) (hn:n≤1048576):Zc fun k=>Zam k m=some m:=by
 refine (Zsrb m.2 n hf hn).mono fun k e=>?_
 unfold Zam
 rw [e]
 rfl
theorem Zfbb (l:List Str) (hl:l.length≤1048576):Zc fun k=>Z2f k l l=some true:=by
 have key:Zc fun k=>Z2f.l0 k l l 0=some (.inl ()):=by
  refine Z55 (fun j i=>Z2f.l0 j l l (i:Int)) l.length _ (fun i hi j=>?_) fun j=>?_
  ·conv=>lhs;unfold Z2f.l0
   rw [dlt hi,Zg hi,Zm (by omega)];simp only [Xe,Ya,beq_self_eq_true,Yc,Xf]
  ·conv=>lhs;unfold Z2f.l0
   rw [Zs (Yb _)];rfl
 refine key.mono fun k hk=>?_
 unfold Z2f
 rw [hk]
 simp
theorem Zbbb (l:List Z8c) (hl:l.length≤1048576):Zc fun k=>Z1f k l l=some true:=by
 have hd:∀x:Z8c,Zqq x x=some true:=fun x=>by
  unfold Zqq;simp only [bne_self_eq_false,beq_self_eq_true,Yc,Xf]
 have key:Zc fun k=>Z1f.l0 k l l 0=some (.inl ()):=by
  refine Z55 (fun j i=>Z1f.l0 j l l (i:Int)) l.length _ (fun i hi j=>?_) fun j=>?_
  ·conv=>lhs;unfold Z1f.l0
   rw [dlt hi,Zg hi,Zm (by omega)];simp only [Xe,Ya,hd,Yc,Xf]
  ·conv=>lhs;unfold Z1f.l0
   rw [Zs (Yb _)];rfl
 refine key.mono fun k hk=>?_
 unfold Z1f
 rw [hk]
 simp
theorem Zk4 (l:List Int) (hl:l.length≤1048576):Zc fun k=>Zoe k l l=some true:=by
 have key:Zc fun k=>Zoe.l0 k l l 0=some (.inl ()):=by
  refine Z55 (fun j i=>Zoe.l0 j l l (i:Int)) l.length _ (fun i hi j=>?_) fun j=>?_
  ·conv=>lhs;unfold Zoe.l0
   rw [dlt hi,Zg hi,Zm (by omega)];simp only [Xe,Ya,bne_self_eq_false,Xf]
  ·conv=>lhs;unfold Zoe.l0
   rw [Zs (Yb _)];rfl
 refine key.mono fun k hk=>?_
 unfold Zoe
 rw [hk]
 simp
theorem Ztjb (m:Zp) (n:Int) (hf:Zzv m.2 n) (hn:n≤1048576):Zc fun k=>Zdl k m m=some true:=by
 have h1:=hf.1.1
 have h2:=hf.2.1
 refine ((Zfbb m.2.1 (by omega)).and (Zbbb m.2.2 (by omega))).mono fun k ⟨e1,e2⟩=>?_
 unfold Zdl Zrq
 rw [e1,e2]
 simp only [bne_self_eq_false,Ya,Yc,Xf]
theorem Zhnb (s:Str):Zob (Zhb s)=s:=by
 unfold Zob Zhb
 rw [List.map_map]
 have:((fun n:Int=>UInt8.ofNat n.toNat) ∘ fun b:UInt8=>(b.toNat:Int))=id:=by
  funext b
  simp
 rw [this,List.map_id]
theorem Zgnb (a b:List Int):Zob (a++b)=Zob a++Zob b:=by simp [Zob]
theorem Zr3 (a b:Str):Zhb (a++b)=Zhb a++Zhb b:=by simp [Zhb]
theorem Zs3 (s:Str):(Zhb s).length=s.length:=by simp [Zhb]
def xb (a b:Str) (i:Nat):Int:=intBits .xor .u8 ((a.getD i 0).toNat:Int) ((b.getD i 0).toNat:Int)
def Zr2 (a b:Str):Str:=Zob ((Yh 8).map (xb a b))
def Z3t (a b:Str):Str:=if a.length=8∧b.length=8 then Zr2 a b else []
theorem Zc3 {s:Str} {i:Nat} (h:i<s.length):at? s (i:Int)=some (s.getD i 0):=by
 rw [Zg h,Yd,Ye h]
 rfl
theorem Zzmb {a b:Str} (ha:a.length=8) (hb:b.length=8) {k:Nat} (hk:10≤k):Z0f k a b=some (Zr2 a b):=by
 have hbl:(Zhb a).length=8:=by rw [Zs3,ha]
 have run:=Zqb (fun j i=>Z0f.l0 j b ((Zhb a).length:Int) (i:Int) ((Yh i).map (xb a b)++(Zhb a).drop i)) 8 ((Yh 8).map (xb a b)) (fun i hi j=>?_) (fun j=>?_) k (by omega)
 ·have run:Z0f.l0 k b ((Zhb a).length:Int) 0 (Zhb a)=some ((Yh 8).map (xb a b)):=run
  unfold Z0f;exact Za (Zveb (by omega)) (Za run rfl)
 ·have hl:=Z6q (Zhb a) (xb a b) i (by omega)
  have hat:at? ((Yh i).map (xb a b)++(Zhb a).drop i) (i:Int)=some ((a.getD i 0).toNat:Int):=by
   rw [Zg (by rw [hl];omega)];rw [List.getElem_append_right (by simp)];simp only [Yr,Yqa,Yfa,List.getElem_drop,Ywa];unfold Zhb;rw [List.getElem_map,Yd,Ye (by omega)];rfl
  conv=>lhs;unfold Z0f.l0
  rw [Xa (by omega:(i:Int)<((Zhb a).length:Int)),Zm (by omega),Xe];refine Za hat (Za hat (Za (Zc3 (by omega)) (Za hat (Za hat ?_))));have:=Zgx (Zhb a) (xb a b) i (by omega);rw [Yl,show intBits .xor .u8 ((a.getD i 0).toNat:Int) ((b.getD i 0).toNat:Int)=xb a b i from rfl,this]
 ·conv=>lhs;unfold Z0f.l0
  rw [hbl,List.drop_of_length_le (by omega),Yaa];rfl
theorem Zwqb (a b:Str) {k:Nat} (hk:10≤k):Z9f k a b=some (Z3t a b):=by
 unfold Z3t Z9f
 by_cases h:a.length=8∧b.length=8
 ·obtain ⟨ha,hb⟩:=h
  rw [Xc ⟨ha,hb⟩,show (((a.length:Int) != 8)||((b.length:Int) != 8))=false by rw [ha,hb];rfl,Xf];have hm:Z3g 1 8 8 (0:Int)=some (Yw 8 0):=rfl;have run:=Zqb (fun j i=>Z9f.l0 j a b (i:Int) ((Yh i).map (xb a b)++(Yw 8 (0:Int)).drop i)) 8 ((Yh 8).map (xb a b)) (fun i hi j=>?_) (fun j=>?_) k (by omega)
  ·have run:Z9f.l0 k a b 0 (Yw 8 0)=some ((Yh 8).map (xb a b)):=run
   exact Za hm (Za run rfl)
  ·have hl:=Z6q (Yw 8 (0:Int)) (xb a b) i (by simp;omega)
   rw [List.length_replicate] at hl;obtain ⟨z,hat⟩:∃z,at? ((Yh i).map (xb a b)++(Yw 8 (0:Int)).drop i) (i:Int)=some z:=⟨_,Zg (by rw [hl];exact hi)⟩
   conv=>lhs;unfold Z9f.l0
   rw [Xa (by omega:(i:Int)<8),Zm (by omega),Xe];refine Za (Zc3 (by omega)) (Za (Zc3 (by omega)) (Za hat (Za hat ?_)));have:=Zgx (Yw 8 (0:Int)) (xb a b) i (by simp;omega);rw [Yl,show intBits .xor .u8 ((a.getD i 0).toNat:Int) ((b.getD i 0).toNat:Int)=xb a b i from rfl,this]
  ·conv=>lhs;unfold Z9f.l0
   rfl
 ·rw [Xd h,show (((a.length:Int) != 8)||((b.length:Int) != 8))=true by
   rw [Yz]
   by_cases ha:a.length=8
   ·right;simp;omega
   ·left;simp;omega]
  rfl
def Zt8:Str:=[0,0,0,0,0,0,0,0]
def Zph (x:Zk) (s:Str):Str:=if x.1=1 then Zt8 else if x.1=2 then x.2.2.2 else if x.1=3 then s else Z3t s x.2.2.2
theorem Z11 (x:Zk) (s:Str) {k:Nat} (hk:10≤k):Zvl k x s=some (Zph x s):=by
 have hz:Zst=some Zt8:=rfl
 unfold Zvl Zph
 by_cases h1:x.1=1
 ·rw [Xc h1,show (x.1==1)=true by simpa using h1]
  exact Za hz rfl
 ·rw [Xd h1,show (x.1==1)=false by simpa using h1,Xf]
  by_cases h2:x.1=2
  ·rw [Xc h2,show (x.1==2)=true by simpa using h2]
   rfl
  ·rw [Xd h2,show (x.1==2)=false by simpa using h2,Xf]
   by_cases h3:x.1=3
   ·rw [Xc h3,show (x.1==3)=true by simpa using h3]
    rfl
   ·rw [Xd h3,show (x.1==3)=false by simpa using h3,Xf]
    exact Za (Zwqb _ _ hk) rfl
theorem Ze5 {x:Zk} {s:Str} (h:x.1=1∨x.1=2∨x.1=3∨(s.length=8∧x.2.2.2.length=8)) {k:Nat} (hk:10≤k):Zdn k x s=some (Zph x s):=by
 unfold Zdn Zph
 by_cases h1:x.1=1
 ·rw [Xc h1,show (x.1==1)=true by simpa using h1]
  rfl
 ·rw [Xd h1,show (x.1==1)=false by simpa using h1,Xf]
  by_cases h2:x.1=2
  ·rw [Xc h2,show (x.1==2)=true by simpa using h2]
   rfl
  ·rw [Xd h2,show (x.1==2)=false by simpa using h2,Xf]
   by_cases h3:x.1=3
   ·rw [Xc h3,show (x.1==3)=true by simpa using h3]
    rfl
   ·rw [Xd h3,show (x.1==3)=false by simpa using h3,Xf]
    obtain ⟨a,b⟩:s.length=8∧x.2.2.2.length=8:=by
     rcases h with h | h | h | h
     ·exact absurd h h1
     ·exact absurd h h2
     ·exact absurd h h3
     ·exact h
    refine Za (Zzmb a b hk) ?_;unfold Z3t;rw [Xc ⟨a,b⟩]
structure WriteOk (x:Zk) (n:Int):Prop where
 kind:x.1=1∨x.1=2∨x.1=3∨(x.1=4∧x.2.2.2.length=8)
 tgt:0≤x.2.1∧x.2.1<n
 src:0≤x.2.2.1∧x.2.2.1<n
theorem Zuv {l:List Zk} {n:Int} (h:Zfb l n=0):∀x∈Zi l,WriteOk x n:=by
 intro x hx
 obtain ⟨_,h1,_,hs,_⟩:=Zfg h
 unfold Zi at hx
 obtain ⟨hx,hw⟩:=Y2.1 hx
 have h5:x.1≠5:=by unfold isW at hw;simpa using hw
 have hs:=hs x hx
 unfold Zvg Zjd at hs
 split at hs
 ·rename_i q
  simp only [Yf,decide_eq_true_eq] at hs;exact ⟨.inl q,by omega,by omega⟩
 ·split at hs
  ·rename_i q
   simp only [Yf,decide_eq_true_eq] at hs;exact ⟨.inr (.inl q),by omega,by omega⟩
  ·split at hs
   ·rename_i q
    simp only [Yf,decide_eq_true_eq] at hs;exact ⟨.inr (.inr (.inl q)),by omega,by omega⟩
   ·split at hs
    ·rename_i q
     simp only [Yf,decide_eq_true_eq] at hs;exact ⟨.inr (.inr (.inr ⟨q,by omega⟩)),by omega,by omega⟩
    ·cases hs
def Zte (base:List Str) (l:List Zk):List Str:=Z7c base (Zi l) (fun _=>false) fun x=>Zph x (base.getD x.2.2.1.toNat [])
theorem Zep {l:List Str} {n:Int} (h0:0≤n) (h1:n<(l.length:Int)):at? l n=some (l.getD n.toNat []):=by
 obtain ⟨i,rfl⟩:∃i:Nat,n=(i:Int):=⟨n.toNat,by omega⟩
 rw [Zg (by omega),Yd,Yl,Ye (by omega)]
 rfl
theorem Z14 {l:List Str} {n:Nat} (h:n<l.length):l.getD n []∈l:=by
 rw [Yd,Ye h]
 exact Yj h
theorem Z8bb {base:List Str} {l:List Zk} {n:Int} (hc:Zfb l n=0) (hb:(base.length:Int)=n) (h8:∀s∈base,s.length=8) {k:Nat} (hk:100≤k):Zze k base l=some (Zte base l):=by
 obtain ⟨hl,h1,h2,_,hnd,_⟩:=Zfg hc
 have hw:(Zi l).length≤l.length:=Ypa _ _
 have hcl:Zii base=some base:=by
  unfold Zii;exact Za (Z5 (by simp;omega)) rfl
 have run:=Zqb (fun j i=>Zze.l0 k j base (Zi l) ((Zi l).length:Int) (i:Int) (Z7c base ((Zi l).take i) (fun _=>false) fun x=>Zph x (base.getD x.2.2.1.toNat []))) (Zi l).length (Zte base l) (fun i hi j=>?_) (fun j=>?_) k (by omega)
 ·have run:Zze.l0 k k base (Zi l) ((Zi l).length:Int) 0 (Z7c base [] (fun _=>false) fun x=>Zph x (base.getD x.2.2.1.toNat []))=some (Zte base l):=run
  rw [Zn8] at run;unfold Zze;exact Za hcl (Za (Zf0 l (by omega) k (by omega)) (Za run rfl))
 ·have hx:=Zuv hc _ (Yj hi)
  have hsrc:=hx.src;have hto:=hx.tgt;have hv:(Z7c base ((Zi l).take i) (fun _=>false) fun x=>Zph x (base.getD x.2.2.1.toNat [])).length=base.length:=Z8h _ _ _ _;have hs8:=h8 _ (Z14 (l:=base) (n:=(Zi l)[i].2.2.1.toNat) (by omega));have hat:=Zep (l:=Z7c base ((Zi l).take i) (fun _=>false) fun x=>Zph x (base.getD x.2.2.1.toNat [])) hto.1 (by rw [hv];omega)
  conv=>lhs;unfold Zze.l0
  rw [dlt hi,Zm (by omega),Xe];refine Za (Zg hi) (Za (Zep hsrc.1 (by omega)) (Za (Ze5 (by rcases hx.kind with q | q | q | q;exact .inl q;exact .inr (.inl q);exact .inr (.inr (.inl q));exact .inr (.inr (.inr ⟨hs8,q.2⟩))) (by omega)) (Za hat (Za hat ?_))));rw [Zo8 hnd hi hto.1 (by omega),Xd Yy]
 ·conv=>lhs;unfold Zze.l0
  rw [Zs (Yb _),Y4];rfl
theorem Zjpb {base:List Str} {l:List Zk} {n:Int} (hc:Zfb l n=0) (hb:(base.length:Int)=n) {k:Nat} (hk:100≤k):Zqf k base l=some (Zte base l):=by
 obtain ⟨hl,h1,h2,_,hnd,_⟩:=Zfg hc
 have run:=Zqb (fun j i=>Zqf.l0 k j base l (i:Int) (Z7c base (Zi (l.take i)) (fun _=>false) fun x=>Zph x (base.getD x.2.2.1.toNat []))) l.length (Zte base l) (fun i hi j=>?_) (fun j=>?_) k (by omega)
 ·have run:Zqf.l0 k k base l 0 (Z7c base [] (fun _=>false) fun x=>Zph x (base.getD x.2.2.1.toNat []))=some (Zte base l):=run
  rw [Zn8] at run;have ha:Zt 16 ([]:List Str) base=some base:=Z5 (by simp;omega);unfold Zqf;exact Za ha (Za run rfl)
 ·have hv:(Z7c base (Zi (l.take i)) (fun _=>false) fun x=>Zph x (base.getD x.2.2.1.toNat [])).length=base.length:=Z8h _ _ _ _
  have ht:Zi (l.take (i+1))=if isW l[i] then Zi (l.take i)++[l[i]] else Zi (l.take i):=by
   unfold Zi;rw [Zni hi,Yla];cases h:isW l[i] with
   | true=>rw [Xc rfl,Yna h];rfl
   | false=>rw [Xd Yy,Yma (by rw [h];exact Yy)];simp
  have hpre:Zi (l.take i) <+: Zi l:=by
   unfold Zi;exact (Yva i l).filter _
  conv=>lhs;unfold Zqf.l0
  rw [dlt hi,Zm (by omega),Xe];refine Za (Zg hi) ?_;dsimp only;rw [ht];cases hw:isW l[i] with
  | false=>
   have h5:l[i].1=5:=by unfold isW at hw;simpa using hw
   rw [show (l[i].1 != 5)=false by simpa using h5,Xd Yy];rfl
  | true=>
   have h5:l[i].1≠5:=by unfold isW at hw;simpa using hw
   have hx:=Zuv hc l[i] (Y2.2 ⟨Yj hi,hw⟩);have hsrc:=hx.src;have hto:=hx.tgt;have hat:=Zep (l:=Z7c base (Zi (l.take i)) (fun _=>false) fun x=>Zph x (base.getD x.2.2.1.toNat [])) hto.1 (by rw [hv];omega);rw [show (l[i].1 != 5)=true by simpa using h5,Xe,Xc rfl];refine Za (Zg hi) (Za (Zg hi) (Za (Zg hi) (Za (Zep hsrc.1 (by omega)) (Za (Z11 _ _ (by omega)) (Za hat (Za hat ?_))))))
   have hpre2:Zi (l.take (i+1)) <+: Zi l:=by
    unfold Zi;exact (Yva (i+1) l).filter _
   rw [ht,hw,Xc rfl] at hpre2;obtain ⟨r,hr⟩:=hpre2
   have hlen:(Zi (l.take i)).length<(Zi l).length:=by
    rw [← hr];simp
   have e1:(Zi l)[(Zi (l.take i)).length]=l[i]:=by
    have:(Zi l)[(Zi (l.take i)).length]? = some l[i]:=by
     rw [← hr,Yv,List.getElem?_append_right (Yb _),Yfa];rfl
    rw [Ye hlen] at this;exact Yga.inj this
   have e2:(Zi l).take (Zi (l.take i)).length=Zi (l.take i):=by
    rw [← hr,Yv,List.take_left]
   have e3:(Zi l).take ((Zi (l.take i)).length+1)=Zi (l.take i)++[l[i]]:=by
    rw [Zni hlen,e1,e2]
   have:=Zo8 (base:=base) (w:=Zi l) (done:=fun _=>false) (mk:=fun x=>Zph x (base.getD x.2.2.1.toNat [])) hnd hlen (by rw [e1];exact hto.1) (by rw [e1];omega);rw [e1,e2,e3,Xd Yy] at this;rw [this]
 ·conv=>lhs;unfold Zqf.l0
  rw [Zs (Yb _),Y4];rfl
theorem Zvfb {base:List Str} {l:List Zk} (hi:Zxi base=true) (hl:l.length≤400):Zc fun k=>Zvn k base l=some (if Zfb l (base.length:Int)=0 then (Zte base l,0) else ([],Zfb l (base.length:Int))):=by
 have hb:=Z3w hi
 refine ((Z61 l (base.length:Int) (by omega)).and (Zc.ge 100 fun k hk=>hk)).mono fun k ⟨e,hk⟩=>?_
 unfold Zvn
 refine Za (a:=if Zfb l (base.length:Int)=0 then (Zte base l,0) else ([],Zfb l (base.length:Int))) ?_ rfl
 unfold Zqt
 rw [Xb (by omega:¬((400:Int)<(base.length:Int))),Xb (by omega:¬((400:Int)<(l.length:Int))),Yq,Xf]
 refine Za (Zq7 base hk) ?_
 rw [hi,Yc,Xf]
 refine Za e ?_
 by_cases c:Zfb l (base.length:Int)=0
 ·rw [Xc c,show (Zfb l (base.length:Int) != 0)=false by simpa using c,Xf]
  exact Za (Zjpb c rfl hk) rfl
 ·rw [Xd c,show (Zfb l (base.length:Int) != 0)=true by simpa using c]
  rfl
def Zjj (f:Z2) (n:Int):Option Nat:=Zmb (fun x=>x.1==n) f.2 0
def Zz (f:Z2) (n:Int):Str:=match Zjj f n with
 | some i=>(f.2.getD i (0,[])).2
 | none=>f.1.getD n.toNat []
theorem Zow {f:Z2} {n:Int} {i:Nat} (h:Zjj f n=some i):i<f.2.length:=by
 obtain ⟨_,h2,_⟩:=Z4l h
 simpa using h2
theorem Z6z (f:Z2) (n:Int) (hl:f.2.length≤1048576) {k:Nat} (hk:f.2.length<k):Z8k k f n=some (match Zjj f n with | some i=>(i:Int) | none=>-1):=by
 have run:=Z2g (fun j i=>Z2d.l0 j f.2 (f.2.length:Int) i n) f.2 (fun x=>x.1==n) (.inl n) (fun i=>.inr ((i:Int),n)) (fun i hi=>by
  have e:Z2s f.2[i] n=some (f.2[i].1==n):=rfl;constructor
  ·intro hp j
   show Z2d.l0 (j+1) f.2 (f.2.length:Int) (i:Int) n=Z2d.l0 j f.2 (f.2.length:Int) ((i+1:Nat):Int) n;rw [Z2d.l0];rw [dlt hi,Zg hi,Zm (by omega)];simp only [Xe,Ya,e,hp,Xf]
  ·intro hp j
   show Z2d.l0 (j+1) f.2 (f.2.length:Int) (i:Int) n=_;unfold Z2d.l0;rw [dlt hi,Zg hi];simp only [Xe,Ya,e,hp]) (fun j=>by
  show Z2d.l0 (j+1) f.2 (f.2.length:Int) (f.2.length:Int) n=_;unfold Z2d.l0;rw [Zs (Yb _)];rfl) hk
 have run:Z2d.l0 k f.2 (f.2.length:Int) 0 n=_:=run
 unfold Z8k Z2d Zjj
 rw [run]
 cases Zmb (fun x:Z8c=>x.1==n) f.2 0 <;> rfl
theorem Zd3 {α:Type} {l:List α} {i:Nat} (d:α) (h:i<l.length):at? l (i:Int)=some (l.getD i d):=by
 rw [Zg h,Yd,Ye h]
 rfl
theorem Zcs {α:Type} {l:List α} {n:Int} (d:α) (h0:0≤n) (h:n<(l.length:Int)):at? l n=some (l.getD n.toNat d):=by
 have:=Zd3 (l:=l) (i:=n.toNat) d (by omega)
 rwa [Yu h0] at this
theorem Zwp (f:Z2) (n:Int) (hl:f.2.length≤1048576) (h0:0≤n) (h1:n<(f.1.length:Int)) {k:Nat} (hk:f.2.length<k):Zig k f n=some (Zz f n):=by
 unfold Zig Zz
 rw [Z6z f n hl hk]
 cases h:Zjj f n with
 | some i=>
  simp only [Ya];rw [Xa (by omega:(0:Int)≤(i:Int)),Zd3 (0,[]) (Zow h)];rfl
 | none=>
  simp only [Ya];rw [show decide ((0:Int)≤-1)=false from rfl,Zcs [] h0 h1];rfl
theorem Zzo (f:Z2) (n:Int) (hl:f.2.length≤1048576) (h0:0≤n) (h1:n<(f.1.length:Int)) {k:Nat} (hk:f.2.length<k):Ztb k f n=some (Zz f n):=by
 have run:=Z2g (fun j i=>Ztb.l0 j n f.1 f.2 i) f.2 (fun x=>x.1==n) (.inl ()) (fun i=>.inr (f.2.getD i (0,[])).2) (fun i hi=>by
  constructor
  ·intro hp j
   show Ztb.l0 (j+1) n f.1 f.2 (i:Int)=Ztb.l0 j n f.1 f.2 ((i+1:Nat):Int);rw [Ztb.l0];rw [dlt hi,Zg hi,Zm (by omega)];simp only [Xe,Ya,hp,Xf]
  ·intro hp j
   show Ztb.l0 (j+1) n f.1 f.2 (i:Int)=_;unfold Ztb.l0;rw [dlt hi,Zg hi];simp only [Xe,Ya,hp];rw [Yd,Ye hi];rfl) (fun j=>by
  show Ztb.l0 (j+1) n f.1 f.2 (f.2.length:Int)=_;unfold Ztb.l0;rw [Zs (Yb _)];rfl) hk
 have run:Ztb.l0 k n f.1 f.2 0=_:=run
 unfold Ztb Zz Zjj
 rw [run]
 cases Zmb (fun x:Z8c=>x.1==n) f.2 0 with
 | some i=>rfl
 | none=>
  simp only [Ya];rw [Zcs [] h0 h1];rfl
def okD (m:Nat) (l:List Z8c) (i:Nat):Bool:=decide (0≤(l.getD i (0,[])).1)&&decide ((l.getD i (0,[])).1≤(m:Int)-1)&&decide ((l.getD i (0,[])).2.length≤96) && !((l.take i).any fun x=>x.1==(l.getD i (0,[])).1)
def okS (s:Str):Bool:=decide (s.length≤96)
def Zhg (f:Z2):Bool:=decide (1≤f.1.length∧f.1.length≤40∧f.2.length≤f.1.length)&&(f.1.all okS&&(Yh f.2.length).all (okD f.1.length f.2))
theorem Zvab {l:List Z8c} {i:Nat} (h:i<l.length):∃m,Zmb (fun x:Z8c=>x.1==(l.getD i (0,[])).1) l 0=some m∧m≤i∧(m<i ↔ (l.take i).any (fun x=>x.1==(l.getD i (0,[])).1)=true):=by
 have hg:l.getD i (0,[])=l[i]:=by rw [Yd,Ye h];rfl
 rw [hg]
 cases hf:Zmb (fun x:Z8c=>x.1==l[i].1) l 0 with
 | none=>
  have:=Zus.1 hf l[i] (Yj h);simp at this
 | some m=>
  obtain ⟨_,h2,h3,h4⟩:=Z4l hf;have h2:m<l.length:=by simpa using h2
  have h3:(l[m].1==l[i].1)=true:=by simpa using h3
  have h4:∀j,(hj:j<m)→(l[j].1==l[i].1)=false:=fun j hj=>by simpa using h4 j (by omega)
  have hle:m≤i:=by
   refine Nat.not_lt.1 fun q=>?_
   have:=h4 i q;simp at this
  refine ⟨m,rfl,hle,fun q=>?_,fun q=>?_⟩
  ·refine Y6.2 ⟨l[m],?_,h3⟩
   exact Y3.2 ⟨m,by simp;omega,by simp⟩
  ·obtain ⟨x,hx,hx2⟩:=Y6.1 q
   obtain ⟨j,hj,e⟩:=Y3.1 hx;rw [Y1] at hj;have hji:j<i:=by omega
   rw [Yba] at e;refine Yxa (Nat.not_lt.1 fun q2=>?_) hji;have:=h4 j q2;rw [e,hx2] at this;cases this
theorem Z64 {s:List Str} (hl:s.length≤1048576) (d:List Z8c) (n:Int):Zbn (s,d) n=some (decide (0≤n)&&decide (n≤(s.length:Int)-1)):=by
 unfold Zbn Zzi Z3
 simp only [Ya]
 rw [w64 (by omega) (by omega)]
theorem Zc5 (f:Z2) (hl:f.1.length≤1048576) (hl2:f.2.length≤1048576) {k:Nat} (hk:1048577≤k):Z0e k f=some (Zhg f):=by
 obtain ⟨s,d⟩:=f
 have hl:s.length≤1048576:=hl
 have hl2:d.length≤1048576:=hl2
 have hs:Zmr k s=some (!(s.all okS)):=by
  have run:=Z2g (fun j i=>Zae.l0 j s (s.length:Int) i) s (fun x=>!(okS x)) (.inl ()) (fun i=>.inr (i:Int)) (fun i hi=>by
   have e:Zaq s[i]=some (!(okS s[i])):=by
    unfold Zaq okS
    by_cases q:s[i].length≤96
    ·rw [Xa q,Xb (by omega)];rfl
    ·rw [Xb q,Xa (by omega)];rfl
   constructor
   ·intro hp j
    show Zae.l0 (j+1) s (s.length:Int) (i:Int)=Zae.l0 j s (s.length:Int) ((i+1:Nat):Int);rw [Zae.l0];rw [dlt hi,Zg hi,Zm (by omega)];simp only [Xe,Ya,e,hp,Xf]
   ·intro hp j
    show Zae.l0 (j+1) s (s.length:Int) (i:Int)=_;unfold Zae.l0;rw [dlt hi,Zg hi];simp only [Xe,Ya,e,hp]) (fun j=>by
   show Zae.l0 (j+1) s (s.length:Int) (s.length:Int)=_;unfold Zae.l0;rw [Zs (Yb _)];rfl) (show s.length<k by have:s.length≤1048576:=hl;omega)
  have run:Zae.l0 k s (s.length:Int) 0=_:=run;unfold Zmr Zae;rw [run];cases hf:Zmb (fun x=>!(okS x)) s 0 with
  | none=>
   have:s.all okS=true:=Ym.2 fun x hx=>by
    have:=Zus.1 hf x hx;simpa using this
   rw [this];rfl
  | some i=>
   obtain ⟨_,h2,h3,_⟩:=Z4l hf
   have:s.all okS=false:=by
    cases q:s.all okS with
    | false=>rfl
    | true=>
     have:=Ym.1 q _ (Yj h2);rw [this] at h3;cases h3
   rw [this];simp only [Ya];rw [Xa (by omega:(0:Int)≤(i:Int))];rfl
 have hd:=Zn0 (fun j i=>Z0e.l0 k j s d d (d.length:Int) (i:Int)) d.length (okD s.length d) (fun _=>false) (fun i hi hp j=>?_) (fun i hi hp j=>?_) (fun j=>?_)
 ·unfold Z0e Zhg
  have h40:Z3 (s.length:Int) 1 40=some (decide (1≤s.length)&&decide (s.length≤40)):=by
   unfold Z3;congr 2 <;> exact decide_eq_decide.2 (by omega)
  have hz:Zzi s=some (s.length:Int):=rfl;dsimp only;rw [hz];simp only [Ya];rw [h40];simp only [Ya]
  by_cases c:1≤s.length∧s.length≤40∧d.length≤s.length
  ·rw [Xa c.1,Xa c.2.1,Xb (by omega:¬(s.length:Int)<(d.length:Int)),Xa c,hs]
   simp only [Yg,Yc,Yq,Xf,Ya,Yi];cases ha:s.all okS with
   | false=>rfl
   | true=>
    simp only [Yc,Xf,Yi];rcases hd with ⟨h1,h2⟩ | ⟨h1,i,_,_,h2⟩
    ·have h2:Z0e.l0 k k s d d (d.length:Int) 0=some (.inl ()):=h2 k (by have:d.length≤1048576:=hl2;omega)
     rw [h2,h1];rfl
    ·have h2:Z0e.l0 k k s d d (d.length:Int) 0=some (.inr false):=h2 k (by have:d.length≤1048576:=hl2;omega)
     rw [h2,h1];rfl
  ·rw [Xb c]
   have:((!(decide (1≤s.length)&&decide (s.length≤40)))||decide ((s.length:Int)<(d.length:Int)))=true:=by
    rw [Yz,Yia,Y8,decide_eq_false_iff_not,decide_eq_false_iff_not,decide_eq_true_iff];omega
   rw [this];rfl
 all_goals skip
 ·have hg:d.getD i (0,[])=d[i]:=by rw [Yd,Ye hi];rfl
  have hp2:=hp;unfold okD at hp2;rw [Yf,Yf,Yf,hg] at hp2;obtain ⟨⟨⟨p1,p2⟩,p3⟩,p4⟩:=hp2;obtain ⟨m,m1,m2,m3⟩:=Zvab hi;rw [hg] at m1 m3
  conv=>lhs;unfold Z0e.l0
  rw [dlt hi,Zg hi,Zm (by omega)];simp only [Xe,Ya];rw [Z64 hl,p1,p2];simp only [Ya,Yg,Yc,Yp];rw [Xb (by have:=of_decide_eq_true p3;omega:¬(96:Int)<(d[i].2.length:Int)),Z6z (s,d) _ hl2 (by show d.length<k;omega)];unfold Zjj;dsimp only;rw [m1];simp only [Xf,Ya]
  have hno:¬(m:Int)<(i:Int):=fun q=>by
   have:=m3.1 (by omega);rw [this] at p4;cases p4
  rw [Xb hno];rfl
 ·have hg:d.getD i (0,[])=d[i]:=by rw [Yd,Ye hi];rfl
  obtain ⟨m,m1,m2,m3⟩:=Zvab hi;rw [hg] at m1 m3;have hp2:=hp;unfold okD at hp2;rw [hg] at hp2
  conv=>lhs;unfold Z0e.l0
  rw [dlt hi,Zg hi];simp only [Xe,Ya];rw [Z64 hl,Z6z (s,d) _ hl2 (by show d.length<k;omega)];unfold Zjj;dsimp only;rw [m1];simp only [Ya];cases q1:(decide (0≤d[i].1)&&decide (d[i].1≤(s.length:Int)-1)) with
  | false=>rfl
  | true=>
   rw [q1,Yi] at hp2
   by_cases q2:d[i].2.length≤96
   ·rw [Xa q2,Yi,Y9] at hp2
    rw [Xb (by omega:¬(96:Int)<(d[i].2.length:Int))];simp only [Yc,Yq,Xf];rw [Xa (by have:=m3.2 hp2;omega:(m:Int)<(i:Int))];rfl
   ·rw [Xa (by omega:(96:Int)<(d[i].2.length:Int))]
    rfl
 ·conv=>lhs;unfold Z0e.l0
  rw [Zs (Yb _)];rfl
theorem Zjcb (d:List Z8c) (i:Nat) (hi:i<d.length) (k:Nat) (hk:i<k) (hl2:d.length≤1048576:=by omega):((d.take i).any (fun x=>x.1==(d.getD i (0,[])).1)=true∧∀s,Z1.l1 k s d (i:Int) 0=some (.inr false))∨((d.take i).any (fun x=>x.1==(d.getD i (0,[])).1)=false∧∀s,Z1.l1 k s d (i:Int) 0=some (.inl ())):=by
 have hg:d.getD i (0,[])=d[i]:=by rw [Yd,Ye hi];rfl
 rw [hg]
 have run:∀s,Z1.l1 k s d (i:Int) 0=some (match Zmb (fun x:Z8c=>x.1==d[i].1) (d.take i) 0 with | some _=>.inr false | none=>.inl ()):=fun s=>
  Z2g (fun j q=>Z1.l1 j s d (i:Int) q) (d.take i) (fun x=>x.1==d[i].1) (.inl ()) (fun _=>.inr false) (fun q hq=>by
   rw [Y1] at hq;have hq2:q<i:=by omega
   rw [Yba];constructor
   ·intro hp j
    show Z1.l1 (j+1) s d (i:Int) (q:Int)=Z1.l1 j s d (i:Int) ((q+1:Nat):Int);rw [Z1.l1];rw [dlt hq2,Zg (by omega:q<d.length),Zg hi,Zm (by omega)];simp only [Xe,Ya,hp,Xf]
   ·intro hp j
    show Z1.l1 (j+1) s d (i:Int) (q:Int)=_;rw [Z1.l1];rw [dlt hq2,Zg (by omega:q<d.length),Zg hi];simp only [Xe,Ya,hp]) (fun j=>by
   show Z1.l1 (j+1) s d (i:Int) ((d.take i).length:Int)=_;rw [Y1,Yya (by omega),Z1.l1,Zs (Yb _)];rfl) (by rw [Y1];omega)
 have ha:=Zdo (p:=fun x:Z8c=>x.1==d[i].1) (l:=d.take i) (n:=0)
 cases hf:Zmb (fun x:Z8c=>x.1==d[i].1) (d.take i) 0 with
 | some m=>
  rw [hf] at ha;exact .inl ⟨ha.symm,fun s=>by rw [run s,hf]⟩
 | none=>
  rw [hf] at ha;exact .inr ⟨ha.symm,fun s=>by rw [run s,hf]⟩
theorem Zx1 (f:Z2) (hl:f.1.length≤1048576) (hl2:f.2.length≤1048576) {k:Nat} (hk:1048577≤k):Z1 k f=some (Zhg f):=by
 obtain ⟨s,d⟩:=f
 have hl:s.length≤1048576:=hl
 have hl2:d.length≤1048576:=hl2
 have hs:=Zn0 (fun j i=>Z1.l0 j s d (i:Int)) s.length (fun i=>okS (s.getD i [])) (fun _=>false) (fun i hi hp j=>?_) (fun i hi hp j=>?_) (fun j=>?_)
 have hd:=Zn0 (fun j i=>Z1.l2 k j s d (i:Int)) d.length (okD s.length d) (fun _=>false) (fun i hi hp j=>?_) (fun i hi hp j=>?_) (fun j=>?_)
 ·unfold Z1 Zhg
  dsimp only
  by_cases c:1≤s.length∧s.length≤40∧d.length≤s.length
  ·rw [Xb (by omega:¬(s.length:Int)<1),Xb (by omega:¬(40:Int)<(s.length:Int)),Xb (by omega:¬(s.length:Int)<(d.length:Int)),Xa c]
   simp only [Yq,Xf,Yi]
   have hall:(Yh s.length).all (fun i=>okS (s.getD i []))=s.all okS:=by
    rw [Yx,Ym,Ym];constructor
    ·intro h x hx
     obtain ⟨i,hi,rfl⟩:=Y3.1 hx;have:=h i (Yo.2 hi)
     rwa [Yd,Ye hi] at this
    ·intro h i hi
     have hi:=Yo.1 hi;rw [Yd,Ye hi];exact h _ (Yj hi)
   rcases hs with ⟨h1,h2⟩ | ⟨h1,i,_,_,h2⟩
   ·have h2:Z1.l0 k s d 0=some (.inl ()):=h2 k (by omega)
    rw [h2,← hall,h1];simp only [Ya,Yi];rcases hd with ⟨h3,h4⟩ | ⟨h3,i,_,_,h4⟩
    ·have h4:Z1.l2 k k s d 0=some (.inl ()):=h4 k (by omega)
     rw [h4,h3];rfl
    ·have h4:Z1.l2 k k s d 0=some (.inr false):=h4 k (by omega)
     rw [h4,h3];rfl
   ·have h2:Z1.l0 k s d 0=some (.inr false):=h2 k (by omega)
    rw [h2,← hall,h1];rfl
  ·rw [Xb c]
   have:((decide ((s.length:Int)<1)||decide (40<(s.length:Int)))||decide ((s.length:Int)<(d.length:Int)))=true:=by
    rw [Yz,Yz,decide_eq_true_iff,decide_eq_true_iff,decide_eq_true_iff];omega
   rw [this];rfl
 ·
  have hg:d.getD i (0,[])=d[i]:=by rw [Yd,Ye hi];rfl
  have hp2:=hp;unfold okD at hp2;rw [Yf,Yf,Yf,hg] at hp2;obtain ⟨⟨⟨p1,p2⟩,p3⟩,p4⟩:=hp2;have hin:=Zjcb d i hi k (by omega);rw [hg] at hin;rcases hin with ⟨q,_⟩ | ⟨_,q⟩
  ·rw [q] at p4;cases p4
  conv=>lhs;unfold Z1.l2
  rw [dlt hi,Zg hi,Zm (by omega),w64 (by omega) (by omega)];simp only [Xe,Ya];unfold Z7;rw [p1,p2,q s];simp only [Ya,Yg,Yc,Xf];rw [Xb (by have:=of_decide_eq_true p3;omega:¬(96:Int)<(d[i].2.length:Int))];rfl
 ·have hg:d.getD i (0,[])=d[i]:=by rw [Yd,Ye hi];rfl
  have hp2:=hp;unfold okD at hp2;rw [hg] at hp2;have hin:=Zjcb d i hi k (by omega);rw [hg] at hin
  conv=>lhs;unfold Z1.l2
  rw [dlt hi,Zg hi,w64 (by omega) (by omega)];simp only [Xe,Ya];unfold Z7;simp only [Ya];cases q1:(decide (0≤d[i].1)&&decide (d[i].1≤(s.length:Int)-1)) with
  | false=>rfl
  | true=>
   rw [q1,Yi] at hp2;simp only [Yc,Xf]
   by_cases q2:d[i].2.length≤96
   ·rw [Xa q2,Yi,Y9] at hp2
    rw [Xb (by omega:¬(96:Int)<(d[i].2.length:Int))];rcases hin with ⟨_,q⟩ | ⟨q,_⟩
    ·rw [q s]
     rfl
    ·rw [q] at hp2;cases hp2
   ·rw [Xa (by omega:(96:Int)<(d[i].2.length:Int))]
    rfl
 ·conv=>lhs;unfold Z1.l2
  rw [Zs (Yb _)];rfl
 ·have hg:s.getD i []=s[i]:=by rw [Yd,Ye hi];rfl
  have hp:okS (s.getD i [])=true:=hp;rw [hg] at hp;have hp:=of_decide_eq_true hp
  conv=>lhs;unfold Z1.l0
  rw [dlt hi,Zg hi,Zm (by omega)];simp only [Xe,Ya];rw [Xb (by omega:¬(96:Int)<(s[i].length:Int))];rfl
 ·have hg:s.getD i []=s[i]:=by rw [Yd,Ye hi];rfl
  have hp:okS (s.getD i [])=false:=hp;rw [hg] at hp;have hp:=of_decide_eq_false hp
  conv=>lhs;unfold Z1.l0
  rw [dlt hi,Zg hi];simp only [Xe,Ya];rw [Xa (by omega:(96:Int)<(s[i].length:Int))];rfl
 ·conv=>lhs;unfold Z1.l0
  rw [Zs (Yb _)];rfl
def Zav (s:Str):Option (Int×Str×Nat):=if (Zfd s 0).2.2=0 then if (Zzh s (Zfd s 0).2.1.toNat).2.2=0 then some ((Zfd s 0).1,(Zzh s (Zfd s 0).2.1.toNat).1,(Zzh s (Zfd s 0).2.1.toNat).2.1.toNat) else none else none
theorem Zydb {s:Str} {x:Int} {t:Str} {a d:Nat} (g1:Got s 0 x a) (g4:GotT s a t d):Zn x++Z3b t=s ↔ d=s.length:=by
 have e0:s=Zn x++(Z3b t++s.drop d):=by
  have h1:=g1.eq;rw [Y0,g4.eq] at h1;exact h1
 constructor
 ·intro h
  have:=g4.at';have:=g1.at';have hl:=congrArg Yoa h;rw [Yca] at hl;omega
 ·intro h
  rw [h,Yka,Yaa] at e0;exact e0.symm
def Zso (n:Int) (t:Str):Bool:=(decide (1≤n)&&decide (n≤1000000))&&decide (t.length≤80)
def Zwd (s:Str):Int×Str×Int:=if (Zyc s).2=0 then match Zav (Zl s) with
  | some (n,t,d)=>if d=(Zl s).length∧Zso n t=true then (n,t,0) else (0,[],3)
  | none=>(0,[],3) else (0,[],(Zyc s).2)
theorem Zmfb (n:Int) (t:Str) (hn:Num n) (ht:t.length≤8000):Zc fun k=>Zuk k n t=some (if Zso n t=true then Zeh (Zn n++Z3b t) else []):=by
 have is:Z7 n 1 1000000=some (decide (1≤n)&&decide (n≤1000000)):=rfl
 unfold Zso
 by_cases h1:(decide (1≤n)&&decide (n≤1000000))=true
 ·by_cases h2:t.length≤80
  ·have l1:=Zhc n
   have l4:=Ztj t;refine (((Zaj n hn).and (Z41 t ht)).and (Zu7 (Zn n++Z3b t) (by simp;omega))).mono fun k ⟨⟨a,b⟩,c⟩=>?_
   unfold Zuk;rw [is,h1,Xb (by omega:¬(80:Int)<(t.length:Int)),Xa h2];simp only [Ya,Yc,Yq,Xf,Yg,if_true];rw [a,b];simp only [Ya];rw [Zwc (by omega)];simp only [Ya];rw [c];rfl
  ·refine Zc.of fun k=>?_
   unfold Zuk;rw [is,h1,Xa (by omega:(80:Int)<(t.length:Int)),Xb h2];rfl
 ·refine Zc.of fun k=>?_
  unfold Zuk;rw [is,Y5.2 h1];rfl
theorem Znfb (s:Str) (hs:s.length≤8000):Zc fun k=>Znl k s=some (Zwd s):=by
 by_cases hu:(Zyc s).2=0
 ·obtain ⟨e1,e2,e3⟩:=Ztv hu
  have hbl:(Zl s).length≤8000:=by rw [Zis];omega
  rcases Zhl (Zl s) 0 with ⟨n,a,en,gn⟩ | ⟨c,hc,en⟩
  ·have hla:=gn.le
   rcases Z2r (Zl s) a with ⟨t,d,et,gt⟩ | ⟨c,hc,et⟩
   ·refine ((((Zhm s hs).and (Znv (Zl s) 0 (by omega) hbl)).and (Z9x (Zl s) a (by omega) hbl)).and (Zmfb n t gn.range gt.size)).mono fun k ⟨⟨⟨h0,h1⟩,h2⟩,h3⟩=>?_
    have h1:Zpd k (Zl s) 0=_:=h1;unfold Znl Zwd Zav;rw [Xc hu,h0,e1,en];simp only [Ya];rw [show ((0:Int) != 0)=false from rfl,Xf,h1,en];simp only [Ya,Yl];rw [h2,et];simp only [Ya,if_true,Yl];rw [show ((0:Int) != 0)=false from rfl,Yq,Xf,h3];simp only [Ya]
    by_cases hr:Zso n t=true
    ·rw [Xc hr,Zes]
     by_cases hd:d=(Zl s).length
     ·have:Zeh (Zn n++Z3b t)=s:=by rw [(Zydb gn gt).2 hd,e2]
      rw [Xa this,Xc ⟨hd,hr⟩];rfl
     ·rw [Xb (fun q=>hd ((Zydb gn gt).1 (Z4fb.1 (q.trans e2.symm)))),Xd (fun q=>hd q.1)]
      rfl
    ·rw [Xd hr,Xd (fun q=>hr q.2),Z7ab (by omega)]
     rfl
   ·refine (((Zhm s hs).and (Znv (Zl s) 0 (by omega) hbl)).and (Z9x (Zl s) a (by omega) hbl)).mono fun k ⟨⟨h0,h1⟩,h2⟩=>?_
    have h1:Zpd k (Zl s) 0=_:=h1;unfold Znl Zwd Zav;rw [Xc hu,h0,e1,en];simp only [Ya];rw [show ((0:Int) != 0)=false from rfl,Xf,h1,en];simp only [Ya,Yl];rw [h2,et];simp only [Ya,if_true];rw [Xd hc,show ((0:Int) != 0)=false from rfl,Yp,show (c != 0)=true by simpa using hc];rfl
  ·refine (((Zhm s hs).and (Znv (Zl s) 0 (by omega) hbl)).and (Z9x (Zl s) 0 (by omega) hbl)).mono fun k ⟨⟨h0,h1⟩,h2⟩=>?_
   have h1:Zpd k (Zl s) 0=_:=h1;have h2:Zjm k (Zl s) 0=_:=h2;unfold Znl Zwd Zav;rw [Xc hu,h0,e1,en];simp only [Ya];rw [show ((0:Int) != 0)=false from rfl,Xf,h1,en];simp only [Ya];rw [h2];simp only [Ya];rw [Xd hc,show (c != 0)=true by simpa using hc];rfl
 ·refine (Zhm s hs).mono fun k h0=>?_
  unfold Znl Zwd;rw [Xd hu,h0];simp only [Ya];rw [show ((Zyc s).2 != 0)=true by simpa using hu];rfl
theorem Zecb (s:Str) (hs:s.length≤8000):Zc fun k=>Zen k s=some (Zwd s):=by
 by_cases hu:(Zyc s).2=0
 ·obtain ⟨e1,e2,e3⟩:=Ztv hu
  have hbl:(Zl s).length≤8000:=by rw [Zis];omega
  rcases Zhl (Zl s) 0 with ⟨n,a,en,gn⟩ | ⟨c,hc,en⟩
  ·have hla:=gn.le
   have hn:Zib (Zl s) 0=(n,Zl s,((a:Nat):Int),false):=by unfold Zib;rw [en];rfl
   refine (((Zsu s (by omega)).and (Zg5 (Zl s) 0 (by omega) (by omega))).and (Zhcb (Zl s) a (by omega) (by omega))).mono fun k ⟨⟨h0,h1⟩,h2⟩=>?_
   have h1:Zgc k (Zl s,(0,false))=_:=h1;unfold Zen Zwd Zav;rw [Xc hu,h0,e1,en];simp only [Ya];rw [show ((0:Int) != 0)=false from rfl,Xf,h1,hn];simp only [Ya,Yl];rw [h2];simp only [Ya,if_true];rcases Z2r (Zl s) a with ⟨t,d,et,gt⟩ | ⟨c,hc,et⟩
   ·have ht:Zcg (Zl s) a=(t,Zl s,((d:Nat):Int),false):=by unfold Zcg;rw [et];rfl
    rw [ht,et];simp only [Yp,if_true,Yl]
    by_cases hd:d=(Zl s).length
    ·rw [show (((d:Nat):Int) != ((Zl s).length:Int))=false by rw [hd];simp]
     simp only [Xf];have is:Z3 n 1 1000000=some (decide (1≤n)&&decide (n≤1000000)):=rfl;rw [is];simp only [Ya];unfold Zso
     by_cases q1:(decide (1≤n)&&decide (n≤1000000))=true
     ·by_cases q2:t.length≤80
      ·rw [q1,Xa q2,Xb (by omega:¬(80:Int)<(t.length:Int)),Xc ⟨hd,rfl⟩]
       rfl
      ·rw [q1,Xb q2,Xa (by omega:(80:Int)<(t.length:Int)),Xd (fun q=>by cases q.2)]
       rfl
     ·rw [Y5.2 q1,Xd (fun q=>by cases q.2)]
      rfl
    ·rw [show (((d:Nat):Int) != ((Zl s).length:Int))=true by simp;omega,Xd (fun q=>hd q.1)]
     rfl
   ·have ht:Zcg (Zl s) a=([],Zl s,((a:Nat):Int),true):=by unfold Zcg;rw [et,Xd hc]
    rw [ht,et,Xd hc];rfl
  ·have hn:Zib (Zl s) 0=(0,Zl s,((0:Nat):Int),true):=by unfold Zib;rw [en,Xd hc]
   obtain ⟨t,a',hw,_⟩:=Zicb (Zl s) 0 (by omega) (by omega);refine (((Zsu s (by omega)).and (Zg5 (Zl s) 0 (by omega) (by omega))).and hw).mono fun k ⟨⟨h0,h1⟩,h2⟩=>?_
   have h1:Zgc k (Zl s,(0,false))=_:=h1;unfold Zen Zwd Zav;rw [Xc hu,h0,e1,en,Xd hc];simp only [Ya];rw [show ((0:Int) != 0)=false from rfl,Xf,h1,hn];simp only [Ya];rw [h2];rfl
 ·refine (Zsu s (by omega)).mono fun k h0=>?_
  unfold Zen Zwd;rw [Xd hu,h0];simp only [Ya];rw [show ((Zyc s).2 != 0)=true by simpa using hu];rfl
theorem Zgdb (s:Str):(Zwd s).2.1.length≤80:=by
 unfold Zwd
 split
 ·split
  ·split
   ·rename_i h
    have:=h.2;unfold Zso at this;rw [Yf] at this;exact of_decide_eq_true this.2
   ·simp
  ·simp
 ·simp
def Zlb (f:Z2):Int×Str×Int×Int:=if (Zwd (Zz f 0)).2.2=0∧((Zwd (Zz f 1)).2.2≠0∨(Zwd (Zz f 1)).1≤(Zwd (Zz f 0)).1) then ((Zwd (Zz f 0)).1,(Zwd (Zz f 0)).2.1,(Zwd (Zz f 0)).2.2,0) else if (Zwd (Zz f 1)).2.2=0 then ((Zwd (Zz f 1)).1,(Zwd (Zz f 1)).2.1,(Zwd (Zz f 1)).2.2,1) else (0,[],6,-1)
theorem Zsp {f:Z2} (h:Zhg f=true):(1≤f.1.length∧f.1.length≤40∧f.2.length≤f.1.length)∧(∀x∈f.1,x.length≤96)∧∀i,i<f.2.length→(f.2.getD i (0,[])).2.length≤96:=by
 unfold Zhg at h
 rw [Yf,Yf] at h
 obtain ⟨h1,h2,h3⟩:=h
 refine ⟨of_decide_eq_true h1,fun x hx=>of_decide_eq_true (Ym.1 h2 x hx),fun i hi=>?_⟩
 have:=Ym.1 h3 i (Yo.2 hi)
 unfold okD at this
 rw [Yf,Yf] at this
 exact of_decide_eq_true this.1.2
theorem Z4m {f:Z2} (h:Zhg f=true) (n:Int):(Zz f n).length≤96:=by
 obtain ⟨_,h1,h2⟩:=Zsp h
 unfold Zz
 cases hd:Zjj f n with
 | some i=>exact h2 i (Zow hd)
 | none=>
  by_cases q:n.toNat<f.1.length
  ·show (f.1.getD n.toNat []).length≤96
   rw [Yd,Ye q];exact h1 _ (Yj q)
  ·show (f.1.getD n.toNat []).length≤96
   rw [Yd,List.getElem?_eq_none (by omega)];simp
theorem Zf5 {f:Z2} (h:Zhg f=true) (h2:2≤f.1.length):Zc fun k=>Z2c k f=some (Zlb f):=by
 obtain ⟨⟨b1,b2,b3⟩,_⟩:=Zsp h
 refine (((Zecb (Zz f 0) (by have:=Z4m h 0;omega)).and (Zecb (Zz f 1) (by have:=Z4m h 1;omega))).and (Zc.ge 100 fun k hk=>hk)).mono fun k ⟨⟨m0,m1⟩,hk⟩=>?_
 obtain ⟨j,rfl⟩:∃j,k=j+3:=⟨k-3,by omega⟩
 have r0:Zig (j+3) (f.1,f.2) 0=some (Zz f 0):=Zwp f 0 (by omega) (by omega) (by omega) (by omega)
 have r1:Zig (j+3) (f.1,f.2) 1=some (Zz f 1):=Zwp f 1 (by omega) (by omega) (by omega) (by omega)
 have w1:Yn .i64 ((0:Int)+1)=1:=by decide
 have w2:Yn .i64 ((1:Int)+1)=2:=by decide
 unfold Zlb
 generalize Zwd (Zz f 0)=a at m0
 generalize Zwd (Zz f 1)=b at m1
 obtain ⟨an,at',ac⟩:=a
 obtain ⟨bn,bt,bc⟩:=b
 have s0:∀j2,Z2c.l0 (j+3) (j2+1) f.1 f.2 (-1) 0 0 [] 6=if ac=0 then Z2c.l0 (j+3) j2 f.1 f.2 0 1 an at' ac else Z2c.l0 (j+3) j2 f.1 f.2 (-1) 1 0 [] 6:=fun j2=>by
  conv=>lhs;unfold Z2c.l0
  rw [show decide ((0:Int)<2)=true from rfl,Xe,r0];simp only [Ya];rw [m0];simp only [Ya,w1]
  by_cases q:ac=0
  ·rw [Xc q,q]
   rfl
  ·rw [Xd q,show (ac==0)=false by simpa using q]
   rfl
 have s1:∀j2 (p n c:Int) (t:Str),Z2c.l0 (j+3) (j2+2) f.1 f.2 p 1 n t c=if bc=0∧(p<0∨n<bn) then some (1,bn,bt,bc) else some (p,n,t,c):=fun j2 p n c t=>by
  have fin:∀(p n c:Int) (t:Str),Z2c.l0 (j+3) (j2+1) f.1 f.2 p 2 n t c=some (p,n,t,c):=fun p n c t=>by
   conv=>lhs;unfold Z2c.l0
   rfl
  conv=>lhs;unfold Z2c.l0
  rw [show decide ((1:Int)<2)=true from rfl,Xe,r1];simp only [Ya];rw [m1];simp only [Ya,w2,fin]
  by_cases q:bc=0
  ·subst q
   by_cases q2:p<0
   ·rw [Xa q2,Xc ⟨rfl,.inl q2⟩]
    rfl
   ·rw [Xb q2]
    by_cases q3:n<bn
    ·rw [Xa q3,Xc ⟨rfl,.inr q3⟩]
     rfl
    ·rw [Xb q3,Xd (by omega)]
     rfl
  ·rw [show (bc==0)=false by simpa using q,Xd (fun w=>q w.1)]
   rfl
 unfold Z2c
 rw [show j+3=(j+2)+1 from rfl]
 rw [s0 (j+2)]
 by_cases q:ac=0
 ·rw [Xc q,s1 j]
  by_cases q2:bc=0
  ·by_cases q3:an<bn
   ·rw [Xc ⟨q2,.inr q3⟩,Xd (by simp only [not_and];intro _ ;omega),Xc q2]
    rfl
   ·rw [Xd (by omega),Xc ⟨q,.inr (by omega)⟩]
    rfl
  ·rw [Xd (fun w=>q2 w.1),Xc ⟨q,.inl q2⟩]
   rfl
 ·rw [Xd q,s1 j,Xd (c:=ac=0∧_) (fun w=>q w.1)]
  by_cases q2:bc=0
  ·rw [Xc ⟨q2,.inl (by decide)⟩,Xc q2]
   rfl
  ·rw [Xd (fun w=>q2 w.1),Xd q2]
   rfl
theorem Z21 {f:Z2} (h:Zhg f=true) (h2:2≤f.1.length):Zc fun k=>Zul k f=some (Zlb f):=by
 obtain ⟨⟨b1,b2,b3⟩,_⟩:=Zsp h
 refine (((Znfb (Zz f 0) (by have:=Z4m h 0;omega)).and (Znfb (Zz f 1) (by have:=Z4m h 1;omega))).and (Zc.ge 100 fun k hk=>hk)).mono fun k ⟨⟨m0,m1⟩,hk⟩=>?_
 have r0:Ztb k f 0=some (Zz f 0):=Zzo f 0 (by omega) (by omega) (by omega) (by omega)
 have r1:Ztb k f 1=some (Zz f 1):=Zzo f 1 (by omega) (by omega) (by omega) (by omega)
 unfold Zul Zlb
 rw [r0]
 simp only [Ya]
 rw [m0]
 simp only [Ya]
 rw [r1]
 simp only [Ya]
 rw [m1]
 simp only [Ya]
 generalize Zwd (Zz f 0)=a
 generalize Zwd (Zz f 1)=b
 obtain ⟨an,at',ac⟩:=a
 obtain ⟨bn,bt,bc⟩:=b
 dsimp only
 by_cases q:ac=0
 ·rw [show (ac==0)=true by simpa using q,Yi]
  by_cases q2:bc=0
  ·rw [show (bc != 0)=false by simpa using q2,Yp,show (bc==0)=true by simpa using q2]
   by_cases q3:bn≤an
   ·rw [Xa q3,Xc ⟨q,.inr q3⟩]
    rfl
   ·rw [Xb q3,Xd (by omega),Xc q2]
    rfl
  ·rw [show (bc != 0)=true by simpa using q2,Xc ⟨q,.inl q2⟩]
   rfl
 ·rw [show (ac==0)=false by simpa using q,Xd (fun w=>q w.1)]
  by_cases q2:bc=0
  ·rw [show (bc==0)=true by simpa using q2,Xc q2]
   rfl
  ·rw [show (bc==0)=false by simpa using q2,Xd q2]
   rfl
def Zub (v:Nat) (n:Nat):List Nat:=(Yh n).filter fun i=>v.testBit i
def Zb (v:Nat):List Int:=(Zub v 24).map fun n=>((n:Nat):Int)
theorem Zgs (v n:Nat):Zub v (n+1)=if v.testBit n=true then Zub v n++[n] else Zub v n:=by
 unfold Zub
 rw [Yta,Yla]
 by_cases h:v.testBit n=true
 ·rw [Xc h,Yna h];rfl
 ·rw [Xd h,Yma h];simp
theorem Zbz (v n:Nat):(Zub v n).length≤n:=by
 unfold Zub
 refine Nat.le_trans (Ypa _ _) ?_
 simp
theorem Z9t {v n x:Nat} (h:x∈Zub v n):x<n∧v.testBit x=true:=by
 unfold Zub at h
 rw [Y2,Yo] at h
 exact h
theorem Z9c (v:Nat):(Zb v).length≤24:=by
 unfold Zb
 rw [Yr]
 exact Zbz v 24
theorem Zfib (a:Nat) (ha:a<9223372036854775808):intBits .and .i64 (a:Int) 1=((a%2:Nat):Int):=by
 unfold intBits
 simp only [IntKind.bits]
 have h1:(Yk 64 (a:Int) &&& Yk 64 1).toNat=a%2:=by
  rw [Yha,Yt,Yt];have:((a:Int)%((2^64:Nat):Int)).toNat=a:=by omega
  rw [this];show a &&& 1=a%2;rw [Nat.and_one_is_mod]
 show Yn .i64 (((Yk 64 (a:Int) &&& Yk 64 1).toNat:Nat):Int)=_
 rw [h1]
 exact w64 (by omega) (by omega)
theorem Zr9 (v i:Nat) (hv:v<16777216) (hi:i<24):(intBits .and .i64 (shr .i64 (v:Int) (i:Int)) 1==1)=v.testBit i:=by
 rw [Z2i .i64 _ i (by show i≤64;omega),Zfib _ (Yxa (Nat.div_le_self _ _) (by omega)),Y2a]
 rw [Yx,beq_iff_eq,decide_eq_true_iff]
 omega
theorem Z7z (v:Nat) (hv:v<16777216):∀k,24<k→Zld k (v:Int)=some (Zb v):=by
 intro k hk
 have h:=Zqb (fun j i=>Zld.l0 j (v:Int) (i:Int) ((Zub v i).map fun n=>((n:Nat):Int))) 24 (Zb v) (fun i hi j=>?_) (fun j=>?_) k hk
 ·have h:Zld.l0 k (v:Int) 0 []=some (Zb v):=h
  unfold Zld;rw [h];rfl
 ·have hl:=Zbz v i
  conv=>lhs;unfold Zld.l0
  rw [Xa (by omega:(i:Int)<24),Zm (by omega)];dsimp only;rw [Xe,Z4c (by omega),Zr9 v i hv hi,Zgs];simp only [Ya];cases hb:v.testBit i with
  | true=>rw [Z5 (by simp;omega)];simp
  | false=>simp
 ·conv=>lhs;unfold Zld.l0
  rfl
theorem Zifb (v:Nat) (hv:v<16777216):∀k,24<k→Zhd k (v:Int)=some (Zb v):=by
 intro k hk
 have h:=Zqb (fun j i=>Zhd.l0 j (v:Int) (i:Int) ((Zub v i).map fun n=>((n:Nat):Int))) 24 (Zb v) (fun i hi j=>?_) (fun j=>?_) k hk
 ·have h:Zhd.l0 k (v:Int) 0 []=some (Zb v):=h
  unfold Zhd;rw [Xb (by omega:¬(v:Int)<0),Xb (by omega:¬(16777216:Int)≤(v:Int)),h];rfl
 ·have hl:=Zbz v i
  conv=>lhs;unfold Zhd.l0
  rw [Xa (by omega:(i:Int)<24),Zm (by omega)];dsimp only;rw [Xe,Z4c (by omega),Zr9 v i hv hi,Zgs];simp only [Ya];cases hb:v.testBit i with
  | true=>rw [Z5 (by simp;omega)];simp
  | false=>simp
 ·conv=>lhs;unfold Zhd.l0
  rfl
theorem Zzpb (v:Int) (h:v<0∨16777216≤v) (k:Nat):Zhd k v=some []:=by
 unfold Zhd
 by_cases q:v<0
 ·rw [Xa q];rfl
 ·rw [Xb q,Xa (by omega:(16777216:Int)≤v)];rfl
theorem Zgw (v n:Nat):(Zub v n).Pairwise (· < ·):=List.Pairwise.filter _ List.pairwise_lt_range
theorem Z9j {v i:Nat} (h:i<(Zb v).length):0≤(Zb v)[i]∧(Zb v)[i]≤23:=by
 have hm:=Yj h
 obtain ⟨x,hx,e⟩:=Yea.1 hm
 have:=(Z9t hx).1
 omega
theorem Zu9 {v i:Nat} (h:i+1<(Zb v).length):(Zb v)[i]'(by omega)<(Zb v)[i+1]:=by
 have hl:(Zb v).length=(Zub v 24).length:=by unfold Zb;rw [Yr]
 have:=Ysa.1 (Zgw v 24) i (i+1) (by omega) (by omega) (by omega)
 have e:∀q (hq:q<(Zb v).length),(Zb v)[q]=(((Zub v 24)[q]'(by omega):Nat):Int):=fun q hq=>by simp [Zb]
 rw [e,e]
 omega
theorem Zbcb (v:Nat):∀k,24<k→Z1e k (Zb v)=some true:=by
 intro k hk
 have hlen:=Z9c v
 have h:=Zqb (fun j i=>Z1e.l0 j (Zb v) (Zb v) ((Zb v).length:Int) (i:Int)) (Zb v).length (.inl ()) (fun i hi j=>?_) (fun j=>?_) k (by omega)
 ·have h:Z1e.l0 k (Zb v) (Zb v) ((Zb v).length:Int) 0=some (.inl ()):=h
  unfold Z1e;rw [h];rfl
 ·obtain ⟨q1,q2⟩:=Z9j hi
  conv=>lhs;unfold Z1e.l0
  rw [dlt hi,Zg hi,Zm (by omega)];simp only [Xe,Ya];unfold Z3;rw [Xa q1,Xa q2];simp only [Ya,Yg,Yc,Xf]
  by_cases h0:0<i
  ·obtain ⟨m,rfl⟩:∃m,i=m+1:=⟨i-1,by omega⟩
   have:=Zu9 hi;rw [Xa (by omega:(0:Int)<((m+1:Nat):Int)),w64 (by omega) (by omega),show ((m+1:Nat):Int)-1=(m:Int) by omega,Zg (by omega)];simp only [Xe,Ya];rw [Xb (by omega)];rfl
  ·rw [Xb (by omega:¬(0:Int)<(i:Int))]
   rfl
 ·conv=>lhs;unfold Z1e.l0
  rw [Zs (Yb _)];rfl
theorem Zr7 (v:Nat):∀k,24<k→Zbe k (Zb v)=some true:=by
 intro k hk
 have hlen:=Z9c v
 have h:=Zqb (fun j i=>Zbe.l0 j (Zb v) (i:Int)) (Zb v).length (.inl ()) (fun i hi j=>?_) (fun j=>?_) k (by omega)
 ·have h:Zbe.l0 k (Zb v) 0=some (.inl ()):=h
  unfold Zbe;rw [Xb (by omega:¬(24:Int)<((Zb v).length:Int)),h];rfl
 ·obtain ⟨q1,q2⟩:=Z9j hi
  conv=>lhs;unfold Zbe.l0
  rw [dlt hi,Zg hi,Zm (by omega)];simp only [Xe,Ya];unfold Z7;rw [Xa q1,Xa q2];simp only [Ya,Yg,Yc,Xf]
  by_cases h0:0<i
  ·obtain ⟨m,rfl⟩:∃m,i=m+1:=⟨i-1,by omega⟩
   have:=Zu9 hi;rw [Xa (by omega:(0:Int)<((m+1:Nat):Int)),w64 (by omega) (by omega),show ((m+1:Nat):Int)-1=(m:Int) by omega,Zg (by omega)];simp only [Xe,Ya];rw [Xb (by omega)];rfl
  ·rw [Xb (by omega:¬(0:Int)<(i:Int))]
   rfl
 ·conv=>lhs;unfold Zbe.l0
  rw [Zs (Yb _)];rfl
def Zse:List Nat→Nat
 | []=>0
 | x::l=>2^x+Zse l
theorem Za8 (a b:List Nat):Zse (a++b)=Zse a+Zse b:=by
 induction a with
 | nil=>simp [Zse]
 | cons x a ih=>rw [List.cons_append,Zse,Zse,ih];omega
theorem Zl2 (v:Nat):∀n,Zse (Zub v n)=v%2^n
 | 0=>by simp [Zub,Zse,Nat.mod_one]
 | n+1=>by
  have h2:v%2^(n+1)=v%2^n+2^n*(v/2^n%2):=by rw [Y0a,Nat.mod_mul]
  rw [Zgs,h2];have ht:v.testBit n=decide (v/2^n%2=1):=Y2a
  by_cases hb:v.testBit n=true
  ·rw [Xc hb,Za8,Zl2 v n]
   rw [ht] at hb;rw [of_decide_eq_true hb];simp [Zse]
  ·rw [Xd hb,Zl2 v n]
   rw [ht] at hb;have:v/2^n%2≠1:=fun q=>hb (Xa q)
   have:v/2^n%2=0:=by omega
   rw [this];omega
theorem Zerb {l:List Nat} {x:Nat} (hs:l.Pairwise (· < ·)) (h:∀y∈l,y<x):Zse l<2^x:=by
 have:∀(l:List Nat) (x:Nat),l.reverse.Pairwise (· < ·)→(∀y∈l,y<x)→Zse l<2^x:=by
  intro l
  induction l with
  | nil=>intro x _ _;exact Nat.two_pow_pos x
  | cons a l ih=>
   intro x hs h;rw [Yua,List.pairwise_append] at hs;have ha:=h a Yda;have h1:=ih a hs.1 fun y hy=>hs.2.2 y (Yra.2 hy) a Yda
   have h2:2^(a+1)≤2^x:=Y7 (by omega) ha;rw [Y0a] at h2;rw [Zse];omega
 have hr:∀l:List Nat,Zse l.reverse=Zse l:=by
  intro l
  induction l with
  | nil=>rfl
  | cons a l ih=>rw [Yua,Za8,ih,Zse,Zse,Zse];omega
 rw [← hr]
 refine this _ x ?_ fun y hy=>h y (Yra.1 hy)
 rwa [List.reverse_reverse]
theorem Z9fb {x:Nat} (h:x<24):shl .i64 1 (x:Int)=((2^x:Nat):Int):=by
 have hp:2^x≤2^24:=Y7 (by omega) (by omega)
 unfold shl
 rw [Yl,Yya (by show x≤64;omega),Int.one_mul]
 have e:(2:Int)^x=((2^x:Nat):Int):=by rw [Int.natCast_pow];rfl
 rw [e]
 have h24:(2:Nat)^24=16777216:=by decide
 generalize (2:Nat)^x=p at hp ⊢
 exact w64 (by omega) (by omega)
theorem ori (a b:Nat) (ha:a<9223372036854775808) (hb:b<9223372036854775808):intBits .or .i64 (a:Int) (b:Int)=((a ||| b:Nat):Int):=by
 have h1:(Yk 64 (a:Int) ||| Yk 64 (b:Int)).toNat=a ||| b:=by
  rw [BitVec.toNat_or,Yt,Yt];have h1:((a:Int)%((2^64:Nat):Int)).toNat=a:=by omega
  have h2:((b:Int)%((2^64:Nat):Int)).toNat=b:=by omega
  rw [h1,h2]
 have hlt:a ||| b<2^63:=Nat.or_lt_two_pow (by simpa using ha) (by simpa using hb)
 unfold intBits
 show Yn .i64 (((Yk 64 (a:Int) ||| Yk 64 (b:Int)).toNat:Nat):Int)=_
 rw [h1]
 exact w64 (by omega) (by simpa using (by exact_mod_cast hlt:((a ||| b:Nat):Int)<2^63))
theorem Zsgb {l:List Nat} {i:Nat} (h:i<l.length):Zse (l.take (i+1))=Zse (l.take i)+2^l[i]:=by
 rw [Zni h,Za8,Zse,Zse,Ywa]
theorem Ztgb {v i:Nat} (h:i<(Zub v 24).length):Zse ((Zub v 24).take i)<2^(Zub v 24)[i]:=by
 refine Zerb ((Zgw v 24).sublist (List.take_sublist _ _)) fun y hy=>?_
 obtain ⟨j,hj,rfl⟩:=Y3.1 hy
 rw [Y1] at hj
 rw [Yba]
 exact Ysa.1 (Zgw v 24) j i (by omega) h (by omega)
theorem Zs9 {v i:Nat} (h:i<(Zub v 24).length):(Zb v)[i]'(by unfold Zb;rwa [Yr])=(((Zub v 24)[i]:Nat):Int)∧(Zub v 24)[i]<24∧2^(Zub v 24)[i]≤8388608:=by
 have hx:=(Z9t (Yj h)).1
 refine ⟨by simp [Zb],hx,?_⟩
 have:2^(Zub v 24)[i]≤2^23:=Y7 (by omega) (by omega)
 simpa using this
theorem Zup (v:Nat) (hv:v<16777216):∀k,24<k→Zoc k (Zb v)=some (v:Int):=by
 intro k hk
 have hlen:=Z9c v
 have hl:(Zb v).length=(Zub v 24).length:=by unfold Zb;rw [Yr]
 have h:=Zqb (fun j i=>Zoc.l0 j ((Zse ((Zub v 24).take i):Nat):Int) (Zb v) ((Zb v).length:Int) (i:Int)) (Zb v).length (v:Int) (fun i hi j=>?_) (fun j=>?_) k (by omega)
 ·have h:Zoc.l0 k 0 (Zb v) ((Zb v).length:Int) 0=some (v:Int):=h
  unfold Zoc;rw [h];rfl
 ·have hi2:i<(Zub v 24).length:=by omega
  obtain ⟨e1,e2,e3⟩:=Zs9 hi2;have hs:=Ztgb hi2
  conv=>lhs;unfold Zoc.l0
  rw [dlt hi,Zg hi,Zm (by omega)];simp only [Xe,Ya];rw [e1,Z4c (by omega),Z9fb e2,ori _ _ (by omega) (by omega),Zsgb hi2];simp only [Ya]
  have:Zse ((Zub v 24).take i) ||| 2^(Zub v 24)[i]=Zse ((Zub v 24).take i)+2^(Zub v 24)[i]:=by
   have:=Nat.two_pow_add_eq_or_of_lt hs 1;rw [Nat.mul_one] at this;rw [Nat.or_comm,← this,Nat.add_comm]
  rw [this]
 ·conv=>lhs;unfold Zoc.l0
  rw [Zs (Yb _),hl,Y4,Zl2,Yza (by simpa using hv)];rfl
theorem Zu1 (v:Nat) (hv:v<16777216):∀k,24<k→Zyd k (Zb v)=some (v:Int):=by
 intro k hk
 have hlen:=Z9c v
 have hl:(Zb v).length=(Zub v 24).length:=by unfold Zb;rw [Yr]
 have h:=Zqb (fun j i=>Zyd.l0 j (Zb v) ((Zse ((Zub v 24).take i):Nat):Int) (i:Int)) (Zb v).length (v:Int) (fun i hi j=>?_) (fun j=>?_) k (by omega)
 ·have h:Zyd.l0 k (Zb v) 0 0=some (v:Int):=h
  unfold Zyd;rw [Zr7 v k hk];simp only [Ya,Yc,Xf];rw [h];rfl
 ·have hi2:i<(Zub v 24).length:=by omega
  obtain ⟨e1,e2,e3⟩:=Zs9 hi2;have hs:=Ztgb hi2
  conv=>lhs;unfold Zyd.l0
  rw [dlt hi,Zg hi,Zm (by omega)];simp only [Xe,Ya];rw [e1,Z4c (by omega),Z9fb e2,Zsgb hi2];simp only [Ya];rw [w64 (by omega) (by omega),← Int.natCast_add]
 ·conv=>lhs;unfold Zyd.l0
  rw [Zs (Yb _),hl,Y4,Zl2,Yza (by simpa using hv)];rfl
def Zrb (s:Str) (a:Nat):Option (Int×Nat):=if (Zfd s a).2.2=0 then some ((Zfd s a).1,(Zfd s a).2.1.toNat) else none
def Z4g (s:Str) (a:Nat):Option (Str×Nat):=if (Zzh s a).2.2=0 then some ((Zzh s a).1,(Zzh s a).2.1.toNat) else none
theorem Z8i {s:Str} {a:Nat} {n:Int} {a':Nat} (h:Zrb s a=some (n,a')):Got s a n a':=by
 unfold Zrb at h
 rcases Zhl s a with ⟨m,b,e,g⟩ | ⟨c,hc,e⟩
 ·rw [e] at h
  simp only [if_true,Yl,Yga.injEq,Prod.mk.injEq] at h;obtain ⟨rfl,rfl⟩:=h;exact g
 ·rw [e,Xd hc] at h
  cases h
theorem Zf8 {s:Str} {a:Nat} {t:Str} {a':Nat} (h:Z4g s a=some (t,a')):GotT s a t a':=by
 unfold Z4g at h
 rcases Z2r s a with ⟨m,b,e,g⟩ | ⟨c,hc,e⟩
 ·rw [e] at h
  simp only [if_true,Yl,Yga.injEq,Prod.mk.injEq] at h;obtain ⟨rfl,rfl⟩:=h;exact g
 ·rw [e,Xd hc] at h
  cases h
def StS (s:Str) (st:Str×Int×Bool) (p:Option Nat):Prop:=st.1=s∧∃a:Nat,st.2.1=(a:Int)∧a≤8000∧match p with
 | some q=>a=q∧st.2.2=false
 | none=>st.2.2=true
def Zf (s:Str) (p:Option Nat):Option Nat:=match p with
 | some a=>(Zrb s a).map (·.2)
 | none=>none
def Zeb (s:Str) (p:Option Nat):Option Nat:=match p with
 | some a=>(Z4g s a).map (·.2)
 | none=>none
theorem Zndb {s:Str} (hs:s.length≤8000) (a:Nat) (ha:a≤8000):StS s (Zib s a).2 (Zf s (some a))∧∀n a',Zrb s a=some (n,a')→(Zib s a).1=n:=by
 show StS s (Zib s a).2 ((Zrb s a).map (·.2))∧_
 rcases Zhl s a with ⟨m,b,e,g⟩ | ⟨c,hc,e⟩
 ·have hb:=g.le
  have hr:Zib s a=(m,s,((b:Nat):Int),false):=by unfold Zib;rw [e];rfl
  have hn:Zrb s a=some (m,b):=by unfold Zrb;rw [e];rfl
  rw [hr,hn];exact ⟨⟨rfl,b,rfl,by omega,rfl,rfl⟩,fun n a' h=>by cases h;rfl⟩
 ·have hr:Zib s a=(0,s,(a:Int),true):=by unfold Zib;rw [e,Xd hc]
  have hn:Zrb s a=none:=by unfold Zrb;rw [e,Xd hc]
  rw [hr,hn];exact ⟨⟨rfl,a,rfl,ha,rfl⟩,fun n a' h=>by cases h⟩
theorem Zwgb {s:Str} (hs:s.length≤8000) (a:Nat) (ha:a≤8000):StS s (Zcg s a).2 (Zeb s (some a))∧∀n a',Z4g s a=some (n,a')→(Zcg s a).1=n:=by
 show StS s (Zcg s a).2 ((Z4g s a).map (·.2))∧_
 rcases Z2r s a with ⟨m,b,e,g⟩ | ⟨c,hc,e⟩
 ·have hb:=g.le
  have hr:Zcg s a=(m,s,((b:Nat):Int),false):=by unfold Zcg;rw [e];rfl
  have hn:Z4g s a=some (m,b):=by unfold Z4g;rw [e];rfl
  rw [hr,hn];exact ⟨⟨rfl,b,rfl,by omega,rfl,rfl⟩,fun n a' h=>by cases h;rfl⟩
 ·have hr:Zcg s a=([],s,(a:Int),true):=by unfold Zcg;rw [e,Xd hc]
  have hn:Z4g s a=none:=by unfold Z4g;rw [e,Xd hc]
  rw [hr,hn];exact ⟨⟨rfl,a,rfl,ha,rfl⟩,fun n a' h=>by cases h⟩
theorem StS.form {s:Str} {st:Str×Int×Bool} {p:Option Nat} (h:StS s st p):(∃a,p=some a∧a≤8000∧st=(s,((a:Int),false)))∨∃a:Nat,p=none∧a≤8000∧st=(s,((a:Int),true)):=by
 obtain ⟨x,y,z⟩:=st
 obtain ⟨rfl,a,h1,h2,h3⟩:=h
 have h1:y=(a:Int):=h1
 subst h1
 cases p with
 | some q=>
  obtain ⟨h4,h5⟩:=h3;have h5:z=false:=h5;exact .inl ⟨q,rfl,by omega,by rw [h4,h5]⟩
 | none=>
  have h3:z=true:=h3;exact .inr ⟨a,rfl,h2,by rw [h3]⟩
theorem Zpn {s:Str} (hs:s.length≤8000) {st:Str×Int×Bool} {p:Option Nat} (h:StS s st p):∃v,(Zc fun k=>Zdc k st=some v)∧StS s v.2 (Zf s p)∧∀a n a',p=some a→Zrb s a=some (n,a')→v.1=n:=by
 rcases h.form with ⟨a,rfl,ha,rfl⟩ | ⟨a,rfl,ha,rfl⟩
 ·obtain ⟨h1,h2⟩:=Zndb hs a ha
  exact ⟨_,Zov s a (by omega) hs,h1,fun a0 n a' e h=>by cases e;exact h2 n a' h⟩
 ·exact ⟨_,Zt7 s a (by omega) hs,⟨rfl,a,rfl,ha,rfl⟩,fun a0 n a' e=>by cases e⟩
theorem Zxfb {s:Str} (hs:s.length≤8000) {st:Str×Int×Bool} {p:Option Nat} (h:StS s st p):∃v,(Zc fun k=>Z5h k st=some v)∧StS s v.2 (Zeb s p)∧∀a n a',p=some a→Z4g s a=some (n,a')→v.1=n:=by
 rcases h.form with ⟨a,rfl,ha,rfl⟩ | ⟨a,rfl,ha,rfl⟩
 ·obtain ⟨h1,h2⟩:=Zwgb hs a ha
  exact ⟨_,Zyfb s a (by omega) hs,h1,fun a0 n a' e h=>by cases e;exact h2 n a' h⟩
 ·exact ⟨_,Z71 s a (by omega) hs,⟨rfl,a,rfl,ha,rfl⟩,fun a0 n a' e=>by cases e⟩
theorem Zgk {s:Str} (hs:s.length≤8000) {st:Str×Int×Bool} {p:Option Nat} (h:StS s st p):∃v,(Zc fun k=>Zgc k st=some v)∧StS s v.2 (Zf s p)∧∀a n a',p=some a→Zrb s a=some (n,a')→v.1=n:=by
 rcases h.form with ⟨a,rfl,ha,rfl⟩ | ⟨a,rfl,ha,rfl⟩
 ·obtain ⟨h1,h2⟩:=Zndb hs a ha
  exact ⟨_,Zg5 s a (by omega) (by omega),h1,fun a0 n a' e h=>by cases e;exact h2 n a' h⟩
 ·obtain ⟨n,a',h1,h2⟩:=Z4lb s a (by omega) (by omega)
  exact ⟨_,h1,⟨rfl,a',rfl,by omega,rfl⟩,fun a0 n a' e=>by cases e⟩
theorem Zi5 {s:Str} (hs:s.length≤8000) {st:Str×Int×Bool} {p:Option Nat} (h:StS s st p):∃v,(Zc fun k=>Z8g k st=some v)∧StS s v.2 (Zeb s p)∧∀a n a',p=some a→Z4g s a=some (n,a')→v.1=n:=by
 rcases h.form with ⟨a,rfl,ha,rfl⟩ | ⟨a,rfl,ha,rfl⟩
 ·obtain ⟨h1,h2⟩:=Zwgb hs a ha
  exact ⟨_,Zhcb s a (by omega) (by omega),h1,fun a0 n a' e h=>by cases e;exact h2 n a' h⟩
 ·obtain ⟨n,a',h1,h2⟩:=Zicb s a (by omega) (by omega)
  exact ⟨_,h1,⟨rfl,a',rfl,by omega,rfl⟩,fun a0 n a' e=>by cases e⟩
def stZ (s:Str):Option ((Int×Int×Int×Int×Int×Int×Int×Str)×Nat):=(Zrb s 0).bind fun x1=>(Zrb s x1.2).bind fun x2=>(Zrb s x2.2).bind fun x3=>(Zrb s x3.2).bind fun x4=>(Zrb s x4.2).bind fun x5=>(Zrb s x5.2).bind fun x6=>(Zrb s x6.2).bind fun x7=>(Z4g s x7.2).map fun t=>((x1.1,x2.1,x3.1,x4.1,x5.1,x6.1,x7.1,t.1),t.2)
theorem Zaqb (s:Str) (hs:s.length≤8000):∃v1 v2 v3 v4 v5 v6 v7:Int×Str×Int×Bool,∃v8:Str×Str×Int×Bool,(Zc fun k=>Zdc k (s,(0,false))=some v1∧Zdc k v1.2=some v2∧Zdc k v2.2=some v3∧Zdc k v3.2=some v4∧Zdc k v4.2=some v5∧Zdc k v5.2=some v6∧Zdc k v6.2=some v7∧Z5h k v7.2=some v8) ∧
  ((∃d:Nat,stZ s=some ((v1.1,v2.1,v3.1,v4.1,v5.1,v6.1,v7.1,v8.1),d)∧v8.2=(s,((d:Nat):Int),false))∨(stZ s=none∧v8.2.2.2=true)):=by
 have h0:StS s (s,((0:Nat):Int),false) (some 0):=⟨rfl,0,rfl,by omega,rfl,rfl⟩
 obtain ⟨v1,e1,h1,g1⟩:=Zpn hs h0
 obtain ⟨v2,e2,h2,g2⟩:=Zpn hs h1
 obtain ⟨v3,e3,h3,g3⟩:=Zpn hs h2
 obtain ⟨v4,e4,h4,g4⟩:=Zpn hs h3
 obtain ⟨v5,e5,h5,g5⟩:=Zpn hs h4
 obtain ⟨v6,e6,h6,g6⟩:=Zpn hs h5
 obtain ⟨v7,e7,h7,g7⟩:=Zpn hs h6
 obtain ⟨v8,e8,h8,g8⟩:=Zxfb hs h7
 refine ⟨v1,v2,v3,v4,v5,v6,v7,v8,(((((((e1.and e2).and e3).and e4).and e5).and e6).and e7).and e8).mono fun k ⟨⟨⟨⟨⟨⟨⟨q1,q2⟩,q3⟩,q4⟩,q5⟩,q6⟩,q7⟩,q8⟩=>⟨q1,q2,q3,q4,q5,q6,q7,q8⟩,?_⟩
 clear e1 e2 e3 e4 e5 e6 e7 e8 h0 h1 h2 h3 h4 h5 h6 h7
 have bad:∀{st:Str×Int×Bool},StS s st none→st.2.2=true:=fun h=>h.2.choose_spec.2.2
 cases x1:Zrb s 0 with
 | none=>
  refine .inr ⟨by simp [stZ,x1],bad (st:=v8.2) ?_⟩;have:Zeb s (Zf s (Zf s (Zf s (Zf s (Zf s (Zf s (Zf s (some 0))))))))=none:=by simp [Zf,Zeb,x1]
  rwa [this] at h8
 | some y1=>
 obtain ⟨n1,a1⟩:=y1
 cases x2:Zrb s a1 with
 | none=>
  refine .inr ⟨by simp [stZ,x1,x2],bad (st:=v8.2) ?_⟩;have:Zeb s (Zf s (Zf s (Zf s (Zf s (Zf s (Zf s (Zf s (some 0))))))))=none:=by simp [Zf,Zeb,x1,x2]
  rwa [this] at h8
 | some y2=>
 obtain ⟨n2,a2⟩:=y2
 cases x3:Zrb s a2 with
 | none=>
  refine .inr ⟨by simp [stZ,x1,x2,x3],bad (st:=v8.2) ?_⟩;have:Zeb s (Zf s (Zf s (Zf s (Zf s (Zf s (Zf s (Zf s (some 0))))))))=none:=by simp [Zf,Zeb,x1,x2,x3]
  rwa [this] at h8
 | some y3=>
 obtain ⟨n3,a3⟩:=y3
 cases x4:Zrb s a3 with
 | none=>
  refine .inr ⟨by simp [stZ,x1,x2,x3,x4],bad (st:=v8.2) ?_⟩;have:Zeb s (Zf s (Zf s (Zf s (Zf s (Zf s (Zf s (Zf s (some 0))))))))=none:=by simp [Zf,Zeb,x1,x2,x3,x4]
  rwa [this] at h8
 | some y4=>
 obtain ⟨n4,a4⟩:=y4
 cases x5:Zrb s a4 with
 | none=>
  refine .inr ⟨by simp [stZ,x1,x2,x3,x4,x5],bad (st:=v8.2) ?_⟩;have:Zeb s (Zf s (Zf s (Zf s (Zf s (Zf s (Zf s (Zf s (some 0))))))))=none:=by simp [Zf,Zeb,x1,x2,x3,x4,x5]
  rwa [this] at h8
 | some y5=>
 obtain ⟨n5,a5⟩:=y5
 cases x6:Zrb s a5 with
 | none=>
  refine .inr ⟨by simp [stZ,x1,x2,x3,x4,x5,x6],bad (st:=v8.2) ?_⟩;have:Zeb s (Zf s (Zf s (Zf s (Zf s (Zf s (Zf s (Zf s (some 0))))))))=none:=by simp [Zf,Zeb,x1,x2,x3,x4,x5,x6]
  rwa [this] at h8
 | some y6=>
 obtain ⟨n6,a6⟩:=y6
 cases x7:Zrb s a6 with
 | none=>
  refine .inr ⟨by simp [stZ,x1,x2,x3,x4,x5,x6,x7],bad (st:=v8.2) ?_⟩;have:Zeb s (Zf s (Zf s (Zf s (Zf s (Zf s (Zf s (Zf s (some 0))))))))=none:=by simp [Zf,Zeb,x1,x2,x3,x4,x5,x6,x7]
  rwa [this] at h8
 | some y7=>
 obtain ⟨n7,a7⟩:=y7
 cases x8:Z4g s a7 with
 | none=>
  refine .inr ⟨by simp [stZ,x1,x2,x3,x4,x5,x6,x7,x8],bad (st:=v8.2) ?_⟩;have:Zeb s (Zf s (Zf s (Zf s (Zf s (Zf s (Zf s (Zf s (some 0))))))))=none:=by simp [Zf,Zeb,x1,x2,x3,x4,x5,x6,x7,x8]
  rwa [this] at h8
 | some y8=>
  obtain ⟨t,d⟩:=y8;have p1:Zf s (some 0)=some a1:=by simp [Zf,x1]
  have p2:Zf s (Zf s (some 0))=some a2:=by simp [Zf,x1,x2]
  have p3:Zf s (Zf s (Zf s (some 0)))=some a3:=by simp [Zf,x1,x2,x3]
  have p4:Zf s (Zf s (Zf s (Zf s (some 0))))=some a4:=by simp [Zf,x1,x2,x3,x4]
  have p5:Zf s (Zf s (Zf s (Zf s (Zf s (some 0)))))=some a5:=by simp [Zf,x1,x2,x3,x4,x5]
  have p6:Zf s (Zf s (Zf s (Zf s (Zf s (Zf s (some 0))))))=some a6:=by simp [Zf,x1,x2,x3,x4,x5,x6]
  have p7:Zf s (Zf s (Zf s (Zf s (Zf s (Zf s (Zf s (some 0)))))))=some a7:=by simp [Zf,x1,x2,x3,x4,x5,x6,x7]
  have p8:Zeb s (Zf s (Zf s (Zf s (Zf s (Zf s (Zf s (Zf s (some 0))))))))=some d:=by simp [Zf,Zeb,x1,x2,x3,x4,x5,x6,x7,x8]
  have r1:=g1 _ _ _ rfl x1;have r2:=g2 _ _ _ p1 x2;have r3:=g3 _ _ _ p2 x3;have r4:=g4 _ _ _ p3 x4;have r5:=g5 _ _ _ p4 x5;have r6:=g6 _ _ _ p5 x6;have r7:=g7 _ _ _ p6 x7;have r8:=g8 _ _ _ p7 x8;refine .inl ⟨d,?_,?_⟩
  ·rw [r1,r2,r3,r4,r5,r6,r7,r8]
   simp [stZ,x1,x2,x3,x4,x5,x6,x7,x8]
  ·rw [p8] at h8
   rcases h8.form with ⟨a,e,_,q⟩ | ⟨a,e,_,q⟩
   ·cases e;exact q
   ·cases e
theorem Zbmb (s:Str) (hs:s.length≤8000):∃v1 v2 v3 v4 v5 v6 v7:Int×Str×Int×Bool,∃v8:Str×Str×Int×Bool,(Zc fun k=>Zgc k (s,(0,false))=some v1∧Zgc k v1.2=some v2∧Zgc k v2.2=some v3∧Zgc k v3.2=some v4∧Zgc k v4.2=some v5∧Zgc k v5.2=some v6∧Zgc k v6.2=some v7∧Z8g k v7.2=some v8) ∧
  ((∃d:Nat,stZ s=some ((v1.1,v2.1,v3.1,v4.1,v5.1,v6.1,v7.1,v8.1),d)∧v8.2=(s,((d:Nat):Int),false))∨(stZ s=none∧v8.2.2.2=true)):=by
 have h0:StS s (s,((0:Nat):Int),false) (some 0):=⟨rfl,0,rfl,by omega,rfl,rfl⟩
 obtain ⟨v1,e1,h1,g1⟩:=Zgk hs h0
 obtain ⟨v2,e2,h2,g2⟩:=Zgk hs h1
 obtain ⟨v3,e3,h3,g3⟩:=Zgk hs h2
 obtain ⟨v4,e4,h4,g4⟩:=Zgk hs h3
 obtain ⟨v5,e5,h5,g5⟩:=Zgk hs h4
 obtain ⟨v6,e6,h6,g6⟩:=Zgk hs h5
 obtain ⟨v7,e7,h7,g7⟩:=Zgk hs h6
 obtain ⟨v8,e8,h8,g8⟩:=Zi5 hs h7
 refine ⟨v1,v2,v3,v4,v5,v6,v7,v8,(((((((e1.and e2).and e3).and e4).and e5).and e6).and e7).and e8).mono fun k ⟨⟨⟨⟨⟨⟨⟨q1,q2⟩,q3⟩,q4⟩,q5⟩,q6⟩,q7⟩,q8⟩=>⟨q1,q2,q3,q4,q5,q6,q7,q8⟩,?_⟩
 clear e1 e2 e3 e4 e5 e6 e7 e8 h0 h1 h2 h3 h4 h5 h6 h7
 have bad:∀{st:Str×Int×Bool},StS s st none→st.2.2=true:=fun h=>h.2.choose_spec.2.2
 cases x1:Zrb s 0 with
 | none=>
  refine .inr ⟨by simp [stZ,x1],bad (st:=v8.2) ?_⟩;have:Zeb s (Zf s (Zf s (Zf s (Zf s (Zf s (Zf s (Zf s (some 0))))))))=none:=by simp [Zf,Zeb,x1]
  rwa [this] at h8
 | some y1=>
 obtain ⟨n1,a1⟩:=y1
 cases x2:Zrb s a1 with
 | none=>
  refine .inr ⟨by simp [stZ,x1,x2],bad (st:=v8.2) ?_⟩;have:Zeb s (Zf s (Zf s (Zf s (Zf s (Zf s (Zf s (Zf s (some 0))))))))=none:=by simp [Zf,Zeb,x1,x2]
  rwa [this] at h8
 | some y2=>
 obtain ⟨n2,a2⟩:=y2
 cases x3:Zrb s a2 with
 | none=>
  refine .inr ⟨by simp [stZ,x1,x2,x3],bad (st:=v8.2) ?_⟩;have:Zeb s (Zf s (Zf s (Zf s (Zf s (Zf s (Zf s (Zf s (some 0))))))))=none:=by simp [Zf,Zeb,x1,x2,x3]
  rwa [this] at h8
 | some y3=>
 obtain ⟨n3,a3⟩:=y3
 cases x4:Zrb s a3 with
 | none=>
  refine .inr ⟨by simp [stZ,x1,x2,x3,x4],bad (st:=v8.2) ?_⟩;have:Zeb s (Zf s (Zf s (Zf s (Zf s (Zf s (Zf s (Zf s (some 0))))))))=none:=by simp [Zf,Zeb,x1,x2,x3,x4]
  rwa [this] at h8
 | some y4=>
 obtain ⟨n4,a4⟩:=y4
 cases x5:Zrb s a4 with
 | none=>
  refine .inr ⟨by simp [stZ,x1,x2,x3,x4,x5],bad (st:=v8.2) ?_⟩;have:Zeb s (Zf s (Zf s (Zf s (Zf s (Zf s (Zf s (Zf s (some 0))))))))=none:=by simp [Zf,Zeb,x1,x2,x3,x4,x5]
  rwa [this] at h8
 | some y5=>
 obtain ⟨n5,a5⟩:=y5
 cases x6:Zrb s a5 with
 | none=>
  refine .inr ⟨by simp [stZ,x1,x2,x3,x4,x5,x6],bad (st:=v8.2) ?_⟩;have:Zeb s (Zf s (Zf s (Zf s (Zf s (Zf s (Zf s (Zf s (some 0))))))))=none:=by simp [Zf,Zeb,x1,x2,x3,x4,x5,x6]
  rwa [this] at h8
 | some y6=>
 obtain ⟨n6,a6⟩:=y6
 cases x7:Zrb s a6 with
 | none=>
  refine .inr ⟨by simp [stZ,x1,x2,x3,x4,x5,x6,x7],bad (st:=v8.2) ?_⟩;have:Zeb s (Zf s (Zf s (Zf s (Zf s (Zf s (Zf s (Zf s (some 0))))))))=none:=by simp [Zf,Zeb,x1,x2,x3,x4,x5,x6,x7]
  rwa [this] at h8
 | some y7=>
 obtain ⟨n7,a7⟩:=y7
 cases x8:Z4g s a7 with
 | none=>
  refine .inr ⟨by simp [stZ,x1,x2,x3,x4,x5,x6,x7,x8],bad (st:=v8.2) ?_⟩;have:Zeb s (Zf s (Zf s (Zf s (Zf s (Zf s (Zf s (Zf s (some 0))))))))=none:=by simp [Zf,Zeb,x1,x2,x3,x4,x5,x6,x7,x8]
  rwa [this] at h8
 | some y8=>
  obtain ⟨t,d⟩:=y8;have p1:Zf s (some 0)=some a1:=by simp [Zf,x1]
  have p2:Zf s (Zf s (some 0))=some a2:=by simp [Zf,x1,x2]
  have p3:Zf s (Zf s (Zf s (some 0)))=some a3:=by simp [Zf,x1,x2,x3]
  have p4:Zf s (Zf s (Zf s (Zf s (some 0))))=some a4:=by simp [Zf,x1,x2,x3,x4]
  have p5:Zf s (Zf s (Zf s (Zf s (Zf s (some 0)))))=some a5:=by simp [Zf,x1,x2,x3,x4,x5]
  have p6:Zf s (Zf s (Zf s (Zf s (Zf s (Zf s (some 0))))))=some a6:=by simp [Zf,x1,x2,x3,x4,x5,x6]
  have p7:Zf s (Zf s (Zf s (Zf s (Zf s (Zf s (Zf s (some 0)))))))=some a7:=by simp [Zf,x1,x2,x3,x4,x5,x6,x7]
  have p8:Zeb s (Zf s (Zf s (Zf s (Zf s (Zf s (Zf s (Zf s (some 0))))))))=some d:=by simp [Zf,Zeb,x1,x2,x3,x4,x5,x6,x7,x8]
  have r1:=g1 _ _ _ rfl x1;have r2:=g2 _ _ _ p1 x2;have r3:=g3 _ _ _ p2 x3;have r4:=g4 _ _ _ p3 x4;have r5:=g5 _ _ _ p4 x5;have r6:=g6 _ _ _ p5 x6;have r7:=g7 _ _ _ p6 x7;have r8:=g8 _ _ _ p7 x8;refine .inl ⟨d,?_,?_⟩
  ·rw [r1,r2,r3,r4,r5,r6,r7,r8]
   simp [stZ,x1,x2,x3,x4,x5,x6,x7,x8]
  ·rw [p8] at h8
   rcases h8.form with ⟨a,e,_,q⟩ | ⟨a,e,_,q⟩
   ·cases e;exact q
   ·cases e
abbrev StT:=Int×Int×Int×Int×Int×Str×List Int×List Int
def stT (op part steps slots moves:Int) (mem:Str) (v w:Nat):StT:=(op,part,steps,slots,moves,mem,Zb v,Zb w)
def Z7h (op part steps slots moves:Int) (mem:Str) (v w:Nat):Bool:=(decide (1≤op)&&decide (op≤5))&&(decide (v &&& w=0)&&(if op=1 then decide (part=0∧steps=0∧slots=0∧moves=0∧mem=[]∧(Zb w).length=0) else decide ((1≤steps∧steps≤20)∧(0≤slots∧slots≤4)∧((Zb w).length:Int)=steps+slots∧mem.length=32∧(0≤part∧part≤2)∧(0≤moves∧moves≤40)∧(part=0∨op=4)∧(moves=0∨op=5))))
theorem andi (a b:Nat) (ha:a<16777216) (hb:b<16777216):intBits .and .i64 (a:Int) (b:Int)=((a &&& b:Nat):Int):=by
 have h1:(Yk 64 (a:Int) &&& Yk 64 (b:Int)).toNat=a &&& b:=by
  rw [Yha,Yt,Yt];have h1:((a:Int)%((2^64:Nat):Int)).toNat=a:=by omega
  have h2:((b:Int)%((2^64:Nat):Int)).toNat=b:=by omega
  rw [h1,h2]
 have hlt:a &&& b≤a:=Nat.and_le_left
 unfold intBits
 show Yn .i64 (((Yk 64 (a:Int) &&& Yk 64 (b:Int)).toNat:Nat):Int)=_
 rw [h1]
 exact w64 (by omega) (by omega)
theorem Zxlb (op part steps slots moves:Int) (mem:Str) (v w:Nat) (hv:v<16777216) (hw:w<16777216):∀k,24<k→Zdq k (stT op part steps slots moves mem v w)=some (Z7h op part steps slots moves mem v w):=by
 intro k hk
 have hl:=Z9c w
 have W:∀a b c:Int,Z3 a b c=some (decide (b≤a)&&decide (a≤c)):=fun _ _ _=>rfl
 have Z:Zjk (Zb w)=some ((Zb w).length:Int):=rfl
 unfold Zdq stT
 dsimp only
 rw [W]
 simp only [Ya]
 unfold Z7h
 by_cases h1:(decide (1≤op)&&decide (op≤5))=true
 ·rw [h1]
  simp only [Yc,Xf,Yi];refine Za (Zbcb v k hk) ?_;simp only [Yc,Xf];refine Za (Zbcb w k hk) ?_;simp only [Yc,Xf];refine Za (Zup v hv k hk) (Za (Zup w hw k hk) ?_);rw [andi v w hv hw]
  by_cases h2:v &&& w=0
  ·rw [h2]
   simp only [decide_true,Yi];rw [show (((0:Nat):Int) != 0)=false from rfl];simp only [Xf]
   by_cases h3:op=1
   ·rw [show (op==1)=true by simpa using h3,Xc h3,Xe]
    congr 1;rw [Yx];simp only [Yf,beq_iff_eq,decide_eq_true_eq];constructor
    ·rintro ⟨⟨⟨⟨⟨a,b⟩,c⟩,d⟩,e⟩,f⟩
     exact ⟨a,b,c,d,e,by omega⟩
    ·rintro ⟨a,b,c,d,e,f⟩
     exact ⟨⟨⟨⟨⟨a,b⟩,c⟩,d⟩,e⟩,by omega⟩
   ·rw [show (op==1)=false by simpa using h3,Xd h3,Xf]
    have two:∀{a b:Prop} [Decidable a] [Decidable b],¬(a∧b)→(decide a&&decide b)=false:=fun {a b} _ _ h=>by
     rw [Y8,decide_eq_false_iff_not,decide_eq_false_iff_not];exact Classical.not_and_iff_not_or_not.1 h
    by_cases c1:1≤steps∧steps≤20
    ·refine Za (W steps 1 20) ?_
     rw [Xa c1.1,Xa c1.2];simp only [Yg,Xe]
     by_cases c2:0≤slots∧slots≤4
     ·refine Za (W slots 0 4) ?_
      rw [Xa c2.1,Xa c2.2];simp only [Yg,Xe];refine Za Z ?_;rw [w64 (n:=steps+slots) (by omega) (by omega)]
      by_cases c3:((Zb w).length:Int)=steps+slots
      ·rw [show (((Zb w).length:Int)==steps+slots)=true by simpa using c3,Xe]
       by_cases c4:mem.length=32
       ·rw [show ((mem.length:Int)==32)=true by simp;omega,Xe]
        refine Za (W part 0 2) ?_
        by_cases c5:0≤part∧part≤2
        ·rw [Xa c5.1,Xa c5.2]
         simp only [Yg,Xe]
         have tail:((Z3 moves 0 40).bind fun v14=>bif v14 then bif moves==0 then some true else some (op==5) else some false)=some (decide ((0≤moves∧moves≤40)∧(moves=0∨op=5))):=by
          refine Za (W moves 0 40) ?_
          by_cases c6:0≤moves∧moves≤40
          ·rw [Xa c6.1,Xa c6.2]
           simp only [Yg,Xe]
           by_cases c7:moves=0
           ·rw [show (moves==0)=true by simpa using c7,Xa ⟨c6,.inl c7⟩]
            rfl
           ·rw [show (moves==0)=false by simpa using c7,Xf]
            congr 1;rw [Zdi];exact decide_eq_decide.2 ⟨fun q=>⟨c6,.inr q⟩,fun q=>q.2.resolve_left c7⟩
          ·rw [two c6,Xb (fun q=>c6 q.1)]
           rfl
         by_cases c7:part=0
         ·rw [show (part==0)=true by simpa using c7,Xe]
          refine tail.trans ?_;congr 1;exact decide_eq_decide.2 ⟨fun q=>⟨c1,c2,c3,c4,c5,q.1,.inl c7,q.2⟩,fun q=>⟨q.2.2.2.2.2.1,q.2.2.2.2.2.2.2⟩⟩
         ·rw [show (part==0)=false by simpa using c7,Xf]
          by_cases c8:op=4
          ·rw [show (op==4)=true by simpa using c8,Xe]
           refine tail.trans ?_;congr 1;exact decide_eq_decide.2 ⟨fun q=>⟨c1,c2,c3,c4,c5,q.1,.inr c8,q.2⟩,fun q=>⟨q.2.2.2.2.2.1,q.2.2.2.2.2.2.2⟩⟩
          ·rw [show (op==4)=false by simpa using c8,Xb (fun q=>q.2.2.2.2.2.2.1.elim c7 c8)]
           rfl
        ·rw [two c5,Xb (fun q=>c5 q.2.2.2.2.1)]
         rfl
       ·rw [show ((mem.length:Int)==32)=false by simp;omega,Xb (fun q=>c4 q.2.2.2.1)]
        rfl
      ·rw [show (((Zb w).length:Int)==steps+slots)=false by simpa using c3,Xb (fun q=>c3 q.2.2.1)]
       rfl
     ·refine Za (W slots 0 4) ?_
      rw [two c2,Xb (fun q=>c2 q.2.1)];rfl
    ·refine Za (W steps 1 20) ?_
     rw [two c1,Xb (fun q=>c1 q.1)];rfl
  ·rw [show (((v &&& w:Nat):Int) != 0)=true by simp;omega,Xb h2]
   rfl
 ·rw [Y5.2 h1]
  rfl
theorem Zro {v n:Nat}:((n:Nat):Int)∈Zb v ↔ n<24∧v.testBit n=true:=by
 unfold Zb Zub
 rw [Yea]
 constructor
 ·rintro ⟨m,hm,e⟩
  rw [Y2,Yo] at hm;have:m=n:=by omega
  rwa [this] at hm
 ·intro h
  exact ⟨n,by rw [Y2,Yo];exact h,rfl⟩
theorem Zz1 (l:List Int) (x:Int) (hl:l.length≤1000):∀k,l.length<k→Zcd k l x=some (decide (x∈l)):=by
 intro k hk
 have run:=Z2g (fun j i=>Zcd.l0 j l x i) l (fun y=>y==x) (.inl ()) (fun _=>.inr true) (fun i hi=>by
  constructor
  ·intro hp j
   show Zcd.l0 (j+1) l x (i:Int)=Zcd.l0 j l x ((i+1:Nat):Int);rw [Zcd.l0,dlt hi,Zg hi,Zm (by omega)];simp only [Xe,Ya,hp,Xf]
  ·intro hp j
   show Zcd.l0 (j+1) l x (i:Int)=_;rw [Zcd.l0,dlt hi,Zg hi];simp only [Xe,Ya,hp]) (fun j=>by
  show Zcd.l0 (j+1) l x (l.length:Int)=_;rw [Zcd.l0,Zs (Yb _)];rfl) hk
 have run:Zcd.l0 k l x 0=_:=run
 have ha:=Zdo (p:=fun y:Int=>y==x) (l:=l) (n:=0)
 unfold Zcd
 rw [run]
 cases hf:Zmb (fun y:Int=>y==x) l 0 with
 | some m=>
  rw [hf] at ha;obtain ⟨y,hy,hy2⟩:=Y6.1 ha.symm;have:y=x:=by simpa using hy2
  rw [Xa (this▸hy)];rfl
 | none=>
  rw [hf] at ha
  have:x∉l:=fun hx=>by
   have h2:(l.any fun y=>y==x)=true:=Y6.2 ⟨x,hx,by simp⟩;rw [h2] at ha;cases ha
  rw [Xb this];rfl
theorem Zipb (op part steps slots moves:Int) (mem:Str) (v w:Nat) (hv:v<16777216) {k:Nat} (hk:100≤k):Zpf.l0 k k op part steps slots moves mem (Zb v) (Zb w) 0=some (if v &&& w=0 then .inl () else .inr false):=by
 have hl:=Z9c w
 have hl2:=Z9c v
 have h:=Zn0 (fun j i=>Zpf.l0 k j op part steps slots moves mem (Zb v) (Zb w) (i:Int)) (Zb w).length (fun i=>!decide ((Zb w).getD i 0∈Zb v)) (fun _=>false) (fun i hi hp j=>?_) (fun i hi hp j=>?_) (fun j=>?_)
 ·have key:(Yh (Zb w).length).all (fun i=>!decide ((Zb w).getD i 0∈Zb v))=true ↔ v &&& w=0:=by
   rw [Ym];constructor
   ·intro h
    apply Nat.eq_of_testBit_eq;intro n;rw [Y1a,Y3a];cases q1:v.testBit n with
    | false=>rfl
    | true=>
     cases q2:w.testBit n with
     | false=>rfl
     | true=>
      have hn:n<24:=by
       refine Nat.not_le.1 fun q=>?_
       have:v<2^n:=Nat.lt_of_lt_of_le hv (by have:=Y7 (n:=2) (by omega) q;simpa using this);rw [Nat.testBit_lt_two_pow this] at q1;cases q1
      obtain ⟨i,hi,e⟩:=Y3.1 (Zro.2 ⟨hn,q2⟩);have:=h i (Yo.2 hi);rw [Yd,Ye hi] at this;have h3:¬((Zb w)[i]∈Zb v):=by simpa using this
      exact absurd (by rw [e];exact Zro.2 ⟨hn,q1⟩) h3
   ·intro h i hi
    have hi:=Yo.1 hi;rw [Yd,Ye hi]
    have:¬((Zb w)[i]∈Zb v):=fun hm=>by
     have hw:=Yj hi;obtain ⟨n,hn,e⟩:=Yea.1 hw;rw [← e] at hm hw;have a:=(Zro.1 hm).2;have b:=(Zro.1 hw).2;have:=congrArg (Nat.testBit · n) h;simp only [Y1a,Y3a,a,b] at this;cases this
    simpa using this
  rcases h with ⟨h1,h2⟩ | ⟨h1,i,_,_,h2⟩
  ·rw [Xc (key.1 h1)]
   exact h2 k (by omega)
  ·rw [Xd (fun q=>by rw [key.2 q] at h1;cases h1)]
   exact h2 k (by omega)
 ·have hp:(!decide ((Zb w).getD i 0∈Zb v))=true:=hp
  rw [Yd,Ye hi] at hp;have hp:(!decide ((Zb w)[i]∈Zb v))=true:=hp
  conv=>lhs;unfold Zpf.l0
  rw [dlt hi,Zg hi,Zm (by omega)];simp only [Xe,Ya];rw [Zz1 _ _ (by omega) k (by omega)];rw [Yia] at hp;rw [hp];rfl
 ·have hp:(!decide ((Zb w).getD i 0∈Zb v))=false:=hp
  rw [Yd,Ye hi] at hp;have hp:(!decide ((Zb w)[i]∈Zb v))=false:=hp
  conv=>lhs;unfold Zpf.l0
  rw [dlt hi,Zg hi];simp only [Xe,Ya];rw [Zz1 _ _ (by omega) k (by omega)];rw [Y9] at hp;rw [hp];rfl
 ·conv=>lhs;unfold Zpf.l0
  rw [Zs (Yb _)];rfl
theorem Zmqb (op part steps slots moves:Int) (mem:Str) (v w:Nat) (hv:v<16777216) (hw:w<16777216) {k:Nat} (hk:100≤k):Zpf k (stT op part steps slots moves mem v w)=some (Z7h op part steps slots moves mem v w):=by
 have hl:=Z9c w
 have W:∀a b c:Int,Z7 a b c=some (decide (b≤a)&&decide (a≤c)):=fun _ _ _=>rfl
 have two:∀{a b:Prop} [Decidable a] [Decidable b],¬(a∧b)→(decide a&&decide b)=false:=fun {a b} _ _ h=>by
  rw [Y8,decide_eq_false_iff_not,decide_eq_false_iff_not];exact Classical.not_and_iff_not_or_not.1 h
 unfold Zpf stT
 dsimp only
 rw [W]
 simp only [Ya]
 unfold Z7h
 by_cases h1:(decide (1≤op)&&decide (op≤5))=true
 ·rw [h1]
  simp only [Yc,Xf,Yi];refine Za (Zr7 v k (by omega)) ?_;simp only [Yc,Xf];refine Za (Zr7 w k (by omega)) ?_;simp only [Yc,Xf];refine Za (Zipb op part steps slots moves mem v w hv hk) ?_
  by_cases h2:v &&& w=0
  ·rw [Xc h2,Xa h2]
   dsimp only;rw [Yi]
   by_cases h3:op=1
   ·rw [show (op==1)=true by simpa using h3,Xc h3,Xe]
    congr 1;rw [Yx];simp only [Yf,beq_iff_eq,decide_eq_true_eq];constructor
    ·rintro ⟨⟨⟨⟨⟨a,b⟩,c⟩,d⟩,e⟩,f⟩
     exact ⟨a,b,c,d,e,by omega⟩
    ·rintro ⟨a,b,c,d,e,f⟩
     exact ⟨⟨⟨⟨⟨a,b⟩,c⟩,d⟩,e⟩,by omega⟩
   ·rw [show (op==1)=false by simpa using h3,Xd h3,Xf]
    refine Za (W steps 1 20) ?_
    by_cases c1:1≤steps∧steps≤20
    ·rw [Xa c1.1,Xa c1.2]
     simp only [Yg,Yc,Xf];refine Za (W slots 0 4) ?_
     by_cases c2:0≤slots∧slots≤4
     ·rw [Xa c2.1,Xa c2.2,w64 (n:=steps+slots) (by omega) (by omega)]
      simp only [Yg,Yc,Yp]
      by_cases c3:((Zb w).length:Int)=steps+slots
      ·rw [show (((Zb w).length:Int) != steps+slots)=false by simpa using c3,Yp]
       by_cases c4:mem.length=32
       ·rw [show ((mem.length:Int) != 32)=false by simp;omega,Xf]
        refine Za (W part 0 2) ?_
        by_cases c5:0≤part∧part≤2
        ·rw [Xa c5.1,Xa c5.2]
         simp only [Yg,Xe];refine Za (W moves 0 40) ?_;congr 1;rw [Yx];simp only [Yf,Yz,beq_iff_eq,decide_eq_true_eq];exact ⟨fun q=>⟨c1,c2,c3,c4,c5,q.1.1,q.1.2,q.2⟩,fun q=>⟨⟨q.2.2.2.2.2.1,q.2.2.2.2.2.2.1⟩,q.2.2.2.2.2.2.2⟩⟩
        ·rw [two c5,Xb (fun q=>c5 q.2.2.2.2.1)]
         rfl
       ·rw [show ((mem.length:Int) != 32)=true by simp;omega,Xb (fun q=>c4 q.2.2.2.1)]
        rfl
      ·rw [show (((Zb w).length:Int) != steps+slots)=true by simpa using c3,Xb (fun q=>c3 q.2.2.1)]
       rfl
     ·rw [two c2,Xb (fun q=>c2 q.2.1)]
      rfl
    ·rw [two c1,Xb (fun q=>c1 q.1)]
     rfl
  ·rw [Xd h2,Xb h2]
   rfl
 ·rw [Y5.2 h1]
  rfl
theorem Zhgb {s:Str} {r:Int×Int×Int×Int×Int×Int×Int×Str} {d:Nat} (h:stZ s=some (r,d)):∃a1 a2 a3 a4 a5 a6 a7,Got s 0 r.1 a1∧Got s a1 r.2.1 a2∧Got s a2 r.2.2.1 a3∧Got s a3 r.2.2.2.1 a4∧Got s a4 r.2.2.2.2.1 a5∧Got s a5 r.2.2.2.2.2.1 a6∧Got s a6 r.2.2.2.2.2.2.1 a7∧GotT s a7 r.2.2.2.2.2.2.2 d:=by
 unfold stZ at h
 obtain ⟨⟨n1,a1⟩,h1,h⟩:=Ys.1 h
 obtain ⟨⟨n2,a2⟩,h2,h⟩:=Ys.1 h
 obtain ⟨⟨n3,a3⟩,h3,h⟩:=Ys.1 h
 obtain ⟨⟨n4,a4⟩,h4,h⟩:=Ys.1 h
 obtain ⟨⟨n5,a5⟩,h5,h⟩:=Ys.1 h
 obtain ⟨⟨n6,a6⟩,h6,h⟩:=Ys.1 h
 obtain ⟨⟨n7,a7⟩,h7,h⟩:=Ys.1 h
 obtain ⟨⟨t,d'⟩,h8,h⟩:=Option.map_eq_some_iff.1 h
 cases h
 exact ⟨a1,a2,a3,a4,a5,a6,a7,Z8i h1,Z8i h2,Z8i h3,Z8i h4,Z8i h5,Z8i h6,Z8i h7,Zf8 h8⟩
def Zee (r:Int×Int×Int×Int×Int×Int×Int×Str):Str:=Zn r.1++Zn r.2.1++Zn r.2.2.1++Zn r.2.2.2.1++Zn r.2.2.2.2.1++Zn r.2.2.2.2.2.1++Zn r.2.2.2.2.2.2.1++Z3b r.2.2.2.2.2.2.2
theorem Z8qb {s:Str} {r:Int×Int×Int×Int×Int×Int×Int×Str} {d:Nat} (h:stZ s=some (r,d)):Zee r=s ↔ d=s.length:=by
 obtain ⟨a1,a2,a3,a4,a5,a6,a7,g1,g2,g3,g4,g5,g6,g7,g8⟩:=Zhgb h
 have e0:s=Zee r++s.drop d:=by
  have h1:=g1.eq;rw [Y0,g2.eq,g3.eq,g4.eq,g5.eq,g6.eq,g7.eq,g8.eq] at h1;unfold Zee;simp only [Yv];exact h1
 have hl:d=(Zee r).length:=by
  have:=g1.at';have:=g2.at';have:=g3.at';have:=g4.at';have:=g5.at';have:=g6.at';have:=g7.at';have:=g8.at';unfold Zee;simp only [Yca];omega
 constructor
 ·intro h
  rw [hl,h]
 ·intro h
  rw [h,Yka,Yaa] at e0;exact e0.symm
def Z5o (s:Str):Option (Int×Int×Int×Int×Int×Str×Nat×Nat):=match stZ s with
 | some (r,d)=>if d=s.length∧(0≤r.2.2.2.2.2.1∧r.2.2.2.2.2.1<16777216)∧(0≤r.2.2.2.2.2.2.1∧r.2.2.2.2.2.2.1<16777216)∧Z7h r.1 r.2.1 r.2.2.1 r.2.2.2.1 r.2.2.2.2.1 r.2.2.2.2.2.2.2 r.2.2.2.2.2.1.toNat r.2.2.2.2.2.2.1.toNat=true
  then some (r.1,r.2.1,r.2.2.1,r.2.2.2.1,r.2.2.2.2.1,r.2.2.2.2.2.2.2,r.2.2.2.2.2.1.toNat,r.2.2.2.2.2.2.1.toNat) else none
 | none=>none
theorem Zmmb (s:Str) (hs:s.length≤8000):Zc fun k=>Zlq k s=some (match Z5o s with
  | some (a,b,c,d,e,m,v,w)=>(a,b,c,d,e,m,Zb v,Zb w,true)
  | none=>(0,0,0,0,0,[],[],[],false)):=by
 obtain ⟨v1,v2,v3,v4,v5,v6,v7,v8,hE,hc⟩:=Zbmb s hs
 refine (hE.and (Zc.ge 100 fun k hk=>hk)).mono fun k ⟨⟨q1,q2,q3,q4,q5,q6,q7,q8⟩,hk⟩=>?_
 unfold Zlq
 refine Za q1 (Za q2 (Za q3 (Za q4 (Za q5 (Za q6 (Za q7 (Za q8 ?_)))))))
 unfold Z5o
 rcases hc with ⟨d,hz,h8⟩ | ⟨hz,h8⟩
 ·rw [hz,h8]
  simp only [Yp]
  by_cases hd:d=s.length
  ·rw [show (((d:Nat):Int) != (s.length:Int))=false by rw [hd];simp,Xf]
   have W:∀a b c:Int,Z3 a b c=some (decide (b≤a)&&decide (a≤c)):=fun _ _ _=>rfl
   refine Za (W _ _ _) ?_
   by_cases c6:0≤v6.1∧v6.1<16777216
   ·rw [Xa c6.1,Xa (by omega:v6.1≤16777215)]
    simp only [Yg,Yc,Xf];refine Za (W _ _ _) ?_
    by_cases c7:0≤v7.1∧v7.1<16777216
    ·rw [Xa c7.1,Xa (by omega:v7.1≤16777215)]
     simp only [Yg,Yc,Xf];have f6:=Z7z v6.1.toNat (by omega) k (by omega);have f7:=Z7z v7.1.toNat (by omega) k (by omega);rw [Yu c6.1] at f6;rw [Yu c7.1] at f7;refine Za f6 (Za f7 (Za (Zxlb v1.1 v2.1 v3.1 v4.1 v5.1 v8.1 v6.1.toNat v7.1.toNat (by omega) (by omega) k (by omega)) ?_));cases hb:Z7h v1.1 v2.1 v3.1 v4.1 v5.1 v8.1 v6.1.toNat v7.1.toNat with
     | true=>
      rw [Xc ⟨hd,c6,c7,rfl⟩];rfl
     | false=>
      rw [Xd (fun q=>by cases q.2.2.2)];rfl
    ·rw [Xd (fun q=>c7 q.2.2.1)]
     by_cases z:0≤v7.1
     ·rw [Xa z,Xb (by omega:¬v7.1≤16777215)];rfl
     ·rw [Xb z];rfl
   ·rw [Xd (fun q=>c6 q.2.1)]
    by_cases z:0≤v6.1
    ·rw [Xa z,Xb (by omega:¬v6.1≤16777215)];rfl
    ·rw [Xb z];rfl
  ·rw [show (((d:Nat):Int) != (s.length:Int))=true by simp;omega,Xd (fun q=>hd q.1)]
   rfl
 ·rw [hz,h8]
  rfl
theorem Z7db {a b:Int} (ha:Num a) (hb:Num b) {x y:Str} (h:Zn a++x=Zn b++y):a=b:=by
 have h1:=Zzw a ha (Zn a++x) 0 x (by rw [Y0])
 have h2:=Zzw b hb (Zn a++x) 0 y (by rw [Y0,h])
 rw [h1] at h2
 injection h2
theorem Zfs:Zb 0=[]:=by decide
theorem Z6u {n:Nat} (h:n<16777216):Num (n:Int):=⟨by omega,by omega⟩
theorem sL12 (op part steps slots moves:Int) (mem:Str) (v w:Nat) (h1:Num op) (h2:Num part) (h3:Num steps) (h4:Num slots) (h5:Num moves) (hv:v<16777216) (hw:w<16777216) (hm:mem.length≤8000):
  Zc fun k=>Zom k (stT op part steps slots moves mem v w)=some (Zee (op,part,steps,slots,moves,(v:Int),(w:Int),mem)):=by
 have l1:=Zhc op
 have l2:=Zhc part
 have l3:=Zhc steps
 have l4:=Zhc slots
 have l5:=Zhc moves
 have l6:=Zhc (v:Int)
 have l7:=Zhc (w:Int)
 have l8:=Ztj mem
 refine (((((((((Zaj op h1).and (Zaj part h2)).and (Zaj steps h3)).and (Zaj slots h4)).and (Zaj moves h5)).and (Zaj (v:Int) (Z6u hv))).and (Zaj (w:Int) (Z6u hw))).and (Z41 mem hm)).and (Zc.ge 100 fun k hk=>hk)).mono fun k ⟨⟨⟨⟨⟨⟨⟨⟨q1,q2⟩,q3⟩,q4⟩,q5⟩,q6⟩,q7⟩,q8⟩,hk⟩=>?_
 unfold Zom stT
 refine Za q1 (Za q2 (Za (Zwc (by omega)) (Za q3 (Za (Zwc (by simp;omega)) (Za q4 (Za (Zwc (by simp;omega)) (Za q5 (Za (Zwc (by simp;omega)) ?_))))))))
 refine Za (Zu1 v hv k (by omega)) (Za q6 (Za (Zwc (by simp;omega)) (Za (Zu1 w hw k (by omega)) (Za q7 (Za (Zwc (by simp;omega)) (Za q8 (Za (Zwc (by simp;omega)) rfl)))))))
theorem Zkqb (op part steps slots moves:Int) (mem:Str) (v w:Nat) (h1:Num op) (h2:Num part) (h3:Num steps) (h4:Num slots) (h5:Num moves) (hv:v<16777216) (hw:w<16777216) (hm:mem.length≤8000):
  Zc fun k=>Zqr k (stT op part steps slots moves mem v w)=some (if Z7h op part steps slots moves mem v w=true then Zee (op,part,steps,slots,moves,(v:Int),(w:Int),mem) else []):=by
 refine ((sL12 op part steps slots moves mem v w h1 h2 h3 h4 h5 hv hw hm).and (Zc.ge 100 fun k hk=>hk)).mono fun k ⟨q,hk⟩=>?_
 unfold Zqr
 refine Za (Zmqb op part steps slots moves mem v w hv hw hk) ?_
 cases Z7h op part steps slots moves mem v w with
 | true=>
  simp only [Yc,Xf,if_true];exact Za q rfl
 | false=>rfl
def Zti (n:Int):Nat:=if 0≤n∧n<16777216 then n.toNat else 0
theorem Zau (n:Int):Zti n<16777216:=by unfold Zti;split <;> omega
theorem Zy1 (n:Int) {k:Nat} (hk:24<k):Zhd k n=some (Zb (Zti n)):=by
 unfold Zti
 by_cases h:0≤n∧n<16777216
 ·rw [Xc h]
  have:=Zifb n.toNat (by omega) k hk
  rwa [Yu h.1] at this
 ·rw [Xd h,Zzpb n (by omega) k,Zfs]
theorem Z7qb {r:Int×Int×Int×Int×Int×Int×Int×Str} {a b:Int} {z:Str} (h6:Num r.2.2.2.2.2.1) (h7:Num r.2.2.2.2.2.2.1) (ha:Num a) (hb:Num b) (h:Zee (r.1,r.2.1,r.2.2.1,r.2.2.2.1,r.2.2.2.2.1,a,b,r.2.2.2.2.2.2.2)=Zee r++z):a=r.2.2.2.2.2.1∧b=r.2.2.2.2.2.2.1:=by
 unfold Zee at h
 simp only [Yv,Yja] at h
 have e1:=Z7db ha h6 h
 rw [e1] at h
 simp only [Yja] at h
 exact ⟨e1,Z7db hb h7 h⟩
theorem Zlqb (s:Str) (hs:s.length≤8000):Zc fun k=>Z4o k s=some (match Z5o s with
  | some (a,b,c,d,e,m,v,w)=>(a,b,c,d,e,m,Zb v,Zb w,0)
  | none=>(0,0,0,0,0,[],[],[],3)):=by
 obtain ⟨v1,v2,v3,v4,v5,v6,v7,v8,hE,hc⟩:=Zaqb s hs
 unfold Z5o
 rcases hc with ⟨d,hz,h8⟩ | ⟨hz,h8⟩
 ·obtain ⟨a1,a2,a3,a4,a5,a6,a7,g1,g2,g3,g4,g5,g6,g7,g8⟩:=Zhgb hz
  have hb:=Zkqb v1.1 v2.1 v3.1 v4.1 v5.1 v8.1 (Zti v6.1) (Zti v7.1) g1.range g2.range g3.range g4.range g5.range (Zau _) (Zau _) g8.size;refine ((hE.and hb).and (Zc.ge 100 fun k hk=>hk)).mono fun k ⟨⟨⟨q1,q2,q3,q4,q5,q6,q7,q8⟩,hb⟩,hk⟩=>?_
  unfold Z4o;rw [Xb (by omega:¬(8000:Int)<(s.length:Int)),Xf];refine Za q1 (Za q2 (Za q3 (Za q4 (Za q5 (Za q6 (Za (Zy1 v6.1 (by omega)) (Za q7 (Za (Zy1 v7.1 (by omega)) (Za q8 ?_)))))))));rw [h8];simp only [Xf];refine Za hb ?_;rw [hz,Zes];dsimp only;have hw:=Z8qb hz
  have hpos:1≤s.length:=by
   have p1:=g1.le;have p2:=Z76 v1.1;have p3:=g1.at';dsimp only at p1 p2 p3;omega
  by_cases c:(0≤v6.1∧v6.1<16777216)∧(0≤v7.1∧v7.1<16777216)
  ·have e6:Zti v6.1=v6.1.toNat:=by unfold Zti;rw [Xc c.1]
   have e7:Zti v7.1=v7.1.toNat:=by unfold Zti;rw [Xc c.2]
   rw [e6,e7,Yu c.1.1,Yu c.2.1];cases hB:Z7h v1.1 v2.1 v3.1 v4.1 v5.1 v8.1 v6.1.toNat v7.1.toNat with
   | true=>
    rw [Xc rfl]
    by_cases hd:d=s.length
    ·rw [Xa (hw.2 hd),Xc ⟨hd,c.1,c.2,rfl⟩]
     rfl
    ·rw [Xb (fun q=>hd (hw.1 q)),Xd (fun q=>hd q.1)]
     rfl
   | false=>
    rw [Xd (by simp),Xd (fun q=>by cases q.2.2.2),Xb (fun q=>by rw [← q] at hpos;simp at hpos)];rfl
  ·have hne:¬((if Z7h v1.1 v2.1 v3.1 v4.1 v5.1 v8.1 (Zti v6.1) (Zti v7.1)=true then Zee (v1.1,v2.1,v3.1,v4.1,v5.1,((Zti v6.1:Nat):Int),((Zti v7.1:Nat):Int),v8.1) else [])=s):=by
    intro q;split at q
    ·have e0:s=Zee (v1.1,v2.1,v3.1,v4.1,v5.1,v6.1,v7.1,v8.1)++s.drop d:=by
      have h1:=g1.eq;rw [Y0,g2.eq,g3.eq,g4.eq,g5.eq,g6.eq,g7.eq,g8.eq] at h1;unfold Zee;simp only [Yv];exact h1
     have:=Z7qb (r:=(v1.1,v2.1,v3.1,v4.1,v5.1,v6.1,v7.1,v8.1)) (z:=s.drop d) g6.range g7.range (Z6u (Zau v6.1)) (Z6u (Zau v7.1)) (q.trans e0);have b6:=Zau v6.1;have b7:=Zau v7.1;obtain ⟨e6,e7⟩:=this;have e6:((Zti v6.1:Nat):Int)=v6.1:=e6;have e7:((Zti v7.1:Nat):Int)=v7.1:=e7;omega
    ·rw [← q] at hpos
     simp at hpos
   rw [Xb hne,Xd (fun q=>c ⟨q.2.1,q.2.2.1⟩)];rfl
 ·refine (hE.and (Zc.ge 100 fun k hk=>hk)).mono fun k ⟨⟨q1,q2,q3,q4,q5,q6,q7,q8⟩,hk⟩=>?_
  unfold Z4o;rw [Xb (by omega:¬(8000:Int)<(s.length:Int)),Xf];refine Za q1 (Za q2 (Za q3 (Za q4 (Za q5 (Za q6 (Za (Zy1 v6.1 (by omega)) (Za q7 (Za (Zy1 v7.1 (by omega)) (Za q8 ?_)))))))));rw [h8,hz];rfl
end Go.Proofs.Qz
