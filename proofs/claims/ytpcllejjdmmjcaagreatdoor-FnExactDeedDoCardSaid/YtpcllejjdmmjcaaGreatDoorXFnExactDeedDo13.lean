/- What the law FnExactDeedDo needs, part 14 of 15: the Lean functions of the Go functions that it reaches, with the proofs that the calls come to what they say, and plain facts about them. Conditions: those that each theorem states. Written by a session and by its programs (after the kit's printer). -/
import Derived.Lib.Join
import Derived.Test.YtpcllejjdmmjcaaGreatDoorXFnExactDeedDo9
import Derived.Test.YtpcllejjdmmjcaaGreatDoorXFnExactDeedDo10
import Derived.Test.YtpcllejjdmmjcaaGreatDoorXFnExactDeedDo11
import Derived.Test.YtpcllejjdmmjcaaGreatDoorXFnExactDeedDo12
open Bool renaming and_eq_true → Ya, not_true → Yq, false_ne_true → Yy, not_eq_true' → Y8, or_eq_true → Y9, true_and → Yaa, eq_iff_iff → Yja, not_false → Yka, or_eq_false_iff → Yla, or_true → Yma
open Nat renaming le_refl → Yb, mod_eq_of_lt → Yw, lt_of_lt_of_le → Y3, or_lt_two_pow → Y4, pow_le_pow_right → Y5, testBit_lt_two_pow → Y6, eq_of_testBit_eq → Yha, testBit_and → Y1a, testBit_or → Y2a, testBit_xor → Y3a, xor_lt_two_pow → Y4a, zero_testBit → Y5a
open Go.IntKind renaming wrap → Yc
open List renaming getElem_mem → Yd, getD_eq_getElem?_getD → Yg, getElem?_eq_getElem → Yh, take_length → Yi, mem_cons_self → Yj, mem_range → Yk, mem_cons_of_mem → Yn, mem_map → Yo, range → Yp, all_eq_true → Ys, mem_cons → Yt, mem_iff_getElem → Yu, pairwise_map → Yv, length_take → Yz, map_append → Y0, mem_filter → Y1, mem_singleton → Y2, foldl_append → Yba, length_append → Yca, mem_append → Yda, mem_of_getLast? → Yea, mem_or_eq_of_mem_set → Yfa, pairwise_iff_getElem → Yga, any_eq_false → Yna, getLast?_concat → Yoa, length_drop → Ypa, length_map → Yqa, length_nil → Yra, length_set → Ysa, length_singleton → Yta, map_map → Yua, mem_of_mem_take → Yva, mem_take_iff_getElem → Ywa, nodup_nil → Yxa, pairwise_cons → Yya, take_of_length_le → Yza, take_succ_eq_append_getElem → Y0a
open Option renaming bind_some → Ye, bind → Yf
open BitVec renaming ofInt → Yl, toNat_ofNat → Yx, getLsbD → Y7, ofNat → Yia
open Int renaming toNat_natCast → Ym, le_refl → Yr
namespace Go.Proofs.Qz
open Go
set_option linter.unusedVariables false
structure MS0 (m:Zp) (ph tr nd st dn:Int) (dg:Str) (v w:Nat):Prop where
 fit:Fit m st w
 hph:1≤ph∧ph≤5
 sb:Z7h ph tr nd st dn dg v w=true
 hv:v<16777216
 hw:w<16777216
structure MSt (m:Zp) (ph tr nd st dn:Int) (dg:Str) (v w:Nat):Prop extends MS0 m ph tr nd st dn dg v w where
 img:Zxi (Zxb m)=true
 snd:3≤ph→Sound m st dn w
theorem Zuo {m:Zp} {ph tr nd st dn:Int} {dg:Str} {v w:Nat} (hs:stM m=some (ph,(tr,(nd,(st,(dn,(dg,(v,w)))))))):MS0 m ph tr nd st dn dg v w:=by
 obtain ⟨h1,h2,h3⟩:=Zf2 hs
 have hvw:v<16777216∧w<16777216:=by
  unfold stM at hs;split at hs
  ·split at hs
   ·exact (Zjgb hs).2
   ·cases hs
  ·cases hs
 exact ⟨h1,h2,h3,hvw.1,hvw.2⟩
theorem Zj6 {m:Zp} {ph tr nd st dn:Int} {dg:Str} {v w:Nat} (hs:stM m=some (ph,(tr,(nd,(st,(dn,(dg,(v,w)))))))) (hm:Ztg m=true):MSt m ph tr nd st dn dg v w:=by
 have h0:=Zuo hs
 obtain ⟨h1,h2,h3⟩:=Zf2 hs
 unfold Ztg at hm
 rw [hs] at hm
 dsimp only at hm
 rw [Ya,Y9] at hm
 refine ⟨h0,hm.1,fun hp=>?_⟩
 rcases hm.2 with q | q
 ·have:=of_decide_eq_true q
  omega
 ·unfold Zgy at q
  rw [Ya,Ya,decide_eq_true_eq,decide_eq_true_eq,decide_eq_true_eq] at q;refine ⟨h1,q.1,q.2.1,?_,q.2.2⟩;unfold Z7h at h3;have h3:=((Ya _ _).mp ((Ya _ _).mp h3).2).2;rw [Xd (by omega)] at h3;have h3:=of_decide_eq_true h3;omega
def Zno (l:List Zk):Nat→Int
 | 0=>0
 | i+1=>if (wAt l i).1=5 then (i:Int)+1 else Zno l i
def Znh (l:List Zk):Int:=Zno l l.length
theorem Zp5 (l:List Zk):∀i,0≤Zno l i∧Zno l i≤(i:Int)
 | 0=>⟨Yr _,Yr _⟩
 | i+1=>by
  have:=Zp5 l i;unfold Zno;split <;> omega
theorem Zccb (l:List Zk) (hl:l.length≤20) {k:Nat} (hk:100≤k):Zle k l=some (Znh l):=by
 have run:=Zqb (fun j i=>Zle.l0 j (Zno l i) l (l.length:Int) (i:Int)) l.length (Znh l) (fun i hi j=>?_) (fun j=>?_) k (by omega)
 ·have run:Zle.l0 k 0 l (l.length:Int) 0=some (Znh l):=run
  unfold Zle;exact Za run rfl
 ·conv=>lhs;unfold Zle.l0
  rw [dlt hi,Zm (by omega),Xe];refine Za (Zg hi) ?_;dsimp only;rw [Zno,Zwg hi]
  by_cases c:l[i].1=5
  ·rw [Xc c,show (l[i].1==5)=true by simpa using c,Xe]
   rfl
  ·rw [Xd c,show (l[i].1==5)=false by simpa using c,Xf]
 ·conv=>lhs;unfold Zle.l0
  rw [Zs (Yb _)];rfl
theorem Zjfb (l:List Zk) (hl:l.length≤20) {k:Nat} (hk:100≤k):Zqe k l=some (Znh l):=by
 have run:=Zqb (fun j i=>Zqe.l0 j l (Zno l i) (i:Int)) l.length (Znh l) (fun i hi j=>?_) (fun j=>?_) k (by omega)
 ·have run:Zqe.l0 k l 0 0=some (Znh l):=run
  unfold Zqe;exact Za run rfl
 ·conv=>lhs;unfold Zqe.l0
  rw [dlt hi,Zm (by omega),Xa (by omega:(l.length:Int)≤20),Bool.and_self,Xe];refine Za (Zg hi) ?_;dsimp only;rw [Zno,Zwg hi]
  by_cases c:l[i].1=5
  ·rw [Xc c,show (l[i].1==5)=true by simpa using c,Xe]
   rfl
  ·rw [Xd c,show (l[i].1==5)=false by simpa using c,Xf]
 ·conv=>lhs;unfold Zqe.l0
  rw [Zs (Yb _)];rfl
def Z0s (m:Zp) (x:Int):Bool:=!(Zz m.2 (3+m.1+x)==[])
def Zgf (m:Zp) (l:List Int):List Zcf:=(l.filter (Z0s m)).map fun x=>(false,(3+m.1+x,[]))
theorem Zhbb {m:Zp} {l:List Int} {i:Nat} (h:i<l.length):Zgf m (l.take (i+1))=if Z0s m l[i]=true then Zgf m (l.take i)++[(false,(3+m.1+l[i],[]))] else Zgf m (l.take i):=by
 unfold Zgf
 rw [Zni h,List.filter_append]
 cases hp:Z0s m l[i] with
 | true=>rw [Xc rfl,List.filter_cons_of_pos hp,Y0];rfl
 | false=>rw [Xd Yy,List.filter_cons_of_neg (by rw [hp];exact Yy)];simp
theorem Zrw (m:Zp) (l:List Int):(Zgf m l).length≤l.length:=by
 unfold Zgf
 rw [Yqa]
 exact List.length_filter_le _ _
def Z4q (m:Zp) (l:List Int):List Zcf:=if Zgf m l=[] then [] else Zgf m l++[Zmi]
section
variable {m:Zp} {ph tr nd st dn:Int} {dg:Str} {v w:Nat}
theorem MS0.idle (h:MS0 m ph tr nd st dn dg v w) (h1:ph=1):tr=0∧nd=0∧st=0∧dn=0∧dg=[]∧(Zb w).length=0:=by
 have q:=h.sb
 unfold Z7h at q
 have q:=((Ya _ _).mp ((Ya _ _).mp q).2).2
 rw [Xc h1] at q
 exact of_decide_eq_true q
theorem MS0.busy (h:MS0 m ph tr nd st dn dg v w) (h1:ph≠1):(1≤nd∧nd≤20)∧(0≤st∧st≤4)∧((Zb w).length:Int)=nd+st∧dg.length=32∧(0≤tr∧tr≤2)∧(0≤dn∧dn≤40)∧(tr=0∨ph=4)∧(dn=0∨ph=5):=by
 have q:=h.sb
 unfold Z7h at q
 have q:=((Ya _ _).mp ((Ya _ _).mp q).2).2
 rw [Xd h1] at q
 exact of_decide_eq_true q
theorem MS0.apart (h:MS0 m ph tr nd st dn dg v w):v &&& w=0:=by
 have q:=h.sb
 unfold Z7h at q
 exact of_decide_eq_true ((Ya _ _).mp ((Ya _ _).mp q).2).1
theorem MS0.keep (h:MS0 m ph tr nd st dn dg v w):Keep ph tr nd st dn dg v w:=by
 have hp:=h.hph
 by_cases c:ph=1
 ·obtain ⟨q1,q2,q3,q4,q5,q6⟩:=h.idle c
  exact ⟨by omega,by omega,by omega,by omega,by omega,by rw [q5];simp,h.hv,h.hw⟩
 ·obtain ⟨q1,q2,q3,q4,q5,q6,q7,q8⟩:=h.busy c
  exact ⟨by omega,by omega,by omega,by omega,by omega,by omega,h.hv,h.hw⟩
theorem Zhn (hv:v<16777216):Keep 1 0 0 0 0 [] v 0:=⟨by omega,by omega,by omega,by omega,by omega,by simp,hv,by omega⟩
theorem MS0.log (h:MS0 m ph tr nd st dn dg v w):((Zd m st w).length:Int)≤nd∧(Zd m st w).length≤20∧0≤st∧st+((Zd m st w).length:Int)≤((Zb w).length:Int):=by
 have hl:(Zd m st w).length≤(Zfj m st w).length:=Zy7 _ _
 have ha:(Zfj m st w).length=(Zb w).length-st.toNat:=by unfold Zfj;simp
 have hs:=h.fit.s
 by_cases c:ph=1
 ·obtain ⟨q1,q2,q3,q4,q5,q6⟩:=h.idle c
  omega
 ·obtain ⟨q1,q2,q3,q4,q5,q6,q7,q8⟩:=h.busy c
  omega
theorem MS0.two (h:MS0 m ph tr nd st dn dg v w):2≤m.2.1.length:=by
 have:=h.fit.n
 have:=h.fit.b
 omega
theorem Z9z (v:Nat) (ph tr nd st dn:Int) (dg:Str) (x:List Int):Zpj (ph,(tr,(nd,(st,(dn,(dg,(Zb v,x)))))))=some (1,(0,(0,(0,(0,([],(Zb v,Zb 0))))))):=by
 have:=Z9c v
 have hc:Zzj (Zb v)=some (Zb v):=by
  unfold Zzj;exact Za (Z5 (by simp;omega)) rfl
 unfold Zpj
 refine Za hc ?_
 rw [Zfs]
theorem Z01 (v:Nat) (ph tr nd st dn:Int) (dg:Str) (x:List Int):Z3j (ph,(tr,(nd,(st,(dn,(dg,(Zb v,x)))))))=some (1,(0,(0,(0,(0,([],(Zb v,Zb 0))))))):=by
 have:=Z9c v
 have hc:Zt 8 ([]:List Int) (Zb v)=some (Zb v):=Z5 (by simp;omega)
 unfold Z3j
 refine Za hc ?_
 rw [Zfs]
theorem Zyo (v w:Nat) (ph tr nd st dn:Int) (dg:Str):Z2j (ph,(tr,(nd,(st,(dn,(dg,(Zb v,Zb w)))))))=some (ph,(tr,(nd,(st,(dn,(dg,(Zb v,Zb w))))))):=by
 have:=Z9c v
 have:=Z9c w
 have hc:Zt 8 ([]:List Int) (Zb v)=some (Zb v):=Z5 (by simp;omega)
 have hd:Zt 8 ([]:List Int) (Zb w)=some (Zb w):=Z5 (by simp;omega)
 unfold Z2j
 exact Za hc (Za hd rfl)
theorem Zqlb (h:Fit m st w) (l:List Int) (hl:l.length≤24) (hx:∀x∈l,0≤x∧x≤23) {k:Nat} (hk:1048577≤k):Z1c.l0 k k l (l.length:Int) 0 m.1 m.2.1 m.2.2 []=some (m.1,(m.2.1,(m.2.2,Zgf m l))):=by
 have run:=Zqb (fun j i=>Z1c.l0 k j l (l.length:Int) (i:Int) m.1 m.2.1 m.2.2 (Zgf m (l.take i))) l.length (m.1,(m.2.1,(m.2.2,Zgf m l))) (fun i hi j=>?_) (fun j=>?_) k (by omega)
 ·exact run
 ·have hr:=hx _ (Yd hi)
  have he:=Zrw m (l.take i);rw [Yz] at he
  conv=>lhs;unfold Z1c.l0
  rw [dlt hi,Zm (by omega),Xe,Zhbb hi];refine Za (Zg hi) (Za (Z9bb h hr.1 hr.2 hk) ?_);dsimp only;rw [show (!(Zz m.2 (3+m.1+l[i])==[]))=Z0s m l[i] from rfl];cases hp:Z0s m l[i] with
  | true=>
   rw [Xe,Xc rfl];exact Za (Z5z h hr.1 hr.2) (Za (Z5 (by simp;omega)) rfl)
  | false=>rw [Xf,Xd Yy]
 ·conv=>lhs;unfold Z1c.l0
  rw [Zs (Yb _),Yi];rfl
theorem Zupb (h:Fit m st w) (ph tr nd dn:Int) (dg:Str) (v:List Int) (p:Nat) (hp:p≤(Zb w).length) {k:Nat} (hk:1048577≤k):Zrf.l0 k k m.1 m.2.1 m.2.2 ph tr nd st dn dg v (Zb w) (p:Int) []=some (Zgf m ((Zb w).drop p)):=by
 have hb:=h.b
 have hn:=h.n
 have hw:=Z9c w
 have run:=Zqb (fun j i=>Zrf.l0 k j m.1 m.2.1 m.2.2 ph tr nd st dn dg v (Zb w) ((p+i:Nat):Int) (Zgf m (((Zb w).drop p).take i))) ((Zb w).drop p).length (Zgf m ((Zb w).drop p)) (fun i hi j=>?_) (fun j=>?_) k (by simp;omega)
 ·exact run
 ·have hi2:p+i<(Zb w).length:=by simp at hi;omega
  have hr:=Z9j hi2;have hg:((Zb w).drop p)[i]=(Zb w)[p+i]:=List.getElem_drop;have he:=Zrw m (((Zb w).drop p).take i);rw [Yz] at he
  conv=>lhs;unfold Zrf.l0
  rw [dlt hi2,Zm (by omega),Xe,Zhbb hi,hg];refine Za (Zg hi2) (Za (Z8x h hr.1 hr.2) (Za (Zzo m.2 _ h.dirt (by omega) (by omega) (by have:=h.dirt;omega)) ?_));dsimp only;rw [show (!(Zz m.2 (3+m.1+(Zb w)[p+i])==[]))=Z0s m (Zb w)[p+i] from rfl];cases hq:Z0s m (Zb w)[p+i] with
  | true=>
   rw [Xe,Xc rfl];exact Za (Z5 (by simp;omega)) rfl
  | false=>rw [Xf,Xd Yy];rfl
 ·have hq:p+((Zb w).drop p).length=(Zb w).length:=by simp;omega
  conv=>lhs;unfold Zrf.l0
  rw [hq,Zs (Yb _),Yi];rfl
def Z2k (m:Zp) (ph tr nd st dn:Int) (dg:Str) (v w:Nat):List Zcf:=if ph=2 then Z4q m ((Zb w).drop (st+Znh (Zd m st w)).toNat) else if ph=3 then Zne m.2 4 2 nd st dn dg v w else if ph=4 then (if tr=0 then Zne m.2 1 0 0 0 0 [] v 0 else Zne m.2 4 (tr-1) nd st dn dg v w) else if ph=5 then (if ((Znd (Zz m.2 2) dn).1=true∨dn=40)∨(m.2.1.length:Int)≤(Znd (Zz m.2 2) dn).2.1 then [] else [Znd (Zz m.2 2) dn,Zmi]++Zne m.2 5 tr nd st (dn+1) dg v w) else []
theorem Z7cb (m:Zp) (l:List Int):(bif decide (0<((Zgf m l).length:Int)) then some (Zgf m l++[Zmi]) else some (Zgf m l))=some (Z4q m l):=by
 unfold Z4q
 by_cases c:Zgf m l=[]
 ·rw [Xc c,c]
  rfl
 ·have:0<(Zgf m l).length:=List.length_pos_iff.2 c
  rw [Xd c,Xa (by omega:(0:Int)<((Zgf m l).length:Int))];rfl
theorem Zb5 (h:MS0 m ph tr nd st dn dg v w):Zc fun k=>Z1c k m (ph,(tr,(nd,(st,(dn,(dg,(Zb v,Zb w)))))))=some (Z2k m ph tr nd st dn dg v w):=by
 have hf:=h.fit
 have hb:=hf.b
 have hn:=hf.n
 have hk0:=h.keep
 have hll:=h.log
 have hkl:=Zp5 (Zd m st w) (Zd m st w).length
 have hlw:=Z9c w
 have h2:=h.two
 unfold Z2k
 by_cases c2:ph=2
 ·subst c2
  obtain ⟨p,hp⟩:∃p:Nat,st+Znh (Zd m st w)=(p:Int):=⟨(st+Znh (Zd m st w)).toNat,by unfold Znh;omega⟩;have hple:p≤(Zb w).length:=by unfold Znh at hp;omega
  refine ((Z2w 2 tr nd st dn dg (Zb v) hf).and (Zc.ge 1048577 fun k hk=>hk)).mono fun k ⟨e,hk⟩=>?_
  rw [Xc rfl,hp,Ym]
  have hc:Zpb (Zb w) ((p:Nat):Int) ((Zb w).length:Int)=some ((Zb w).drop p):=by
   have:=Zwf (l:=Zb w) (i:=p) (j:=(Zb w).length) hple (Yb _)
   rwa [Yi] at this
  have hel:=Zrw m ((Zb w).drop p);rw [Ypa] at hel;unfold Z1c;show (bif ((2:Int)==2) then _ else _)=_;rw [show ((2:Int)==2)=true from rfl,Xe];refine Za e (Za (Zccb _ hll.2.1 (by omega)) ?_);show Yf (Zpb (Zb w) (Yc .i64 (st+Znh (Zd m st w))) ((Zb w).length:Int)) _=_;rw [hp,wn (by omega)];refine Za hc (Za (Zqlb hf _ (by simp;omega) (fun x hx=>?_) hk) ?_)
  ·obtain ⟨j,hj,rfl⟩:=Yu.1 (List.mem_of_mem_drop hx)
   exact Z9j hj
  ·rw [← Z7cb]
   show (bif decide (0<((Zgf m ((Zb w).drop p)).length:Int)) then _ else _)=_;cases decide (0<((Zgf m ((Zb w).drop p)).length:Int)) with
   | true=>exact Za (Z5 (by simp;omega)) rfl
   | false=>rfl
 ·rw [Xd c2]
  by_cases c3:ph=3
  ·subst c3
   rw [Xc rfl];refine (Zfk (m:=m) hf.f h2 (a:=4) (b:=2) { hk0 with a:=by omega,b:=by omega }).mono fun k e=>?_
   unfold Z1c;exact Za e rfl
  ·rw [Xd c3]
   by_cases c4:ph=4
   ·subst c4
    rw [Xc rfl]
    by_cases ct:tr=0
    ·subst ct
     rw [Xc rfl];refine (Zfk (m:=m) hf.f h2 (Zhn h.hv)).mono fun k e=>?_
     unfold Z1c;exact Za (Z9z v _ _ _ _ _ _ _) (Za e rfl)
    ·rw [Xd ct]
     have hbz:=(h.busy (by omega)).2.2.2.2.1;refine (Zfk (m:=m) hf.f h2 (a:=4) (b:=tr-1) { hk0 with a:=by omega,b:=by omega }).mono fun k e=>?_
     unfold Z1c;show (bif (tr==0) then _ else _)=_;rw [show (tr==0)=false by simpa using ct,Xf];show Yf (Zke k m (4,(Yc .i64 (tr-1),(nd,(st,(dn,(dg,(Zb v,Zb w)))))))) _=_;rw [w64 (n:=tr-1) (by omega) (by omega)];exact Za e rfl
   ·rw [Xd c4]
    by_cases c5:ph=5
    ·subst c5
     rw [Xc rfl];obtain ⟨q1,q2,q3,q4,q5,q6,q7,q8⟩:=h.busy (by omega);have hat:=Zo6 (Zz m.2 2) dn;have hdr:=hf.dirt;have hl:m.2.1.length≤1048576:=by omega
     refine (((Z3lb (Zz m.2 2) (by have:=Z4m hf.f 2;omega) dn).and (Zfk (m:=m) hf.f h2 (a:=5) (e:=dn+1) { hk0 with a:=by omega,e:=by omega })).and (Zc.ge 1048577 fun k hk=>hk)).mono fun k ⟨⟨e1,e2⟩,hk⟩=>?_
     unfold Z1c;show Yf (Zig k m.2 2) _=_;refine Za (Zwp m.2 2 hdr (by omega) (by omega) (by omega)) (Za e1 ?_);show (bif (Znd (Zz m.2 2) dn).1||(dn==40) then _ else _)=_;cases hsy:(Znd (Zz m.2 2) dn).1 with
     | true=>
      rw [Xc (.inl (.inl rfl))];rfl
     | false=>
      rw [Bool.false_or]
      by_cases c40:dn=40
      ·rw [Xc (.inl (.inr c40)),show (dn==40)=true by simpa using c40]
       rfl
      ·have hat:=hat hsy
       rw [show (dn==40)=false by simpa using c40,Xf];refine Za (Z64 hl m.2.2 _) ?_;rw [Xa hat.1,Yaa]
       by_cases cl:(m.2.1.length:Int)≤(Znd (Zz m.2 2) dn).2.1
       ·rw [Xc (.inr cl),Xb (by omega)]
        rfl
       ·rw [Xd (by rintro ((q | q) | q);cases q;exact c40 q;exact cl q),Xa (by omega:(Znd (Zz m.2 2) dn).2.1≤(m.2.1.length:Int)-1),Yq,Xf]
        show Yf (Zke k m (5,(tr,(nd,(st,(Yc .i64 (dn+1),(dg,(Zb v,Zb w)))))))) _=_;rw [w64 (n:=dn+1) (by omega) (by omega)];refine Za e2 ?_;have hkl2:=Z7l m.2 (Zee (5,tr,nd,st,dn+1,(v:Int),(w:Int),dg));exact Za (Z5 (by unfold Zne;simp;omega)) rfl
    ·rw [Xd c5]
     refine Zc.of fun k=>?_
     have hph:=h.hph;have:ph=1:=by omega
     subst this;rfl
theorem Zo7 (h:MS0 m ph tr nd st dn dg v w):Zc fun k=>Zli k m (ph,(tr,(nd,(st,(dn,(dg,(Zb v,Zb w)))))))=some (Z2k m ph tr nd st dn dg v w):=by
 have hf:=h.fit
 have hb:=hf.b
 have hn:=hf.n
 have hk0:=h.keep
 have hll:=h.log
 have hkl:=Zp5 (Zd m st w) (Zd m st w).length
 have hlw:=Z9c w
 have h2:=h.two
 unfold Z2k
 by_cases c2:ph=2
 ·subst c2
  obtain ⟨p,hp⟩:∃p:Nat,st+Znh (Zd m st w)=(p:Int):=⟨(st+Znh (Zd m st w)).toNat,by unfold Znh;omega⟩;have hple:p≤(Zb w).length:=by unfold Znh at hp;omega
  refine ((Zgr 2 tr nd st dn dg (Zb v) hf).and (Zc.ge 1048577 fun k hk=>hk)).mono fun k ⟨e,hk⟩=>?_
  rw [Xc rfl,hp,Ym];have hel:=Zrw m ((Zb w).drop p);rw [Ypa] at hel;unfold Zli;refine Za (Zyo v w _ _ _ _ _ _) ?_;show (bif ((2:Int)==2) then _ else _)=_;rw [show ((2:Int)==2)=true from rfl,Xe];refine Za (a:=Z4q m ((Zb w).drop p)) ?_ rfl;unfold Zrf;refine Za e (Za (Zjfb _ hll.2.1 (by omega)) ?_);show Yf (Zrf.l0 k k m.1 m.2.1 m.2.2 2 tr nd st dn dg (Zb v) (Zb w) (Yc .i64 (st+Znh (Zd m st w))) []) _=_;rw [hp,wn (by omega)];refine Za (Zupb hf 2 tr nd dn dg (Zb v) p hple hk) ?_;rw [← Z7cb];cases decide (0<((Zgf m ((Zb w).drop p)).length:Int)) with
  | true=>exact Za (Z5 (by simp;omega)) rfl
  | false=>rfl
 ·rw [Xd c2]
  by_cases c3:ph=3
  ·subst c3
   rw [Xc rfl];refine (Zrk (m:=m) hf.f h2 (a:=4) (b:=2) { hk0 with a:=by omega,b:=by omega }).mono fun k e=>?_
   unfold Zli;exact Za (Zyo v w _ _ _ _ _ _) (Za e rfl)
  ·rw [Xd c3]
   by_cases c4:ph=4
   ·subst c4
    rw [Xc rfl]
    by_cases ct:tr=0
    ·subst ct
     rw [Xc rfl];refine (Zrk (m:=m) hf.f h2 (Zhn h.hv)).mono fun k e=>?_
     unfold Zli;exact Za (Zyo v w _ _ _ _ _ _) (Za (Z01 v _ _ _ _ _ _ _) (Za e rfl))
    ·rw [Xd ct]
     have hbz:=(h.busy (by omega)).2.2.2.2.1;refine (Zrk (m:=m) hf.f h2 (a:=4) (b:=tr-1) { hk0 with a:=by omega,b:=by omega }).mono fun k e=>?_
     unfold Zli;refine Za (Zyo v w _ _ _ _ _ _) ?_;show (bif (tr==0) then _ else _)=_;rw [show (tr==0)=false by simpa using ct,Xf];show Yf (Z8e k m (4,(Yc .i64 (tr-1),(nd,(st,(dn,(dg,(Zb v,Zb w)))))))) _=_;rw [w64 (n:=tr-1) (by omega) (by omega)];exact Za e rfl
   ·rw [Xd c4]
    by_cases c5:ph=5
    ·subst c5
     rw [Xc rfl];obtain ⟨q1,q2,q3,q4,q5,q6,q7,q8⟩:=h.busy (by omega);have hat:=Zo6 (Zz m.2 2) dn;have hdr:=hf.dirt;have hl:m.2.1.length≤1048576:=by omega
     refine (((Z5pb (Zz m.2 2) (by have:=Z4m hf.f 2;omega) dn).and (Zrk (m:=m) hf.f h2 (a:=5) (e:=dn+1) { hk0 with a:=by omega,e:=by omega })).and (Zc.ge 1048577 fun k hk=>hk)).mono fun k ⟨⟨e1,e2⟩,hk⟩=>?_
     unfold Zli;refine Za (Zyo v w _ _ _ _ _ _) ?_;show Yf (Ztb k m.2 2) _=_;refine Za (Zzo m.2 2 hdr (by omega) (by omega) (by omega)) (Za e1 ?_);show (bif ((Znd (Zz m.2 2) dn).1||decide (40≤dn))||decide ((m.2.1.length:Int)≤(Znd (Zz m.2 2) dn).2.1) then _ else _)=_
     by_cases cc:((Znd (Zz m.2 2) dn).1=true∨dn=40)∨(m.2.1.length:Int)≤(Znd (Zz m.2 2) dn).2.1
     ·rw [Xc cc,show (((Znd (Zz m.2 2) dn).1||decide (40≤dn))||decide ((m.2.1.length:Int)≤(Znd (Zz m.2 2) dn).2.1))=true by
       rcases cc with (q | q) | q
       ·rw [q];rfl
       ·rw [Xa (by omega:(40:Int)≤dn),Yma];rfl
       ·rw [Xa q,Yma]]
      rfl
     ·rw [Xd cc,show (((Znd (Zz m.2 2) dn).1||decide (40≤dn))||decide ((m.2.1.length:Int)≤(Znd (Zz m.2 2) dn).2.1))=false by
       have a1:(Znd (Zz m.2 2) dn).1=false:=by
        cases q:(Znd (Zz m.2 2) dn).1 with
        | false=>rfl
        | true=>exact absurd (.inl (.inl q)) cc
       rw [a1,Xb (fun q=>cc (.inl (.inr (by omega)))),Xb (fun q=>cc (.inr q))];rfl,Xf]
      show Yf (Z8e k m (5,(tr,(nd,(st,(Yc .i64 (dn+1),(dg,(Zb v,Zb w)))))))) _=_;rw [w64 (n:=dn+1) (by omega) (by omega)];refine Za e2 ?_;have hkl2:=Z7l m.2 (Zee (5,tr,nd,st,dn+1,(v:Int),(w:Int),dg));exact Za (Z5 (by unfold Zne;simp;omega)) rfl
    ·rw [Xd c5]
     refine Zc.of fun k=>?_
     have hph:=h.hph;have:ph=1:=by omega
     subst this;unfold Zli;exact Za (Zyo v w _ _ _ _ _ _) rfl
end
theorem Zegb:∀{a b:List Nat},a.Pairwise (· < ·)→b.Pairwise (· < ·)→(∀x,x∈a ↔ x∈b)→a=b
 | [],[],_,_,_=>rfl
 | [],y::b,_,_,h=>by have:=(h y).2 Yj;cases this
 | x::a,[],_,_,h=>by have:=(h x).1 Yj;cases this
 | x::a,y::b,ha,hb,h=>by
  have ha':=Yya.1 ha;have hb':=Yya.1 hb
  have e:x=y:=by
   rcases Yt.1 ((h x).1 Yj) with e | e
   ·exact e
   ·rcases Yt.1 ((h y).2 Yj) with f | f
    ·exact f.symm
    ·have:=hb'.1 x e
     have:=ha'.1 y f;omega
  subst e;rw [Zegb ha'.2 hb'.2 fun z=>⟨fun hz=>?_,fun hz=>?_⟩]
  ·rcases Yt.1 ((h z).1 (Yn _ hz)) with e | e
   ·have:=ha'.1 z hz;omega
   ·exact e
  ·rcases Yt.1 ((h z).2 (Yn _ hz)) with e | e
   ·have:=hb'.1 z hz;omega
   ·exact e
def orP:List Nat→Nat
 | []=>0
 | x::l=>2^x ||| orP l
theorem Z20 (l:List Nat) (i:Nat):(orP l).testBit i=decide (i∈l):=by
 induction l with
 | nil=>simp [orP]
 | cons x l ih=>
  rw [orP,Y2a,ih,Nat.testBit_two_pow];rw [Yja];simp only [Y9,decide_eq_true_eq,Yt];constructor
  ·rintro (h | h)
   ·exact .inl h.symm
   ·exact .inr h
  ·rintro (h | h)
   ·exact .inl h.symm
   ·exact .inr h
theorem Zudb {l:List Nat} (h:∀x∈l,x<24):orP l<16777216:=by
 have:orP l<2^24:=by
  induction l with
  | nil=>simp [orP]
  | cons x l ih=>
   rw [orP];exact Y4 (Nat.pow_lt_pow_right (by omega) (h x Yj)) (ih fun y hy=>h y (Yn _ hy))
 simpa using this
theorem Zq9 {l:List Nat} (hs:l.Pairwise (· < ·)) (h:∀x∈l,x<24):Zub (orP l) 24=l:=by
 refine Zegb (Zgw _ _) hs fun x=>?_
 unfold Zub
 rw [Y1,Yk,Z20,decide_eq_true_eq]
 exact ⟨fun q=>q.2,fun q=>⟨h x q,q⟩⟩
theorem Z3hb {v u:Nat} (h:∀i,i<24→¬(v.testBit i=true∧u.testBit i=true)) (hv:v<16777216):v &&& u=0:=by
 refine Yha fun i=>?_
 rw [Y1a,Y5a]
 by_cases hi:i<24
 ·have:=h i hi
  cases h1:v.testBit i with
  | false=>rfl
  | true=>
   cases h2:u.testBit i with
   | false=>rfl
   | true=>exact absurd ⟨h1,h2⟩ this
 ·rw [Y6 (Y3 (show v<2^24 by simpa using hv) (Y5 (by omega) (by omega)))]
  rfl
theorem Zyhb {v u:Nat} (hv:v<16777216) (hu:u<16777216) (h:v &&& u=0):v+u=v ||| u:=by
 have h1:=BitVec.add_eq_or_of_and_eq_zero (Yia 32 v) (Yia 32 u) (by
  apply BitVec.eq_of_toNat_eq;rw [BitVec.toNat_and,Yx,Yx,Yw (by omega),Yw (by omega),h];rfl)
 have h2:=congrArg BitVec.toNat h1
 rw [BitVec.toNat_add,BitVec.toNat_or,Yx,Yx,Yw (a:=v) (by omega),Yw (a:=u) (by omega),Yw (by omega)] at h2
 exact h2
def Zyb (v w:Nat):Nat:=16777215 ^^^ (v ||| w)
theorem Zrdb {i:Nat} (h:i<24):(16777215:Nat).testBit i=true:=by
 have:(2^24-1).testBit i=decide (i<24):=Nat.testBit_two_pow_sub_one 24 i
 rw [Xa h] at this
 exact this
theorem Z04 {v w i:Nat} (h:i<24):(Zyb v w).testBit i=(!(v.testBit i) && !(w.testBit i)):=by
 unfold Zyb
 rw [Y3a,Zrdb h,Y2a]
 cases v.testBit i <;> cases w.testBit i <;> rfl
theorem Zyw {v w:Nat} (hv:v<16777216) (hw:w<16777216):Zyb v w<16777216:=by
 have h:v ||| w<2^24:=Y4 (by simpa using hv) (by simpa using hw)
 have:Zyb v w<2^24:=Y4a (by omega) h
 simpa using this
abbrev Zxg:=Int×Int
def Zwm (acc:List Zxg) (n:Int):List Zxg:=match acc.getLast? with
 | some e=>if e.1+e.2=n then acc.dropLast++[(e.1,e.2+1)] else acc++[(n,1)]
 | none=>[(n,1)]
def Zgb (l:List Int):List Zxg:=l.foldl Zwm []
def Z5v (l:List Int) (acc:List Zxg):Prop:=∀e∈acc,1≤e.2∧∀x,e.1≤x→x<e.1+e.2→x∈l
theorem Zwhb {l:List Int} {acc:List Zxg} (h:Z5v l acc) {n:Int} (hn:n∈l):Z5v l (Zwm acc n):=by
 have one:∀e∈[((n,1):Zxg)],1≤e.2∧∀x,e.1≤x→x<e.1+e.2→x∈l:=fun e he=>by
  rw [Y2.1 he];refine ⟨Yr _,fun x h1 h2=>?_⟩;have h1:n≤x:=h1;have h2:x<n+1:=h2;rw [show x=n by omega];exact hn
 unfold Zwm
 cases hl:acc.getLast? with
 | none=>exact one
 | some e=>
  have hm:e∈acc:=Yea hl;dsimp only;split
  ·rename_i he
   intro z hz;rcases Yda.1 hz with hz | hz
   ·exact h z (List.dropLast_subset _ hz)
   ·rw [Y2.1 hz]
    obtain ⟨h1,h2⟩:=h e hm;refine ⟨by show 1≤e.2+1;omega,fun x q1 q2=>?_⟩;have q1:e.1≤x:=q1;have q2:x<e.1+(e.2+1):=q2
    by_cases c:x<e.1+e.2
    ·exact h2 x q1 c
    ·rw [show x=n by omega]
     exact hn
  ·intro z hz
   rcases Yda.1 hz with hz | hz
   ·exact h z hz
   ·exact one z hz
theorem Z9eb (l:List Int):Z5v l (Zgb l):=by
 have:∀(r:List Int) (acc:List Zxg),(∀x∈r,x∈l)→Z5v l acc→Z5v l (r.foldl Zwm acc):=by
  intro r
  induction r with
  | nil=>intro acc _ h;exact h
  | cons x r ih=>
   intro acc hx h;exact ih _ (fun y hy=>hx y (Yn _ hy)) (Zwhb h (hx x Yj))
 exact this l [] (fun x hx=>hx) (fun e he=>nomatch he)
theorem Zxhb (acc:List Zxg) (n:Int):(Zwm acc n).length≤acc.length+1:=by
 unfold Zwm
 cases hl:acc.getLast? with
 | none=>simp
 | some e=>
  dsimp only;split
  ·rw [Yca,List.length_dropLast,List.length_cons,Yra];omega
  ·simp
theorem Zt1 {l:List Int} {i:Nat} (h:i<l.length):Zgb (l.take (i+1))=Zwm (Zgb (l.take i)) l[i]:=by
 unfold Zgb
 rw [Zni h,Yba]
 rfl
theorem Zs1 (l:List Int):∀i,(Zgb (l.take i)).length≤i
 | 0=>by simp [Zgb]
 | i+1=>by
  have ih:=Zs1 l i
  by_cases h:i<l.length
  ·rw [Zt1 h]
   have:=Zxhb (Zgb (l.take i)) l[i];omega
  ·rw [Yza (by omega)] at ih ⊢
   omega
theorem Zfpb {l:List Int}:∀i,(h:i<l.length)→∃e,(Zgb (l.take (i+1))).getLast? = some e∧e.1+e.2=l[i]+1:=by
 intro i h
 rw [Zt1 h]
 unfold Zwm
 cases hl:(Zgb (l.take i)).getLast? with
 | none=>exact ⟨(l[i],1),rfl,rfl⟩
 | some e=>
  dsimp only;split
  ·rename_i he
   exact ⟨(e.1,e.2+1),Yoa,by show e.1+(e.2+1)=_;omega⟩
  ·exact ⟨(l[i],1),Yoa,rfl⟩
def Z4h (a:Int) (n:Nat):List Int:=(Yp n).map fun (i:Nat)=>a+(i:Int)
def Zqh (f:Nat) (n:Int):Option (List Int):=
 if ((Zb f).length:Int)<n then none
 else match Zmb (fun (e:Zxg)=>decide (n≤e.2)) (Zgb (Zb f)) 0 with
  | some i=>some (Z4h ((Zgb (Zb f)).getD i (0,0)).1 n.toNat)
  | none=>some ((Zb f).take n.toNat)
theorem Z0qb {a n:Nat} (h:a+n≤24):∃u,u<16777216∧Zb u=Z4h (a:Int) n∧∀i,u.testBit i=true→a≤i∧i<a+n:=by
 have hs:((Yp n).map (a + ·)).Pairwise (· < ·):=by
  rw [Yv];exact List.pairwise_lt_range.imp fun h=>by omega
 have hm:∀x∈(Yp n).map (a + ·),a≤x∧x<a+n:=fun x hx=>by
  obtain ⟨y,hy,rfl⟩:=Yo.1 hx;rw [Yk] at hy;omega
 refine ⟨orP ((Yp n).map (a + ·)),Zudb fun x hx=>by have:=hm x hx;omega,?_,fun i hi=>?_⟩
 ·unfold Zb Z4h
  rw [Zq9 hs fun x hx=>by have:=hm x hx;omega,Yua];refine List.map_congr_left fun i _=>?_
  show ((a+i:Nat):Int)=_;omega
 ·rw [Z20,decide_eq_true_eq] at hi
  exact hm i hi
theorem Zmrb (f n:Nat) (hf:f<16777216):∃u,u<16777216∧Zb u=(Zb f).take n∧∀i,u.testBit i=true→f.testBit i=true:=by
 have hs:((Zub f 24).take n).Pairwise (· < ·):=(Zgw f 24).sublist (List.take_sublist _ _)
 have hm:∀x∈(Zub f 24).take n,x<24∧f.testBit x=true:=fun x hx=>Z9t (Yva hx)
 refine ⟨orP ((Zub f 24).take n),Zudb fun x hx=>(hm x hx).1,?_,fun i hi=>?_⟩
 ·unfold Zb
  rw [Zq9 hs fun x hx=>(hm x hx).1,List.map_take]
 ·rw [Z20,decide_eq_true_eq] at hi
  exact (hm i hi).2
theorem Zseb {f:Nat} (hf:f<16777216) {n:Int} (h0:1≤n) {l:List Int} (h:Zqh f n=some l):(∃u,u<16777216∧l=Zb u∧∀i,u.testBit i=true→f.testBit i=true)∧(l.length:Int)=n:=by
 unfold Zqh at h
 split at h
 ·cases h
 ·rename_i hn
  cases hi:Zmb (fun (e:Zxg)=>decide (n≤e.2)) (Zgb (Zb f)) 0 with
  | none=>
   rw [hi] at h;cases h;obtain ⟨u,h1,h2,h3⟩:=Zmrb f n.toNat hf;exact ⟨⟨u,h1,h2.symm,h3⟩,by rw [Yz];omega⟩
  | some i=>
   rw [hi] at h;cases h;obtain ⟨_,hlt,hp,_⟩:=Z4l hi;have hp:=of_decide_eq_true hp;simp only [Nat.sub_zero] at hlt hp
   have hd:(Zgb (Zb f)).getD i (0,0)=(Zgb (Zb f))[i]:=by
    rw [Yg,Yh hlt];rfl
   rw [hd];have hr:=(Z9eb (Zb f) _ (Yd hlt)).2;generalize (Zgb (Zb f))[i]=e at hp hr;have m0:=hr e.1 (Yr _) (by omega);have m1:=hr (e.1+n-1) (by omega) (by omega)
   obtain ⟨a,ha⟩:∃a:Nat,e.1=(a:Int):=by
    obtain ⟨y,_,hy⟩:=Yo.1 (show e.1∈(Zub f 24).map _ from m0);exact ⟨y,hy.symm⟩
   obtain ⟨k,rfl⟩:∃k:Nat,n=(k:Int):=⟨n.toNat,by omega⟩
   have b1:a+k≤24:=by
    obtain ⟨y,hy,hy2⟩:=Yo.1 (show e.1+(k:Int)-1∈(Zub f 24).map _ from m1);have:=(Z9t hy).1;have hy2:((y:Nat):Int)=e.1+(k:Int)-1:=hy2;omega
   obtain ⟨u,u1,u2,u3⟩:=Z0qb b1;rw [Ym,ha];refine ⟨⟨u,u1,u2.symm,fun i hi=>?_⟩,by simp [Z4h]⟩;have:=u3 i hi;have hm:=hr (i:Int) (by omega) (by omega);exact (Zro.1 hm).2
theorem Z2hb (a:Nat) (ha:a<16777216):intBits .andNot .i64 16777215 (a:Int)=((16777215 ^^^ a:Nat):Int):=by
 have h0:(Yl 64 (a:Int)).toNat=a:=by
  rw [BitVec.toNat_ofInt];omega
 have h1:(Yl 64 16777215 &&& ~~~ Yl 64 (a:Int)).toNat=16777215 ^^^ a:=by
  refine Yha fun i=>?_
  rw [← Y7,BitVec.getLsbD_and,BitVec.getLsbD_not,Y3a,Y7,Y7,h0];have h5:(Yl 64 16777215).toNat=16777215:=rfl;rw [h5]
  by_cases hi:i<24
  ·rw [Zrdb hi,Xa (by omega:i<64)]
   cases a.testBit i <;> rfl
  ·have q1:(16777215:Nat).testBit i=false:=Y6 (Y3 (by decide:16777215<2^24) (Y5 (by omega) (by omega)))
   have q2:a.testBit i=false:=Y6 (Y3 (show a<2^24 by simpa using ha) (Y5 (by omega) (by omega)));rw [q1,q2];simp
 have hlt:16777215 ^^^ a<2^24:=Y4a (by omega) (by simpa using ha)
 have hlt:16777215 ^^^ a<16777216:=by simpa using hlt
 unfold intBits
 show Yc .i64 (((Yl 64 16777215 &&& ~~~ Yl 64 (a:Int)).toNat:Nat):Int)=_
 rw [h1]
 exact w64 (by omega) (by omega)
theorem Zvlb (v w:Nat) (hv:v<16777216) (hw:w<16777216) {k:Nat} (hk:24<k):Z5p k (Zb v) (Zb w)=some (Zb (Zyb v w)):=by
 have ho:v ||| w<16777216:=by
  have:v ||| w<2^24:=Y4 (by simpa using hv) (by simpa using hw);simpa using this
 unfold Z5p
 refine Za (Zup v hv k hk) (Za (Zup w hw k hk) ?_)
 rw [ori v w (by omega) (by omega),Z2hb _ ho]
 exact Za (Z7z _ (Zyw hv hw) k hk) rfl
theorem Zhfb (v w:Nat) {k:Nat} (hk:100<k):Zce k (Zb v) (Zb w)=some (Zb (Zyb v w)):=by
 have hlv:=Z9c v
 have hlw:=Z9c w
 have run:=Zqb (fun j i=>Zce.l0 k j (Zb v) (Zb w) (i:Int) ((Zub (Zyb v w) i).map fun n=>((n:Nat):Int))) 24 (Zb (Zyb v w)) (fun i hi j=>?_) (fun j=>?_) k (by omega)
 ·have run:Zce.l0 k k (Zb v) (Zb w) 0 []=some (Zb (Zyb v w)):=run
  unfold Zce;exact Za run rfl
 ·have hn:=Zbz (Zyb v w) i
  have m1:decide (((i:Nat):Int)∈Zb v)=v.testBit i:=by
   cases hb:v.testBit i with
   | true=>exact Xa (Zro.2 ⟨hi,hb⟩)
   | false=>exact Xb fun q=>by rw [(Zro.1 q).2] at hb;cases hb
  have m2:decide (((i:Nat):Int)∈Zb w)=w.testBit i:=by
   cases hb:w.testBit i with
   | true=>exact Xa (Zro.2 ⟨hi,hb⟩)
   | false=>exact Xb fun q=>by rw [(Zro.1 q).2] at hb;cases hb
  conv=>lhs;unfold Zce.l0
  rw [Xa (by omega:(i:Int)<24),Zm (by omega),Xe,Zgs,Z04 hi];refine Za (Zz1 _ _ (by omega) k (by omega)) ?_;rw [m1];cases v.testBit i with
  | true=>rfl
  | false=>
   simp only [Yka,Xe,Yaa];refine Za (Zz1 _ _ (by omega) k (by omega)) ?_;rw [m2];cases w.testBit i with
   | true=>rfl
   | false=>
    simp only [Yka,Xe,if_true];refine Za (Z5 (by simp;omega)) ?_;rw [Y0];rfl
 ·conv=>lhs;unfold Zce.l0
  rfl
theorem Z2qb (l:List Zxg) (x y:Zxg):(l++[x]).set l.length y=l++[y]:=by
 rw [List.set_append_right _ _ (Yb _),Nat.sub_self]
 rfl
theorem Zr5 {acc:List Zxg} {e:Zxg} (h:acc.getLast? = some e):acc=acc.dropLast++[e]∧at? acc (((acc.length-1:Nat)):Int)=some e∧0<acc.length:=by
 have h1:acc=acc.dropLast++[e]:=by
  rw [List.getLast?_eq_some_iff] at h;obtain ⟨l,rfl⟩:=h;rw [List.dropLast_concat]
 have h2:0<acc.length:=by rw [h1];simp
 refine ⟨h1,?_,h2⟩
 rw [Zg (by omega)]
 rw [List.getLast?_eq_getElem?] at h
 rw [Yh (by omega)] at h
 exact h
theorem Zy8 {acc:List Zxg} {e:Zxg} (h:acc.getLast? = some e) (n:Int):Zwm acc n=if e.1+e.2=n then acc.set (acc.length-1) (e.1,e.2+1) else acc++[(n,1)]:=by
 have h1:=(Zr5 h).1
 unfold Zwm
 rw [h]
 dsimp only
 split
 ·generalize acc.dropLast=d at h1
  subst h1;rw [Yca,Yta,Nat.add_sub_cancel,Z2qb]
 ·rfl
theorem Zl7 {v:Nat} {i:Nat} {e:Zxg} (h:e∈Zgb ((Zb v).take i)):0≤e.1∧1≤e.2∧e.1+e.2≤24:=by
 obtain ⟨h1,h2⟩:=Z9eb _ e h
 have lim:∀x∈(Zb v).take i,0≤x∧x≤23:=fun x hx=>by
  obtain ⟨j,hj,rfl⟩:=Yu.1 (Yva hx);exact Z9j hj
 have:=lim _ (h2 e.1 (Yr _) (by omega))
 have:=lim _ (h2 (e.1+e.2-1) (by omega) (by omega))
 omega
theorem Zfmb (v:Nat) {k:Nat} (hk:100<k):Zye k (Zb v)=some (Zgb (Zb v)):=by
 have hlv:=Z9c v
 have run:=Zqb (fun j i=>Zye.l0 j (Zb v) ((Zb v).length:Int) (i:Int) (Zgb ((Zb v).take i))) (Zb v).length (Zgb (Zb v)) (fun i hi j=>?_) (fun j=>?_) k (by omega)
 ·have run:Zye.l0 k (Zb v) ((Zb v).length:Int) 0 []=some (Zgb (Zb v)):=run
  unfold Zye;exact Za run rfl
 ·have hrl:=Zs1 (Zb v) i
  have hx:=Z9j hi
  conv=>lhs;unfold Zye.l0
  rw [dlt hi,Zm (by omega),Xe,Zt1 hi];refine Za (Zg hi) ?_;dsimp only;rw [w64 (n:=((Zgb ((Zb v).take i)).length:Int)-1) (by omega) (by omega)];cases hl:(Zgb ((Zb v).take i)).getLast? with
  | none=>
   have he:Zgb ((Zb v).take i)=[]:=List.getLast?_eq_none_iff.1 hl;rw [he];have ha:Zt 16 ([]:List Zxg) [((Zb v)[i],1)]=some [((Zb v)[i],1)]:=Z5 (by simp only [Yra,Yta];omega);exact Za ha rfl
  | some e=>
   obtain ⟨h1,h2,h3⟩:=Zr5 hl;have hr:=Zl7 (v:=v) (i:=i) (e:=e) (Yea hl)
   have hat:at? (Zgb ((Zb v).take i)) (((Zgb ((Zb v).take i)).length:Int)-1)=some e:=by
    have q:((Zgb ((Zb v).take i)).length:Int)-1=(((Zgb ((Zb v).take i)).length-1:Nat):Int):=by omega
    rw [q];exact h2
   rw [Xa (by omega:(0:Int)≤((Zgb ((Zb v).take i)).length:Int)-1),Xe];refine Za hat (Za hat (Za hat (Za hat ?_)));rw [w64 (n:=e.1+e.2) (by omega) (by omega),Zy8 hl]
   by_cases c:e.1+e.2=(Zb v)[i]
   ·rw [Xc c,show (e.1+e.2==(Zb v)[i])=true by simpa using c,Xe]
    refine Za hat (Za hat (Za hat (Za hat ?_)));rw [w64 (n:=e.2+1) (by omega) (by omega),show (((Zgb ((Zb v).take i)).length:Int)-1).toNat=(Zgb ((Zb v).take i)).length-1 by omega]
   ·rw [Xd c,show (e.1+e.2==(Zb v)[i])=false by simpa using c,Xf]
    exact Za (Z5 (by simp;omega)) rfl
 ·conv=>lhs;unfold Zye.l0
  rw [Zs (Yb _),Yi];rfl
theorem Zeqb (v:Nat) {k:Nat} (hk:100<k):Z5e k (Zb v)=some (Zgb (Zb v)):=by
 have hlv:=Z9c v
 have run:=Zqb (fun j i=>Z5e.l0 j (Zb v) (i:Int) (Zgb ((Zb v).take i))) (Zb v).length (Zgb (Zb v)) (fun i hi j=>?_) (fun j=>?_) k (by omega)
 ·have run:Z5e.l0 k (Zb v) 0 []=some (Zgb (Zb v)):=run
  unfold Z5e;exact Za run rfl
 ·have hrl:=Zs1 (Zb v) i
  have hx:=Z9j hi
  conv=>lhs;unfold Z5e.l0
  rw [dlt hi,Zm (by omega),Xe,Zt1 hi];dsimp only
  by_cases h0:i=0
  ·subst h0
   rw [show decide (0<((0:Nat):Int))=false from rfl,Xf];refine Za (Zg hi) (Za (Z5 (by simp [Zgb])) ?_);rfl
  ·rw [Xa (by omega:(0:Int)<(i:Int)),Xe]
   obtain ⟨p,rfl⟩:∃p,i=p+1:=⟨i-1,by omega⟩;have hp:p<(Zb v).length:=by omega
   have hy:=Z9j hp;obtain ⟨e,hl,he⟩:=Zfpb p hp;obtain ⟨h1,h2,h3⟩:=Zr5 hl;have hr:=Zl7 (v:=v) (i:=p+1) (e:=e) (Yea hl)
   have hat:at? (Zgb ((Zb v).take (p+1))) (((Zgb ((Zb v).take (p+1))).length:Int)-1)=some e:=by
    have q:((Zgb ((Zb v).take (p+1))).length:Int)-1=(((Zgb ((Zb v).take (p+1))).length-1:Nat):Int):=by omega
    rw [q];exact h2
   rw [show Yc .i64 (((p+1:Nat):Int)-1)=((p:Nat):Int) by rw [w64 (by omega) (by omega)];omega];refine Za (Zg hp) (Za (Zg hi) ?_);rw [w64 (n:=(Zb v)[p]+1) (by omega) (by omega),Zy8 hl,he]
   by_cases c:(Zb v)[p]+1=(Zb v)[p+1]
   ·rw [Xc c,show ((Zb v)[p]+1==(Zb v)[p+1])=true by simpa using c,Xe,w64 (n:=((Zgb ((Zb v).take (p+1))).length:Int)-1) (by omega) (by omega)]
    refine Za hat (Za hat (Za hat (Za hat ?_)));rw [w64 (n:=e.2+1) (by omega) (by omega),show (((Zgb ((Zb v).take (p+1))).length:Int)-1).toNat=(Zgb ((Zb v).take (p+1))).length-1 by omega]
   ·rw [Xd c,show ((Zb v)[p]+1==(Zb v)[p+1])=false by simpa using c,Xf]
    exact Za (Zg hi) (Za (Z5 (by simp;omega)) rfl)
 ·conv=>lhs;unfold Z5e.l0
  rw [Zs (Yb _),Yi];rfl
def Zo4:List (Nat×Nat):=(Yp 24).flatMap fun a=>(Yp (24-a)).map fun n=>(a,n+1)
theorem Zinb (m:Nat):(Zo4.all fun p=>decide (Zcc (m+60) [((p.1:Int),(p.2:Int))]=some (Z4h (p.1:Int) p.2,0)))=true:=by kernel_rfl
theorem Z2pb {a n:Nat} (h1:1≤n) (h:a+n≤24) {k:Nat} (hk:60≤k):Zcc k [((a:Int),(n:Int))]=some (Z4h (a:Int) n,0):=by
 obtain ⟨m,rfl⟩:∃m,k=m+60:=⟨k-60,by omega⟩
 have hm:(a,n)∈Zo4:=by
  unfold Zo4;rw [List.mem_flatMap];refine ⟨a,Yk.2 (by omega),?_⟩;rw [Yo];exact ⟨n-1,Yk.2 (by omega),by rw [Nat.sub_add_cancel h1]⟩
 exact of_decide_eq_true (Ys.1 (Zinb m) _ hm)
theorem Zzqb (a:Int) (n:Nat):Z4h a (n+1)=Z4h a n++[a+(n:Int)]:=by
 unfold Z4h
 rw [List.range_succ,Y0]
 rfl
theorem Za2 (a:Int) (n:Nat):(Z4h a n).length=n:=by simp [Z4h]
theorem iSeq {a n:Nat} (h:a+n≤24) (z:Int) {k:Nat} (hk:60≤k):Z2b.l0 k (n:Int) 0 (a:Int) z []=some ((a:Int),z,Z4h (a:Int) n):=by
 have run:=Zqb (fun j i=>Z2b.l0 j (n:Int) (i:Int) (a:Int) z (Z4h (a:Int) i)) n ((a:Int),z,Z4h (a:Int) n) (fun i hi j=>?_) (fun j=>?_) k (by omega)
 ·exact run
 ·conv=>lhs;unfold Z2b.l0
  rw [dlt hi,w64 (n:=(a:Int)+(i:Int)) (by omega) (by omega),Zm (by omega),Xe];refine Za (Z5 (by rw [Za2];simp;omega)) ?_;rw [Zzqb]
 ·conv=>lhs;unfold Z2b.l0
  rw [Zs (Yb _)];rfl
def Z30 (r:Option (List Int)) (c:Int):List Int×Int:=match r with
 | some l=>(l,0)
 | none=>([],c)
theorem Z7eb {v:Nat} {e:Zxg} (h:e∈Zgb (Zb v)):∃a c:Nat,e=((a:Int),(c:Int))∧1≤c∧a+c≤24:=by
 have:=Zl7 (v:=v) (i:=(Zb v).length) (e:=e) (by rw [Yi];exact h)
 exact ⟨e.1.toNat,e.2.toNat,Prod.ext (by show e.1=_;omega) (by show e.2=_;omega),by omega,by omega⟩
theorem Zafb (v:Nat):(Zgb (Zb v)).length≤24:=by
 have:=Zs1 (Zb v) (Zb v).length
 rw [Yi] at this
 have:=Z9c v
 omega
theorem Zb4 {α:Type} {l:List α} {n:Nat} (h:n≤l.length):Zpb l 0 (n:Int)=some (l.take n):=by
 have:=Zwf (l:=l) (i:=0) (j:=n) (by omega) h
 rw [List.drop_zero] at this
 exact this
theorem Zfcb (v w n:Nat) (hv:v<16777216) (hw:w<16777216) (h1:1≤n) {k:Nat} (hk:200≤k):Z2b k (Zb v) (Zb w) (n:Int)=some (match Zqh (Zyb v w) (n:Int) with
  | some l=>(l,true)
  | none=>([],false)):=by
 have hz:Zjk (Zb (Zyb v w))=some ((Zb (Zyb v w)).length:Int):=rfl
 have hrl:=Zafb (Zyb v w)
 unfold Z2b Zqh
 refine Za (Zvlb v w hv hw (by omega)) (Za hz ?_)
 by_cases c:((Zb (Zyb v w)).length:Int)<(n:Int)
 ·rw [Xa c,Xc c]
  rfl
 ·rw [Xb c,Xd c,Xf]
  refine Za (Zfmb _ (by omega)) ?_;have run:=Z2g (fun j i=>Z2b.l1 k j (n:Int) ((Zgb (Zb (Zyb v w))).length:Int) i (Zgb (Zb (Zyb v w)))) (Zgb (Zb (Zyb v w))) (fun e=>decide ((n:Int)≤e.2)) (.inl ()) (fun i=>.inr (true,Z4h ((Zgb (Zb (Zyb v w))).getD i (0,0)).1 n)) (fun i hi=>⟨fun hp j=>?_,fun hp j=>?_⟩) (fun j=>?_) (k:=k) (by omega)
  ·have run:Z2b.l1 k k (n:Int) ((Zgb (Zb (Zyb v w))).length:Int) 0 (Zgb (Zb (Zyb v w)))=_:=run
   refine Za run ?_;cases Zmb (fun (e:Zxg)=>decide ((n:Int)≤e.2)) (Zgb (Zb (Zyb v w))) 0 with
   | none=>exact Za (Zb4 (by omega)) rfl
   | some i=>rfl
  ·show Z2b.l1 k (j+1) (n:Int) _ (i:Int) _=Z2b.l1 k j (n:Int) _ ((i+1:Nat):Int) _
   conv=>lhs;unfold Z2b.l1
   rw [dlt hi,Zm (by omega),Xe];refine Za (Zg hi) (Za (Zg hi) ?_);rw [hp];rfl
  ·show Z2b.l1 k (j+1) (n:Int) _ (i:Int) _=_
   obtain ⟨a,q,he,q1,q2⟩:=Z7eb (Yd hi)
   have hd:(Zgb (Zb (Zyb v w))).getD i (0,0)=((a:Int),(q:Int)):=by
    rw [Yg,Yh hi];exact he
   have hp':=of_decide_eq_true hp;rw [he] at hp';have hp':(n:Int)≤(q:Int):=hp'
   conv=>lhs;unfold Z2b.l1
   rw [dlt hi,Zm (by omega),Xe];refine Za (Zg hi) (Za (Zg hi) ?_);rw [hp,Xe,he,hd];exact Za (iSeq (by omega) _ (by omega)) rfl
  ·show Z2b.l1 k (j+1) (n:Int) _ _ _=_
   unfold Z2b.l1;rw [Zs (Yb _)];rfl
theorem Ztfb (v w n:Nat) (hv:v<16777216) (hw:w<16777216) (h1:1≤n) {k:Nat} (hk:200≤k):Z5c k (Zb v) (Zb w) (n:Int)=some (Z30 (Zqh (Zyb v w) (n:Int)) 11):=by
 have hrl:=Zafb (Zyb v w)
 unfold Z5c Zqh
 refine Za (Zhfb v w (by omega)) ?_
 by_cases c:((Zb (Zyb v w)).length:Int)<(n:Int)
 ·rw [Xa c,Xc c]
  rfl
 ·rw [Xb c,Xd c,Xf]
  refine Za (Zeqb _ (by omega)) ?_;have run:=Z2g (fun j i=>Z5c.l0 k j (n:Int) i 0 (Zgb (Zb (Zyb v w))) []) (Zgb (Zb (Zyb v w))) (fun e=>decide ((n:Int)≤e.2)) (.inl (0,[])) (fun i=>.inr (Z4h ((Zgb (Zb (Zyb v w))).getD i (0,0)).1 n,0)) (fun i hi=>⟨fun hp j=>?_,fun hp j=>?_⟩) (fun j=>?_) (k:=k) (by omega)
  ·have run:Z5c.l0 k k (n:Int) 0 0 (Zgb (Zb (Zyb v w))) []=_:=run
   refine Za run ?_;cases Zmb (fun (e:Zxg)=>decide ((n:Int)≤e.2)) (Zgb (Zb (Zyb v w))) 0 with
   | none=>exact Za (Zb4 (by omega)) rfl
   | some i=>rfl
  ·show Z5c.l0 k (j+1) (n:Int) (i:Int) _ _ _=Z5c.l0 k j (n:Int) ((i+1:Nat):Int) _ _ _
   conv=>lhs;unfold Z5c.l0
   rw [dlt hi,Zm (by omega),Xe];refine Za (Zg hi) (Za (Zg hi) ?_);rw [hp];rfl
  ·show Z5c.l0 k (j+1) (n:Int) (i:Int) _ _ _=_
   obtain ⟨a,q,he,q1,q2⟩:=Z7eb (Yd hi)
   have hd:(Zgb (Zb (Zyb v w))).getD i (0,0)=((a:Int),(q:Int)):=by
    rw [Yg,Yh hi];exact he
   have hp':=of_decide_eq_true hp;rw [he] at hp';have hp':(n:Int)≤(q:Int):=hp'
   have hmax:Zur 1 (n:Int)=some (n:Int):=by
    unfold Zur
    by_cases c1:(n:Int)<1
    ·omega
    ·rw [Xb c1]
     rfl
   conv=>lhs;unfold Z5c.l0
   rw [dlt hi,Zm (by omega),Xe];refine Za (Zg hi) (Za (Zg hi) ?_);rw [hp,Xe];refine Za (Zg hi) (Za (Zg hi) (Za hmax ?_));rw [he,hd];refine Za (Z2pb h1 (by omega) (by omega)) ?_
   have hc:Zpb (Z4h (a:Int) n) 0 (n:Int)=some (Z4h (a:Int) n):=by
    rw [Zb4 (by rw [Za2];exact Yb _),Yza (by rw [Za2];exact Yb _)]
   exact Za hc rfl
  ·show Z5c.l0 k (j+1) (n:Int) _ _ _ _=_
   unfold Z5c.l0;rw [Zs (Yb _)];rfl
abbrev Zdf:=Int×Int×Int×Str×Zk
abbrev Z7r:=Zdf×Int×List Int×List Int
def Zvv (s:Zk):Bool:=decide (s.1=0)&&(decide (s.2.1=0)&&(decide (s.2.2.1=0)&&(s.2.2.2==[])))
def Zwh (c:Zdf):Bool:=if c.1=1 then (decide (1≤c.2.1)&&decide (c.2.1≤20))&&(decide (0≤c.2.2.1)&&decide (c.2.2.1≤4))&&decide ((c.2.2.2.1.length:Int)=32)&&Zvv c.2.2.2.2 else if c.1=2 then decide (c.2.1=0)&&decide (c.2.2.1=0)&&(c.2.2.2.1==[])&&Zjd c.2.2.2.2.1 c.2.2.2.2.2.1 c.2.2.2.2.2.2.1 c.2.2.2.2.2.2.2 8 else if c.1=9 then (decide (1≤c.2.1)&&decide (c.2.1≤24))&&decide (c.2.2.1=0)&&(c.2.2.2.1==[])&&Zvv c.2.2.2.2 else if c.1=7 then (decide (0≤c.2.1)&&decide (c.2.1≤1000000))&&decide (c.2.2.1=0)&&(c.2.2.2.1==[])&&Zvv c.2.2.2.2 else (decide (1≤c.1)&&decide (c.1≤11))&&decide (c.2.1=0)&&decide (c.2.2.1=0)&&(c.2.2.2.1==[])&&Zvv c.2.2.2.2
theorem Z1w (c:Zdf):Z9k c=some (Zwh c):=by
 obtain ⟨o,a,b,t,s⟩:=c
 have hs:Zqc s 8=some (Zjd s.1 s.2.1 s.2.2.1 s.2.2.2 8):=Zd0 s.1 s.2.1 s.2.2.1 s.2.2.2 8 (by decide) (by decide)
 unfold Z9k Zwh Zvv
 simp only [Z3,Zyi,Ye,hs,Zdi]
 generalize (decide (s.1=0)&&(decide (s.2.1=0)&&(decide (s.2.2.1=0)&&(s.2.2.2==[]))))=Z
 generalize (t==([]:Str))=E
 generalize Zjd s.1 s.2.1 s.2.2.1 s.2.2.2 8=S
 by_cases c1:o=1
 ·subst c1;simp
 by_cases c2:o=2
 ·subst c2;simp
 by_cases c9:o=9
 ·subst c9;simp
 by_cases c7:o=7
 ·subst c7;simp
 simp [c1,c2,c9,c7]
theorem Zv1 (c:Zdf):Zsn c=some (Zwh c):=by
 obtain ⟨o,a,b,t,s⟩:=c
 have hs:Zji s 8=some (Zjd s.1 s.2.1 s.2.2.1 s.2.2.2 8):=Z51 s.1 s.2.1 s.2.2.1 s.2.2.2 8 (by decide) (by decide)
 unfold Zsn Zwh Zvv
 simp only [Z7,Ye,hs,bne,Zdi]
 generalize (decide (s.1=0)&&(decide (s.2.1=0)&&(decide (s.2.2.1=0)&&(s.2.2.2==[]))))=Z
 generalize (t==([]:Str))=E
 generalize Zjd s.1 s.2.1 s.2.2.1 s.2.2.2 8=S
 generalize decide ((t.length:Int)=32)=W
 by_cases c1:o=1
 ·subst c1
  generalize (decide (1≤a)&&decide (a≤20))=P;generalize (decide (0≤b)&&decide (b≤4))=Q;cases P <;> cases Q <;> cases W <;> cases Z <;> simp
 by_cases c2:o=2
 ·subst c2
  generalize decide (a=0)=P;generalize decide (b=0)=Q;cases P <;> cases Q <;> cases E <;> cases S <;> simp
 by_cases c9:o=9
 ·subst c9
  generalize (decide (1≤a)&&decide (a≤24))=P;generalize decide (b=0)=Q;cases P <;> cases Q <;> cases E <;> cases Z <;> simp
 by_cases c7:o=7
 ·subst c7
  generalize (decide (0≤a)&&decide (a≤1000000))=P;generalize decide (b=0)=Q;cases P <;> cases Q <;> cases E <;> cases Z <;> simp
 simp only [Xb c1,Xb c2,Xb c9,Xb c7,Xd c1,Xd c2,Xd c9,Xd c7]
 generalize decide (a=0)=P
 generalize decide (b=0)=Q
 generalize (decide (1≤o)&&decide (o≤11))=R
 cases P <;> cases Q <;> cases E <;> cases Z <;> cases R <;> simp
def Zvo (l:List Int) (m:Nat) (h:Int):Bool:=decide (l.length≤m) && !(l.any fun x=>!(decide (0≤x)&&decide (x≤h)))
theorem Zpfb (l:List Int) (m:Nat) (h:Int) {k:Nat} (hk:l.length<k) (hm:m≤1000):Zdd k l (m:Int) h=some (Zvo l m h):=by
 unfold Zdd Zvo
 by_cases c:m<l.length
 ·rw [dlt c,Xb (by omega:¬l.length≤m)]
  rfl
 ·rw [Zs (by omega),Xa (by omega:l.length≤m)]
  have run:=Z2g (fun j i=>Zdd.l0 j l h i) l (fun x=>!(decide (0≤x)&&decide (x≤h))) (.inl ()) (fun _=>.inr false) (fun i hi=>by
   refine ⟨fun hp j=>?_,fun hp j=>?_⟩
   ·show Zdd.l0 (j+1) l h (i:Int)=Zdd.l0 j l h ((i+1:Nat):Int)
    rw [Zdd.l0,dlt hi,Zg hi,Zm (by omega)];simp only [Xe,Ye,Z7];rw [hp];rfl
   ·show Zdd.l0 (j+1) l h (i:Int)=some (.inr false)
    rw [Zdd.l0,dlt hi,Zg hi];simp only [Xe,Ye,Z7];rw [hp];rfl) (fun j=>by
   show Zdd.l0 (j+1) l h (l.length:Int)=some (.inl ());rw [Zdd.l0,Zs (Yb _)];rfl) hk
  have run:Zdd.l0 k l h 0=_:=run;rw [run,← Zdo (n:=0)];cases Zmb (fun x=>!(decide (0≤x)&&decide (x≤h))) l 0 <;> rfl
theorem Z5lb (l:List Int) {k:Nat} (hk:l.length<k) (hl:l.length≤1000):Zjr k l=some (l.any fun x=>!(decide (0≤x)&&decide (x≤200))):=by
 unfold Zjr Z7d
 have run:=Z2g (fun j i=>Z7d.l0 j l (l.length:Int) i) l (fun x=>!(decide (0≤x)&&decide (x≤200))) (.inl ()) (fun i=>.inr (i:Int)) (fun i hi=>by
  refine ⟨fun hp j=>?_,fun hp j=>?_⟩
  ·show Z7d.l0 (j+1) l (l.length:Int) (i:Int)=Z7d.l0 j l (l.length:Int) ((i+1:Nat):Int)
   rw [Z7d.l0,dlt hi,Zg hi,Zm (by omega)];simp only [Xe,Ye,Z8p,Z3];rw [hp];rfl
  ·show Z7d.l0 (j+1) l (l.length:Int) (i:Int)=some (.inr (i:Int))
   rw [Z7d.l0,dlt hi,Zg hi];simp only [Xe,Ye,Z8p,Z3];rw [hp];rfl) (fun j=>by
  show Z7d.l0 (j+1) l (l.length:Int) (l.length:Int)=some (.inl ());rw [Z7d.l0,Zs (Yb _)];rfl) hk
 have run:Z7d.l0 k l (l.length:Int) 0=_:=run
 rw [run,← Zdo (n:=0)]
 cases Zmb (fun x=>!(decide (0≤x)&&decide (x≤200))) l 0 with
 | none=>rfl
 | some i=>
  simp only [Ye];rw [Xa (by omega:(0:Int)≤(i:Int))];rfl
theorem Z6lb (l:List Int) {k:Nat} (hk:l.length<k) (hl:l.length≤1000):Zkr k l=some (l.any fun x=>!(decide (0≤x)&&decide (x≤50))):=by
 unfold Zkr Z8d
 have run:=Z2g (fun j i=>Z8d.l0 j l (l.length:Int) i) l (fun x=>!(decide (0≤x)&&decide (x≤50))) (.inl ()) (fun i=>.inr (i:Int)) (fun i hi=>by
  refine ⟨fun hp j=>?_,fun hp j=>?_⟩
  ·show Z8d.l0 (j+1) l (l.length:Int) (i:Int)=Z8d.l0 j l (l.length:Int) ((i+1:Nat):Int)
   rw [Z8d.l0,dlt hi,Zg hi,Zm (by omega)];simp only [Xe,Ye,Z9p,Z3];rw [hp];rfl
  ·show Z8d.l0 (j+1) l (l.length:Int) (i:Int)=some (.inr (i:Int))
   rw [Z8d.l0,dlt hi,Zg hi];simp only [Xe,Ye,Z9p,Z3];rw [hp];rfl) (fun j=>by
  show Z8d.l0 (j+1) l (l.length:Int) (l.length:Int)=some (.inl ());rw [Z8d.l0,Zs (Yb _)];rfl) hk
 have run:Z8d.l0 k l (l.length:Int) 0=_:=run
 rw [run,← Zdo (n:=0)]
 cases Zmb (fun x=>!(decide (0≤x)&&decide (x≤50))) l 0 with
 | none=>rfl
 | some i=>
  simp only [Ye];rw [Xa (by omega:(0:Int)≤(i:Int))];rfl
def Zlp (d:Z7r):Bool:=Zwh d.1&&(decide (-1≤d.2.1)&&decide (d.2.1≤50))&&Zvo d.2.2.1 40 200&&Zvo d.2.2.2 5 50&&(decide (0≤d.2.1)||(decide (d.2.2.1.length=0)&&decide (d.2.2.2.length=0)))
theorem Zspb (d:Z7r) {k:Nat} (h1:d.2.2.1.length<k) (h2:d.2.2.2.length<k):Z2o k d=some (Zlp d):=by
 unfold Z2o Zlp
 have e1:Zdd k d.2.2.1 40 200=some (Zvo d.2.2.1 40 200):=Zpfb d.2.2.1 40 200 h1 (by omega)
 have e2:Zdd k d.2.2.2 5 50=some (Zvo d.2.2.2 5 50):=Zpfb d.2.2.2 5 50 h2 (by omega)
 rw [Zv1,e1,e2]
 simp only [Ye,Z7,Zdi]
 rw [show decide ((d.2.2.1.length:Int)=0)=decide (d.2.2.1.length=0) from decide_eq_decide.2 (by omega),show decide ((d.2.2.2.length:Int)=0)=decide (d.2.2.2.length=0) from decide_eq_decide.2 (by omega)]
 cases Zwh d.1 <;> cases (decide (-1≤d.2.1)&&decide (d.2.1≤50)) <;> cases Zvo d.2.2.1 40 200 <;> cases Zvo d.2.2.2 5 50 <;> rfl
theorem Zmlb (d:Z7r) {k:Nat} (h1:d.2.2.1.length<k) (h2:d.2.2.2.length<k) (hb1:d.2.2.1.length≤1048576) (hb2:d.2.2.2.length≤1048576):Zio k d=some (Zlp d):=by
 unfold Zio Zlp
 rw [Z1w]
 simp only [Ye,Z3]
 rw [show Yc .i64 ((d.2.2.1.length:Int)+(d.2.2.2.length:Int))=(d.2.2.1.length:Int)+(d.2.2.2.length:Int) from w64 (by omega) (by omega)]
 cases Zwh d.1 with
 | false=>rfl
 | true=>
 simp only [Yq,Xf]
 unfold Zvo
 cases (decide (-1≤d.2.1)&&decide (d.2.1≤50)) with
 | false=>rfl
 | true=>
 by_cases c1:d.2.2.1.length≤40
 ·by_cases c2:d.2.2.2.length≤5
  ·rw [Xb (by omega:¬(40:Int)<(d.2.2.1.length:Int)),Xb (by omega:¬(5:Int)<(d.2.2.2.length:Int)),Xa c1,Xa c2,Z5lb _ h1 (by omega),Z6lb _ h2 (by omega)]
   simp only [Ye]
   have e:(decide (0≤d.2.1)||(decide (d.2.2.1.length=0)&&decide (d.2.2.2.length=0))) = !(decide (d.2.1<0)&&decide (0<(d.2.2.1.length:Int)+(d.2.2.2.length:Int))):=by
    rw [Yja];simp only [Y9,Ya,decide_eq_true_eq,Y8,Bool.and_eq_false_iff,decide_eq_false_iff_not];omega
   rw [e];cases (decide (d.2.1<0)&&decide (0<(d.2.2.1.length:Int)+(d.2.2.2.length:Int))) <;> cases (d.2.2.1.any fun x=>!(decide (0≤x)&&decide (x≤200))) <;> cases (d.2.2.2.any fun x=>!(decide (0≤x)&&decide (x≤50))) <;> rfl
  ·rw [Xa (by omega:(5:Int)<(d.2.2.2.length:Int)),Xb c2]
   simp
 ·rw [Xa (by omega:(40:Int)<(d.2.2.1.length:Int)),Xb c1]
  simp
abbrev Zsm:=List Zcf×Str×List Int×Int
def Zxf (c:Int):Zsm:=([],([],([],c)))
def Zej (l:List Zcf):Zsm:=(l,([],([],0)))
theorem Zghb (a b:Str):(Zr2 a b).length=8:=by simp [Zr2,Zob]
theorem Zlob {l:List Zk} {n:Int} (h:Zfb l n=0):∀x∈Zi l,x.1=2→x.2.2.2.length=8:=by
 intro x hx h2
 obtain ⟨_,h1,_,hs,_⟩:=Zfg h
 unfold Zi at hx
 have hs:=hs x (Y1.1 hx).1
 unfold Zvg Zjd at hs
 rw [Xd (by omega),Xc h2] at hs
 simp only [Ya,decide_eq_true_eq] at hs
 omega
theorem Zsnb {x:Zk} {n:Int} (h:WriteOk x n) (h2:x.1=2→x.2.2.2.length=8) {s:Str} (hs:s.length=8):(Zph x s).length=8:=by
 unfold Zph
 split
 ·rfl
 ·split
  ·rename_i q
   exact h2 q
  ·split
   ·exact hs
   ·have:x.2.2.2.length=8:=by rcases h.kind with q | q | q | q;omega;omega;omega;exact q.2
    unfold Z3t;rw [Xc ⟨hs,this⟩];exact Zghb _ _
theorem Zc9 {base:List Str} {l:List Zk} {n:Int} (hc:Zfb l n=0) (hb:(base.length:Int)=n) (hi:Zxi base=true):Zxi (Zte base l)=true:=by
 obtain ⟨h1,h8,hs⟩:=Z3w hi
 have hl:(Zte base l).length=base.length:=Z8h _ _ _ _
 unfold Zxi
 rw [hl,Xa h1,Xa h8]
 show (true&&(Zte base l).all Zcl)=true
 rw [Yaa]
 refine Ys.2 fun s hm=>?_
 obtain ⟨b,hb1,rfl⟩:=Yu.1 hm
 rw [hl] at hb1
 have hg:(base.getD b []).length=8:=hs _ (Z14 hb1)
 have:((Zte base l)[b]'(by rw [hl];exact hb1)).length=8:=by
  unfold Zte;rw [Z5r hb1];cases hf:(Zi l).find? (fun x=>x.2.1==(b:Int)) with
  | none=>exact hg
  | some x=>
   have hx:=List.mem_of_find?_eq_some hf;have hw:=Zuv hc x hx;have hsrc:=hw.src;exact Zsnb hw (Zlob hc x hx) (hs _ (Z14 (by omega)))
 unfold Zcl
 exact Xa this
def Zqm (m:Zp) (ph st dn:Int) (w:Nat):List Str:=if ph=4 then Zte (Zxb m) (Zd m st w) else if ph=5 then Z2t m st dn w else Zxb m
section
variable {m:Zp} {ph tr nd st dn:Int} {dg:Str} {v w:Nat}
theorem MSt.base8 (h:MSt m ph tr nd st dn dg v w):∀s∈Zxb m,s.length=8:=(Z3w h.img).2.2
theorem MSt.base (h:MSt m ph tr nd st dn dg v w):((Zxb m).length:Int)=m.1:=by
 have:=h.fit.b
 rw [Z9y]
 omega
theorem Zahb (h:MSt m ph tr nd st dn dg v w):((Zqm m ph st dn w).length:Int)=m.1:=by
 have:=h.base
 unfold Zqm Zte Z2t
 split
 ·rw [Z8h];exact this
 ·split
  ·rw [Z8h];exact this
  ·exact this
theorem Zumb (hs:stM m=some (ph,(tr,(nd,(st,(dn,(dg,(v,w)))))))) (h:MSt m ph tr nd st dn dg v w):Zc fun k=>Zwe k m=some (Zqm m ph st dn w):=by
 have hf:=h.fit
 have hb:=hf.b
 have hn:=hf.n
 have hdr:=hf.dirt
 have hl:m.2.1.length≤1048576:=by omega
 have hfl:=(Zsp hf.f).1
 have pre:Zc fun k=>Zsg k m=some (Zet (some (ph,tr,nd,st,dn,dg,v,w))):=by rw [← hs];exact Zru m hl (by omega)
 have hll:=h.log
 have hplan:Zc fun k=>Zfb (Zd m st w) m.1=0→Znb k (Zd m st w)=some (Zh (Zd m st w)):=if hc:Zfb (Zd m st w) m.1=0 then (Zqu (Zd m st w) (Zfg hc).1 (Zij hc)).mono fun k e _=>e else Zc.of fun k q=>absurd q hc
 refine (((pre.and (Z2w ph tr nd st dn dg (Zb v) hf)).and hplan).and (Zc.ge 1048577 fun k hk=>hk)).mono fun k ⟨⟨⟨e1,e2⟩,e3⟩,hk⟩=>?_
 unfold Zwe Zqm
 refine Za e1 (Za (Za5 (m:=m) ⟨by omega,hb.2⟩ (by omega) (by omega) hk) (Za e2 ?_))
 show (bif ph==4 then _ else _)=_
 by_cases c4:ph=4
 ·have hS:=h.snd (by omega)
  rw [Xc c4,show (ph==4)=true by simpa using c4,Xe];exact Za (Z8bb hS.code h.base h.base8 (by omega)) rfl
 ·rw [Xd c4,show (ph==4)=false by simpa using c4,Xf]
  show (bif ph==5 then _ else _)=_
  by_cases c5:ph=5
  ·have hS:=h.snd (by omega)
   rw [Xc c5,show (ph==5)=true by simpa using c5,Xe];exact Za (e3 hS.code) (Za (Zf0 _ (by omega) k (by omega)) (Za (Zvmb hS ph tr nd dg (Zb v) hk) rfl))
  ·rw [Xd c5,show (ph==5)=false by simpa using c5]
   rfl
theorem Z31 (h:MSt m ph tr nd st dn dg v w) (h3:3≤ph):Zc fun k=>Z4j k m (ph,(tr,(nd,(st,(dn,(dg,(Zb v,Zb w)))))))=some (Zh (Zd m st w)):=by
 refine ((Zgr ph tr nd st dn dg (Zb v) h.fit).and (Zrfb _ _ (h.snd h3).code)).mono fun k ⟨e1,e2⟩=>?_
 unfold Z4j
 exact Za e1 (Za e2 rfl)
theorem Z0lb (h:MSt m ph tr nd st dn dg v w) (h3:3≤ph):Zc fun k=>Zho k m (ph,(tr,(nd,(st,(dn,(dg,(Zb v,Zb w)))))))=some (Zh (Zd m st w)):=by
 have hc:=(h.snd h3).code
 refine (((Z2w ph tr nd st dn dg (Zb v) h.fit).and (Ze0 (Zd m st w) m.1 (by have:=Zm0 m st w;omega))).and (Zqu _ (Zfg hc).1 (Zij hc))).mono fun k ⟨⟨e1,e2⟩,e3⟩=>?_
 unfold Zho
 refine Za e1 (Za e2 ?_)
 rw [hc]
 exact Za e3 rfl
theorem Zsqb (h:MSt m ph tr nd st dn dg v w):Zc fun k=>Z9e k m (ph,(tr,(nd,(st,(dn,(dg,(Zb v,Zb w)))))))=some (Zqm m ph st dn w):=by
 have hf:=h.fit
 have hb:=hf.b
 have hn:=hf.n
 have hdr:=hf.dirt
 have hll:=h.log
 have hmv:Zc fun k=>3≤ph→Z4j k m (ph,(tr,(nd,(st,(dn,(dg,(Zb v,Zb w)))))))=some (Zh (Zd m st w)):=if h3:3≤ph then (Z31 h h3).mono fun k e _=>e else Zc.of fun k q=>absurd q h3
 refine ((((Zgr ph tr nd st dn dg (Zb v) hf).and (Zvfb (l:=Zd m st w) h.img (by omega))).and hmv).and (Zc.ge 1048577 fun k hk=>hk)).mono fun k ⟨⟨⟨e2,e3⟩,e4⟩,hk⟩=>?_
 unfold Z9e Zqm
 refine Za (Zn7 (m:=m) ⟨by omega,hb.2⟩ (by omega) (by omega) hk) (Za e2 ?_)
 show (bif ph==4 then _ else _)=_
 by_cases c4:ph=4
 ·have hS:=h.snd (by omega)
  rw [Xc c4,show (ph==4)=true by simpa using c4,Xe];rw [h.base,Xc hS.code] at e3;exact Za e3 rfl
 ·rw [Xd c4,show (ph==4)=false by simpa using c4,Xf]
  show (bif ph != 5 then _ else _)=_
  by_cases c5:ph=5
  ·have hS:=h.snd (by omega)
   rw [Xc c5,show (ph != 5)=false by simpa using c5,Xf];have hbl:=Z9y m;exact Za (e4 (by omega)) (Za (Zw7 _ (by omega) k (by omega)) (Za (Z5 (by simp;omega)) (Za (Ztqb hS ph tr nd dg (Zb v) hk) rfl)))
  ·rw [Xd c5,show (ph != 5)=true by simpa using c5]
   rfl
end
def Z0g (l:List Int):Nat:=orP (l.map Int.toNat)
theorem Zt9 {u:Nat} (h:u<16777216):Z0g (Zb u)=u:=by
 have e:(Zb u).map Int.toNat=Zub u 24:=by
  unfold Zb;rw [Yua];exact List.map_id' _
 unfold Z0g
 rw [e]
 refine Yha fun i=>?_
 rw [Z20]
 by_cases hi:i<24
 ·cases hb:u.testBit i with
  | true=>exact Xa (by unfold Zub;rw [Y1,Yk];exact ⟨hi,hb⟩)
  | false=>exact Xb fun q=>by rw [(Z9t q).2] at hb;cases hb
 ·rw [Y6 (Y3 (show u<2^24 by simpa using h) (Y5 (by omega) (by omega)))]
  exact Xb fun q=>hi (Z9t q).1
theorem Zjab {v w:Nat} (h:v &&& w=0):∀n,n≤24→(Zub v n).length+(Zub w n).length+(Zub (Zyb v w) n).length=n
 | 0,_=>by simp [Zub]
 | n+1,hn=>by
  have ih:=Zjab h n (by omega);have hb:(v &&& w).testBit n=false:=by rw [h];exact Y5a n
  rw [Y1a] at hb;rw [Zgs,Zgs,Zgs,Z04 (by omega)];cases h1:v.testBit n <;> cases h2:w.testBit n <;> simp only [h1,h2] at hb ⊢
  ·simp;omega
  ·simp;omega
  ·simp;omega
  ·cases hb
theorem Z9ib {v w:Nat} (h:v &&& w=0):(Zb v).length+(Zb w).length+(Zb (Zyb v w)).length=24:=by
 have:=Zjab h 24 (Yb _)
 unfold Zb
 simp only [Yqa]
 exact this
def Zoi (m:Zp) (l:List Int):List Zcf:=l.map fun x=>(false,(3+m.1+x,[]))
section
variable {m:Zp} {ph tr nd st dn:Int} {dg:Str} {v w:Nat}
theorem Zfhb {l:List Int} {i:Nat} (h:i<l.length):Zoi m (l.take (i+1))=Zoi m (l.take i)++[(false,(3+m.1+l[i],[]))]:=Zrgb _ h
theorem Zymb (h:Fit m st w) (l:List Int) (hl:l.length≤24) (hx:∀x∈l,0≤x∧x≤23) {k:Nat} (hk:100≤k):Zve.l0 k m.1 m.2.1 m.2.2 l (l.length:Int) 0 []=some (Zoi m l):=by
 have run:=Zqb (fun j i=>Zve.l0 j m.1 m.2.1 m.2.2 l (l.length:Int) (i:Int) (Zoi m (l.take i))) l.length (Zoi m l) (fun i hi j=>?_) (fun j=>?_) k (by omega)
 ·exact run
 ·have hr:=hx _ (Yd hi)
  conv=>lhs;unfold Zve.l0
  rw [dlt hi,Zm (by omega),Xe,Zfhb hi];exact Za (Zg hi) (Za (Z5z h hr.1 hr.2) (Za (Z5 (by simp [Zoi];omega)) rfl))
 ·conv=>lhs;unfold Zve.l0
  rw [Zs (Yb _),Yi];rfl
theorem Zvqb (h:Fit m st w) (l:List Int) (hl:l.length≤24) (hx:∀x∈l,0≤x∧x≤23) {k:Nat} (hk:100≤k):Z7e.l0 k m.1 m.2.1 m.2.2 0 l 0 [] 0 [] []=some (l,(0,([],(0,(Zoi m l,[]))))):=by
 have run:=Zqb (fun j i=>Z7e.l0 j m.1 m.2.1 m.2.2 (i:Int) l 0 [] 0 (Zoi m (l.take i)) []) l.length (l,(0,([],(0,(Zoi m l,[]))))) (fun i hi j=>?_) (fun j=>?_) k (by omega)
 ·exact run
 ·have hr:=hx _ (Yd hi)
  conv=>lhs;unfold Z7e.l0
  rw [dlt hi,Zm (by omega),Xe,Zfhb hi];exact Za (Zg hi) (Za (Z8x h hr.1 hr.2) (Za (Z5 (by simp [Zoi];omega)) rfl))
 ·conv=>lhs;unfold Z7e.l0
  rw [Zs (Yb _),Yi];rfl
def Zds (m:Zp) (ph:Int) (v:Nat) (a b:Int) (dg:Str):Zsm:=if ph=1 then (match Zqh (Zyb v 0) (a+b) with
 | some l=>Zej ((Zoi m l++[Zmi])++Zne m.2 2 0 a b 0 dg v (Z0g l))
 | none=>Zxf 11) else Zxf 10
theorem Zb7 {f:Nat} (hf:f<16777216) {n:Int} (h0:1≤n) {l:List Int} (h:Zqh f n=some l):∃u,u<16777216∧l=Zb u∧Z0g l=u∧l.length≤24∧∀x∈l,0≤x∧x≤23:=by
 obtain ⟨⟨u,h1,h2,_⟩,_⟩:=Zseb hf h0 h
 subst h2
 refine ⟨u,h1,rfl,Zt9 h1,Z9c u,fun x hx=>?_⟩
 obtain ⟨j,hj,rfl⟩:=Yu.1 hx
 exact Z9j hj
theorem Zdlb (h:MSt m ph tr nd st dn dg v w) (c:Zdf) (ha:1≤c.2.1∧c.2.1≤20) (hb:0≤c.2.2.1∧c.2.2.1≤4) (hd:c.2.2.2.1.length≤32):Zc fun k=>Zve k m (ph,(tr,(nd,(st,(dn,(dg,(Zb v,Zb w))))))) c=some (Zds m ph v c.2.1 c.2.2.1 c.2.2.2.1):=by
 unfold Zds
 by_cases c1:ph=1
 ·obtain ⟨n,hn⟩:∃n:Nat,c.2.1+c.2.2.1=(n:Int):=⟨(c.2.1+c.2.2.1).toNat,by omega⟩
  have hfl:=Zyw h.hv (by omega:0<16777216)
  have hr:∀k,200≤k→Z2b k (Zb v) [] (Yc .i64 (c.2.1+c.2.2.1))=some (match Zqh (Zyb v 0) (c.2.1+c.2.2.1) with
   | some l=>(l,true)
   | none=>([],false)):=fun k hk=>by
   have:=Zfcb v 0 n h.hv (by omega) (by omega) hk;rw [Zfs] at this;rw [hn,wn (by omega)];exact this
  rw [Xc c1];cases hres:Zqh (Zyb v 0) (c.2.1+c.2.2.1) with
  | none=>
   refine (Zc.ge 200 fun k hk=>hk).mono fun k hk=>?_
   have hr:=hr k hk;rw [hres] at hr;unfold Zve;show (bif ph != 1 then _ else _)=_;rw [show (ph != 1)=false by simpa using c1,Xf];exact Za hr rfl
  | some l=>
   obtain ⟨u,u1,u2,u3,u4,u5⟩:=Zb7 hfl (by omega) hres;dsimp only;rw [u3];refine ((Zfk (m:=m) h.fit.f h.two (a:=2) (b:=0) (c:=c.2.1) (d:=c.2.2.1) (e:=0) (x:=c.2.2.2.1) (v:=v) (w:=u) ⟨by omega,by omega,by omega,by omega,by omega,hd,h.hv,u1⟩).and (Zc.ge 200 fun k hk=>hk)).mono fun k ⟨e,hk⟩=>?_
   have hr:=hr k hk;rw [hres] at hr;rw [← u2] at e;have hkl:=Z7l m.2 (Zee (2,0,c.2.1,c.2.2.1,0,(v:Int),(u:Int),c.2.2.2.1));unfold Zve;show (bif ph != 1 then _ else _)=_;rw [show (ph != 1)=false by simpa using c1,Xf];refine Za hr ?_;rw [Yq,Xf];refine Za (Zymb h.fit l u4 u5 (by omega)) (Za (Z5 (by simp [Zoi];omega)) (Za e (Za (Z5 (by unfold Zne;simp [Zoi];omega)) ?_)));rfl
 ·refine Zc.of fun k=>?_
  unfold Zve;show (bif ph != 1 then _ else _)=_;rw [show (ph != 1)=true by simpa using c1,Xd c1];rfl
theorem Zkpb (h:MSt m ph tr nd st dn dg v w) (c:Zdf) (ha:1≤c.2.1∧c.2.1≤20) (hb:0≤c.2.2.1∧c.2.2.1≤4) (hd:c.2.2.2.1.length≤32):Zc fun k=>Z7e k m (ph,(tr,(nd,(st,(dn,(dg,(Zb v,Zb w))))))) c=some (Zds m ph v c.2.1 c.2.2.1 c.2.2.2.1):=by
 unfold Zds
 by_cases c1:ph=1
 ·obtain ⟨n,hn⟩:∃n:Nat,c.2.1+c.2.2.1=(n:Int):=⟨(c.2.1+c.2.2.1).toNat,by omega⟩
  have hfl:=Zyw h.hv (by omega:0<16777216)
  have hr:∀k,200≤k→Z5c k (Zb v) [] (Yc .i64 (c.2.1+c.2.2.1))=some (Z30 (Zqh (Zyb v 0) (c.2.1+c.2.2.1)) 11):=fun k hk=>by
   have:=Ztfb v 0 n h.hv (by omega) (by omega) hk;rw [Zfs] at this;rw [hn,wn (by omega)];exact this
  rw [Xc c1];cases hres:Zqh (Zyb v 0) (c.2.1+c.2.2.1) with
  | none=>
   refine (Zc.ge 200 fun k hk=>hk).mono fun k hk=>?_
   have hr:=hr k hk;rw [hres] at hr;unfold Z7e;show (bif ph != 1 then _ else _)=_;rw [show (ph != 1)=false by simpa using c1,Xf];exact Za hr rfl
  | some l=>
   obtain ⟨u,u1,u2,u3,u4,u5⟩:=Zb7 hfl (by omega) hres;dsimp only;rw [u3];refine ((Zrk (m:=m) h.fit.f h.two (a:=2) (b:=0) (c:=c.2.1) (d:=c.2.2.1) (e:=0) (x:=c.2.2.2.1) (v:=v) (w:=u) ⟨by omega,by omega,by omega,by omega,by omega,hd,h.hv,u1⟩).and (Zc.ge 200 fun k hk=>hk)).mono fun k ⟨e,hk⟩=>?_
   have hr:=hr k hk;rw [hres] at hr;rw [← u2] at e;have hkl:=Z7l m.2 (Zee (2,0,c.2.1,c.2.2.1,0,(v:Int),(u:Int),c.2.2.2.1));unfold Z7e;show (bif ph != 1 then _ else _)=_;rw [show (ph != 1)=false by simpa using c1,Xf];refine Za hr ?_;rw [show ((Z30 (some l) 11).2 != 0)=false from rfl,Xf];refine Za (Zvqb h.fit l u4 u5 (by omega)) (Za (Z5 (by simp [Zoi];omega)) (Za e (Za (Z5 (by unfold Zne;simp [Zoi];omega)) ?_)));rfl
 ·refine Zc.of fun k=>?_
  unfold Z7e;show (bif ph != 1 then _ else _)=_;rw [show (ph != 1)=true by simpa using c1,Xd c1];rfl
theorem Zodb {x:Zk} (h:Zjd x.1 x.2.1 x.2.2.1 x.2.2.2 8=true):Zv2 x:=by
 unfold Zjd at h
 unfold Zv2 Num
 split at h
 ·simp only [Ya,decide_eq_true_eq] at h;omega
 ·split at h
  ·simp only [Ya,decide_eq_true_eq] at h;omega
  ·split at h
   ·simp only [Ya,decide_eq_true_eq] at h;omega
   ·split at h
    ·simp only [Ya,decide_eq_true_eq] at h;omega
    ·split at h
     ·simp only [Ya,decide_eq_true_eq] at h;omega
     ·cases h
def Z0x (n:Int) (x:Zk):Str:=Zeh (Zn n++Zwt x)
theorem Zcmb (n:Int) (x:Zk) (h0:0≤n∧n≤1000000) (h:Zjd x.1 x.2.1 x.2.2.1 x.2.2.2 8=true):Zc fun k=>Zkq k n x=some (Z0x n x):=by
 have l0:=Zhc n
 have l1:=Zhc x.1
 have l2:=Zhc x.2.1
 have l3:=Zhc x.2.2.1
 have l4:=Ztj x.2.2.2
 have l5:=Zhy h
 have lX:(Zwt x).length≤60:=by unfold Zwt;simp only [Yca];omega
 refine (((Za0 n (by constructor <;> omega)).and (Zpmb x (Zodb h) l5)).and (Zc0 (Zn n++Zwt x) (by simp;omega))).mono fun k ⟨⟨a,b⟩,c⟩=>?_
 unfold Zkq
 exact Za a (Za b (Za (Zwc (by omega)) (Za c rfl)))
theorem Zbqb (n:Int) (x:Zk) (h0:0≤n∧n≤1000000) (h:Zjd x.1 x.2.1 x.2.2.1 x.2.2.2 8=true):Zc fun k=>Zol k n x=some (Z0x n x):=by
 obtain ⟨q1,q2,q3⟩:=Zodb h
 have:=Zsfb n x.1 x.2.1 x.2.2.1 x.2.2.2 (by constructor <;> omega) q1 q2 q3 (Zhy h) h
 rw [Xc h0] at this
 exact this
def Zvt (m:Zp) (ph nd st:Int) (w:Nat) (x:Zk):Zsm:=if ph=2 then (if ((Zd m st w).length:Int)=nd then Zxf 9 else if Zfb (Zd m st w++[x]) m.1=0 then Zej ((false,(3+m.1+(Zb w).getD (st+((Zd m st w).length:Int)).toNat 0,Z0x ((Zd m st w).length:Int) x))::(if x.1=5 then [Zmi] else [])) else Zxf (Zfb (Zd m st w++[x]) m.1)) else Zxf 10
theorem Znmb (h:MSt m ph tr nd st dn dg v w) (x:Zk) (hx:Zjd x.1 x.2.1 x.2.2.1 x.2.2.2 8=true):Zc fun k=>Z0p k m (ph,(tr,(nd,(st,(dn,(dg,(Zb v,Zb w))))))) (Zd m st w) x=some (Zvt m ph nd st w x):=by
 have hll:=h.log
 have hlw:=Z9c w
 refine (((Ze0 (Zd m st w++[x]) m.1 (by simp;omega)).and (Zcmb ((Zd m st w).length:Int) x (by omega) hx)).and (Zc.ge 100 fun k hk=>hk)).mono fun k ⟨⟨e1,e2⟩,hk⟩=>?_
 have hz:Zal (Zd m st w)=some ((Zd m st w).length:Int):=rfl
 unfold Z0p Zvt
 show (bif ph != 2 then _ else _)=_
 by_cases c2:ph=2
 ·rw [Xc c2,show (ph != 2)=false by simpa using c2,Xf]
  obtain ⟨q1,q2,q3,q4,q5,q6,q7,q8⟩:=h.busy (by omega);refine Za hz ?_;show (bif ((Zd m st w).length:Int)==nd then _ else _)=_
  by_cases cn:((Zd m st w).length:Int)=nd
  ·rw [Xc cn,show (((Zd m st w).length:Int)==nd)=true by simpa using cn]
   rfl
  ·rw [Xd cn,show (((Zd m st w).length:Int)==nd)=false by simpa using cn,Xf]
   refine Za (Z5 (by simp;omega)) (Za e1 ?_)
   by_cases cc:Zfb (Zd m st w++[x]) m.1=0
   ·rw [Xc cc,show (Zfb (Zd m st w++[x]) m.1 != 0)=false by simpa using cc,Xf]
    obtain ⟨a1,a2,a3⟩:=Z7t (w:=w) (n:=st+((Zd m st w).length:Int)) (by omega) (by omega);show Yf (at? (Zb w) (Yc .i64 (st+((Zd m st w).length:Int)))) _=_;rw [w64 (n:=st+((Zd m st w).length:Int)) (by omega) (by omega)];refine Za a1 (Za (Z5z h.fit a2 a3) (Za e2 ?_));show (bif x.1==5 then _ else _)=_
    by_cases c5:x.1=5
    ·rw [Xc c5,show (x.1==5)=true by simpa using c5,Xe]
     exact Za (Z5 (by simp)) rfl
    ·rw [Xd c5,show (x.1==5)=false by simpa using c5]
     rfl
   ·rw [Xd cc,show (Zfb (Zd m st w++[x]) m.1 != 0)=true by simpa using cc]
    rfl
 ·rw [Xd c2,show (ph != 2)=true by simpa using c2]
  rfl
theorem Znqb (h:MSt m ph tr nd st dn dg v w) (c:Zdf) (hx:Zjd c.2.2.2.2.1 c.2.2.2.2.2.1 c.2.2.2.2.2.2.1 c.2.2.2.2.2.2.2 8=true):Zc fun k=>Zzr k m (ph,(tr,(nd,(st,(dn,(dg,(Zb v,Zb w))))))) c=some (Zvt m ph nd st w c.2.2.2.2):=by
 have hll:=h.log
 have hlw:=Z9c w
 refine ((((Zgr ph tr nd st dn dg (Zb v) h.fit).and (Z61 (Zd m st w++[c.2.2.2.2]) m.1 (by simp;omega))).and (Zbqb ((Zd m st w).length:Int) c.2.2.2.2 (by omega) hx)).and (Zc.ge 100 fun k hk=>hk)).mono fun k ⟨⟨⟨e0,e1⟩,e2⟩,hk⟩=>?_
 unfold Zzr Zvt
 show (bif ph != 2 then _ else _)=_
 by_cases c2:ph=2
 ·rw [Xc c2,show (ph != 2)=false by simpa using c2,Xf]
  obtain ⟨q1,q2,q3,q4,q5,q6,q7,q8⟩:=h.busy (by omega);refine Za e0 ?_;show (bif decide (nd≤((Zd m st w).length:Int)) then _ else _)=_
  by_cases cn:((Zd m st w).length:Int)=nd
  ·rw [Xc cn,Xa (by omega:nd≤((Zd m st w).length:Int))]
   rfl
  ·rw [Xd cn,Xb (by omega:¬nd≤((Zd m st w).length:Int)),Xf]
   have ha:Zt 40 ([]:List Zk) (Zd m st w)=some (Zd m st w):=Z5 (by simp;omega);refine Za ha (Za (Z5 (by simp;omega)) (Za e1 ?_))
   by_cases cc:Zfb (Zd m st w++[c.2.2.2.2]) m.1=0
   ·rw [Xc cc,show (Zfb (Zd m st w++[c.2.2.2.2]) m.1 != 0)=false by simpa using cc,Xf]
    obtain ⟨a1,a2,a3⟩:=Z7t (w:=w) (n:=st+((Zd m st w).length:Int)) (by omega) (by omega);show Yf (at? (Zb w) (Yc .i64 (st+((Zd m st w).length:Int)))) _=_;rw [w64 (n:=st+((Zd m st w).length:Int)) (by omega) (by omega)];refine Za a1 (Za (Z8x h.fit a2 a3) (Za e2 ?_));show (bif c.2.2.2.2.1==5 then _ else _)=_
    by_cases c5:c.2.2.2.2.1=5
    ·rw [Xc c5,show (c.2.2.2.2.1==5)=true by simpa using c5,Xe]
     exact Za (Z5 (by simp)) rfl
    ·rw [Xd c5,show (c.2.2.2.2.1==5)=false by simpa using c5]
     rfl
   ·rw [Xd cc,show (Zfb (Zd m st w++[c.2.2.2.2]) m.1 != 0)=true by simpa using cc]
    rfl
 ·rw [Xd c2,show (ph != 2)=true by simpa using c2]
  rfl
end
section
variable {m:Zp} {ph tr nd st dn:Int} {dg:Str} {v w:Nat}
def Z8m (m:Zp) (v:Nat):List Zcf:=Zne m.2 1 0 0 0 0 [] v 0
def Zts (m:Zp) (ph tr nd st dn:Int) (dg:Str) (v w:Nat):Zsm:=if ph=2 then (if ((Zd m st w).length:Int)=nd then (if Zfb (Zd m st w) m.1=0 then (if Z1i (Zte (Zxb m) (Zd m st w)).flatten=dg then (if st<Z7b (Zh (Zd m st w)) then (Z8m m v,([],([],11))) else Zej ([Zmi]++Zne m.2 3 tr nd st dn dg v w)) else (Z8m m v,([],([],5)))) else (Z8m m v,([],([],5)))) else (Z8m m v,([],([],4)))) else Zxf 10
theorem Zslb (h:MSt m ph tr nd st dn dg v w):Zc fun k=>Zzp k m (ph,(tr,(nd,(st,(dn,(dg,(Zb v,Zb w))))))) (Zd m st w)=some (Zts m ph tr nd st dn dg v w):=by
 have hf:=h.fit
 have hb:=hf.b
 have hn:=hf.n
 have hdr:=hf.dirt
 have hfl:=(Zsp hf.f).1
 have hk0:=h.keep
 have hll:=h.log
 have hplan:Zc fun k=>Zfb (Zd m st w) m.1=0→Znb k (Zd m st w)=some (Zh (Zd m st w)):=if hc:Zfb (Zd m st w) m.1=0 then (Zqu (Zd m st w) (Zfg hc).1 (Zij hc)).mono fun k e _=>e else Zc.of fun k q=>absurd q hc
 refine (((((Zfk (m:=m) hf.f h.two (Zhn h.hv)).and (Ze0 (Zd m st w) m.1 (by omega))).and hplan).and (Zfk (m:=m) hf.f h.two (a:=3) { hk0 with a:=by omega })).and (Zc.ge 1048577 fun k hk=>hk)).mono fun k ⟨⟨⟨⟨e1,e2⟩,e3⟩,e4⟩,hk⟩=>?_
 have hz:Zal (Zd m st w)=some ((Zd m st w).length:Int):=rfl
 unfold Zzp Zts
 refine Za (Z9z v _ _ _ _ _ _ _) (Za e1 (Za (Za5 (m:=m) ⟨by omega,hb.2⟩ (by omega) (by omega) hk) ?_))
 show (bif ph != 2 then _ else _)=_
 by_cases c2:ph=2
 ·rw [Xc c2,show (ph != 2)=false by simpa using c2,Xf]
  refine Za hz ?_;show (bif ((Zd m st w).length:Int) != nd then _ else _)=_
  by_cases cn:((Zd m st w).length:Int)=nd
  ·rw [Xc cn,show (((Zd m st w).length:Int) != nd)=false by simpa using cn,Xf]
   refine Za e2 ?_
   by_cases cc:Zfb (Zd m st w) m.1=0
   ·rw [Xc cc,show (Zfb (Zd m st w) m.1 != 0)=false by simpa using cc,Xf]
    have hpl:=Zqx _ (Zfg cc).1 (Zij cc);refine Za (Z8bb cc h.base h.base8 (by omega)) (Za (Zolb (Zc9 cc h.base h.img) (by omega)) ?_);show (bif !(Z1i (Zte (Zxb m) (Zd m st w)).flatten==dg) then _ else _)=_
    by_cases cd:Z1i (Zte (Zxb m) (Zd m st w)).flatten=dg
    ·rw [Xc cd,show (Z1i (Zte (Zxb m) (Zd m st w)).flatten==dg)=true by simpa using cd,Yq,Xf]
     refine Za (e3 cc) (Za (Zgcb _ (by omega) k (by omega)) ?_);show (bif decide (st<Z7b (Zh (Zd m st w))) then _ else _)=_
     by_cases cs:st<Z7b (Zh (Zd m st w))
     ·rw [Xc cs,Xa cs]
      rfl
     ·rw [Xd cs,Xb cs,Xf]
      have hkl:=Z7l m.2 (Zee (3,tr,nd,st,dn,(v:Int),(w:Int),dg));exact Za e4 (Za (Z5 (by unfold Zne;simp;omega)) rfl)
    ·rw [Xd cd,show (Z1i (Zte (Zxb m) (Zd m st w)).flatten==dg)=false by simpa using cd]
     rfl
   ·rw [Xd cc,show (Zfb (Zd m st w) m.1 != 0)=true by simpa using cc]
    rfl
  ·rw [Xd cn,show (((Zd m st w).length:Int) != nd)=true by simpa using cn]
   rfl
 ·rw [Xd c2,show (ph != 2)=true by simpa using c2]
  rfl
theorem Zwpb (h:MSt m ph tr nd st dn dg v w):Zc fun k=>Zyr k m (ph,(tr,(nd,(st,(dn,(dg,(Zb v,Zb w)))))))=some (Zts m ph tr nd st dn dg v w):=by
 have hf:=h.fit
 have hb:=hf.b
 have hn:=hf.n
 have hdr:=hf.dirt
 have hfl:=(Zsp hf.f).1
 have hk0:=h.keep
 have hll:=h.log
 have hplan:Zc fun k=>Zfb (Zd m st w) m.1=0→Z1j k (Zd m st w) m.1=some (Zh (Zd m st w),0)∧Z3o k (Zte (Zxb m) (Zd m st w))=some (Z1i (Zte (Zxb m) (Zd m st w)).flatten):=if hc:Zfb (Zd m st w) m.1=0 then ((Zrfb (Zd m st w) m.1 hc).and (Ztpb (Zc9 hc h.base h.img))).mono fun k e _=>e else Zc.of fun k q=>absurd q hc
 refine ((((((Zrk (m:=m) hf.f h.two (Zhn h.hv)).and (Zvfb (l:=Zd m st w) h.img (by omega))).and hplan).and (Zrk (m:=m) hf.f h.two (a:=3) { hk0 with a:=by omega })).and (Zgr ph tr nd st dn dg (Zb v) hf)).and (Zc.ge 1048577 fun k hk=>hk)).mono fun k ⟨⟨⟨⟨⟨e1,e2⟩,e3⟩,e4⟩,e5⟩,hk⟩=>?_
 unfold Zyr Zts
 show (bif ph != 2 then _ else _)=_
 by_cases c2:ph=2
 ·rw [Xc c2,show (ph != 2)=false by simpa using c2,Xf]
  refine Za e5 (Za (Zn7 (m:=m) ⟨by omega,hb.2⟩ (by omega) (by omega) hk) (Za e2 (Za (Z01 v _ _ _ _ _ _ _) (Za e1 ?_))));show (bif ((Zd m st w).length:Int) != nd then _ else _)=_
  by_cases cn:((Zd m st w).length:Int)=nd
  ·rw [Xc cn,show (((Zd m st w).length:Int) != nd)=false by simpa using cn,Xf,h.base]
   by_cases cc:Zfb (Zd m st w) m.1=0
   ·obtain ⟨e31,e32⟩:=e3 cc
    have hpl:=Zqx _ (Zfg cc).1 (Zij cc);rw [Xc cc,Xc cc];show (bif ((0:Int) != 0) then _ else _)=_;rw [show ((0:Int) != 0)=false from rfl,Xf];refine Za e32 ?_;show (bif !(Z1i (Zte (Zxb m) (Zd m st w)).flatten==dg) then _ else _)=_
    by_cases cd:Z1i (Zte (Zxb m) (Zd m st w)).flatten=dg
    ·rw [Xc cd,show (Z1i (Zte (Zxb m) (Zd m st w)).flatten==dg)=true by simpa using cd,Yq,Xf]
     refine Za e31 (Za (Zufb (Zh (Zd m st w)) (by omega) k (by omega)) ?_);show (bif decide (st<Z7b (Zh (Zd m st w))) then _ else _)=_
     by_cases cs:st<Z7b (Zh (Zd m st w))
     ·rw [Xc cs,Xa cs]
      rfl
     ·rw [Xd cs,Xb cs,Xf]
      have hkl:=Z7l m.2 (Zee (3,tr,nd,st,dn,(v:Int),(w:Int),dg));exact Za (Zyo v w _ _ _ _ _ _) (Za e4 (Za (Z5 (by unfold Zne;simp;omega)) rfl))
    ·rw [Xd cd,show (Z1i (Zte (Zxb m) (Zd m st w)).flatten==dg)=false by simpa using cd]
     rfl
   ·rw [Xd cc,Xd cc]
    show (bif (Zfb (Zd m st w) m.1 != 0) then _ else _)=_;rw [show (Zfb (Zd m st w) m.1 != 0)=true by simpa using cc];rfl
  ·rw [Xd cn,show (((Zd m st w).length:Int) != nd)=true by simpa using cn]
   rfl
 ·rw [Xd c2,show (ph != 2)=true by simpa using c2]
  rfl
def Zbc (m:Zp) (st dn:Int) (w:Nat):Zvc:=(Zh (Zd m st w)).getD dn.toNat (0,(0,(0,0)))
def Zyh (m:Zp) (st dn:Int) (w:Nat):Int:=if (Zbc m st dn w).1=1 then 3+m.1+(Zb w).getD (Zbc m st dn w).2.2.2.toNat 0 else 3+(Zbc m st dn w).2.2.1
def Zqg (m:Zp) (st dn:Int) (w:Nat):Str:=if (Zbc m st dn w).1=1 then Zz m.2 (3+(Zbc m st dn w).2.2.1) else Zoh m w (Zh (Zd m st w)) dn.toNat (wAt (Zi (Zd m st w)) (Zbc m st dn w).2.1.toNat)
def Zys (m:Zp) (ph tr nd st dn:Int) (dg:Str) (v w:Nat):Zsm:=if ph=5 then (if dn=((Zh (Zd m st w)).length:Int) then (Z8m m v,([],([0],0))) else ([(false,(2,if (Zqg m st dn w).length=8 then Zlk dn (Zyh m st dn w) (Zqg m st dn w) else [])),Zmi,(false,(Zyh m st dn w,Zqg m st dn w)),Zmi]++Zne m.2 ph tr nd st (dn+1) dg v w,([],([((Zh (Zd m st w)).length:Int)-(dn+1)],0)))) else Zxf 10
theorem Z2u (hS:Sound m st dn w) (hlt:dn<((Zh (Zd m st w)).length:Int)):at? (Zh (Zd m st w)) dn=some (Zbc m st dn w)∧(0≤(Zbc m st dn w).2.2.1∧(Zbc m st dn w).2.2.1<m.1) ∧
  ((Zbc m st dn w).1=1∧(at? (Zb w) (Zbc m st dn w).2.2.2=some ((Zb w).getD (Zbc m st dn w).2.2.2.toNat 0)∧0≤(Zb w).getD (Zbc m st dn w).2.2.2.toNat 0∧(Zb w).getD (Zbc m st dn w).2.2.2.toNat 0≤23) ∨
   (Zbc m st dn w).1=2∧at? (Zi (Zd m st w)) (Zbc m st dn w).2.1=some (wAt (Zi (Zd m st w)) (Zbc m st dn w).2.1.toNat)∧WriteOk (wAt (Zi (Zd m st w)) (Zbc m st dn w).2.1.toNat) m.1):=by
 have hdn:=hS.dn
 have hs:=hS.fit.s
 have hsl:=hS.slots
 obtain ⟨d,rfl⟩:∃d:Nat,dn=(d:Int):=⟨dn.toNat,by omega⟩
 have hd:d<(Zh (Zd m st w)).length:=by omega
 have hg:Zbc m st (d:Int) w=(Zh (Zd m st w))[d]:=by
  unfold Zbc;rw [Ym];exact Z3z hd
 have hm:(Zh (Zd m st w))[d]? = some (Zh (Zd m st w))[d]:=Yh hd
 obtain ⟨j,hj,q⟩:=(Z70 hS.code).form d _ hm
 have hx:=Zuv hS.code _ (Yd hj)
 have hto:=hx.tgt
 refine ⟨by rw [hg];exact Zg hd,?_,?_⟩
 ·rw [hg]
  rcases q with q | q <;> rw [q] <;> (show 0≤(wAt _ j).2.1∧(wAt _ j).2.1<m.1) <;> rw [Zwg hj] <;> exact hto
 ·rw [hg]
  rcases q with q | q
  ·right
   rw [q];refine ⟨rfl,?_,?_⟩
   ·show at? (Zi (Zd m st w)) ((j:Nat):Int)=some (wAt (Zi (Zd m st w)) (((j:Nat):Int)).toNat)
    rw [Ym,Zwg hj];exact Zg hj
   ·show WriteOk (wAt (Zi (Zd m st w)) (((j:Nat):Int)).toNat) m.1
    rw [Ym,Zwg hj];exact hx
  ·left
   have h1:(Zh (Zd m st w))[d].1=1:=by rw [q]
   have h2:(Zh (Zd m st w))[d].2.2.2=Z7b ((Zh (Zd m st w)).take d):=by rw [q]
   have h3:=Zcgb hm h1;have h4:=Ze2 ((Zh (Zd m st w)).take d);refine ⟨h1,?_⟩;rw [h2];exact Z7t h4.1 (by omega)
theorem Zy4 (hS:Sound m st dn w) (hlt:dn<((Zh (Zd m st w)).length:Int)):0≤Zyh m st dn w∧Zyh m st dn w≤39:=by
 have hb:=hS.fit.b
 obtain ⟨_,h2,h3⟩:=Z2u hS hlt
 unfold Zyh
 rcases h3 with ⟨q,_,q1,q2⟩ | ⟨q,_⟩
 ·rw [Xc q];omega
 ·rw [Xd (by omega)];omega
theorem Zqnb (m:Zp) (x:Zk) (hx:WriteOk x m.1) (hf:Zhg m.2=true) (mv:List Zvc) (d:Nat) (hp:x.2.2.2.length≤8):(Zoh m w mv d x).length≤96:=by
 unfold Zoh Zph
 split
 ·exact (by decide:Zt8.length≤96)
 ·split
  ·omega
  ·split
   ·unfold Ztp
    split
    ·split
     ·exact Z4m hf _
     ·exact Z4m hf _
    ·simp
   ·unfold Z3t
    split
    ·rw [Zghb];omega
    ·simp
theorem Zcjb {l:List Zk} {n:Int} (h:Zfb l n=0):∀x∈Zi l,x.2.2.2.length≤8:=by
 intro x hx
 unfold Zi at hx
 have hs:=(Zfg h).2.2.2.1 x (Y1.1 hx).1
 exact Zhy hs
theorem Zz4 (hS:Sound m st dn w) (hlt:dn<((Zh (Zd m st w)).length:Int)):(Zqg m st dn w).length≤96:=by
 obtain ⟨_,h2,h3⟩:=Z2u hS hlt
 unfold Zqg
 rcases h3 with ⟨q,_⟩ | ⟨q,q1,q2⟩
 ·rw [Xc q]
  exact Z4m hS.fit.f _
 ·rw [Xd (by omega)]
  refine Zqnb m _ q2 hS.fit.f _ _ (Zcjb hS.code _ ?_);have:=(Z2u hS hlt).2.1
  by_cases hi:(Zbc m st dn w).2.1.toNat<(Zi (Zd m st w)).length
  ·rw [Zwg hi]
   exact Yd hi
  ·exfalso
   have hn:at? (Zi (Zd m st w)) (Zbc m st dn w).2.1=none:=by
    unfold at?;split
    ·exact List.getElem?_eq_none (by omega)
    ·rfl
   rw [hn] at q1;cases q1
theorem Ztlb (h:MSt m ph tr nd st dn dg v w):Zc fun k=>Zxc k m (ph,(tr,(nd,(st,(dn,(dg,(Zb v,Zb w))))))) (Zd m st w)=some (Zys m ph tr nd st dn dg v w):=by
 have hf:=h.fit
 have hb:=hf.b
 have hn:=hf.n
 have hdr:=hf.dirt
 have hk0:=h.keep
 have hll:=h.log
 unfold Zys
 by_cases c5:ph=5
 ·have hS:=h.snd (by omega)
  have hdn:=hS.dn;have hpl:=hS.plan;have hz:Z5l (Zh (Zd m st w))=some ((Zh (Zd m st w)).length:Int):=rfl;rw [Xc c5]
  by_cases ce:dn=((Zh (Zd m st w)).length:Int)
  ·rw [Xc ce]
   refine ((Zfk (m:=m) hf.f h.two (Zhn h.hv)).and (Zqu _ (Zfg hS.code).1 (Zij hS.code))).mono fun k ⟨e1,e2⟩=>?_
   unfold Zxc;show (bif ph != 5 then _ else _)=_;rw [show (ph != 5)=false by simpa using c5,Xf];refine Za e2 (Za hz ?_);show (bif (Yc .i64 (((Zh (Zd m st w)).length:Int)-dn))==0 then _ else _)=_;rw [w64 (n:=((Zh (Zd m st w)).length:Int)-dn) (by omega) (by omega),show (((Zh (Zd m st w)).length:Int)-dn==0)=true by rw [ce];simp,Xe];exact Za (Z9z v _ _ _ _ _ _ _) (Za e1 rfl)
  ·have hlt:dn<((Zh (Zd m st w)).length:Int):=by omega
   obtain ⟨m1,m2,m3⟩:=Z2u hS hlt;have hat:=Zy4 hS hlt;have hdl:=Zz4 hS hlt;rw [Xd ce];refine ((((Zfk (m:=m) hf.f h.two (a:=ph) (e:=dn+1) { hk0 with e:=by omega }).and (Zqu _ (Zfg hS.code).1 (Zij hS.code))).and (Z2lb dn (Zyh m st dn w) (Zqg m st dn w) (by constructor <;> omega) (by constructor <;> omega) (by omega))).and (Zc.ge 1048577 fun k hk=>hk)).mono fun k ⟨⟨⟨e1,e2⟩,e3⟩,hk⟩=>?_
   have hj0:Zxc.j0 k (Zd m st w) (3+(Zbc m st dn w).2.2.1) m.1 m.2.1 m.2.2 ph tr nd st dn dg (Zb v) (Zb w) (Zbc m st dn w).1 (Zbc m st dn w).2.1 (Zbc m st dn w).2.2.1 (Zbc m st dn w).2.2.2 (Zh (Zd m st w))=some (Zyh m st dn w,(Zqg m st dn w,(m.1,(m.2.1,(m.2.2,(ph,(tr,(nd,(st,(dn,(dg,(Zb v,(Zb w,(Zbc m st dn w)))))))))))))):=by
    unfold Zxc.j0 Zyh Zqg;dsimp only;rcases m3 with ⟨q,q1,q2,q3⟩ | ⟨q,q1,q2⟩
    ·rw [Xc q,Xc q,show ((Zbc m st dn w).1==1)=true by simpa using q,Xe]
     exact Za q1 (Za (Z5z hf q2 q3) (Za (Zwp m.2 _ hdr (by omega) (by omega) (by omega)) rfl))
    ·rw [Xd (by omega),Xd (by omega),show ((Zbc m st dn w).1==1)=false by rw [q];rfl,Xf]
     exact Za (Zf0 _ (by omega) k (by omega)) (Za q1 (Za (Zdcb hS ph tr nd dg (Zb v) q2 hk) rfl))
   have hj1:Zxc.j1 k (Zyh m st dn w) (Zqg m st dn w) [] ph tr nd st dn dg (Zb v) (Zb w)=some (if (Zqg m st dn w).length=8 then Zlk dn (Zyh m st dn w) (Zqg m st dn w) else [],(ph,(tr,(nd,(st,(dn,(dg,(Zb v,Zb w)))))))):=by
    unfold Zxc.j1
    by_cases c8:(Zqg m st dn w).length=8
    ·rw [Xc c8,show (((Zqg m st dn w).length:Int)==8)=true by rw [c8];rfl,Xe]
     exact Za e3 rfl
    ·rw [Xd c8,show (((Zqg m st dn w).length:Int)==8)=false by simp;omega]
     rfl
   unfold Zxc;show (bif ph != 5 then _ else _)=_;rw [show (ph != 5)=false by simpa using c5,Xf];refine Za e2 (Za hz ?_);show (bif (Yc .i64 (((Zh (Zd m st w)).length:Int)-dn))==0 then _ else _)=_;rw [w64 (n:=((Zh (Zd m st w)).length:Int)-dn) (by omega) (by omega),show (((Zh (Zd m st w)).length:Int)-dn==0)=false by simp;omega,Xf];refine Za m1 (Za m1 ?_);rw [w64 (n:=3+(Zbc m st dn w).2.2.1) (by omega) (by omega)];refine Za hj0 (Za hj1 ?_);show Yf (Zke k m (ph,(tr,(nd,(st,(Yc .i64 (dn+1),(dg,(Zb v,Zb w)))))))) _=_;rw [w64 (n:=dn+1) (by omega) (by omega)];have hkl:=Z7l m.2 (Zee (ph,tr,nd,st,dn+1,(v:Int),(w:Int),dg));refine Za e1 (Za (Z5 (by unfold Zne;simp;omega)) ?_);rw [w64 (n:=((Zh (Zd m st w)).length:Int)-dn-1) (by omega) (by omega),show ((Zh (Zd m st w)).length:Int)-dn-1=((Zh (Zd m st w)).length:Int)-(dn+1) by omega];rfl
 ·rw [Xd c5]
  refine Zc.of fun k=>?_
  unfold Zxc;show (bif ph != 5 then _ else _)=_;rw [show (ph != 5)=true by simpa using c5];rfl
theorem Zypb (h:MSt m ph tr nd st dn dg v w):Zc fun k=>Zng k m (ph,(tr,(nd,(st,(dn,(dg,(Zb v,Zb w)))))))=some (Zys m ph tr nd st dn dg v w):=by
 have hf:=h.fit
 have hb:=hf.b
 have hn:=hf.n
 have hdr:=hf.dirt
 have hk0:=h.keep
 have hll:=h.log
 unfold Zys
 by_cases c5:ph=5
 ·have hS:=h.snd (by omega)
  have hdn:=hS.dn;have hpl:=hS.plan;rw [Xc c5]
  by_cases ce:dn=((Zh (Zd m st w)).length:Int)
  ·rw [Xc ce]
   refine ((Zrk (m:=m) hf.f h.two (Zhn h.hv)).and (Z31 h (by omega))).mono fun k ⟨e1,e2⟩=>?_
   unfold Zng;show (bif ph != 5 then _ else _)=_;rw [show (ph != 5)=false by simpa using c5,Xf];refine Za e2 ?_;show (bif decide (((Zh (Zd m st w)).length:Int)≤dn) then _ else _)=_;rw [Xa (by omega:((Zh (Zd m st w)).length:Int)≤dn),Xe];exact Za (Z01 v _ _ _ _ _ _ _) (Za e1 rfl)
  ·have hlt:dn<((Zh (Zd m st w)).length:Int):=by omega
   obtain ⟨m1,m2,m3⟩:=Z2u hS hlt;have hat:=Zy4 hS hlt;have hdl:=Zz4 hS hlt;rw [Xd ce];refine (((((Zrk (m:=m) hf.f h.two (a:=ph) (e:=dn+1) { hk0 with e:=by omega }).and (Z31 h (by omega))).and (Zofb dn (Zyh m st dn w) (Zqg m st dn w) (by constructor <;> omega) (by constructor <;> omega) (by omega))).and (Zgr ph tr nd st dn dg (Zb v) hf)).and (Zc.ge 1048577 fun k hk=>hk)).mono fun k ⟨⟨⟨⟨e1,e2⟩,e3⟩,e4⟩,hk⟩=>?_
   have hj0:Zng.j0 k m.1 m.2.1 m.2.2 ph tr nd st dn dg (Zb v) (Zb w) (3+(Zbc m st dn w).2.2.1) (Zz m.2 (3+(Zbc m st dn w).2.2.1)) (Zbc m st dn w).1 (Zbc m st dn w).2.1 (Zbc m st dn w).2.2.1 (Zbc m st dn w).2.2.2 (Zh (Zd m st w))=some (Zyh m st dn w,(Zqg m st dn w,Zbc m st dn w)):=by
    unfold Zng.j0 Zyh Zqg;dsimp only;rcases m3 with ⟨q,q1,q2,q3⟩ | ⟨q,q1,q2⟩
    ·rw [Xc q,Xc q,show ((Zbc m st dn w).1==1)=true by simpa using q,Xe]
     exact Za q1 (Za (Z8x hf q2 q3) rfl)
    ·rw [Xd (by omega),Xd (by omega),show ((Zbc m st dn w).1==1)=false by rw [q];rfl,Xf]
     exact Za e4 (Za (Zw7 _ (by omega) k (by omega)) (Za q1 (Za q1 (Za (Zlfb hS ph tr nd dg (Zb v) q2 hk) rfl))))
   have hB:(if Zln dn (Zyh m st dn w) (Zqg m st dn w)=true then Zlk dn (Zyh m st dn w) (Zqg m st dn w) else [])=if (Zqg m st dn w).length=8 then Zlk dn (Zyh m st dn w) (Zqg m st dn w) else []:=by
    by_cases c8:(Zqg m st dn w).length=8
    ·rw [Xc c8,Xc (Zmx.2 ⟨⟨by omega,by omega⟩,hat,c8⟩)]
    ·rw [Xd c8,Xd (fun q=>c8 (Zmx.1 q).2.2)]
   rw [hB] at e3;unfold Zng;show (bif ph != 5 then _ else _)=_;rw [show (ph != 5)=false by simpa using c5,Xf];refine Za e2 ?_;show (bif decide (((Zh (Zd m st w)).length:Int)≤dn) then _ else _)=_;rw [Xb (by omega:¬((Zh (Zd m st w)).length:Int)≤dn),Xf];refine Za m1 (Za m1 ?_);dsimp only;rw [w64 (n:=3+(Zbc m st dn w).2.2.1) (by omega) (by omega)];refine Za (Zzo m.2 _ hdr (by omega) (by omega) (by omega)) (Za hj0 (Za (Zyo v w _ _ _ _ _ _) (Za e3 ?_)));rw [w64 (n:=dn+1) (by omega) (by omega)];have hkl:=Z7l m.2 (Zee (ph,tr,nd,st,dn+1,(v:Int),(w:Int),dg));refine Za e1 (Za (Z5 (by unfold Zne;simp;omega)) ?_);rw [w64 (n:=((Zh (Zd m st w)).length:Int)-(dn+1)) (by omega) (by omega)];rfl
 ·rw [Xd c5]
  refine Zc.of fun k=>?_
  unfold Zng;show (bif ph != 5 then _ else _)=_;rw [show (ph != 5)=true by simpa using c5];rfl
end
def Z1s (m:Zp) (ph tr nd st dn:Int) (dg:Str) (v w:Nat) (a:Int):Zsm:=match Zqh (Zyb v w) a with
 | some l=>Zej (Zne m.2 ph tr nd st dn dg (v ||| Z0g l) w)
 | none=>Zxf 11
def Z77 (m:Zp) (ph tr nd st dn:Int) (v w:Nat):List Int:=[ph,tr,((Zd m st w).length:Int),Znh (Zd m st w),(if ph=5 then ((Zh (Zd m st w)).length:Int)-dn else 0),((Zb (Zyb v w)).length:Int)]
def Zcp (m:Zp) (c:Zdf) (ph tr nd st dn:Int) (dg:Str) (v w:Nat):Zsm:=if c.1=1 then Zds m ph v c.2.1 c.2.2.1 c.2.2.2.1 else if c.1=2 then Zvt m ph nd st w c.2.2.2.2 else if c.1=3 then Zts m ph tr nd st dn dg v w else if c.1=4 then (if ph=1∨ph=5 then Zxf 10 else Zej (Z8m m v)) else if c.1=5 then (if ph=4 then Zej ([(false,(2,[])),Zmi]++Zne m.2 5 0 nd st dn dg v w) else Zxf 10) else if c.1=6 then Zys m ph tr nd st dn dg v w else if c.1=7 then (if m.1≤c.2.1 then Zxf 8 else ([],((Zqm m ph st dn w).getD c.2.1.toNat [],([],0)))) else if c.1=8 then ([],([],(Z77 m ph tr nd st dn v w,0))) else if c.1=9 then Z1s m ph tr nd st dn dg v w c.2.1 else if c.1=10 then Zej (Zne m.2 ph tr nd st dn dg 0 w) else Zej (Z2k m ph tr nd st dn dg v w)
structure CmdOk (c:Zdf):Prop where
 r:1≤c.1∧c.1≤11
 k1:c.1=1→(1≤c.2.1∧c.2.1≤20)∧(0≤c.2.2.1∧c.2.2.1≤4)∧c.2.2.2.1.length≤32
 k2:c.1=2→Zjd c.2.2.2.2.1 c.2.2.2.2.2.1 c.2.2.2.2.2.2.1 c.2.2.2.2.2.2.2 8=true
 k7:c.1=7→0≤c.2.1
 k9:c.1=9→1≤c.2.1∧c.2.1≤24
theorem Z23 {c:Zdf} (h:Zwh c=true):CmdOk c:=by
 unfold Zwh at h
 split at h
 ·rename_i q
  simp only [Ya,decide_eq_true_eq] at h;exact ⟨by omega,fun _=>⟨by omega,by omega,by omega⟩,by omega,by omega,by omega⟩
 ·split at h
  ·rename_i q
   simp only [Ya,decide_eq_true_eq] at h;exact ⟨by omega,by omega,fun _=>h.2,by omega,by omega⟩
  ·split at h
   ·rename_i q
    simp only [Ya,decide_eq_true_eq] at h;exact ⟨by omega,by omega,by omega,by omega,fun _=>by omega⟩
   ·split at h
    ·rename_i q
     simp only [Ya,decide_eq_true_eq] at h;exact ⟨by omega,by omega,by omega,fun _=>by omega,by omega⟩
    ·simp only [Ya,decide_eq_true_eq] at h
     exact ⟨by omega,by omega,by omega,by omega,by omega⟩
section
variable {m:Zp} {ph tr nd st dn:Int} {dg:Str} {v w:Nat}
theorem Z84 (h:MSt m ph tr nd st dn dg v w) {n:Int} (h1:1≤n) {l:List Int} (hr:Zqh (Zyb v w) n=some l):Z0g l<16777216∧l=Zb (Z0g l)∧v &&& Z0g l=0∧(v ||| Z0g l)<16777216:=by
 obtain ⟨⟨u,u1,u2,u3⟩,_⟩:=Zseb (Zyw h.hv h.hw) h1 hr
 have e:Z0g l=u:=by rw [u2];exact Zt9 u1
 rw [e]
 refine ⟨u1,u2,Z3hb (fun i hi q=>?_) h.hv,?_⟩
 ·have:=u3 i q.2
  rw [Z04 hi,q.1] at this;cases this
 ·have:v ||| u<2^24:=Y4 (by simpa using h.hv) (by simpa using u1)
  simpa using this
theorem Zalb (hs:stM m=some (ph,(tr,(nd,(st,(dn,(dg,(v,w)))))))) (h:MSt m ph tr nd st dn dg v w) {c:Zdf} (hc:CmdOk c):Zc fun k=>Znc k m c=some (if (Zlb m.2).1=1000000 then Zxf 9 else Zcp m c ph tr nd st dn dg v w):=by
 have hf:=h.fit
 have hb:=hf.b
 have hn:=hf.n
 have hdr:=hf.dirt
 have hl:m.2.1.length≤1048576:=by omega
 have hk0:=h.keep
 have hll:=h.log
 have hlv:=Z9c v
 have hlw:=Z9c w
 have pre0:Zc fun k=>Zsg k m=some (Zet (some (ph,tr,nd,st,dn,dg,v,w))):=by rw [← hs];exact Zru m hl (by omega)
 have pre:=(pre0.and (Zf5 hf.f h.two)).and (Z2w ph tr nd st dn dg (Zb v) hf)
 by_cases cg:(Zlb m.2).1=1000000
 ·rw [Xc cg]
  refine pre.mono fun k ⟨⟨p1,p2⟩,p3⟩=>?_
  unfold Znc;refine Za p1 (Za p2 ?_);rw [show ((Zlb m.2).1==1000000)=true by simpa using cg];rfl
 ·rw [Xd cg]
  have hg:((Zlb m.2).1==1000000)=false:=by simpa using cg
  obtain ⟨o,a,b,t,s⟩:=c;have hr:=hc.r;dsimp only at hr;have ho:o=1∨o=2∨o=3∨o=4∨o=5∨o=6∨o=7∨o=8∨o=9∨o=10∨o=11:=by omega
  rcases ho with rfl | rfl | rfl | rfl | rfl | rfl | rfl | rfl | rfl | rfl | rfl
  ·obtain ⟨q1,q2,q3⟩:=hc.k1 rfl
   refine (pre.and (Zdlb h (1,(a,(b,(t,s)))) q1 q2 q3)).mono fun k ⟨⟨⟨p1,p2⟩,p3⟩,e⟩=>?_
   unfold Znc;refine Za p1 (Za p2 ?_);rw [hg,Xf];exact Za p3 (Za e rfl)
  ·refine (pre.and (Znmb h s (hc.k2 rfl))).mono fun k ⟨⟨⟨p1,p2⟩,p3⟩,e⟩=>?_
   unfold Znc;refine Za p1 (Za p2 ?_);rw [hg,Xf];exact Za p3 (Za e rfl)
  ·refine (pre.and (Zslb h)).mono fun k ⟨⟨⟨p1,p2⟩,p3⟩,e⟩=>?_
   unfold Znc;refine Za p1 (Za p2 ?_);rw [hg,Xf];exact Za p3 (Za e rfl)
  ·refine (pre.and (Zfk (m:=m) hf.f h.two (Zhn h.hv))).mono fun k ⟨⟨⟨p1,p2⟩,p3⟩,e⟩=>?_
   unfold Znc;refine Za p1 (Za p2 ?_);rw [hg,Xf];refine Za p3 ?_;show (bif (ph==1)||(ph==5) then _ else _)=some (if ph=1∨ph=5 then Zxf 10 else Zej (Z8m m v))
   by_cases q:ph=1∨ph=5
   ·rw [Xc q,show ((ph==1)||(ph==5))=true by rcases q with q | q <;> rw [q] <;> rfl]
    rfl
   ·rw [Xd q,show ((ph==1)||(ph==5))=false by
     rw [Yla];exact ⟨by simp;omega,by simp;omega⟩,Xf]
    exact Za (Z9z v _ _ _ _ _ _ _) (Za e rfl)
  ·refine (pre.and (Zfk (m:=m) hf.f h.two (a:=5) (b:=0) { hk0 with a:=by omega,b:=by omega })).mono fun k ⟨⟨⟨p1,p2⟩,p3⟩,e⟩=>?_
   unfold Znc;refine Za p1 (Za p2 ?_);rw [hg,Xf];refine Za p3 ?_;show (bif ph != 4 then _ else _)=some (if ph=4 then Zej ([(false,(2,[])),Zmi]++Zne m.2 5 0 nd st dn dg v w) else Zxf 10)
   by_cases q:ph=4
   ·rw [Xc q,show (ph != 4)=false by simpa using q,Xf]
    have hkl:=Z7l m.2 (Zee (5,0,nd,st,dn,(v:Int),(w:Int),dg));exact Za e (Za (Z5 (by unfold Zne;simp;omega)) rfl)
   ·rw [Xd q,show (ph != 4)=true by simpa using q]
    rfl
  ·refine (pre.and (Ztlb h)).mono fun k ⟨⟨⟨p1,p2⟩,p3⟩,e⟩=>?_
   unfold Znc;refine Za p1 (Za p2 ?_);rw [hg,Xf];exact Za p3 (Za e rfl)
  ·refine (pre.and (Zumb hs h)).mono fun k ⟨⟨⟨p1,p2⟩,p3⟩,e⟩=>?_
   have h7:=hc.k7 rfl;dsimp only at h7;have hvl:=Zahb h;unfold Znc;refine Za p1 (Za p2 ?_);rw [hg,Xf];refine Za p3 ?_;show (bif decide (m.1≤a) then _ else _)=some (if m.1≤a then Zxf 8 else ([],((Zqm m ph st dn w).getD a.toNat [],([],0))))
   by_cases q:m.1≤a
   ·rw [Xc q,Xa q]
    rfl
   ·rw [Xd q,Xb q,Xf]
    have hat:=Zep (l:=Zqm m ph st dn w) (n:=a) h7 (by omega);exact Za e (Za hat (Za hat rfl))
  ·have hmv:Zc fun k=>ph=5→Zho k m (ph,(tr,(nd,(st,(dn,(dg,(Zb v,Zb w)))))))=some (Zh (Zd m st w)):=if h5:ph=5 then (Z0lb h (by omega)).mono fun k e _=>e else Zc.of fun k q=>absurd q h5
   refine ((pre.and hmv).and (Zc.ge 100 fun k hk=>hk)).mono fun k ⟨⟨⟨⟨p1,p2⟩,p3⟩,e⟩,hk⟩=>?_
   have hcount:=Z9ib h.apart
   have hj:Znc.j0 k m.1 m.2.1 m.2.2 0 ph tr nd st dn dg (Zb v) (Zb w)=some ((if ph=5 then ((Zh (Zd m st w)).length:Int)-dn else 0),(ph,(tr,(nd,(st,(dn,(dg,(Zb v,Zb w)))))))):=by
    unfold Znc.j0
    by_cases h5:ph=5
    ·have hS:=h.snd (by omega)
     have hpl:=hS.plan;have hdn:=hS.dn;rw [Xc h5,show (ph==5)=true by simpa using h5,Xe];refine Za (e h5) (Za (a:=((Zh (Zd m st w)).length:Int)) rfl ?_);rw [w64 (n:=((Zh (Zd m st w)).length:Int)-dn) (by omega) (by omega)]
    ·rw [Xd h5,show (ph==5)=false by simpa using h5]
     rfl
   unfold Znc;refine Za p1 (Za p2 ?_);rw [hg,Xf];refine Za p3 (Za hj (Za (a:=((Zd m st w).length:Int)) rfl (Za (Zccb _ hll.2.1 (by omega)) (Za (a:=((Zb v).length:Int)) rfl (Za (a:=((Zb w).length:Int)) rfl ?_)))));rw [w64 (n:=24-((Zb v).length:Int)) (by omega) (by omega),w64 (n:=24-((Zb v).length:Int)-((Zb w).length:Int)) (by omega) (by omega),show 24-((Zb v).length:Int)-((Zb w).length:Int)=((Zb (Zyb v w)).length:Int) by omega];rfl
  ·obtain ⟨q1,q2⟩:=hc.k9 rfl
   dsimp only at q1 q2;obtain ⟨n,rfl⟩:∃n:Nat,a=(n:Int):=⟨a.toNat,by omega⟩
   have hres:∀k,200≤k→Z2b k (Zb v) (Zb w) (n:Int)=some (match Zqh (Zyb v w) (n:Int) with
    | some l=>(l,true)
    | none=>([],false)):=fun k hk=>Zfcb v w n h.hv h.hw (by omega) hk
   have goalE:Zcp m (9,((n:Int),(b,(t,s)))) ph tr nd st dn dg v w=Z1s m ph tr nd st dn dg v w (n:Int):=rfl;rw [goalE];unfold Z1s;cases hq:Zqh (Zyb v w) (n:Int) with
   | none=>
    refine (pre.and (Zc.ge 200 fun k hk=>hk)).mono fun k ⟨⟨⟨p1,p2⟩,p3⟩,hk⟩=>?_
    have hr2:=hres k hk;rw [hq] at hr2;unfold Znc;refine Za p1 (Za p2 ?_);rw [hg,Xf];exact Za p3 (Za hr2 rfl)
   | some l=>
    obtain ⟨u1,u2,u3,u4⟩:=Z84 h (by omega) hq;refine ((pre.and (Zfk (m:=m) hf.f h.two (v:=v ||| Z0g l) { hk0 with v:=u4 })).and (Zc.ge 200 fun k hk=>hk)).mono fun k ⟨⟨⟨⟨p1,p2⟩,p3⟩,e⟩,hk⟩=>?_
    have hr2:=hres k hk;rw [hq] at hr2;unfold Znc;refine Za p1 (Za p2 ?_);rw [hg,Xf];refine Za p3 (Za hr2 ?_);show Yf (Zoc k (Zb v)) _=_
    have hbl:Zoc k l=some ((Z0g l:Nat):Int):=by
     have:=Zup (Z0g l) u1 k (by omega);rw [← u2] at this;exact this
    refine Za (Zup v h.hv k (by omega)) (Za hbl ?_);have hv2:=h.hv;rw [ori v (Z0g l) (by omega) (by omega)];exact Za (Z7z _ u4 k (by omega)) (Za e rfl)
  ·refine (pre.and (Zfk (m:=m) hf.f h.two (v:=0) { hk0 with v:=by omega })).mono fun k ⟨⟨⟨p1,p2⟩,p3⟩,e⟩=>?_
   rw [Zfs] at e;unfold Znc;refine Za p1 (Za p2 ?_);rw [hg,Xf];exact Za p3 (Za e rfl)
  ·refine (pre.and (Zb5 h.toMS0)).mono fun k ⟨⟨⟨p1,p2⟩,p3⟩,e⟩=>?_
   unfold Znc;refine Za p1 (Za p2 ?_);rw [hg,Xf];exact Za p3 (Za e rfl)
theorem Zgpb (h:MSt m ph tr nd st dn dg v w) {c:Zdf} (hc:CmdOk c):Zc fun k=>Zsh k m (ph,(tr,(nd,(st,(dn,(dg,(Zb v,Zb w))))))) c=some (Zcp m c ph tr nd st dn dg v w):=by
 have hf:=h.fit
 have hb:=hf.b
 have hn:=hf.n
 have hdr:=hf.dirt
 have hk0:=h.keep
 have hll:=h.log
 have hlv:=Z9c v
 have hlw:=Z9c w
 have hcp:=Zyo v w ph tr nd st dn dg
 obtain ⟨o,a,b,t,s⟩:=c
 have hr:=hc.r
 dsimp only at hr
 have ho:o=1∨o=2∨o=3∨o=4∨o=5∨o=6∨o=7∨o=8∨o=9∨o=10∨o=11:=by omega
 rcases ho with rfl | rfl | rfl | rfl | rfl | rfl | rfl | rfl | rfl | rfl | rfl
 ·obtain ⟨q1,q2,q3⟩:=hc.k1 rfl
  refine (Zkpb h (1,(a,(b,(t,s)))) q1 q2 q3).mono fun k e=>?_
  unfold Zsh;exact Za hcp (Za e rfl)
 ·refine (Znqb h (2,(a,(b,(t,s)))) (hc.k2 rfl)).mono fun k e=>?_
  unfold Zsh;exact Za hcp (Za e rfl)
 ·refine (Zwpb h).mono fun k e=>?_
  unfold Zsh;exact Za hcp (Za e rfl)
 ·refine (Zrk (m:=m) hf.f h.two (Zhn h.hv)).mono fun k e=>?_
  unfold Zsh;refine Za hcp ?_;show (bif (ph==1)||(ph==5) then _ else _)=some (if ph=1∨ph=5 then Zxf 10 else Zej (Z8m m v))
  by_cases q:ph=1∨ph=5
  ·rw [Xc q,show ((ph==1)||(ph==5))=true by rcases q with q | q <;> rw [q] <;> rfl]
   rfl
  ·rw [Xd q,show ((ph==1)||(ph==5))=false by
    rw [Yla];exact ⟨by simp;omega,by simp;omega⟩,Xf]
   exact Za (Z01 v _ _ _ _ _ _ _) (Za e rfl)
 ·refine (Zrk (m:=m) hf.f h.two (a:=5) (b:=0) { hk0 with a:=by omega,b:=by omega }).mono fun k e=>?_
  unfold Zsh;refine Za hcp ?_;show (bif ph != 4 then _ else _)=some (if ph=4 then Zej ([(false,(2,[])),Zmi]++Zne m.2 5 0 nd st dn dg v w) else Zxf 10)
  by_cases q:ph=4
  ·rw [Xc q,show (ph != 4)=false by simpa using q,Xf]
   have hkl:=Z7l m.2 (Zee (5,0,nd,st,dn,(v:Int),(w:Int),dg));exact Za e (Za (Z5 (by unfold Zne;simp;omega)) rfl)
  ·rw [Xd q,show (ph != 4)=true by simpa using q]
   rfl
 ·refine (Zypb h).mono fun k e=>?_
  unfold Zsh;exact Za hcp (Za e rfl)
 ·refine (Zsqb h).mono fun k e=>?_
  have h7:=hc.k7 rfl;dsimp only at h7;have hvl:=Zahb h;unfold Zsh;refine Za hcp ?_;show (bif decide (m.1≤a) then _ else _)=some (if m.1≤a then Zxf 8 else ([],((Zqm m ph st dn w).getD a.toNat [],([],0))))
  by_cases q:m.1≤a
  ·rw [Xc q,Xa q]
   rfl
  ·rw [Xd q,Xb q,Xf]
   have hat:=Zep (l:=Zqm m ph st dn w) (n:=a) h7 (by omega);exact Za e (Za hat (Za hat rfl))
 ·have hmv:Zc fun k=>ph=5→Z4j k m (ph,(tr,(nd,(st,(dn,(dg,(Zb v,Zb w)))))))=some (Zh (Zd m st w)):=if h5:ph=5 then (Z31 h (by omega)).mono fun k e _=>e else Zc.of fun k q=>absurd q h5
  refine (((Zgr ph tr nd st dn dg (Zb v) hf).and hmv).and (Zc.ge 200 fun k hk=>hk)).mono fun k ⟨⟨p3,e⟩,hk⟩=>?_
  have hj:Zgh.j0 k m.1 m.2.1 m.2.2 ph tr nd st dn dg (Zb v) (Zb w) 0=some (if ph=5 then ((Zh (Zd m st w)).length:Int)-dn else 0):=by
   unfold Zgh.j0
   by_cases h5:ph=5
   ·have hS:=h.snd (by omega)
    have hpl:=hS.plan;have hdn:=hS.dn;rw [Xc h5,show (ph==5)=true by simpa using h5,Xe];refine Za (e h5) ?_;rw [w64 (n:=((Zh (Zd m st w)).length:Int)-dn) (by omega) (by omega)]
   ·rw [Xd h5,show (ph==5)=false by simpa using h5]
    rfl
  unfold Zsh;refine Za hcp (Za (a:=([],([],(Z77 m ph tr nd st dn v w,0)))) ?_ rfl);unfold Zgh;exact Za p3 (Za hj (Za (Zjfb _ hll.2.1 (by omega)) (Za (Zhfb v w (by omega)) rfl)))
 ·obtain ⟨q1,q2⟩:=hc.k9 rfl
  dsimp only at q1 q2;obtain ⟨n,rfl⟩:∃n:Nat,a=(n:Int):=⟨a.toNat,by omega⟩;have hres:∀k,200≤k→Z5c k (Zb v) (Zb w) (n:Int)=some (Z30 (Zqh (Zyb v w) (n:Int)) 11):=fun k hk=>Ztfb v w n h.hv h.hw (by omega) hk
  have goalE:Zcp m (9,((n:Int),(b,(t,s)))) ph tr nd st dn dg v w=Z1s m ph tr nd st dn dg v w (n:Int):=rfl;rw [goalE];unfold Z1s;cases hq:Zqh (Zyb v w) (n:Int) with
  | none=>
   refine (Zc.ge 200 fun k hk=>hk).mono fun k hk=>?_
   have hr2:=hres k hk;rw [hq] at hr2;unfold Zsh;exact Za hcp (Za hr2 rfl)
  | some l=>
   obtain ⟨u1,u2,u3,u4⟩:=Z84 h (by omega) hq;refine ((Zrk (m:=m) hf.f h.two (v:=v ||| Z0g l) { hk0 with v:=u4 }).and (Zc.ge 200 fun k hk=>hk)).mono fun k ⟨e,hk⟩=>?_
   have hr2:=hres k hk;rw [hq] at hr2;unfold Zsh;refine Za hcp (Za hr2 ?_)
   have hbl:Zyd k l=some ((Z0g l:Nat):Int):=by
    have:=Zu1 (Z0g l) u1 k (by omega);rw [← u2] at this;exact this
   have hv2:=h.hv;refine Za (Zu1 v h.hv k (by omega)) (Za hbl ?_);rw [w64 (n:=((v:Nat):Int)+((Z0g l:Nat):Int)) (by omega) (by omega),show ((v:Nat):Int)+((Z0g l:Nat):Int)=((v ||| Z0g l:Nat):Int) by rw [← Zyhb h.hv u1 u3];omega];exact Za (Zifb _ u4 k (by omega)) (Za e rfl)
 ·refine (Zrk (m:=m) hf.f h.two (v:=0) { hk0 with v:=by omega }).mono fun k e=>?_
  rw [Zfs] at e;unfold Zsh;exact Za hcp (Za e rfl)
 ·refine (Zo7 h.toMS0).mono fun k e=>?_
  unfold Zsh;exact Za hcp (Za e rfl)
end
def Z0k (m:Zp) (c:Zdf):Zsm:=if Ztg m=true∧Zwh c=true then (if (Zlb m.2).1=1000000 then Zxf 9 else match stM m with
 | some (ph,tr,nd,st,dn,dg,v,w)=>Zcp m c ph tr nd st dn dg v w
 | none=>Zxf 1) else Zxf 1
theorem Z7x (m:Zp) (c:Zdf) (hl:m.2.1.length≤1048576) (hl2:m.2.2.length≤1048576):Zc fun k=>Zkl k m c=some (Z0k m c):=by
 unfold Z0k
 cases hm:Ztg m with
 | false=>
  rw [Xd (fun q=>by cases q.1)];refine (Zkt m hl hl2).mono fun k e=>?_
  rw [hm] at e;unfold Zkl Z6h;exact Za (Za e rfl) rfl
 | true=>
  cases hc:Zwh c with
  | false=>
   rw [Xd (fun q=>by cases q.2)];refine (Zkt m hl hl2).mono fun k e=>?_
   rw [hm] at e;have ec:=Zv1 c;rw [hc] at ec;unfold Zkl Z6h;exact Za (Za e (Za ec rfl)) rfl
  | true=>
   rw [Xc ⟨rfl,rfl⟩];have es:=Zv1 c;rw [hc] at es;have hok:=Z23 hc;cases hs:stM m with
   | none=>unfold Ztg at hm;rw [hs] at hm;cases hm
   | some z=>
    obtain ⟨ph,tr,nd,st,dn,dg,v,w⟩:=z;have h:=Zj6 hs hm;dsimp only;have hgen:=Zv0 m.2;have pre0:Zc fun k=>Zrh k m=some (Zet (some (ph,tr,nd,st,dn,dg,v,w))):=by rw [← hs];exact Zay m hl hl2
    refine ((((Zkt m hl hl2).and (Z21 h.fit.f h.two)).and pre0).and (Zgpb h hok)).mono fun k ⟨⟨⟨e1,e2⟩,e3⟩,e4⟩=>?_
    rw [hm] at e1;unfold Zkl
    by_cases cg:(Zlb m.2).1=1000000
    ·rw [Xc cg]
     refine Za (a:=9) ?_ rfl;unfold Z6h;refine Za e1 (Za es (Za e2 ?_));rw [Xa (by omega:(1000000:Int)≤(Zlb m.2).1)];rfl
    ·rw [Xd cg]
     refine Za (a:=0) ?_ ?_
     ·unfold Z6h
      refine Za e1 (Za es (Za e2 ?_));rw [Xb (by omega:¬(1000000:Int)≤(Zlb m.2).1)];rfl
     ·show (bif ((0:Int) != 0) then _ else _)=_
      rw [show ((0:Int) != 0)=false from rfl,Xf];exact Za e3 (Za e4 rfl)
def Zrm (f:Z2) (n:Int) (s:Str):Z2:=match Zjj f n with
 | some i=>(f.1,f.2.set i (n,s))
 | none=>(f.1,f.2++[(n,s)])
def Zfi (s:List Str) (l:List Z8c):List Str:=l.foldl (fun s d=>s.set d.1.toNat d.2) s
def Z1r (f:Z2):Z2:=(Zfi f.1 f.2,[])
def doA (f:Z2) (a:Bool×Int×Str):Z2:=if a.1=true then Z1r f else Zrm f a.2.1 a.2.2
def doF (f:Z2) (l:List (Bool×Int×Str)):Z2:=l.foldl doA f
def Z4t (n:Nat) (a:Bool×Int×Str):Prop:=a.1=false→(0≤a.2.1∧a.2.1<(n:Int))∧a.2.2.length≤96
structure FlashP (f:Z2):Prop where
 n:1≤f.1.length∧f.1.length≤40
 s:∀x∈f.1,x.length≤96
 d:∀x∈f.2,(0≤x.1∧x.1<(f.1.length:Int))∧x.2.length≤96
 u:(f.2.map fun x=>x.1).Nodup
theorem FlashP.len {f:Z2} (h:FlashP f):f.2.length≤f.1.length:=by
 have:=Zlx f.1.length (f.2.map fun x=>x.1.toNat) (by
  have hu:=h.u;unfold List.Nodup at hu ⊢;rw [Yv] at hu ⊢;refine hu.imp_of_mem fun {a b} ha hb q e=>q ?_
  have:=(h.d a ha).1;have:=(h.d b hb).1;omega) (fun x hx=>by
  obtain ⟨y,hy,rfl⟩:=Yo.1 hx;have:=(h.d y hy).1;omega)
 simpa using this
theorem FlashP.b {f:Z2} (h:FlashP f):Zhg f=true:=by
 unfold Zhg
 rw [Ya,Ya]
 refine ⟨Xa ⟨h.n.1,h.n.2,h.len⟩,Ys.2 fun x hx=>Xa (h.s x hx),Ys.2 fun i hi=>?_⟩
 have hi:=Yk.1 hi
 have hg:f.2.getD i (0,[])=f.2[i]:=by rw [Yg,Yh hi];rfl
 have hd:=h.d _ (Yd hi)
 unfold okD
 rw [hg,Ya,Ya,Ya]
 refine ⟨⟨⟨Xa hd.1.1,Xa (by omega)⟩,Xa hd.2⟩,?_⟩
 rw [Y8,Yna]
 intro x hx
 obtain ⟨j,hj,rfl⟩:=Ywa.1 hx
 have hu:=Yga.1 (Yv.1 h.u) j i (by omega) hi (by omega)
 simpa using hu
theorem FlashP.of {f:Z2} (h:Zhg f=true):FlashP f:=by
 obtain ⟨h1,h2,_⟩:=Zsp h
 unfold Zhg at h
 rw [Ya,Ya] at h
 have h3:=fun i hi=>Ys.1 h.2.2 i (Yk.2 hi)
 have h4:∀i (hi:i<f.2.length),((0≤f.2[i].1∧f.2[i].1<(f.1.length:Int))∧f.2[i].2.length≤96)∧∀j (hj:j<i),f.2[j].1≠f.2[i].1:=fun i hi=>by
  have hg:f.2.getD i (0,[])=f.2[i]:=by rw [Yg,Yh hi];rfl
  have h5:=h3 i hi;unfold okD at h5;rw [hg,Ya,Ya,Ya] at h5;obtain ⟨⟨⟨a,b⟩,c⟩,d⟩:=h5;have b:=of_decide_eq_true b;refine ⟨⟨⟨of_decide_eq_true a,by omega⟩,of_decide_eq_true c⟩,fun j hj=>?_⟩;rw [Y8,Yna] at d;have:=d f.2[j] (Ywa.2 ⟨j,by omega,rfl⟩);simpa using this
 refine ⟨⟨h1.1,h1.2.1⟩,h2,fun x hx=>?_,?_⟩
 ·obtain ⟨i,hi,rfl⟩:=Yu.1 hx
  exact (h4 i hi).1
 ·refine Yv.2 (Yga.2 fun i j hi hj hij=>(h4 j hj).2 i hij)
theorem Z9w:∀(l:List Z8c) (s:List Str),(Zfi s l).length=s.length
 | [],_=>rfl
 | d::l,s=>by
  show (Zfi (s.set d.1.toNat d.2) l).length=_;rw [Z9w l,Ysa]
theorem Zwcb:∀(l:List Z8c) (s:List Str),(∀x∈s,x.length≤96)→(∀d∈l,d.2.length≤96)→∀x∈Zfi s l,x.length≤96
 | [],_,h,_=>h
 | d::l,s,h,hd=>by
  refine Zwcb l _ (fun x hx=>?_) fun y hy=>hd y (Yn _ hy)
  rcases Yfa hx with q | q
  ·exact h x q
  ·rw [q];exact hd d Yj
theorem FlashP.sync {f:Z2} (h:FlashP f):FlashP (Z1r f):=by
 refine ⟨?_,Zwcb f.2 f.1 h.s fun d hd=>(h.d d hd).2,fun x hx=>(by cases hx),Yxa⟩
 show 1≤(Zfi f.1 f.2).length∧(Zfi f.1 f.2).length≤40
 rw [Z9w]
 exact h.n
theorem FlashP.write {f:Z2} (h:FlashP f) {n:Int} {s:Str} (hn:0≤n∧n<(f.1.length:Int)) (hs:s.length≤96):FlashP (Zrm f n s):=by
 unfold Zrm
 cases hd:Zjj f n with
 | some i=>
  have hi:=Zow hd;obtain ⟨_,_,h3,_⟩:=Z4l (show Zmb (fun x:Z8c=>x.1==n) f.2 0=some i from hd);have h3:f.2[i].1=n:=by simpa using h3
  have hm:(f.2.set i (n,s)).map (fun x=>x.1)=f.2.map fun x=>x.1:=by
   rw [List.map_set];refine List.ext_getElem (by simp) fun j h1 h2=>?_
   rw [List.getElem_set];split
   ·rename_i q
    subst q;simp [h3]
   ·rfl
  refine ⟨h.n,h.s,fun x hx=>?_,?_⟩
  ·rcases Yfa hx with q | q
   ·exact h.d x q
   ·rw [q];exact ⟨hn,hs⟩
  ·show ((f.2.set i (n,s)).map fun x=>x.1).Nodup
   rw [hm];exact h.u
 | none=>
  have hno:=Zus.1 (show Zmb (fun x:Z8c=>x.1==n) f.2 0=none from hd);refine ⟨h.n,h.s,fun x hx=>?_,?_⟩
  ·rcases Yda.1 hx with q | q
   ·exact h.d x q
   ·rw [Y2.1 q];exact ⟨hn,hs⟩
  ·show ((f.2++[(n,s)]).map fun x=>x.1).Nodup
   rw [Y0];refine List.nodup_append.2 ⟨h.u,by simp,fun a ha b hb=>?_⟩;obtain ⟨y,hy,rfl⟩:=Yo.1 ha;have:=hno y hy;simp only [List.map_cons,List.map_nil,Y2] at hb;subst hb;simpa using this
theorem Z7rb (f:Z2) (n:Int) (s:Str):(Zrm f n s).1=f.1:=by
 unfold Zrm
 split <;> rfl
theorem Zyab (f:Z2) (a:Bool×Int×Str):(doA f a).1.length=f.1.length:=by
 unfold doA
 split
 ·exact Z9w _ _
 ·rw [Z7rb]
theorem FlashP.act {f:Z2} (h:FlashP f) {a:Bool×Int×Str} (ha:Z4t f.1.length a):FlashP (doA f a):=by
 unfold doA
 cases q:a.1 with
 | true=>exact h.sync
 | false=>exact h.write (ha q).1 (ha q).2
theorem FlashP.acts:∀(l:List (Bool×Int×Str)) {f:Z2},FlashP f→(∀a∈l,Z4t f.1.length a)→FlashP (doF f l)∧(doF f l).1.length=f.1.length
 | [],f,h,_=>⟨h,rfl⟩
 | a::l,f,h,ha=>by
  obtain ⟨h1,h2⟩:=FlashP.acts l (h.act (ha a Yj)) fun b hb=>by rw [Zyab];exact ha b (Yn _ hb)
  exact ⟨h1,by rw [← Zyab f a];exact h2⟩
theorem Z0ab (f:Z2) {l:List (Bool×Int×Str)} {i:Nat} (h:i<l.length):doF f (l.take (i+1))=doA (doF f (l.take i)) l[i]:=by
 unfold doF
 rw [Y0a h,Yba]
 rfl
theorem Zvcb (s:List Str) {l:List Z8c} {i:Nat} (h:i<l.length):Zfi s (l.take (i+1))=(Zfi s (l.take i)).set l[i].1.toNat l[i].2:=by
 unfold Zfi
 rw [Y0a h,Yba]
 rfl
def Z3r (old fresh:Str) (n:Int):Str:=if n<1 then old else if n=1 then fresh else fresh.take (n-2).toNat
def Z6g (s:List Str) (l:List Z8c) (fs:List Int):Nat→List Str
 | 0=>s
 | i+1=>(Z6g s l fs i).set (l.getD i (0,[])).1.toNat (Z3r (s.getD (l.getD i (0,[])).1.toNat []) (l.getD i (0,[])).2 (fs.getD i 0))
def Z2m (f:Z2) (fs:List Int):Z2:=(Z6g f.1 f.2 fs f.2.length,[])
theorem Zwrb {old fresh:Str} {n:Int} (h1:old.length≤96) (h2:fresh.length≤96):(Z3r old fresh n).length≤96:=by
 unfold Z3r
 split
 ·exact h1
 ·split
  ·exact h2
  ·rw [Yz];omega
theorem Zmz (s:List Str) (l:List Z8c) (fs:List Int):∀i,(Z6g s l fs i).length=s.length
 | 0=>rfl
 | i+1=>by
  unfold Z6g;rw [Ysa,Zmz s l fs i]
theorem Zou {l:List Z8c} {i:Nat} (h:i<l.length):l.getD i (0,[])=l[i]:=by rw [Yg,Yh h];rfl
theorem Zwbb {l:List Str} {i:Nat} (h:i<l.length):l.getD i []=l[i]:=by rw [Yg,Yh h];rfl
theorem Zlab {f:Z2} (h:FlashP f) (fs:List Int):∀i,i≤f.2.length→∀x∈Z6g f.1 f.2 fs i,x.length≤96
 | 0,_=>h.s
 | i+1,hi=>fun x hx=>by
  unfold Z6g at hx;rcases Yfa hx with q | q
  ·exact Zlab h fs i (by omega) x q
  ·have hd:=h.d _ (Yd (show i<f.2.length by omega))
   rw [q,Zou (by omega)];refine Zwrb ?_ hd.2;rw [Zwbb (by omega)];exact h.s _ (Yd _)
theorem FlashP.crash {f:Z2} (h:FlashP f) (fs:List Int):FlashP (Z2m f fs)∧(Z2m f fs).1.length=f.1.length:=by
 have hl:(Z2m f fs).1.length=f.1.length:=Zmz _ _ _ _
 exact ⟨⟨by rw [hl];exact h.n,Zlab h fs _ (Yb _),fun x hx=>(by cases hx),Yxa⟩,hl⟩
theorem Zkab {f:Z2} (h:FlashP f) (fs:List Int) {j:Nat} (hj:j<f.2.length):∀i,i≤j→(Z6g f.1 f.2 fs i).getD f.2[j].1.toNat []=f.1.getD f.2[j].1.toNat []
 | 0,_=>rfl
 | i+1,hi=>by
  have hd:=h.d _ (Yd hj);have hdi:=h.d _ (Yd (show i<f.2.length by omega));have hu:=Yga.1 (Yv.1 h.u) i j (by omega) hj (by omega);have ih:=Zkab h fs hj i (by omega);unfold Z6g;rw [Zou (by omega),Yg,List.getElem?_set_ne (by omega),← Yg,ih]
abbrev DoT:=Zp×Str×List Int×Int
def noM:Zp:=(0,([],[]))
def doR (m:Zp) (c:Zdf):DoT:=if Ztg m=true∧Zwh c=true then ((m.1,doF m.2 (Z0k m c).1),(Z0k m c).2) else (noM,([],([],1)))
def Zak (m:Zp):Zp×Int:=match stM m with
 | some (ph,tr,nd,st,dn,dg,v,w)=>((m.1,doF m.2 (Z2k m ph tr nd st dn dg v w)),0)
 | none=>(noM,1)
def Zoz (m:Zp) (l:List Zcf) (n:Int) (fs:List Int):Zp:=(m.1,Z2m (doF m.2 (l.take n.toNat)) fs)
def Z9n (m:Zp) (c:Zdf) (n:Int) (fs:List Int):Zp×Int:=if 400<fs.length then (noM,2) else if (Ztg m=true∧Zwh c=true)∧0≤n then (Zoz m (Z0k m c).1 n fs,0) else (noM,1)
def Zjs (m:Zp) (n:Int) (fs:List Int):Zp×Int:=if 400<fs.length then (noM,2) else match stM m with
 | some (ph,tr,nd,st,dn,dg,v,w)=>if 0≤n then (Zoz m (Z2k m ph tr nd st dn dg v w) n fs,0) else (noM,1)
 | none=>(noM,1)
end Go.Proofs.Qz
