/- What the law FnMachine needs, part 14 of 16: the Lean functions of the Go functions that it reaches, with the proofs that the calls come to what they say, and plain facts about them. Conditions: those that each theorem states. Written by a session and by its programs (after the kit's printer). -/
import Derived.Test.YtmohoeinamddcaaGreatXFnMachine10
import Derived.Test.YtmohoeinamddcaaGreatXFnMachine11
import Derived.Test.YtmohoeinamddcaaGreatXFnMachine12
open Bool renaming and_eq_true → Ya, false_ne_true → Yv, not_eq_true' → Y3, not_true → Yha, or_eq_false_iff → Yia, true_and → Yja
open List renaming length_append → Yb, getD_eq_getElem?_getD → Yc, length_cons → Yd, mem_cons_self → Ye, getElem_mem → Yg, length_nil → Yh, mem_map → Yi, getElem?_eq_getElem → Yk, mem_cons_of_mem → Yl, mem_cons → Ym, mem_singleton → Yn, nodup_cons → Yo, take_length → Yp, all_eq_true → Yr, find?_cons_of_neg → Ys, find?_eq_none → Yt, mem_append → Yu, drop_left → Yw, foldl_append → Yx, getElem_map → Yy, mem_filter → Yz, mem_iff_getElem → Y0, pairwise_map → Y1, any_eq_false → Y5, append_assoc → Y6, ext_getElem → Y7, find?_cons_of_pos → Y8, length_erase_of_mem → Y9, length_set → Yaa, mem_of_find?_eq_some → Yba, mem_or_eq_of_mem_set → Yca, mem_range → Yda, nodup_nil → Yea, pairwise_iff_getElem → Yfa, append_nil → Yka, drop_zero → Yla, filter_nil → Yma, find?_cons → Yna, getElem?_append_left → Yoa, getElem?_eq_none → Ypa, getElem_range → Yqa, length_drop → Yra, length_replicate → Ysa, length_take → Yta, mem_replicate → Yua, mem_take_iff_getElem → Yva, replicate → Ywa, set_cons_succ → Yxa, set_cons_zero → Yya, take_of_length_le → Yza, take_succ_eq_append_getElem → Y0a
open Int renaming toNat_natCast → Yf
open Nat renaming le_refl → Yj, le_trans → Yq, zero_add → Y2, zero_le → Yga
open Go.IntKind renaming wrap → Y4
namespace Go.Proofs.Qz
open Go
set_option linter.unusedVariables false
abbrev Zrm:=List Zkc×Str×List Int×Int
def Z6g (c:Int):Zrm:=([],([],([],c)))
def Z8j (l:List Zkc):Zrm:=(l,([],([],0)))
theorem Z4gb (a b:Str):(Zy1 a b).length=8:=by simp [Zy1,Ztb]
theorem Zxob {l:List Zi} {n:Int} (h:Zab l n=0):∀x∈Zg l,x.1=2→x.2.2.2.length=8:=by
 intro x hx h2
 obtain ⟨_,h1,_,hs,_⟩:=Zvg h
 unfold Zg at hx
 have hs:=hs x (Yz.1 hx).1
 unfold Znf Z6c at hs
 rw [Xd (by omega),Xc h2] at hs
 simp only [Ya,decide_eq_true_eq] at hs
 omega
theorem Zsnb {x:Zi} {n:Int} (h:WriteOk x n) (h2:x.1=2→x.2.2.2.length=8) {s:Str} (hs:s.length=8):(Zah x s).length=8:=by
 unfold Zah
 split
 ·rfl
 ·split
  ·rename_i q
   exact h2 q
  ·split
   ·exact hs
   ·have:x.2.2.2.length=8:=by rcases h.kind with q | q | q | q;omega;omega;omega;exact q.2
    unfold Z3s;rw [Xc ⟨hs,this⟩];exact Z4gb _ _
theorem Zzhb {base:List Str} {l:List Zi} {n:Int} (hc:Zab l n=0) (hb:(base.length:Int)=n) (hi:Zyd base=true):Zyd (Zqf base l)=true:=by
 obtain ⟨h1,h8,hs⟩:=Zik hi
 have hl:(Zqf base l).length=base.length:=Zsh _ _ _ _
 unfold Zyd
 rw [hl,Xa h1,Xa h8]
 show (true&&(Zqf base l).all Zcl)=true
 rw [Yja]
 refine Yr.2 fun s hm=>?_
 obtain ⟨b,hb1,rfl⟩:=Y0.1 hm
 rw [hl] at hb1
 have hg:(base.getD b []).length=8:=hs _ (Z23 hb1)
 have:((Zqf base l)[b]'(by rw [hl];exact hb1)).length=8:=by
  unfold Zqf;rw [Z8o hb1];cases hf:(Zg l).find? (fun x=>x.2.1==(b:Int)) with
  | none=>exact hg
  | some x=>
   have hx:=Yba hf;have hw:=Z3u hc x hx;have hsrc:=hw.src;exact Zsnb hw (Zxob hc x hx) (hs _ (Z23 (by omega)))
 unfold Zcl
 exact Xa this
def Zwk (m:Zo) (ph st dn:Int) (w:Nat):List Str:=if ph=4 then Zqf (Zsb m) (Zf m st w) else if ph=5 then Z2s m st dn w else Zsb m
section
variable {m:Zo} {ph tr nd st dn:Int} {dg:Str} {v w:Nat}
theorem MSt.base8 (h:MSt m ph tr nd st dn dg v w):∀s∈Zsb m,s.length=8:=(Zik h.img).2.2
theorem MSt.base (h:MSt m ph tr nd st dn dg v w):((Zsb m).length:Int)=m.1:=by
 have:=h.fit.b
 rw [Zlv]
 omega
theorem Zjsb (h:MSt m ph tr nd st dn dg v w):((Zwk m ph st dn w).length:Int)=m.1:=by
 have:=h.base
 unfold Zwk Zqf Z2s
 split
 ·rw [Zsh];exact this
 ·split
  ·rw [Zsh];exact this
  ·exact this
theorem Zgmb (hs:stM m=some (ph,(tr,(nd,(st,(dn,(dg,(v,w)))))))) (h:MSt m ph tr nd st dn dg v w):Zc fun k=>Zbf k m=some (Zwk m ph st dn w):=by
 have hf:=h.fit
 have hb:=hf.b
 have hn:=hf.n
 have hdr:=hf.dirt
 have hl:m.2.1.length≤1048576:=by omega
 have hfl:=(Z7r hf.f).1
 have pre:Zc fun k=>Zag k m=some (Zeu (some (ph,tr,nd,st,dn,dg,v,w))):=by rw [← hs];exact Zut m hl (by omega)
 have hll:=h.log
 have hplan:Zc fun k=>Zab (Zf m st w) m.1=0→Z6b k (Zf m st w)=some (Zj (Zf m st w)):=if hc:Zab (Zf m st w) m.1=0 then (Z3bb (Zf m st w) (Zvg hc).1 (Z3m hc)).mono fun k e _=>e else Zc.of fun k q=>absurd q hc
 refine (((pre.and (Zc4 ph tr nd st dn dg (Zb v) hf)).and hplan).and (Zc.ge 1048577 fun k hk=>hk)).mono fun k ⟨⟨⟨e1,e2⟩,e3⟩,hk⟩=>?_
 unfold Zbf Zwk
 refine Za e1 (Za (Z93 (m:=m) ⟨by omega,hb.2⟩ (by omega) (by omega) hk) (Za e2 ?_))
 show (bif ph==4 then _ else _)=_
 by_cases c4:ph=4
 ·have hS:=h.snd (by omega)
  rw [Xc c4,show (ph==4)=true by simpa using c4,Xe];exact Za (Zilb hS.code h.base h.base8 (by omega)) rfl
 ·rw [Xd c4,show (ph==4)=false by simpa using c4,Xf]
  show (bif ph==5 then _ else _)=_
  by_cases c5:ph=5
  ·have hS:=h.snd (by omega)
   rw [Xc c5,show (ph==5)=true by simpa using c5,Xe];exact Za (e3 hS.code) (Za (Zk4 _ (by omega) k (by omega)) (Za (Zhmb hS ph tr nd dg (Zb v) hk) rfl))
  ·rw [Xd c5,show (ph==5)=false by simpa using c5]
   rfl
theorem Z70 (h:MSt m ph tr nd st dn dg v w) (h3:3≤ph):Zc fun k=>Z4j k m (ph,(tr,(nd,(st,(dn,(dg,(Zb v,Zb w)))))))=some (Zj (Zf m st w)):=by
 refine ((Zuo ph tr nd st dn dg (Zb v) h.fit).and (Z26 _ _ (h.snd h3).code)).mono fun k ⟨e1,e2⟩=>?_
 unfold Z4j
 exact Za e1 (Za e2 rfl)
theorem Z7qb (h:MSt m ph tr nd st dn dg v w):Zc fun k=>Zmf k m (ph,(tr,(nd,(st,(dn,(dg,(Zb v,Zb w)))))))=some (Zwk m ph st dn w):=by
 have hf:=h.fit
 have hb:=hf.b
 have hn:=hf.n
 have hdr:=hf.dirt
 have hll:=h.log
 have hmv:Zc fun k=>3≤ph→Z4j k m (ph,(tr,(nd,(st,(dn,(dg,(Zb v,Zb w)))))))=some (Zj (Zf m st w)):=if h3:3≤ph then (Z70 h h3).mono fun k e _=>e else Zc.of fun k q=>absurd q h3
 refine ((((Zuo ph tr nd st dn dg (Zb v) hf).and (Zkfb (l:=Zf m st w) h.img (by omega))).and hmv).and (Zc.ge 1048577 fun k hk=>hk)).mono fun k ⟨⟨⟨e2,e3⟩,e4⟩,hk⟩=>?_
 unfold Zmf Zwk
 refine Za (Zy0 (m:=m) ⟨by omega,hb.2⟩ (by omega) (by omega) hk) (Za e2 ?_)
 show (bif ph==4 then _ else _)=_
 by_cases c4:ph=4
 ·have hS:=h.snd (by omega)
  rw [Xc c4,show (ph==4)=true by simpa using c4,Xe];rw [h.base,Xc hS.code] at e3;exact Za e3 rfl
 ·rw [Xd c4,show (ph==4)=false by simpa using c4,Xf]
  show (bif ph != 5 then _ else _)=_
  by_cases c5:ph=5
  ·have hS:=h.snd (by omega)
   rw [Xc c5,show (ph != 5)=false by simpa using c5,Xf];have hbl:=Zlv m;exact Za (e4 (by omega)) (Za (Z76 _ (by omega) k (by omega)) (Za (Z6 (by simp;omega)) (Za (Z8qb hS ph tr nd dg (Zb v) hk) rfl)))
  ·rw [Xd c5,show (ph != 5)=true by simpa using c5]
   rfl
end
def Zfi (l:List Int):Nat:=orP (l.map Int.toNat)
theorem Za9 {u:Nat} (h:u<16777216):Zfi (Zb u)=u:=by
 have e:(Zb u).map Int.toNat=Z1b u 24:=by
  unfold Zb;rw [List.map_map];exact List.map_id' _
 unfold Zfi
 rw [e]
 refine Nat.eq_of_testBit_eq fun i=>?_
 rw [Zsw]
 by_cases hi:i<24
 ·cases hb:u.testBit i with
  | true=>exact Xa (by unfold Z1b;rw [Yz,Yda];exact ⟨hi,hb⟩)
  | false=>exact Xb fun q=>by rw [(Z9s q).2] at hb;cases hb
 ·rw [Nat.testBit_lt_two_pow (Nat.lt_of_lt_of_le (show u<2^24 by simpa using h) (Nat.pow_le_pow_right (by omega) (by omega)))]
  exact Xb fun q=>hi (Z9s q).1
def Zqm (m:Zo) (l:List Int):List Zkc:=l.map fun x=>(false,(3+m.1+x,[]))
section
variable {m:Zo} {ph tr nd st dn:Int} {dg:Str} {v w:Nat}
theorem Zosb {l:List Int} {i:Nat} (h:i<l.length):Zqm m (l.take (i+1))=Zqm m (l.take i)++[(false,(3+m.1+l[i],[]))]:=Zfgb _ h
theorem Zarb (h:Fit m st w) (l:List Int) (hl:l.length≤24) (hx:∀x∈l,0≤x∧x≤23) {k:Nat} (hk:100≤k):Zkf.l0 k m.1 m.2.1 m.2.2 0 0 [] 0 l [] []=some (0,([],(0,(l,(Zqm m l,[]))))):=by
 have run:=Zrc (fun j i=>Zkf.l0 j m.1 m.2.1 m.2.2 (i:Int) 0 [] 0 l (Zqm m (l.take i)) []) l.length (0,([],(0,(l,(Zqm m l,[]))))) (fun i hi j=>?_) (fun j=>?_) k (by omega)
 ·exact run
 ·have hr:=hx _ (Yg hi)
  conv=>lhs;unfold Zkf.l0
  rw [dlt hi,Zs (by omega),Xe,Zosb hi];exact Za (Zh hi) (Za (Zh hi) (Za (Ztu h hr.1 hr.2) (Za (Z6 (by simp [Zqm];omega)) rfl)))
 ·conv=>lhs;unfold Zkf.l0
  rw [Z8 (Yj _),Yp];rfl
def Zmv (m:Zo) (ph:Int) (v:Nat) (a b:Int) (dg:Str):Zrm:=if ph=1 then (match Zcj (Zhe v 0) (a+b) with
 | some l=>Z8j ((Zqm m l++[Z9e])++Z4c m.2 2 0 a b 0 dg v (Zfi l))
 | none=>Z6g 11) else Z6g 10
theorem Zneb {f:Nat} (hf:f<16777216) {n:Int} (h0:1≤n) {l:List Int} (h:Zcj f n=some l):∃u,u<16777216∧l=Zb u∧Zfi l=u∧l.length≤24∧∀x∈l,0≤x∧x≤23:=by
 obtain ⟨⟨u,h1,h2,_⟩,_⟩:=Zh6 hf h0 h
 subst h2
 refine ⟨u,h1,rfl,Za9 h1,Z7d u,fun x hx=>?_⟩
 obtain ⟨j,hj,rfl⟩:=Y0.1 hx
 exact Z3k hj
theorem Zypb (h:MSt m ph tr nd st dn dg v w) (c:Zhd) (ha:1≤c.2.1∧c.2.1≤20) (hb:0≤c.2.2.1∧c.2.2.1≤4) (hd:c.2.2.2.1.length≤32):Zc fun k=>Zkf k m (ph,(tr,(nd,(st,(dn,(dg,(Zb v,Zb w))))))) c=some (Zmv m ph v c.2.1 c.2.2.1 c.2.2.2.1):=by
 unfold Zmv
 by_cases c1:ph=1
 ·obtain ⟨n,hn⟩:∃n:Nat,c.2.1+c.2.2.1=(n:Int):=⟨(c.2.1+c.2.2.1).toNat,by omega⟩
  have hfl:=Zaz h.hv (by omega:0<16777216)
  have hr:∀k,200≤k→Zbd k (Zb v) [] (Y4 .i64 (c.2.1+c.2.2.1))=some (Zfu (Zcj (Zhe v 0) (c.2.1+c.2.2.1)) 11):=fun k hk=>by
   have:=Z46 v 0 n h.hv (by omega) (by omega) hk;rw [Z8s] at this;rw [hn,wn (by omega)];exact this
  rw [Xc c1];cases hres:Zcj (Zhe v 0) (c.2.1+c.2.2.1) with
  | none=>
   refine (Zc.ge 200 fun k hk=>hk).mono fun k hk=>?_
   have hr:=hr k hk;rw [hres] at hr;unfold Zkf;show (bif ph != 1 then _ else _)=_;rw [show (ph != 1)=false by simpa using c1,Xf];exact Za hr rfl
  | some l=>
   obtain ⟨u,u1,u2,u3,u4,u5⟩:=Zneb hfl (by omega) hres;dsimp only;rw [u3];refine ((Zqk (m:=m) h.fit.f h.two (a:=2) (b:=0) (c:=c.2.1) (d:=c.2.2.1) (e:=0) (x:=c.2.2.2.1) (v:=v) (w:=u) ⟨by omega,by omega,by omega,by omega,by omega,hd,h.hv,u1⟩).and (Zc.ge 200 fun k hk=>hk)).mono fun k ⟨e,hk⟩=>?_
   have hr:=hr k hk;rw [hres] at hr;rw [← u2] at e;have hkl:=Z0t m.2 (Zdd (2,0,c.2.1,c.2.2.1,0,(v:Int),(u:Int),c.2.2.2.1));unfold Zkf;show (bif ph != 1 then _ else _)=_;rw [show (ph != 1)=false by simpa using c1,Xf];refine Za hr ?_;rw [show ((Zfu (some l) 11).2 != 0)=false from rfl,Xf];refine Za (Zarb h.fit l u4 u5 (by omega)) (Za (Z6 (by simp [Zqm];omega)) (Za e (Za (Z6 (by unfold Z4c;simp [Zqm];omega)) ?_)));rfl
 ·refine Zc.of fun k=>?_
  unfold Zkf;show (bif ph != 1 then _ else _)=_;rw [show (ph != 1)=true by simpa using c1,Xd c1];rfl
theorem Zjdb {x:Zi} (h:Z6c x.1 x.2.1 x.2.2.1 x.2.2.2 8=true):Za8 x:=by
 unfold Z6c at h
 unfold Za8 Num
 split at h
 ·simp only [Ya,decide_eq_true_eq] at h;omega
 ·split at h
  ·simp only [Ya,decide_eq_true_eq] at h;omega
  ·split at h
   ·simp only [Ya,decide_eq_true_eq] at h;omega
   ·split at h
    ·simp only [Ya,decide_eq_true_eq] at h;omega
    ·split at h
     ·simp only [Ya,decide_eq_true_eq] at h;omega
     ·cases h
def Zaj (n:Int) (x:Zi):Str:=Zhf (Zk n++Zzu x)
theorem Zrqb (n:Int) (x:Zi) (h0:0≤n∧n≤1000000) (h:Z6c x.1 x.2.1 x.2.2.1 x.2.2.2 8=true):Zc fun k=>Zyi k n x=some (Zaj n x):=by
 obtain ⟨q1,q2,q3⟩:=Zjdb h
 have:=Z36 n x.1 x.2.1 x.2.2.1 x.2.2.2 (by constructor <;> omega) q1 q2 q3 (Zys h) h
 rw [Xc h0] at this
 exact this
def Zxs (m:Zo) (ph nd st:Int) (w:Nat) (x:Zi):Zrm:=if ph=2 then (if ((Zf m st w).length:Int)=nd then Z6g 9 else if Zab (Zf m st w++[x]) m.1=0 then Z8j ((false,(3+m.1+(Zb w).getD (st+((Zf m st w).length:Int)).toNat 0,Zaj ((Zf m st w).length:Int) x))::(if x.1=5 then [Z9e] else [])) else Z6g (Zab (Zf m st w++[x]) m.1)) else Z6g 10
theorem Z2qb (h:MSt m ph tr nd st dn dg v w) (c:Zhd) (hx:Z6c c.2.2.2.2.1 c.2.2.2.2.2.1 c.2.2.2.2.2.2.1 c.2.2.2.2.2.2.2 8=true):Zc fun k=>Zkr k m (ph,(tr,(nd,(st,(dn,(dg,(Zb v,Zb w))))))) c=some (Zxs m ph nd st w c.2.2.2.2):=by
 have hll:=h.log
 have hlw:=Z7d w
 refine ((((Zuo ph tr nd st dn dg (Zb v) h.fit).and (Zqs (Zf m st w++[c.2.2.2.2]) m.1 (by simp;omega))).and (Zrqb ((Zf m st w).length:Int) c.2.2.2.2 (by omega) hx)).and (Zc.ge 100 fun k hk=>hk)).mono fun k ⟨⟨⟨e0,e1⟩,e2⟩,hk⟩=>?_
 unfold Zkr Zxs
 show (bif ph != 2 then _ else _)=_
 by_cases c2:ph=2
 ·rw [Xc c2,show (ph != 2)=false by simpa using c2,Xf]
  obtain ⟨q1,q2,q3,q4,q5,q6,q7,q8⟩:=h.busy (by omega);refine Za e0 ?_;show (bif decide (nd≤((Zf m st w).length:Int)) then _ else _)=_
  by_cases cn:((Zf m st w).length:Int)=nd
  ·rw [Xc cn,Xa (by omega:nd≤((Zf m st w).length:Int))]
   rfl
  ·rw [Xd cn,Xb (by omega:¬nd≤((Zf m st w).length:Int)),Xf]
   have ha:Zw 40 ([]:List Zi) (Zf m st w)=some (Zf m st w):=Z6 (by simp;omega);refine Za ha (Za (Z6 (by simp;omega)) (Za e1 ?_))
   by_cases cc:Zab (Zf m st w++[c.2.2.2.2]) m.1=0
   ·rw [Xc cc,show (Zab (Zf m st w++[c.2.2.2.2]) m.1 != 0)=false by simpa using cc,Xf]
    obtain ⟨a1,a2,a3⟩:=Z7s (w:=w) (n:=st+((Zf m st w).length:Int)) (by omega) (by omega);show Option.bind (at? (Zb w) (Y4 .i64 (st+((Zf m st w).length:Int)))) _=_;rw [w64 (n:=st+((Zf m st w).length:Int)) (by omega) (by omega)];refine Za a1 (Za (Ztu h.fit a2 a3) (Za e2 ?_));show (bif c.2.2.2.2.1==5 then _ else _)=_
    by_cases c5:c.2.2.2.2.1=5
    ·rw [Xc c5,show (c.2.2.2.2.1==5)=true by simpa using c5,Xe]
     exact Za (Z6 (by simp)) rfl
    ·rw [Xd c5,show (c.2.2.2.2.1==5)=false by simpa using c5]
     rfl
   ·rw [Xd cc,show (Zab (Zf m st w++[c.2.2.2.2]) m.1 != 0)=true by simpa using cc]
    rfl
 ·rw [Xd c2,show (ph != 2)=true by simpa using c2]
  rfl
end
section
variable {m:Zo} {ph tr nd st dn:Int} {dg:Str} {v w:Nat}
def Zgo (m:Zo) (v:Nat):List Zkc:=Z4c m.2 1 0 0 0 0 [] v 0
def Z2v (m:Zo) (ph tr nd st dn:Int) (dg:Str) (v w:Nat):Zrm:=if ph=2 then (if ((Zf m st w).length:Int)=nd then (if Zab (Zf m st w) m.1=0 then (if Zvo (Zqf (Zsb m) (Zf m st w)).flatten=dg then (if st<Z3b (Zj (Zf m st w)) then (Zgo m v,([],([],11))) else Z8j ([Z9e]++Z4c m.2 3 tr nd st dn dg v w)) else (Zgo m v,([],([],5)))) else (Zgo m v,([],([],5)))) else (Zgo m v,([],([],4)))) else Z6g 10
theorem Zcqb (h:MSt m ph tr nd st dn dg v w):Zc fun k=>Zir k m (ph,(tr,(nd,(st,(dn,(dg,(Zb v,Zb w)))))))=some (Z2v m ph tr nd st dn dg v w):=by
 have hf:=h.fit
 have hb:=hf.b
 have hn:=hf.n
 have hdr:=hf.dirt
 have hfl:=(Z7r hf.f).1
 have hk0:=h.keep
 have hll:=h.log
 have hplan:Zc fun k=>Zab (Zf m st w) m.1=0→Z3h k (Zf m st w) m.1=some (Zj (Zf m st w),0)∧Zsk k (Zqf (Zsb m) (Zf m st w))=some (Zvo (Zqf (Zsb m) (Zf m st w)).flatten):=if hc:Zab (Zf m st w) m.1=0 then ((Z26 (Zf m st w) m.1 hc).and (Z8pb (Zzhb hc h.base h.img))).mono fun k e _=>e else Zc.of fun k q=>absurd q hc
 refine ((((((Zqk (m:=m) hf.f h.two (Zkn h.hv)).and (Zkfb (l:=Zf m st w) h.img (by omega))).and hplan).and (Zqk (m:=m) hf.f h.two (a:=3) { hk0 with a:=by omega })).and (Zuo ph tr nd st dn dg (Zb v) hf)).and (Zc.ge 1048577 fun k hk=>hk)).mono fun k ⟨⟨⟨⟨⟨e1,e2⟩,e3⟩,e4⟩,e5⟩,hk⟩=>?_
 unfold Zir Z2v
 show (bif ph != 2 then _ else _)=_
 by_cases c2:ph=2
 ·rw [Xc c2,show (ph != 2)=false by simpa using c2,Xf]
  refine Za e5 (Za (Zy0 (m:=m) ⟨by omega,hb.2⟩ (by omega) (by omega) hk) (Za e2 (Za (Z40 v _ _ _ _ _ _ _) (Za e1 ?_))));show (bif ((Zf m st w).length:Int) != nd then _ else _)=_
  by_cases cn:((Zf m st w).length:Int)=nd
  ·rw [Xc cn,show (((Zf m st w).length:Int) != nd)=false by simpa using cn,Xf,h.base]
   by_cases cc:Zab (Zf m st w) m.1=0
   ·obtain ⟨e31,e32⟩:=e3 cc
    have hpl:=Zuw _ (Zvg cc).1 (Z3m cc);rw [Xc cc,Xc cc];show (bif ((0:Int) != 0) then _ else _)=_;rw [show ((0:Int) != 0)=false from rfl,Xf];refine Za e32 ?_;show (bif !(Zvo (Zqf (Zsb m) (Zf m st w)).flatten==dg) then _ else _)=_
    by_cases cd:Zvo (Zqf (Zsb m) (Zf m st w)).flatten=dg
    ·rw [Xc cd,show (Zvo (Zqf (Zsb m) (Zf m st w)).flatten==dg)=true by simpa using cd,Yha,Xf]
     refine Za e31 (Za (Z56 (Zj (Zf m st w)) (by omega) k (by omega)) ?_);show (bif decide (st<Z3b (Zj (Zf m st w))) then _ else _)=_
     by_cases cs:st<Z3b (Zj (Zf m st w))
     ·rw [Xc cs,Xa cs]
      rfl
     ·rw [Xd cs,Xb cs,Xf]
      have hkl:=Z0t m.2 (Zdd (3,tr,nd,st,dn,(v:Int),(w:Int),dg));exact Za (Zto v w _ _ _ _ _ _) (Za e4 (Za (Z6 (by unfold Z4c;simp;omega)) rfl))
    ·rw [Xd cd,show (Zvo (Zqf (Zsb m) (Zf m st w)).flatten==dg)=false by simpa using cd]
     rfl
   ·rw [Xd cc,Xd cc]
    show (bif (Zab (Zf m st w) m.1 != 0) then _ else _)=_;rw [show (Zab (Zf m st w) m.1 != 0)=true by simpa using cc];rfl
  ·rw [Xd cn,show (((Zf m st w).length:Int) != nd)=true by simpa using cn]
   rfl
 ·rw [Xd c2,show (ph != 2)=true by simpa using c2]
  rfl
def Zrd (m:Zo) (st dn:Int) (w:Nat):Z0c:=(Zj (Zf m st w)).getD dn.toNat (0,(0,(0,0)))
def Zek (m:Zo) (st dn:Int) (w:Nat):Int:=if (Zrd m st dn w).1=1 then 3+m.1+(Zb w).getD (Zrd m st dn w).2.2.2.toNat 0 else 3+(Zrd m st dn w).2.2.1
def Zfk (m:Zo) (st dn:Int) (w:Nat):Str:=if (Zrd m st dn w).1=1 then Zm m.2 (3+(Zrd m st dn w).2.2.1) else Zph m w (Zj (Zf m st w)) dn.toNat (wAt (Zg (Zf m st w)) (Zrd m st dn w).2.1.toNat)
def Z5v (m:Zo) (ph tr nd st dn:Int) (dg:Str) (v w:Nat):Zrm:=if ph=5 then (if dn=((Zj (Zf m st w)).length:Int) then (Zgo m v,([],([0],0))) else ([(false,(2,if (Zfk m st dn w).length=8 then Z8b dn (Zek m st dn w) (Zfk m st dn w) else [])),Z9e,(false,(Zek m st dn w,Zfk m st dn w)),Z9e]++Z4c m.2 ph tr nd st (dn+1) dg v w,([],([((Zj (Zf m st w)).length:Int)-(dn+1)],0)))) else Z6g 10
theorem Zow (hS:Sound m st dn w) (hlt:dn<((Zj (Zf m st w)).length:Int)):at? (Zj (Zf m st w)) dn=some (Zrd m st dn w)∧(0≤(Zrd m st dn w).2.2.1∧(Zrd m st dn w).2.2.1<m.1) ∧
  ((Zrd m st dn w).1=1∧(at? (Zb w) (Zrd m st dn w).2.2.2=some ((Zb w).getD (Zrd m st dn w).2.2.2.toNat 0)∧0≤(Zb w).getD (Zrd m st dn w).2.2.2.toNat 0∧(Zb w).getD (Zrd m st dn w).2.2.2.toNat 0≤23) ∨
   (Zrd m st dn w).1=2∧at? (Zg (Zf m st w)) (Zrd m st dn w).2.1=some (wAt (Zg (Zf m st w)) (Zrd m st dn w).2.1.toNat)∧WriteOk (wAt (Zg (Zf m st w)) (Zrd m st dn w).2.1.toNat) m.1):=by
 have hdn:=hS.dn
 have hs:=hS.fit.s
 have hsl:=hS.slots
 obtain ⟨d,rfl⟩:∃d:Nat,dn=(d:Int):=⟨dn.toNat,by omega⟩
 have hd:d<(Zj (Zf m st w)).length:=by omega
 have hg:Zrd m st (d:Int) w=(Zj (Zf m st w))[d]:=by
  unfold Zrd;rw [Yf];exact Zcz hd
 have hm:(Zj (Zf m st w))[d]? = some (Zj (Zf m st w))[d]:=Yk hd
 obtain ⟨j,hj,q⟩:=(Zd0 hS.code).form d _ hm
 have hx:=Z3u hS.code _ (Yg hj)
 have hto:=hx.tgt
 refine ⟨by rw [hg];exact Zh hd,?_,?_⟩
 ·rw [hg]
  rcases q with q | q <;> rw [q] <;> (show 0≤(wAt _ j).2.1∧(wAt _ j).2.1<m.1) <;> rw [Zrg hj] <;> exact hto
 ·rw [hg]
  rcases q with q | q
  ·right
   rw [q];refine ⟨rfl,?_,?_⟩
   ·show at? (Zg (Zf m st w)) ((j:Nat):Int)=some (wAt (Zg (Zf m st w)) (((j:Nat):Int)).toNat)
    rw [Yf,Zrg hj];exact Zh hj
   ·show WriteOk (wAt (Zg (Zf m st w)) (((j:Nat):Int)).toNat) m.1
    rw [Yf,Zrg hj];exact hx
  ·left
   have h1:(Zj (Zf m st w))[d].1=1:=by rw [q]
   have h2:(Zj (Zf m st w))[d].2.2.2=Z3b ((Zj (Zf m st w)).take d):=by rw [q]
   have h3:=Z0fb hm h1;have h4:=Zi1 ((Zj (Zf m st w)).take d);refine ⟨h1,?_⟩;rw [h2];exact Z7s h4.1 (by omega)
theorem Zebb (hS:Sound m st dn w) (hlt:dn<((Zj (Zf m st w)).length:Int)):0≤Zek m st dn w∧Zek m st dn w≤39:=by
 have hb:=hS.fit.b
 obtain ⟨_,h2,h3⟩:=Zow hS hlt
 unfold Zek
 rcases h3 with ⟨q,_,q1,q2⟩ | ⟨q,_⟩
 ·rw [Xc q];omega
 ·rw [Xd (by omega)];omega
theorem Zpnb (m:Zo) (x:Zi) (hx:WriteOk x m.1) (hf:Zwg m.2=true) (mv:List Z0c) (d:Nat) (hp:x.2.2.2.length≤8):(Zph m w mv d x).length≤96:=by
 unfold Zph Zah
 split
 ·exact (by decide:Z87.length≤96)
 ·split
  ·omega
  ·split
   ·unfold Zvp
    split
    ·split
     ·exact Zeo hf _
     ·exact Zeo hf _
    ·simp
   ·unfold Z3s
    split
    ·rw [Z4gb];omega
    ·simp
theorem Zajb {l:List Zi} {n:Int} (h:Zab l n=0):∀x∈Zg l,x.2.2.2.length≤8:=by
 intro x hx
 unfold Zg at hx
 have hs:=(Zvg h).2.2.2.1 x (Yz.1 hx).1
 exact Zys hs
theorem Zfbb (hS:Sound m st dn w) (hlt:dn<((Zj (Zf m st w)).length:Int)):(Zfk m st dn w).length≤96:=by
 obtain ⟨_,h2,h3⟩:=Zow hS hlt
 unfold Zfk
 rcases h3 with ⟨q,_⟩ | ⟨q,q1,q2⟩
 ·rw [Xc q]
  exact Zeo hS.fit.f _
 ·rw [Xd (by omega)]
  refine Zpnb m _ q2 hS.fit.f _ _ (Zajb hS.code _ ?_);have:=(Zow hS hlt).2.1
  by_cases hi:(Zrd m st dn w).2.1.toNat<(Zg (Zf m st w)).length
  ·rw [Zrg hi]
   exact Yg hi
  ·exfalso
   have hn:at? (Zg (Zf m st w)) (Zrd m st dn w).2.1=none:=by
    unfold at?;split
    ·exact Ypa (by omega)
    ·rfl
   rw [hn] at q1;cases q1
theorem Zfqb (h:MSt m ph tr nd st dn dg v w):Zc fun k=>Zqg k m (ph,(tr,(nd,(st,(dn,(dg,(Zb v,Zb w)))))))=some (Z5v m ph tr nd st dn dg v w):=by
 have hf:=h.fit
 have hb:=hf.b
 have hn:=hf.n
 have hdr:=hf.dirt
 have hk0:=h.keep
 have hll:=h.log
 unfold Z5v
 by_cases c5:ph=5
 ·have hS:=h.snd (by omega)
  have hdn:=hS.dn;have hpl:=hS.plan;rw [Xc c5]
  by_cases ce:dn=((Zj (Zf m st w)).length:Int)
  ·rw [Xc ce]
   refine ((Zqk (m:=m) hf.f h.two (Zkn h.hv)).and (Z70 h (by omega))).mono fun k ⟨e1,e2⟩=>?_
   unfold Zqg;show (bif ph != 5 then _ else _)=_;rw [show (ph != 5)=false by simpa using c5,Xf];refine Za e2 ?_;show (bif decide (((Zj (Zf m st w)).length:Int)≤dn) then _ else _)=_;rw [Xa (by omega:((Zj (Zf m st w)).length:Int)≤dn),Xe];exact Za (Z40 v _ _ _ _ _ _ _) (Za e1 rfl)
  ·have hlt:dn<((Zj (Zf m st w)).length:Int):=by omega
   obtain ⟨m1,m2,m3⟩:=Zow hS hlt;have hat:=Zebb hS hlt;have hdl:=Zfbb hS hlt;rw [Xd ce];refine (((((Zqk (m:=m) hf.f h.two (a:=ph) (e:=dn+1) { hk0 with e:=by omega }).and (Z70 h (by omega))).and (Z80 dn (Zek m st dn w) (Zfk m st dn w) (by constructor <;> omega) (by constructor <;> omega) (by omega))).and (Zuo ph tr nd st dn dg (Zb v) hf)).and (Zc.ge 1048577 fun k hk=>hk)).mono fun k ⟨⟨⟨⟨e1,e2⟩,e3⟩,e4⟩,hk⟩=>?_
   have hj0:Zqg.j0 k m.1 m.2.1 m.2.2 ph tr nd st dn dg (Zb v) (Zb w) (3+(Zrd m st dn w).2.2.1) (Zm m.2 (3+(Zrd m st dn w).2.2.1)) (Zrd m st dn w).1 (Zrd m st dn w).2.1 (Zrd m st dn w).2.2.1 (Zrd m st dn w).2.2.2 (Zj (Zf m st w))=some (Zek m st dn w,(Zfk m st dn w,Zrd m st dn w)):=by
    unfold Zqg.j0 Zek Zfk;dsimp only;rcases m3 with ⟨q,q1,q2,q3⟩ | ⟨q,q1,q2⟩
    ·rw [Xc q,Xc q,show ((Zrd m st dn w).1==1)=true by simpa using q,Xe]
     exact Za q1 (Za (Ztu hf q2 q3) rfl)
    ·rw [Xd (by omega),Xd (by omega),show ((Zrd m st dn w).1==1)=false by rw [q];rfl,Xf]
     exact Za e4 (Za (Z76 _ (by omega) k (by omega)) (Za q1 (Za q1 (Za (Zffb hS ph tr nd dg (Zb v) q2 hk) rfl))))
   have hB:(if Zbh dn (Zek m st dn w) (Zfk m st dn w)=true then Z8b dn (Zek m st dn w) (Zfk m st dn w) else [])=if (Zfk m st dn w).length=8 then Z8b dn (Zek m st dn w) (Zfk m st dn w) else []:=by
    by_cases c8:(Zfk m st dn w).length=8
    ·rw [Xc c8,Xc (Zam.2 ⟨⟨by omega,by omega⟩,hat,c8⟩)]
    ·rw [Xd c8,Xd (fun q=>c8 (Zam.1 q).2.2)]
   rw [hB] at e3;unfold Zqg;show (bif ph != 5 then _ else _)=_;rw [show (ph != 5)=false by simpa using c5,Xf];refine Za e2 ?_;show (bif decide (((Zj (Zf m st w)).length:Int)≤dn) then _ else _)=_;rw [Xb (by omega:¬((Zj (Zf m st w)).length:Int)≤dn),Xf];refine Za m1 (Za m1 ?_);dsimp only;rw [w64 (n:=3+(Zrd m st dn w).2.2.1) (by omega) (by omega)];refine Za (Zon m.2 _ hdr (by omega) (by omega) (by omega)) (Za hj0 (Za (Zto v w _ _ _ _ _ _) (Za e3 ?_)));rw [w64 (n:=dn+1) (by omega) (by omega)];have hkl:=Z0t m.2 (Zdd (ph,tr,nd,st,dn+1,(v:Int),(w:Int),dg));refine Za e1 (Za (Z6 (by unfold Z4c;simp;omega)) ?_);rw [w64 (n:=((Zj (Zf m st w)).length:Int)-(dn+1)) (by omega) (by omega)];rfl
 ·rw [Xd c5]
  refine Zc.of fun k=>?_
  unfold Zqg;show (bif ph != 5 then _ else _)=_;rw [show (ph != 5)=true by simpa using c5];rfl
end
def Z9v (m:Zo) (ph tr nd st dn:Int) (dg:Str) (v w:Nat) (a:Int):Zrm:=match Zcj (Zhe v w) a with
 | some l=>Z8j (Z4c m.2 ph tr nd st dn dg (v ||| Zfi l) w)
 | none=>Z6g 11
def Zk7 (m:Zo) (ph tr nd st dn:Int) (v w:Nat):List Int:=[ph,tr,((Zf m st w).length:Int),Z5i (Zf m st w),(if ph=5 then ((Zj (Zf m st w)).length:Int)-dn else 0),((Zb (Zhe v w)).length:Int)]
def Zxm (m:Zo) (c:Zhd) (ph tr nd st dn:Int) (dg:Str) (v w:Nat):Zrm:=if c.1=1 then Zmv m ph v c.2.1 c.2.2.1 c.2.2.2.1 else if c.1=2 then Zxs m ph nd st w c.2.2.2.2 else if c.1=3 then Z2v m ph tr nd st dn dg v w else if c.1=4 then (if ph=1∨ph=5 then Z6g 10 else Z8j (Zgo m v)) else if c.1=5 then (if ph=4 then Z8j ([(false,(2,[])),Z9e]++Z4c m.2 5 0 nd st dn dg v w) else Z6g 10) else if c.1=6 then Z5v m ph tr nd st dn dg v w else if c.1=7 then (if m.1≤c.2.1 then Z6g 8 else ([],((Zwk m ph st dn w).getD c.2.1.toNat [],([],0)))) else if c.1=8 then ([],([],(Zk7 m ph tr nd st dn v w,0))) else if c.1=9 then Z9v m ph tr nd st dn dg v w c.2.1 else if c.1=10 then Z8j (Z4c m.2 ph tr nd st dn dg 0 w) else Z8j (Zip m ph tr nd st dn dg v w)
structure CmdOk (c:Zhd):Prop where
 r:1≤c.1∧c.1≤11
 k1:c.1=1→(1≤c.2.1∧c.2.1≤20)∧(0≤c.2.2.1∧c.2.2.1≤4)∧c.2.2.2.1.length≤32
 k2:c.1=2→Z6c c.2.2.2.2.1 c.2.2.2.2.2.1 c.2.2.2.2.2.2.1 c.2.2.2.2.2.2.2 8=true
 k7:c.1=7→0≤c.2.1
 k9:c.1=9→1≤c.2.1∧c.2.1≤24
theorem Zx9 {c:Zhd} (h:Zkh c=true):CmdOk c:=by
 unfold Zkh at h
 split at h
 ·rename_i q
  simp only [Ya,decide_eq_true_eq] at h;exact ⟨by omega,fun _=>⟨by omega,by omega,by omega⟩,by omega,by omega,by omega⟩
 ·split at h
  ·rename_i q
   simp only [Ya,decide_eq_true_eq] at h;exact ⟨by omega,by omega,fun _=>h.2,by omega,by omega⟩
  ·split at h
   ·rename_i q
    simp only [Ya,decide_eq_true_eq] at h;exact ⟨by omega,by omega,by omega,by omega,fun _=>by omega⟩
   ·split at h
    ·rename_i q
     simp only [Ya,decide_eq_true_eq] at h;exact ⟨by omega,by omega,by omega,fun _=>by omega,by omega⟩
    ·simp only [Ya,decide_eq_true_eq] at h
     exact ⟨by omega,by omega,by omega,by omega,by omega⟩
section
variable {m:Zo} {ph tr nd st dn:Int} {dg:Str} {v w:Nat}
theorem Zvbb (h:MSt m ph tr nd st dn dg v w) {n:Int} (h1:1≤n) {l:List Int} (hr:Zcj (Zhe v w) n=some l):Zfi l<16777216∧l=Zb (Zfi l)∧v &&& Zfi l=0∧(v ||| Zfi l)<16777216:=by
 obtain ⟨⟨u,u1,u2,u3⟩,_⟩:=Zh6 (Zaz h.hv h.hw) h1 hr
 have e:Zfi l=u:=by rw [u2];exact Za9 u1
 rw [e]
 refine ⟨u1,u2,and_zero (fun i hi q=>?_) h.hv,?_⟩
 ·have:=u3 i q.2
  rw [Zibb hi,q.1] at this;cases this
 ·have:v ||| u<2^24:=Nat.or_lt_two_pow (by simpa using h.hv) (by simpa using u1)
  simpa using this
theorem Zvpb (h:MSt m ph tr nd st dn dg v w) {c:Zhd} (hc:CmdOk c):Zc fun k=>Zrh k m (ph,(tr,(nd,(st,(dn,(dg,(Zb v,Zb w))))))) c=some (Zxm m c ph tr nd st dn dg v w):=by
 have hf:=h.fit
 have hb:=hf.b
 have hn:=hf.n
 have hdr:=hf.dirt
 have hk0:=h.keep
 have hll:=h.log
 have hlv:=Z7d v
 have hlw:=Z7d w
 have hcp:=Zto v w ph tr nd st dn dg
 obtain ⟨o,a,b,t,s⟩:=c
 have hr:=hc.r
 dsimp only at hr
 have ho:o=1∨o=2∨o=3∨o=4∨o=5∨o=6∨o=7∨o=8∨o=9∨o=10∨o=11:=by omega
 rcases ho with rfl | rfl | rfl | rfl | rfl | rfl | rfl | rfl | rfl | rfl | rfl
 ·obtain ⟨q1,q2,q3⟩:=hc.k1 rfl
  refine (Zypb h (1,(a,(b,(t,s)))) q1 q2 q3).mono fun k e=>?_
  unfold Zrh;exact Za hcp (Za e rfl)
 ·refine (Z2qb h (2,(a,(b,(t,s)))) (hc.k2 rfl)).mono fun k e=>?_
  unfold Zrh;exact Za hcp (Za e rfl)
 ·refine (Zcqb h).mono fun k e=>?_
  unfold Zrh;exact Za hcp (Za e rfl)
 ·refine (Zqk (m:=m) hf.f h.two (Zkn h.hv)).mono fun k e=>?_
  unfold Zrh;refine Za hcp ?_;show (bif (ph==1)||(ph==5) then _ else _)=some (if ph=1∨ph=5 then Z6g 10 else Z8j (Zgo m v))
  by_cases q:ph=1∨ph=5
  ·rw [Xc q,show ((ph==1)||(ph==5))=true by rcases q with q | q <;> rw [q] <;> rfl]
   rfl
  ·rw [Xd q,show ((ph==1)||(ph==5))=false by
    rw [Yia];exact ⟨by simp;omega,by simp;omega⟩,Xf]
   exact Za (Z40 v _ _ _ _ _ _ _) (Za e rfl)
 ·refine (Zqk (m:=m) hf.f h.two (a:=5) (b:=0) { hk0 with a:=by omega,b:=by omega }).mono fun k e=>?_
  unfold Zrh;refine Za hcp ?_;show (bif ph != 4 then _ else _)=some (if ph=4 then Z8j ([(false,(2,[])),Z9e]++Z4c m.2 5 0 nd st dn dg v w) else Z6g 10)
  by_cases q:ph=4
  ·rw [Xc q,show (ph != 4)=false by simpa using q,Xf]
   have hkl:=Z0t m.2 (Zdd (5,0,nd,st,dn,(v:Int),(w:Int),dg));exact Za e (Za (Z6 (by unfold Z4c;simp;omega)) rfl)
  ·rw [Xd q,show (ph != 4)=true by simpa using q]
   rfl
 ·refine (Zfqb h).mono fun k e=>?_
  unfold Zrh;exact Za hcp (Za e rfl)
 ·refine (Z7qb h).mono fun k e=>?_
  have h7:=hc.k7 rfl;dsimp only at h7;have hvl:=Zjsb h;unfold Zrh;refine Za hcp ?_;show (bif decide (m.1≤a) then _ else _)=some (if m.1≤a then Z6g 8 else ([],((Zwk m ph st dn w).getD a.toNat [],([],0))))
  by_cases q:m.1≤a
  ·rw [Xc q,Xa q]
   rfl
  ·rw [Xd q,Xb q,Xf]
   have hat:=Ztr (l:=Zwk m ph st dn w) (n:=a) h7 (by omega);exact Za e (Za hat (Za hat rfl))
 ·have hmv:Zc fun k=>ph=5→Z4j k m (ph,(tr,(nd,(st,(dn,(dg,(Zb v,Zb w)))))))=some (Zj (Zf m st w)):=if h5:ph=5 then (Z70 h (by omega)).mono fun k e _=>e else Zc.of fun k q=>absurd q h5
  refine (((Zuo ph tr nd st dn dg (Zb v) hf).and hmv).and (Zc.ge 200 fun k hk=>hk)).mono fun k ⟨⟨p3,e⟩,hk⟩=>?_
  have hj:Zeh.j0 k m.1 m.2.1 m.2.2 ph tr nd st dn dg (Zb v) (Zb w) 0=some (if ph=5 then ((Zj (Zf m st w)).length:Int)-dn else 0):=by
   unfold Zeh.j0
   by_cases h5:ph=5
   ·have hS:=h.snd (by omega)
    have hpl:=hS.plan;have hdn:=hS.dn;rw [Xc h5,show (ph==5)=true by simpa using h5,Xe];refine Za (e h5) ?_;rw [w64 (n:=((Zj (Zf m st w)).length:Int)-dn) (by omega) (by omega)]
   ·rw [Xd h5,show (ph==5)=false by simpa using h5]
    rfl
  unfold Zrh;refine Za hcp (Za (a:=([],([],(Zk7 m ph tr nd st dn v w,0)))) ?_ rfl);unfold Zeh;exact Za p3 (Za hj (Za (Zw6 _ hll.2.1 (by omega)) (Za (Zbfb v w (by omega)) rfl)))
 ·obtain ⟨q1,q2⟩:=hc.k9 rfl
  dsimp only at q1 q2;obtain ⟨n,rfl⟩:∃n:Nat,a=(n:Int):=⟨a.toNat,by omega⟩;have hres:∀k,200≤k→Zbd k (Zb v) (Zb w) (n:Int)=some (Zfu (Zcj (Zhe v w) (n:Int)) 11):=fun k hk=>Z46 v w n h.hv h.hw (by omega) hk
  have goalE:Zxm m (9,((n:Int),(b,(t,s)))) ph tr nd st dn dg v w=Z9v m ph tr nd st dn dg v w (n:Int):=rfl;rw [goalE];unfold Z9v;cases hq:Zcj (Zhe v w) (n:Int) with
  | none=>
   refine (Zc.ge 200 fun k hk=>hk).mono fun k hk=>?_
   have hr2:=hres k hk;rw [hq] at hr2;unfold Zrh;exact Za hcp (Za hr2 rfl)
  | some l=>
   obtain ⟨u1,u2,u3,u4⟩:=Zvbb h (by omega) hq;refine ((Zqk (m:=m) hf.f h.two (v:=v ||| Zfi l) { hk0 with v:=u4 }).and (Zc.ge 200 fun k hk=>hk)).mono fun k ⟨e,hk⟩=>?_
   have hr2:=hres k hk;rw [hq] at hr2;unfold Zrh;refine Za hcp (Za hr2 ?_)
   have hbl:Zle k l=some ((Zfi l:Nat):Int):=by
    have:=Zz0 (Zfi l) u1 k (by omega);rw [← u2] at this;exact this
   have hv2:=h.hv;refine Za (Zz0 v h.hv k (by omega)) (Za hbl ?_);rw [w64 (n:=((v:Nat):Int)+((Zfi l:Nat):Int)) (by omega) (by omega),show ((v:Nat):Int)+((Zfi l:Nat):Int)=((v ||| Zfi l:Nat):Int) by rw [← Zkhb h.hv u1 u3];omega];exact Za (Zcfb _ u4 k (by omega)) (Za e rfl)
 ·refine (Zqk (m:=m) hf.f h.two (v:=0) { hk0 with v:=by omega }).mono fun k e=>?_
  rw [Z8s] at e;unfold Zrh;exact Za hcp (Za e rfl)
 ·refine (Z5eb h.toMS0).mono fun k e=>?_
  unfold Zrh;exact Za hcp (Za e rfl)
end
def Z2k (m:Zo) (c:Zhd):Zrm:=if Zqd m=true∧Zkh c=true then (if (Zr m.2).1=1000000 then Z6g 9 else match stM m with
 | some (ph,tr,nd,st,dn,dg,v,w)=>Zxm m c ph tr nd st dn dg v w
 | none=>Z6g 1) else Z6g 1
theorem Zu6 (m:Zo) (c:Zhd) (hl:m.2.1.length≤1048576) (hl2:m.2.2.length≤1048576):Zc fun k=>Zkl k m c=some (Z2k m c):=by
 unfold Z2k
 cases hm:Zqd m with
 | false=>
  rw [Xd (fun q=>by cases q.1)];refine (Zzq m hl hl2).mono fun k e=>?_
  rw [hm] at e;unfold Zkl Z7h;exact Za (Za e rfl) rfl
 | true=>
  cases hc:Zkh c with
  | false=>
   rw [Xd (fun q=>by cases q.2)];refine (Zzq m hl hl2).mono fun k e=>?_
   rw [hm] at e;have ec:=Zbx c;rw [hc] at ec;unfold Zkl Z7h;exact Za (Za e (Za ec rfl)) rfl
  | true=>
   rw [Xc ⟨rfl,rfl⟩];have es:=Zbx c;rw [hc] at es;have hok:=Zx9 hc;cases hs:stM m with
   | none=>unfold Zqd at hm;rw [hs] at hm;cases hm
   | some z=>
    obtain ⟨ph,tr,nd,st,dn,dg,v,w⟩:=z;have h:=Zk5 hs hm;dsimp only;have hgen:=Zmw m.2;have pre0:Zc fun k=>Zjf k m=some (Zeu (some (ph,tr,nd,st,dn,dg,v,w))):=by rw [← hs];exact Zps m hl hl2
    refine ((((Zzq m hl hl2).and (Z60 h.fit.f h.two)).and pre0).and (Zvpb h hok)).mono fun k ⟨⟨⟨e1,e2⟩,e3⟩,e4⟩=>?_
    rw [hm] at e1;unfold Zkl
    by_cases cg:(Zr m.2).1=1000000
    ·rw [Xc cg]
     refine Za (a:=9) ?_ rfl;unfold Z7h;refine Za e1 (Za es (Za e2 ?_));rw [Xa (by omega:(1000000:Int)≤(Zr m.2).1)];rfl
    ·rw [Xd cg]
     refine Za (a:=0) ?_ ?_
     ·unfold Z7h
      refine Za e1 (Za es (Za e2 ?_));rw [Xb (by omega:¬(1000000:Int)≤(Zr m.2).1)];rfl
     ·show (bif ((0:Int) != 0) then _ else _)=_
      rw [show ((0:Int) != 0)=false from rfl,Xf];exact Za e3 (Za e4 rfl)
def Zxk (f:Z5) (n:Int) (s:Str):Z5:=match Zqi f n with
 | some i=>(f.1,f.2.set i (n,s))
 | none=>(f.1,f.2++[(n,s)])
def Zoh (s:List Str) (l:List Z5b):List Str:=l.foldl (fun s d=>s.set d.1.toNat d.2) s
def Z6o (f:Z5):Z5:=(Zoh f.1 f.2,[])
def doA (f:Z5) (a:Bool×Int×Str):Z5:=if a.1=true then Z6o f else Zxk f a.2.1 a.2.2
def doF (f:Z5) (l:List (Bool×Int×Str)):Z5:=l.foldl doA f
def Z4s (n:Nat) (a:Bool×Int×Str):Prop:=a.1=false→(0≤a.2.1∧a.2.1<(n:Int))∧a.2.2.length≤96
structure FlashP (f:Z5):Prop where
 n:1≤f.1.length∧f.1.length≤40
 s:∀x∈f.1,x.length≤96
 d:∀x∈f.2,(0≤x.1∧x.1<(f.1.length:Int))∧x.2.length≤96
 u:(f.2.map fun x=>x.1).Nodup
theorem FlashP.len {f:Z5} (h:FlashP f):f.2.length≤f.1.length:=by
 have:=Zqw f.1.length (f.2.map fun x=>x.1.toNat) (by
  have hu:=h.u;unfold List.Nodup at hu ⊢;rw [Y1] at hu ⊢;refine hu.imp_of_mem fun {a b} ha hb q e=>q ?_
  have:=(h.d a ha).1;have:=(h.d b hb).1;omega) (fun x hx=>by
  obtain ⟨y,hy,rfl⟩:=Yi.1 hx;have:=(h.d y hy).1;omega)
 simpa using this
theorem FlashP.b {f:Z5} (h:FlashP f):Zwg f=true:=by
 unfold Zwg
 rw [Ya,Ya]
 refine ⟨Xa ⟨h.n.1,h.n.2,h.len⟩,Yr.2 fun x hx=>Xa (h.s x hx),Yr.2 fun i hi=>?_⟩
 have hi:=Yda.1 hi
 have hg:f.2.getD i (0,[])=f.2[i]:=by rw [Yc,Yk hi];rfl
 have hd:=h.d _ (Yg hi)
 unfold okD
 rw [hg,Ya,Ya,Ya]
 refine ⟨⟨⟨Xa hd.1.1,Xa (by omega)⟩,Xa hd.2⟩,?_⟩
 rw [Y3,Y5]
 intro x hx
 obtain ⟨j,hj,rfl⟩:=Yva.1 hx
 have hu:=Yfa.1 (Y1.1 h.u) j i (by omega) hi (by omega)
 simpa using hu
theorem FlashP.of {f:Z5} (h:Zwg f=true):FlashP f:=by
 obtain ⟨h1,h2,_⟩:=Z7r h
 unfold Zwg at h
 rw [Ya,Ya] at h
 have h3:=fun i hi=>Yr.1 h.2.2 i (Yda.2 hi)
 have h4:∀i (hi:i<f.2.length),((0≤f.2[i].1∧f.2[i].1<(f.1.length:Int))∧f.2[i].2.length≤96)∧∀j (hj:j<i),f.2[j].1≠f.2[i].1:=fun i hi=>by
  have hg:f.2.getD i (0,[])=f.2[i]:=by rw [Yc,Yk hi];rfl
  have h5:=h3 i hi;unfold okD at h5;rw [hg,Ya,Ya,Ya] at h5;obtain ⟨⟨⟨a,b⟩,c⟩,d⟩:=h5;have b:=of_decide_eq_true b;refine ⟨⟨⟨of_decide_eq_true a,by omega⟩,of_decide_eq_true c⟩,fun j hj=>?_⟩;rw [Y3,Y5] at d;have:=d f.2[j] (Yva.2 ⟨j,by omega,rfl⟩);simpa using this
 refine ⟨⟨h1.1,h1.2.1⟩,h2,fun x hx=>?_,?_⟩
 ·obtain ⟨i,hi,rfl⟩:=Y0.1 hx
  exact (h4 i hi).1
 ·refine Y1.2 (Yfa.2 fun i j hi hj hij=>(h4 j hj).2 i hij)
theorem Zew:∀(l:List Z5b) (s:List Str),(Zoh s l).length=s.length
 | [],_=>rfl
 | d::l,s=>by
  show (Zoh (s.set d.1.toNat d.2) l).length=_;rw [Zew l,Yaa]
theorem Zkcb:∀(l:List Z5b) (s:List Str),(∀x∈s,x.length≤96)→(∀d∈l,d.2.length≤96)→∀x∈Zoh s l,x.length≤96
 | [],_,h,_=>h
 | d::l,s,h,hd=>by
  refine Zkcb l _ (fun x hx=>?_) fun y hy=>hd y (Yl _ hy)
  rcases Yca hx with q | q
  ·exact h x q
  ·rw [q];exact hd d Ye
theorem FlashP.sync {f:Z5} (h:FlashP f):FlashP (Z6o f):=by
 refine ⟨?_,Zkcb f.2 f.1 h.s fun d hd=>(h.d d hd).2,fun x hx=>(by cases hx),Yea⟩
 show 1≤(Zoh f.1 f.2).length∧(Zoh f.1 f.2).length≤40
 rw [Zew]
 exact h.n
theorem FlashP.write {f:Z5} (h:FlashP f) {n:Int} {s:Str} (hn:0≤n∧n<(f.1.length:Int)) (hs:s.length≤96):FlashP (Zxk f n s):=by
 unfold Zxk
 cases hd:Zqi f n with
 | some i=>
  have hi:=Zht hd;obtain ⟨_,_,h3,_⟩:=Zdk (show Zmb (fun x:Z5b=>x.1==n) f.2 0=some i from hd);have h3:f.2[i].1=n:=by simpa using h3
  have hm:(f.2.set i (n,s)).map (fun x=>x.1)=f.2.map fun x=>x.1:=by
   rw [List.map_set];refine Y7 (by simp) fun j h1 h2=>?_
   rw [List.getElem_set];split
   ·rename_i q
    subst q;simp [h3]
   ·rfl
  refine ⟨h.n,h.s,fun x hx=>?_,?_⟩
  ·rcases Yca hx with q | q
   ·exact h.d x q
   ·rw [q];exact ⟨hn,hs⟩
  ·show ((f.2.set i (n,s)).map fun x=>x.1).Nodup
   rw [hm];exact h.u
 | none=>
  have hno:=Zrp.1 (show Zmb (fun x:Z5b=>x.1==n) f.2 0=none from hd);refine ⟨h.n,h.s,fun x hx=>?_,?_⟩
  ·rcases Yu.1 hx with q | q
   ·exact h.d x q
   ·rw [Yn.1 q];exact ⟨hn,hs⟩
  ·show ((f.2++[(n,s)]).map fun x=>x.1).Nodup
   rw [List.map_append];refine List.nodup_append.2 ⟨h.u,by simp,fun a ha b hb=>?_⟩;obtain ⟨y,hy,rfl⟩:=Yi.1 ha;have:=hno y hy;simp only [List.map_cons,List.map_nil,Yn] at hb;subst hb;simpa using this
theorem Znsb (f:Z5) (n:Int) (s:Str):(Zxk f n s).1=f.1:=by
 unfold Zxk
 split <;> rfl
theorem Zk3 (f:Z5) (a:Bool×Int×Str):(doA f a).1.length=f.1.length:=by
 unfold doA
 split
 ·exact Zew _ _
 ·rw [Znsb]
theorem FlashP.act {f:Z5} (h:FlashP f) {a:Bool×Int×Str} (ha:Z4s f.1.length a):FlashP (doA f a):=by
 unfold doA
 cases q:a.1 with
 | true=>exact h.sync
 | false=>exact h.write (ha q).1 (ha q).2
theorem FlashP.acts:∀(l:List (Bool×Int×Str)) {f:Z5},FlashP f→(∀a∈l,Z4s f.1.length a)→FlashP (doF f l)∧(doF f l).1.length=f.1.length
 | [],f,h,_=>⟨h,rfl⟩
 | a::l,f,h,ha=>by
  obtain ⟨h1,h2⟩:=FlashP.acts l (h.act (ha a Ye)) fun b hb=>by rw [Zk3];exact ha b (Yl _ hb)
  exact ⟨h1,by rw [← Zk3 f a];exact h2⟩
theorem Zlab (f:Z5) {l:List (Bool×Int×Str)} {i:Nat} (h:i<l.length):doF f (l.take (i+1))=doA (doF f (l.take i)) l[i]:=by
 unfold doF
 rw [Y0a h,Yx]
 rfl
theorem Zjcb (s:List Str) {l:List Z5b} {i:Nat} (h:i<l.length):Zoh s (l.take (i+1))=(Zoh s (l.take i)).set l[i].1.toNat l[i].2:=by
 unfold Zoh
 rw [Y0a h,Yx]
 rfl
def Zud (n:Nat) (l:List Zkc):Prop:=∀a∈l,Z4s n a
theorem Ztp (n:Nat):Zud n []:=fun a ha=>by cases ha
theorem Zsp {n:Nat} {a b:List Zkc} (h1:Zud n a) (h2:Zud n b):Zud n (a++b):=fun x hx=>(Yu.1 hx).elim (h1 x) (h2 x)
theorem Z9ab (n:Nat):Z4s n Z9e:=fun q=>by cases q
theorem Zup (n:Nat):Zud n [Z9e]:=fun a ha=>by rw [Yn.1 ha];exact Z9ab n
theorem Z6r {n:Nat} {a:Zkc} {l:List Zkc} (h1:Z4s n a) (h2:Zud n l):Zud n (a::l):=fun x hx=>(Ym.1 hx).elim (fun q=>q▸h1) (h2 x)
theorem Zud.take {n:Nat} {l:List Zkc} (h:Zud n l) (i:Nat):Zud n (l.take i):=fun a ha=>h a (List.mem_of_mem_take ha)
theorem Zi0 {n:Int} (h0:0≤n) (h:n≤1000000):(Zk n).length≤3:=by
 unfold Zk
 rw [Zdl]
 refine Zfz 10 _ 3 ?_ (by omega)
 unfold zig
 rw [Xd (by omega)]
 omega
theorem Zzdb {t:Str} (h:t.length≤1000):(Zcb t).length≤3+t.length:=by
 unfold Zcb
 rw [Yb]
 have:=Zi0 (n:=(t.length:Int)) (by omega) (by omega)
 omega
theorem Zvnb {n:Int} {t:Str} (h0:0≤n) (h:n≤1000000) (ht:t.length≤80):(Z7l n t).length≤96:=by
 have h1:=Zi0 h0 h
 have h2:=Zzdb (t:=t) (by omega)
 unfold Z7l
 rw [Z0q,Yb]
 omega
theorem Zaob {n a:Int} {t:Str} (hn:0≤n∧n≤1000000) (ha:0≤a∧a≤1000000) (ht:t.length≤8):(Z8b n a t).length≤96:=by
 have h1:=Zi0 hn.1 hn.2
 have h2:=Zi0 ha.1 ha.2
 have h3:=Zzdb (t:=t) (by omega)
 unfold Z8b Zje
 rw [Z0q,Yb,Yb]
 omega
theorem Zjeb {n:Int} {x:Zi}:x.2.2.2.length≤8→(Zaj n x).length≤96:=fun h=>by
 have l0:=Zuc n
 have l1:=Zuc x.1
 have l2:=Zuc x.2.1
 have l3:=Zuc x.2.2.1
 have l4:=Zok x.2.2.2
 unfold Zaj Zzu
 rw [Z0q]
 simp only [Yb]
 omega
section
variable {m:Zo} {ph tr nd st dn:Int} {dg:Str} {v w:Nat}
theorem Zsmb {f:Z5} {n:Nat} (h2:2≤n) {t:Str} (ht:t.length≤80):Zud n (Zln f t):=by
 unfold Zln
 split
 ·rename_i hg
  have h0:=Zmw f;refine Z6r (fun _=>⟨?_,Zvnb (by omega) (by omega) ht⟩) (Zup n);dsimp only;split <;> omega
 ·exact Ztp n
theorem Zqj {f:Z5} {n:Nat} (h2:2≤n) {a b c d e:Int} {x:Str} {v w:Nat} (h:Keep a b c d e x v w):Zud n (Z4c f a b c d e x v w):=Zsmb h2 h.len
theorem Zlmb {n:Nat} (h2:2≤n) (hv:v<16777216):Zud n (Zgo m v):=Zqj h2 (Zkn hv)
theorem Zyjb (hf:Fit m st w) (l:List Int) (hx:∀x∈l,0≤x∧x≤23):Zud m.2.1.length (Z5g m l):=by
 have hb:=hf.b
 have hn:=hf.n
 intro a ha
 unfold Z5g at ha
 obtain ⟨x,q,rfl⟩:=Yi.1 ha
 have:=hx x (Yz.1 q).1
 exact fun _=>⟨by dsimp only;omega,by simp⟩
theorem Z9mb (hf:Fit m st w) (l:List Int) (hx:∀x∈l,0≤x∧x≤23):Zud m.2.1.length (Znq m l):=by
 unfold Znq
 split
 ·exact Ztp _
 ·exact Zsp (Zyjb hf l hx) (Zup _)
theorem Zynb (w:Nat):∀x∈Zb w,0≤x∧x≤23:=fun x hx=>by
 obtain ⟨j,hj,rfl⟩:=Y0.1 hx
 exact Z3k hj
theorem Z9nb (s:Str) (n:Int) {k:Nat} (h:(Zic s n).2.1<(k:Int)):Z4s k (Zic s n):=fun q=>by
 refine ⟨⟨(Zfdb s n q).1,h⟩,?_⟩
 unfold Zic at q ⊢
 split at q
 ·rename_i hq
  rw [Xc hq];split at q
  ·split at q
   ·rename_i q2
    rw [Xc q2];have:=(Zam.1 q2.2).2.2;dsimp only;omega
   ·cases q
  ·cases q
 ·cases q
theorem Zq2 (h:MS0 m ph tr nd st dn dg v w):Zud m.2.1.length (Zip m ph tr nd st dn dg v w):=by
 have hf:=h.fit
 have hk0:=h.keep
 have h2:=h.two
 unfold Zip
 by_cases c2:ph=2
 ·rw [Xc c2]
  exact Z9mb hf _ fun x hx=>Zynb w x (List.mem_of_mem_drop hx)
 ·rw [Xd c2]
  by_cases c3:ph=3
  ·rw [Xc c3]
   exact Zqj h2 { hk0 with a:=by omega,b:=by omega }
  ·rw [Xd c3]
   by_cases c4:ph=4
   ·rw [Xc c4]
    by_cases ct:tr=0
    ·rw [Xc ct]
     exact Zqj h2 (Zkn h.hv)
    ·rw [Xd ct]
     have hbz:=(h.busy (by omega)).2.2.2.2.1;exact Zqj h2 { hk0 with a:=by omega,b:=by omega }
   ·rw [Xd c4]
    by_cases c5:ph=5
    ·rw [Xc c5]
     obtain ⟨q1,q2,q3,q4,q5,q6,q7,q8⟩:=h.busy (by omega);split
     ·exact Ztp _
     ·rename_i q
      refine Zsp (Z6r (Z9nb _ _ (Int.not_le.1 fun z=>q (.inr z))) (Zup _)) (Zqj h2 { hk0 with a:=by omega,e:=by omega })
    ·rw [Xd c5]
     exact Ztp _
theorem Zghb (h:MSt m ph tr nd st dn dg v w) {c:Zhd} (hc:CmdOk c):Zud m.2.1.length (Zxm m c ph tr nd st dn dg v w).1:=by
 have hf:=h.fit
 have hb:=hf.b
 have hn:=hf.n
 have h2:=h.two
 have hk0:=h.keep
 have hid:=Zlmb (m:=m) h2 h.hv
 have nil:=Ztp m.2.1.length
 unfold Zxm
 split
 ·rename_i c1
  obtain ⟨q1,q2,q3⟩:=hc.k1 c1;unfold Zmv;split
  ·split
   ·rename_i l hl
    obtain ⟨u,u1,u2,u3,u4,u5⟩:=Zneb (Zaz h.hv (by omega)) (by omega) hl;refine Zsp (Zsp (fun a ha=>?_) (Zup _)) (Zqj h2 { hk0 with a:=by omega,b:=by omega,c:=by omega,d:=by omega,e:=by omega,x:=q3,w:=by omega });unfold Zqm at ha;obtain ⟨x,q,rfl⟩:=Yi.1 ha;have:=u5 x q;exact fun _=>⟨by dsimp only;omega,by simp⟩
   ·exact nil
  ·exact nil
 ·split
  ·rename_i c2
   have hx:=hc.k2 c2;unfold Zxs;split
   ·rename_i p2
    split
    ·exact nil
    ·rename_i hne
     split
     ·obtain ⟨q1,q2,q3,q4,q5,q6,q7,q8⟩:=h.busy (by omega)
      have hll:=h.log;refine Z6r (fun _=>⟨?_,Zjeb (Zys hx)⟩) ?_
      ·have:=Z7s (w:=w) (n:=st+((Zf m st w).length:Int)) (by omega) (by omega)
       dsimp only;omega
      ·split
       ·exact Zup _
       ·exact nil
     ·exact nil
   ·exact nil
  ·split
   ·unfold Z2v
    split
    ·split
     ·split
      ·split
       ·split
        ·exact hid
        ·exact Zsp (Zup _) (Zqj h2 { hk0 with a:=by omega })
       ·exact hid
      ·exact hid
     ·exact hid
    ·exact nil
   ·split
    ·split
     ·exact nil
     ·exact hid
    ·split
     ·split
      ·refine Zsp (Z6r (fun _=>⟨by dsimp only;omega,by simp⟩) (Zup _)) (Zqj h2 { hk0 with a:=by omega,b:=by omega })
      ·exact nil
     ·split
      ·unfold Z5v
       split
       ·rename_i p5
        split
        ·exact hid
        ·rename_i hne
         have hS:=h.snd (by omega);have hdn:=hS.dn;have hlt:dn<((Zj (Zf m st w)).length:Int):=by omega
         have hpl:=hS.plan;have hr:=Zebb hS hlt;have hl:=Zfbb hS hlt
         have hr2:Zek m st dn w<(m.2.1.length:Int):=by
          obtain ⟨_,z2,z3⟩:=Zow hS hlt;unfold Zek;rcases z3 with ⟨q,_,q1,q2⟩ | ⟨q,_⟩
          ·rw [Xc q];omega
          ·rw [Xd (by omega)];omega
         refine Zsp (Z6r (fun _=>⟨by dsimp only;omega,?_⟩) (Z6r (Z9ab _) (Z6r (fun _=>⟨⟨hr.1,hr2⟩,hl⟩) (Zup _)))) (Zqj h2 { hk0 with e:=by omega });dsimp only;split
         ·exact Zaob ⟨by omega,by omega⟩ ⟨by omega,by omega⟩ (by omega)
         ·simp
       ·exact nil
      ·split
       ·split
        ·exact nil
        ·exact nil
       ·split
        ·exact nil
        ·split
         ·rename_i c9
          obtain ⟨q1,q2⟩:=hc.k9 c9;unfold Z9v;split
          ·rename_i l hl
           obtain ⟨n,hn9⟩:∃n:Nat,c.2.1=(n:Int):=⟨c.2.1.toNat,by omega⟩;rw [hn9] at hl;obtain ⟨u1,u2,u3,u4⟩:=Zvbb h (by omega) hl;exact Zqj h2 { hk0 with v:=u4 }
          ·exact nil
         ·split
          ·exact Zqj h2 { hk0 with v:=by omega }
          ·exact Zq2 h.toMS0
end
theorem Z3x (m:Zo) (c:Zhd):Zud m.2.1.length (Z2k m c).1:=by
 unfold Z2k
 split
 ·rename_i hmc
  split
  ·exact Ztp _
  ·split
   ·rename_i ph tr nd st dn dg v w hs
    exact Zghb (Zk5 hs hmc.1) (Zx9 hmc.2)
   ·exact Ztp _
 ·exact Ztp _
def Znx (old fresh:Str) (n:Int):Str:=if n<1 then old else if n=1 then fresh else fresh.take (n-2).toNat
def Z1l (s:List Str) (l:List Z5b) (fs:List Int):Nat→List Str
 | 0=>s
 | i+1=>(Z1l s l fs i).set (l.getD i (0,[])).1.toNat (Znx (s.getD (l.getD i (0,[])).1.toNat []) (l.getD i (0,[])).2 (fs.getD i 0))
def Zmp (f:Z5) (fs:List Int):Z5:=(Z1l f.1 f.2 fs f.2.length,[])
theorem Zdsb {old fresh:Str} {n:Int} (h1:old.length≤96) (h2:fresh.length≤96):(Znx old fresh n).length≤96:=by
 unfold Znx
 split
 ·exact h1
 ·split
  ·exact h2
  ·rw [Yta];omega
theorem Ze3 (s:List Str) (l:List Z5b) (fs:List Int):∀i,(Z1l s l fs i).length=s.length
 | 0=>rfl
 | i+1=>by
  unfold Z1l;rw [Yaa,Ze3 s l fs i]
theorem Zbz {l:List Z5b} {i:Nat} (h:i<l.length):l.getD i (0,[])=l[i]:=by rw [Yc,Yk h];rfl
theorem Zas {l:List Str} {i:Nat} (h:i<l.length):l.getD i []=l[i]:=by rw [Yc,Yk h];rfl
theorem Z69 {f:Z5} (h:FlashP f) (fs:List Int):∀i,i≤f.2.length→∀x∈Z1l f.1 f.2 fs i,x.length≤96
 | 0,_=>h.s
 | i+1,hi=>fun x hx=>by
  unfold Z1l at hx;rcases Yca hx with q | q
  ·exact Z69 h fs i (by omega) x q
  ·have hd:=h.d _ (Yg (show i<f.2.length by omega))
   rw [q,Zbz (by omega)];refine Zdsb ?_ hd.2;rw [Zas (by omega)];exact h.s _ (Yg _)
theorem FlashP.crash {f:Z5} (h:FlashP f) (fs:List Int):FlashP (Zmp f fs)∧(Zmp f fs).1.length=f.1.length:=by
 have hl:(Zmp f fs).1.length=f.1.length:=Ze3 _ _ _ _
 exact ⟨⟨by rw [hl];exact h.n,Z69 h fs _ (Yj _),fun x hx=>(by cases hx),Yea⟩,hl⟩
theorem Z6ab {α:Type} (p:α→Bool) (d:α):∀(l:List α) (n:Nat),(match Zmb p l n with | some i=>some (l.getD (i-n) d) | none=>none)=l.find? p
 | [],n=>rfl
 | x::l,n=>by
  unfold Zmb;cases h:p x with
  | true=>simp [h]
  | false=>
   have ih:=Z6ab p d l (n+1);rw [Ys (by simp [h]),← ih];rw [Xd Yv];cases h2:Zmb p l (n+1) with
   | none=>rfl
   | some i=>
    have:=(Zdk h2).1;show some ((x::l).getD (i-n) d)=some (l.getD (i-(n+1)) d);rw [show i-n=(i-(n+1))+1 by omega];rfl
theorem Zez (f:Z5) (n:Int):Zm f n=match f.2.find? (fun x=>x.1==n) with | some d=>d.2 | none=>f.1.getD n.toNat []:=by
 have h:=Z6ab (fun x:Z5b=>x.1==n) (0,[]) f.2 0
 unfold Zm Zqi
 rw [← h]
 cases Zmb (fun x:Z5b=>x.1==n) f.2 0 <;> rfl
theorem Z5ab {p:Z5b→Bool} {y:Z5b}:∀(l:List Z5b) (i:Nat) (h:i<l.length),p l[i]=false→p y=false→(l.set i y).find? p=l.find? p
 | x::l,0,_,h1,h2=>by
  have h1:p x=false:=h1;rw [Yya,Ys (by simp [h2]),Ys (by simp [h1])]
 | x::l,i+1,h,h1,h2=>by
  rw [Yxa,Yna,Yna,Z5ab l i (by simpa using h) (by simpa using h1) h2]
theorem Z4ab {p:Z5b→Bool} {y:Z5b}:∀(l:List Z5b) (i:Nat) (h:i<l.length),(∀j,(hj:j<i)→p (l[j]'(by omega))=false)→p y=true→(l.set i y).find? p=some y
 | x::l,0,_,_,h2=>by rw [Yya,Y8 h2]
 | x::l,i+1,h,h1,h2=>by
  have h0:p x=false:=h1 0 (by omega);rw [Yxa,Ys (by simp [h0]),Z4ab l i (by simpa using h) (fun j hj=>by have:=h1 (j+1) (by omega);simpa using this) h2]
theorem Zfkb {f:Z5} {n:Int} {s:Str} (k:Int):Zm (Zxk f n s) k=if k=n then s else Zm f k:=by
 rw [Zez,Zez]
 unfold Zxk
 cases hd:Zqi f n with
 | some i=>
  have hi:=Zht hd;obtain ⟨_,h2,h3,h4⟩:=Zdk (show Zmb (fun x:Z5b=>x.1==n) f.2 0=some i from hd);have h3:f.2[i].1=n:=by simpa using h3
  by_cases c:k=n
  ·rw [Xc c,Z4ab (p:=fun x=>x.1==k) f.2 i hi (fun j hj=>by have:=h4 j (by omega);rw [c];simpa using this) (by simp [c])]
  ·rw [Xd c,Z5ab (p:=fun x=>x.1==k) f.2 i hi (by rw [h3];simpa using Ne.symm c) (by simpa using Ne.symm c)]
 | none=>
  have hno:=Zrp.1 (show Zmb (fun x:Z5b=>x.1==n) f.2 0=none from hd);show (match (f.2++[(n,s)]).find? (fun x=>x.1==k) with | some d=>d.2 | none=>f.1.getD k.toNat [])=_;rw [List.find?_append]
  by_cases c:k=n
  ·have:f.2.find? (fun x=>x.1==k)=none:=Yt.2 fun x hx=>by rw [c];simpa using hno x hx
   rw [Xc c,this];simp [c]
  ·rw [Xd c]
   have:([(n,s)]:List Z5b).find? (fun x=>x.1==k)=none:=by
    rw [Yt];intro x hx;rw [Yn.1 hx];simpa using Ne.symm c
   rw [this,Option.or_none]
theorem Zicb:∀(l:List Z5b) (s:List Str) (k:Int),(l.map fun x=>x.1).Nodup→(∀x∈l,0≤x.1∧x.1<(s.length:Int))→0≤k→(Zoh s l).getD k.toNat []=match l.find? (fun x=>x.1==k) with | some d=>d.2 | none=>s.getD k.toNat []
 | [],s,k,_,_,_=>rfl
 | d::l,s,k,hu,hr,h0=>by
  have hu2:=Yo.1 hu;have hd:=hr d Ye;have ih:=Zicb l (s.set d.1.toNat d.2) k hu2.2 (fun x hx=>by rw [Yaa];exact hr x (Yl _ hx)) h0;show (Zoh (s.set d.1.toNat d.2) l).getD k.toNat []=_;rw [ih]
  by_cases c:d.1=k
  ·have:l.find? (fun x=>x.1==k)=none:=Yt.2 fun x hx=>by
    have:x.1≠d.1:=fun q=>hu2.1 (Yi.2 ⟨x,hx,q⟩)
    rw [← c];simpa using this
   rw [this,Y8 (by simpa using c),← c];show (s.set d.1.toNat d.2).getD d.1.toNat []=d.2;rw [Yc,List.getElem?_set_self (by omega)];rfl
  ·rw [Ys (by simpa using c)]
   cases l.find? (fun x=>x.1==k) with
   | some y=>rfl
   | none=>
    show (s.set d.1.toNat d.2).getD k.toNat []=s.getD k.toNat [];rw [Yc,List.getElem?_set_ne (by omega),Yc]
theorem Zekb {f:Z5} (h:FlashP f) {k:Int} (h0:0≤k):Zm (Z6o f) k=Zm f k:=by
 rw [Zez f,Zez]
 exact Zicb f.2 f.1 k h.u (fun x hx=>(h.d x hx).1) h0
def Zli (g:Int→Str) (a:Zkc):Int→Str:=fun k=>if a.1=false∧k=a.2.1 then a.2.2 else g k
theorem Zdkb {f:Z5} (h:FlashP f) (a:Zkc) {k:Int} (h0:0≤k):Zm (doA f a) k=Zli (Zm f) a k:=by
 unfold doA Zli
 cases q:a.1 with
 | true=>rw [Xc rfl,Xd (fun z=>by cases z.1),Zekb h h0]
 | false=>
  rw [Xd Yv,Zfkb]
  by_cases c:k=a.2.1
  ·rw [Xc c,Xc ⟨rfl,c⟩]
  ·rw [Xd c,Xd (fun z=>c z.2)]
def Zmi (g:Int→Str) (l:List Zkc):Int→Str:=l.foldl Zli g
theorem Zhsb {g g':Int→Str} {k:Int} (h:g k=g' k) (a:Zkc):Zli g a k=Zli g' a k:=by unfold Zli;rw [h]
theorem Zwgb:∀(l:List Zkc) {g g':Int→Str} {k:Int},g k=g' k→Zmi g l k=Zmi g' l k
 | [],_,_,_,h=>h
 | a::l,g,g',k,h=>Zwgb l (Zhsb h a)
theorem Zdz:∀(l:List Zkc) {f:Z5},FlashP f→Zud f.1.length l→∀{k:Int},0≤k→Zm (doF f l) k=Zmi (Zm f) l k
 | [],f,_,_,k,_=>rfl
 | a::l,f,h,hl,k,h0=>by
  have h1:=Zdz l (h.act (hl a Ye)) (fun b hb=>by rw [Zk3];exact hl b (Yl _ hb)) h0;show Zm (doF (doA f a) l) k=Zmi (Zli (Zm f) a) l k;rw [h1];exact Zwgb l (Zdkb h a h0)
theorem Zisb (g:Int→Str) (a b:List Zkc):Zmi g (a++b)=Zmi (Zmi g a) b:=Yx
theorem Z2u (g:Int→Str) (a:Zkc) (l:List Zkc):Zmi g (a::l)=Zmi (Zli g a) l:=rfl
theorem Zu1:∀(l:List Zkc) {g:Int→Str} {k:Int},(∀a∈l,a.1=false→a.2.1≠k)→Zmi g l k=g k
 | [],_,_,_=>rfl
 | a::l,g,k,h=>by
  rw [Z2u,Zu1 l fun b hb=>h b (Yl _ hb)];unfold Zli;rw [Xd fun z=>h a Ye z.1 z.2.symm]
theorem Zygb (g:Int→Str):Zli g Z9e=g:=by
 funext k
 unfold Zli
 rw [Xd fun z=>by cases z.1]
theorem Zijb (f:Z5) (a b:List Zkc):doF f (a++b)=doF (doF f a) b:=Yx
theorem Zw9 (f:Z5) (l:List Zkc):(doF f (l++[Z9e])).2=[]:=by
 rw [Zijb]
 rfl
theorem Zrob {n:Int} {t:Str} (hn:Num n) (ht:t.length≤8000):Zsq (Zk n++Zcb t)=some (n,t,(Zk n++Zcb t).length):=by
 generalize hs:Zk n++Zcb t=s
 have d0:s.drop 0=Zk n++Zcb t:=by rw [← hs];rfl
 have e1:=Zan n hn s 0 _ d0
 rw [Y2] at e1
 have d1:s.drop (Zk n).length=Zcb t++[]:=by rw [← hs,Yw,Yka]
 have e2:=Z1u t ht s _ [] d1
 have hl:s.length=(Zk n).length+(Zcb t).length:=by rw [← hs,Yb]
 unfold Zsq
 rw [e1]
 dsimp only
 rw [Yf,e2,Xc rfl,Xc rfl]
 dsimp only
 rw [Yf,hl]
theorem Zwnb {n:Int} {t:Str} (h1:1≤n) (h2:n≤1000000) (ht:t.length≤80):Zhc (Z7l n t)=(n,t,0):=by
 unfold Zhc Z7l
 rw [Zx7,Ziy,Xc rfl,Zrob ⟨by omega,by omega⟩ (by omega)]
 dsimp only
 rw [Xc ⟨rfl,by unfold Zmn;rw [Xa h1,Xa h2,Xa ht];rfl⟩]
theorem Zlt {s x t:Str} {i:Nat} (h:s.drop i=x++t):s.drop (i+x.length)=t:=by rw [← List.drop_drop,h,Yw]
theorem Zprb {r:Int×Int×Int×Int×Int×Int×Int×Str} (h1:Num r.1) (h2:Num r.2.1) (h3:Num r.2.2.1) (h4:Num r.2.2.2.1) (h5:Num r.2.2.2.2.1) (h6:Num r.2.2.2.2.2.1) (h7:Num r.2.2.2.2.2.2.1) (h8:r.2.2.2.2.2.2.2.length≤8000):stZ (Zdd r)=some (r,(Zdd r).length):=by
 obtain ⟨a,b,c,d,e,f,g,t⟩:=r
 dsimp only at h1 h2 h3 h4 h5 h6 h7 h8
 generalize hs:Zdd (a,b,c,d,e,f,g,t)=s
 have d0:s.drop 0=Zk a++(Zk b++(Zk c++(Zk d++(Zk e++(Zk f++(Zk g++(Zcb t++[]))))))):=by
  rw [← hs];unfold Zdd;simp only [Y6,Yka];rfl
 have n1:=Zbm h1 d0
 rw [Y2] at n1
 have d1:s.drop (Zk a).length=Zk b++(Zk c++(Zk d++(Zk e++(Zk f++(Zk g++(Zcb t++[])))))):=by
  rw [Yla] at d0;rw [d0,Yw]
 have n2:=Zbm h2 d1
 have d2:=Zlt d1
 have n3:=Zbm h3 d2
 have d3:=Zlt d2
 have n4:=Zbm h4 d3
 have d4:=Zlt d3
 have n5:=Zbm h5 d4
 have d5:=Zlt d4
 have n6:=Zbm h6 d5
 have d6:=Zlt d5
 have n7:=Zbm h7 d6
 have d7:=Zlt d6
 have n8:=Zlgb h8 d7
 have hl:=congrArg List.length d0
 simp only [Yra,Yb,Yh] at hl
 unfold stZ
 simp only [n1,n2,n3,n4,n5,n6,n7,n8,Option.bind_some,Option.map_some]
 congr 2
 omega
theorem Zvrb {a b c d e:Int} {x:Str} {v w:Nat} (h:Keep a b c d e x v w) (hb:Zzg a b c d e x v w=true):Zpm (Zdd (a,b,c,d,e,(v:Int),(w:Int),x))=some (a,b,c,d,e,x,v,w):=by
 have hx:=h.x
 have hv:=h.v
 have hw:=h.w
 unfold Zpm
 rw [Zprb (Z6i h.a) (Z6i h.b) (Z6i h.c) (Z6i h.d) (Z6i h.e) (Zqq h.v) (Zqq h.w) (by show x.length≤8000;omega)]
 dsimp only
 rw [Yf,Yf,Xc ⟨rfl,⟨by omega,by omega⟩,⟨by omega,by omega⟩,hb⟩]
theorem Z2ob {n:Int} {x:Zi} (h1:0≤n∧n≤1000000) (hx:Z6c x.1 x.2.1 x.2.2.1 x.2.2.2 8=true):Z4e (Zaj n x) n=(x.1,x.2.1,x.2.2.1,x.2.2.2,0):=by
 obtain ⟨q1,q2,q3⟩:=Zjdb hx
 have hd:=Zys hx
 have n1:=Zbm (s:=Zk n++Zzu x) (a:=0) (n:=n) ⟨by omega,by omega⟩ (t:=Zzu x) (by rw [Yla])
 unfold Z4e Zaj
 rw [Zx7,Ziy,Xc rfl,n1]
 dsimp only
 rw [Y2,Yw]
 have hs:Z8h (Zzu x)=some (x.1,x.2.1,x.2.2.1,x.2.2.2):=by
  unfold Z8h Zzu;rw [Z3db x.1 x.2.1 x.2.2.1 x.2.2.2 q1 q2 q3 (by omega)];dsimp only;rw [Xc ⟨rfl,hx⟩]
 rw [hs]
 dsimp only
 rw [Xc h1,Xc rfl]
theorem Z3ob (i:Int):(Z4e [] i).2.2.2.2≠0:=by
 unfold Z4e
 have h:(Zxc []).2=4:=rfl
 rw [h,Xd (by omega)]
 show (4:Int)≠0
 omega
theorem Zqfb:∀(L:List Zi) (i:Nat) (l:List Str),(∀x∈L,Z6c x.1 x.2.1 x.2.2.1 x.2.2.2 8=true)→i+L.length≤1000→L.length≤l.length→(∀j,(h:j<L.length)→l.getD j []=Zaj ((i+j:Nat):Int) L[j])→(∀h:L.length<l.length,l.getD L.length []=[])→Zwi l i=L
 | [],i,[],_,_,_,_,_=>rfl
 | [],i,s::l,_,_,_,_,h=>by
  have h:s=[]:=h (by simp);unfold Zwi;rw [h,Xd (Z3ob _)]
 | x::L,i,[],_,_,h,_,_=>by simp at h
 | x::L,i,s::l,hx,hi,hl,hr,hn=>by
  have h0:s=Zaj (((i+0:Nat)):Int) x:=hr 0 (by simp);rw [Nat.add_zero] at h0;simp only [Yd] at hi hl;have hb:=Z2ob (n:=(i:Int)) (x:=x) ⟨by omega,by omega⟩ (hx x Ye);unfold Zwi
  rw [h0,hb,Xc rfl,Zqfb L (i+1) l (fun y hy=>hx y (Yl _ hy)) (by omega) (by omega) (fun j hj=>by
   have:=hr (j+1) (by simp;omega);rw [show i+1+j=i+(j+1) by omega];exact this) (fun h=>hn (by simp;omega))]
def toF (f:Z5):Int:=if (Zr f).2.2.2=0 then 1 else 0
theorem Zmgb (f:Z5):toF f=0∨toF f=1:=by unfold toF;split <;> simp
theorem Zfcb {f f':Z5} {t:Str} (hg:(Zr f).1<1000000) (ht:t.length≤80) (h1:Zm f' (toF f)=Z7l ((Zr f).1+1) t) (h2:Zm f' (1-toF f)=Zm f (1-toF f)):Zr f'=((Zr f).1+1,t,0,toF f):=by
 have h0:=Zmw f
 have hb:=Zwnb (n:=(Zr f).1+1) (t:=t) (by omega) (by omega) ht
 rw [← h1] at hb
 clear h1
 unfold toF at *
 by_cases c1:(Zhc (Zm f 0)).2.2=0∧((Zhc (Zm f 1)).2.2≠0∨(Zhc (Zm f 1)).1≤(Zhc (Zm f 0)).1)
 ·have e:Zr f=((Zhc (Zm f 0)).1,(Zhc (Zm f 0)).2.1,(Zhc (Zm f 0)).2.2,0):=by unfold Zr;rw [Xc c1]
  rw [e] at hb h2 ⊢;dsimp only at hb h2 ⊢;rw [Xc rfl] at hb h2 ⊢;have h2:Zm f' 0=Zm f 0:=h2;unfold Zr;rw [hb,h2,Xd (fun q=>by have:=q.2;dsimp only at this;omega),Xc rfl]
 ·by_cases c2:(Zhc (Zm f 1)).2.2=0
  ·have e:Zr f=((Zhc (Zm f 1)).1,(Zhc (Zm f 1)).2.1,(Zhc (Zm f 1)).2.2,1):=by unfold Zr;rw [Xd c1,Xc c2]
   rw [e] at hb h2 ⊢;dsimp only at hb h2 ⊢;rw [Xd (by omega)] at hb h2 ⊢;have h2:Zm f' 1=Zm f 1:=h2;unfold Zr;rw [hb,h2,Xc ⟨rfl,.inr (by dsimp only;omega)⟩]
  ·have e:Zr f=(0,[],6,-1):=by unfold Zr;rw [Xd c1,Xd c2]
   rw [e] at hb h2 ⊢;dsimp only at hb h2 ⊢;rw [Xd (by omega)] at hb h2 ⊢;have h2:Zm f' 1=Zm f 1:=h2;unfold Zr;rw [hb,h2,Xc ⟨rfl,.inl c2⟩]
structure Dev (m:Zo) (a:List Str) (ph tr nd st dn:Int) (dg:Str) (v w:Nat):Prop where
 b:m.1=(a.length:Int)
 img:Zyd a=true
 fp:FlashP m.2
 n:(m.2.1.length:Int)=m.1+27
 ok:(Zr m.2).2.2.1=0
 txt:(Zr m.2).2.1=Zdd (ph,tr,nd,st,dn,(v:Int),(w:Int),dg)
 kp:Keep ph tr nd st dn dg v w
 sb:Zzg ph tr nd st dn dg v w=true
 base:∀i:Nat,i<a.length→Zm m.2 (3+(i:Int))=a.getD i []
section
variable {m:Zo} {a:List Str} {ph tr nd st dn:Int} {dg:Str} {v w:Nat}
theorem Dev.state (h:Dev m a ph tr nd st dn dg v w):stM m=some (ph,tr,nd,st,dn,dg,v,w):=by
 obtain ⟨i1,i2,_⟩:=Zik h.img
 have hb:=h.b
 unfold stM
 rw [Xc ⟨⟨by omega,by omega⟩,h.fp.b,h.n⟩,Xc h.ok,h.txt,Zvrb h.kp h.sb]
theorem Dev.blocks (h:Dev m a ph tr nd st dn dg v w):Zsb m=a:=by
 have hb:=h.b
 unfold Zsb
 refine Y7 (by simp;omega) fun i h1 h2=>?_
 rw [Yy,Yqa,h.base i h2,Zas h2]
theorem Dev.right (h:Dev m a ph tr nd st dn dg v w) (hs:3≤ph→Zim m st dn w=true):Zqd m=true:=by
 unfold Zqd
 rw [h.state]
 dsimp only
 rw [h.blocks,h.img,Yja]
 by_cases c:ph≤2
 ·rw [Xa c]
  rfl
 ·rw [hs (by omega),Bool.or_true]
theorem Dev.acts (h:Dev m a ph tr nd st dn dg v w) (hs:3≤ph→Zim m st dn w=true) {c:Zhd} (hc:Zkh c=true) (hg:(Zr m.2).1<1000000):Z2k m c=Zxm m c ph tr nd st dn dg v w:=by
 unfold Z2k
 rw [Xc ⟨h.right hs,hc⟩,Xd (by omega),h.state]
theorem Dev.ms0 (h:Dev m a ph tr nd st dn dg v w):MS0 m ph tr nd st dn dg v w:=Z8l h.state
theorem Zoz {f:Z5} (hg:(Zr f).1<1000000) (a b c d e:Int) (x:Str) (v w:Nat):Z4c f a b c d e x v w=[(false,(toF f,Z7l ((Zr f).1+1) (Zdd (a,b,c,d,e,(v:Int),(w:Int),x)))),Z9e]:=by
 unfold Z4c Zln
 rw [Xc hg]
 rfl
theorem Dev.keep (h:Dev m a ph tr nd st dn dg v w) {pre:List Zkc} (hp:Zud m.2.1.length pre) (hno:∀x∈pre,x.1=false→2≤x.2.1) (hg:(Zr m.2).1<1000000) {a':List Str} (hl:a'.length=a.length) (hi:Zyd a'=true) (hb:∀i:Nat,i<a'.length→Zmi (Zm m.2) pre (3+(i:Int))=a'.getD i []) {ph' tr' nd' st' dn':Int} {dg':Str} {v' w':Nat} (K:Keep ph' tr' nd' st' dn' dg' v' w') (S:Zzg ph' tr' nd' st' dn' dg' v' w'=true):
  Dev (m.1,doF m.2 (pre++Z4c m.2 ph' tr' nd' st' dn' dg' v' w')) a' ph' tr' nd' st' dn' dg' v' w'∧(Zr (doF m.2 (pre++Z4c m.2 ph' tr' nd' st' dn' dg' v' w'))).1=(Zr m.2).1+1∧(doF m.2 (pre++Z4c m.2 ph' tr' nd' st' dn' dg' v' w')).2=[]∧∀k:Int,2≤k→Zm (doF m.2 (pre++Z4c m.2 ph' tr' nd' st' dn' dg' v' w')) k=Zmi (Zm m.2) pre k:=by
 have hn:=h.n
 have hmb:=h.b
 obtain ⟨i1,i2,_⟩:=Zik h.img
 have hto:=Zmgb m.2
 have hfit:Zud m.2.1.length (pre++Z4c m.2 ph' tr' nd' st' dn' dg' v' w'):=Zsp hp (Zqj (by omega) K)
 obtain ⟨hF,hlen⟩:=h.fp.acts _ hfit
 have hget:∀k:Int,0≤k→Zm (doF m.2 (pre++Z4c m.2 ph' tr' nd' st' dn' dg' v' w')) k=if k=toF m.2 then Z7l ((Zr m.2).1+1) (Zdd (ph',tr',nd',st',dn',(v':Int),(w':Int),dg')) else Zmi (Zm m.2) pre k:=fun k hk=>by
  rw [Zdz _ h.fp hfit hk,Zisb,Zoz hg,Z2u,Z2u,Zygb];show Zli (Zmi (Zm m.2) pre) (false,(toF m.2,_)) k=_;unfold Zli
  by_cases c:k=toF m.2
  ·rw [Xc ⟨rfl,c⟩,Xc c]
  ·rw [Xd (fun z=>c z.2),Xd c]
 have hk2:∀k:Int,2≤k→Zm (doF m.2 (pre++Z4c m.2 ph' tr' nd' st' dn' dg' v' w')) k=Zmi (Zm m.2) pre k:=fun k hk=>by rw [hget k (by omega),Xd (by omega)]
 have hM:=Zfcb (f:=m.2) (f':=doF m.2 (pre++Z4c m.2 ph' tr' nd' st' dn' dg' v' w')) hg K.len (by rw [hget _ (by omega),Xc rfl]) (by
  rw [hget _ (by omega),Xd (by omega)];exact Zu1 pre fun x hx q=>by have:=hno x hx q;omega)
 refine ⟨⟨?_,hi,hF,?_,?_,?_,K,S,fun i hi=>?_⟩,?_,?_,hk2⟩
 ·show m.1=_
  rw [hl];exact hmb
 ·show ((doF m.2 _).1.length:Int)=m.1+27
  rw [hlen];exact hn
 ·show (Zr (doF m.2 _)).2.2.1=0
  rw [hM]
 ·show (Zr (doF m.2 _)).2.1=_
  rw [hM]
 ·rw [← hb i hi]
  exact hk2 _ (by omega)
 ·rw [hM]
 ·rw [Zoz hg,show ∀x:Zkc,pre++[x,Z9e]=(pre++[x])++[Z9e] from fun x=>by simp]
  exact Zw9 _ _
structure LogAt (m:Zo) (st:Int) (w:Nat) (L:List Zi):Prop where
 ok:∀x∈L,Z6c x.1 x.2.1 x.2.2.1 x.2.2.2 8=true
 le:st.toNat+L.length≤(Zb w).length
 at':∀j,(h:j<L.length)→Zm m.2 (3+m.1+(Zb w).getD (st.toNat+j) 0)=Zaj ((j:Nat):Int) L[j]
 nil:∀j,L.length≤j→st.toNat+j<(Zb w).length→Zm m.2 (3+m.1+(Zb w).getD (st.toNat+j) 0)=[]
theorem Zu8 {j:Nat} (h:st.toNat+j<(Zb w).length):(Zvh m st w).getD j []=Zm m.2 (3+m.1+(Zb w).getD (st.toNat+j) 0):=by
 unfold Zvh
 have hj:j<(((Zb w).drop st.toNat).map fun x=>Zm m.2 (3+m.1+x)).length:=by simp;omega
 rw [Zas hj,Yy,List.getElem_drop,Yc,Yk h]
 rfl
theorem LogAt.log {L:List Zi} (h:LogAt m st w L):Zf m st w=L:=by
 have hle:=h.le
 have hal:(Zvh m st w).length=(Zb w).length-st.toNat:=by unfold Zvh;simp
 have hw:=Z7d w
 unfold Zf
 refine Zqfb L 0 _ h.ok (by omega) (by omega) (fun j hj=>?_) (fun hl=>?_)
 ·rw [Zu8 (by omega),h.at' j hj,Y2]
 ·rw [Zu8 (by omega),h.nil _ (Yj _) (by omega)]
theorem Zznb {i j:Nat} (hi:i<(Zb w).length) (hj:j<(Zb w).length) (h:(Zb w).getD i 0=(Zb w).getD j 0):i=j:=by
 have hs:(Zb w).Pairwise (· < ·):=by
  unfold Zb;exact Y1.2 ((Zwr w 24).imp fun h=>by omega)
 have hg:∀i,(q:i<(Zb w).length)→(Zb w).getD i 0=(Zb w)[i]:=fun i q=>by rw [Yc,Yk q];rfl
 rw [hg i hi,hg j hj] at h
 have hp:=Yfa.1 hs
 rcases Nat.lt_trichotomy i j with q | q | q
 ·have:=hp i j hi hj q;omega
 ·exact q
 ·have:=hp j i hj hi q;omega
theorem Z7cb {i:Nat} (hi:i<(Zb w).length):0≤(Zb w).getD i 0∧(Zb w).getD i 0≤23:=by
 rw [Yc,Yk hi]
 exact Z3k hi
theorem LogAt.move {L:List Zi} {m':Zo} (h:LogAt m st w L) (h0:0≤st) (h1:m'.1=m.1) (h2:∀i,st.toNat≤i→i<(Zb w).length→Zm m'.2 (3+m.1+(Zb w).getD i 0)=Zm m.2 (3+m.1+(Zb w).getD i 0)):LogAt m' st w L:=by
 have hle:=h.le
 refine ⟨h.ok,h.le,fun j hj=>?_,fun j hj hl=>?_⟩
 ·rw [h1,h2 _ (by omega) (by omega)]
  exact h.at' j hj
 ·rw [h1,h2 _ (by omega) hl]
  exact h.nil j hj hl
end
abbrev DoT:=Zo×Str×List Int×Int
def noM:Zo:=(0,([],[]))
def doR (m:Zo) (c:Zhd):DoT:=if Zqd m=true∧Zkh c=true then ((m.1,doF m.2 (Z2k m c).1),(Z2k m c).2) else (noM,([],([],1)))
def Zyr (m:Zo):Zo×Int:=match stM m with
 | some (ph,tr,nd,st,dn,dg,v,w)=>((m.1,doF m.2 (Zip m ph tr nd st dn dg v w)),0)
 | none=>(noM,1)
def Z79 (m:Zo) (l:List Zkc) (n:Int) (fs:List Int):Zo:=(m.1,Zmp (doF m.2 (l.take n.toNat)) fs)
def Zdt (m:Zo) (c:Zhd) (n:Int) (fs:List Int):Zo×Int:=if 400<fs.length then (noM,2) else if (Zqd m=true∧Zkh c=true)∧0≤n then (Z79 m (Z2k m c).1 n fs,0) else (noM,1)
theorem Zxgb {k:Int} {s:Str}:∀(l:List Zkc) (g:Int→Str),(g k=s∨∃a∈l,a.1=false∧a.2.1=k)→(∀a∈l,a.1=false→a.2.1=k→a.2.2=s)→Zmi g l k=s
 | [],g,h,_=>by
  rcases h with h | ⟨a,ha,_⟩
  ·exact h
  ·cases ha
 | a::l,g,h,hs=>by
  rw [Z2u];refine Zxgb l _ ?_ fun b hb=>hs b (Yl _ hb)
  by_cases c:a.1=false∧k=a.2.1
  ·left
   unfold Zli;rw [Xc c];exact hs a Ye c.1 c.2.symm
  ·rcases h with h | ⟨b,hb,h1,h2⟩
   ·left
    unfold Zli;rw [Xd c];exact h
   ·rcases Ym.1 hb with rfl | hb
    ·exact absurd ⟨h1,h2.symm⟩ c
    ·exact .inr ⟨b,hb,h1,h2⟩
section
variable {m:Zo} {a:List Str} {ph tr nd st dn:Int} {dg:Str} {v w:Nat}
theorem Dev.does (h:Dev m a ph tr nd st dn dg v w) (hs:3≤ph→Zim m st dn w=true) {c:Zhd} (hc:Zkh c=true) (hg:(Zr m.2).1<1000000):doR m c=((m.1,doF m.2 (Zxm m c ph tr nd st dn dg v w).1),(Zxm m c ph tr nd st dn dg v w).2):=by
 unfold doR
 rw [Xc ⟨h.right hs,hc⟩,h.acts hs hc hg]
theorem Zunb {f f':Z5} (h0:Zm f' 0=Zm f 0) (h1:Zm f' 1=Zm f 1):Zr f'=Zr f:=by unfold Zr;rw [h0,h1]
theorem Dev.other (h:Dev m a ph tr nd st dn dg v w) {l:List Zkc} (hl:Zud m.2.1.length l) (h0:∀x∈l,x.1=false→3+m.1≤x.2.1∨x.2.1=2):Dev (m.1,doF m.2 l) a ph tr nd st dn dg v w∧Zr (doF m.2 l)=Zr m.2∧∀k:Int,0≤k→Zm (doF m.2 l) k=Zmi (Zm m.2) l k:=by
 obtain ⟨i1,i2,_⟩:=Zik h.img
 have hmb:=h.b
 have hn:=h.n
 obtain ⟨hF,hlen⟩:=h.fp.acts _ hl
 have hget:=fun (k:Int) (hk:0≤k)=>Zdz l h.fp hl hk
 have hmiss:∀k:Int,0≤k→k<3+m.1→k≠2→Zm (doF m.2 l) k=Zm m.2 k:=fun k q1 q2 q3=>by
  rw [hget k q1];exact Zu1 _ fun x hx q=>by have:=h0 x hx q;omega
 have hM:=Zunb (f:=m.2) (f':=doF m.2 l) (hmiss 0 (by omega) (by omega) (by omega)) (hmiss 1 (by omega) (by omega) (by omega))
 refine ⟨⟨h.b,h.img,hF,?_,?_,?_,h.kp,h.sb,fun i hi=>?_⟩,hM,hget⟩
 ·show ((doF m.2 l).1.length:Int)=m.1+27
  rw [hlen];exact hn
 ·show (Zr (doF m.2 l)).2.2.1=0
  rw [hM];exact h.ok
 ·show (Zr (doF m.2 l)).2.1=_
  rw [hM];exact h.txt
 ·rw [← h.base i hi]
  exact hmiss _ (by omega) (by omega) (by omega)
theorem Dev.busy (h:Dev m a ph tr nd st dn dg v w) (h1:ph≠1):(1≤nd∧nd≤20)∧(0≤st∧st≤4)∧((Zb w).length:Int)=nd+st∧dg.length=32:=by
 obtain ⟨q1,q2,q3,q4,_⟩:=h.ms0.busy h1
 exact ⟨q1,q2,q3,q4⟩
theorem Dev.step (h:Dev m a 2 tr nd st dn dg v w) {L:List Zi} (hL:LogAt m st w L) (hlt:(L.length:Int)<nd) {x:Zi} (hx:Z6c x.1 x.2.1 x.2.2.1 x.2.2.2 8=true) (hcode:Zab (L++[x]) (a.length:Int)=0) (hg:(Zr m.2).1<1000000):
  ∃m',doR m (2,(0,(0,([],x))))=(m',([],([],0)))∧Dev m' a 2 tr nd st dn dg v w∧LogAt m' st w (L++[x])∧(Zr m'.2).1=(Zr m.2).1:=by
 have hmb:=h.b
 have hn:=h.n
 obtain ⟨b1,b2,b3,b4⟩:=h.busy (by omega)
 have hc:Zkh (2,(0,(0,([],x))))=true:=by
  unfold Zkh;dsimp only;rw [Xd (by omega),Xc rfl,hx];rfl
 have hlog:=hL.log
 have hp:st.toNat+L.length<(Zb w).length:=by omega
 have hpr:=Z7cb hp
 have hac:Zxm m (2,(0,(0,([],x)))) 2 tr nd st dn dg v w=Z8j ((false,(3+m.1+(Zb w).getD (st.toNat+L.length) 0,Zaj (L.length:Int) x))::(if x.1=5 then [Z9e] else [])):=by
  show Zxs m 2 nd st w x=_;unfold Zxs;rw [Xc rfl,hlog,Xd (by omega),Xc (by rw [hmb];exact hcode),show (st+(L.length:Int)).toNat=st.toNat+L.length by omega]
 have hmem:∀y∈((false,(3+m.1+(Zb w).getD (st.toNat+L.length) 0,Zaj (L.length:Int) x))::(if x.1=5 then [Z9e] else []):List Zkc),y.1=false→y=(false,(3+m.1+(Zb w).getD (st.toNat+L.length) 0,Zaj (L.length:Int) x)):=fun y hy q=>by
  rcases Ym.1 hy with z | z
  ·exact z
  ·split at z
   ·rw [Yn.1 z] at q
    cases q
   ·cases z
 have hfit:Zud m.2.1.length ((false,(3+m.1+(Zb w).getD (st.toNat+L.length) 0,Zaj (L.length:Int) x))::(if x.1=5 then [Z9e] else [])):=fun y hy q=>by
  rw [hmem y hy q];exact ⟨by dsimp only;omega,Zjeb (Zys hx)⟩
 obtain ⟨k1,k2,k3⟩:=h.other hfit (fun y hy q=>by rw [hmem y hy q];dsimp only;omega)
 have hup:∀i,i<(Zb w).length→Zm (doF m.2 ((false,(3+m.1+(Zb w).getD (st.toNat+L.length) 0,Zaj (L.length:Int) x))::(if x.1=5 then [Z9e] else []))) (3+m.1+(Zb w).getD i 0)=if i=st.toNat+L.length then Zaj (L.length:Int) x else Zm m.2 (3+m.1+(Zb w).getD i 0):=fun i hi=>by
  have hr:=Z7cb hi;rw [k3 _ (by omega)]
  by_cases c:i=st.toNat+L.length
  ·rw [Xc c,c]
   refine Zxgb _ _ (.inr ⟨_,Ye,rfl,rfl⟩) fun y hy q _=>?_
   rw [hmem y hy q]
  ·rw [Xd c]
   refine Zu1 _ fun y hy q=>?_
   rw [hmem y hy q];dsimp only;intro z;exact c (Zznb hi hp (by omega))
 refine ⟨_,?_,k1,⟨fun y hy=>?_,?_,fun j hj=>?_,fun j hj hl=>?_⟩,by rw [k2]⟩
 ·rw [h.does (fun q=>by omega) hc hg,hac]
  rfl
 ·rcases Yu.1 hy with z | z
  ·exact hL.ok y z
  ·rw [Yn.1 z]
   exact hx
 ·rw [Yb]
  simp only [Yd,Yh];omega
 ·rw [Yb] at hj
  simp only [Yd,Yh] at hj;show Zm (doF m.2 _) (3+m.1+_)=_;rw [hup _ (by omega)]
  by_cases c:j=L.length
  ·subst c
   rw [Xc rfl];simp
  ·rw [Xd (by omega),hL.at' j (by omega),List.getElem_append_left (by omega)]
 ·rw [Yb] at hj
  simp only [Yd,Yh] at hj;show Zm (doF m.2 _) (3+m.1+_)=_;rw [hup _ hl,Xd (by omega)];exact hL.nil j (by omega) hl
theorem Zmrb {L:List Zi} (hlog:Zf m st w=L) (hc:Zab L m.1=0) (hs:Z3b (Zj L)≤st) (hd:dn≤((Zj L).length:Int)):Zim m st dn w=true:=by
 unfold Zim
 rw [hlog,Xa hc,Xa hs,Xa hd]
 rfl
end
def Z7b (a:List Str):List Str:=Ywa 3 []++a++Ywa 24 []
def Z0h (a:List Str):Z5:=doF (Z7b a,[]) (Z4c (Z7b a,[]) 1 0 0 0 0 [] 0 0)
def Zlk (a:List Str):Zo:=((a.length:Int),Z0h a)
theorem Zis (a:List Str):(Z7b a).length=a.length+27:=by
 unfold Z7b
 simp only [Yb,Ysa]
 omega
theorem Zo5 (a:List Str) {i:Nat} (h:i<3):(Z7b a).getD i []=[]:=by
 unfold Z7b
 rw [Y6,Yc,Yoa (by simpa using h),List.getElem?_replicate]
 simp [h]
theorem Zbdb (a:List Str) {i:Nat} (h:i<a.length):(Z7b a).getD (3+i) []=a.getD i []:=by
 unfold Z7b
 rw [Y6,Yc,List.getElem?_append_right (by simp),Ysa,Yoa (by omega),Yc,show 3+i-3=i by omega]
theorem Zn5 (a:List Str) (n:Int):Zm (Z7b a,[]) n=(Z7b a).getD n.toNat []:=rfl
theorem Zxnb:(Zhc []).2.2≠0:=by decide
theorem newG (a:List Str):Zr (Z7b a,[])=(0,[],6,-1):=by
 have h0:Zm (Z7b a,[]) 0=[]:=by rw [Zn5];exact Zo5 a (by decide)
 have h1:Zm (Z7b a,[]) 1=[]:=by rw [Zn5];exact Zo5 a (by decide)
 have:=Zxnb
 unfold Zr
 rw [h0,h1,Xd (fun q=>this q.1),Xd this]
theorem Z5z {a:List Str} (h:Zyd a=true):FlashP (Z7b a,[]):=by
 obtain ⟨i1,i2,i3⟩:=Zik h
 have hl:=Zis a
 refine ⟨⟨by show 1≤(Z7b a).length;omega,by show (Z7b a).length≤40;omega⟩,fun x hx=>?_,fun x hx=>(by cases hx),Yea⟩
 unfold Z7b at hx
 rcases Yu.1 hx with hx | hx
 ·rcases Yu.1 hx with hx | hx
  ·rw [(Yua.1 hx).2]
   simp
  ·rw [i3 x hx]
   omega
 ·rw [(Yua.1 hx).2]
  simp
theorem Zejb {a:List Str} (h:Zyd a=true):Dev (Zlk a) a 1 0 0 0 0 [] 0 0∧(Zr (Zlk a).2).1=1∧(Zlk a).2.2=[]:=by
 obtain ⟨i1,i2,i3⟩:=Zik h
 have hl:=Zis a
 have hG:=newG a
 have hg:(Zr (Z7b a,[])).1<1000000:=by rw [hG];decide
 have K:Keep 1 0 0 0 0 [] 0 0:=Zkn (by decide)
 have hp:=Z5z h
 have ht:toF (Z7b a,[])=1∨toF (Z7b a,[])=0:=(Zmgb _).symm
 have hfit:Zud (Z7b a).length (Z4c (Z7b a,[]) 1 0 0 0 0 [] 0 0):=Zqj (by omega) K
 obtain ⟨hF,hlen⟩:=hp.acts _ hfit
 have hlen:(Z0h a).1.length=(Z7b a).length:=hlen
 have hget:∀k:Int,0≤k→Zm (Z0h a) k=if k=toF (Z7b a,[]) then Z7l ((Zr (Z7b a,[])).1+1) (Zdd (1,0,0,0,0,((0:Nat):Int),((0:Nat):Int),[])) else Zm (Z7b a,[]) k:=fun k hk=>by
  unfold Z0h;rw [Zdz _ hp hfit hk,Zoz hg,Z2u,Z2u,Zygb];generalize Z7l ((Zr (Z7b a,[])).1+1) (Zdd (1,0,0,0,0,((0:Nat):Int),((0:Nat):Int),[]))=T;generalize toF (Z7b a,[])=p;show Zli (Zm (Z7b a,[])) (false,(p,T)) k=_;unfold Zli
  by_cases c:k=p
  ·rw [Xc ⟨rfl,c⟩,Xc c]
  ·rw [Xd (fun z=>c z.2),Xd c]
 have hM:=Zfcb (f:=(Z7b a,[])) (f':=Z0h a) hg K.len (by rw [hget _ (by omega),Xc rfl]) (by rw [hget _ (by omega),Xd (by omega)])
 rw [hG] at hM
 have e0:(Zr (Z0h a)).2.2.1=0:=by rw [hM]
 have e1:(Zr (Z0h a)).1=1:=by rw [hM];rfl
 have e2:(Zr (Z0h a)).2.1=Zdd (1,0,0,0,0,((0:Nat):Int),((0:Nat):Int),[]):=by rw [hM]
 have e3:(Z0h a).2=[]:=by
  have e:∀x:Zkc,[x,Z9e]=[x]++[Z9e]:=fun _=>rfl
  unfold Z0h;rw [Zoz hg,e];exact Zw9 _ _
 have e4:∀i:Nat,i<a.length→Zm (Z0h a) (3+(i:Int))=a.getD i []:=fun i hi=>by
  rw [hget _ (by omega),Xd (by omega),Zn5,show (3+(i:Int)).toNat=3+i by omega];exact Zbdb a hi
 have e5:((Z0h a).1.length:Int)=(a.length:Int)+27:=by omega
 have e6:Zzg 1 0 0 0 0 [] 0 0=true:=by
  unfold Zzg;rw [Xc rfl,Nat.and_zero,Z8s];rfl
 have hF:FlashP (Z0h a):=hF
 clear hM hget hlen
 unfold Zlk
 generalize Z0h a=f at *
 exact ⟨⟨rfl,h,hF,e5,e0,e2,K,e6,e4⟩,e1,e3⟩
theorem Zhab {f:Z5} {n:Int} {i:Nat} (h:Zqi f n=some i):(f.2.getD i (0,[])).1=n:=by
 obtain ⟨_,h2,h3,_⟩:=Zdk (show Zmb (fun x:Z5b=>x.1==n) f.2 0=some i from h)
 rw [Zbz (Zht h)]
 simpa using h3
theorem Zjmb {f:Z5} (h:FlashP f) (n:Int) (s:Str) {k:Nat} (hk:100≤k):Zyp k f n s=some (Zxk f n s):=by
 have hl:=h.len
 have hn:=h.n
 unfold Zyp Zxk
 refine Za (Ziz f n (by omega) (by omega)) ?_
 cases hd:Zqi f n with
 | some i=>
  have hi:=Zht hd;have hat:=Zi2 (l:=f.2) (0,[]) hi;dsimp only;rw [Xa (by omega:(0:Int)≤(i:Int)),Xe];refine Za hat (Za hat ?_);rw [Yf,Zhab hd]
 | none=>
  dsimp only;rw [show decide ((0:Int)≤-1)=false from rfl,Xf];exact Za (Z6 (by simp;omega)) rfl
theorem Zemb {f:Z5} (h:FlashP f) {k:Nat} (hk:100≤k):Z7f k f=some (Z6o f):=by
 have hl:=h.len
 have hn:=h.n
 have run:=Zrc (fun j i=>Z7f.l0 j (f.2.length:Int) (i:Int) f.2 (Zoh f.1 (f.2.take i))) f.2.length (Zoh f.1 f.2,f.2) (fun i hi j=>?_) (fun j=>?_) k (by omega)
 ·have run:Z7f.l0 k (f.2.length:Int) 0 f.2 f.1=some (Zoh f.1 f.2,f.2):=run
  unfold Z7f Z6o;exact Za run rfl
 ·have hd:=(h.d _ (Yg hi)).1
  have hll:=Zew (f.2.take i) f.1;have ha:=Z6s (l:=Zoh f.1 (f.2.take i)) [] hd.1 (by rw [hll];exact hd.2)
  conv=>lhs;unfold Z7f.l0
  rw [dlt hi,Zs (by omega),Xe];refine Za (Zh hi) (Za (Zh hi) (Za ha (Za ha ?_)));rw [Zjcb _ hi]
 ·conv=>lhs;unfold Z7f.l0
  rw [Z8 (Yj _),Yp];rfl
theorem Zud.before {f:Z5} {l:List Zkc} (h:FlashP f) (hl:Zud f.1.length l) (i:Nat):FlashP (doF f (l.take i))∧(doF f (l.take i)).1.length=f.1.length:=h.acts _ (hl.take i)
theorem Zglb {f:Z5} (h:FlashP f) {l:List Zkc} (hl:Zud f.1.length l) (hn:l.length≤1000) {k:Nat} (hk:1048577≤k):Zsf k f l=some (doF f l):=by
 have h2:=h.len
 have h3:=h.n
 have run:=Zrc (fun j i=>Zsf.l0 k j l (l.length:Int) (i:Int) (doF f (l.take i)).1 (doF f (l.take i)).2) l.length (doF f l) (fun i hi j=>?_) (fun j=>?_) k (by omega)
 ·have run:Zsf.l0 k k l (l.length:Int) 0 f.1 f.2=some (doF f l):=run
  have hc:Z3p f=some f:=by
   unfold Z3p slices_Clone_string Zrk;refine Za (a:=f.1) (Za (Z6 (by simp;omega)) rfl) (Za (a:=f.2) (Za (Z6 (by simp;omega)) rfl) rfl)
  unfold Zsf;exact Za hc (Za run rfl)
 ·obtain ⟨b1,b2⟩:=hl.before h i
  conv=>lhs;unfold Zsf.l0
  rw [dlt hi,Zs (by omega),Xe,Zlab f hi];refine Za (Zh hi) ?_;unfold doA;cases q:l[i].1 with
  | true=>
   rw [Xc rfl];exact Za (Zemb b1 (by omega)) rfl
  | false=>
   rw [Xd Yv];exact Za (Zjmb b1 _ _ (by omega)) rfl
 ·conv=>lhs;unfold Zsf.l0
  rw [Z8 (Yj _),Yp];rfl
theorem Z8eb {f:Z5} (h:FlashP f):Zpl f=some f:=by
 have h2:=h.len
 have h3:=h.n
 unfold Zpl
 exact Za (Z6 (by simp;omega)) (Za (Z6 (by simp;omega)) rfl)
theorem Zoqb {f:Z5} (h:FlashP f) (n:Int) (s:Str) {k:Nat} (hk:100≤k):Zfg k f n s=some (Zxk f n s):=by
 have hl:=h.len
 have hn:=h.n
 have run:=Zii (fun j i=>Zfg.l0 j n s i [] [] f.1 f.2) f.2 (fun x=>x.1==n) (.inl ([],[],f.1,f.2)) (fun i=>.inr (f.1,f.2.set i ((f.2.getD i (0,[])).1,s))) (fun i hi=>by
  constructor
  ·intro hp j
   conv=>lhs;unfold Zfg.l0
   rw [dlt hi,Zs (by omega),Xe];refine Za (Zh hi) (Za (Zh hi) ?_);rw [hp];rfl
  ·intro hp j
   conv=>lhs;unfold Zfg.l0
   rw [dlt hi,Xe];refine Za (Zh hi) (Za (Zh hi) ?_);rw [hp,Xe];refine Za (Zh hi) (Za (Zh hi) ?_);rw [Yf,Zbz hi]) (fun j=>by
  conv=>lhs;unfold Zfg.l0
  rw [Z8 (Yj _)];rfl) (k:=k) (by omega)
 unfold Zfg Zxk
 refine Za (Z8eb h) ?_
 cases hd:Zqi f n with
 | some i=>
  rw [show Zmb (fun x:Z5b=>x.1==n) f.2 0=some i from hd] at run;refine Za run ?_;dsimp only;rw [Zhab hd]
 | none=>
  rw [show Zmb (fun x:Z5b=>x.1==n) f.2 0=none from hd] at run;refine Za run ?_;exact Za (Z6 (by simp;omega)) rfl
theorem Zv6 {f:Z5} (h:FlashP f) {k:Nat} (hk:1048577≤k):Z7 k f=some true:=by
 have h2:=h.len
 have h3:=h.n
 rw [Z10 f (by omega) (by omega) hk,h.b]
theorem Z9qb {f:Z5} (h:FlashP f) {n:Int} {s:Str} (hn:0≤n∧n<(f.1.length:Int)) (hs:s.length≤96) {k:Nat} (hk:1048577≤k):Zbr k f n s=some ((Zxk f n s).1,(Zxk f n s).2,[],0):=by
 have h3:=h.n
 have hI:Z9 n 0 (Y4 .i64 ((f.1.length:Int)-1))=some true:=by
  rw [w64 (n:=(f.1.length:Int)-1) (by omega) (by omega)];unfold Z9;rw [Xa hn.1,Xa (by omega:n≤(f.1.length:Int)-1)];rfl
 unfold Zbr
 rw [Xb (by omega:¬(8000:Int)<(s.length:Int)),Xf]
 refine Za (Zv6 h hk) ?_
 rw [Xb (by omega:¬(96:Int)<(s.length:Int)),show ((!true)||false)=false from rfl,Xf]
 refine Za hI ?_
 rw [Yha,Xf]
 exact Za (Zoqb (k:=k) h n s (by omega)) rfl
theorem Z5qb {f:Z5} (h:FlashP f) {k:Nat} (hk:1048577≤k):Zar k f=some ((Z6o f).1,(Z6o f).2,[],0):=by
 have hl:=h.len
 have hn:=h.n
 have run:=Zrc (fun j i=>Zpg.l0 j f.1 f.2 (i:Int) (Zoh f.1 (f.2.take i)) []) f.2.length (Zoh f.1 f.2,[]) (fun i hi j=>?_) (fun j=>?_) k (by omega)
 ·have run:Zpg.l0 k f.1 f.2 0 f.1 []=some (Zoh f.1 f.2,[]):=run
  unfold Zar;refine Za (Zv6 h hk) (Za (a:=Z6o f) ?_ rfl);unfold Zpg Z6o;exact Za (Z6 (by simp;omega)) (Za run rfl)
 ·have hd:=(h.d _ (Yg hi)).1
  have hll:=Zew (f.2.take i) f.1;have ha:=Z6s (l:=Zoh f.1 (f.2.take i)) [] hd.1 (by rw [hll];exact hd.2)
  conv=>lhs;unfold Zpg.l0
  rw [dlt hi,Zs (by omega),Xe];refine Za (Zh hi) (Za (Zh hi) (Za ha (Za ha ?_)));rw [Zjcb _ hi]
 ·conv=>lhs;unfold Zpg.l0
  rw [Z8 (Yj _),Yp];rfl
theorem Z00 {f:Z5} (h:FlashP f) {l:List Zkc} (hl:Zud f.1.length l) (hn:l.length≤1000) {k:Nat} (hk:1048577≤k):Z3d k f l=some ((doF f l).1,(doF f l).2,[],0):=by
 have h2:=h.len
 have h3:=h.n
 have run:=Zrc (fun j i=>Z3d.l0 k j l (i:Int) [] 0 (doF f (l.take i)).1 (doF f (l.take i)).2) l.length ([],0,(doF f l).1,(doF f l).2) (fun i hi j=>?_) (fun j=>?_) k (by omega)
 ·have run:Z3d.l0 k k l 0 [] 0 f.1 f.2=some ([],0,(doF f l).1,(doF f l).2):=run
  unfold Z3d;exact Za (Z8eb h) (Za run rfl)
 ·obtain ⟨b1,b2⟩:=hl.before h i
  conv=>lhs;unfold Z3d.l0
  rw [dlt hi,Zs (by omega),show (true&&((0:Int)==0))=true from rfl,Xe,Zlab f hi];refine Za (Zh hi) ?_;unfold doA;cases q:l[i].1 with
  | true=>
   rw [Xc rfl];exact Za (Z5qb b1 hk) rfl
  | false=>
   have ha:=hl _ (Yg hi) q;rw [Xd Yv];exact Za (Zh hi) (Za (Zh hi) (Za (Z9qb b1 (by rw [b2];exact ha.1) ha.2 hk) rfl))
 ·conv=>lhs;unfold Z3d.l0
  rw [Z8 (Yj _),Yp];rfl
def Zum (n:Int):Prop:=n<9223372036854775808
theorem Z6qb {old fresh:Str} {n:Int} (ho:old.length≤96) (hf:fresh.length≤96) (hn:Zum n):Zer old fresh n=some (Znx old fresh n):=by
 unfold Zer Znx
 unfold Zum at hn
 rw [Xb (by omega:¬(8000:Int)<(old.length:Int)),Xb (by omega:¬(8000:Int)<(fresh.length:Int))]
 simp only [Bool.or_self,Bool.false_or,Xf]
 by_cases c:n<1
 ·rw [Xc c,Xa c]
  rfl
 ·rw [Xd c,Xb c,Xf]
  by_cases c1:n=1
  ·rw [Xc c1,show (n==1)=true by simpa using c1]
   rfl
  ·rw [Xd c1,show (n==1)=false by simpa using c1,Xf,w64 (n:=n-2) (by omega) (by omega)]
   obtain ⟨q,hq⟩:∃q:Nat,n-2=(q:Int):=⟨(n-2).toNat,by omega⟩;rw [hq,Yf]
   by_cases cl:q≤fresh.length
   ·have hc:Z2b fresh 0 ((q:Nat):Int)=some (fresh.take q):=Zhi (l:=fresh) (i:=0) (j:=q) (Yga _) cl
    rw [Xb (by omega:¬(fresh.length:Int)<(q:Int)),Xf];exact Za hc rfl
   ·have hc:Z2b fresh 0 ((fresh.length:Nat):Int)=some (fresh.take fresh.length):=Zhi (l:=fresh) (i:=0) (j:=fresh.length) (Yga _) (Yj _)
    rw [Xa (by omega:(fresh.length:Int)<(q:Int)),Xe];refine Za hc ?_;rw [Yp,Yza (by omega)]
theorem Z1jb {fs:List Int} (h:∀x∈fs,Zum x) (i:Nat):Zum (fs.getD i 0):=by
 rw [Yc]
 cases q:fs[i]? with
 | none=>show (0:Int)<9223372036854775808;omega
 | some x=>exact h x (List.mem_of_getElem? q)
theorem Z2jb {fs:List Int} {i:Nat} (h:i<fs.length):fs.getD i 0=fs[i]:=by rw [Yc,Yk h];rfl
theorem Z3jb {fs:List Int} {i:Nat} (h:fs.length≤i):fs.getD i 0=0:=by rw [Yc,Ypa h];rfl
theorem Z6pb {f:Z5} (h:FlashP f) {fs:List Int} (hf:∀x∈fs,Zum x) (hfl:fs.length≤400) {k:Nat} (hk:1048577≤k):Z8c k f fs=some (Zmp f fs):=by
 have hl:=h.len
 have hn:=h.n
 have run:=Zrc (fun j i=>Z8c.l1 j fs f.1 f.2 (i:Int) (Z1l f.1 f.2 fs i) []) f.2.length (Z1l f.1 f.2 fs f.2.length,[]) (fun i hi j=>?_) (fun j=>?_) k (by omega)
 ·have run:Z8c.l1 k fs f.1 f.2 0 f.1 []=some (Z1l f.1 f.2 fs f.2.length,[]):=run
  unfold Z8c Zmp;rw [Xb (by omega:¬(400:Int)<(fs.length:Int)),Xf];exact Za (Zv6 h hk) (Za (Z6 (by simp;omega)) (Za run rfl))
 ·have hd:=h.d _ (Yg hi)
  have hll:=Ze3 f.1 f.2 fs i;have ha:=Z6s (l:=Z1l f.1 f.2 fs i) [] hd.1.1 (by rw [hll];exact hd.1.2);have hb:=Z6s (l:=f.1) [] hd.1.1 hd.1.2
  have hs0:(f.1.getD f.2[i].1.toNat []).length≤96:=by
   rw [Zas (by omega)];exact h.s _ (Yg _)
  have hT:=Z6qb hs0 hd.2 (Z1jb hf i)
  have hj:Z8c.j0 fs (i:Int) 0=some (fs.getD i 0):=by
   unfold Z8c.j0
   by_cases c:i<fs.length
   ·rw [Z2jb c,dlt c,Xe]
    exact Za (Zh c) rfl
   ·rw [Z3jb (by omega),Z8 (by omega)]
    rfl
  conv=>lhs;unfold Z8c.l1
  rw [dlt hi,Zs (by omega),Xe];refine Za hj (Za (Zh hi) (Za (Zh hi) (Za hb (Za (Zh hi) (Za hT (Za ha (Za ha ?_)))))));rw [Z1l,Zbz hi]
 ·conv=>lhs;unfold Z8c.l1
  rw [Z8 (Yj _)];rfl
theorem Z6mb (m:Zo) (l:List Int):(Znq m l).length≤l.length+1:=by
 have:=Zp3 m l
 unfold Znq
 split
 ·simp
 ·rw [Yb]
  simp;omega
theorem Zt4 (f:Z5) (a b c d e:Int) (x:Str) (v w:Nat):(Z4c f a b c d e x v w).length≤2:=Z0t _ _
theorem Zc9 (m:Zo) (ph tr nd st dn:Int) (dg:Str) (v w:Nat):(Zip m ph tr nd st dn dg v w).length≤100:=by
 have hk:=fun a b c d e x v w=>Zt4 m.2 a b c d e x v w
 have hl:=Z7d w
 unfold Zip
 split
 ·have:=Z6mb m ((Zb w).drop (st+Z5i (Zf m st w)).toNat)
  rw [Yra] at this;omega
 ·split
  ·exact Yq (hk _ _ _ _ _ _ _ _) (by omega)
  ·split
   ·split
    ·exact Yq (hk _ _ _ _ _ _ _ _) (by omega)
    ·exact Yq (hk _ _ _ _ _ _ _ _) (by omega)
   ·split
    ·split
     ·simp
     ·rw [Yb]
      have:=hk 5 tr nd st (dn+1) dg v w;simp only [Yd,Yh];omega
    ·simp
def Z51 (a:Zrm):Prop:=a.1.length≤100∧a.2.2.1.length≤100
theorem Zxj (c:Int):Z51 (Z6g c):=⟨by simp [Z6g],by simp [Z6g]⟩
theorem Z5q {l:List Zkc} (h:l.length≤100):Z51 (Z8j l):=⟨h,by simp [Z8j]⟩
theorem Z81 (m:Zo) (c:Zhd):Z51 (Z2k m c):=by
 have hk:=fun a b c d e x v w=>Zt4 m.2 a b c d e x v w
 have hid:∀v,(Zgo m v).length≤100:=fun v=>Yq (hk _ _ _ _ _ _ _ _) (by omega)
 unfold Z2k
 split
 ·split
  ·exact Zxj _
  ·split
   ·rename_i ph tr nd st dn dg v w hs
    unfold Zxm;split
    ·unfold Zmv
     split
     ·split
      ·rename_i l hl
       have hle:l.length≤24:=by
        unfold Zcj at hl;split at hl
        ·cases hl
        ·rename_i hn
         have:=Z7d (Zhe v 0);split at hl
         ·cases hl
          rw [Za7];omega
         ·cases hl
          rw [Yta];omega
       refine Z5q ?_;have:=hk 2 0 c.2.1 c.2.2.1 0 c.2.2.2.1 v (Zfi l);simp only [Yb,Zqm,List.length_map,Yd,Yh];omega
      ·exact Zxj _
     ·exact Zxj _
    ·split
     ·unfold Zxs
      split
      ·split
       ·exact Zxj _
       ·split
        ·refine Z5q ?_
         split <;> simp
        ·exact Zxj _
      ·exact Zxj _
     ·split
      ·unfold Z2v
       split
       ·split
        ·split
         ·split
          ·split
           ·exact ⟨hid v,by simp⟩
           ·refine Z5q ?_
            have:=hk 3 tr nd st dn dg v w;simp only [Yb,Yd,Yh];omega
          ·exact ⟨hid v,by simp⟩
         ·exact ⟨hid v,by simp⟩
        ·exact ⟨hid v,by simp⟩
       ·exact Zxj _
      ·split
       ·split
        ·exact Zxj _
        ·exact Z5q (hid v)
       ·split
        ·split
         ·refine Z5q ?_
          have:=hk 5 0 nd st dn dg v w;simp only [Yb,Yd,Yh];omega
         ·exact Zxj _
        ·split
         ·unfold Z5v
          split
          ·split
           ·exact ⟨hid v,by simp⟩
           ·refine ⟨?_,by simp⟩
            have:=hk ph tr nd st (dn+1) dg v w;simp only [Yb,Yd,Yh];omega
          ·exact Zxj _
         ·split
          ·split
           ·exact Zxj _
           ·exact ⟨by simp,by simp⟩
          ·split
           ·exact ⟨by simp,by simp [Zk7]⟩
           ·split
            ·unfold Z9v
             split
             ·exact Z5q (Yq (hk _ _ _ _ _ _ _ _) (by omega))
             ·exact Zxj _
            ·split
             ·exact Z5q (Yq (hk _ _ _ _ _ _ _ _) (by omega))
             ·exact Z5q (Zc9 _ _ _ _ _ _ _ _ _)
   ·exact Zxj _
 ·exact Zxj _
def flD (d:DoT):Int×List Str×List Z5b×Str×List Int×Int:=(d.1.1,d.1.2.1,d.1.2.2,d.2.1,d.2.2.1,d.2.2.2)
def flC (d:Zo×Int):Int×List Str×List Z5b×Int:=(d.1.1,d.1.2.1,d.1.2.2,d.2)
theorem Zjw {m:Zo} (h:Zqd m=true):FlashP m.2:=by
 unfold Zqd at h
 cases hs:stM m with
 | none=>rw [hs] at h;cases h
 | some z=>
  obtain ⟨ph,tr,nd,st,dn,dg,v,w⟩:=z;exact FlashP.of (Z8l hs).fit.f
theorem Z7eb (m:Zo) (c:Zhd) (hl:m.2.1.length≤1048576) (hl2:m.2.2.length≤1048576):∃n:Int,(Zc fun k=>Z7h k m c=some n)∧((n==1) = !(Zqd m&&Zkh c)):=by
 have ec:=Zbx c
 cases hm:Zqd m with
 | false=>
  refine ⟨1,(Zzq m hl hl2).mono fun k e=>?_,rfl⟩;rw [hm] at e;unfold Z7h;exact Za e rfl
 | true=>
  cases hc:Zkh c with
  | false=>
   refine ⟨1,(Zzq m hl hl2).mono fun k e=>?_,rfl⟩;rw [hm] at e;rw [hc] at ec;unfold Z7h;exact Za e (Za ec rfl)
  | true=>
   rw [hc] at ec;cases hs:stM m with
   | none=>unfold Zqd at hm;rw [hs] at hm;cases hm
   | some z=>
    obtain ⟨ph,tr,nd,st,dn,dg,v,w⟩:=z;have h:=Z8l hs;refine ⟨if 1000000≤(Zr m.2).1 then 9 else 0,((Zzq m hl hl2).and (Z60 h.fit.f h.two)).mono fun k ⟨e,e2⟩=>?_,by split <;> rfl⟩;rw [hm] at e;unfold Z7h;refine Za e (Za ec (Za e2 ?_))
    by_cases c9:1000000≤(Zr m.2).1
    ·rw [Xc c9,Xa c9]
     rfl
    ·rw [Xd c9,Xb c9]
     rfl
theorem Zdqb (l:List Zkc) {n:Int} (h:0≤n):Zjr l n=some (l.take n.toNat):=by
 obtain ⟨q,rfl⟩:∃q:Nat,n=(q:Int):=⟨n.toNat,by omega⟩
 rw [Yf]
 unfold Zjr
 by_cases c:q<l.length
 ·rw [dlt c,Xe]
  exact Za (Zhi (l:=l) (i:=0) (j:=q) (Yga _) (by omega)) rfl
 ·rw [Z8 (by omega),Xf,Yza (by omega)]
def flM (m:Zo):Int×List Str×List Z5b:=(m.1,m.2.1,m.2.2)
structure Lean1 (m:Zo):Prop where
 s:m.2.1.length≤1048576
 d:m.2.2.length≤1048576
theorem Zs5:Lean1 noM:=⟨by simp [noM],by simp [noM]⟩
theorem Zl3 {f:Z5} (h:FlashP f) {l:List Zkc} (hl:Zud f.1.length l):(doF f l).1.length≤40∧(doF f l).2.length≤40:=by
 obtain ⟨h1,h2⟩:=h.acts _ hl
 have:=h1.n
 have:=h1.len
 omega
theorem Z9ib {m:Zo} (h:FlashP m.2) {l:List Zkc} (hl:Zud m.2.1.length l) (n:Int) (fs:List Int):Lean1 (Z79 m l n fs):=by
 have h1:=(h.acts _ (hl.take n.toNat)).1.crash fs
 have h2:=h1.1.n
 have h3:=h1.1.len
 exact ⟨by show (Zmp _ fs).1.length≤_;omega,by show (Zmp _ fs).2.length≤_;omega⟩
theorem Zkjb (m:Zo) (c:Zhd):(doR m c).1.2.1.length≤40∧(doR m c).1.2.2.length≤40∧(doR m c).2.2.1.length≤100:=by
 unfold doR
 split
 ·rename_i h
  obtain ⟨h1,h2⟩:=Zl3 (Zjw h.1) (Z3x m c);exact ⟨h1,h2,(Z81 m c).2⟩
 ·simp [noM]
theorem Z8ib (m:Zo) (c:Zhd) (n:Int) (fs:List Int):Lean1 (Zdt m c n fs).1:=by
 unfold Zdt
 split
 ·exact Zs5
 ·split
  ·rename_i h
   exact Z9ib (Zjw h.1.1) (Z3x m c) n fs
  ·exact Zs5
theorem Zeib (m:Zo):(Zyr m).1.2.1.length≤40∧(Zyr m).1.2.2.length≤40:=by
 unfold Zyr
 split
 ·rename_i ph tr nd st dn dg v w hs
  exact Zl3 (FlashP.of (Z8l hs).fit.f) (Zq2 (Z8l hs))
 ·simp [noM]
theorem Zudb:∀(T R:List Int),T.Nodup→(∀x∈T,x∈R)→R.length≤T.length→T.Perm R
 | [],R,_,_,h=>by
  have:R=[]:=List.length_eq_zero_iff.1 (by simpa using h);rw [this]
 | x::T,R,hn,hs,h=>by
  have hx:=hs x Ye;have hn2:=Yo.1 hn
  have h1:=Zudb T (R.erase x) hn2.2 (fun y hy=>(List.mem_erase_of_ne (fun q:y=x=>hn2.1 (by rw [← q];exact hy))).2 (hs y (Yl _ hy))) (by
   rw [Y9 hx];simp only [Yd] at h;omega)
  exact (h1.cons x).trans (List.perm_cons_erase hx).symm
theorem Zc5 {α:Type} {f:α→Int}:∀{l:List α},(l.map f).Nodup→∀{a b:α},a∈l→b∈l→f a=f b→a=b
 | [],_,a,b,ha,_,_=>by cases ha
 | x::l,h,a,b,ha,hb,e=>by
  have h2:=Yo.1 h;rcases Ym.1 ha with za | za
  ·rcases Ym.1 hb with zb | zb
   ·rw [za,zb]
   ·exact absurd (Yi.2 ⟨b,zb,by rw [← e,za]⟩) h2.1
  ·rcases Ym.1 hb with zb | zb
   ·exact absurd (Yi.2 ⟨a,za,by rw [e,zb]⟩) h2.1
   ·exact Zc5 h2.2 za zb e
def Zsl (l:List Z0c):Nat:=(l.filter fun m=>m.1==1).length
theorem Zj7 (m:Int×Int×Int) (l:List Z0c):Zsl ((2,m)::l)=Zsl l:=by
 unfold Zsl
 rw [List.filter_cons_of_neg (by simp)]
theorem Ztrb (m:Int×Int×Int) (l:List Z0c):Zsl ((1,m)::l)=Zsl l+1:=by
 unfold Zsl
 rw [List.filter_cons_of_pos (by simp),Yd]
theorem Z6rb {w:List Zi} {left:List Nat} {st:List Int} (h:left.find? (Z3c w left st)=none):∀i∈left,∃k∈left,k≠i∧(wAt w k).2.2.1=(wAt w i).2.1:=fun i hi=>by
 have h1:Z3c w left st i=false:=Bool.eq_false_iff.2 (Yt.1 h i hi)
 unfold Z3c at h1
 have h2:=(Yia.1 h1).2
 rw [Bool.not_eq_false'] at h2
 obtain ⟨k,hk,q⟩:=List.any_eq_true.1 h2
 rw [Ya] at q
 refine ⟨k,hk,by simpa using q.1,?_⟩
 have:=q.2
 unfold Z9i at this
 rw [Ya] at this
 simpa using this.2
theorem Z7nb {w:List Zi} {i0:Nat} {rest:List Nat} {st:List Int} (hn:(i0::rest).Nodup) (hT:((i0::rest).map fun i=>(wAt w i).2.1).Nodup) (h:(i0::rest).find? (Z3c w (i0::rest) st)=none) (st':List Int):rest≠[]∧∃j∈rest,Z3c w rest st' j=true:=by
 have hs:=Z6rb h
 have hp:=Zudb _ ((i0::rest).map fun i=>(wAt w i).2.2.1) hT (fun x hx=>by
  obtain ⟨i,hi,rfl⟩:=Yi.1 hx;obtain ⟨k,hk,_,q⟩:=hs i hi;exact Yi.2 ⟨k,hk,q⟩) (by simp)
 have hR:=hp.nodup hT
 have hm:(wAt w i0).2.2.1∈(i0::rest).map fun i=>(wAt w i).2.1:=hp.mem_iff.2 (Yi.2 ⟨i0,Ye,rfl⟩)
 obtain ⟨j,hj,q⟩:=Yi.1 hm
 obtain ⟨k,hk,k1,k2⟩:=hs j hj
 have e:k=i0:=Zc5 (f:=fun i=>(wAt w i).2.2.1) hR hk Ye (by show (wAt w k).2.2.1=(wAt w i0).2.2.1;rw [k2];exact q)
 have hj2:j∈rest:=by
  rcases Ym.1 hj with z | z
  ·exact absurd (z.trans e.symm).symm k1
  ·exact z
 refine ⟨fun z=>(by rw [z] at hj2;cases hj2),j,hj2,?_⟩
 unfold Z3c
 rw [Bool.or_eq_true]
 right
 rw [Y3,Y5]
 intro y hy z
 rw [Ya] at z
 have z2:=z.2
 unfold Z9i at z2
 rw [Ya] at z2
 have z3:(wAt w y).2.2.1=(wAt w j).2.1:=by simpa using z2.2
 have e2:y=i0:=Zc5 (f:=fun i=>(wAt w i).2.2.1) hR (Yl _ hy) Ye (by show (wAt w y).2.2.1=(wAt w i0).2.2.1;rw [z3];exact q)
 rw [e2] at hy
 exact (Yo.1 hn).1 hy
theorem Zflb (k:Int) (l:List Int):Z6f k (Z6d k l)=true:=by
 cases h:Z6f k l with
 | true=>
  have:Z6d k l=l:=by unfold Z6d;rw [h];rfl
  rw [this,h]
 | false=>
  rw [Zf8 h];exact Zgz.2 (List.mem_append_right _ Ye)
theorem Zycb {f:Nat→Int} {l:List Nat} (h:(l.map f).Nodup) (i:Nat):((l.erase i).map f).Nodup:=h.sublist (List.erase_sublist.map f)
theorem Zkrb {w:List Zi} (n:Nat):∀(left:List Nat) (st:List Int),left.Nodup→(left.map fun i=>(wAt w i).2.1).Nodup→2*Zsl (Zrb w n left st)≤left.length:=by
 induction n using Nat.strongRecOn with
 | ind n ih=>
  intro left st hn hT
  match n,left,ih,hn,hT with
  | 0,left,_,_,_=>simp [Zrb,Zsl]
  | n+1,[],_,_,_=>simp [Zrb,Zsl]
  | n+1,i0::rest,ih,hn,hT=>
   cases hf:(i0::rest).find? (Z3c w (i0::rest) st) with
   | some i=>
    have e:Zrb w (n+1) (i0::rest) st=(2,((i:Int),((wAt w i).2.1,0)))::Zrb w n ((i0::rest).erase i) st:=by rw [Zrb,hf]
    have hi:=Yba hf;have:=ih n (by omega) ((i0::rest).erase i) st (hn.erase i) (Zycb hT i);rw [Y9 hi] at this;rw [e,Zj7];omega
   | none=>
    have e:Zrb w (n+1) (i0::rest) st=(1,((i0:Int),((wAt w i0).2.1,(st.length:Int))))::Zrb w n (i0::rest) (Z6d (wAt w i0).2.1 st):=by rw [Zrb,hf]
    obtain ⟨f1,j,f2,f3⟩:=Z7nb hn hT hf (Z6d (wAt w i0).2.1 st);have hl:1≤rest.length:=List.length_pos_iff.2 f1;rw [e,Ztrb]
    match n,ih with
    | 0,_=>
     simp only [Zrb,Zsl,Yma,Yh,Yd];omega
    | n+1,ih=>
     have hf2:(i0::rest).find? (Z3c w (i0::rest) (Z6d (wAt w i0).2.1 st))=some i0:=by
      rw [Y8];unfold Z3c;rw [Zflb];rfl
     have e2:Zrb w (n+1) (i0::rest) (Z6d (wAt w i0).2.1 st)=(2,((i0:Int),((wAt w i0).2.1,0)))::Zrb w n rest (Z6d (wAt w i0).2.1 st):=by
      rw [Zrb,hf2];dsimp only;rw [List.erase_cons_head]
     rw [e2,Zj7]
     match n,ih,rest,hn,hT,f1,f2,f3,hl with
     | 0,_,rest,_,_,_,_,_,hl=>
      simp only [Zrb,Zsl,Yma,Yh,Yd];omega
     | n+1,_,[],_,_,f1,_,_,_=>exact absurd rfl f1
     | n+1,ih,r::rest,hn,hT,f1,f2,f3,hl=>
      cases hf3:(r::rest).find? (Z3c w (r::rest) (Z6d (wAt w i0).2.1 st)) with
      | none=>exact absurd f3 (Yt.1 hf3 j f2)
      | some i=>
       have e3:Zrb w (n+1) (r::rest) (Z6d (wAt w i0).2.1 st)=(2,((i:Int),((wAt w i).2.1,0)))::Zrb w n ((r::rest).erase i) (Z6d (wAt w i0).2.1 st):=by rw [Zrb,hf3]
       have hi:=Yba hf3;have:=ih n (by omega) ((r::rest).erase i) (Z6d (wAt w i0).2.1 st) ((Yo.1 hn).2.erase i) (Zycb (Yo.1 hT).2 i);rw [Y9 hi] at this;rw [e3,Zj7];simp only [Yd] at this ⊢;omega
theorem Zlrb {l:List Zi} (h:(Zod l).Nodup) (hl:(Zg l).length≤8):Z3b (Zj l)≤4:=by
 have hm:((List.range (Zg l).length).map fun i=>(wAt (Zg l) i).2.1)=Zod l:=by
  unfold Zod;refine Y7 (by simp) fun i h1 h2=>?_
  rw [Yy,Yqa,Yy,Zrg (by simpa using h2)]
 have:=Zkrb (w:=Zg l) 40 (List.range (Zg l).length) [] List.nodup_range (by rw [hm];exact h)
 rw [List.length_range] at this
 unfold Z3b Zj
 unfold Zsl at this
 omega
theorem Z3ib {l:List Zi} {n:Int} (h1:l.length≤20) (h2:1≤n∧n≤8) (h3:∀x∈l,Znf n x=true) (h4:(Zod l).Nodup) (h5:Zji (-1) l=true):Zab l n=0:=by
 unfold Zab
 rw [Xd,Xd (not_not_intro h4),Xc h5]
 rintro (q | q | q)
 ·omega
 ·exact q h2
 ·rw [Yr.2 h3] at q
  cases q
end Go.Proofs.Qz
