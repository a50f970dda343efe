/- What the law FnTried needs, part 13 of 14: the Lean functions of the Go functions that it reaches, with the proofs that the calls come to what they say, and plain facts about them. Conditions: those that each theorem states. Written by a session and by its programs (after the kit's printer). -/
import Derived.Test.YtpcllejjdmmjcaaGreatDoorXFnTried9
import Derived.Test.YtpcllejjdmmjcaaGreatDoorXFnTried10
import Derived.Test.YtpcllejjdmmjcaaGreatDoorXFnTried11
open Bool renaming and_eq_true → Ya, false_ne_true → Yr, not_eq_true' → Yaa, not_true → Yba, or_eq_false_iff → Yoa
open List renaming getD_eq_getElem?_getD → Yb, length_append → Yc, length_cons → Yd, mem_map → Yf, length_nil → Yg, mem_cons_self → Yh, getElem?_eq_getElem → Yj, getElem_mem → Yk, mem_singleton → Yl, mem_cons_of_mem → Yn, ext_getElem → Yo, mem_append → Yp, mem_cons → Yq, find?_eq_none → Ys, nodup_cons → Yt, take_length → Yu, find?_cons_of_neg → Yw, length_replicate → Yx, pairwise_map → Yy, replicate → Yz, all_eq_true → Y1, drop_left → Y2, foldl_append → Y3, getElem_map → Y4, length_set → Y5, pairwise_iff_getElem → Y6, range → Y7, any_eq_false → Yca, append_assoc → Yda, append_nil → Yea, filter_nil → Yfa, find?_cons_of_pos → Yga, length_erase_of_mem → Yha, mem_append_left → Yia, mem_of_find?_eq_some → Yja, nodup_nil → Yka, take_of_length_le → Yla, cons_append → Yqa, drop_zero → Yra, filter_cons_of_neg → Ysa, find?_cons → Yta, getElem?_append_left → Yua, getElem?_append_right → Yva, getElem?_eq_none → Ywa, getElem?_replicate → Yxa, getElem?_set_ne → Yya, getElem_range → Yza, getElem_set → Y0a, length_drop → Y1a, length_take → Y2a, map_append → Y3a, map_cons → Y4a, map_nil → Y5a, mem_filter → Y6a, mem_iff_getElem → Y7a, mem_or_eq_of_mem_set → Y8a, mem_range → Y9a, mem_replicate → Yab, mem_take_iff_getElem → Ybb, nodup_append → Ycb, set_cons_succ → Ydb, set_cons_zero → Yeb, take_succ_eq_append_getElem → Yfb
open Int renaming toNat_natCast → Ye, tmod_eq_emod_of_nonneg → Ypa
open Nat renaming le_refl → Yi, le_trans → Yv, zero_add → Y8, zero_le → Y9, and_zero → Ygb, xor_lt_two_pow → Yhb
open Go.IntKind renaming wrap → Ym
open BitVec renaming ofInt → Y0, toNat_ofInt → Yna
open Option renaming bind_some → Yma, bind → Yib
namespace Go.Proofs.Qz
open Go
set_option linter.unusedVariables false
section
variable {m:Zp} {ph tr nd st dn:Int} {dg:Str} {v w:Nat}
def Zpm (m:Zp) (v:Nat):List Z4b:=Zzb m.2 1 0 0 0 0 [] v 0
def Z1p (m:Zp) (ph tr nd st dn:Int) (dg:Str) (v w:Nat):Zuk:=if ph=2 then (if ((Ze m st w).length:Int)=nd then (if Zwb (Ze m st w) m.1=0 then (if Zsg (Zmg (Zpd m) (Ze m st w)).flatten=dg then (if st<Zob (Zl (Ze m st w)) then (Zpm m v,([],([],11))) else Zih ([Zzc]++Zzb m.2 3 tr nd st dn dg v w)) else (Zpm m v,([],([],5)))) else (Zpm m v,([],([],5)))) else (Zpm m v,([],([],4)))) else Z1f 10
theorem Zuib (h:MSt m ph tr nd st dn dg v w):Zc fun k=>Z1n k m (ph,(tr,(nd,(st,(dn,(dg,(Zb v,Zb w))))))) (Ze m st w)=some (Z1p m ph tr nd st dn dg v w):=by
 have hf:=h.fit
 have hb:=hf.b
 have hn:=hf.n
 have hdr:=hf.dirt
 have hfl:=(Z4p hf.f).1
 have hk0:=h.keep
 have hll:=h.log
 have hplan:Zc fun k=>Zwb (Ze m st w) m.1=0→Zib k (Ze m st w)=some (Zl (Ze m st w)):=if hc:Zwb (Ze m st w) m.1=0 then (Zur (Ze m st w) (Z8f hc).1 (Znj hc)).mono fun k e _=>e else Zc.of fun k q=>absurd q hc
 refine (((((Z6i (m:=m) hf.f h.two (Zik h.hv)).and (Zix (Ze m st w) m.1 (by omega))).and hplan).and (Z6i (m:=m) hf.f h.two (a:=3) { hk0 with a:=by omega })).and (Zc.ge 1048577 fun k hk=>hk)).mono fun k ⟨⟨⟨⟨e1,e2⟩,e3⟩,e4⟩,hk⟩=>?_
 have hz:Ztj (Ze m st w)=some ((Ze m st w).length:Int):=rfl
 unfold Z1n Z1p
 refine Za (Zbx v _ _ _ _ _ _ _) (Za e1 (Za (Z7w (m:=m) ⟨by omega,hb.2⟩ (by omega) (by omega) hk) ?_))
 show (bif ph != 2 then _ else _)=_
 by_cases c2:ph=2
 ·rw [Xc c2,show (ph != 2)=false by simpa using c2,Xf]
  refine Za hz ?_;show (bif ((Ze m st w).length:Int) != nd then _ else _)=_
  by_cases cn:((Ze m st w).length:Int)=nd
  ·rw [Xc cn,show (((Ze m st w).length:Int) != nd)=false by simpa using cn,Xf]
   refine Za e2 ?_
   by_cases cc:Zwb (Ze m st w) m.1=0
   ·rw [Xc cc,show (Zwb (Ze m st w) m.1 != 0)=false by simpa using cc,Xf]
    have hpl:=Zay _ (Z8f cc).1 (Znj cc);refine Za (Zw8 cc h.base h.base8 (by omega)) (Za (Zpib (Zqeb cc h.base h.img) (by omega)) ?_);show (bif !(Zsg (Zmg (Zpd m) (Ze m st w)).flatten==dg) then _ else _)=_
    by_cases cd:Zsg (Zmg (Zpd m) (Ze m st w)).flatten=dg
    ·rw [Xc cd,show (Zsg (Zmg (Zpd m) (Ze m st w)).flatten==dg)=true by simpa using cd,Yba,Xf]
     refine Za (e3 cc) (Za (Z78 _ (by omega) k (by omega)) ?_);show (bif decide (st<Zob (Zl (Ze m st w))) then _ else _)=_
     by_cases cs:st<Zob (Zl (Ze m st w))
     ·rw [Xc cs,Xa cs]
      rfl
     ·rw [Xd cs,Xb cs,Xf]
      have hkl:=Z0r m.2 (Ztf (3,tr,nd,st,dn,(v:Int),(w:Int),dg));exact Za e4 (Za (Zlb (by unfold Zzb;simp;omega)) rfl)
    ·rw [Xd cd,show (Zsg (Zmg (Zpd m) (Ze m st w)).flatten==dg)=false by simpa using cd]
     rfl
   ·rw [Xd cc,show (Zwb (Ze m st w) m.1 != 0)=true by simpa using cc]
    rfl
  ·rw [Xd cn,show (((Ze m st w).length:Int) != nd)=true by simpa using cn]
   rfl
 ·rw [Xd c2,show (ph != 2)=true by simpa using c2]
  rfl
def Z9c (m:Zp) (st dn:Int) (w:Nat):Zsc:=(Zl (Ze m st w)).getD dn.toNat (0,(0,(0,0)))
def Zqj (m:Zp) (st dn:Int) (w:Nat):Int:=if (Z9c m st dn w).1=1 then 3+m.1+(Zb w).getD (Z9c m st dn w).2.2.2.toNat 0 else 3+(Z9c m st dn w).2.2.1
def Zci (m:Zp) (st dn:Int) (w:Nat):Str:=if (Z9c m st dn w).1=1 then Zk m.2 (3+(Z9c m st dn w).2.2.1) else Zol m w (Zl (Ze m st w)) dn.toNat (wAt (Zi (Ze m st w)) (Z9c m st dn w).2.1.toNat)
def Zvt (m:Zp) (ph tr nd st dn:Int) (dg:Str) (v w:Nat):Zuk:=if ph=5 then (if dn=((Zl (Ze m st w)).length:Int) then (Zpm m v,([],([0],0))) else ([(false,(2,if (Zci m st dn w).length=8 then Ziu dn (Zqj m st dn w) (Zci m st dn w) else [])),Zzc,(false,(Zqj m st dn w,Zci m st dn w)),Zzc]++Zzb m.2 ph tr nd st (dn+1) dg v w,([],([((Zl (Ze m st w)).length:Int)-(dn+1)],0)))) else Z1f 10
theorem Zfu (hS:Sound m st dn w) (hlt:dn<((Zl (Ze m st w)).length:Int)):at? (Zl (Ze m st w)) dn=some (Z9c m st dn w)∧(0≤(Z9c m st dn w).2.2.1∧(Z9c m st dn w).2.2.1<m.1) ∧
  ((Z9c m st dn w).1=1∧(at? (Zb w) (Z9c m st dn w).2.2.2=some ((Zb w).getD (Z9c m st dn w).2.2.2.toNat 0)∧0≤(Zb w).getD (Z9c m st dn w).2.2.2.toNat 0∧(Zb w).getD (Z9c m st dn w).2.2.2.toNat 0≤23) ∨
   (Z9c m st dn w).1=2∧at? (Zi (Ze m st w)) (Z9c m st dn w).2.1=some (wAt (Zi (Ze m st w)) (Z9c m st dn w).2.1.toNat)∧WriteOk (wAt (Zi (Ze m st w)) (Z9c m st dn w).2.1.toNat) m.1):=by
 have hdn:=hS.dn
 have hs:=hS.fit.s
 have hsl:=hS.slots
 obtain ⟨d,rfl⟩:∃d:Nat,dn=(d:Int):=⟨dn.toNat,by omega⟩
 have hd:d<(Zl (Ze m st w)).length:=by omega
 have hg:Z9c m st (d:Int) w=(Zl (Ze m st w))[d]:=by
  unfold Z9c;rw [Ye];exact Zn1 hd
 have hm:(Zl (Ze m st w))[d]? = some (Zl (Ze m st w))[d]:=Yj hd
 obtain ⟨j,hj,q⟩:=(Z1ab hS.code).form d _ hm
 have hx:=Zhz hS.code _ (Yk hj)
 have hto:=hx.tgt
 refine ⟨by rw [hg];exact Zh hd,?_,?_⟩
 ·rw [hg]
  rcases q with q | q <;> rw [q] <;> (show 0≤(wAt _ j).2.1∧(wAt _ j).2.1<m.1) <;> rw [Zvg hj] <;> exact hto
 ·rw [hg]
  rcases q with q | q
  ·right
   rw [q];refine ⟨rfl,?_,?_⟩
   ·show at? (Zi (Ze m st w)) ((j:Nat):Int)=some (wAt (Zi (Ze m st w)) (((j:Nat):Int)).toNat)
    rw [Ye,Zvg hj];exact Zh hj
   ·show WriteOk (wAt (Zi (Ze m st w)) (((j:Nat):Int)).toNat) m.1
    rw [Ye,Zvg hj];exact hx
  ·left
   have h1:(Zl (Ze m st w))[d].1=1:=by rw [q]
   have h2:(Zl (Ze m st w))[d].2.2.2=Zob ((Zl (Ze m st w)).take d):=by rw [q]
   have h3:=Zxcb hm h1;have h4:=Z8u ((Zl (Ze m st w)).take d);refine ⟨h1,?_⟩;rw [h2];exact Zzv h4.1 (by omega)
theorem Ze8 (hS:Sound m st dn w) (hlt:dn<((Zl (Ze m st w)).length:Int)):0≤Zqj m st dn w∧Zqj m st dn w≤39:=by
 have hb:=hS.fit.b
 obtain ⟨_,h2,h3⟩:=Zfu hS hlt
 unfold Zqj
 rcases h3 with ⟨q,_,q1,q2⟩ | ⟨q,_⟩
 ·rw [Xc q];omega
 ·rw [Xd (by omega)];omega
theorem Zlkb (m:Zp) (x:Zg) (hx:WriteOk x m.1) (hf:Z0f m.2=true) (mv:List Zsc) (d:Nat) (hp:x.2.2.2.length≤8):(Zol m w mv d x).length≤96:=by
 unfold Zol Zaj
 split
 ·exact (by decide:Znv.length≤96)
 ·split
  ·omega
  ·split
   ·unfold Z5p
    split
    ·split
     ·exact Znm hf _
     ·exact Znm hf _
    ·simp
   ·unfold Zsh
    split
    ·rw [Zydb];omega
    ·simp
theorem Zzfb {l:List Zg} {n:Int} (h:Zwb l n=0):∀x∈Zi l,x.2.2.2.length≤8:=by
 intro x hx
 unfold Zi at hx
 have hs:=(Z8f h).2.2.2.1 x (Y6a.1 hx).1
 exact Z9u hs
theorem Zf8 (hS:Sound m st dn w) (hlt:dn<((Zl (Ze m st w)).length:Int)):(Zci m st dn w).length≤96:=by
 obtain ⟨_,h2,h3⟩:=Zfu hS hlt
 unfold Zci
 rcases h3 with ⟨q,_⟩ | ⟨q,q1,q2⟩
 ·rw [Xc q]
  exact Znm hS.fit.f _
 ·rw [Xd (by omega)]
  refine Zlkb m _ q2 hS.fit.f _ _ (Zzfb hS.code _ ?_);have:=(Zfu hS hlt).2.1
  by_cases hi:(Z9c m st dn w).2.1.toNat<(Zi (Ze m st w)).length
  ·rw [Zvg hi]
   exact Yk hi
  ·exfalso
   have hn:at? (Zi (Ze m st w)) (Z9c m st dn w).2.1=none:=by
    unfold at?;split
    ·exact Ywa (by omega)
    ·rfl
   rw [hn] at q1;cases q1
theorem Zvib (h:MSt m ph tr nd st dn dg v w):Zc fun k=>Ztc k m (ph,(tr,(nd,(st,(dn,(dg,(Zb v,Zb w))))))) (Ze m st w)=some (Zvt m ph tr nd st dn dg v w):=by
 have hf:=h.fit
 have hb:=hf.b
 have hn:=hf.n
 have hdr:=hf.dirt
 have hk0:=h.keep
 have hll:=h.log
 unfold Zvt
 by_cases c5:ph=5
 ·have hS:=h.snd (by omega)
  have hdn:=hS.dn;have hpl:=hS.plan;have hz:Zfk (Zl (Ze m st w))=some ((Zl (Ze m st w)).length:Int):=rfl;rw [Xc c5]
  by_cases ce:dn=((Zl (Ze m st w)).length:Int)
  ·rw [Xc ce]
   refine ((Z6i (m:=m) hf.f h.two (Zik h.hv)).and (Zur _ (Z8f hS.code).1 (Znj hS.code))).mono fun k ⟨e1,e2⟩=>?_
   unfold Ztc;show (bif ph != 5 then _ else _)=_;rw [show (ph != 5)=false by simpa using c5,Xf];refine Za e2 (Za hz ?_);show (bif (Ym .i64 (((Zl (Ze m st w)).length:Int)-dn))==0 then _ else _)=_;rw [w64 (n:=((Zl (Ze m st w)).length:Int)-dn) (by omega) (by omega),show (((Zl (Ze m st w)).length:Int)-dn==0)=true by rw [ce];simp,Xe];exact Za (Zbx v _ _ _ _ _ _ _) (Za e1 rfl)
  ·have hlt:dn<((Zl (Ze m st w)).length:Int):=by omega
   obtain ⟨m1,m2,m3⟩:=Zfu hS hlt;have hat:=Ze8 hS hlt;have hdl:=Zf8 hS hlt;rw [Xd ce];refine ((((Z6i (m:=m) hf.f h.two (a:=ph) (e:=dn+1) { hk0 with e:=by omega }).and (Zur _ (Z8f hS.code).1 (Znj hS.code))).and (Z2ib dn (Zqj m st dn w) (Zci m st dn w) (by constructor <;> omega) (by constructor <;> omega) (by omega))).and (Zc.ge 1048577 fun k hk=>hk)).mono fun k ⟨⟨⟨e1,e2⟩,e3⟩,hk⟩=>?_
   have hj0:Ztc.j0 k (Ze m st w) (3+(Z9c m st dn w).2.2.1) m.1 m.2.1 m.2.2 ph tr nd st dn dg (Zb v) (Zb w) (Z9c m st dn w).1 (Z9c m st dn w).2.1 (Z9c m st dn w).2.2.1 (Z9c m st dn w).2.2.2 (Zl (Ze m st w))=some (Zqj m st dn w,(Zci m st dn w,(m.1,(m.2.1,(m.2.2,(ph,(tr,(nd,(st,(dn,(dg,(Zb v,(Zb w,(Z9c m st dn w)))))))))))))):=by
    unfold Ztc.j0 Zqj Zci;dsimp only;rcases m3 with ⟨q,q1,q2,q3⟩ | ⟨q,q1,q2⟩
    ·rw [Xc q,Xc q,show ((Z9c m st dn w).1==1)=true by simpa using q,Xe]
     exact Za q1 (Za (Z6w hf q2 q3) (Za (Zvn m.2 _ hdr (by omega) (by omega) (by omega)) rfl))
    ·rw [Xd (by omega),Xd (by omega),show ((Z9c m st dn w).1==1)=false by rw [q];rfl,Xf]
     exact Za (Zjx _ (by omega) k (by omega)) (Za q1 (Za (Z38 hS ph tr nd dg (Zb v) q2 hk) rfl))
   have hj1:Ztc.j1 k (Zqj m st dn w) (Zci m st dn w) [] ph tr nd st dn dg (Zb v) (Zb w)=some (if (Zci m st dn w).length=8 then Ziu dn (Zqj m st dn w) (Zci m st dn w) else [],(ph,(tr,(nd,(st,(dn,(dg,(Zb v,Zb w)))))))):=by
    unfold Ztc.j1
    by_cases c8:(Zci m st dn w).length=8
    ·rw [Xc c8,show (((Zci m st dn w).length:Int)==8)=true by rw [c8];rfl,Xe]
     exact Za e3 rfl
    ·rw [Xd c8,show (((Zci m st dn w).length:Int)==8)=false by simp;omega]
     rfl
   unfold Ztc;show (bif ph != 5 then _ else _)=_;rw [show (ph != 5)=false by simpa using c5,Xf];refine Za e2 (Za hz ?_);show (bif (Ym .i64 (((Zl (Ze m st w)).length:Int)-dn))==0 then _ else _)=_;rw [w64 (n:=((Zl (Ze m st w)).length:Int)-dn) (by omega) (by omega),show (((Zl (Ze m st w)).length:Int)-dn==0)=false by simp;omega,Xf];refine Za m1 (Za m1 ?_);rw [w64 (n:=3+(Z9c m st dn w).2.2.1) (by omega) (by omega)];refine Za hj0 (Za hj1 ?_);show Yib (Zde k m (ph,(tr,(nd,(st,(Ym .i64 (dn+1),(dg,(Zb v,Zb w)))))))) _=_;rw [w64 (n:=dn+1) (by omega) (by omega)];have hkl:=Z0r m.2 (Ztf (ph,tr,nd,st,dn+1,(v:Int),(w:Int),dg));refine Za e1 (Za (Zlb (by unfold Zzb;simp;omega)) ?_);rw [w64 (n:=((Zl (Ze m st w)).length:Int)-dn-1) (by omega) (by omega),show ((Zl (Ze m st w)).length:Int)-dn-1=((Zl (Ze m st w)).length:Int)-(dn+1) by omega];rfl
 ·rw [Xd c5]
  refine Zc.of fun k=>?_
  unfold Ztc;show (bif ph != 5 then _ else _)=_;rw [show (ph != 5)=true by simpa using c5];rfl
end
def Z0t (m:Zp) (ph tr nd st dn:Int) (dg:Str) (v w:Nat) (a:Int):Zuk:=match Z4h (Zqc v w) a with
 | some l=>Zih (Zzb m.2 ph tr nd st dn dg (v ||| Zxh l) w)
 | none=>Z1f 11
def Z3cb (m:Zp) (ph tr nd st dn:Int) (v w:Nat):List Int:=[ph,tr,((Ze m st w).length:Int),Zjk (Ze m st w),(if ph=5 then ((Zl (Ze m st w)).length:Int)-dn else 0),((Zb (Zqc v w)).length:Int)]
def Z8h (m:Zp) (c:Zjg) (ph tr nd st dn:Int) (dg:Str) (v w:Nat):Zuk:=if c.1=1 then Zqp m ph v c.2.1 c.2.2.1 c.2.2.2.1 else if c.1=2 then Zwq m ph nd st w c.2.2.2.2 else if c.1=3 then Z1p m ph tr nd st dn dg v w else if c.1=4 then (if ph=1∨ph=5 then Z1f 10 else Zih (Zpm m v)) else if c.1=5 then (if ph=4 then Zih ([(false,(2,[])),Zzc]++Zzb m.2 5 0 nd st dn dg v w) else Z1f 10) else if c.1=6 then Zvt m ph tr nd st dn dg v w else if c.1=7 then (if m.1≤c.2.1 then Z1f 8 else ([],((Z6j m ph st dn w).getD c.2.1.toNat [],([],0)))) else if c.1=8 then ([],([],(Z3cb m ph tr nd st dn v w,0))) else if c.1=9 then Z0t m ph tr nd st dn dg v w c.2.1 else if c.1=10 then Zih (Zzb m.2 ph tr nd st dn dg 0 w) else Zih (Z0i m ph tr nd st dn dg v w)
structure CmdOk (c:Zjg):Prop where
 r:1≤c.1∧c.1≤11
 k1:c.1=1→(1≤c.2.1∧c.2.1≤20)∧(0≤c.2.2.1∧c.2.2.1≤4)∧c.2.2.2.1.length≤32
 k2:c.1=2→Zuc c.2.2.2.2.1 c.2.2.2.2.2.1 c.2.2.2.2.2.2.1 c.2.2.2.2.2.2.2 8=true
 k7:c.1=7→0≤c.2.1
 k9:c.1=9→1≤c.2.1∧c.2.1≤24
theorem Z06 {c:Zjg} (h:Z7f c=true):CmdOk c:=by
 unfold Z7f at h
 split at h
 ·rename_i q
  simp only [Ya,decide_eq_true_eq] at h;exact ⟨by omega,fun _=>⟨by omega,by omega,by omega⟩,by omega,by omega,by omega⟩
 ·split at h
  ·rename_i q
   simp only [Ya,decide_eq_true_eq] at h;exact ⟨by omega,by omega,fun _=>h.2,by omega,by omega⟩
  ·split at h
   ·rename_i q
    simp only [Ya,decide_eq_true_eq] at h;exact ⟨by omega,by omega,by omega,by omega,fun _=>by omega⟩
   ·split at h
    ·rename_i q
     simp only [Ya,decide_eq_true_eq] at h;exact ⟨by omega,by omega,by omega,fun _=>by omega,by omega⟩
    ·simp only [Ya,decide_eq_true_eq] at h
     exact ⟨by omega,by omega,by omega,by omega,by omega⟩
section
variable {m:Zp} {ph tr nd st dn:Int} {dg:Str} {v w:Nat}
theorem Zu8 (h:MSt m ph tr nd st dn dg v w) {n:Int} (h1:1≤n) {l:List Int} (hr:Z4h (Zqc v w) n=some l):Zxh l<16777216∧l=Zb (Zxh l)∧v &&& Zxh l=0∧(v ||| Zxh l)<16777216:=by
 obtain ⟨⟨u,u1,u2,u3⟩,_⟩:=Zy3 (Zsr h.hv h.hw) h1 hr
 have e:Zxh l=u:=by rw [u2];exact Zf6 u1
 rw [e]
 refine ⟨u1,u2,and_zero (fun i hi q=>?_) h.hv,?_⟩
 ·have:=u3 i q.2
  rw [Zi8 hi,q.1] at this;cases this
 ·have:v ||| u<2^24:=Nat.or_lt_two_pow (by simpa using h.hv) (by simpa using u1)
  simpa using this
theorem Z9hb (hs:stM m=some (ph,(tr,(nd,(st,(dn,(dg,(v,w)))))))) (h:MSt m ph tr nd st dn dg v w) {c:Zjg} (hc:CmdOk c):Zc fun k=>Zmc k m c=some (if (Zm m.2).1=1000000 then Z1f 9 else Z8h m c ph tr nd st dn dg v w):=by
 have hf:=h.fit
 have hb:=hf.b
 have hn:=hf.n
 have hdr:=hf.dirt
 have hl:m.2.1.length≤1048576:=by omega
 have hk0:=h.keep
 have hll:=h.log
 have hlv:=Zyg v
 have hlw:=Zyg w
 have pre0:Zc fun k=>Zsf k m=some (Z6x (some (ph,tr,nd,st,dn,dg,v,w))):=by rw [← hs];exact Zvr m hl (by omega)
 have pre:=(pre0.and (Zw1 hf.f h.two)).and (Z1t ph tr nd st dn dg (Zb v) hf)
 by_cases cg:(Zm m.2).1=1000000
 ·rw [Xc cg]
  refine pre.mono fun k ⟨⟨p1,p2⟩,p3⟩=>?_
  unfold Zmc;refine Za p1 (Za p2 ?_);rw [show ((Zm m.2).1==1000000)=true by simpa using cg];rfl
 ·rw [Xd cg]
  have hg:((Zm m.2).1==1000000)=false:=by simpa using cg
  obtain ⟨o,a,b,t,s⟩:=c;have hr:=hc.r;dsimp only at hr;have ho:o=1∨o=2∨o=3∨o=4∨o=5∨o=6∨o=7∨o=8∨o=9∨o=10∨o=11:=by omega
  rcases ho with rfl | rfl | rfl | rfl | rfl | rfl | rfl | rfl | rfl | rfl | rfl
  ·obtain ⟨q1,q2,q3⟩:=hc.k1 rfl
   refine (pre.and (Zcib h (1,(a,(b,(t,s)))) q1 q2 q3)).mono fun k ⟨⟨⟨p1,p2⟩,p3⟩,e⟩=>?_
   unfold Zmc;refine Za p1 (Za p2 ?_);rw [hg,Xf];exact Za p3 (Za e rfl)
  ·refine (pre.and (Zkjb h s (hc.k2 rfl))).mono fun k ⟨⟨⟨p1,p2⟩,p3⟩,e⟩=>?_
   unfold Zmc;refine Za p1 (Za p2 ?_);rw [hg,Xf];exact Za p3 (Za e rfl)
  ·refine (pre.and (Zuib h)).mono fun k ⟨⟨⟨p1,p2⟩,p3⟩,e⟩=>?_
   unfold Zmc;refine Za p1 (Za p2 ?_);rw [hg,Xf];exact Za p3 (Za e rfl)
  ·refine (pre.and (Z6i (m:=m) hf.f h.two (Zik h.hv))).mono fun k ⟨⟨⟨p1,p2⟩,p3⟩,e⟩=>?_
   unfold Zmc;refine Za p1 (Za p2 ?_);rw [hg,Xf];refine Za p3 ?_;show (bif (ph==1)||(ph==5) then _ else _)=some (if ph=1∨ph=5 then Z1f 10 else Zih (Zpm m v))
   by_cases q:ph=1∨ph=5
   ·rw [Xc q,show ((ph==1)||(ph==5))=true by rcases q with q | q <;> rw [q] <;> rfl]
    rfl
   ·rw [Xd q,show ((ph==1)||(ph==5))=false by
     rw [Yoa];exact ⟨by simp;omega,by simp;omega⟩,Xf]
    exact Za (Zbx v _ _ _ _ _ _ _) (Za e rfl)
  ·refine (pre.and (Z6i (m:=m) hf.f h.two (a:=5) (b:=0) { hk0 with a:=by omega,b:=by omega })).mono fun k ⟨⟨⟨p1,p2⟩,p3⟩,e⟩=>?_
   unfold Zmc;refine Za p1 (Za p2 ?_);rw [hg,Xf];refine Za p3 ?_;show (bif ph != 4 then _ else _)=some (if ph=4 then Zih ([(false,(2,[])),Zzc]++Zzb m.2 5 0 nd st dn dg v w) else Z1f 10)
   by_cases q:ph=4
   ·rw [Xc q,show (ph != 4)=false by simpa using q,Xf]
    have hkl:=Z0r m.2 (Ztf (5,0,nd,st,dn,(v:Int),(w:Int),dg));exact Za e (Za (Zlb (by unfold Zzb;simp;omega)) rfl)
   ·rw [Xd q,show (ph != 4)=true by simpa using q]
    rfl
  ·refine (pre.and (Zvib h)).mono fun k ⟨⟨⟨p1,p2⟩,p3⟩,e⟩=>?_
   unfold Zmc;refine Za p1 (Za p2 ?_);rw [hg,Xf];exact Za p3 (Za e rfl)
  ·refine (pre.and (Z98 hs h)).mono fun k ⟨⟨⟨p1,p2⟩,p3⟩,e⟩=>?_
   have h7:=hc.k7 rfl;dsimp only at h7;have hvl:=Z0ob h;unfold Zmc;refine Za p1 (Za p2 ?_);rw [hg,Xf];refine Za p3 ?_;show (bif decide (m.1≤a) then _ else _)=some (if m.1≤a then Z1f 8 else ([],((Z6j m ph st dn w).getD a.toNat [],([],0))))
   by_cases q:m.1≤a
   ·rw [Xc q,Xa q]
    rfl
   ·rw [Xd q,Xb q,Xf]
    have hat:=Zyv (l:=Z6j m ph st dn w) (n:=a) h7 (by omega);exact Za e (Za hat (Za hat rfl))
  ·have hmv:Zc fun k=>ph=5→Zsm k m (ph,(tr,(nd,(st,(dn,(dg,(Zb v,Zb w)))))))=some (Zl (Ze m st w)):=if h5:ph=5 then (Z0ib h (by omega)).mono fun k e _=>e else Zc.of fun k q=>absurd q h5
   refine ((pre.and hmv).and (Zc.ge 100 fun k hk=>hk)).mono fun k ⟨⟨⟨⟨p1,p2⟩,p3⟩,e⟩,hk⟩=>?_
   have hcount:=Zx0 h.apart
   have hj:Zmc.j0 k m.1 m.2.1 m.2.2 0 ph tr nd st dn dg (Zb v) (Zb w)=some ((if ph=5 then ((Zl (Ze m st w)).length:Int)-dn else 0),(ph,(tr,(nd,(st,(dn,(dg,(Zb v,Zb w)))))))):=by
    unfold Zmc.j0
    by_cases h5:ph=5
    ·have hS:=h.snd (by omega)
     have hpl:=hS.plan;have hdn:=hS.dn;rw [Xc h5,show (ph==5)=true by simpa using h5,Xe];refine Za (e h5) (Za (a:=((Zl (Ze m st w)).length:Int)) rfl ?_);rw [w64 (n:=((Zl (Ze m st w)).length:Int)-dn) (by omega) (by omega)]
    ·rw [Xd h5,show (ph==5)=false by simpa using h5]
     rfl
   unfold Zmc;refine Za p1 (Za p2 ?_);rw [hg,Xf];refine Za p3 (Za hj (Za (a:=((Ze m st w).length:Int)) rfl (Za (Z28 _ hll.2.1 (by omega)) (Za (a:=((Zb v).length:Int)) rfl (Za (a:=((Zb w).length:Int)) rfl ?_)))));rw [w64 (n:=24-((Zb v).length:Int)) (by omega) (by omega),w64 (n:=24-((Zb v).length:Int)-((Zb w).length:Int)) (by omega) (by omega),show 24-((Zb v).length:Int)-((Zb w).length:Int)=((Zb (Zqc v w)).length:Int) by omega];rfl
  ·obtain ⟨q1,q2⟩:=hc.k9 rfl
   dsimp only at q1 q2;obtain ⟨n,rfl⟩:∃n:Nat,a=(n:Int):=⟨a.toNat,by omega⟩
   have hres:∀k,200≤k→Zub k (Zb v) (Zb w) (n:Int)=some (match Z4h (Zqc v w) (n:Int) with
    | some l=>(l,true)
    | none=>([],false)):=fun k hk=>Z68 v w n h.hv h.hw (by omega) hk
   have goalE:Z8h m (9,((n:Int),(b,(t,s)))) ph tr nd st dn dg v w=Z0t m ph tr nd st dn dg v w (n:Int):=rfl;rw [goalE];unfold Z0t;cases hq:Z4h (Zqc v w) (n:Int) with
   | none=>
    refine (pre.and (Zc.ge 200 fun k hk=>hk)).mono fun k ⟨⟨⟨p1,p2⟩,p3⟩,hk⟩=>?_
    have hr2:=hres k hk;rw [hq] at hr2;unfold Zmc;refine Za p1 (Za p2 ?_);rw [hg,Xf];exact Za p3 (Za hr2 rfl)
   | some l=>
    obtain ⟨u1,u2,u3,u4⟩:=Zu8 h (by omega) hq;refine ((pre.and (Z6i (m:=m) hf.f h.two (v:=v ||| Zxh l) { hk0 with v:=u4 })).and (Zc.ge 200 fun k hk=>hk)).mono fun k ⟨⟨⟨⟨p1,p2⟩,p3⟩,e⟩,hk⟩=>?_
    have hr2:=hres k hk;rw [hq] at hr2;unfold Zmc;refine Za p1 (Za p2 ?_);rw [hg,Xf];refine Za p3 (Za hr2 ?_);show Yib (Znc k (Zb v)) _=_
    have hbl:Znc k l=some ((Zxh l:Nat):Int):=by
     have:=Zun (Zxh l) u1 k (by omega);rw [← u2] at this;exact this
    refine Za (Zun v h.hv k (by omega)) (Za hbl ?_);have hv2:=h.hv;rw [ori v (Zxh l) (by omega) (by omega)];exact Za (Z9w _ u4 k (by omega)) (Za e rfl)
  ·refine (pre.and (Z6i (m:=m) hf.f h.two (v:=0) { hk0 with v:=by omega })).mono fun k ⟨⟨⟨p1,p2⟩,p3⟩,e⟩=>?_
   rw [Zrp] at e;unfold Zmc;refine Za p1 (Za p2 ?_);rw [hg,Xf];exact Za p3 (Za e rfl)
  ·refine (pre.and (Zy8 h.toMS0)).mono fun k ⟨⟨⟨p1,p2⟩,p3⟩,e⟩=>?_
   unfold Zmc;refine Za p1 (Za p2 ?_);rw [hg,Xf];exact Za p3 (Za e rfl)
end
def Zbk (m:Zp) (c:Zjg):Zuk:=if Z2f m=true∧Z7f c=true then (if (Zm m.2).1=1000000 then Z1f 9 else match stM m with
 | some (ph,tr,nd,st,dn,dg,v,w)=>Z8h m c ph tr nd st dn dg v w
 | none=>Z1f 1) else Z1f 1
def Zjj (f:Zy) (n:Int) (s:Str):Zy:=match Zlh f n with
 | some i=>(f.1,f.2.set i (n,s))
 | none=>(f.1,f.2++[(n,s)])
def Zrg (s:List Str) (l:List Zdc):List Str:=l.foldl (fun s d=>s.set d.1.toNat d.2) s
def Z9m (f:Zy):Zy:=(Zrg f.1 f.2,[])
def doA (f:Zy) (a:Bool×Int×Str):Zy:=if a.1=true then Z9m f else Zjj f a.2.1 a.2.2
def doF (f:Zy) (l:List (Bool×Int×Str)):Zy:=l.foldl doA f
def Z5q (n:Nat) (a:Bool×Int×Str):Prop:=a.1=false→(0≤a.2.1∧a.2.1<(n:Int))∧a.2.2.length≤96
structure FlashP (f:Zy):Prop where
 n:1≤f.1.length∧f.1.length≤40
 s:∀x∈f.1,x.length≤96
 d:∀x∈f.2,(0≤x.1∧x.1<(f.1.length:Int))∧x.2.length≤96
 u:(f.2.map fun x=>x.1).Nodup
theorem FlashP.len {f:Zy} (h:FlashP f):f.2.length≤f.1.length:=by
 have:=Zhu f.1.length (f.2.map fun x=>x.1.toNat) (by
  have hu:=h.u;unfold List.Nodup at hu ⊢;rw [Yy] at hu ⊢;refine hu.imp_of_mem fun {a b} ha hb q e=>q ?_
  have:=(h.d a ha).1;have:=(h.d b hb).1;omega) (fun x hx=>by
  obtain ⟨y,hy,rfl⟩:=Yf.1 hx;have:=(h.d y hy).1;omega)
 simpa using this
theorem FlashP.b {f:Zy} (h:FlashP f):Z0f f=true:=by
 unfold Z0f
 rw [Ya,Ya]
 refine ⟨Xa ⟨h.n.1,h.n.2,h.len⟩,Y1.2 fun x hx=>Xa (h.s x hx),Y1.2 fun i hi=>?_⟩
 have hi:=Y9a.1 hi
 have hg:f.2.getD i (0,[])=f.2[i]:=by rw [Yb,Yj hi];rfl
 have hd:=h.d _ (Yk hi)
 unfold okD
 rw [hg,Ya,Ya,Ya]
 refine ⟨⟨⟨Xa hd.1.1,Xa (by omega)⟩,Xa hd.2⟩,?_⟩
 rw [Yaa,Yca]
 intro x hx
 obtain ⟨j,hj,rfl⟩:=Ybb.1 hx
 have hu:=Y6.1 (Yy.1 h.u) j i (by omega) hi (by omega)
 simpa using hu
theorem FlashP.of {f:Zy} (h:Z0f f=true):FlashP f:=by
 obtain ⟨h1,h2,_⟩:=Z4p h
 unfold Z0f at h
 rw [Ya,Ya] at h
 have h3:=fun i hi=>Y1.1 h.2.2 i (Y9a.2 hi)
 have h4:∀i (hi:i<f.2.length),((0≤f.2[i].1∧f.2[i].1<(f.1.length:Int))∧f.2[i].2.length≤96)∧∀j (hj:j<i),f.2[j].1≠f.2[i].1:=fun i hi=>by
  have hg:f.2.getD i (0,[])=f.2[i]:=by rw [Yb,Yj hi];rfl
  have h5:=h3 i hi;unfold okD at h5;rw [hg,Ya,Ya,Ya] at h5;obtain ⟨⟨⟨a,b⟩,c⟩,d⟩:=h5;have b:=of_decide_eq_true b;refine ⟨⟨⟨of_decide_eq_true a,by omega⟩,of_decide_eq_true c⟩,fun j hj=>?_⟩;rw [Yaa,Yca] at d;have:=d f.2[j] (Ybb.2 ⟨j,by omega,rfl⟩);simpa using this
 refine ⟨⟨h1.1,h1.2.1⟩,h2,fun x hx=>?_,?_⟩
 ·obtain ⟨i,hi,rfl⟩:=Y7a.1 hx
  exact (h4 i hi).1
 ·refine Yy.2 (Y6.2 fun i j hi hj hij=>(h4 j hj).2 i hij)
theorem Z6t:∀(l:List Zdc) (s:List Str),(Zrg s l).length=s.length
 | [],_=>rfl
 | d::l,s=>by
  show (Zrg (s.set d.1.toNat d.2) l).length=_;rw [Z6t l,Y5]
theorem Zs9:∀(l:List Zdc) (s:List Str),(∀x∈s,x.length≤96)→(∀d∈l,d.2.length≤96)→∀x∈Zrg s l,x.length≤96
 | [],_,h,_=>h
 | d::l,s,h,hd=>by
  refine Zs9 l _ (fun x hx=>?_) fun y hy=>hd y (Yn _ hy)
  rcases Y8a hx with q | q
  ·exact h x q
  ·rw [q];exact hd d Yh
theorem FlashP.sync {f:Zy} (h:FlashP f):FlashP (Z9m f):=by
 refine ⟨?_,Zs9 f.2 f.1 h.s fun d hd=>(h.d d hd).2,fun x hx=>(by cases hx),Yka⟩
 show 1≤(Zrg f.1 f.2).length∧(Zrg f.1 f.2).length≤40
 rw [Z6t]
 exact h.n
theorem FlashP.write {f:Zy} (h:FlashP f) {n:Int} {s:Str} (hn:0≤n∧n<(f.1.length:Int)) (hs:s.length≤96):FlashP (Zjj f n s):=by
 unfold Zjj
 cases hd:Zlh f n with
 | some i=>
  have hi:=Zir hd;obtain ⟨_,_,h3,_⟩:=Z4i (show Zgb (fun x:Zdc=>x.1==n) f.2 0=some i from hd);have h3:f.2[i].1=n:=by simpa using h3
  have hm:(f.2.set i (n,s)).map (fun x=>x.1)=f.2.map fun x=>x.1:=by
   rw [List.map_set];refine Yo (by simp) fun j h1 h2=>?_
   rw [Y0a];split
   ·rename_i q
    subst q;simp [h3]
   ·rfl
  refine ⟨h.n,h.s,fun x hx=>?_,?_⟩
  ·rcases Y8a hx with q | q
   ·exact h.d x q
   ·rw [q];exact ⟨hn,hs⟩
  ·show ((f.2.set i (n,s)).map fun x=>x.1).Nodup
   rw [hm];exact h.u
 | none=>
  have hno:=Ztn.1 (show Zgb (fun x:Zdc=>x.1==n) f.2 0=none from hd);refine ⟨h.n,h.s,fun x hx=>?_,?_⟩
  ·rcases Yp.1 hx with q | q
   ·exact h.d x q
   ·rw [Yl.1 q];exact ⟨hn,hs⟩
  ·show ((f.2++[(n,s)]).map fun x=>x.1).Nodup
   rw [Y3a];refine Ycb.2 ⟨h.u,by simp,fun a ha b hb=>?_⟩;obtain ⟨y,hy,rfl⟩:=Yf.1 ha;have:=hno y hy;simp only [Y4a,Y5a,Yl] at hb;subst hb;simpa using this
theorem Z2ob (f:Zy) (n:Int) (s:Str):(Zjj f n s).1=f.1:=by
 unfold Zjj
 split <;> rfl
theorem Z40 (f:Zy) (a:Bool×Int×Str):(doA f a).1.length=f.1.length:=by
 unfold doA
 split
 ·exact Z6t _ _
 ·rw [Z2ob]
theorem FlashP.act {f:Zy} (h:FlashP f) {a:Bool×Int×Str} (ha:Z5q f.1.length a):FlashP (doA f a):=by
 unfold doA
 cases q:a.1 with
 | true=>exact h.sync
 | false=>exact h.write (ha q).1 (ha q).2
theorem FlashP.acts:∀(l:List (Bool×Int×Str)) {f:Zy},FlashP f→(∀a∈l,Z5q f.1.length a)→FlashP (doF f l)∧(doF f l).1.length=f.1.length
 | [],f,h,_=>⟨h,rfl⟩
 | a::l,f,h,ha=>by
  obtain ⟨h1,h2⟩:=FlashP.acts l (h.act (ha a Yh)) fun b hb=>by rw [Z40];exact ha b (Yn _ hb)
  exact ⟨h1,by rw [← Z40 f a];exact h2⟩
theorem Zp7 (f:Zy) {l:List (Bool×Int×Str)} {i:Nat} (h:i<l.length):doF f (l.take (i+1))=doA (doF f (l.take i)) l[i]:=by
 unfold doF
 rw [Yfb h,Y3]
 rfl
theorem Zr9 (s:List Str) {l:List Zdc} {i:Nat} (h:i<l.length):Zrg s (l.take (i+1))=(Zrg s (l.take i)).set l[i].1.toNat l[i].2:=by
 unfold Zrg
 rw [Yfb h,Y3]
 rfl
def Z4c (n:Nat) (l:List Z4b):Prop:=∀a∈l,Z5q n a
theorem Zkm (n:Nat):Z4c n []:=fun a ha=>by cases ha
theorem Zjm {n:Nat} {a b:List Z4b} (h1:Z4c n a) (h2:Z4c n b):Z4c n (a++b):=fun x hx=>(Yp.1 hx).elim (h1 x) (h2 x)
theorem Zb8 (n:Nat):Z5q n Zzc:=fun q=>by cases q
theorem Zlm (n:Nat):Z4c n [Zzc]:=fun a ha=>by rw [Yl.1 ha];exact Zb8 n
theorem Z3p {n:Nat} {a:Z4b} {l:List Z4b} (h1:Z5q n a) (h2:Z4c n l):Z4c n (a::l):=fun x hx=>(Yq.1 hx).elim (fun q=>q▸h1) (h2 x)
theorem Z4c.take {n:Nat} {l:List Z4b} (h:Z4c n l) (i:Nat):Z4c n (l.take i):=fun a ha=>h a (List.mem_of_mem_take ha)
theorem Zfy {n:Int} (h0:0≤n) (h:n≤1000000):(Zj n).length≤3:=by
 unfold Zj
 rw [Z3g]
 refine Z3w 10 _ 3 ?_ (by omega)
 unfold zig
 rw [Xd (by omega)]
 omega
theorem Z7ab {t:Str} (h:t.length≤1000):(Znb t).length≤3+t.length:=by
 unfold Znb
 rw [Yc]
 have:=Zfy (n:=(t.length:Int)) (by omega) (by omega)
 omega
theorem Ztkb {n:Int} {t:Str} (h0:0≤n) (h:n≤1000000) (ht:t.length≤80):(Zkk n t).length≤96:=by
 have h1:=Zfy h0 h
 have h2:=Z7ab (t:=t) (by omega)
 unfold Zkk
 rw [Z4u,Yc]
 omega
theorem Z6kb {n a:Int} {t:Str} (hn:0≤n∧n≤1000000) (ha:0≤a∧a≤1000000) (ht:t.length≤8):(Ziu n a t).length≤96:=by
 have h1:=Zfy hn.1 hn.2
 have h2:=Zfy ha.1 ha.2
 have h3:=Z7ab (t:=t) (by omega)
 unfold Ziu Zhq
 rw [Z4u,Yc,Yc]
 omega
theorem Zlbb {n:Int} {x:Zg}:x.2.2.2.length≤8→(Z3h n x).length≤96:=fun h=>by
 have l0:=Zhe n
 have l1:=Zhe x.1
 have l2:=Zhe x.2.1
 have l3:=Zhe x.2.2.1
 have l4:=Ztl x.2.2.2
 unfold Z3h Ztk
 rw [Z4u]
 simp only [Yc]
 omega
section
variable {m:Zp} {ph tr nd st dn:Int} {dg:Str} {v w:Nat}
theorem Z2jb {f:Zy} {n:Nat} (h2:2≤n) {t:Str} (ht:t.length≤80):Z4c n (Zml f t):=by
 unfold Zml
 split
 ·rename_i hg
  have h0:=Zxx f;refine Z3p (fun _=>⟨?_,Ztkb (by omega) (by omega) ht⟩) (Zlm n);dsimp only;split <;> omega
 ·exact Zkm n
theorem Zki {f:Zy} {n:Nat} (h2:2≤n) {a b c d e:Int} {x:Str} {v w:Nat} (h:Keep a b c d e x v w):Z4c n (Zzb f a b c d e x v w):=Z2jb h2 h.len
theorem Zwjb {n:Nat} (h2:2≤n) (hv:v<16777216):Z4c n (Zpm m v):=Zki h2 (Zik hv)
theorem Zjgb (hf:Fit m st w) (l:List Int) (hx:∀x∈l,0≤x∧x≤23):Z4c m.2.1.length (Zzf m l):=by
 have hb:=hf.b
 have hn:=hf.n
 intro a ha
 unfold Zzf at ha
 obtain ⟨x,q,rfl⟩:=Yf.1 ha
 have:=hx x (Y6a.1 q).1
 exact fun _=>⟨by dsimp only;omega,by simp⟩
theorem Zfkb (hf:Fit m st w) (l:List Int) (hx:∀x∈l,0≤x∧x≤23):Z4c m.2.1.length (Zdq m l):=by
 unfold Zdq
 split
 ·exact Zkm _
 ·exact Zjm (Zjgb hf l hx) (Zlm _)
theorem Zwkb (w:Nat):∀x∈Zb w,0≤x∧x≤23:=fun x hx=>by
 obtain ⟨j,hj,rfl⟩:=Y7a.1 hx
 exact Z2k hj
theorem Z5kb (s:Str) (n:Int) {k:Nat} (h:(Zph s n).2.1<(k:Int)):Z5q k (Zph s n):=fun q=>by
 refine ⟨⟨(Zjab s n q).1,h⟩,?_⟩
 unfold Zph at q ⊢
 split at q
 ·rename_i hq
  rw [Xc hq];split at q
  ·split at q
   ·rename_i q2
    rw [Xc q2];have:=(Ziab.1 q2.2).2.2;dsimp only;omega
   ·cases q
  ·cases q
 ·cases q
theorem Zj6 (h:MS0 m ph tr nd st dn dg v w):Z4c m.2.1.length (Z0i m ph tr nd st dn dg v w):=by
 have hf:=h.fit
 have hk0:=h.keep
 have h2:=h.two
 unfold Z0i
 by_cases c2:ph=2
 ·rw [Xc c2]
  exact Zfkb hf _ fun x hx=>Zwkb w x (List.mem_of_mem_drop hx)
 ·rw [Xd c2]
  by_cases c3:ph=3
  ·rw [Xc c3]
   exact Zki h2 { hk0 with a:=by omega,b:=by omega }
  ·rw [Xd c3]
   by_cases c4:ph=4
   ·rw [Xc c4]
    by_cases ct:tr=0
    ·rw [Xc ct]
     exact Zki h2 (Zik h.hv)
    ·rw [Xd ct]
     have hbz:=(h.busy (by omega)).2.2.2.2.1;exact Zki h2 { hk0 with a:=by omega,b:=by omega }
   ·rw [Xd c4]
    by_cases c5:ph=5
    ·rw [Xc c5]
     obtain ⟨q1,q2,q3,q4,q5,q6,q7,q8⟩:=h.busy (by omega);split
     ·exact Zkm _
     ·rename_i q
      refine Zjm (Z3p (Z5kb _ _ (Int.not_le.1 fun z=>q (.inr z))) (Zlm _)) (Zki h2 { hk0 with a:=by omega,e:=by omega })
    ·rw [Xd c5]
     exact Zkm _
theorem Zaeb (h:MSt m ph tr nd st dn dg v w) {c:Zjg} (hc:CmdOk c):Z4c m.2.1.length (Z8h m c ph tr nd st dn dg v w).1:=by
 have hf:=h.fit
 have hb:=hf.b
 have hn:=hf.n
 have h2:=h.two
 have hk0:=h.keep
 have hid:=Zwjb (m:=m) h2 h.hv
 have nil:=Zkm m.2.1.length
 unfold Z8h
 split
 ·rename_i c1
  obtain ⟨q1,q2,q3⟩:=hc.k1 c1;unfold Zqp;split
  ·split
   ·rename_i l hl
    obtain ⟨u,u1,u2,u3,u4,u5⟩:=Zz3 (Zsr h.hv (by omega)) (by omega) hl;refine Zjm (Zjm (fun a ha=>?_) (Zlm _)) (Zki h2 { hk0 with a:=by omega,b:=by omega,c:=by omega,d:=by omega,e:=by omega,x:=q3,w:=by omega });unfold Zfh at ha;obtain ⟨x,q,rfl⟩:=Yf.1 ha;have:=u5 x q;exact fun _=>⟨by dsimp only;omega,by simp⟩
   ·exact nil
  ·exact nil
 ·split
  ·rename_i c2
   have hx:=hc.k2 c2;unfold Zwq;split
   ·rename_i p2
    split
    ·exact nil
    ·rename_i hne
     split
     ·obtain ⟨q1,q2,q3,q4,q5,q6,q7,q8⟩:=h.busy (by omega)
      have hll:=h.log;refine Z3p (fun _=>⟨?_,Zlbb (Z9u hx)⟩) ?_
      ·have:=Zzv (w:=w) (n:=st+((Ze m st w).length:Int)) (by omega) (by omega)
       dsimp only;omega
      ·split
       ·exact Zlm _
       ·exact nil
     ·exact nil
   ·exact nil
  ·split
   ·unfold Z1p
    split
    ·split
     ·split
      ·split
       ·split
        ·exact hid
        ·exact Zjm (Zlm _) (Zki h2 { hk0 with a:=by omega })
       ·exact hid
      ·exact hid
     ·exact hid
    ·exact nil
   ·split
    ·split
     ·exact nil
     ·exact hid
    ·split
     ·split
      ·refine Zjm (Z3p (fun _=>⟨by dsimp only;omega,by simp⟩) (Zlm _)) (Zki h2 { hk0 with a:=by omega,b:=by omega })
      ·exact nil
     ·split
      ·unfold Zvt
       split
       ·rename_i p5
        split
        ·exact hid
        ·rename_i hne
         have hS:=h.snd (by omega);have hdn:=hS.dn;have hlt:dn<((Zl (Ze m st w)).length:Int):=by omega
         have hpl:=hS.plan;have hr:=Ze8 hS hlt;have hl:=Zf8 hS hlt
         have hr2:Zqj m st dn w<(m.2.1.length:Int):=by
          obtain ⟨_,z2,z3⟩:=Zfu hS hlt;unfold Zqj;rcases z3 with ⟨q,_,q1,q2⟩ | ⟨q,_⟩
          ·rw [Xc q];omega
          ·rw [Xd (by omega)];omega
         refine Zjm (Z3p (fun _=>⟨by dsimp only;omega,?_⟩) (Z3p (Zb8 _) (Z3p (fun _=>⟨⟨hr.1,hr2⟩,hl⟩) (Zlm _)))) (Zki h2 { hk0 with e:=by omega });dsimp only;split
         ·exact Z6kb ⟨by omega,by omega⟩ ⟨by omega,by omega⟩ (by omega)
         ·simp
       ·exact nil
      ·split
       ·split
        ·exact nil
        ·exact nil
       ·split
        ·exact nil
        ·split
         ·rename_i c9
          obtain ⟨q1,q2⟩:=hc.k9 c9;unfold Z0t;split
          ·rename_i l hl
           obtain ⟨n,hn9⟩:∃n:Nat,c.2.1=(n:Int):=⟨c.2.1.toNat,by omega⟩;rw [hn9] at hl;obtain ⟨u1,u2,u3,u4⟩:=Zu8 h (by omega) hl;exact Zki h2 { hk0 with v:=u4 }
          ·exact nil
         ·split
          ·exact Zki h2 { hk0 with v:=by omega }
          ·exact Zj6 h.toMS0
end
theorem Zi5 (m:Zp) (c:Zjg):Z4c m.2.1.length (Zbk m c).1:=by
 unfold Zbk
 split
 ·rename_i hmc
  split
  ·exact Zkm _
  ·split
   ·rename_i ph tr nd st dn dg v w hs
    exact Zaeb (Z42 hs hmc.1) (Z06 hmc.2)
   ·exact Zkm _
 ·exact Zkm _
def Zaz (old fresh:Str) (n:Int):Str:=if n<1 then old else if n=1 then fresh else fresh.take (n-2).toNat
def Z2i (s:List Str) (l:List Zdc) (fs:List Int):Nat→List Str
 | 0=>s
 | i+1=>(Z2i s l fs i).set (l.getD i (0,[])).1.toNat (Zaz (s.getD (l.getD i (0,[])).1.toNat []) (l.getD i (0,[])).2 (fs.getD i 0))
def Zer (f:Zy) (fs:List Int):Zy:=(Z2i f.1 f.2 fs f.2.length,[])
theorem Zb7 (s:List Str) (l:List Zdc) (fs:List Int):∀i,(Z2i s l fs i).length=s.length
 | 0=>rfl
 | i+1=>by
  unfold Z2i;rw [Y5,Zb7 s l fs i]
theorem Zzw {l:List Zdc} {i:Nat} (h:i<l.length):l.getD i (0,[])=l[i]:=by rw [Yb,Yj h];rfl
theorem Z7k {l:List Str} {i:Nat} (h:i<l.length):l.getD i []=l[i]:=by rw [Yb,Yj h];rfl
theorem Zc7 {f:Zy} (h:FlashP f) (fs:List Int) {j:Nat} (hj:j<f.2.length):∀i,i≤j→(Z2i f.1 f.2 fs i).getD f.2[j].1.toNat []=f.1.getD f.2[j].1.toNat []
 | 0,_=>rfl
 | i+1,hi=>by
  have hd:=h.d _ (Yk hj);have hdi:=h.d _ (Yk (show i<f.2.length by omega));have hu:=Y6.1 (Yy.1 h.u) i j (by omega) hj (by omega);have ih:=Zc7 h fs hj i (by omega);unfold Z2i;rw [Zzw (by omega),Yb,Yya (by omega),← Yb,ih]
theorem Z87 {α:Type} (p:α→Bool) (d:α):∀(l:List α) (n:Nat),(match Zgb p l n with | some i=>some (l.getD (i-n) d) | none=>none)=l.find? p
 | [],n=>rfl
 | x::l,n=>by
  unfold Zgb;cases h:p x with
  | true=>simp [h]
  | false=>
   have ih:=Z87 p d l (n+1);rw [Yw (by simp [h]),← ih];rw [Xd Yr];cases h2:Zgb p l (n+1) with
   | none=>rfl
   | some i=>
    have:=(Z4i h2).1;show some ((x::l).getD (i-n) d)=some (l.getD (i-(n+1)) d);rw [show i-n=(i-(n+1))+1 by omega];rfl
theorem Z1w (f:Zy) (n:Int):Zk f n=match f.2.find? (fun x=>x.1==n) with | some d=>d.2 | none=>f.1.getD n.toNat []:=by
 have h:=Z87 (fun x:Zdc=>x.1==n) (0,[]) f.2 0
 unfold Zk Zlh
 rw [← h]
 cases Zgb (fun x:Zdc=>x.1==n) f.2 0 <;> rfl
theorem Z77 {p:Zdc→Bool} {y:Zdc}:∀(l:List Zdc) (i:Nat) (h:i<l.length),p l[i]=false→p y=false→(l.set i y).find? p=l.find? p
 | x::l,0,_,h1,h2=>by
  have h1:p x=false:=h1;rw [Yeb,Yw (by simp [h2]),Yw (by simp [h1])]
 | x::l,i+1,h,h1,h2=>by
  rw [Ydb,Yta,Yta,Z77 l i (by simpa using h) (by simpa using h1) h2]
theorem Z67 {p:Zdc→Bool} {y:Zdc}:∀(l:List Zdc) (i:Nat) (h:i<l.length),(∀j,(hj:j<i)→p (l[j]'(by omega))=false)→p y=true→(l.set i y).find? p=some y
 | x::l,0,_,_,h2=>by rw [Yeb,Yga h2]
 | x::l,i+1,h,h1,h2=>by
  have h0:p x=false:=h1 0 (by omega);rw [Ydb,Yw (by simp [h0]),Z67 l i (by simpa using h) (fun j hj=>by have:=h1 (j+1) (by omega);simpa using this) h2]
theorem Z5gb {f:Zy} {n:Int} {s:Str} (k:Int):Zk (Zjj f n s) k=if k=n then s else Zk f k:=by
 rw [Z1w,Z1w]
 unfold Zjj
 cases hd:Zlh f n with
 | some i=>
  have hi:=Zir hd;obtain ⟨_,h2,h3,h4⟩:=Z4i (show Zgb (fun x:Zdc=>x.1==n) f.2 0=some i from hd);have h3:f.2[i].1=n:=by simpa using h3
  by_cases c:k=n
  ·rw [Xc c,Z67 (p:=fun x=>x.1==k) f.2 i hi (fun j hj=>by have:=h4 j (by omega);rw [c];simpa using this) (by simp [c])]
  ·rw [Xd c,Z77 (p:=fun x=>x.1==k) f.2 i hi (by rw [h3];simpa using Ne.symm c) (by simpa using Ne.symm c)]
 | none=>
  have hno:=Ztn.1 (show Zgb (fun x:Zdc=>x.1==n) f.2 0=none from hd);show (match (f.2++[(n,s)]).find? (fun x=>x.1==k) with | some d=>d.2 | none=>f.1.getD k.toNat [])=_;rw [List.find?_append]
  by_cases c:k=n
  ·have:f.2.find? (fun x=>x.1==k)=none:=Ys.2 fun x hx=>by rw [c];simpa using hno x hx
   rw [Xc c,this];simp [c]
  ·rw [Xd c]
   have:([(n,s)]:List Zdc).find? (fun x=>x.1==k)=none:=by
    rw [Ys];intro x hx;rw [Yl.1 hx];simpa using Ne.symm c
   rw [this,Option.or_none]
theorem Zq9:∀(l:List Zdc) (s:List Str) (k:Int),(l.map fun x=>x.1).Nodup→(∀x∈l,0≤x.1∧x.1<(s.length:Int))→0≤k→(Zrg s l).getD k.toNat []=match l.find? (fun x=>x.1==k) with | some d=>d.2 | none=>s.getD k.toNat []
 | [],s,k,_,_,_=>rfl
 | d::l,s,k,hu,hr,h0=>by
  have hu2:=Yt.1 hu;have hd:=hr d Yh;have ih:=Zq9 l (s.set d.1.toNat d.2) k hu2.2 (fun x hx=>by rw [Y5];exact hr x (Yn _ hx)) h0;show (Zrg (s.set d.1.toNat d.2) l).getD k.toNat []=_;rw [ih]
  by_cases c:d.1=k
  ·have:l.find? (fun x=>x.1==k)=none:=Ys.2 fun x hx=>by
    have:x.1≠d.1:=fun q=>hu2.1 (Yf.2 ⟨x,hx,q⟩)
    rw [← c];simpa using this
   rw [this,Yga (by simpa using c),← c];show (s.set d.1.toNat d.2).getD d.1.toNat []=d.2;rw [Yb,List.getElem?_set_self (by omega)];rfl
  ·rw [Yw (by simpa using c)]
   cases l.find? (fun x=>x.1==k) with
   | some y=>rfl
   | none=>
    show (s.set d.1.toNat d.2).getD k.toNat []=s.getD k.toNat [];rw [Yb,Yya (by omega),Yb]
theorem Z4gb {f:Zy} (h:FlashP f) {k:Int} (h0:0≤k):Zk (Z9m f) k=Zk f k:=by
 rw [Z1w f,Z1w]
 exact Zq9 f.2 f.1 k h.u (fun x hx=>(h.d x hx).1) h0
def Zdh (g:Int→Str) (a:Z4b):Int→Str:=fun k=>if a.1=false∧k=a.2.1 then a.2.2 else g k
theorem Z3gb {f:Zy} (h:FlashP f) (a:Z4b) {k:Int} (h0:0≤k):Zk (doA f a) k=Zdh (Zk f) a k:=by
 unfold doA Zdh
 cases q:a.1 with
 | true=>rw [Xc rfl,Xd (fun z=>by cases z.1),Z4gb h h0]
 | false=>
  rw [Xd Yr,Z5gb]
  by_cases c:k=a.2.1
  ·rw [Xc c,Xc ⟨rfl,c⟩]
  ·rw [Xd c,Xd (fun z=>c z.2)]
def Zeh (g:Int→Str) (l:List Z4b):Int→Str:=l.foldl Zdh g
theorem Zwob {g g':Int→Str} {k:Int} (h:g k=g' k) (a:Z4b):Zdh g a k=Zdh g' a k:=by unfold Zdh;rw [h]
theorem Zpdb:∀(l:List Z4b) {g g':Int→Str} {k:Int},g k=g' k→Zeh g l k=Zeh g' l k
 | [],_,_,_,h=>h
 | a::l,g,g',k,h=>Zpdb l (Zwob h a)
theorem Z0w:∀(l:List Z4b) {f:Zy},FlashP f→Z4c f.1.length l→∀{k:Int},0≤k→Zk (doF f l) k=Zeh (Zk f) l k
 | [],f,_,_,k,_=>rfl
 | a::l,f,h,hl,k,h0=>by
  have h1:=Z0w l (h.act (hl a Yh)) (fun b hb=>by rw [Z40];exact hl b (Yn _ hb)) h0;show Zk (doF (doA f a) l) k=Zeh (Zdh (Zk f) a) l k;rw [h1];exact Zpdb l (Z3gb h a h0)
theorem Zxob (g:Int→Str) (a b:List Z4b):Zeh g (a++b)=Zeh (Zeh g a) b:=Y3
theorem Zws (g:Int→Str) (a:Z4b) (l:List Z4b):Zeh g (a::l)=Zeh (Zdh g a) l:=rfl
theorem Z4q:∀(l:List Z4b) {g:Int→Str} {k:Int},(∀a∈l,a.1=false→a.2.1≠k)→Zeh g l k=g k
 | [],_,_,_=>rfl
 | a::l,g,k,h=>by
  rw [Zws,Z4q l fun b hb=>h b (Yn _ hb)];unfold Zdh;rw [Xd fun z=>h a Yh z.1 z.2.symm]
theorem Zqdb (g:Int→Str):Zdh g Zzc=g:=by
 funext k
 unfold Zdh
 rw [Xd fun z=>by cases z.1]
theorem Z7fb (f:Zy) (a b:List Z4b):doF f (a++b)=doF (doF f a) b:=Y3
theorem Zz6 (f:Zy) (l:List Z4b):(doF f (l++[Zzc])).2=[]:=by
 rw [Z7fb]
 rfl
theorem Zufb {f:Zy} (h:f.2=[]) (fs:List Int):Zer f fs=f:=by
 unfold Zer
 rw [h]
 exact Prod.ext rfl h.symm
theorem Zklb {n:Int} {t:Str} (hn:Num n) (ht:t.length≤8000):Zro (Zj n++Znb t)=some (n,t,(Zj n++Znb t).length):=by
 generalize hs:Zj n++Znb t=s
 have d0:s.drop 0=Zj n++Znb t:=by rw [← hs];rfl
 have e1:=Z2w n hn s 0 _ d0
 rw [Y8] at e1
 have d1:s.drop (Zj n).length=Znb t++[]:=by rw [← hs,Y2,Yea]
 have e2:=Z04 t ht s _ [] d1
 have hl:s.length=(Zj n).length+(Znb t).length:=by rw [← hs,Yc]
 unfold Zro
 rw [e1]
 dsimp only
 rw [Ye,e2,Xc rfl,Xc rfl]
 dsimp only
 rw [Ye,hl]
theorem Zukb {n:Int} {t:Str} (h1:1≤n) (h2:n≤1000000) (ht:t.length≤80):Z0b (Zkk n t)=(n,t,0):=by
 unfold Z0b Zkk
 rw [Zndb,Z8z,Xc rfl,Zklb ⟨by omega,by omega⟩ (by omega)]
 dsimp only
 rw [Xc ⟨rfl,by unfold Zpl;rw [Xa h1,Xa h2,Xa ht];rfl⟩]
theorem Zmr {s x t:Str} {i:Nat} (h:s.drop i=x++t):s.drop (i+x.length)=t:=by rw [← List.drop_drop,h,Y2]
theorem Z5nb {r:Int×Int×Int×Int×Int×Int×Int×Str} (h1:Num r.1) (h2:Num r.2.1) (h3:Num r.2.2.1) (h4:Num r.2.2.2.1) (h5:Num r.2.2.2.2.1) (h6:Num r.2.2.2.2.2.1) (h7:Num r.2.2.2.2.2.2.1) (h8:r.2.2.2.2.2.2.2.length≤8000):stZ (Ztf r)=some (r,(Ztf r).length):=by
 obtain ⟨a,b,c,d,e,f,g,t⟩:=r
 dsimp only at h1 h2 h3 h4 h5 h6 h7 h8
 generalize hs:Ztf (a,b,c,d,e,f,g,t)=s
 have d0:s.drop 0=Zj a++(Zj b++(Zj c++(Zj d++(Zj e++(Zj f++(Zj g++(Znb t++[]))))))):=by
  rw [← hs];unfold Ztf;simp only [Yda,Yea];rfl
 have n1:=Znk h1 d0
 rw [Y8] at n1
 have d1:s.drop (Zj a).length=Zj b++(Zj c++(Zj d++(Zj e++(Zj f++(Zj g++(Znb t++[])))))):=by
  rw [Yra] at d0;rw [d0,Y2]
 have n2:=Znk h2 d1
 have d2:=Zmr d1
 have n3:=Znk h3 d2
 have d3:=Zmr d2
 have n4:=Znk h4 d3
 have d4:=Zmr d3
 have n5:=Znk h5 d4
 have d5:=Zmr d4
 have n6:=Znk h6 d5
 have d6:=Zmr d5
 have n7:=Znk h7 d6
 have d7:=Zmr d6
 have n8:=Zddb h8 d7
 have hl:=congrArg List.length d0
 simp only [Y1a,Yc,Yg] at hl
 unfold stZ
 simp only [n1,n2,n3,n4,n5,n6,n7,n8,Yma,Option.map_some]
 congr 2
 omega
theorem Z9nb {a b c d e:Int} {x:Str} {v w:Nat} (h:Keep a b c d e x v w) (hb:Zpf a b c d e x v w=true):Zfp (Ztf (a,b,c,d,e,(v:Int),(w:Int),x))=some (a,b,c,d,e,x,v,w):=by
 have hx:=h.x
 have hv:=h.v
 have hw:=h.w
 unfold Zfp
 rw [Z5nb (Zrl h.a) (Zrl h.b) (Zrl h.c) (Zrl h.d) (Zrl h.e) (Zbs h.v) (Zbs h.w) (by show x.length≤8000;omega)]
 dsimp only
 rw [Ye,Ye,Xc ⟨rfl,⟨by omega,by omega⟩,⟨by omega,by omega⟩,hb⟩]
theorem Z0lb {n:Int} {x:Zg} (h1:0≤n∧n≤1000000) (hx:Zuc x.1 x.2.1 x.2.2.1 x.2.2.2 8=true):Z3f (Z3h n x) n=(x.1,x.2.1,x.2.2.1,x.2.2.2,0):=by
 obtain ⟨q1,q2,q3⟩:=Zkab hx
 have hd:=Z9u hx
 have n1:=Znk (s:=Zj n++Ztk x) (a:=0) (n:=n) ⟨by omega,by omega⟩ (t:=Ztk x) (by rw [Yra])
 unfold Z3f Z3h
 rw [Zndb,Z8z,Xc rfl,n1]
 dsimp only
 rw [Y8,Y2]
 have hs:Zwi (Ztk x)=some (x.1,x.2.1,x.2.2.1,x.2.2.2):=by
  unfold Zwi Ztk;rw [Z8ab x.1 x.2.1 x.2.2.1 x.2.2.2 q1 q2 q3 (by omega)];dsimp only;rw [Xc ⟨rfl,hx⟩]
 rw [hs]
 dsimp only
 rw [Xc h1,Xc rfl]
theorem Z1lb (i:Int):(Z3f [] i).2.2.2.2≠0:=by
 unfold Z3f
 have h:(Zod []).2=4:=rfl
 rw [h,Xd (by omega)]
 show (4:Int)≠0
 omega
theorem Zocb:∀(L:List Zg) (i:Nat) (l:List Str),(∀x∈L,Zuc x.1 x.2.1 x.2.2.1 x.2.2.2 8=true)→i+L.length≤1000→L.length≤l.length→(∀j,(h:j<L.length)→l.getD j []=Z3h ((i+j:Nat):Int) L[j])→(∀h:L.length<l.length,l.getD L.length []=[])→Zsi l i=L
 | [],i,[],_,_,_,_,_=>rfl
 | [],i,s::l,_,_,_,_,h=>by
  have h:s=[]:=h (by simp);unfold Zsi;rw [h,Xd (Z1lb _)]
 | x::L,i,[],_,_,h,_,_=>by simp at h
 | x::L,i,s::l,hx,hi,hl,hr,hn=>by
  have h0:s=Z3h (((i+0:Nat)):Int) x:=hr 0 (by simp);rw [Nat.add_zero] at h0;simp only [Yd] at hi hl;have hb:=Z0lb (n:=(i:Int)) (x:=x) ⟨by omega,by omega⟩ (hx x Yh);unfold Zsi
  rw [h0,hb,Xc rfl,Zocb L (i+1) l (fun y hy=>hx y (Yn _ hy)) (by omega) (by omega) (fun j hj=>by
   have:=hr (j+1) (by simp;omega);rw [show i+1+j=i+(j+1) by omega];exact this) (fun h=>hn (by simp;omega))]
def toF (f:Zy):Int:=if (Zm f).2.2.2=0 then 1 else 0
theorem Zedb (f:Zy):toF f=0∨toF f=1:=by unfold toF;split <;> simp
theorem Zl9 {f f':Zy} {t:Str} (hg:(Zm f).1<1000000) (ht:t.length≤80) (h1:Zk f' (toF f)=Zkk ((Zm f).1+1) t) (h2:Zk f' (1-toF f)=Zk f (1-toF f)):Zm f'=((Zm f).1+1,t,0,toF f):=by
 have h0:=Zxx f
 have hb:=Zukb (n:=(Zm f).1+1) (t:=t) (by omega) (by omega) ht
 rw [← h1] at hb
 clear h1
 unfold toF at *
 by_cases c1:(Z0b (Zk f 0)).2.2=0∧((Z0b (Zk f 1)).2.2≠0∨(Z0b (Zk f 1)).1≤(Z0b (Zk f 0)).1)
 ·have e:Zm f=((Z0b (Zk f 0)).1,(Z0b (Zk f 0)).2.1,(Z0b (Zk f 0)).2.2,0):=by unfold Zm;rw [Xc c1]
  rw [e] at hb h2 ⊢;dsimp only at hb h2 ⊢;rw [Xc rfl] at hb h2 ⊢;have h2:Zk f' 0=Zk f 0:=h2;unfold Zm;rw [hb,h2,Xd (fun q=>by have:=q.2;dsimp only at this;omega),Xc rfl]
 ·by_cases c2:(Z0b (Zk f 1)).2.2=0
  ·have e:Zm f=((Z0b (Zk f 1)).1,(Z0b (Zk f 1)).2.1,(Z0b (Zk f 1)).2.2,1):=by unfold Zm;rw [Xd c1,Xc c2]
   rw [e] at hb h2 ⊢;dsimp only at hb h2 ⊢;rw [Xd (by omega)] at hb h2 ⊢;have h2:Zk f' 1=Zk f 1:=h2;unfold Zm;rw [hb,h2,Xc ⟨rfl,.inr (by dsimp only;omega)⟩]
  ·have e:Zm f=(0,[],6,-1):=by unfold Zm;rw [Xd c1,Xd c2]
   rw [e] at hb h2 ⊢;dsimp only at hb h2 ⊢;rw [Xd (by omega)] at hb h2 ⊢;have h2:Zk f' 1=Zk f 1:=h2;unfold Zm;rw [hb,h2,Xc ⟨rfl,.inl c2⟩]
structure Dev (m:Zp) (a:List Str) (ph tr nd st dn:Int) (dg:Str) (v w:Nat):Prop where
 b:m.1=(a.length:Int)
 img:Zec a=true
 fp:FlashP m.2
 n:(m.2.1.length:Int)=m.1+27
 ok:(Zm m.2).2.2.1=0
 txt:(Zm m.2).2.1=Ztf (ph,tr,nd,st,dn,(v:Int),(w:Int),dg)
 kp:Keep ph tr nd st dn dg v w
 sb:Zpf ph tr nd st dn dg v w=true
 base:∀i:Nat,i<a.length→Zk m.2 (3+(i:Int))=a.getD i []
section
variable {m:Zp} {a:List Str} {ph tr nd st dn:Int} {dg:Str} {v w:Nat}
theorem Dev.state (h:Dev m a ph tr nd st dn dg v w):stM m=some (ph,tr,nd,st,dn,dg,v,w):=by
 obtain ⟨i1,i2,_⟩:=Znh h.img
 have hb:=h.b
 unfold stM
 rw [Xc ⟨⟨by omega,by omega⟩,h.fp.b,h.n⟩,Xc h.ok,h.txt,Z9nb h.kp h.sb]
theorem Dev.blocks (h:Dev m a ph tr nd st dn dg v w):Zpd m=a:=by
 have hb:=h.b
 unfold Zpd
 refine Yo (by simp;omega) fun i h1 h2=>?_
 rw [Y4,Yza,h.base i h2,Z7k h2]
theorem Dev.right (h:Dev m a ph tr nd st dn dg v w) (hs:3≤ph→Zxl m st dn w=true):Z2f m=true:=by
 unfold Z2f
 rw [h.state]
 dsimp only
 rw [h.blocks,h.img,Bool.true_and]
 by_cases c:ph≤2
 ·rw [Xa c]
  rfl
 ·rw [hs (by omega),Bool.or_true]
theorem Dev.acts (h:Dev m a ph tr nd st dn dg v w) (hs:3≤ph→Zxl m st dn w=true) {c:Zjg} (hc:Z7f c=true) (hg:(Zm m.2).1<1000000):Zbk m c=Z8h m c ph tr nd st dn dg v w:=by
 unfold Zbk
 rw [Xc ⟨h.right hs,hc⟩,Xd (by omega),h.state]
theorem Dev.ms0 (h:Dev m a ph tr nd st dn dg v w):MS0 m ph tr nd st dn dg v w:=Z7r h.state
theorem Zmx {f:Zy} (hg:(Zm f).1<1000000) (a b c d e:Int) (x:Str) (v w:Nat):Zzb f a b c d e x v w=[(false,(toF f,Zkk ((Zm f).1+1) (Ztf (a,b,c,d,e,(v:Int),(w:Int),x)))),Zzc]:=by
 unfold Zzb Zml
 rw [Xc hg]
 rfl
theorem Dev.keep (h:Dev m a ph tr nd st dn dg v w) {pre:List Z4b} (hp:Z4c m.2.1.length pre) (hno:∀x∈pre,x.1=false→2≤x.2.1) (hg:(Zm m.2).1<1000000) {a':List Str} (hl:a'.length=a.length) (hi:Zec a'=true) (hb:∀i:Nat,i<a'.length→Zeh (Zk m.2) pre (3+(i:Int))=a'.getD i []) {ph' tr' nd' st' dn':Int} {dg':Str} {v' w':Nat} (K:Keep ph' tr' nd' st' dn' dg' v' w') (S:Zpf ph' tr' nd' st' dn' dg' v' w'=true):
  Dev (m.1,doF m.2 (pre++Zzb m.2 ph' tr' nd' st' dn' dg' v' w')) a' ph' tr' nd' st' dn' dg' v' w'∧(Zm (doF m.2 (pre++Zzb m.2 ph' tr' nd' st' dn' dg' v' w'))).1=(Zm m.2).1+1∧(doF m.2 (pre++Zzb m.2 ph' tr' nd' st' dn' dg' v' w')).2=[]∧∀k:Int,2≤k→Zk (doF m.2 (pre++Zzb m.2 ph' tr' nd' st' dn' dg' v' w')) k=Zeh (Zk m.2) pre k:=by
 have hn:=h.n
 have hmb:=h.b
 obtain ⟨i1,i2,_⟩:=Znh h.img
 have hto:=Zedb m.2
 have hfit:Z4c m.2.1.length (pre++Zzb m.2 ph' tr' nd' st' dn' dg' v' w'):=Zjm hp (Zki (by omega) K)
 obtain ⟨hF,hlen⟩:=h.fp.acts _ hfit
 have hget:∀k:Int,0≤k→Zk (doF m.2 (pre++Zzb m.2 ph' tr' nd' st' dn' dg' v' w')) k=if k=toF m.2 then Zkk ((Zm m.2).1+1) (Ztf (ph',tr',nd',st',dn',(v':Int),(w':Int),dg')) else Zeh (Zk m.2) pre k:=fun k hk=>by
  rw [Z0w _ h.fp hfit hk,Zxob,Zmx hg,Zws,Zws,Zqdb];show Zdh (Zeh (Zk m.2) pre) (false,(toF m.2,_)) k=_;unfold Zdh
  by_cases c:k=toF m.2
  ·rw [Xc ⟨rfl,c⟩,Xc c]
  ·rw [Xd (fun z=>c z.2),Xd c]
 have hk2:∀k:Int,2≤k→Zk (doF m.2 (pre++Zzb m.2 ph' tr' nd' st' dn' dg' v' w')) k=Zeh (Zk m.2) pre k:=fun k hk=>by rw [hget k (by omega),Xd (by omega)]
 have hM:=Zl9 (f:=m.2) (f':=doF m.2 (pre++Zzb m.2 ph' tr' nd' st' dn' dg' v' w')) hg K.len (by rw [hget _ (by omega),Xc rfl]) (by
  rw [hget _ (by omega),Xd (by omega)];exact Z4q pre fun x hx q=>by have:=hno x hx q;omega)
 refine ⟨⟨?_,hi,hF,?_,?_,?_,K,S,fun i hi=>?_⟩,?_,?_,hk2⟩
 ·show m.1=_
  rw [hl];exact hmb
 ·show ((doF m.2 _).1.length:Int)=m.1+27
  rw [hlen];exact hn
 ·show (Zm (doF m.2 _)).2.2.1=0
  rw [hM]
 ·show (Zm (doF m.2 _)).2.1=_
  rw [hM]
 ·rw [← hb i hi]
  exact hk2 _ (by omega)
 ·rw [hM]
 ·rw [Zmx hg,show ∀x:Z4b,pre++[x,Zzc]=(pre++[x])++[Zzc] from fun x=>by simp]
  exact Zz6 _ _
structure LogAt (m:Zp) (st:Int) (w:Nat) (L:List Zg):Prop where
 ok:∀x∈L,Zuc x.1 x.2.1 x.2.2.1 x.2.2.2 8=true
 le:st.toNat+L.length≤(Zb w).length
 at':∀j,(h:j<L.length)→Zk m.2 (3+m.1+(Zb w).getD (st.toNat+j) 0)=Z3h ((j:Nat):Int) L[j]
 nil:∀j,L.length≤j→st.toNat+j<(Zb w).length→Zk m.2 (3+m.1+(Zb w).getD (st.toNat+j) 0)=[]
theorem Zy5 {j:Nat} (h:st.toNat+j<(Zb w).length):(Zwh m st w).getD j []=Zk m.2 (3+m.1+(Zb w).getD (st.toNat+j) 0):=by
 unfold Zwh
 have hj:j<(((Zb w).drop st.toNat).map fun x=>Zk m.2 (3+m.1+x)).length:=by simp;omega
 rw [Z7k hj,Y4,List.getElem_drop,Yb,Yj h]
 rfl
theorem LogAt.log {L:List Zg} (h:LogAt m st w L):Ze m st w=L:=by
 have hle:=h.le
 have hal:(Zwh m st w).length=(Zb w).length-st.toNat:=by unfold Zwh;simp
 have hw:=Zyg w
 unfold Ze
 refine Zocb L 0 _ h.ok (by omega) (by omega) (fun j hj=>?_) (fun hl=>?_)
 ·rw [Zy5 (by omega),h.at' j hj,Y8]
 ·rw [Zy5 (by omega),h.nil _ (Yi _) (by omega)]
theorem Zxkb {i j:Nat} (hi:i<(Zb w).length) (hj:j<(Zb w).length) (h:(Zb w).getD i 0=(Zb w).getD j 0):i=j:=by
 have hs:(Zb w).Pairwise (· < ·):=by
  unfold Zb;exact Yy.2 ((Zar w 24).imp fun h=>by omega)
 have hg:∀i,(q:i<(Zb w).length)→(Zb w).getD i 0=(Zb w)[i]:=fun i q=>by rw [Yb,Yj q];rfl
 rw [hg i hi,hg j hj] at h
 have hp:=Y6.1 hs
 rcases Nat.lt_trichotomy i j with q | q | q
 ·have:=hp i j hi hj q;omega
 ·exact q
 ·have:=hp j i hj hi q;omega
theorem Zyx {i:Nat} (hi:i<(Zb w).length):0≤(Zb w).getD i 0∧(Zb w).getD i 0≤23:=by
 rw [Yb,Yj hi]
 exact Z2k hi
theorem LogAt.move {L:List Zg} {m':Zp} (h:LogAt m st w L) (h0:0≤st) (h1:m'.1=m.1) (h2:∀i,st.toNat≤i→i<(Zb w).length→Zk m'.2 (3+m.1+(Zb w).getD i 0)=Zk m.2 (3+m.1+(Zb w).getD i 0)):LogAt m' st w L:=by
 have hle:=h.le
 refine ⟨h.ok,h.le,fun j hj=>?_,fun j hj hl=>?_⟩
 ·rw [h1,h2 _ (by omega) (by omega)]
  exact h.at' j hj
 ·rw [h1,h2 _ (by omega) hl]
  exact h.nil j hj hl
end
abbrev DoT:=Zp×Str×List Int×Int
def noM:Zp:=(0,([],[]))
def doR (m:Zp) (c:Zjg):DoT:=if Z2f m=true∧Z7f c=true then ((m.1,doF m.2 (Zbk m c).1),(Zbk m c).2) else (noM,([],([],1)))
def Ztp (m:Zp):Zp×Int:=match stM m with
 | some (ph,tr,nd,st,dn,dg,v,w)=>((m.1,doF m.2 (Z0i m ph tr nd st dn dg v w)),0)
 | none=>(noM,1)
def Zgw (m:Zp) (l:List Z4b) (n:Int) (fs:List Int):Zp:=(m.1,Zer (doF m.2 (l.take n.toNat)) fs)
def Zhw (m:Zp) (c:Zjg) (n:Int) (fs:List Int):Zp×Int:=if 400<fs.length then (noM,2) else if (Z2f m=true∧Z7f c=true)∧0≤n then (Zgw m (Zbk m c).1 n fs,0) else (noM,1)
def Zdn:Zg:=(0,(0,(0,[])))
theorem Z84 {k:Int} {s:Str}:∀(l:List Z4b) (g:Int→Str),(g k=s∨∃a∈l,a.1=false∧a.2.1=k)→(∀a∈l,a.1=false→a.2.1=k→a.2.2=s)→Zeh g l k=s
 | [],g,h,_=>by
  rcases h with h | ⟨a,ha,_⟩
  ·exact h
  ·cases ha
 | a::l,g,h,hs=>by
  rw [Zws];refine Z84 l _ ?_ fun b hb=>hs b (Yn _ hb)
  by_cases c:a.1=false∧k=a.2.1
  ·left
   unfold Zdh;rw [Xc c];exact hs a Yh c.1 c.2.symm
  ·rcases h with h | ⟨b,hb,h1,h2⟩
   ·left
    unfold Zdh;rw [Xd c];exact h
   ·rcases Yq.1 hb with rfl | hb
    ·exact absurd ⟨h1,h2.symm⟩ c
    ·exact .inr ⟨b,hb,h1,h2⟩
section
variable {m:Zp} {a:List Str} {ph tr nd st dn:Int} {dg:Str} {v w:Nat}
theorem Dev.does (h:Dev m a ph tr nd st dn dg v w) (hs:3≤ph→Zxl m st dn w=true) {c:Zjg} (hc:Z7f c=true) (hg:(Zm m.2).1<1000000):doR m c=((m.1,doF m.2 (Z8h m c ph tr nd st dn dg v w).1),(Z8h m c ph tr nd st dn dg v w).2):=by
 unfold doR
 rw [Xc ⟨h.right hs,hc⟩,h.acts hs hc hg]
theorem Zp0 {n:Int} (h:3≤n∧n≤11) (h7:n≠7) (h9:n≠9):Z7f (n,(0,(0,([],Zdn))))=true:=by
 unfold Z7f
 dsimp only
 rw [Xd (by omega),Xd (by omega),Xd h9,Xd h7,Xa (by omega:1≤n),Xa h.2]
 rfl
theorem Dev.begin (h:Dev m a 1 0 0 0 0 [] 0 0) {A B:Int} (hA:1≤A∧A≤20) (hB:0≤B∧B≤4) (hd:dg.length=32) (hg:(Zm m.2).1<1000000):
  ∃m' w',doR m (1,(A,(B,(dg,Zdn))))=(m',([],([],0)))∧Dev m' a 2 0 A B 0 dg 0 w'∧LogAt m' B w' []∧(Zm m'.2).1=(Zm m.2).1+1:=by
 have hmb:=h.b
 have hn:=h.n
 have hc:Z7f (1,(A,(B,(dg,Zdn))))=true:=by
  unfold Z7f;dsimp only;rw [Xc rfl,Xa hA.1,Xa hA.2,Xa hB.1,Xa hB.2,Xa (by omega:(dg.length:Int)=32)];rfl
 have hlen:(Zb (Zqc 0 0)).length=24:=by
  have:=Zx0 (v:=0) (w:=0) rfl;rw [Zrp] at this;simpa using this
 obtain ⟨l,hl⟩:∃l,Z4h (Zqc 0 0) (A+B)=some l:=by
  unfold Z4h;rw [Xd (by omega)];cases Zgb (fun (e:Zvf)=>decide (A+B≤e.2)) (Zgc (Zb (Zqc 0 0))) 0 <;> exact ⟨_,rfl⟩
 obtain ⟨u,u1,u2,u3,u4,u5⟩:=Zz3 (Zsr (by omega) (by omega)) (by omega) hl
 have hll:=(Zy3 (Zsr (by omega) (by omega)) (by omega) hl).2
 have hac:Z8h m (1,(A,(B,(dg,Zdn)))) 1 0 0 0 0 [] 0 0=Zih ((Zfh m l++[Zzc])++Zzb m.2 2 0 A B 0 dg 0 u):=by
  show Zqp m 1 0 A B dg=_;unfold Zqp;rw [Xc rfl,hl];dsimp only;rw [u3]
 have hfit:Z4c m.2.1.length (Zfh m l++[Zzc]):=Zjm (fun x hx=>by
  unfold Zfh at hx;obtain ⟨y,q,rfl⟩:=Yf.1 hx;have:=u5 y q;exact fun _=>⟨by dsimp only;omega,by simp⟩) (Zlm _)
 have hpos:∀x∈Zfh m l++[Zzc],x.1=false→∃y∈l,x=(false,(3+m.1+y,[])):=fun x hx q=>by
  rcases Yp.1 hx with z | z
  ·unfold Zfh at z
   obtain ⟨y,q2,rfl⟩:=Yf.1 z;exact ⟨y,q2,rfl⟩
  ·rw [Yl.1 z] at q
   cases q
 obtain ⟨k1,k2,k3,k4⟩:=h.keep (pre:=Zfh m l++[Zzc]) hfit (fun x hx q=>by
  obtain ⟨y,hy,rfl⟩:=hpos x hx q;have:=u5 y hy;dsimp only;omega) hg rfl h.img (fun i hi=>by
  rw [← h.base i hi];refine Z4q _ fun x hx q=>?_
  obtain ⟨y,hy,rfl⟩:=hpos x hx q;have:=u5 y hy;dsimp only;omega) (ph':=2) (tr':=0) (nd':=A) (st':=B) (dn':=0) (dg':=dg) (v':=0) (w':=u) ⟨by omega,by omega,by omega,by omega,by omega,by omega,by omega,u1⟩ (by
  rw [u2] at hll;unfold Zpf;rw [Xd (by omega),Nat.zero_and,Xa (⟨hA,hB,hll,hd,by omega,by omega,.inl rfl,.inl rfl⟩:(1≤A∧A≤20)∧(0≤B∧B≤4)∧((Zb u).length:Int)=A+B∧dg.length=32∧((0:Int)≤0∧(0:Int)≤2)∧((0:Int)≤0∧(0:Int)≤40)∧((0:Int)=0∨(2:Int)=4)∧((0:Int)=0∨(2:Int)=5))];rfl)
 refine ⟨_,u,?_,k1,⟨fun x hx=>(by cases hx),?_,fun j hj=>(by simp at hj),fun j _ hj=>?_⟩,k2⟩
 ·rw [h.does (fun q=>by omega) hc hg,hac]
  rfl
 ·rw [u2] at hll
  simp only [Yg];omega
 ·have hr:=Zyx hj
  have hm:(Zb u).getD (B.toNat+j) 0∈l:=by
   rw [u2,Yb,Yj hj];exact Yk hj
  show Zk (doF m.2 _) (3+m.1+(Zb u).getD (B.toNat+j) 0)=[];rw [k4 _ (by omega)];refine Z84 _ _ (.inr ⟨(false,(3+m.1+(Zb u).getD (B.toNat+j) 0,[])),Yia _ (Yf.2 ⟨_,hm,rfl⟩),rfl,rfl⟩) fun x hx q _=>?_
  obtain ⟨y,_,rfl⟩:=hpos x hx q;rfl
theorem Zrkb {f f':Zy} (h0:Zk f' 0=Zk f 0) (h1:Zk f' 1=Zk f 1):Zm f'=Zm f:=by unfold Zm;rw [h0,h1]
theorem Dev.other (h:Dev m a ph tr nd st dn dg v w) {l:List Z4b} (hl:Z4c m.2.1.length l) (h0:∀x∈l,x.1=false→3+m.1≤x.2.1∨x.2.1=2):Dev (m.1,doF m.2 l) a ph tr nd st dn dg v w∧Zm (doF m.2 l)=Zm m.2∧∀k:Int,0≤k→Zk (doF m.2 l) k=Zeh (Zk m.2) l k:=by
 obtain ⟨i1,i2,_⟩:=Znh h.img
 have hmb:=h.b
 have hn:=h.n
 obtain ⟨hF,hlen⟩:=h.fp.acts _ hl
 have hget:=fun (k:Int) (hk:0≤k)=>Z0w l h.fp hl hk
 have hmiss:∀k:Int,0≤k→k<3+m.1→k≠2→Zk (doF m.2 l) k=Zk m.2 k:=fun k q1 q2 q3=>by
  rw [hget k q1];exact Z4q _ fun x hx q=>by have:=h0 x hx q;omega
 have hM:=Zrkb (f:=m.2) (f':=doF m.2 l) (hmiss 0 (by omega) (by omega) (by omega)) (hmiss 1 (by omega) (by omega) (by omega))
 refine ⟨⟨h.b,h.img,hF,?_,?_,?_,h.kp,h.sb,fun i hi=>?_⟩,hM,hget⟩
 ·show ((doF m.2 l).1.length:Int)=m.1+27
  rw [hlen];exact hn
 ·show (Zm (doF m.2 l)).2.2.1=0
  rw [hM];exact h.ok
 ·show (Zm (doF m.2 l)).2.1=_
  rw [hM];exact h.txt
 ·rw [← h.base i hi]
  exact hmiss _ (by omega) (by omega) (by omega)
theorem Dev.busy (h:Dev m a ph tr nd st dn dg v w) (h1:ph≠1):(1≤nd∧nd≤20)∧(0≤st∧st≤4)∧((Zb w).length:Int)=nd+st∧dg.length=32:=by
 obtain ⟨q1,q2,q3,q4,_⟩:=h.ms0.busy h1
 exact ⟨q1,q2,q3,q4⟩
theorem Dev.step (h:Dev m a 2 tr nd st dn dg v w) {L:List Zg} (hL:LogAt m st w L) (hlt:(L.length:Int)<nd) {x:Zg} (hx:Zuc x.1 x.2.1 x.2.2.1 x.2.2.2 8=true) (hcode:Zwb (L++[x]) (a.length:Int)=0) (hg:(Zm m.2).1<1000000):
  ∃m',doR m (2,(0,(0,([],x))))=(m',([],([],0)))∧Dev m' a 2 tr nd st dn dg v w∧LogAt m' st w (L++[x])∧(Zm m'.2).1=(Zm m.2).1:=by
 have hmb:=h.b
 have hn:=h.n
 obtain ⟨b1,b2,b3,b4⟩:=h.busy (by omega)
 have hc:Z7f (2,(0,(0,([],x))))=true:=by
  unfold Z7f;dsimp only;rw [Xd (by omega),Xc rfl,hx];rfl
 have hlog:=hL.log
 have hp:st.toNat+L.length<(Zb w).length:=by omega
 have hpr:=Zyx hp
 have hac:Z8h m (2,(0,(0,([],x)))) 2 tr nd st dn dg v w=Zih ((false,(3+m.1+(Zb w).getD (st.toNat+L.length) 0,Z3h (L.length:Int) x))::(if x.1=5 then [Zzc] else [])):=by
  show Zwq m 2 nd st w x=_;unfold Zwq;rw [Xc rfl,hlog,Xd (by omega),Xc (by rw [hmb];exact hcode),show (st+(L.length:Int)).toNat=st.toNat+L.length by omega]
 have hmem:∀y∈((false,(3+m.1+(Zb w).getD (st.toNat+L.length) 0,Z3h (L.length:Int) x))::(if x.1=5 then [Zzc] else []):List Z4b),y.1=false→y=(false,(3+m.1+(Zb w).getD (st.toNat+L.length) 0,Z3h (L.length:Int) x)):=fun y hy q=>by
  rcases Yq.1 hy with z | z
  ·exact z
  ·split at z
   ·rw [Yl.1 z] at q
    cases q
   ·cases z
 have hfit:Z4c m.2.1.length ((false,(3+m.1+(Zb w).getD (st.toNat+L.length) 0,Z3h (L.length:Int) x))::(if x.1=5 then [Zzc] else [])):=fun y hy q=>by
  rw [hmem y hy q];exact ⟨by dsimp only;omega,Zlbb (Z9u hx)⟩
 obtain ⟨k1,k2,k3⟩:=h.other hfit (fun y hy q=>by rw [hmem y hy q];dsimp only;omega)
 have hup:∀i,i<(Zb w).length→Zk (doF m.2 ((false,(3+m.1+(Zb w).getD (st.toNat+L.length) 0,Z3h (L.length:Int) x))::(if x.1=5 then [Zzc] else []))) (3+m.1+(Zb w).getD i 0)=if i=st.toNat+L.length then Z3h (L.length:Int) x else Zk m.2 (3+m.1+(Zb w).getD i 0):=fun i hi=>by
  have hr:=Zyx hi;rw [k3 _ (by omega)]
  by_cases c:i=st.toNat+L.length
  ·rw [Xc c,c]
   refine Z84 _ _ (.inr ⟨_,Yh,rfl,rfl⟩) fun y hy q _=>?_
   rw [hmem y hy q]
  ·rw [Xd c]
   refine Z4q _ fun y hy q=>?_
   rw [hmem y hy q];dsimp only;intro z;exact c (Zxkb hi hp (by omega))
 refine ⟨_,?_,k1,⟨fun y hy=>?_,?_,fun j hj=>?_,fun j hj hl=>?_⟩,by rw [k2]⟩
 ·rw [h.does (fun q=>by omega) hc hg,hac]
  rfl
 ·rcases Yp.1 hy with z | z
  ·exact hL.ok y z
  ·rw [Yl.1 z]
   exact hx
 ·rw [Yc]
  simp only [Yd,Yg];omega
 ·rw [Yc] at hj
  simp only [Yd,Yg] at hj;show Zk (doF m.2 _) (3+m.1+_)=_;rw [hup _ (by omega)]
  by_cases c:j=L.length
  ·subst c
   rw [Xc rfl];simp
  ·rw [Xd (by omega),hL.at' j (by omega),List.getElem_append_left (by omega)]
 ·rw [Yc] at hj
  simp only [Yd,Yg] at hj;show Zk (doF m.2 _) (3+m.1+_)=_;rw [hup _ hl,Xd (by omega)];exact hL.nil j (by omega) hl
theorem Z1cb {L:List Zg} (hlog:Ze m st w=L) (hc:Zwb L m.1=0) (hs:Zob (Zl L)≤st) (hd:dn≤((Zl L).length:Int)):Zxl m st dn w=true:=by
 unfold Zxl
 rw [hlog,Xa hc,Xa hs,Xa hd]
 rfl
theorem Dev.again (h:Dev m a ph tr nd st dn dg v w) {pre:List Z4b} (hpre:pre=[]∨pre=[Zzc]) {L:List Zg} (hL:LogAt m st w L) (h0:0≤st) (hg:(Zm m.2).1<1000000) {ph' tr' nd' st' dn':Int} {dg':Str} {v' w':Nat} (K:Keep ph' tr' nd' st' dn' dg' v' w') (S:Zpf ph' tr' nd' st' dn' dg' v' w'=true):
  Dev (m.1,doF m.2 (pre++Zzb m.2 ph' tr' nd' st' dn' dg' v' w')) a ph' tr' nd' st' dn' dg' v' w'∧LogAt (m.1,doF m.2 (pre++Zzb m.2 ph' tr' nd' st' dn' dg' v' w')) st w L∧(Zm (doF m.2 (pre++Zzb m.2 ph' tr' nd' st' dn' dg' v' w'))).1=(Zm m.2).1+1∧(doF m.2 (pre++Zzb m.2 ph' tr' nd' st' dn' dg' v' w')).2=[]:=by
 have hmb:=h.b
 have hno:∀x∈pre,x.1=false→False:=fun x hx q=>by
  rcases hpre with rfl | rfl
  ·cases hx
  ·rw [Yl.1 hx] at q
   cases q
 obtain ⟨k1,k2,k3,k4⟩:=h.keep (pre:=pre) (fun x hx q=>(hno x hx q).elim) (fun x hx q=>(hno x hx q).elim) hg rfl h.img (fun i hi=>by
  rw [← h.base i hi];exact Z4q _ fun x hx q=>(hno x hx q).elim) K S
 refine ⟨k1,hL.move h0 rfl fun i _ hi=>?_,k2,k3⟩
 have hr:=Zyx hi
 show Zk (doF m.2 _) _=_
 rw [k4 _ (by omega)]
 exact Z4q _ fun x hx q=>(hno x hx q).elim
theorem Dev.finish (h:Dev m a 2 0 nd st 0 dg v w) {L:List Zg} (hL:LogAt m st w L) (hl:(L.length:Int)=nd) (hcode:Zwb L (a.length:Int)=0) (hd:Zsg (Zmg a L).flatten=dg) (hs:Zob (Zl L)≤st) (hg:(Zm m.2).1<1000000):
  ∃m',doR m (3,(0,(0,([],Zdn))))=(m',([],([],0)))∧Dev m' a 3 0 nd st 0 dg v w∧LogAt m' st w L∧(Zm m'.2).1=(Zm m.2).1+1∧m'.2.2=[]:=by
 obtain ⟨b1,b2,b3,b4⟩:=h.busy (by omega)
 have K:=h.kp
 have S:=h.sb
 have hac:Z8h m (3,(0,(0,([],Zdn)))) 2 0 nd st 0 dg v w=Zih ([Zzc]++Zzb m.2 3 0 nd st 0 dg v w):=by
  show Z1p m 2 0 nd st 0 dg v w=_;unfold Z1p;rw [Xc rfl,hL.log,Xc hl,Xc (by rw [h.b];exact hcode),h.blocks,Xc hd,Xd (by omega)]
 obtain ⟨k1,k2,k3,k4⟩:=h.again (.inr rfl) hL b2.1 hg (ph':=3) (tr':=0) (nd':=nd) (st':=st) (dn':=0) (dg':=dg) (v':=v) (w':=w) { K with a:=by omega } (by
  unfold Zpf at S ⊢;rw [Xd (by omega)] at S ⊢;simp only [Ya,decide_eq_true_eq] at S ⊢;exact ⟨by omega,S.2.1,S.2.2.1,S.2.2.2.1,S.2.2.2.2.1,S.2.2.2.2.2.1,S.2.2.2.2.2.2.1,S.2.2.2.2.2.2.2.1,.inl trivial,.inl trivial⟩)
 refine ⟨_,?_,k1,k2,k3,k4⟩
 rw [h.does (fun q=>by omega) (Zp0 (by omega) (by omega) (by omega)) hg,hac]
 rfl
theorem Dev.boot3 (h:Dev m a 3 0 nd st 0 dg v w) {L:List Zg} (hL:LogAt m st w L) (hg:(Zm m.2).1<1000000):
  ∃m',(m.1,doF m.2 (Z0i m 3 0 nd st 0 dg v w))=m'∧Dev m' a 4 2 nd st 0 dg v w∧LogAt m' st w L∧(Zm m'.2).1=(Zm m.2).1+1∧m'.2.2=[]:=by
 obtain ⟨b1,b2,b3,b4⟩:=h.busy (by omega)
 have K:=h.kp
 have S:=h.sb
 obtain ⟨k1,k2,k3,k4⟩:=h.again (.inl rfl) hL b2.1 hg (ph':=4) (tr':=2) (nd':=nd) (st':=st) (dn':=0) (dg':=dg) (v':=v) (w':=w) { K with a:=by omega,b:=by omega } (by
  unfold Zpf at S ⊢;rw [Xd (by omega)] at S ⊢;simp only [Ya,decide_eq_true_eq] at S ⊢;exact ⟨by omega,S.2.1,S.2.2.1,S.2.2.2.1,S.2.2.2.2.1,S.2.2.2.2.2.1,by omega,S.2.2.2.2.2.2.2.1,.inr trivial,.inl trivial⟩)
 exact ⟨_,rfl,k1,k2,k3,k4⟩
theorem Dev.boot4 (h:Dev m a 4 tr nd st 0 dg v w) (ht:1≤tr) {L:List Zg} (hL:LogAt m st w L) (hg:(Zm m.2).1<1000000):
  ∃m',(m.1,doF m.2 (Z0i m 4 tr nd st 0 dg v w))=m'∧Dev m' a 4 (tr-1) nd st 0 dg v w∧LogAt m' st w L∧(Zm m'.2).1=(Zm m.2).1+1∧m'.2.2=[]:=by
 obtain ⟨b1,b2,b3,b4⟩:=h.busy (by omega)
 have K:=h.kp
 have S:=h.sb
 have hz:=h.ms0.busy (by omega)
 have hb:Z0i m 4 tr nd st 0 dg v w=[]++Zzb m.2 4 (tr-1) nd st 0 dg v w:=by
  show (if tr=0 then _ else _)=_;rw [Xd (by omega)];rfl
 obtain ⟨k1,k2,k3,k4⟩:=h.again (.inl rfl) hL b2.1 hg (ph':=4) (tr':=tr-1) (nd':=nd) (st':=st) (dn':=0) (dg':=dg) (v':=v) (w':=w) { K with a:=by omega,b:=by omega } (by
  unfold Zpf at S ⊢;rw [Xd (by omega)] at S ⊢;simp only [Ya,decide_eq_true_eq] at S ⊢;exact ⟨by omega,S.2.1,S.2.2.1,S.2.2.2.1,S.2.2.2.2.1,S.2.2.2.2.2.1,by omega,S.2.2.2.2.2.2.2.1,.inr trivial,.inl trivial⟩)
 rw [hb]
 exact ⟨_,rfl,k1,k2,k3,k4⟩
theorem Dev.boot0 (h:Dev m a 4 0 nd st 0 dg v w) (hg:(Zm m.2).1<1000000):
  ∃m',(m.1,doF m.2 (Z0i m 4 0 nd st 0 dg v w))=m'∧Dev m' a 1 0 0 0 0 [] v 0∧(Zm m'.2).1=(Zm m.2).1+1∧m'.2.2=[]:=by
 have hv:=h.kp.v
 obtain ⟨k1,k2,k3,k4⟩:=h.keep (pre:=[]) (Zkm _) (fun x hx=>(by cases hx)) hg rfl h.img (fun i hi=>h.base i hi) (Zik hv) (by
  unfold Zpf;rw [Xc rfl,Ygb,Zrp];rfl)
 exact ⟨_,rfl,k1,k2,k3⟩
theorem Zxfb (hd:m.2.2=[]) (n:Int) (fs:List Int):Zgw m [] n fs=m:=by
 unfold Zgw
 rw [List.take_nil]
 show (m.1,Zer m.2 fs)=m
 rw [Zufb hd]
end
def Zyb (a:List Str):List Str:=Yz 3 []++a++Yz 24 []
def Zni (a:List Str):Zy:=doF (Zyb a,[]) (Zzb (Zyb a,[]) 1 0 0 0 0 [] 0 0)
def Zlk (a:List Str):Zp:=((a.length:Int),Zni a)
theorem Zas (a:List Str):(Zyb a).length=a.length+27:=by
 unfold Zyb
 simp only [Yc,Yx]
 omega
theorem Z82 (a:List Str) {i:Nat} (h:i<3):(Zyb a).getD i []=[]:=by
 unfold Zyb
 rw [Yda,Yb,Yua (by simpa using h),Yxa]
 simp [h]
theorem Zfab (a:List Str) {i:Nat} (h:i<a.length):(Zyb a).getD (3+i) []=a.getD i []:=by
 unfold Zyb
 rw [Yda,Yb,Yva (by simp),Yx,Yua (by omega),Yb,show 3+i-3=i by omega]
theorem Z72 (a:List Str) (n:Int):Zk (Zyb a,[]) n=(Zyb a).getD n.toNat []:=rfl
theorem Zvkb:(Z0b []).2.2≠0:=by decide
theorem newG (a:List Str):Zm (Zyb a,[])=(0,[],6,-1):=by
 have h0:Zk (Zyb a,[]) 0=[]:=by rw [Z72];exact Z82 a (by decide)
 have h1:Zk (Zyb a,[]) 1=[]:=by rw [Z72];exact Z82 a (by decide)
 have:=Zvkb
 unfold Zm
 rw [h0,h1,Xd (fun q=>this q.1),Xd this]
theorem Z92 {a:List Str} (h:Zec a=true):FlashP (Zyb a,[]):=by
 obtain ⟨i1,i2,i3⟩:=Znh h
 have hl:=Zas a
 refine ⟨⟨by show 1≤(Zyb a).length;omega,by show (Zyb a).length≤40;omega⟩,fun x hx=>?_,fun x hx=>(by cases hx),Yka⟩
 unfold Zyb at hx
 rcases Yp.1 hx with hx | hx
 ·rcases Yp.1 hx with hx | hx
  ·rw [(Yab.1 hx).2]
   simp
  ·rw [i3 x hx]
   omega
 ·rw [(Yab.1 hx).2]
  simp
theorem Z3fb {a:List Str} (h:Zec a=true):Dev (Zlk a) a 1 0 0 0 0 [] 0 0∧(Zm (Zlk a).2).1=1∧(Zlk a).2.2=[]:=by
 obtain ⟨i1,i2,i3⟩:=Znh h
 have hl:=Zas a
 have hG:=newG a
 have hg:(Zm (Zyb a,[])).1<1000000:=by rw [hG];decide
 have K:Keep 1 0 0 0 0 [] 0 0:=Zik (by decide)
 have hp:=Z92 h
 have ht:toF (Zyb a,[])=1∨toF (Zyb a,[])=0:=(Zedb _).symm
 have hfit:Z4c (Zyb a).length (Zzb (Zyb a,[]) 1 0 0 0 0 [] 0 0):=Zki (by omega) K
 obtain ⟨hF,hlen⟩:=hp.acts _ hfit
 have hlen:(Zni a).1.length=(Zyb a).length:=hlen
 have hget:∀k:Int,0≤k→Zk (Zni a) k=if k=toF (Zyb a,[]) then Zkk ((Zm (Zyb a,[])).1+1) (Ztf (1,0,0,0,0,((0:Nat):Int),((0:Nat):Int),[])) else Zk (Zyb a,[]) k:=fun k hk=>by
  unfold Zni;rw [Z0w _ hp hfit hk,Zmx hg,Zws,Zws,Zqdb];generalize Zkk ((Zm (Zyb a,[])).1+1) (Ztf (1,0,0,0,0,((0:Nat):Int),((0:Nat):Int),[]))=T;generalize toF (Zyb a,[])=p;show Zdh (Zk (Zyb a,[])) (false,(p,T)) k=_;unfold Zdh
  by_cases c:k=p
  ·rw [Xc ⟨rfl,c⟩,Xc c]
  ·rw [Xd (fun z=>c z.2),Xd c]
 have hM:=Zl9 (f:=(Zyb a,[])) (f':=Zni a) hg K.len (by rw [hget _ (by omega),Xc rfl]) (by rw [hget _ (by omega),Xd (by omega)])
 rw [hG] at hM
 have e0:(Zm (Zni a)).2.2.1=0:=by rw [hM]
 have e1:(Zm (Zni a)).1=1:=by rw [hM];rfl
 have e2:(Zm (Zni a)).2.1=Ztf (1,0,0,0,0,((0:Nat):Int),((0:Nat):Int),[]):=by rw [hM]
 have e3:(Zni a).2=[]:=by
  have e:∀x:Z4b,[x,Zzc]=[x]++[Zzc]:=fun _=>rfl
  unfold Zni;rw [Zmx hg,e];exact Zz6 _ _
 have e4:∀i:Nat,i<a.length→Zk (Zni a) (3+(i:Int))=a.getD i []:=fun i hi=>by
  rw [hget _ (by omega),Xd (by omega),Z72,show (3+(i:Int)).toNat=3+i by omega];exact Zfab a hi
 have e5:((Zni a).1.length:Int)=(a.length:Int)+27:=by omega
 have e6:Zpf 1 0 0 0 0 [] 0 0=true:=by
  unfold Zpf;rw [Xc rfl,Ygb,Zrp];rfl
 have hF:FlashP (Zni a):=hF
 clear hM hget hlen
 unfold Zlk
 generalize Zni a=f at *
 exact ⟨⟨rfl,h,hF,e5,e0,e2,K,e6,e4⟩,e1,e3⟩
theorem Zl7 {f:Zy} {n:Int} {i:Nat} (h:Zlh f n=some i):(f.2.getD i (0,[])).1=n:=by
 obtain ⟨_,h2,h3,_⟩:=Z4i (show Zgb (fun x:Zdc=>x.1==n) f.2 0=some i from h)
 rw [Zzw (Zir h)]
 simpa using h3
theorem Ztjb {f:Zy} (h:FlashP f) (n:Int) (s:Str) {k:Nat} (hk:100≤k):Zyn k f n s=some (Zjj f n s):=by
 have hl:=h.len
 have hn:=h.n
 unfold Zyn Zjj
 refine Za (Z8w f n (by omega) (by omega)) ?_
 cases hd:Zlh f n with
 | some i=>
  have hi:=Zir hd;have hat:=Z0z (l:=f.2) (0,[]) hi;dsimp only;rw [Xa (by omega:(0:Int)≤(i:Int)),Xe];refine Za hat (Za hat ?_);rw [Ye,Zl7 hd]
 | none=>
  dsimp only;rw [show decide ((0:Int)≤-1)=false from rfl,Xf];exact Za (Zlb (by simp;omega)) rfl
theorem Zojb {f:Zy} (h:FlashP f) {k:Nat} (hk:100≤k):Zaf k f=some (Z9m f):=by
 have hl:=h.len
 have hn:=h.n
 have run:=Zbc (fun j i=>Zaf.l0 j (f.2.length:Int) (i:Int) f.2 (Zrg f.1 (f.2.take i))) f.2.length (Zrg f.1 f.2,f.2) (fun i hi j=>?_) (fun j=>?_) k (by omega)
 ·have run:Zaf.l0 k (f.2.length:Int) 0 f.2 f.1=some (Zrg f.1 f.2,f.2):=run
  unfold Zaf Z9m;exact Za run rfl
 ·have hd:=(h.d _ (Yk hi)).1
  have hll:=Z6t (f.2.take i) f.1;have ha:=Zet (l:=Zrg f.1 (f.2.take i)) [] hd.1 (by rw [hll];exact hd.2)
  conv=>lhs;unfold Zaf.l0
  rw [dlt hi,Zs (by omega),Xe];refine Za (Zh hi) (Za (Zh hi) (Za ha (Za ha ?_)));rw [Zr9 _ hi]
 ·conv=>lhs;unfold Zaf.l0
  rw [Zbb (Yi _),Yu];rfl
theorem Z4c.before {f:Zy} {l:List Z4b} (h:FlashP f) (hl:Z4c f.1.length l) (i:Nat):FlashP (doF f (l.take i))∧(doF f (l.take i)).1.length=f.1.length:=h.acts _ (hl.take i)
theorem Z5w {f:Zy} (h:FlashP f) {l:List Z4b} (hl:Z4c f.1.length l) (hn:l.length≤1000) {k:Nat} (hk:1048577≤k):Z7c k f l=some (doF f l):=by
 have h2:=h.len
 have h3:=h.n
 have run:=Zbc (fun j i=>Z7c.l0 k j l (l.length:Int) (i:Int) (doF f (l.take i)).1 (doF f (l.take i)).2) l.length (doF f l) (fun i hi j=>?_) (fun j=>?_) k (by omega)
 ·have run:Z7c.l0 k k l (l.length:Int) 0 f.1 f.2=some (doF f l):=run
  have hc:Z6n f=some f:=by
   unfold Z6n Zch Zfj;refine Za (a:=f.1) (Za (Zlb (by simp;omega)) rfl) (Za (a:=f.2) (Za (Zlb (by simp;omega)) rfl) rfl)
  unfold Z7c;exact Za hc (Za run rfl)
 ·obtain ⟨b1,b2⟩:=hl.before h i
  conv=>lhs;unfold Z7c.l0
  rw [dlt hi,Zs (by omega),Xe,Zp7 f hi];refine Za (Zh hi) ?_;unfold doA;cases q:l[i].1 with
  | true=>
   rw [Xc rfl];exact Za (Zojb b1 (by omega)) rfl
  | false=>
   rw [Xd Yr];exact Za (Ztjb b1 _ _ (by omega)) rfl
 ·conv=>lhs;unfold Z7c.l0
  rw [Zbb (Yi _),Yu];rfl
theorem Z8bb {f:Zy} (h:FlashP f):Z2l f=some f:=by
 have h2:=h.len
 have h3:=h.n
 unfold Z2l
 exact Za (Zlb (by simp;omega)) (Za (Zlb (by simp;omega)) rfl)
theorem Zcnb {f:Zy} (h:FlashP f) (n:Int) (s:Str) {k:Nat} (hk:100≤k):Zgf k f n s=some (Zjj f n s):=by
 have hl:=h.len
 have hn:=h.n
 have run:=Z1h (fun j i=>Zgf.l0 j n s i [] [] f.1 f.2) f.2 (fun x=>x.1==n) (.inl ([],[],f.1,f.2)) (fun i=>.inr (f.1,f.2.set i ((f.2.getD i (0,[])).1,s))) (fun i hi=>by
  constructor
  ·intro hp j
   conv=>lhs;unfold Zgf.l0
   rw [dlt hi,Zs (by omega),Xe];refine Za (Zh hi) (Za (Zh hi) ?_);rw [hp];rfl
  ·intro hp j
   conv=>lhs;unfold Zgf.l0
   rw [dlt hi,Xe];refine Za (Zh hi) (Za (Zh hi) ?_);rw [hp,Xe];refine Za (Zh hi) (Za (Zh hi) ?_);rw [Ye,Zzw hi]) (fun j=>by
  conv=>lhs;unfold Zgf.l0
  rw [Zbb (Yi _)];rfl) (k:=k) (by omega)
 unfold Zgf Zjj
 refine Za (Z8bb h) ?_
 cases hd:Zlh f n with
 | some i=>
  rw [show Zgb (fun x:Zdc=>x.1==n) f.2 0=some i from hd] at run;refine Za run ?_;dsimp only;rw [Zl7 hd]
 | none=>
  rw [show Zgb (fun x:Zdc=>x.1==n) f.2 0=none from hd] at run;refine Za run ?_;exact Za (Zlb (by simp;omega)) rfl
theorem Zacb {f:Zy} (h:FlashP f) {k:Nat} (hk:1048577≤k):Z4 k f=some true:=by
 have h2:=h.len
 have h3:=h.n
 rw [Z0mb f (by omega) (by omega) hk,h.b]
theorem Zlnb {f:Zy} (h:FlashP f) {n:Int} {s:Str} (hn:0≤n∧n<(f.1.length:Int)) (hs:s.length≤96) {k:Nat} (hk:1048577≤k):Z5o k f n s=some ((Zjj f n s).1,(Zjj f n s).2,[],0):=by
 have h3:=h.n
 have hI:Zhd n 0 (Ym .i64 ((f.1.length:Int)-1))=some true:=by
  rw [w64 (n:=(f.1.length:Int)-1) (by omega) (by omega)];unfold Zhd;rw [Xa hn.1,Xa (by omega:n≤(f.1.length:Int)-1)];rfl
 unfold Z5o
 rw [Xb (by omega:¬(8000:Int)<(s.length:Int)),Xf]
 refine Za (Zacb h hk) ?_
 rw [Xb (by omega:¬(96:Int)<(s.length:Int)),show ((!true)||false)=false from rfl,Xf]
 refine Za hI ?_
 rw [Yba,Xf]
 exact Za (Zcnb (k:=k) h n s (by omega)) rfl
theorem Zknb {f:Zy} (h:FlashP f) {k:Nat} (hk:1048577≤k):Z4o k f=some ((Z9m f).1,(Z9m f).2,[],0):=by
 have hl:=h.len
 have hn:=h.n
 have run:=Zbc (fun j i=>Zof.l0 j f.1 f.2 (i:Int) (Zrg f.1 (f.2.take i)) []) f.2.length (Zrg f.1 f.2,[]) (fun i hi j=>?_) (fun j=>?_) k (by omega)
 ·have run:Zof.l0 k f.1 f.2 0 f.1 []=some (Zrg f.1 f.2,[]):=run
  unfold Z4o;refine Za (Zacb h hk) (Za (a:=Z9m f) ?_ rfl);unfold Zof Z9m;exact Za (Zlb (by simp;omega)) (Za run rfl)
 ·have hd:=(h.d _ (Yk hi)).1
  have hll:=Z6t (f.2.take i) f.1;have ha:=Zet (l:=Zrg f.1 (f.2.take i)) [] hd.1 (by rw [hll];exact hd.2)
  conv=>lhs;unfold Zof.l0
  rw [dlt hi,Zs (by omega),Xe];refine Za (Zh hi) (Za (Zh hi) (Za ha (Za ha ?_)));rw [Zr9 _ hi]
 ·conv=>lhs;unfold Zof.l0
  rw [Zbb (Yi _),Yu];rfl
theorem sDoF {f:Zy} (h:FlashP f) {l:List Z4b} (hl:Z4c f.1.length l) (hn:l.length≤1000) {k:Nat} (hk:1048577≤k):Z5e k f l=some ((doF f l).1,(doF f l).2,[],0):=by
 have h2:=h.len
 have h3:=h.n
 have run:=Zbc (fun j i=>Z5e.l0 k j l (i:Int) [] 0 (doF f (l.take i)).1 (doF f (l.take i)).2) l.length ([],0,(doF f l).1,(doF f l).2) (fun i hi j=>?_) (fun j=>?_) k (by omega)
 ·have run:Z5e.l0 k k l 0 [] 0 f.1 f.2=some ([],0,(doF f l).1,(doF f l).2):=run
  unfold Z5e;exact Za (Z8bb h) (Za run rfl)
 ·obtain ⟨b1,b2⟩:=hl.before h i
  conv=>lhs;unfold Z5e.l0
  rw [dlt hi,Zs (by omega),show (true&&((0:Int)==0))=true from rfl,Xe,Zp7 f hi];refine Za (Zh hi) ?_;unfold doA;cases q:l[i].1 with
  | true=>
   rw [Xc rfl];exact Za (Zknb b1 hk) rfl
  | false=>
   have ha:=hl _ (Yk hi) q;rw [Xd Yr];exact Za (Zh hi) (Za (Zh hi) (Za (Zlnb b1 (by rw [b2];exact ha.1) ha.2 hk) rfl))
 ·conv=>lhs;unfold Z5e.l0
  rw [Zbb (Yi _),Yu];rfl
def Zkp (n:Int):Prop:=n<9223372036854775808
theorem Zpjb {old fresh:Str} {n:Int} (hf:fresh.length≤96) (hn:Zkp n):Zum old fresh n=some (Zaz old fresh n):=by
 unfold Zum Zaz
 unfold Zkp at hn
 by_cases c:n<1
 ·rw [Xc c,Xa c]
  rfl
 ·rw [Xd c,Xb c,Xf]
  by_cases c1:n=1
  ·rw [Xc c1,show (n==1)=true by simpa using c1]
   rfl
  ·rw [Xd c1,show (n==1)=false by simpa using c1,Xf,w64 (n:=n-2) (by omega) (by omega)]
   obtain ⟨q,hq⟩:∃q:Nat,n-2=(q:Int):=⟨(n-2).toNat,by omega⟩;rw [hq,Ye]
   by_cases cl:q≤fresh.length
   ·have hm:Zei (q:Int) (fresh.length:Int)=((q:Nat):Int):=by unfold Zei;split <;> omega
    have hc:Z3b fresh 0 ((q:Nat):Int)=some (fresh.take q):=Z9f (l:=fresh) (i:=0) (j:=q) (Y9 _) cl;rw [hm];exact Za hc rfl
   ·have hm:Zei (q:Int) (fresh.length:Int)=((fresh.length:Nat):Int):=by unfold Zei;split <;> omega
    have hc:Z3b fresh 0 ((fresh.length:Nat):Int)=some (fresh.take fresh.length):=Z9f (l:=fresh) (i:=0) (j:=fresh.length) (Y9 _) (Yi _);rw [hm];refine Za hc ?_;rw [Yu,Yla (by omega)]
theorem Zngb {fs:List Int} (h:∀x∈fs,Zkp x) (i:Nat):Zkp (fs.getD i 0):=by
 rw [Yb]
 cases q:fs[i]? with
 | none=>show (0:Int)<9223372036854775808;omega
 | some x=>exact h x (List.mem_of_getElem? q)
theorem Zogb {fs:List Int} {i:Nat} (h:i<fs.length):fs.getD i 0=fs[i]:=by rw [Yb,Yj h];rfl
theorem Zpgb {fs:List Int} {i:Nat} (h:fs.length≤i):fs.getD i 0=0:=by rw [Yb,Ywa h];rfl
theorem Zkib {f:Zy} (h:FlashP f) {fs:List Int} (hf:∀x∈fs,Zkp x) {k:Nat} (hk:1048577≤k):Zce k f fs=some (Zer f fs):=by
 have hl:=h.len
 have hn:=h.n
 have run:=Zbc (fun j i=>Zce.l0 j fs (f.2.length:Int) (i:Int) f.2 (Z2i f.1 f.2 fs i)) f.2.length (Z2i f.1 f.2 fs f.2.length,f.2) (fun i hi j=>?_) (fun j=>?_) k (by omega)
 ·have run:Zce.l0 k fs (f.2.length:Int) 0 f.2 f.1=some (Z2i f.1 f.2 fs f.2.length,f.2):=run
  unfold Zce Zer;exact Za run rfl
 ·have hd:=h.d _ (Yk hi)
  have hll:=Zb7 f.1 f.2 fs i;have ha:=Zet (l:=Z2i f.1 f.2 fs i) [] hd.1.1 (by rw [hll];exact hd.1.2);rw [Zc7 h fs hi i (Yi _)] at ha;have hT:=Zpjb (old:=f.1.getD f.2[i].1.toNat []) hd.2 (Zngb hf i)
  have hend:Zce.l0 j fs (f.2.length:Int) ((i+1:Nat):Int) f.2 ((Z2i f.1 f.2 fs i).set f.2[i].1.toNat (Zaz (f.1.getD f.2[i].1.toNat []) f.2[i].2 (fs.getD i 0)))=Zce.l0 j fs (f.2.length:Int) ((i+1:Nat):Int) f.2 (Z2i f.1 f.2 fs (i+1)):=by
   rw [Z2i,Zzw hi]
  conv=>lhs;unfold Zce.l0
  rw [dlt hi,Zs (by omega),Xe];refine Za (Zh hi) (Za (Zh hi) ?_)
  by_cases c:i<fs.length
  ·rw [Zogb c] at hT hend
   rw [dlt c,Xe];exact Za (Zh c) (Za ha (Za ha (Za hT (Za ha (Za ha hend)))))
  ·rw [Zpgb (by omega)] at hT hend
   rw [Zbb (by omega),Xf];exact Za ha (Za ha (Za hT (Za ha (Za ha hend))))
 ·conv=>lhs;unfold Zce.l0
  rw [Zbb (Yi _)];rfl
theorem Zckb (m:Zp) (l:List Int):(Zdq m l).length≤l.length+1:=by
 have:=Z90 m l
 unfold Zdq
 split
 ·simp
 ·rw [Yc]
  simp;omega
theorem Z81 (f:Zy) (a b c d e:Int) (x:Str) (v w:Nat):(Zzb f a b c d e x v w).length≤2:=Z0r _ _
theorem Zi6 (m:Zp) (ph tr nd st dn:Int) (dg:Str) (v w:Nat):(Z0i m ph tr nd st dn dg v w).length≤100:=by
 have hk:=fun a b c d e x v w=>Z81 m.2 a b c d e x v w
 have hl:=Zyg w
 unfold Z0i
 split
 ·have:=Zckb m ((Zb w).drop (st+Zjk (Ze m st w)).toNat)
  rw [Y1a] at this;omega
 ·split
  ·exact Yv (hk _ _ _ _ _ _ _ _) (by omega)
  ·split
   ·split
    ·exact Yv (hk _ _ _ _ _ _ _ _) (by omega)
    ·exact Yv (hk _ _ _ _ _ _ _ _) (by omega)
   ·split
    ·split
     ·simp
     ·rw [Yc]
      have:=hk 5 tr nd st (dn+1) dg v w;simp only [Yd,Yg];omega
    ·simp
def Zpz (a:Zuk):Prop:=a.1.length≤100∧a.2.2.1.length≤100
theorem Zvi (c:Int):Zpz (Z1f c):=⟨by simp [Z1f],by simp [Z1f]⟩
theorem Z2o {l:List Z4b} (h:l.length≤100):Zpz (Zih l):=⟨h,by simp [Zih]⟩
theorem Zj5 (m:Zp) (c:Zjg):Zpz (Zbk m c):=by
 have hk:=fun a b c d e x v w=>Z81 m.2 a b c d e x v w
 have hid:∀v,(Zpm m v).length≤100:=fun v=>Yv (hk _ _ _ _ _ _ _ _) (by omega)
 unfold Zbk
 split
 ·split
  ·exact Zvi _
  ·split
   ·rename_i ph tr nd st dn dg v w hs
    unfold Z8h;split
    ·unfold Zqp
     split
     ·split
      ·rename_i l hl
       have hle:l.length≤24:=by
        unfold Z4h at hl;split at hl
        ·cases hl
        ·rename_i hn
         have:=Zyg (Zqc v 0);split at hl
         ·cases hl
          rw [Zpcb];omega
         ·cases hl
          rw [Y2a];omega
       refine Z2o ?_;have:=hk 2 0 c.2.1 c.2.2.1 0 c.2.2.2.1 v (Zxh l);simp only [Yc,Zfh,List.length_map,Yd,Yg];omega
      ·exact Zvi _
     ·exact Zvi _
    ·split
     ·unfold Zwq
      split
      ·split
       ·exact Zvi _
       ·split
        ·refine Z2o ?_
         split <;> simp
        ·exact Zvi _
      ·exact Zvi _
     ·split
      ·unfold Z1p
       split
       ·split
        ·split
         ·split
          ·split
           ·exact ⟨hid v,by simp⟩
           ·refine Z2o ?_
            have:=hk 3 tr nd st dn dg v w;simp only [Yc,Yd,Yg];omega
          ·exact ⟨hid v,by simp⟩
         ·exact ⟨hid v,by simp⟩
        ·exact ⟨hid v,by simp⟩
       ·exact Zvi _
      ·split
       ·split
        ·exact Zvi _
        ·exact Z2o (hid v)
       ·split
        ·split
         ·refine Z2o ?_
          have:=hk 5 0 nd st dn dg v w;simp only [Yc,Yd,Yg];omega
         ·exact Zvi _
        ·split
         ·unfold Zvt
          split
          ·split
           ·exact ⟨hid v,by simp⟩
           ·refine ⟨?_,by simp⟩
            have:=hk ph tr nd st (dn+1) dg v w;simp only [Yc,Yd,Yg];omega
          ·exact Zvi _
         ·split
          ·split
           ·exact Zvi _
           ·exact ⟨by simp,by simp⟩
          ·split
           ·exact ⟨by simp,by simp [Z3cb]⟩
           ·split
            ·unfold Z0t
             split
             ·exact Z2o (Yv (hk _ _ _ _ _ _ _ _) (by omega))
             ·exact Zvi _
            ·split
             ·exact Z2o (Yv (hk _ _ _ _ _ _ _ _) (by omega))
             ·exact Z2o (Zi6 _ _ _ _ _ _ _ _ _)
   ·exact Zvi _
 ·exact Zvi _
def flD (d:DoT):Int×List Str×List Zdc×Str×List Int×Int:=(d.1.1,d.1.2.1,d.1.2.2,d.2.1,d.2.2.1,d.2.2.2)
def flC (d:Zp×Int):Int×List Str×List Zdc×Int:=(d.1.1,d.1.2.1,d.1.2.2,d.2)
theorem Zq2 {m:Zp} (h:Z2f m=true):FlashP m.2:=by
 unfold Z2f at h
 cases hs:stM m with
 | none=>rw [hs] at h;cases h
 | some z=>
  obtain ⟨ph,tr,nd,st,dn,dg,v,w⟩:=z;exact FlashP.of (Z7r hs).fit.f
theorem Zv8 {m:Zp} {c:Zjg} (hm:Z2f m=true) (hc:Z7f c=true):Zc fun k=>Zmc k m c=some (Zbk m c):=by
 unfold Zbk
 rw [Xc ⟨hm,hc⟩]
 cases hs:stM m with
 | none=>unfold Z2f at hm;rw [hs] at hm;cases hm
 | some z=>
  obtain ⟨ph,tr,nd,st,dn,dg,v,w⟩:=z;exact Z9hb hs (Z42 hs hm) (Z06 hc)
theorem Zlob {α:Type} (l:List α) {n:Int} (h:0≤n):Z3b l 0 (Zei n (l.length:Int))=some (l.take n.toNat):=by
 obtain ⟨q,rfl⟩:∃q:Nat,n=(q:Int):=⟨n.toNat,by omega⟩
 rw [Ye]
 by_cases c:q≤l.length
 ·have hm:Zei (q:Int) (l.length:Int)=((q:Nat):Int):=by unfold Zei;split <;> omega
  rw [hm];exact Z9f (l:=l) (i:=0) (j:=q) (Y9 _) c
 ·have hm:Zei (q:Int) (l.length:Int)=((l.length:Nat):Int):=by unfold Zei;split <;> omega
  have hc:Z3b l 0 ((l.length:Nat):Int)=some (l.take l.length):=Z9f (l:=l) (i:=0) (j:=l.length) (Y9 _) (Yi _);rw [hm,hc,Yu,Yla (by omega)]
def flM (m:Zp):Int×List Str×List Zdc:=(m.1,m.2.1,m.2.2)
theorem Zmib {m:Zp} (hF:FlashP m.2) {l:List Z4b} (hl:Z4c m.2.1.length l) (hn:l.length≤1000) {n:Int} (h0:0≤n) {fs:List Int} (hf:∀x∈fs,Zkp x) {k:Nat} (hk:1048577≤k):Z0n k m l n fs=some (flM (Zgw m l n fs)):=by
 have hz:Z8p l=some (l.length:Int):=rfl
 unfold Z0n
 exact Za hz (Za (Zlob l h0) (Za (Z5w hF (hl.take _) (by rw [Y2a];omega) hk) (Za (Zkib (hF.acts _ (hl.take _)).1 hf hk) rfl)))
structure Lean1 (m:Zp):Prop where
 s:m.2.1.length≤1048576
 d:m.2.2.length≤1048576
theorem Z0ab:∀(T R:List Int),T.Nodup→(∀x∈T,x∈R)→R.length≤T.length→T.Perm R
 | [],R,_,_,h=>by
  have:R=[]:=List.length_eq_zero_iff.1 (by simpa using h);rw [this]
 | x::T,R,hn,hs,h=>by
  have hx:=hs x Yh;have hn2:=Yt.1 hn
  have h1:=Z0ab T (R.erase x) hn2.2 (fun y hy=>(List.mem_erase_of_ne (fun q:y=x=>hn2.1 (by rw [← q];exact hy))).2 (hs y (Yn _ hy))) (by
   rw [Yha hx];simp only [Yd] at h;omega)
  exact (h1.cons x).trans (List.perm_cons_erase hx).symm
theorem Zv2 {α:Type} {f:α→Int}:∀{l:List α},(l.map f).Nodup→∀{a b:α},a∈l→b∈l→f a=f b→a=b
 | [],_,a,b,ha,_,_=>by cases ha
 | x::l,h,a,b,ha,hb,e=>by
  have h2:=Yt.1 h;rcases Yq.1 ha with za | za
  ·rcases Yq.1 hb with zb | zb
   ·rw [za,zb]
   ·exact absurd (Yf.2 ⟨b,zb,by rw [← e,za]⟩) h2.1
  ·rcases Yq.1 hb with zb | zb
   ·exact absurd (Yf.2 ⟨a,za,by rw [e,zb]⟩) h2.1
   ·exact Zv2 h2.2 za zb e
def Z2j (l:List Zsc):Nat:=(l.filter fun m=>m.1==1).length
theorem Zq4 (m:Int×Int×Int) (l:List Zsc):Z2j ((2,m)::l)=Z2j l:=by
 unfold Z2j
 rw [Ysa (by simp)]
theorem Z8nb (m:Int×Int×Int) (l:List Zsc):Z2j ((1,m)::l)=Z2j l+1:=by
 unfold Z2j
 rw [List.filter_cons_of_pos (by simp),Yd]
theorem Zhob {w:List Zg} {left:List Nat} {st:List Int} (h:left.find? (Zlc w left st)=none):∀i∈left,∃k∈left,k≠i∧(wAt w k).2.2.1=(wAt w i).2.1:=fun i hi=>by
 have h1:Zlc w left st i=false:=Bool.eq_false_iff.2 (Ys.1 h i hi)
 unfold Zlc at h1
 have h2:=(Yoa.1 h1).2
 rw [Bool.not_eq_false'] at h2
 obtain ⟨k,hk,q⟩:=List.any_eq_true.1 h2
 rw [Ya] at q
 refine ⟨k,hk,by simpa using q.1,?_⟩
 have:=q.2
 unfold Z2h at this
 rw [Ya] at this
 simpa using this.2
theorem Z3kb {w:List Zg} {i0:Nat} {rest:List Nat} {st:List Int} (hn:(i0::rest).Nodup) (hT:((i0::rest).map fun i=>(wAt w i).2.1).Nodup) (h:(i0::rest).find? (Zlc w (i0::rest) st)=none) (st':List Int):rest≠[]∧∃j∈rest,Zlc w rest st' j=true:=by
 have hs:=Zhob h
 have hp:=Z0ab _ ((i0::rest).map fun i=>(wAt w i).2.2.1) hT (fun x hx=>by
  obtain ⟨i,hi,rfl⟩:=Yf.1 hx;obtain ⟨k,hk,_,q⟩:=hs i hi;exact Yf.2 ⟨k,hk,q⟩) (by simp)
 have hR:=hp.nodup hT
 have hm:(wAt w i0).2.2.1∈(i0::rest).map fun i=>(wAt w i).2.1:=hp.mem_iff.2 (Yf.2 ⟨i0,Yh,rfl⟩)
 obtain ⟨j,hj,q⟩:=Yf.1 hm
 obtain ⟨k,hk,k1,k2⟩:=hs j hj
 have e:k=i0:=Zv2 (f:=fun i=>(wAt w i).2.2.1) hR hk Yh (by show (wAt w k).2.2.1=(wAt w i0).2.2.1;rw [k2];exact q)
 have hj2:j∈rest:=by
  rcases Yq.1 hj with z | z
  ·exact absurd (z.trans e.symm).symm k1
  ·exact z
 refine ⟨fun z=>(by rw [z] at hj2;cases hj2),j,hj2,?_⟩
 unfold Zlc
 rw [Bool.or_eq_true]
 right
 rw [Yaa,Yca]
 intro y hy z
 rw [Ya] at z
 have z2:=z.2
 unfold Z2h at z2
 rw [Ya] at z2
 have z3:(wAt w y).2.2.1=(wAt w j).2.1:=by simpa using z2.2
 have e2:y=i0:=Zv2 (f:=fun i=>(wAt w i).2.2.1) hR (Yn _ hy) Yh (by show (wAt w y).2.2.1=(wAt w i0).2.2.1;rw [z3];exact q)
 rw [e2] at hy
 exact (Yt.1 hn).1 hy
theorem Z7hb (k:Int) (l:List Int):Z9e k (Zbd k l)=true:=by
 cases h:Z9e k l with
 | true=>
  have:Zbd k l=l:=by unfold Zbd;rw [h];rfl
  rw [this,h]
 | false=>
  rw [Zk5 h];exact Z4w.2 (List.mem_append_right _ Yh)
theorem Z59 {f:Nat→Int} {l:List Nat} (h:(l.map f).Nodup) (i:Nat):((l.erase i).map f).Nodup:=h.sublist (List.erase_sublist.map f)
theorem Z0nb {w:List Zg} (n:Nat):∀(left:List Nat) (st:List Int),left.Nodup→(left.map fun i=>(wAt w i).2.1).Nodup→2*Z2j (Zjb w n left st)≤left.length:=by
 induction n using Nat.strongRecOn with
 | ind n ih=>
  intro left st hn hT
  match n,left,ih,hn,hT with
  | 0,left,_,_,_=>simp [Zjb,Z2j]
  | n+1,[],_,_,_=>simp [Zjb,Z2j]
  | n+1,i0::rest,ih,hn,hT=>
   cases hf:(i0::rest).find? (Zlc w (i0::rest) st) with
   | some i=>
    have e:Zjb w (n+1) (i0::rest) st=(2,((i:Int),((wAt w i).2.1,0)))::Zjb w n ((i0::rest).erase i) st:=by rw [Zjb,hf]
    have hi:=Yja hf;have:=ih n (by omega) ((i0::rest).erase i) st (hn.erase i) (Z59 hT i);rw [Yha hi] at this;rw [e,Zq4];omega
   | none=>
    have e:Zjb w (n+1) (i0::rest) st=(1,((i0:Int),((wAt w i0).2.1,(st.length:Int))))::Zjb w n (i0::rest) (Zbd (wAt w i0).2.1 st):=by rw [Zjb,hf]
    obtain ⟨f1,j,f2,f3⟩:=Z3kb hn hT hf (Zbd (wAt w i0).2.1 st);have hl:1≤rest.length:=List.length_pos_iff.2 f1;rw [e,Z8nb]
    match n,ih with
    | 0,_=>
     simp only [Zjb,Z2j,Yfa,Yg,Yd];omega
    | n+1,ih=>
     have hf2:(i0::rest).find? (Zlc w (i0::rest) (Zbd (wAt w i0).2.1 st))=some i0:=by
      rw [Yga];unfold Zlc;rw [Z7hb];rfl
     have e2:Zjb w (n+1) (i0::rest) (Zbd (wAt w i0).2.1 st)=(2,((i0:Int),((wAt w i0).2.1,0)))::Zjb w n rest (Zbd (wAt w i0).2.1 st):=by
      rw [Zjb,hf2];dsimp only;rw [List.erase_cons_head]
     rw [e2,Zq4]
     match n,ih,rest,hn,hT,f1,f2,f3,hl with
     | 0,_,rest,_,_,_,_,_,hl=>
      simp only [Zjb,Z2j,Yfa,Yg,Yd];omega
     | n+1,_,[],_,_,f1,_,_,_=>exact absurd rfl f1
     | n+1,ih,r::rest,hn,hT,f1,f2,f3,hl=>
      cases hf3:(r::rest).find? (Zlc w (r::rest) (Zbd (wAt w i0).2.1 st)) with
      | none=>exact absurd f3 (Ys.1 hf3 j f2)
      | some i=>
       have e3:Zjb w (n+1) (r::rest) (Zbd (wAt w i0).2.1 st)=(2,((i:Int),((wAt w i).2.1,0)))::Zjb w n ((r::rest).erase i) (Zbd (wAt w i0).2.1 st):=by rw [Zjb,hf3]
       have hi:=Yja hf3;have:=ih n (by omega) ((r::rest).erase i) (Zbd (wAt w i0).2.1 st) ((Yt.1 hn).2.erase i) (Z59 (Yt.1 hT).2 i);rw [Yha hi] at this;rw [e3,Zq4];simp only [Yd] at this ⊢;omega
theorem Z1nb {l:List Zg} (h:(Z0c l).Nodup) (hl:(Zi l).length≤8):Zob (Zl l)≤4:=by
 have hm:((Y7 (Zi l).length).map fun i=>(wAt (Zi l) i).2.1)=Z0c l:=by
  unfold Z0c;refine Yo (by simp) fun i h1 h2=>?_
  rw [Y4,Yza,Y4,Zvg (by simpa using h2)]
 have:=Z0nb (w:=Zi l) 40 (Y7 (Zi l).length) [] List.nodup_range (by rw [hm];exact h)
 rw [List.length_range] at this
 unfold Zob Zl
 unfold Z2j at this
 omega
theorem Z03:∀(l r:List Zg) (a:Int),Zfg a (l++r)=true→Zfg a l=true
 | [],_,_,_=>rfl
 | x::l,r,a,h=>by
  rw [Yqa] at h;unfold Zfg at h ⊢;split at h
  ·rename_i c
   rw [Xc c];rw [Ya] at h ⊢;exact ⟨h.1,Z03 l r _ h.2⟩
  ·rename_i c
   rw [Xd c];exact Z03 l r _ h
theorem Z36 {l:List Zg} {n:Int} (h1:l.length≤20) (h2:1≤n∧n≤8) (h3:∀x∈l,Z6d n x=true) (h4:(Z0c l).Nodup) (h5:Zfg (-1) l=true):Zwb l n=0:=by
 unfold Zwb
 rw [Xd,Xd (not_not_intro h4),Xc h5]
 rintro (q | q | q)
 ·omega
 ·exact q h2
 ·rw [Y1.2 h3] at q
  cases q
theorem Zsfb {l r:List Zg} {n:Int} (h:Zwb (l++r) n=0):Zwb l n=0:=by
 obtain ⟨h1,h2,h3,h4,h5,h6⟩:=Z8f h
 rw [Yc] at h1
 refine Z36 (by omega) ⟨h2,h3⟩ (fun x hx=>h4 x (Yia _ hx)) ?_ (Z03 _ _ _ h6)
 refine h5.sublist ?_
 unfold Z0c Zi
 exact ((List.sublist_append_left l r).filter _).map _
structure ForOk (a:List Str) (n:Int) (t:Str) (x:Zg):Prop where
 w:x.1≠5
 r:Z6d (a.length:Int) x=true
 tgt:x.2.1=n
 mak:Zaj x (a.getD x.2.2.1.toNat [])=t
structure DiffOk (a b:List Str) (l:List Zg) (i:Nat):Prop where
 up:(l.map fun x=>x.2.1).Nodup
 ok:∀x∈l,∃j:Nat,j<i∧ForOk a (j:Int) (b.getD j []) x
 all:∀j:Nat,j<i→a.getD j []≠b.getD j []→∃x∈l,x.2.1=(j:Int)
 len:l.length≤i
theorem DiffOk.zero (a b:List Str):DiffOk a b [] 0:=⟨Yka,fun x hx=>(by cases hx),fun j hj=>absurd hj (Nat.not_lt_zero j),Yi _⟩
theorem DiffOk.same {a b:List Str} {l:List Zg} {i:Nat} (h:DiffOk a b l i) (e:a.getD i []=b.getD i []):DiffOk a b l (i+1):=by
 refine ⟨h.up,fun x hx=>?_,fun j hj q=>?_,by have:=h.len;omega⟩
 ·obtain ⟨j,h1,h2⟩:=h.ok x hx
  exact ⟨j,by omega,h2⟩
 ·by_cases c:j=i
  ·subst c
   exact absurd e q
  ·exact h.all j (by omega) q
theorem DiffOk.add {a b:List Str} {l:List Zg} {i:Nat} (h:DiffOk a b l i) {x:Zg} (hx:ForOk a (i:Int) (b.getD i []) x):DiffOk a b (l++[x]) (i+1):=by
 refine ⟨?_,fun y hy=>?_,fun j hj q=>?_,by rw [Yc];have:=h.len;simp only [Yd,Yg];omega⟩
 ·rw [Y3a]
  refine Ycb.2 ⟨h.up,by simp,fun p hp q hq=>?_⟩;obtain ⟨y,hy,rfl⟩:=Yf.1 hp;obtain ⟨j,h1,h2⟩:=h.ok y hy;have ht:=h2.tgt;have hxt:=hx.tgt;simp only [Y4a,Y5a,Yl] at hq;omega
 ·rcases Yp.1 hy with z | z
  ·obtain ⟨j,h1,h2⟩:=h.ok y z
   exact ⟨j,by omega,h2⟩
  ·rw [Yl.1 z]
   exact ⟨i,by omega,hx⟩
 ·by_cases c:j=i
  ·exact ⟨x,by simp,by rw [hx.tgt,c]⟩
  ·obtain ⟨y,h1,h2⟩:=h.all j (by omega) q
   exact ⟨y,Yia _ h1,h2⟩
def Znl:Zg:=(5,(0,(1,[])))
theorem Zpbb:∀(l r:List Zg) (a:Int),(∀x∈l,x.1≠5)→Zfg a (l++r)=Zfg a r
 | [],_,_,_=>rfl
 | x::l,r,a,h=>by
  rw [Yqa,Zfg,Xd (h x Yh)];exact Zpbb l r a fun y hy=>h y (Yn _ hy)
section
variable {a b:List Str} {l:List Zg}
theorem DiffOk.kinds {i:Nat} (h:DiffOk a b l i):∀x∈l,x.1≠5:=fun x hx=>by
 obtain ⟨j,_,q⟩:=h.ok x hx
 exact q.w
theorem DiffOk.writes {i:Nat} (h:DiffOk a b l i):Zi (l++[Znl])=l:=by
 unfold Zi
 rw [List.filter_append,List.filter_eq_self.2 fun x hx=>Zzr (h.kinds x hx),Ysa (by simp [isW,Znl]),Yfa,Yea]
theorem DiffOk.code (h:DiffOk a b l a.length) (ha:1≤a.length∧a.length≤8):Zwb (l++[Znl]) (a.length:Int)=0:=by
 have hl:=h.len
 refine Z36 (by rw [Yc];simp only [Yd,Yg];omega) ⟨by omega,by omega⟩ (fun x hx=>?_) ?_ ?_
 ·rcases Yp.1 hx with z | z
  ·obtain ⟨j,_,q⟩:=h.ok x z
   exact q.r
  ·rw [Yl.1 z]
   rfl
 ·unfold Z0c
  rw [h.writes];exact h.up
 ·rw [Zpbb _ _ _ h.kinds]
  rfl
theorem DiffOk.slots (h:DiffOk a b l a.length) (ha:a.length≤8):Zob (Zl (l++[Znl]))≤4:=by
 have hl:=h.len
 refine Z1nb ?_ (by rw [h.writes];omega)
 unfold Z0c
 rw [h.writes]
 exact h.up
theorem DiffOk.apply (h:DiffOk a b l a.length) (hab:b.length=a.length):Zmg a (l++[Znl])=b:=by
 unfold Zmg
 rw [h.writes]
 refine Yo (by rw [Zij,hab]) fun j h1 h2=>?_
 have hj:j<a.length:=by omega
 rw [Zxs hj,← Z7k h2]
 cases hf:l.find? (fun x=>x.2.1==(j:Int)) with
 | some x=>
  obtain ⟨i,_,q⟩:=h.ok x (Yja hf);have ht:x.2.1=(j:Int):=by simpa using List.find?_some hf
  have hij:i=j:=by have:=q.tgt;omega
  subst hij;exact q.mak
 | none=>
  refine Decidable.byContradiction fun z=>?_
  obtain ⟨x,hx,q⟩:=h.all j hj z;have:=Ys.1 hf x hx;rw [q] at this;simp at this
end
theorem Zzgb (a:List Str) {n:Int} (h:0≤n∧n<(a.length:Int)):ForOk a n Znv (1,(n,(0,[]))):=by
 refine ⟨by show (1:Int)≠5;omega,?_,rfl,rfl⟩
 unfold Z6d Zuc
 rw [Xc rfl,Xa h.1,Xa (by omega:n≤(a.length:Int)-1)]
 rfl
theorem Zxgb (a:List Str) {n:Int} (h:0≤n∧n<(a.length:Int)) {t:Str} (ht:t.length=8):ForOk a n t (2,(n,(0,t))):=by
 refine ⟨by show (2:Int)≠5;omega,?_,rfl,rfl⟩
 unfold Z6d Zuc
 dsimp only
 rw [Xd (by omega),Xc rfl,Xa h.1,Xa (by omega:n≤(a.length:Int)-1),Xa (by omega:(t.length:Int)=8)]
 rfl
theorem Zvgb (a:List Str) {n:Int} (h:0≤n∧n<(a.length:Int)) {i:Nat} (hi:i<a.length):ForOk a n a[i] (3,(n,((i:Int),[]))):=by
 refine ⟨by show (3:Int)≠5;omega,?_,rfl,?_⟩
 ·unfold Z6d Zuc
  dsimp only;rw [Xd (by omega),Xd (by omega),Xc rfl,Xa h.1,Xa (by omega:n≤(a.length:Int)-1),Xa (by omega:(0:Int)≤(i:Int)),Xa (by omega:(i:Int)≤(a.length:Int)-1)];rfl
 ·show a.getD ((i:Nat):Int).toNat []=a[i]
  rw [Ye,Z7k hi]
theorem Z4ob (a b:Str) (i:Nat):xb a b i=(((a.getD i 0).toNat ^^^ (b.getD i 0).toNat:Nat):Int):=by
 have h1:=UInt8.toNat_lt (a.getD i 0)
 have h2:=UInt8.toNat_lt (b.getD i 0)
 unfold xb
 generalize (a.getD i 0).toNat=x at h1
 generalize (b.getD i 0).toNat=y at h2
 have hx:x ^^^ y<2^8:=Yhb (by omega) (by omega)
 have e:(Y0 8 (x:Int) ^^^ Y0 8 (y:Int)).toNat=x ^^^ y:=by
  rw [BitVec.toNat_xor,Yna,Yna];have q1:((x:Int)%((2^8:Nat):Int)).toNat=x:=by omega
  have q2:((y:Int)%((2^8:Nat):Int)).toNat=y:=by omega
  rw [q1,q2]
 unfold intBits
 show Ym .u8 (((Y0 8 (x:Int) ^^^ Y0 8 (y:Int)).toNat:Nat):Int)=_
 rw [e,u8w]
 omega
theorem Zzdb {a b:Str} {i:Nat} (h:i<8):(Zth a b).getD i 0=UInt8.ofNat ((a.getD i 0).toNat ^^^ (b.getD i 0).toNat):=by
 have e:Zth a b=(Y7 8).map fun i=>UInt8.ofNat (xb a b i).toNat:=by
  unfold Zth Zhb;rw [List.map_map];rfl
 rw [e,Yb,List.getElem?_map,List.getElem?_range h]
 show UInt8.ofNat (xb a b i).toNat=_
 rw [Z4ob,Ye]
theorem Z5ob {a t:Str} (ht:t.length=8):Zth a (Zth a t)=t:=by
 have hl:(Zth a (Zth a t)).length=8:=by unfold Zth;rw [Z3g];simp
 refine Yo (by rw [hl,ht]) fun i h1 h2=>?_
 have e:∀(s:Str) (h:i<s.length),s[i]=s.getD i 0:=fun s h=>by rw [Yb,Yj h];rfl
 rw [e _ h1,e _ h2,Zzdb (by omega),Zzdb (by omega)]
 have q1:=UInt8.toNat_lt (a.getD i 0)
 have q2:=UInt8.toNat_lt (t.getD i 0)
 have hx:(a.getD i 0).toNat ^^^ (t.getD i 0).toNat<2^8:=Yhb (by omega) (by omega)
 rw [UInt8.toNat_ofNat_of_lt' (by exact hx),← Nat.xor_assoc,Nat.xor_self,Nat.zero_xor,UInt8.ofNat_toNat]
theorem Zygb (a:List Str) {n:Int} (h:0≤n∧n<(a.length:Int)) {i:Nat} (hi:i<a.length) (ha:a[i].length=8) {t:Str} (ht:t.length=8):ForOk a n t (4,(n,((i:Int),Zsh a[i] t))):=by
 have hx:Zsh a[i] t=Zth a[i] t:=by unfold Zsh;rw [Xc ⟨ha,ht⟩]
 have hl:(Zth a[i] t).length=8:=by unfold Zth;rw [Z3g];simp
 refine ⟨by show (4:Int)≠5;omega,?_,rfl,?_⟩
 ·rw [hx]
  unfold Z6d Zuc;dsimp only;rw [Xd (by omega),Xd (by omega),Xd (by omega),Xc rfl,Xa h.1,Xa (by omega:n≤(a.length:Int)-1),Xa (by omega:(0:Int)≤(i:Int)),Xa (by omega:(i:Int)≤(a.length:Int)-1),Xa (by omega:((Zth a[i] t).length:Int)=8)];rfl
 ·show Zsh (a.getD ((i:Nat):Int).toNat []) (Zsh a[i] t)=t
  rw [Ye,Z7k hi,hx];unfold Zsh;rw [Xc ⟨ha,hl⟩,Z5ob ht]
section
variable {m:Zp} {c:Zjg} {ph tr nd st dn:Int} {dg:Str} {v w:Nat}
theorem Zsx (hm:Z2f m=true):m.2.1.length≤1048576∧m.2.2.length≤1048576:=by
 have hF:=Zq2 hm
 have:=hF.n
 have:=hF.len
 omega
theorem iDoR (hm:Z2f m=true) (hc:Z7f c=true):Zc fun k=>Zrj k m c=some (flD (doR m c)):=by
 have hF:=Zq2 hm
 obtain ⟨hl,hl2⟩:=Zsx hm
 have ec:=Zz8 c
 rw [hc] at ec
 have hfit:=Zi5 m c
 have hsm:=(Zj5 m c).1
 have em:=Zdx m hl hl2
 rw [hm] at em
 unfold doR
 rw [Xc ⟨hm,hc⟩]
 refine ((em.and (Zv8 hm hc)).and (Zc.ge 1048577 fun k hk=>hk)).mono fun k ⟨⟨e,e2⟩,hk⟩=>?_
 unfold Zrj
 exact Za e (Za ec (Za e2 (Za (Z5w hF hfit (by omega) hk) rfl)))
theorem Znib (hm:Z2f m=true) (hc:Z7f c=true) {n:Int} (h0:0≤n) {fs:List Int} (hf:∀x∈fs,Zkp x) (hfl:fs.length≤400):Zc fun k=>Zrm k m c n fs=some (flC (Zhw m c n fs)):=by
 have hF:=Zq2 hm
 obtain ⟨hl,hl2⟩:=Zsx hm
 have ec:=Zz8 c
 rw [hc] at ec
 have hfit:=Zi5 m c
 have hsm:=(Zj5 m c).1
 have em:=Zdx m hl hl2
 rw [hm] at em
 unfold Zhw
 rw [Xd (by omega),Xc ⟨⟨hm,hc⟩,h0⟩]
 refine ((em.and (Zv8 hm hc)).and (Zc.ge 1048577 fun k hk=>hk)).mono fun k ⟨⟨e,e2⟩,hk⟩=>?_
 unfold Zrm
 rw [Xb (by omega:¬(400:Int)<(fs.length:Int)),Xf]
 refine Za e (Za ec ?_)
 rw [Xb (by omega:¬n<0)]
 exact Za e2 (Za (Zmib hF hfit (by omega) h0 hf hk) rfl)
theorem Zhib (hs:stM m=some (ph,(tr,(nd,(st,(dn,(dg,(v,w)))))))):Zc fun k=>Zqm k m=some (flC (Ztp m)):=by
 have h:=Z7r hs
 have hF:=FlashP.of h.fit.f
 have:=hF.n
 have:=hF.len
 have hi:=Zvr m (by omega) (by omega)
 have hfit:=Zj6 h
 have hlen:=Zi6 m ph tr nd st dn dg v w
 unfold Ztp
 rw [hs] at hi ⊢
 refine ((hi.and (Zy8 h)).and (Zc.ge 1048577 fun k hk=>hk)).mono fun k ⟨⟨e,e2⟩,hk⟩=>?_
 unfold Zqm
 exact Za e (Za e2 (Za (Z5w hF hfit (by omega) hk) rfl))
theorem Zz1 (hs:stM m=some (ph,(tr,(nd,(st,(dn,(dg,(v,w)))))))):Zc fun k=>Zdl k m=some (ph,(tr,(nd,(st,(dn,(dg,(Zb v,(Zb w,0)))))))):=by
 have hF:=FlashP.of (Z7r hs).fit.f
 have:=hF.n
 have:=hF.len
 have hi:=Zvr m (by omega) (by omega)
 rw [hs] at hi
 refine hi.mono fun k e=>?_
 unfold Zdl
 exact Za e rfl
theorem Z11 (hm:Z2f m=true) (hs:stM m=some (ph,(tr,(nd,(st,(dn,(dg,(v,w)))))))):Zc fun k=>Zel k m=some (Z6j m ph st dn w,0):=by
 obtain ⟨hl,hl2⟩:=Zsx hm
 have em:=Zdx m hl hl2
 rw [hm] at em
 refine (em.and (Z98 hs (Z42 hs hm))).mono fun k ⟨e,e2⟩=>?_
 unfold Zel
 exact Za e (Za e2 rfl)
theorem Zbib (hm:Z2f m=true) (hs:stM m=some (ph,(tr,(nd,(st,(dn,(dg,(v,w)))))))):Zc fun k=>Zxn k m=some (Zpd m,0):=by
 obtain ⟨hl,hl2⟩:=Zsx hm
 have em:=Zdx m hl hl2
 rw [hm] at em
 have hf:=(Z7r hs).fit
 have hb:=hf.b
 have hn:=hf.n
 refine (em.and (Zc.ge 1048577 fun k hk=>hk)).mono fun k ⟨e,hk⟩=>?_
 unfold Zxn
 exact Za e (Za (Z7w (m:=m) ⟨by omega,hb.2⟩ (by omega) hl2 hk) rfl)
end
theorem Z2kb {a:List Str} (h:a.length≤400):Z4k (Yz (a.length+27) ([]:Str)) 3 a=Zyb a:=by
 unfold Z4k Zyb
 rw [Yx,List.take_replicate,List.drop_replicate,Yla (by omega:a.length≤a.length+27-3)]
 have e1:min 3 (a.length+27)=3:=by omega
 have e2:a.length+27-(3+a.length)=24:=by omega
 rw [e1,e2]
theorem Zgab {a:List Str} (h:Zec a=true):Z4c (Zyb a).length (Zzb (Zyb a,[]) 1 0 0 0 0 [] 0 0)∧(Zzb (Zyb a,[]) 1 0 0 0 0 [] 0 0).length≤2:=by
 have hl:=Zas a
 exact ⟨Zki (by omega) (Zik (by decide)),Z81 _ _ _ _ _ _ _ _ _⟩
theorem Zyib {a:List Str} (h:Zec a=true):Zc fun k=>Zco k a=some (flM (Zlk a)):=by
 obtain ⟨i1,i2,i3⟩:=Znh h
 have hl:=Zas a
 have K:Keep 1 0 0 0 0 [] 0 0:=Zik (by decide)
 have hp:=Z92 h
 obtain ⟨hfit,hal⟩:=Zgab h
 have hz:Zqg a=some (a.length:Int):=rfl
 have e3:Ym .i64 ((Ym .i64 (3+(a.length:Int)))+24)=((a.length+27:Nat):Int):=by
  rw [w64 (n:=3+(a.length:Int)) (by omega) (by omega),w64 (by omega) (by omega)];omega
 have ht:Zhp 3 (Yz (a.length+27) ([]:Str)).length=some ():=by
  unfold Zhp;rw [Yx,Xc ⟨by omega,by omega⟩]
 refine (((Z88 K).and (Z48 (f:=(Zyb a,[])) hp.b (by show 2≤(Zyb a).length;omega) _ K.len)).and (Zc.ge 1048577 fun k hk=>hk)).mono fun k ⟨⟨e1,e2⟩,hk⟩=>?_
 unfold Zco
 refine Za hz ?_
 dsimp only
 rw [e3]
 refine Za (Z5r (by omega)) (Za ht (Za e1 ?_))
 rw [show Int.toNat 3=3 from rfl,Z2kb (by omega)]
 exact Za e2 (Za (Z5w (f:=(Zyb a,[])) hp hfit (by show (Zzb _ _ _ _ _ _ _ _ _).length≤1000;omega) hk) rfl)
theorem Zu1 {a:List Str} (hl:a.length≤400):Zc fun k=>Zdk k a=some (if Zec a=true then ((Zlk a).1,((Zlk a).2.1,((Zlk a).2.2,0))) else (0,([],([],1)))):=by
 have hi:Zc fun k=>Zek k a=some (Zec a):=Zc.ge 100 fun k hk=>Z18 a hk
 have h4:decide ((400:Int)<(a.length:Int))=false:=Xb (by omega)
 cases h:Zec a with
 | false=>
  rw [h] at hi;refine hi.mono fun k e=>?_
  rw [Xd Yr];unfold Zdk;rw [h4,Xf];exact Za e rfl
 | true=>
  rw [h] at hi;refine (hi.and (Zyib h)).mono fun k ⟨e,e2⟩=>?_
  rw [Xc rfl];unfold Zdk;rw [h4,Xf];exact Za e (Za e2 rfl)
def Zbi (a:List Str) (i:Nat):List Str:=(Y7 (a.length+27)).map fun j=>if 3≤j∧j<3+i then a.getD (j-3) [] else []
theorem Zvw (a:List Str) (i:Nat):(Zbi a i).length=a.length+27:=by simp [Zbi]
theorem Zuw (a:List Str) (i:Nat) {j:Nat} (h:j<(Zbi a i).length):(Zbi a i)[j]=if 3≤j∧j<3+i then a.getD (j-3) [] else []:=by simp [Zbi]
theorem Zqgb (a:List Str):Zbi a a.length=Zyb a:=by
 have hl:=Zas a
 refine Yo (by rw [Zvw,hl]) fun j h1 h2=>?_
 rw [Zuw,← Z7k h2]
 by_cases c:j<3
 ·rw [Xd (by omega),Z82 a c]
 ·by_cases c2:j<3+a.length
  ·rw [Xc ⟨by omega,c2⟩]
   have:=Zfab a (i:=j-3) (by omega);rw [show 3+(j-3)=j by omega] at this;exact this.symm
  ·rw [Xd (by omega)]
   unfold Zyb;rw [Yb,Yva (by simp;omega),Yxa];split <;> rfl
theorem Zrgb (a:List Str) {i:Nat} (h:i<a.length):(Zbi a i).set (3+i) a[i]=Zbi a (i+1):=by
 refine Yo (by rw [Y5,Zvw,Zvw]) fun j h1 h2=>?_
 rw [Y0a,Zuw,Zuw]
 by_cases c:3+i=j
 ·rw [Xc c,Xc ⟨by omega,by omega⟩,show j-3=i by omega,Z7k h]
 ·rw [Xd c]
  by_cases c2:3≤j∧j<3+i
  ·rw [Xc c2,Xc ⟨c2.1,by omega⟩]
  ·rw [Xd c2,Xd (by omega)]
theorem Z5mb {a:List Str} (hl:a.length≤400):Zc fun k=>Z2e k a=some (if Zec a=true then ((Zlk a).1,((Zlk a).2.1,((Zlk a).2.2,0))) else (0,([],([],1)))):=by
 have hi:Zc fun k=>Z6b k a=some (Zec a):=Zc.ge 100 fun k hk=>Ze4 a hk
 have h4:decide ((400:Int)<(a.length:Int))=false:=Xb (by omega)
 cases h:Zec a with
 | false=>
  rw [h] at hi;refine hi.mono fun k e=>?_
  rw [Xd Yr];unfold Z2e;rw [h4,Xf];exact Za e rfl
 | true=>
  rw [h] at hi;obtain ⟨i1,i2,i3⟩:=Znh h;have hnl:=Zas a;have K:Keep 1 0 0 0 0 [] 0 0:=Zik (by decide);have hp:=Z92 h;obtain ⟨hfit,hal⟩:=Zgab h
  have e3:Ym .i64 ((Ym .i64 (3+(a.length:Int)))+24)=((a.length+27:Nat):Int):=by
   rw [w64 (n:=3+(a.length:Int)) (by omega) (by omega),w64 (by omega) (by omega)];omega
  have hF:Z3o ((a.length+27:Nat):Int)=some (Zbi a 0,[]):=by
   have W:Zhd ((a.length+27:Nat):Int) 1 40=some (decide (1≤((a.length+27:Nat):Int))&&decide (((a.length+27:Nat):Int)≤40)):=rfl
   have e:Zbi a 0=Yz (a.length+27) []:=by
    refine Yo (by rw [Zvw,Yx]) fun j h1 h2=>?_
    rw [Zuw,Xd (by omega),List.getElem_replicate]
   unfold Z3o;refine Za W ?_;rw [Xa (by omega:1≤((a.length+27:Nat):Int)),Xa (by omega:((a.length+27:Nat):Int)≤40),e];exact Za (Z5r (by omega)) rfl
  have run:∀k,a.length<k→Z2e.l0 k a 0 (Zbi a 0) []=some (Zyb a,[]):=fun k hk=>by
   refine Zbc (fun j i=>Z2e.l0 j a (i:Int) (Zbi a i) []) a.length (Zyb a,[]) (fun i hi j=>?_) (fun j=>?_) k hk
   ·have hfl:(Zbi a i).length=a.length+27:=by simp [Zbi]
    have e6:Ym .i64 (3+(i:Int))=((3+i:Nat):Int):=by rw [w64 (by omega) (by omega)];omega
    conv=>lhs;unfold Z2e.l0
    rw [dlt hi,Xe];refine Za (Zh hi) ?_;dsimp only;rw [e6,Zs (by omega),Ye];refine Za (Zh (by rw [hfl];omega)) (Za (Zh (by rw [hfl];omega)) ?_);rw [Zrgb a hi]
   ·conv=>lhs;unfold Z2e.l0
    rw [Zbb (Yi _),Xf,Zqgb]
  refine (((hi.and (sL12 1 0 0 0 0 [] 0 0 (by constructor <;> decide) (by constructor <;> decide) (by constructor <;> decide) (by constructor <;> decide) (by constructor <;> decide) (by decide) (by decide) (by decide))).and (Z6mb (f:=(Zyb a,[])) hp.b (by show 2≤(Zyb a).length;omega) _ K.len)).and (Zc.ge 1048577 fun k hk=>hk)).mono fun k ⟨⟨⟨e,e1⟩,e2⟩,hk⟩=>?_
  rw [Xc rfl];unfold Z2e;rw [h4,Xf];refine Za e ?_;rw [e3];refine Za hF (Za (run k (by omega)) (Za e1 (Za e2 (Za (sDoF (f:=(Zyb a,[])) hp hfit (by show (Zzb _ _ _ _ _ _ _ _ _).length≤1000;omega) hk) rfl))))
theorem Zp2 (l:List Str) (hl:l.length≤1048576):Zc fun k=>Zge k l l=some true:=by
 have key:=Zmgb (fun k j i=>Zge.l0 j l l (i:Int)) l.length (.inl ()) (Zc.of fun k i hi j=>by
  conv=>lhs;unfold Zge.l0
  rw [dlt hi,Zh hi,Zs (by omega)];simp only [Xe,Yma,beq_self_eq_true,Yba,Xf]) (Zc.of fun k j=>by
  conv=>lhs;unfold Zge.l0
  rw [Zbb (Yi _)];rfl)
 refine key.mono fun k e=>?_
 have e:Zge.l0 k l l 0=some (.inl ()):=e
 unfold Zge
 rw [bne_self_eq_false,Xf]
 exact Za e rfl
theorem Zkkb (l:List Int) (hb:∀x∈l,0≤x∧x<256) (hl:l.length≤1048576) (i:Nat) {z:Int} (hz:1<z∧z≤1000):∃v:Nat,Zvm l (i:Int) z=some (v:Int)∧(v:Int)<z:=by
 unfold Zvm
 rw [Xb (by omega:¬z≤1),Bool.false_or]
 by_cases h0:l.length=0
 ·rw [show (((l.length:Nat):Int)==0)=true by rw [h0];rfl]
  exact ⟨0,rfl,by omega⟩
 ·rw [show (((l.length:Nat):Int)==0)=false by rw [Zjh,Xb (by omega:¬(((l.length:Nat):Int)=0))],Xf]
  have e:Int.tmod (i:Int) (l.length:Int)=((i%l.length:Nat):Int):=by rw [Ypa (by omega)];omega
  have hlt:i%l.length<l.length:=Nat.mod_lt _ (by omega);rw [Zoi (by omega),e,Zh hlt,Zoi (by omega)];have hx:=hb _ (Yk hlt);simp only [Yma];rw [w64 (by omega) (by omega),Ypa hx.1];have h1:=Int.emod_nonneg l[i%l.length] (by omega:z≠0);have h2:=Int.emod_lt_of_pos l[i%l.length] (by omega:0<z);exact ⟨(l[i%l.length]%z).toNat,by congr 1;omega,by omega⟩
end Go.Proofs.Qz
