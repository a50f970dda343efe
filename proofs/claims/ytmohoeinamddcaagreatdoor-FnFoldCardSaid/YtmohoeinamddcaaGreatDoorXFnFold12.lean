/- What the law FnFold needs, part 13 of 15: the Lean functions of the Go functions that it reaches, with the proofs that the calls come to what they say, and plain facts about them. Conditions: those that each theorem states. Written by a session and by its programs (after the kit's printer). -/
import Derived.Test.YtmohoeinamddcaaGreatDoorXFnFold9
import Derived.Test.YtmohoeinamddcaaGreatDoorXFnFold10
import Derived.Test.YtmohoeinamddcaaGreatDoorXFnFold11
open Bool renaming and_eq_true → Ya, not_eq_true' → Y2, or_eq_true → Y3, false_ne_true → Yea, or_eq_false_iff → Yfa, or_false → Yga, eq_false_iff → Yva
open List renaming length_append → Yb, getD_eq_getElem?_getD → Yd, mem_cons_self → Ye, mem_map → Yf, length_cons → Yg, length_nil → Yh, getElem_mem → Yi, mem_singleton → Yj, getElem?_eq_getElem → Yk, mem_cons_of_mem → Yl, append_assoc → Ym, find?_eq_none → Yn, mem_cons → Yo, pairwise_map → Yp, drop_left → Yq, ext_getElem → Yr, mem_append → Ys, mem_of_find?_eq_some → Yt, nodup_cons → Yu, pairwise_iff_getElem → Yv, all_eq_true → Yx, find?_cons_of_neg → Yy, mem_append_left → Yz, range → Y0, any_eq_false → Y5, append_nil → Y6, find?_some → Y7, foldl_append → Y8, getElem_map → Y9, getElem_of_mem → Yaa, length_erase_of_mem → Yba, mem_range → Yca, take_succ_eq_append_getElem → Yda, cons_append → Yha, drop_zero → Yia, filter_nil → Yja, find?_cons_of_pos → Yka, length → Yla, length_drop → Yma, length_set → Yna, mem_or_eq_of_mem_set → Yoa, nodup_nil → Ypa, append_cancel_left → Ywa, drop_drop → Yxa, filter_cons_of_neg → Yya, find?_cons → Yza, getElem?_eq_none → Y0a, getElem?_set_ne → Y1a, getElem_append_left → Y2a, getElem_range → Y3a, length_range → Y4a, length_take → Y5a, map_append → Y6a, map_cons → Y7a, map_nil → Y8a, mem_append_right → Y9a, mem_filter → Yab, mem_iff_getElem → Ybb, mem_take_iff_getElem → Ycb, nodup_append → Ydb, set_cons_succ → Yeb, set_cons_zero → Yfb, take_append_drop → Ygb
open Int renaming toNat_natCast → Yc
open Nat renaming zero_add → Yw, le_refl → Yqa, lt_trichotomy → Yra, not_lt_zero → Yhb, xor_lt_two_pow → Yib
open BitVec renaming ofInt → Y1, toNat_ofInt → Yua
open Go.IntKind renaming wrap → Y4
open Option renaming bind → Ysa, bind_some → Yta
namespace Go.Proofs.Qz
open Go
set_option linter.unusedVariables false
section
variable {m:Zn} {ph tr nd st dn:Int} {dg:Str} {v w:Nat}
def Zbn (m:Zn) (v:Nat):List Z0b:=Zgb m.2 1 0 0 0 0 [] v 0
def Zxq (m:Zn) (ph tr nd st dn:Int) (dg:Str) (v w:Nat):Zjl:=if ph=2 then (if ((Zh m st w).length:Int)=nd then (if Zwb (Zh m st w) m.1=0 then (if Z7g (Z8e (Ztd m) (Zh m st w)).flatten=dg then (if st<Zob (Zg (Zh m st w)) then (Zbn m v,([],([],11))) else Zoh ([Zp]++Zgb m.2 3 tr nd st dn dg v w)) else (Zbn m v,([],([],5)))) else (Zbn m v,([],([],5)))) else (Zbn m v,([],([],4)))) else Zhg 10
theorem Zljb (h:MSt m ph tr nd st dn dg v w):Zc fun k=>Zso k m (ph,(tr,(nd,(st,(dn,(dg,(Zb v,Zb w))))))) (Zh m st w)=some (Zxq m ph tr nd st dn dg v w):=by
 have hf:=h.fit
 have hb:=hf.b
 have hn:=hf.n
 have hdr:=hf.dirt
 have hfl:=(Zzq hf.f).1
 have hk0:=h.keep
 have hll:=h.log
 have hplan:Zc fun k=>Zwb (Zh m st w) m.1=0→Zpb k (Zh m st w)=some (Zg (Zh m st w)):=if hc:Zwb (Zh m st w) m.1=0 then (Zos (Zh m st w) (Zue hc).1 (Zrh hc)).mono fun k e _=>e else Zc.of fun k q=>absurd q hc
 refine (((((Zpj (m:=m) hf.f h.two (Zek h.hv)).and (Zdy (Zh m st w) m.1 (by omega))).and hplan).and (Zpj (m:=m) hf.f h.two (a:=3) { hk0 with a:=by omega })).and (Zc.ge 1048577 fun k hk=>hk)).mono fun k ⟨⟨⟨⟨e1,e2⟩,e3⟩,e4⟩,hk⟩=>?_
 have hz:Zbk (Zh m st w)=some ((Zh m st w).length:Int):=rfl
 unfold Zso Zxq
 refine Za (Z6x v _ _ _ _ _ _ _) (Za e1 (Za (Z2x (m:=m) ⟨by omega,hb.2⟩ (by omega) (by omega) hk) ?_))
 show (bif ph != 2 then _ else _)=_
 by_cases c2:ph=2
 ·rw [Xc c2,show (ph != 2)=false by simpa using c2,Xf]
  refine Za hz ?_;show (bif ((Zh m st w).length:Int) != nd then _ else _)=_
  by_cases cn:((Zh m st w).length:Int)=nd
  ·rw [Xc cn,show (((Zh m st w).length:Int) != nd)=false by simpa using cn,Xf]
   refine Za e2 ?_
   by_cases cc:Zwb (Zh m st w) m.1=0
   ·rw [Xc cc,show (Zwb (Zh m st w) m.1 != 0)=false by simpa using cc,Xf]
    have hpl:=Zjp _ (Zue cc).1 (Zrh cc);refine Za (Zm9 cc h.base h.base8 (by omega)) (Za (Zgjb (Zefb cc h.base h.img) (by omega)) ?_);show (bif !(Z7g (Z8e (Ztd m) (Zh m st w)).flatten==dg) then _ else _)=_
    by_cases cd:Z7g (Z8e (Ztd m) (Zh m st w)).flatten=dg
    ·rw [Xc cd,show (Z7g (Z8e (Ztd m) (Zh m st w)).flatten==dg)=true by simpa using cd,Bool.not_true,Xf]
     refine Za (e3 cc) (Za (Zy9 _ (by omega) k (by omega)) ?_);show (bif decide (st<Zob (Zg (Zh m st w))) then _ else _)=_
     by_cases cs:st<Zob (Zg (Zh m st w))
     ·rw [Xc cs,Xa cs]
      rfl
     ·rw [Xd cs,Xb cs,Xf]
      have hkl:=Zts m.2 (Z6e (3,tr,nd,st,dn,(v:Int),(w:Int),dg));exact Za e4 (Za (Zsb (by unfold Zgb;simp;omega)) rfl)
    ·rw [Xd cd,show (Z7g (Z8e (Ztd m) (Zh m st w)).flatten==dg)=false by simpa using cd]
     rfl
   ·rw [Xd cc,show (Zwb (Zh m st w) m.1 != 0)=true by simpa using cc]
    rfl
  ·rw [Xd cn,show (((Zh m st w).length:Int) != nd)=true by simpa using cn]
   rfl
 ·rw [Xd c2,show (ph != 2)=true by simpa using c2]
  rfl
def Z1c (m:Zn) (st dn:Int) (w:Nat):Zbc:=(Zg (Zh m st w)).getD dn.toNat (0,(0,(0,0)))
def Z2g (m:Zn) (st dn:Int) (w:Nat):Int:=if (Z1c m st dn w).1=1 then 3+m.1+(Zb w).getD (Z1c m st dn w).2.2.2.toNat 0 else 3+(Z1c m st dn w).2.2.1
def Z8f (m:Zn) (st dn:Int) (w:Nat):Str:=if (Z1c m st dn w).1=1 then Zd m.2 (3+(Z1c m st dn w).2.2.1) else Zli m w (Zg (Zh m st w)) dn.toNat (wAt (Zj (Zh m st w)) (Z1c m st dn w).2.1.toNat)
def Z1h (m:Zn) (ph tr nd st dn:Int) (dg:Str) (v w:Nat):Zjl:=if ph=5 then (if dn=((Zg (Zh m st w)).length:Int) then (Zbn m v,([],([0],0))) else ([(false,(2,if (Z8f m st dn w).length=8 then Zcb dn (Z2g m st dn w) (Z8f m st dn w) else [])),Zp,(false,(Z2g m st dn w,Z8f m st dn w)),Zp]++Zgb m.2 ph tr nd st (dn+1) dg v w,([],([((Zg (Zh m st w)).length:Int)-(dn+1)],0)))) else Zhg 10
theorem Zdv (hS:Sound m st dn w) (hlt:dn<((Zg (Zh m st w)).length:Int)):at? (Zg (Zh m st w)) dn=some (Z1c m st dn w)∧(0≤(Z1c m st dn w).2.2.1∧(Z1c m st dn w).2.2.1<m.1) ∧
  ((Z1c m st dn w).1=1∧(at? (Zb w) (Z1c m st dn w).2.2.2=some ((Zb w).getD (Z1c m st dn w).2.2.2.toNat 0)∧0≤(Zb w).getD (Z1c m st dn w).2.2.2.toNat 0∧(Zb w).getD (Z1c m st dn w).2.2.2.toNat 0≤23) ∨
   (Z1c m st dn w).1=2∧at? (Zj (Zh m st w)) (Z1c m st dn w).2.1=some (wAt (Zj (Zh m st w)) (Z1c m st dn w).2.1.toNat)∧WriteOk (wAt (Zj (Zh m st w)) (Z1c m st dn w).2.1.toNat) m.1):=by
 have hdn:=hS.dn
 have hs:=hS.fit.s
 have hsl:=hS.slots
 obtain ⟨d,rfl⟩:∃d:Nat,dn=(d:Int):=⟨dn.toNat,by omega⟩
 have hd:d<(Zg (Zh m st w)).length:=by omega
 have hg:Z1c m st (d:Int) w=(Zg (Zh m st w))[d]:=by
  unfold Z1c;rw [Yc];exact Zvu hd
 have hm:(Zg (Zh m st w))[d]? = some (Zg (Zh m st w))[d]:=Yk hd
 obtain ⟨j,hj,q⟩:=(Ztbb hS.code).form d _ hm
 have hx:=Zdq hS.code _ (Yi hj)
 have hto:=hx.tgt
 refine ⟨by rw [hg];exact Zm hd,?_,?_⟩
 ·rw [hg]
  rcases q with q | q <;> rw [q] <;> (show 0≤(wAt _ j).2.1∧(wAt _ j).2.1<m.1) <;> rw [Zed hj] <;> exact hto
 ·rw [hg]
  rcases q with q | q
  ·right
   rw [q];refine ⟨rfl,?_,?_⟩
   ·show at? (Zj (Zh m st w)) ((j:Nat):Int)=some (wAt (Zj (Zh m st w)) (((j:Nat):Int)).toNat)
    rw [Yc,Zed hj];exact Zm hj
   ·show WriteOk (wAt (Zj (Zh m st w)) (((j:Nat):Int)).toNat) m.1
    rw [Yc,Zed hj];exact hx
  ·left
   have h1:(Zg (Zh m st w))[d].1=1:=by rw [q]
   have h2:(Zg (Zh m st w))[d].2.2.2=Zob ((Zg (Zh m st w)).take d):=by rw [q]
   have h3:=Zd5 hm h1;have h4:=Z4v ((Zg (Zh m st w)).take d);refine ⟨h1,?_⟩;rw [h2];exact Zyw h4.1 (by omega)
theorem Z38 (hS:Sound m st dn w) (hlt:dn<((Zg (Zh m st w)).length:Int)):0≤Z2g m st dn w∧Z2g m st dn w≤39:=by
 have hb:=hS.fit.b
 obtain ⟨_,h2,h3⟩:=Zdv hS hlt
 unfold Z2g
 rcases h3 with ⟨q,_,q1,q2⟩ | ⟨q,_⟩
 ·rw [Xc q];omega
 ·rw [Xd (by omega)];omega
theorem Zdlb (m:Zn) (x:Zk) (hx:WriteOk x m.1) (hf:Zgg m.2=true) (mv:List Zbc) (d:Nat) (hp:x.2.2.2.length≤8):(Zli m w mv d x).length≤96:=by
 unfold Zli Zmi
 split
 ·exact (by decide:Zmw.length≤96)
 ·split
  ·omega
  ·split
   ·unfold Zio
    split
    ·split
     ·exact Z9m hf _
     ·exact Z9m hf _
    ·simp
   ·unfold Z5h
    split
    ·rw [Zqeb];omega
    ·simp
theorem Zmgb {l:List Zk} {n:Int} (h:Zwb l n=0):∀x∈Zj l,x.2.2.2.length≤8:=by
 intro x hx
 unfold Zj at hx
 have hs:=(Zue h).2.2.2.1 x (Yab.1 hx).1
 exact Z7v hs
theorem Z48 (hS:Sound m st dn w) (hlt:dn<((Zg (Zh m st w)).length:Int)):(Z8f m st dn w).length≤96:=by
 obtain ⟨_,h2,h3⟩:=Zdv hS hlt
 unfold Z8f
 rcases h3 with ⟨q,_⟩ | ⟨q,q1,q2⟩
 ·rw [Xc q]
  exact Z9m hS.fit.f _
 ·rw [Xd (by omega)]
  refine Zdlb m _ q2 hS.fit.f _ _ (Zmgb hS.code _ ?_);have:=(Zdv hS hlt).2.1
  by_cases hi:(Z1c m st dn w).2.1.toNat<(Zj (Zh m st w)).length
  ·rw [Zed hi]
   exact Yi hi
  ·exfalso
   have hn:at? (Zj (Zh m st w)) (Z1c m st dn w).2.1=none:=by
    unfold at?;split
    ·exact Y0a (by omega)
    ·rfl
   rw [hn] at q1;cases q1
theorem Zmjb (h:MSt m ph tr nd st dn dg v w):Zc fun k=>Zwc k m (ph,(tr,(nd,(st,(dn,(dg,(Zb v,Zb w))))))) (Zh m st w)=some (Z1h m ph tr nd st dn dg v w):=by
 have hf:=h.fit
 have hb:=hf.b
 have hn:=hf.n
 have hdr:=hf.dirt
 have hk0:=h.keep
 have hll:=h.log
 unfold Z1h
 by_cases c5:ph=5
 ·have hS:=h.snd (by omega)
  have hdn:=hS.dn;have hpl:=hS.plan;have hz:Z0k (Zg (Zh m st w))=some ((Zg (Zh m st w)).length:Int):=rfl;rw [Xc c5]
  by_cases ce:dn=((Zg (Zh m st w)).length:Int)
  ·rw [Xc ce]
   refine ((Zpj (m:=m) hf.f h.two (Zek h.hv)).and (Zos _ (Zue hS.code).1 (Zrh hS.code))).mono fun k ⟨e1,e2⟩=>?_
   unfold Zwc;show (bif ph != 5 then _ else _)=_;rw [show (ph != 5)=false by simpa using c5,Xf];refine Za e2 (Za hz ?_);show (bif (Y4 .i64 (((Zg (Zh m st w)).length:Int)-dn))==0 then _ else _)=_;rw [w64 (n:=((Zg (Zh m st w)).length:Int)-dn) (by omega) (by omega),show (((Zg (Zh m st w)).length:Int)-dn==0)=true by rw [ce];simp,Xe];exact Za (Z6x v _ _ _ _ _ _ _) (Za e1 rfl)
  ·have hlt:dn<((Zg (Zh m st w)).length:Int):=by omega
   obtain ⟨m1,m2,m3⟩:=Zdv hS hlt;have hat:=Z38 hS hlt;have hdl:=Z48 hS hlt;rw [Xd ce];refine ((((Zpj (m:=m) hf.f h.two (a:=ph) (e:=dn+1) { hk0 with e:=by omega }).and (Zos _ (Zue hS.code).1 (Zrh hS.code))).and (Ztjb dn (Z2g m st dn w) (Z8f m st dn w) (by constructor <;> omega) (by constructor <;> omega) (by omega))).and (Zc.ge 1048577 fun k hk=>hk)).mono fun k ⟨⟨⟨e1,e2⟩,e3⟩,hk⟩=>?_
   have hj0:Zwc.j0 k (Zh m st w) (3+(Z1c m st dn w).2.2.1) m.1 m.2.1 m.2.2 ph tr nd st dn dg (Zb v) (Zb w) (Z1c m st dn w).1 (Z1c m st dn w).2.1 (Z1c m st dn w).2.2.1 (Z1c m st dn w).2.2.2 (Zg (Zh m st w))=some (Z2g m st dn w,(Z8f m st dn w,(m.1,(m.2.1,(m.2.2,(ph,(tr,(nd,(st,(dn,(dg,(Zb v,(Zb w,(Z1c m st dn w)))))))))))))):=by
    unfold Zwc.j0 Z2g Z8f;dsimp only;rcases m3 with ⟨q,q1,q2,q3⟩ | ⟨q,q1,q2⟩
    ·rw [Xc q,Xc q,show ((Z1c m st dn w).1==1)=true by simpa using q,Xe]
     exact Za q1 (Za (Z1x hf q2 q3) (Za (Zlo m.2 _ hdr (by omega) (by omega) (by omega)) rfl))
    ·rw [Xd (by omega),Xd (by omega),show ((Z1c m st dn w).1==1)=false by rw [q];rfl,Xf]
     exact Za (Zey _ (by omega) k (by omega)) (Za q1 (Za (Zt9 hS ph tr nd dg (Zb v) q2 hk) rfl))
   have hj1:Zwc.j1 k (Z2g m st dn w) (Z8f m st dn w) [] ph tr nd st dn dg (Zb v) (Zb w)=some (if (Z8f m st dn w).length=8 then Zcb dn (Z2g m st dn w) (Z8f m st dn w) else [],(ph,(tr,(nd,(st,(dn,(dg,(Zb v,Zb w)))))))):=by
    unfold Zwc.j1
    by_cases c8:(Z8f m st dn w).length=8
    ·rw [Xc c8,show (((Z8f m st dn w).length:Int)==8)=true by rw [c8];rfl,Xe]
     exact Za e3 rfl
    ·rw [Xd c8,show (((Z8f m st dn w).length:Int)==8)=false by simp;omega]
     rfl
   unfold Zwc;show (bif ph != 5 then _ else _)=_;rw [show (ph != 5)=false by simpa using c5,Xf];refine Za e2 (Za hz ?_);show (bif (Y4 .i64 (((Zg (Zh m st w)).length:Int)-dn))==0 then _ else _)=_;rw [w64 (n:=((Zg (Zh m st w)).length:Int)-dn) (by omega) (by omega),show (((Zg (Zh m st w)).length:Int)-dn==0)=false by simp;omega,Xf];refine Za m1 (Za m1 ?_);rw [w64 (n:=3+(Z1c m st dn w).2.2.1) (by omega) (by omega)];refine Za hj0 (Za hj1 ?_);show Ysa (Zke k m (ph,(tr,(nd,(st,(Y4 .i64 (dn+1),(dg,(Zb v,Zb w)))))))) _=_;rw [w64 (n:=dn+1) (by omega) (by omega)];have hkl:=Zts m.2 (Z6e (ph,tr,nd,st,dn+1,(v:Int),(w:Int),dg));refine Za e1 (Za (Zsb (by unfold Zgb;simp;omega)) ?_);rw [w64 (n:=((Zg (Zh m st w)).length:Int)-dn-1) (by omega) (by omega),show ((Zg (Zh m st w)).length:Int)-dn-1=((Zg (Zh m st w)).length:Int)-(dn+1) by omega];rfl
 ·rw [Xd c5]
  refine Zc.of fun k=>?_
  unfold Zwc;show (bif ph != 5 then _ else _)=_;rw [show (ph != 5)=true by simpa using c5];rfl
end
def Zxu (m:Zn) (ph tr nd st dn:Int) (dg:Str) (v w:Nat) (a:Int):Zjl:=match Zoi (Zuc v w) a with
 | some l=>Zoh (Zgb m.2 ph tr nd st dn dg (v ||| Zci l) w)
 | none=>Zhg 11
def Zvdb (m:Zn) (ph tr nd st dn:Int) (v w:Nat):List Int:=[ph,tr,((Zh m st w).length:Int),Z3k (Zh m st w),(if ph=5 then ((Zg (Zh m st w)).length:Int)-dn else 0),((Zb (Zuc v w)).length:Int)]
def Zai (m:Zn) (c:Zmg) (ph tr nd st dn:Int) (dg:Str) (v w:Nat):Zjl:=if c.1=1 then Zlq m ph v c.2.1 c.2.2.1 c.2.2.2.1 else if c.1=2 then Zpr m ph nd st w c.2.2.2.2 else if c.1=3 then Zxq m ph tr nd st dn dg v w else if c.1=4 then (if ph=1∨ph=5 then Zhg 10 else Zoh (Zbn m v)) else if c.1=5 then (if ph=4 then Zoh ([(false,(2,[])),Zp]++Zgb m.2 5 0 nd st dn dg v w) else Zhg 10) else if c.1=6 then Z1h m ph tr nd st dn dg v w else if c.1=7 then (if m.1≤c.2.1 then Zhg 8 else ([],((Z1j m ph st dn w).getD c.2.1.toNat [],([],0)))) else if c.1=8 then ([],([],(Zvdb m ph tr nd st dn v w,0))) else if c.1=9 then Zxu m ph tr nd st dn dg v w c.2.1 else if c.1=10 then Zoh (Zgb m.2 ph tr nd st dn dg 0 w) else Zoh (Z6j m ph tr nd st dn dg v w)
structure CmdOk (c:Zmg):Prop where
 r:1≤c.1∧c.1≤11
 k1:c.1=1→(1≤c.2.1∧c.2.1≤20)∧(0≤c.2.2.1∧c.2.2.1≤4)∧c.2.2.2.1.length≤32
 k2:c.1=2→Zxc c.2.2.2.2.1 c.2.2.2.2.2.1 c.2.2.2.2.2.2.1 c.2.2.2.2.2.2.2 8=true
 k7:c.1=7→0≤c.2.1
 k9:c.1=9→1≤c.2.1∧c.2.1≤24
theorem Zo7 {c:Zmg} (h:Zeg c=true):CmdOk c:=by
 unfold Zeg at h
 split at h
 ·rename_i q
  simp only [Ya,decide_eq_true_eq] at h;exact ⟨by omega,fun _=>⟨by omega,by omega,by omega⟩,by omega,by omega,by omega⟩
 ·split at h
  ·rename_i q
   simp only [Ya,decide_eq_true_eq] at h;exact ⟨by omega,by omega,fun _=>h.2,by omega,by omega⟩
  ·split at h
   ·rename_i q
    simp only [Ya,decide_eq_true_eq] at h;exact ⟨by omega,by omega,by omega,by omega,fun _=>by omega⟩
   ·split at h
    ·rename_i q
     simp only [Ya,decide_eq_true_eq] at h;exact ⟨by omega,by omega,by omega,fun _=>by omega,by omega⟩
    ·simp only [Ya,decide_eq_true_eq] at h
     exact ⟨by omega,by omega,by omega,by omega,by omega⟩
section
variable {m:Zn} {ph tr nd st dn:Int} {dg:Str} {v w:Nat}
theorem Zk9 (h:MSt m ph tr nd st dn dg v w) {n:Int} (h1:1≤n) {l:List Int} (hr:Zoi (Zuc v w) n=some l):Zci l<16777216∧l=Zb (Zci l)∧v &&& Zci l=0∧(v ||| Zci l)<16777216:=by
 obtain ⟨⟨u,u1,u2,u3⟩,_⟩:=Zo4 (Zks h.hv h.hw) h1 hr
 have e:Zci l=u:=by rw [u2];exact Z36 u1
 rw [e]
 refine ⟨u1,u2,and_zero (fun i hi q=>?_) h.hv,?_⟩
 ·have:=u3 i q.2
  rw [Z88 hi,q.1] at this;cases this
 ·have:v ||| u<2^24:=Nat.or_lt_two_pow (by simpa using h.hv) (by simpa using u1)
  simpa using this
theorem Z0ib (hs:stM m=some (ph,(tr,(nd,(st,(dn,(dg,(v,w)))))))) (h:MSt m ph tr nd st dn dg v w) {c:Zmg} (hc:CmdOk c):Zc fun k=>Zqc k m c=some (if (Zf m.2).1=1000000 then Zhg 9 else Zai m c ph tr nd st dn dg v w):=by
 have hf:=h.fit
 have hb:=hf.b
 have hn:=hf.n
 have hdr:=hf.dirt
 have hl:m.2.1.length≤1048576:=by omega
 have hk0:=h.keep
 have hll:=h.log
 have hlv:=Zbh v
 have hlw:=Zbh w
 have pre0:Zc fun k=>Zpf k m=some (Zzy (some (ph,tr,nd,st,dn,dg,v,w))):=by rw [← hs];exact Z2q m hl (by omega)
 have pre:=(pre0.and (Zj2 hf.f h.two)).and (Zyu ph tr nd st dn dg (Zb v) hf)
 by_cases cg:(Zf m.2).1=1000000
 ·rw [Xc cg]
  refine pre.mono fun k ⟨⟨p1,p2⟩,p3⟩=>?_
  unfold Zqc;refine Za p1 (Za p2 ?_);rw [show ((Zf m.2).1==1000000)=true by simpa using cg];rfl
 ·rw [Xd cg]
  have hg:((Zf m.2).1==1000000)=false:=by simpa using cg
  obtain ⟨o,a,b,t,s⟩:=c;have hr:=hc.r;dsimp only at hr;have ho:o=1∨o=2∨o=3∨o=4∨o=5∨o=6∨o=7∨o=8∨o=9∨o=10∨o=11:=by omega
  rcases ho with rfl | rfl | rfl | rfl | rfl | rfl | rfl | rfl | rfl | rfl | rfl
  ·obtain ⟨q1,q2,q3⟩:=hc.k1 rfl
   refine (pre.and (Z3ib h (1,(a,(b,(t,s)))) q1 q2 q3)).mono fun k ⟨⟨⟨p1,p2⟩,p3⟩,e⟩=>?_
   unfold Zqc;refine Za p1 (Za p2 ?_);rw [hg,Xf];exact Za p3 (Za e rfl)
  ·refine (pre.and (Zbkb h s (hc.k2 rfl))).mono fun k ⟨⟨⟨p1,p2⟩,p3⟩,e⟩=>?_
   unfold Zqc;refine Za p1 (Za p2 ?_);rw [hg,Xf];exact Za p3 (Za e rfl)
  ·refine (pre.and (Zljb h)).mono fun k ⟨⟨⟨p1,p2⟩,p3⟩,e⟩=>?_
   unfold Zqc;refine Za p1 (Za p2 ?_);rw [hg,Xf];exact Za p3 (Za e rfl)
  ·refine (pre.and (Zpj (m:=m) hf.f h.two (Zek h.hv))).mono fun k ⟨⟨⟨p1,p2⟩,p3⟩,e⟩=>?_
   unfold Zqc;refine Za p1 (Za p2 ?_);rw [hg,Xf];refine Za p3 ?_;show (bif (ph==1)||(ph==5) then _ else _)=some (if ph=1∨ph=5 then Zhg 10 else Zoh (Zbn m v))
   by_cases q:ph=1∨ph=5
   ·rw [Xc q,show ((ph==1)||(ph==5))=true by rcases q with q | q <;> rw [q] <;> rfl]
    rfl
   ·rw [Xd q,show ((ph==1)||(ph==5))=false by
     rw [Yfa];exact ⟨by simp;omega,by simp;omega⟩,Xf]
    exact Za (Z6x v _ _ _ _ _ _ _) (Za e rfl)
  ·refine (pre.and (Zpj (m:=m) hf.f h.two (a:=5) (b:=0) { hk0 with a:=by omega,b:=by omega })).mono fun k ⟨⟨⟨p1,p2⟩,p3⟩,e⟩=>?_
   unfold Zqc;refine Za p1 (Za p2 ?_);rw [hg,Xf];refine Za p3 ?_;show (bif ph != 4 then _ else _)=some (if ph=4 then Zoh ([(false,(2,[])),Zp]++Zgb m.2 5 0 nd st dn dg v w) else Zhg 10)
   by_cases q:ph=4
   ·rw [Xc q,show (ph != 4)=false by simpa using q,Xf]
    have hkl:=Zts m.2 (Z6e (5,0,nd,st,dn,(v:Int),(w:Int),dg));exact Za e (Za (Zsb (by unfold Zgb;simp;omega)) rfl)
   ·rw [Xd q,show (ph != 4)=true by simpa using q]
    rfl
  ·refine (pre.and (Zmjb h)).mono fun k ⟨⟨⟨p1,p2⟩,p3⟩,e⟩=>?_
   unfold Zqc;refine Za p1 (Za p2 ?_);rw [hg,Xf];exact Za p3 (Za e rfl)
  ·refine (pre.and (Z09 hs h)).mono fun k ⟨⟨⟨p1,p2⟩,p3⟩,e⟩=>?_
   have h7:=hc.k7 rfl;dsimp only at h7;have hvl:=Zspb h;unfold Zqc;refine Za p1 (Za p2 ?_);rw [hg,Xf];refine Za p3 ?_;show (bif decide (m.1≤a) then _ else _)=some (if m.1≤a then Zhg 8 else ([],((Z1j m ph st dn w).getD a.toNat [],([],0))))
   by_cases q:m.1≤a
   ·rw [Xc q,Xa q]
    rfl
   ·rw [Xd q,Xb q,Xf]
    have hat:=Zxw (l:=Z1j m ph st dn w) (n:=a) h7 (by omega);exact Za e (Za hat (Za hat rfl))
  ·have hmv:Zc fun k=>ph=5→Zyk k m (ph,(tr,(nd,(st,(dn,(dg,(Zb v,Zb w)))))))=some (Zg (Zh m st w)):=if h5:ph=5 then (Zw9 h (by omega)).mono fun k e _=>e else Zc.of fun k q=>absurd q h5
   refine ((pre.and hmv).and (Zc.ge 100 fun k hk=>hk)).mono fun k ⟨⟨⟨⟨p1,p2⟩,p3⟩,e⟩,hk⟩=>?_
   have hcount:=Zj1 h.apart
   have hj:Zqc.j0 k m.1 m.2.1 m.2.2 0 ph tr nd st dn dg (Zb v) (Zb w)=some ((if ph=5 then ((Zg (Zh m st w)).length:Int)-dn else 0),(ph,(tr,(nd,(st,(dn,(dg,(Zb v,Zb w)))))))):=by
    unfold Zqc.j0
    by_cases h5:ph=5
    ·have hS:=h.snd (by omega)
     have hpl:=hS.plan;have hdn:=hS.dn;rw [Xc h5,show (ph==5)=true by simpa using h5,Xe];refine Za (e h5) (Za (a:=((Zg (Zh m st w)).length:Int)) rfl ?_);rw [w64 (n:=((Zg (Zh m st w)).length:Int)-dn) (by omega) (by omega)]
    ·rw [Xd h5,show (ph==5)=false by simpa using h5]
     rfl
   unfold Zqc;refine Za p1 (Za p2 ?_);rw [hg,Xf];refine Za p3 (Za hj (Za (a:=((Zh m st w).length:Int)) rfl (Za (Zs9 _ hll.2.1 (by omega)) (Za (a:=((Zb v).length:Int)) rfl (Za (a:=((Zb w).length:Int)) rfl ?_)))));rw [w64 (n:=24-((Zb v).length:Int)) (by omega) (by omega),w64 (n:=24-((Zb v).length:Int)-((Zb w).length:Int)) (by omega) (by omega),show 24-((Zb v).length:Int)-((Zb w).length:Int)=((Zb (Zuc v w)).length:Int) by omega];rfl
  ·obtain ⟨q1,q2⟩:=hc.k9 rfl
   dsimp only at q1 q2;obtain ⟨n,rfl⟩:∃n:Nat,a=(n:Int):=⟨a.toNat,by omega⟩
   have hres:∀k,200≤k→Z2b k (Zb v) (Zb w) (n:Int)=some (match Zoi (Zuc v w) (n:Int) with
    | some l=>(l,true)
    | none=>([],false)):=fun k hk=>Zx9 v w n h.hv h.hw (by omega) hk
   have goalE:Zai m (9,((n:Int),(b,(t,s)))) ph tr nd st dn dg v w=Zxu m ph tr nd st dn dg v w (n:Int):=rfl;rw [goalE];unfold Zxu;cases hq:Zoi (Zuc v w) (n:Int) with
   | none=>
    refine (pre.and (Zc.ge 200 fun k hk=>hk)).mono fun k ⟨⟨⟨p1,p2⟩,p3⟩,hk⟩=>?_
    have hr2:=hres k hk;rw [hq] at hr2;unfold Zqc;refine Za p1 (Za p2 ?_);rw [hg,Xf];exact Za p3 (Za hr2 rfl)
   | some l=>
    obtain ⟨u1,u2,u3,u4⟩:=Zk9 h (by omega) hq;refine ((pre.and (Zpj (m:=m) hf.f h.two (v:=v ||| Zci l) { hk0 with v:=u4 })).and (Zc.ge 200 fun k hk=>hk)).mono fun k ⟨⟨⟨⟨p1,p2⟩,p3⟩,e⟩,hk⟩=>?_
    have hr2:=hres k hk;rw [hq] at hr2;unfold Zqc;refine Za p1 (Za p2 ?_);rw [hg,Xf];refine Za p3 (Za hr2 ?_);show Ysa (Zrc k (Zb v)) _=_
    have hbl:Zrc k l=some ((Zci l:Nat):Int):=by
     have:=Zko (Zci l) u1 k (by omega);rw [← u2] at this;exact this
    refine Za (Zko v h.hv k (by omega)) (Za hbl ?_);have hv2:=h.hv;rw [ori v (Zci l) (by omega) (by omega)];exact Za (Z4x _ u4 k (by omega)) (Za e rfl)
  ·refine (pre.and (Zpj (m:=m) hf.f h.two (v:=0) { hk0 with v:=by omega })).mono fun k ⟨⟨⟨p1,p2⟩,p3⟩,e⟩=>?_
   rw [Zmq] at e;unfold Zqc;refine Za p1 (Za p2 ?_);rw [hg,Xf];exact Za p3 (Za e rfl)
  ·refine (pre.and (Zo9 h.toMS0)).mono fun k ⟨⟨⟨p1,p2⟩,p3⟩,e⟩=>?_
   unfold Zqc;refine Za p1 (Za p2 ?_);rw [hg,Xf];exact Za p3 (Za e rfl)
end
def Z4j (m:Zn) (c:Zmg):Zjl:=if Zaf m=true∧Zeg c=true then (if (Zf m.2).1=1000000 then Zhg 9 else match stM m with
 | some (ph,tr,nd,st,dn,dg,v,w)=>Zai m c ph tr nd st dn dg v w
 | none=>Zhg 1) else Zhg 1
def Zri (f:Zu) (n:Int) (s:Str):Zu:=match Zch f n with
 | some i=>(f.1,f.2.set i (n,s))
 | none=>(f.1,f.2++[(n,s)])
def Z6g (s:List Str) (l:List Zic):List Str:=l.foldl (fun s d=>s.set d.1.toNat d.2) s
def Zun (f:Zu):Zu:=(Z6g f.1 f.2,[])
def doA (f:Zu) (a:Bool×Int×Str):Zu:=if a.1=true then Zun f else Zri f a.2.1 a.2.2
def doF (f:Zu) (l:List (Bool×Int×Str)):Zu:=l.foldl doA f
def Zwr (n:Nat) (a:Bool×Int×Str):Prop:=a.1=false→(0≤a.2.1∧a.2.1<(n:Int))∧a.2.2.length≤96
structure FlashP (f:Zu):Prop where
 n:1≤f.1.length∧f.1.length≤40
 s:∀x∈f.1,x.length≤96
 d:∀x∈f.2,(0≤x.1∧x.1<(f.1.length:Int))∧x.2.length≤96
 u:(f.2.map fun x=>x.1).Nodup
theorem FlashP.len {f:Zu} (h:FlashP f):f.2.length≤f.1.length:=by
 have:=Zfv f.1.length (f.2.map fun x=>x.1.toNat) (by
  have hu:=h.u;unfold List.Nodup at hu ⊢;rw [Yp] at hu ⊢;refine hu.imp_of_mem fun {a b} ha hb q e=>q ?_
  have:=(h.d a ha).1;have:=(h.d b hb).1;omega) (fun x hx=>by
  obtain ⟨y,hy,rfl⟩:=Yf.1 hx;have:=(h.d y hy).1;omega)
 simpa using this
theorem FlashP.b {f:Zu} (h:FlashP f):Zgg f=true:=by
 unfold Zgg
 rw [Ya,Ya]
 refine ⟨Xa ⟨h.n.1,h.n.2,h.len⟩,Yx.2 fun x hx=>Xa (h.s x hx),Yx.2 fun i hi=>?_⟩
 have hi:=Yca.1 hi
 have hg:f.2.getD i (0,[])=f.2[i]:=by rw [Yd,Yk hi];rfl
 have hd:=h.d _ (Yi hi)
 unfold okD
 rw [hg,Ya,Ya,Ya]
 refine ⟨⟨⟨Xa hd.1.1,Xa (by omega)⟩,Xa hd.2⟩,?_⟩
 rw [Y2,Y5]
 intro x hx
 obtain ⟨j,hj,rfl⟩:=Ycb.1 hx
 have hu:=Yv.1 (Yp.1 h.u) j i (by omega) hi (by omega)
 simpa using hu
theorem FlashP.of {f:Zu} (h:Zgg f=true):FlashP f:=by
 obtain ⟨h1,h2,_⟩:=Zzq h
 unfold Zgg at h
 rw [Ya,Ya] at h
 have h3:=fun i hi=>Yx.1 h.2.2 i (Yca.2 hi)
 have h4:∀i (hi:i<f.2.length),((0≤f.2[i].1∧f.2[i].1<(f.1.length:Int))∧f.2[i].2.length≤96)∧∀j (hj:j<i),f.2[j].1≠f.2[i].1:=fun i hi=>by
  have hg:f.2.getD i (0,[])=f.2[i]:=by rw [Yd,Yk hi];rfl
  have h5:=h3 i hi;unfold okD at h5;rw [hg,Ya,Ya,Ya] at h5;obtain ⟨⟨⟨a,b⟩,c⟩,d⟩:=h5;have b:=of_decide_eq_true b;refine ⟨⟨⟨of_decide_eq_true a,by omega⟩,of_decide_eq_true c⟩,fun j hj=>?_⟩;rw [Y2,Y5] at d;have:=d f.2[j] (Ycb.2 ⟨j,by omega,rfl⟩);simpa using this
 refine ⟨⟨h1.1,h1.2.1⟩,h2,fun x hx=>?_,?_⟩
 ·obtain ⟨i,hi,rfl⟩:=Ybb.1 hx
  exact (h4 i hi).1
 ·refine Yp.2 (Yv.2 fun i j hi hj hij=>(h4 j hj).2 i hij)
theorem Z3u:∀(l:List Zic) (s:List Str),(Z6g s l).length=s.length
 | [],_=>rfl
 | d::l,s=>by
  show (Z6g (s.set d.1.toNat d.2) l).length=_;rw [Z3u l,Yna]
theorem Ziab:∀(l:List Zic) (s:List Str),(∀x∈s,x.length≤96)→(∀d∈l,d.2.length≤96)→∀x∈Z6g s l,x.length≤96
 | [],_,h,_=>h
 | d::l,s,h,hd=>by
  refine Ziab l _ (fun x hx=>?_) fun y hy=>hd y (Yl _ hy)
  rcases Yoa hx with q | q
  ·exact h x q
  ·rw [q];exact hd d Ye
theorem FlashP.sync {f:Zu} (h:FlashP f):FlashP (Zun f):=by
 refine ⟨?_,Ziab f.2 f.1 h.s fun d hd=>(h.d d hd).2,fun x hx=>(by cases hx),Ypa⟩
 show 1≤(Z6g f.1 f.2).length∧(Z6g f.1 f.2).length≤40
 rw [Z3u]
 exact h.n
theorem FlashP.write {f:Zu} (h:FlashP f) {n:Int} {s:Str} (hn:0≤n∧n<(f.1.length:Int)) (hs:s.length≤96):FlashP (Zri f n s):=by
 unfold Zri
 cases hd:Zch f n with
 | some i=>
  have hi:=Z8r hd;obtain ⟨_,_,h3,_⟩:=Zmj (show Zab (fun x:Zic=>x.1==n) f.2 0=some i from hd);have h3:f.2[i].1=n:=by simpa using h3
  have hm:(f.2.set i (n,s)).map (fun x=>x.1)=f.2.map fun x=>x.1:=by
   rw [List.map_set];refine Yr (by simp) fun j h1 h2=>?_
   rw [List.getElem_set];split
   ·rename_i q
    subst q;simp [h3]
   ·rfl
  refine ⟨h.n,h.s,fun x hx=>?_,?_⟩
  ·rcases Yoa hx with q | q
   ·exact h.d x q
   ·rw [q];exact ⟨hn,hs⟩
  ·show ((f.2.set i (n,s)).map fun x=>x.1).Nodup
   rw [hm];exact h.u
 | none=>
  have hno:=Zgo.1 (show Zab (fun x:Zic=>x.1==n) f.2 0=none from hd);refine ⟨h.n,h.s,fun x hx=>?_,?_⟩
  ·rcases Ys.1 hx with q | q
   ·exact h.d x q
   ·rw [Yj.1 q];exact ⟨hn,hs⟩
  ·show ((f.2++[(n,s)]).map fun x=>x.1).Nodup
   rw [Y6a];refine Ydb.2 ⟨h.u,by simp,fun a ha b hb=>?_⟩;obtain ⟨y,hy,rfl⟩:=Yf.1 ha;have:=hno y hy;simp only [Y7a,Y8a,Yj] at hb;subst hb;simpa using this
theorem Zupb (f:Zu) (n:Int) (s:Str):(Zri f n s).1=f.1:=by
 unfold Zri
 split <;> rfl
theorem Zr1 (f:Zu) (a:Bool×Int×Str):(doA f a).1.length=f.1.length:=by
 unfold doA
 split
 ·exact Z3u _ _
 ·rw [Zupb]
theorem FlashP.act {f:Zu} (h:FlashP f) {a:Bool×Int×Str} (ha:Zwr f.1.length a):FlashP (doA f a):=by
 unfold doA
 cases q:a.1 with
 | true=>exact h.sync
 | false=>exact h.write (ha q).1 (ha q).2
theorem FlashP.acts:∀(l:List (Bool×Int×Str)) {f:Zu},FlashP f→(∀a∈l,Zwr f.1.length a)→FlashP (doF f l)∧(doF f l).1.length=f.1.length
 | [],f,h,_=>⟨h,rfl⟩
 | a::l,f,h,ha=>by
  obtain ⟨h1,h2⟩:=FlashP.acts l (h.act (ha a Ye)) fun b hb=>by rw [Zr1];exact ha b (Yl _ hb)
  exact ⟨h1,by rw [← Zr1 f a];exact h2⟩
theorem Ze8 (f:Zu) {l:List (Bool×Int×Str)} {i:Nat} (h:i<l.length):doF f (l.take (i+1))=doA (doF f (l.take i)) l[i]:=by
 unfold doF
 rw [Yda h,Y8]
 rfl
theorem Zhab (s:List Str) {l:List Zic} {i:Nat} (h:i<l.length):Z6g s (l.take (i+1))=(Z6g s (l.take i)).set l[i].1.toNat l[i].2:=by
 unfold Z6g
 rw [Yda h,Y8]
 rfl
def Zoc (n:Nat) (l:List Z0b):Prop:=∀a∈l,Zwr n a
theorem Zxl (n:Nat):Zoc n []:=fun a ha=>by cases ha
theorem Zwl {n:Nat} {a b:List Z0b} (h1:Zoc n a) (h2:Zoc n b):Zoc n (a++b):=fun x hx=>(Ys.1 hx).elim (h1 x) (h2 x)
theorem Zhs (n:Nat):Zwr n Zp:=fun q=>by cases q
theorem Zgi (n:Nat):Zoc n [Zp]:=fun a ha=>by rw [Yj.1 ha];exact Zhs n
theorem Z7f {n:Nat} {a:Z0b} {l:List Z0b} (h1:Zwr n a) (h2:Zoc n l):Zoc n (a::l):=fun x hx=>(Yo.1 hx).elim (fun q=>q▸h1) (h2 x)
theorem Zjhb {n:Nat} {p:Int} {t:Str} (h:(0≤p∧p<(n:Int))∧t.length≤96):Zoc n [(false,(p,t))]:=Z7f (fun _=>h) (Zxl n)
theorem Zoc.take {n:Nat} {l:List Z0b} (h:Zoc n l) (i:Nat):Zoc n (l.take i):=fun a ha=>h a (List.mem_of_mem_take ha)
theorem Z7y {n:Int} (h0:0≤n) (h:n≤1000000):(Zl n).length≤3:=by
 unfold Zl
 rw [Zhh]
 refine Zzx 10 _ 3 ?_ (by omega)
 unfold zig
 rw [Xd (by omega)]
 omega
theorem Z0bb {t:Str} (h:t.length≤1000):(Z4 t).length≤3+t.length:=by
 unfold Z4
 rw [Yb]
 have:=Z7y (n:=(t.length:Int)) (by omega) (by omega)
 omega
theorem Zn3 {n:Int} {t:Str} (h0:0≤n) (h:n≤1000000) (ht:t.length≤80):(Z0e n t).length≤96:=by
 have h1:=Z7y h0 h
 have h2:=Z0bb (t:=t) (by omega)
 unfold Z0e
 rw [Z0v,Yb]
 omega
theorem Zz3 {n a:Int} {t:Str} (hn:0≤n∧n≤1000000) (ha:0≤a∧a≤1000000) (ht:t.length≤8):(Zcb n a t).length≤96:=by
 have h1:=Z7y hn.1 hn.2
 have h2:=Z7y ha.1 ha.2
 have h3:=Z0bb (t:=t) (by omega)
 unfold Zcb Zoe
 rw [Z0v,Yb,Yb]
 omega
theorem Zecb {n:Int} {x:Zk}:x.2.2.2.length≤8→(Zni n x).length≤96:=fun h=>by
 have l0:=Zpe n
 have l1:=Zpe x.1
 have l2:=Zpe x.2.1
 have l3:=Zpe x.2.2.1
 have l4:=Zhm x.2.2.2
 unfold Zni Zhl
 rw [Z0v]
 simp only [Yb]
 omega
section
variable {m:Zn} {ph tr nd st dn:Int} {dg:Str} {v w:Nat}
theorem Zvkb {f:Zu} {n:Nat} (h2:2≤n) {t:Str} (ht:t.length≤80):Zoc n (Zam f t):=by
 unfold Zam
 split
 ·rename_i hg
  have h0:=Z0s f;refine Z7f (fun _=>⟨?_,Zn3 (by omega) (by omega) ht⟩) (Zgi n);dsimp only;split <;> omega
 ·exact Zxl n
theorem Zji {f:Zu} {n:Nat} (h2:2≤n) {a b c d e:Int} {x:Str} {v w:Nat} (h:Keep a b c d e x v w):Zoc n (Zgb f a b c d e x v w):=Zvkb h2 h.len
theorem Zokb {n:Nat} (h2:2≤n) (hv:v<16777216):Zoc n (Zbn m v):=Zji h2 (Zek hv)
theorem Z6gb (hf:Fit m st w) (l:List Int) (hx:∀x∈l,0≤x∧x≤23):Zoc m.2.1.length (Zfg m l):=by
 have hb:=hf.b
 have hn:=hf.n
 intro a ha
 unfold Zfg at ha
 obtain ⟨x,q,rfl⟩:=Yf.1 ha
 have:=hx x (Yab.1 q).1
 exact fun _=>⟨by dsimp only;omega,by simp⟩
theorem Z8kb (hf:Fit m st w) (l:List Int) (hx:∀x∈l,0≤x∧x≤23):Zoc m.2.1.length (Z9q m l):=by
 unfold Z9q
 split
 ·exact Zxl _
 ·exact Zwl (Z6gb hf l hx) (Zgi _)
theorem Znlb (w:Nat):∀x∈Zb w,0≤x∧x≤23:=fun x hx=>by
 obtain ⟨j,hj,rfl⟩:=Ybb.1 hx
 exact Zrl hj
theorem Zwlb (s:Str) (n:Int) {k:Nat} (h:(Z4b s n).2.1<(k:Int)):Zwr k (Z4b s n):=fun q=>by
 refine ⟨⟨(Zbbb s n q).1,h⟩,?_⟩
 unfold Z4b at q ⊢
 split at q
 ·rename_i hq
  rw [Xc hq];split at q
  ·split at q
   ·rename_i q2
    rw [Xc q2];have:=(Zem.1 q2.2).2.2;dsimp only;omega
   ·cases q
  ·cases q
 ·cases q
theorem Z86 (h:MS0 m ph tr nd st dn dg v w):Zoc m.2.1.length (Z6j m ph tr nd st dn dg v w):=by
 have hf:=h.fit
 have hk0:=h.keep
 have h2:=h.two
 unfold Z6j
 by_cases c2:ph=2
 ·rw [Xc c2]
  exact Z8kb hf _ fun x hx=>Znlb w x (List.mem_of_mem_drop hx)
 ·rw [Xd c2]
  by_cases c3:ph=3
  ·rw [Xc c3]
   exact Zji h2 { hk0 with a:=by omega,b:=by omega }
  ·rw [Xd c3]
   by_cases c4:ph=4
   ·rw [Xc c4]
    by_cases ct:tr=0
    ·rw [Xc ct]
     exact Zji h2 (Zek h.hv)
    ·rw [Xd ct]
     have hbz:=(h.busy (by omega)).2.2.2.2.1;exact Zji h2 { hk0 with a:=by omega,b:=by omega }
   ·rw [Xd c4]
    by_cases c5:ph=5
    ·rw [Xc c5]
     obtain ⟨q1,q2,q3,q4,q5,q6,q7,q8⟩:=h.busy (by omega);split
     ·exact Zxl _
     ·rename_i q
      refine Zwl (Z7f (Zwlb _ _ (Int.not_le.1 fun z=>q (.inr z))) (Zgi _)) (Zji h2 { hk0 with a:=by omega,e:=by omega })
    ·rw [Xd c5]
     exact Zxl _
theorem Zyeb (h:MSt m ph tr nd st dn dg v w) {c:Zmg} (hc:CmdOk c):Zoc m.2.1.length (Zai m c ph tr nd st dn dg v w).1:=by
 have hf:=h.fit
 have hb:=hf.b
 have hn:=hf.n
 have h2:=h.two
 have hk0:=h.keep
 have hid:=Zokb (m:=m) h2 h.hv
 have nil:=Zxl m.2.1.length
 unfold Zai
 split
 ·rename_i c1
  obtain ⟨q1,q2,q3⟩:=hc.k1 c1;unfold Zlq;split
  ·split
   ·rename_i l hl
    obtain ⟨u,u1,u2,u3,u4,u5⟩:=Zp4 (Zks h.hv (by omega)) (by omega) hl;refine Zwl (Zwl (fun a ha=>?_) (Zgi _)) (Zji h2 { hk0 with a:=by omega,b:=by omega,c:=by omega,d:=by omega,e:=by omega,x:=q3,w:=by omega });unfold Zwh at ha;obtain ⟨x,q,rfl⟩:=Yf.1 ha;have:=u5 x q;exact fun _=>⟨by dsimp only;omega,by simp⟩
   ·exact nil
  ·exact nil
 ·split
  ·rename_i c2
   have hx:=hc.k2 c2;unfold Zpr;split
   ·rename_i p2
    split
    ·exact nil
    ·rename_i hne
     split
     ·obtain ⟨q1,q2,q3,q4,q5,q6,q7,q8⟩:=h.busy (by omega)
      have hll:=h.log;refine Z7f (fun _=>⟨?_,Zecb (Z7v hx)⟩) ?_
      ·have:=Zyw (w:=w) (n:=st+((Zh m st w).length:Int)) (by omega) (by omega)
       dsimp only;omega
      ·split
       ·exact Zgi _
       ·exact nil
     ·exact nil
   ·exact nil
  ·split
   ·unfold Zxq
    split
    ·split
     ·split
      ·split
       ·split
        ·exact hid
        ·exact Zwl (Zgi _) (Zji h2 { hk0 with a:=by omega })
       ·exact hid
      ·exact hid
     ·exact hid
    ·exact nil
   ·split
    ·split
     ·exact nil
     ·exact hid
    ·split
     ·split
      ·refine Zwl (Z7f (fun _=>⟨by dsimp only;omega,by simp⟩) (Zgi _)) (Zji h2 { hk0 with a:=by omega,b:=by omega })
      ·exact nil
     ·split
      ·unfold Z1h
       split
       ·rename_i p5
        split
        ·exact hid
        ·rename_i hne
         have hS:=h.snd (by omega);have hdn:=hS.dn;have hlt:dn<((Zg (Zh m st w)).length:Int):=by omega
         have hpl:=hS.plan;have hr:=Z38 hS hlt;have hl:=Z48 hS hlt
         have hr2:Z2g m st dn w<(m.2.1.length:Int):=by
          obtain ⟨_,z2,z3⟩:=Zdv hS hlt;unfold Z2g;rcases z3 with ⟨q,_,q1,q2⟩ | ⟨q,_⟩
          ·rw [Xc q];omega
          ·rw [Xd (by omega)];omega
         refine Zwl (Z7f (fun _=>⟨by dsimp only;omega,?_⟩) (Z7f (Zhs _) (Z7f (fun _=>⟨⟨hr.1,hr2⟩,hl⟩) (Zgi _)))) (Zji h2 { hk0 with e:=by omega });dsimp only;split
         ·exact Zz3 ⟨by omega,by omega⟩ ⟨by omega,by omega⟩ (by omega)
         ·simp
       ·exact nil
      ·split
       ·split
        ·exact nil
        ·exact nil
       ·split
        ·exact nil
        ·split
         ·rename_i c9
          obtain ⟨q1,q2⟩:=hc.k9 c9;unfold Zxu;split
          ·rename_i l hl
           obtain ⟨n,hn9⟩:∃n:Nat,c.2.1=(n:Int):=⟨c.2.1.toNat,by omega⟩;rw [hn9] at hl;obtain ⟨u1,u2,u3,u4⟩:=Zk9 h (by omega) hl;exact Zji h2 { hk0 with v:=u4 }
          ·exact nil
         ·split
          ·exact Zji h2 { hk0 with v:=by omega }
          ·exact Z86 h.toMS0
end
theorem Z65 (m:Zn) (c:Zmg):Zoc m.2.1.length (Z4j m c).1:=by
 unfold Z4j
 split
 ·rename_i hmc
  split
  ·exact Zxl _
  ·split
   ·rename_i ph tr nd st dn dg v w hs
    exact Zyeb (Zvy hs hmc.1) (Zo7 hmc.2)
   ·exact Zxl _
 ·exact Zxl _
def Zil (old fresh:Str) (n:Int):Str:=if n<1 then old else if n=1 then fresh else fresh.take (n-2).toNat
def Zei (s:List Str) (l:List Zic) (fs:List Int):Nat→List Str
 | 0=>s
 | i+1=>(Zei s l fs i).set (l.getD i (0,[])).1.toNat (Zil (s.getD (l.getD i (0,[])).1.toNat []) (l.getD i (0,[])).2 (fs.getD i 0))
def Z6f (f:Zu) (fs:List Int):Zu:=(Zei f.1 f.2 fs f.2.length,[])
theorem Zkpb {old fresh:Str} {n:Int} (h1:old.length≤96) (h2:fresh.length≤96):(Zil old fresh n).length≤96:=by
 unfold Zil
 split
 ·exact h1
 ·split
  ·exact h2
  ·rw [Y5a];omega
theorem Zk1 (s:List Str) (l:List Zic) (fs:List Int):∀i,(Zei s l fs i).length=s.length
 | 0=>rfl
 | i+1=>by
  unfold Zei;rw [Yna,Zk1 s l fs i]
theorem Zuu {l:List Zic} {i:Nat} (h:i<l.length):l.getD i (0,[])=l[i]:=by rw [Yd,Yk h];rfl
theorem Z3g {l:List Str} {i:Nat} (h:i<l.length):l.getD i []=l[i]:=by rw [Yd,Yk h];rfl
theorem Z07 {f:Zu} (h:FlashP f) (fs:List Int):∀i,i≤f.2.length→∀x∈Zei f.1 f.2 fs i,x.length≤96
 | 0,_=>h.s
 | i+1,hi=>fun x hx=>by
  unfold Zei at hx;rcases Yoa hx with q | q
  ·exact Z07 h fs i (by omega) x q
  ·have hd:=h.d _ (Yi (show i<f.2.length by omega))
   rw [q,Zuu (by omega)];refine Zkpb ?_ hd.2;rw [Z3g (by omega)];exact h.s _ (Yi _)
theorem FlashP.crash {f:Zu} (h:FlashP f) (fs:List Int):FlashP (Z6f f fs)∧(Z6f f fs).1.length=f.1.length:=by
 have hl:(Z6f f fs).1.length=f.1.length:=Zk1 _ _ _ _
 exact ⟨⟨by rw [hl];exact h.n,Z07 h fs _ (Yqa _),fun x hx=>(by cases hx),Ypa⟩,hl⟩
theorem Zz7 {f:Zu} (h:FlashP f) (fs:List Int) {j:Nat} (hj:j<f.2.length):∀i,i≤j→(Zei f.1 f.2 fs i).getD f.2[j].1.toNat []=f.1.getD f.2[j].1.toNat []
 | 0,_=>rfl
 | i+1,hi=>by
  have hd:=h.d _ (Yi hj);have hdi:=h.d _ (Yi (show i<f.2.length by omega));have hu:=Yv.1 (Yp.1 h.u) i j (by omega) hj (by omega);have ih:=Zz7 h fs hj i (by omega);unfold Zei;rw [Zuu (by omega),Yd,Y1a (by omega),← Yd,ih]
theorem Zy8 {α:Type} (p:α→Bool) (d:α):∀(l:List α) (n:Nat),(match Zab p l n with | some i=>some (l.getD (i-n) d) | none=>none)=l.find? p
 | [],n=>rfl
 | x::l,n=>by
  unfold Zab;cases h:p x with
  | true=>simp [h]
  | false=>
   have ih:=Zy8 p d l (n+1);rw [Yy (by simp [h]),← ih];rw [Xd Yea];cases h2:Zab p l (n+1) with
   | none=>rfl
   | some i=>
    have:=(Zmj h2).1;show some ((x::l).getD (i-n) d)=some (l.getD (i-(n+1)) d);rw [show i-n=(i-(n+1))+1 by omega];rfl
theorem Zyx (f:Zu) (n:Int):Zd f n=match f.2.find? (fun x=>x.1==n) with | some d=>d.2 | none=>f.1.getD n.toNat []:=by
 have h:=Zy8 (fun x:Zic=>x.1==n) (0,[]) f.2 0
 unfold Zd Zch
 rw [← h]
 cases Zab (fun x:Zic=>x.1==n) f.2 0 <;> rfl
theorem Zw8 {p:Zic→Bool} {y:Zic}:∀(l:List Zic) (i:Nat) (h:i<l.length),p l[i]=false→p y=false→(l.set i y).find? p=l.find? p
 | x::l,0,_,h1,h2=>by
  have h1:p x=false:=h1;rw [Yfb,Yy (by simp [h2]),Yy (by simp [h1])]
 | x::l,i+1,h,h1,h2=>by
  rw [Yeb,Yza,Yza,Zw8 l i (by simpa using h) (by simpa using h1) h2]
theorem Zv8 {p:Zic→Bool} {y:Zic}:∀(l:List Zic) (i:Nat) (h:i<l.length),(∀j,(hj:j<i)→p (l[j]'(by omega))=false)→p y=true→(l.set i y).find? p=some y
 | x::l,0,_,_,h2=>by rw [Yfb,Yka h2]
 | x::l,i+1,h,h1,h2=>by
  have h0:p x=false:=h1 0 (by omega);rw [Yeb,Yy (by simp [h0]),Zv8 l i (by simpa using h) (fun j hj=>by have:=h1 (j+1) (by omega);simpa using this) h2]
theorem Zvhb {f:Zu} {n:Int} {s:Str} (k:Int):Zd (Zri f n s) k=if k=n then s else Zd f k:=by
 rw [Zyx,Zyx]
 unfold Zri
 cases hd:Zch f n with
 | some i=>
  have hi:=Z8r hd;obtain ⟨_,h2,h3,h4⟩:=Zmj (show Zab (fun x:Zic=>x.1==n) f.2 0=some i from hd);have h3:f.2[i].1=n:=by simpa using h3
  by_cases c:k=n
  ·rw [Xc c,Zv8 (p:=fun x=>x.1==k) f.2 i hi (fun j hj=>by have:=h4 j (by omega);rw [c];simpa using this) (by simp [c])]
  ·rw [Xd c,Zw8 (p:=fun x=>x.1==k) f.2 i hi (by rw [h3];simpa using Ne.symm c) (by simpa using Ne.symm c)]
 | none=>
  have hno:=Zgo.1 (show Zab (fun x:Zic=>x.1==n) f.2 0=none from hd);show (match (f.2++[(n,s)]).find? (fun x=>x.1==k) with | some d=>d.2 | none=>f.1.getD k.toNat [])=_;rw [List.find?_append]
  by_cases c:k=n
  ·have:f.2.find? (fun x=>x.1==k)=none:=Yn.2 fun x hx=>by rw [c];simpa using hno x hx
   rw [Xc c,this];simp [c]
  ·rw [Xd c]
   have:([(n,s)]:List Zic).find? (fun x=>x.1==k)=none:=by
    rw [Yn];intro x hx;rw [Yj.1 hx];simpa using Ne.symm c
   rw [this,Option.or_none]
theorem Zgab:∀(l:List Zic) (s:List Str) (k:Int),(l.map fun x=>x.1).Nodup→(∀x∈l,0≤x.1∧x.1<(s.length:Int))→0≤k→(Z6g s l).getD k.toNat []=match l.find? (fun x=>x.1==k) with | some d=>d.2 | none=>s.getD k.toNat []
 | [],s,k,_,_,_=>rfl
 | d::l,s,k,hu,hr,h0=>by
  have hu2:=Yu.1 hu;have hd:=hr d Ye;have ih:=Zgab l (s.set d.1.toNat d.2) k hu2.2 (fun x hx=>by rw [Yna];exact hr x (Yl _ hx)) h0;show (Z6g (s.set d.1.toNat d.2) l).getD k.toNat []=_;rw [ih]
  by_cases c:d.1=k
  ·have:l.find? (fun x=>x.1==k)=none:=Yn.2 fun x hx=>by
    have:x.1≠d.1:=fun q=>hu2.1 (Yf.2 ⟨x,hx,q⟩)
    rw [← c];simpa using this
   rw [this,Yka (by simpa using c),← c];show (s.set d.1.toNat d.2).getD d.1.toNat []=d.2;rw [Yd,List.getElem?_set_self (by omega)];rfl
  ·rw [Yy (by simpa using c)]
   cases l.find? (fun x=>x.1==k) with
   | some y=>rfl
   | none=>
    show (s.set d.1.toNat d.2).getD k.toNat []=s.getD k.toNat [];rw [Yd,Y1a (by omega),Yd]
theorem Zuhb {f:Zu} (h:FlashP f) {k:Int} (h0:0≤k):Zd (Zun f) k=Zd f k:=by
 rw [Zyx f,Zyx]
 exact Zgab f.2 f.1 k h.u (fun x hx=>(h.d x hx).1) h0
def Zdd (g:Int→Str) (a:Z0b):Int→Str:=fun k=>if a.1=false∧k=a.2.1 then a.2.2 else g k
theorem Zthb {f:Zu} (h:FlashP f) (a:Z0b) {k:Int} (h0:0≤k):Zd (doA f a) k=Zdd (Zd f) a k:=by
 unfold doA Zdd
 cases q:a.1 with
 | true=>rw [Xc rfl,Xd (fun z=>by cases z.1),Zuhb h h0]
 | false=>
  rw [Xd Yea,Zvhb]
  by_cases c:k=a.2.1
  ·rw [Xc c,Xc ⟨rfl,c⟩]
  ·rw [Xd c,Xd (fun z=>c z.2)]
def Zde (g:Int→Str) (l:List Z0b):Int→Str:=l.foldl Zdd g
theorem Zppb {g g':Int→Str} {k:Int} (h:g k=g' k) (a:Z0b):Zdd g a k=Zdd g' a k:=by unfold Zdd;rw [h]
theorem Zieb:∀(l:List Z0b) {g g':Int→Str} {k:Int},g k=g' k→Zde g l k=Zde g' l k
 | [],_,_,_,h=>h
 | a::l,g,g',k,h=>Zieb l (Zppb h a)
theorem Zls:∀(l:List Z0b) {f:Zu},FlashP f→Zoc f.1.length l→∀{k:Int},0≤k→Zd (doF f l) k=Zde (Zd f) l k
 | [],f,_,_,k,_=>rfl
 | a::l,f,h,hl,k,h0=>by
  have h1:=Zls l (h.act (hl a Ye)) (fun b hb=>by rw [Zr1];exact hl b (Yl _ hb)) h0;show Zd (doF (doA f a) l) k=Zde (Zdd (Zd f) a) l k;rw [h1];exact Zieb l (Zthb h a h0)
theorem Zheb (g:Int→Str) (a b:List Z0b):Zde g (a++b)=Zde (Zde g a) b:=Y8
theorem Zag (g:Int→Str) (a:Z0b) (l:List Z0b):Zde g (a::l)=Zde (Zdd g a) l:=rfl
theorem Zbq:∀(l:List Z0b) {g:Int→Str} {k:Int},(∀a∈l,a.1=false→a.2.1≠k)→Zde g l k=g k
 | [],_,_,_=>rfl
 | a::l,g,k,h=>by
  rw [Zag,Zbq l fun b hb=>h b (Yl _ hb)];unfold Zdd;rw [Xd fun z=>h a Ye z.1 z.2.symm]
theorem Zum (g:Int→Str):Zdd g Zp=g:=by
 funext k
 unfold Zdd
 rw [Xd fun z=>by cases z.1]
theorem Zugb (f:Zu) (a b:List Z0b):doF f (a++b)=doF (doF f a) b:=Y8
theorem Zfu (f:Zu) (l:List Z0b):(doF f (l++[Zp])).2=[]:=by
 rw [Zugb]
 rfl
theorem Zrq {f:Zu} (h:f.2=[]) (fs:List Int):Z6f f fs=f:=by
 unfold Z6f
 rw [h]
 exact Prod.ext rfl h.symm
theorem Zdmb {n:Int} {t:Str} (hn:Num n) (ht:t.length≤8000):Zgm (Zl n++Z4 t)=some (n,t,(Zl n++Z4 t).length):=by
 generalize hs:Zl n++Z4 t=s
 have d0:s.drop 0=Zl n++Z4 t:=by rw [← hs];rfl
 have e1:=Zjo n hn s 0 _ d0
 rw [Yw] at e1
 have d1:s.drop (Zl n).length=Z4 t++[]:=by rw [← hs,Yq,Y6]
 have e2:=Zqt t ht s _ [] d1
 have hl:s.length=(Zl n).length+(Z4 t).length:=by rw [← hs,Yb]
 unfold Zgm
 rw [e1]
 dsimp only
 rw [Yc,e2,Xc rfl,Xc rfl]
 dsimp only
 rw [Yc,hl]
theorem Zllb {n:Int} {t:Str} (h1:1≤n) (h2:n≤1000000) (ht:t.length≤80):Z6 (Z0e n t)=(n,t,0):=by
 unfold Z6 Z0e
 rw [Zs5,Z3w,Xc rfl,Zdmb ⟨by omega,by omega⟩ (by omega)]
 dsimp only
 rw [Xc ⟨rfl,by unfold Ztj;rw [Xa h1,Xa h2,Xa ht];rfl⟩]
theorem Zds {s x t:Str} {i:Nat} (h:s.drop i=x++t):s.drop (i+x.length)=t:=by rw [← Yxa,h,Yq]
theorem Zzob {r:Int×Int×Int×Int×Int×Int×Int×Str} (h1:Num r.1) (h2:Num r.2.1) (h3:Num r.2.2.1) (h4:Num r.2.2.2.1) (h5:Num r.2.2.2.2.1) (h6:Num r.2.2.2.2.2.1) (h7:Num r.2.2.2.2.2.2.1) (h8:r.2.2.2.2.2.2.2.length≤8000):stZ (Z6e r)=some (r,(Z6e r).length):=by
 obtain ⟨a,b,c,d,e,f,g,t⟩:=r
 dsimp only at h1 h2 h3 h4 h5 h6 h7 h8
 generalize hs:Z6e (a,b,c,d,e,f,g,t)=s
 have d0:s.drop 0=Zl a++(Zl b++(Zl c++(Zl d++(Zl e++(Zl f++(Zl g++(Z4 t++[]))))))):=by
  rw [← hs];unfold Z6e;simp only [Ym,Y6];rfl
 have n1:=Zal h1 d0
 rw [Yw] at n1
 have d1:s.drop (Zl a).length=Zl b++(Zl c++(Zl d++(Zl e++(Zl f++(Zl g++(Z4 t++[])))))):=by
  rw [Yia] at d0;rw [d0,Yq]
 have n2:=Zal h2 d1
 have d2:=Zds d1
 have n3:=Zal h3 d2
 have d3:=Zds d2
 have n4:=Zal h4 d3
 have d4:=Zds d3
 have n5:=Zal h5 d4
 have d5:=Zds d4
 have n6:=Zal h6 d5
 have d6:=Zds d5
 have n7:=Zal h7 d6
 have d7:=Zds d6
 have n8:=Z7db h8 d7
 have hl:=congrArg Yla d0
 simp only [Yma,Yb,Yh] at hl
 unfold stZ
 simp only [n1,n2,n3,n4,n5,n6,n7,n8,Yta,Option.map_some]
 congr 2
 omega
theorem Zxdb {a b c d e:Int} {x:Str} {v w:Nat} (h:Keep a b c d e x v w) (hb:Zre a b c d e x v w=true):Z7p (Z6e (a,b,c,d,e,(v:Int),(w:Int),x))=some (a,b,c,d,e,x,v,w):=by
 have hx:=h.x
 have hv:=h.v
 have hw:=h.w
 unfold Z7p
 rw [Zzob (Zfm h.a) (Zfm h.b) (Zfm h.c) (Zfm h.d) (Zfm h.e) (Z5s h.v) (Z5s h.w) (by show x.length≤8000;omega)]
 dsimp only
 rw [Yc,Yc,Xc ⟨rfl,⟨by omega,by omega⟩,⟨by omega,by omega⟩,hb⟩]
theorem Zumb {n:Int} {x:Zk} (h1:0≤n∧n≤1000000) (hx:Zxc x.1 x.2.1 x.2.2.1 x.2.2.2 8=true):Zjg (Zni n x) n=(x.1,x.2.1,x.2.2.1,x.2.2.2,0):=by
 obtain ⟨q1,q2,q3⟩:=Zdbb hx
 have hd:=Z7v hx
 have n1:=Zal (s:=Zl n++Zhl x) (a:=0) (n:=n) ⟨by omega,by omega⟩ (t:=Zhl x) (by rw [Yia])
 unfold Zjg Zni
 rw [Zs5,Z3w,Xc rfl,n1]
 dsimp only
 rw [Yw,Yq]
 have hs:Zgj (Zhl x)=some (x.1,x.2.1,x.2.2.1,x.2.2.2):=by
  unfold Zgj Zhl;rw [Z1bb x.1 x.2.1 x.2.2.1 x.2.2.2 q1 q2 q3 (by omega)];dsimp only;rw [Xc ⟨rfl,hx⟩]
 rw [hs]
 dsimp only
 rw [Xc h1,Xc rfl]
theorem Zvmb (i:Int):(Zjg [] i).2.2.2.2≠0:=by
 unfold Zjg
 have h:(Zcd []).2=4:=rfl
 rw [h,Xd (by omega)]
 show (4:Int)≠0
 omega
theorem Zhdb:∀(L:List Zk) (i:Nat) (l:List Str),(∀x∈L,Zxc x.1 x.2.1 x.2.2.1 x.2.2.2 8=true)→i+L.length≤1000→L.length≤l.length→(∀j,(h:j<L.length)→l.getD j []=Zni ((i+j:Nat):Int) L[j])→(∀h:L.length<l.length,l.getD L.length []=[])→Zbj l i=L
 | [],i,[],_,_,_,_,_=>rfl
 | [],i,s::l,_,_,_,_,h=>by
  have h:s=[]:=h (by simp);unfold Zbj;rw [h,Xd (Zvmb _)]
 | x::L,i,[],_,_,h,_,_=>by simp at h
 | x::L,i,s::l,hx,hi,hl,hr,hn=>by
  have h0:s=Zni (((i+0:Nat)):Int) x:=hr 0 (by simp);rw [Nat.add_zero] at h0;simp only [Yg] at hi hl;have hb:=Zumb (n:=(i:Int)) (x:=x) ⟨by omega,by omega⟩ (hx x Ye);unfold Zbj
  rw [h0,hb,Xc rfl,Zhdb L (i+1) l (fun y hy=>hx y (Yl _ hy)) (by omega) (by omega) (fun j hj=>by
   have:=hr (j+1) (by simp;omega);rw [show i+1+j=i+(j+1) by omega];exact this) (fun h=>hn (by simp;omega))]
def toF (f:Zu):Int:=if (Zf f).2.2.2=0 then 1 else 0
theorem Zaw (f:Zu):toF f=0∨toF f=1:=by unfold toF;split <;> simp
theorem Zv2 {f f':Zu} {t:Str} (hg:(Zf f).1<1000000) (ht:t.length≤80) (h1:Zd f' (toF f)=Z0e ((Zf f).1+1) t) (h2:Zd f' (1-toF f)=Zd f (1-toF f)):Zf f'=((Zf f).1+1,t,0,toF f):=by
 have h0:=Z0s f
 have hb:=Zllb (n:=(Zf f).1+1) (t:=t) (by omega) (by omega) ht
 rw [← h1] at hb
 clear h1
 unfold toF at *
 by_cases c1:(Z6 (Zd f 0)).2.2=0∧((Z6 (Zd f 1)).2.2≠0∨(Z6 (Zd f 1)).1≤(Z6 (Zd f 0)).1)
 ·have e:Zf f=((Z6 (Zd f 0)).1,(Z6 (Zd f 0)).2.1,(Z6 (Zd f 0)).2.2,0):=by unfold Zf;rw [Xc c1]
  rw [e] at hb h2 ⊢;dsimp only at hb h2 ⊢;rw [Xc rfl] at hb h2 ⊢;have h2:Zd f' 0=Zd f 0:=h2;unfold Zf;rw [hb,h2,Xd (fun q=>by have:=q.2;dsimp only at this;omega),Xc rfl]
 ·by_cases c2:(Z6 (Zd f 1)).2.2=0
  ·have e:Zf f=((Z6 (Zd f 1)).1,(Z6 (Zd f 1)).2.1,(Z6 (Zd f 1)).2.2,1):=by unfold Zf;rw [Xd c1,Xc c2]
   rw [e] at hb h2 ⊢;dsimp only at hb h2 ⊢;rw [Xd (by omega)] at hb h2 ⊢;have h2:Zd f' 1=Zd f 1:=h2;unfold Zf;rw [hb,h2,Xc ⟨rfl,.inr (by dsimp only;omega)⟩]
  ·have e:Zf f=(0,[],6,-1):=by unfold Zf;rw [Xd c1,Xd c2]
   rw [e] at hb h2 ⊢;dsimp only at hb h2 ⊢;rw [Xd (by omega)] at hb h2 ⊢;have h2:Zd f' 1=Zd f 1:=h2;unfold Zf;rw [hb,h2,Xc ⟨rfl,.inl c2⟩]
structure Dev (m:Zn) (a:List Str) (ph tr nd st dn:Int) (dg:Str) (v w:Nat):Prop where
 b:m.1=(a.length:Int)
 img:Zvb a=true
 fp:FlashP m.2
 n:(m.2.1.length:Int)=m.1+27
 ok:(Zf m.2).2.2.1=0
 txt:(Zf m.2).2.1=Z6e (ph,tr,nd,st,dn,(v:Int),(w:Int),dg)
 kp:Keep ph tr nd st dn dg v w
 sb:Zre ph tr nd st dn dg v w=true
 base:∀i:Nat,i<a.length→Zd m.2 (3+(i:Int))=a.getD i []
section
variable {m:Zn} {a:List Str} {ph tr nd st dn:Int} {dg:Str} {v w:Nat}
theorem Dev.state (h:Dev m a ph tr nd st dn dg v w):stM m=some (ph,tr,nd,st,dn,dg,v,w):=by
 obtain ⟨i1,i2,_⟩:=Zig h.img
 have hb:=h.b
 unfold stM
 rw [Xc ⟨⟨by omega,by omega⟩,h.fp.b,h.n⟩,Xc h.ok,h.txt,Zxdb h.kp h.sb]
theorem Dev.blocks (h:Dev m a ph tr nd st dn dg v w):Ztd m=a:=by
 have hb:=h.b
 unfold Ztd
 refine Yr (by simp;omega) fun i h1 h2=>?_
 rw [Y9,Y3a,h.base i h2,Z3g h2]
theorem Dev.right (h:Dev m a ph tr nd st dn dg v w) (hs:3≤ph→Zel m st dn w=true):Zaf m=true:=by
 unfold Zaf
 rw [h.state]
 dsimp only
 rw [h.blocks,h.img,Bool.true_and]
 by_cases c:ph≤2
 ·rw [Xa c]
  rfl
 ·rw [hs (by omega),Bool.or_true]
theorem Dev.acts (h:Dev m a ph tr nd st dn dg v w) (hs:3≤ph→Zel m st dn w=true) {c:Zmg} (hc:Zeg c=true) (hg:(Zf m.2).1<1000000):Z4j m c=Zai m c ph tr nd st dn dg v w:=by
 unfold Z4j
 rw [Xc ⟨h.right hs,hc⟩,Xd (by omega),h.state]
theorem Dev.ms0 (h:Dev m a ph tr nd st dn dg v w):MS0 m ph tr nd st dn dg v w:=Z1s h.state
theorem Zgn {f:Zu} (hg:(Zf f).1<1000000) (a b c d e:Int) (x:Str) (v w:Nat):Zgb f a b c d e x v w=[(false,(toF f,Z0e ((Zf f).1+1) (Z6e (a,b,c,d,e,(v:Int),(w:Int),x)))),Zp]:=by
 unfold Zgb Zam
 rw [Xc hg]
 rfl
theorem Dev.keep (h:Dev m a ph tr nd st dn dg v w) {pre:List Z0b} (hp:Zoc m.2.1.length pre) (hno:∀x∈pre,x.1=false→2≤x.2.1) (hg:(Zf m.2).1<1000000) {a':List Str} (hl:a'.length=a.length) (hi:Zvb a'=true) (hb:∀i:Nat,i<a'.length→Zde (Zd m.2) pre (3+(i:Int))=a'.getD i []) {ph' tr' nd' st' dn':Int} {dg':Str} {v' w':Nat} (K:Keep ph' tr' nd' st' dn' dg' v' w') (S:Zre ph' tr' nd' st' dn' dg' v' w'=true):
  Dev (m.1,doF m.2 (pre++Zgb m.2 ph' tr' nd' st' dn' dg' v' w')) a' ph' tr' nd' st' dn' dg' v' w'∧(Zf (doF m.2 (pre++Zgb m.2 ph' tr' nd' st' dn' dg' v' w'))).1=(Zf m.2).1+1∧(doF m.2 (pre++Zgb m.2 ph' tr' nd' st' dn' dg' v' w')).2=[]∧∀k:Int,2≤k→Zd (doF m.2 (pre++Zgb m.2 ph' tr' nd' st' dn' dg' v' w')) k=Zde (Zd m.2) pre k:=by
 have hn:=h.n
 have hmb:=h.b
 obtain ⟨i1,i2,_⟩:=Zig h.img
 have hto:=Zaw m.2
 have hfit:Zoc m.2.1.length (pre++Zgb m.2 ph' tr' nd' st' dn' dg' v' w'):=Zwl hp (Zji (by omega) K)
 obtain ⟨hF,hlen⟩:=h.fp.acts _ hfit
 have hget:∀k:Int,0≤k→Zd (doF m.2 (pre++Zgb m.2 ph' tr' nd' st' dn' dg' v' w')) k=if k=toF m.2 then Z0e ((Zf m.2).1+1) (Z6e (ph',tr',nd',st',dn',(v':Int),(w':Int),dg')) else Zde (Zd m.2) pre k:=fun k hk=>by
  rw [Zls _ h.fp hfit hk,Zheb,Zgn hg,Zag,Zag,Zum];show Zdd (Zde (Zd m.2) pre) (false,(toF m.2,_)) k=_;unfold Zdd
  by_cases c:k=toF m.2
  ·rw [Xc ⟨rfl,c⟩,Xc c]
  ·rw [Xd (fun z=>c z.2),Xd c]
 have hk2:∀k:Int,2≤k→Zd (doF m.2 (pre++Zgb m.2 ph' tr' nd' st' dn' dg' v' w')) k=Zde (Zd m.2) pre k:=fun k hk=>by rw [hget k (by omega),Xd (by omega)]
 have hM:=Zv2 (f:=m.2) (f':=doF m.2 (pre++Zgb m.2 ph' tr' nd' st' dn' dg' v' w')) hg K.len (by rw [hget _ (by omega),Xc rfl]) (by
  rw [hget _ (by omega),Xd (by omega)];exact Zbq pre fun x hx q=>by have:=hno x hx q;omega)
 refine ⟨⟨?_,hi,hF,?_,?_,?_,K,S,fun i hi=>?_⟩,?_,?_,hk2⟩
 ·show m.1=_
  rw [hl];exact hmb
 ·show ((doF m.2 _).1.length:Int)=m.1+27
  rw [hlen];exact hn
 ·show (Zf (doF m.2 _)).2.2.1=0
  rw [hM]
 ·show (Zf (doF m.2 _)).2.1=_
  rw [hM]
 ·rw [← hb i hi]
  exact hk2 _ (by omega)
 ·rw [hM]
 ·rw [Zgn hg,show ∀x:Z0b,pre++[x,Zp]=(pre++[x])++[Zp] from fun x=>by simp]
  exact Zfu _ _
structure LogAt (m:Zn) (st:Int) (w:Nat) (L:List Zk):Prop where
 ok:∀x∈L,Zxc x.1 x.2.1 x.2.2.1 x.2.2.2 8=true
 le:st.toNat+L.length≤(Zb w).length
 at':∀j,(h:j<L.length)→Zd m.2 (3+m.1+(Zb w).getD (st.toNat+j) 0)=Zni ((j:Nat):Int) L[j]
 nil:∀j,L.length≤j→st.toNat+j<(Zb w).length→Zd m.2 (3+m.1+(Zb w).getD (st.toNat+j) 0)=[]
theorem Zm6 {j:Nat} (h:st.toNat+j<(Zb w).length):(Zbi m st w).getD j []=Zd m.2 (3+m.1+(Zb w).getD (st.toNat+j) 0):=by
 unfold Zbi
 have hj:j<(((Zb w).drop st.toNat).map fun x=>Zd m.2 (3+m.1+x)).length:=by simp;omega
 rw [Z3g hj,Y9,List.getElem_drop,Yd,Yk h]
 rfl
theorem LogAt.log {L:List Zk} (h:LogAt m st w L):Zh m st w=L:=by
 have hle:=h.le
 have hal:(Zbi m st w).length=(Zb w).length-st.toNat:=by unfold Zbi;simp
 have hw:=Zbh w
 unfold Zh
 refine Zhdb L 0 _ h.ok (by omega) (by omega) (fun j hj=>?_) (fun hl=>?_)
 ·rw [Zm6 (by omega),h.at' j hj,Yw]
 ·rw [Zm6 (by omega),h.nil _ (Yqa _) (by omega)]
theorem Zo3 {i j:Nat} (hi:i<(Zb w).length) (hj:j<(Zb w).length) (h:(Zb w).getD i 0=(Zb w).getD j 0):i=j:=by
 have hs:(Zb w).Pairwise (· < ·):=by
  unfold Zb;exact Yp.2 ((Z1r w 24).imp fun h=>by omega)
 have hg:∀i,(q:i<(Zb w).length)→(Zb w).getD i 0=(Zb w)[i]:=fun i q=>by rw [Yd,Yk q];rfl
 rw [hg i hi,hg j hj] at h
 have hp:=Yv.1 hs
 rcases Yra i j with q | q | q
 ·have:=hp i j hi hj q;omega
 ·exact q
 ·have:=hp j i hj hi q;omega
theorem Zjn {i:Nat} (hi:i<(Zb w).length):0≤(Zb w).getD i 0∧(Zb w).getD i 0≤23:=by
 rw [Yd,Yk hi]
 exact Zrl hi
theorem LogAt.move {L:List Zk} {m':Zn} (h:LogAt m st w L) (h0:0≤st) (h1:m'.1=m.1) (h2:∀i,st.toNat≤i→i<(Zb w).length→Zd m'.2 (3+m.1+(Zb w).getD i 0)=Zd m.2 (3+m.1+(Zb w).getD i 0)):LogAt m' st w L:=by
 have hle:=h.le
 refine ⟨h.ok,h.le,fun j hj=>?_,fun j hj hl=>?_⟩
 ·rw [h1,h2 _ (by omega) (by omega)]
  exact h.at' j hj
 ·rw [h1,h2 _ (by omega) hl]
  exact h.nil j hj hl
end
abbrev DoT:=Zn×Str×List Int×Int
def noM:Zn:=(0,([],[]))
def doR (m:Zn) (c:Zmg):DoT:=if Zaf m=true∧Zeg c=true then ((m.1,doF m.2 (Z4j m c).1),(Z4j m c).2) else (noM,([],([],1)))
def Zpd (m:Zn):Zn×Int:=match stM m with
 | some (ph,tr,nd,st,dn,dg,v,w)=>((m.1,doF m.2 (Z6j m ph tr nd st dn dg v w)),0)
 | none=>(noM,1)
def Zao (m:Zn) (l:List Z0b) (n:Int) (fs:List Int):Zn:=(m.1,Z6f (doF m.2 (l.take n.toNat)) fs)
def Zuq (m:Zn) (c:Zmg) (n:Int) (fs:List Int):Zn×Int:=if 400<fs.length then (noM,2) else if (Zaf m=true∧Zeg c=true)∧0≤n then (Zao m (Z4j m c).1 n fs,0) else (noM,1)
def Zvm:Zk:=(0,(0,(0,[])))
theorem Zw5 {k:Int} {s:Str}:∀(l:List Z0b) (g:Int→Str),(g k=s∨∃a∈l,a.1=false∧a.2.1=k)→(∀a∈l,a.1=false→a.2.1=k→a.2.2=s)→Zde g l k=s
 | [],g,h,_=>by
  rcases h with h | ⟨a,ha,_⟩
  ·exact h
  ·cases ha
 | a::l,g,h,hs=>by
  rw [Zag];refine Zw5 l _ ?_ fun b hb=>hs b (Yl _ hb)
  by_cases c:a.1=false∧k=a.2.1
  ·left
   unfold Zdd;rw [Xc c];exact hs a Ye c.1 c.2.symm
  ·rcases h with h | ⟨b,hb,h1,h2⟩
   ·left
    unfold Zdd;rw [Xd c];exact h
   ·rcases Yo.1 hb with rfl | hb
    ·exact absurd ⟨h1,h2.symm⟩ c
    ·exact .inr ⟨b,hb,h1,h2⟩
section
variable {m:Zn} {a:List Str} {ph tr nd st dn:Int} {dg:Str} {v w:Nat}
theorem Dev.does (h:Dev m a ph tr nd st dn dg v w) (hs:3≤ph→Zel m st dn w=true) {c:Zmg} (hc:Zeg c=true) (hg:(Zf m.2).1<1000000):doR m c=((m.1,doF m.2 (Zai m c ph tr nd st dn dg v w).1),(Zai m c ph tr nd st dn dg v w).2):=by
 unfold doR
 rw [Xc ⟨h.right hs,hc⟩,h.acts hs hc hg]
theorem Zcx {n:Int} (h:3≤n∧n≤11) (h7:n≠7) (h9:n≠9):Zeg (n,(0,(0,([],Zvm))))=true:=by
 unfold Zeg
 dsimp only
 rw [Xd (by omega),Xd (by omega),Xd h9,Xd h7,Xa (by omega:1≤n),Xa h.2]
 rfl
theorem Dev.begin (h:Dev m a 1 0 0 0 0 [] 0 0) {A B:Int} (hA:1≤A∧A≤20) (hB:0≤B∧B≤4) (hd:dg.length=32) (hg:(Zf m.2).1<1000000):
  ∃m' w',doR m (1,(A,(B,(dg,Zvm))))=(m',([],([],0)))∧Dev m' a 2 0 A B 0 dg 0 w'∧LogAt m' B w' []∧(Zf m'.2).1=(Zf m.2).1+1:=by
 have hmb:=h.b
 have hn:=h.n
 have hc:Zeg (1,(A,(B,(dg,Zvm))))=true:=by
  unfold Zeg;dsimp only;rw [Xc rfl,Xa hA.1,Xa hA.2,Xa hB.1,Xa hB.2,Xa (by omega:(dg.length:Int)=32)];rfl
 have hlen:(Zb (Zuc 0 0)).length=24:=by
  have:=Zj1 (v:=0) (w:=0) rfl;rw [Zmq] at this;simpa using this
 obtain ⟨l,hl⟩:∃l,Zoi (Zuc 0 0) (A+B)=some l:=by
  unfold Zoi;rw [Xd (by omega)];cases Zab (fun (e:Zbg)=>decide (A+B≤e.2)) (Zlc (Zb (Zuc 0 0))) 0 <;> exact ⟨_,rfl⟩
 obtain ⟨u,u1,u2,u3,u4,u5⟩:=Zp4 (Zks (by omega) (by omega)) (by omega) hl
 have hll:=(Zo4 (Zks (by omega) (by omega)) (by omega) hl).2
 have hac:Zai m (1,(A,(B,(dg,Zvm)))) 1 0 0 0 0 [] 0 0=Zoh ((Zwh m l++[Zp])++Zgb m.2 2 0 A B 0 dg 0 u):=by
  show Zlq m 1 0 A B dg=_;unfold Zlq;rw [Xc rfl,hl];dsimp only;rw [u3]
 have hfit:Zoc m.2.1.length (Zwh m l++[Zp]):=Zwl (fun x hx=>by
  unfold Zwh at hx;obtain ⟨y,q,rfl⟩:=Yf.1 hx;have:=u5 y q;exact fun _=>⟨by dsimp only;omega,by simp⟩) (Zgi _)
 have hpos:∀x∈Zwh m l++[Zp],x.1=false→∃y∈l,x=(false,(3+m.1+y,[])):=fun x hx q=>by
  rcases Ys.1 hx with z | z
  ·unfold Zwh at z
   obtain ⟨y,q2,rfl⟩:=Yf.1 z;exact ⟨y,q2,rfl⟩
  ·rw [Yj.1 z] at q
   cases q
 obtain ⟨k1,k2,k3,k4⟩:=h.keep (pre:=Zwh m l++[Zp]) hfit (fun x hx q=>by
  obtain ⟨y,hy,rfl⟩:=hpos x hx q;have:=u5 y hy;dsimp only;omega) hg rfl h.img (fun i hi=>by
  rw [← h.base i hi];refine Zbq _ fun x hx q=>?_
  obtain ⟨y,hy,rfl⟩:=hpos x hx q;have:=u5 y hy;dsimp only;omega) (ph':=2) (tr':=0) (nd':=A) (st':=B) (dn':=0) (dg':=dg) (v':=0) (w':=u) ⟨by omega,by omega,by omega,by omega,by omega,by omega,by omega,u1⟩ (by
  rw [u2] at hll;unfold Zre;rw [Xd (by omega),Nat.zero_and,Xa (⟨hA,hB,hll,hd,by omega,by omega,.inl rfl,.inl rfl⟩:(1≤A∧A≤20)∧(0≤B∧B≤4)∧((Zb u).length:Int)=A+B∧dg.length=32∧((0:Int)≤0∧(0:Int)≤2)∧((0:Int)≤0∧(0:Int)≤40)∧((0:Int)=0∨(2:Int)=4)∧((0:Int)=0∨(2:Int)=5))];rfl)
 refine ⟨_,u,?_,k1,⟨fun x hx=>(by cases hx),?_,fun j hj=>(by simp at hj),fun j _ hj=>?_⟩,k2⟩
 ·rw [h.does (fun q=>by omega) hc hg,hac]
  rfl
 ·rw [u2] at hll
  simp only [Yh];omega
 ·have hr:=Zjn hj
  have hm:(Zb u).getD (B.toNat+j) 0∈l:=by
   rw [u2,Yd,Yk hj];exact Yi hj
  show Zd (doF m.2 _) (3+m.1+(Zb u).getD (B.toNat+j) 0)=[];rw [k4 _ (by omega)];refine Zw5 _ _ (.inr ⟨(false,(3+m.1+(Zb u).getD (B.toNat+j) 0,[])),Yz _ (Yf.2 ⟨_,hm,rfl⟩),rfl,rfl⟩) fun x hx q _=>?_
  obtain ⟨y,_,rfl⟩:=hpos x hx q;rfl
theorem Z5k {f f':Zu} (h0:Zd f' 0=Zd f 0) (h1:Zd f' 1=Zd f 1):Zf f'=Zf f:=by unfold Zf;rw [h0,h1]
theorem Dev.other (h:Dev m a ph tr nd st dn dg v w) {l:List Z0b} (hl:Zoc m.2.1.length l) (h0:∀x∈l,x.1=false→3+m.1≤x.2.1∨x.2.1=2):Dev (m.1,doF m.2 l) a ph tr nd st dn dg v w∧Zf (doF m.2 l)=Zf m.2∧∀k:Int,0≤k→Zd (doF m.2 l) k=Zde (Zd m.2) l k:=by
 obtain ⟨i1,i2,_⟩:=Zig h.img
 have hmb:=h.b
 have hn:=h.n
 obtain ⟨hF,hlen⟩:=h.fp.acts _ hl
 have hget:=fun (k:Int) (hk:0≤k)=>Zls l h.fp hl hk
 have hmiss:∀k:Int,0≤k→k<3+m.1→k≠2→Zd (doF m.2 l) k=Zd m.2 k:=fun k q1 q2 q3=>by
  rw [hget k q1];exact Zbq _ fun x hx q=>by have:=h0 x hx q;omega
 have hM:=Z5k (f:=m.2) (f':=doF m.2 l) (hmiss 0 (by omega) (by omega) (by omega)) (hmiss 1 (by omega) (by omega) (by omega))
 refine ⟨⟨h.b,h.img,hF,?_,?_,?_,h.kp,h.sb,fun i hi=>?_⟩,hM,hget⟩
 ·show ((doF m.2 l).1.length:Int)=m.1+27
  rw [hlen];exact hn
 ·show (Zf (doF m.2 l)).2.2.1=0
  rw [hM];exact h.ok
 ·show (Zf (doF m.2 l)).2.1=_
  rw [hM];exact h.txt
 ·rw [← h.base i hi]
  exact hmiss _ (by omega) (by omega) (by omega)
theorem Dev.busy (h:Dev m a ph tr nd st dn dg v w) (h1:ph≠1):(1≤nd∧nd≤20)∧(0≤st∧st≤4)∧((Zb w).length:Int)=nd+st∧dg.length=32:=by
 obtain ⟨q1,q2,q3,q4,_⟩:=h.ms0.busy h1
 exact ⟨q1,q2,q3,q4⟩
theorem Dev.step (h:Dev m a 2 tr nd st dn dg v w) {L:List Zk} (hL:LogAt m st w L) (hlt:(L.length:Int)<nd) {x:Zk} (hx:Zxc x.1 x.2.1 x.2.2.1 x.2.2.2 8=true) (hcode:Zwb (L++[x]) (a.length:Int)=0) (hg:(Zf m.2).1<1000000):
  ∃m',doR m (2,(0,(0,([],x))))=(m',([],([],0)))∧Dev m' a 2 tr nd st dn dg v w∧LogAt m' st w (L++[x])∧(Zf m'.2).1=(Zf m.2).1:=by
 have hmb:=h.b
 have hn:=h.n
 obtain ⟨b1,b2,b3,b4⟩:=h.busy (by omega)
 have hc:Zeg (2,(0,(0,([],x))))=true:=by
  unfold Zeg;dsimp only;rw [Xd (by omega),Xc rfl,hx];rfl
 have hlog:=hL.log
 have hp:st.toNat+L.length<(Zb w).length:=by omega
 have hpr:=Zjn hp
 have hac:Zai m (2,(0,(0,([],x)))) 2 tr nd st dn dg v w=Zoh ((false,(3+m.1+(Zb w).getD (st.toNat+L.length) 0,Zni (L.length:Int) x))::(if x.1=5 then [Zp] else [])):=by
  show Zpr m 2 nd st w x=_;unfold Zpr;rw [Xc rfl,hlog,Xd (by omega),Xc (by rw [hmb];exact hcode),show (st+(L.length:Int)).toNat=st.toNat+L.length by omega]
 have hmem:∀y∈((false,(3+m.1+(Zb w).getD (st.toNat+L.length) 0,Zni (L.length:Int) x))::(if x.1=5 then [Zp] else []):List Z0b),y.1=false→y=(false,(3+m.1+(Zb w).getD (st.toNat+L.length) 0,Zni (L.length:Int) x)):=fun y hy q=>by
  rcases Yo.1 hy with z | z
  ·exact z
  ·split at z
   ·rw [Yj.1 z] at q
    cases q
   ·cases z
 have hfit:Zoc m.2.1.length ((false,(3+m.1+(Zb w).getD (st.toNat+L.length) 0,Zni (L.length:Int) x))::(if x.1=5 then [Zp] else [])):=fun y hy q=>by
  rw [hmem y hy q];exact ⟨by dsimp only;omega,Zecb (Z7v hx)⟩
 obtain ⟨k1,k2,k3⟩:=h.other hfit (fun y hy q=>by rw [hmem y hy q];dsimp only;omega)
 have hup:∀i,i<(Zb w).length→Zd (doF m.2 ((false,(3+m.1+(Zb w).getD (st.toNat+L.length) 0,Zni (L.length:Int) x))::(if x.1=5 then [Zp] else []))) (3+m.1+(Zb w).getD i 0)=if i=st.toNat+L.length then Zni (L.length:Int) x else Zd m.2 (3+m.1+(Zb w).getD i 0):=fun i hi=>by
  have hr:=Zjn hi;rw [k3 _ (by omega)]
  by_cases c:i=st.toNat+L.length
  ·rw [Xc c,c]
   refine Zw5 _ _ (.inr ⟨_,Ye,rfl,rfl⟩) fun y hy q _=>?_
   rw [hmem y hy q]
  ·rw [Xd c]
   refine Zbq _ fun y hy q=>?_
   rw [hmem y hy q];dsimp only;intro z;exact c (Zo3 hi hp (by omega))
 refine ⟨_,?_,k1,⟨fun y hy=>?_,?_,fun j hj=>?_,fun j hj hl=>?_⟩,by rw [k2]⟩
 ·rw [h.does (fun q=>by omega) hc hg,hac]
  rfl
 ·rcases Ys.1 hy with z | z
  ·exact hL.ok y z
  ·rw [Yj.1 z]
   exact hx
 ·rw [Yb]
  simp only [Yg,Yh];omega
 ·rw [Yb] at hj
  simp only [Yg,Yh] at hj;show Zd (doF m.2 _) (3+m.1+_)=_;rw [hup _ (by omega)]
  by_cases c:j=L.length
  ·subst c
   rw [Xc rfl];simp
  ·rw [Xd (by omega),hL.at' j (by omega),Y2a (by omega)]
 ·rw [Yb] at hj
  simp only [Yg,Yh] at hj;show Zd (doF m.2 _) (3+m.1+_)=_;rw [hup _ hl,Xd (by omega)];exact hL.nil j (by omega) hl
theorem Ze5 {L:List Zk} (hlog:Zh m st w=L) (hc:Zwb L m.1=0) (hs:Zob (Zg L)≤st) (hd:dn≤((Zg L).length:Int)):Zel m st dn w=true:=by
 unfold Zel
 rw [hlog,Xa hc,Xa hs,Xa hd]
 rfl
theorem Dev.again (h:Dev m a ph tr nd st dn dg v w) {pre:List Z0b} (hpre:pre=[]∨pre=[Zp]) {L:List Zk} (hL:LogAt m st w L) (h0:0≤st) (hg:(Zf m.2).1<1000000) {ph' tr' nd' st' dn':Int} {dg':Str} {v' w':Nat} (K:Keep ph' tr' nd' st' dn' dg' v' w') (S:Zre ph' tr' nd' st' dn' dg' v' w'=true):
  Dev (m.1,doF m.2 (pre++Zgb m.2 ph' tr' nd' st' dn' dg' v' w')) a ph' tr' nd' st' dn' dg' v' w'∧LogAt (m.1,doF m.2 (pre++Zgb m.2 ph' tr' nd' st' dn' dg' v' w')) st w L∧(Zf (doF m.2 (pre++Zgb m.2 ph' tr' nd' st' dn' dg' v' w'))).1=(Zf m.2).1+1∧(doF m.2 (pre++Zgb m.2 ph' tr' nd' st' dn' dg' v' w')).2=[]:=by
 have hmb:=h.b
 have hno:∀x∈pre,x.1=false→False:=fun x hx q=>by
  rcases hpre with rfl | rfl
  ·cases hx
  ·rw [Yj.1 hx] at q
   cases q
 obtain ⟨k1,k2,k3,k4⟩:=h.keep (pre:=pre) (fun x hx q=>(hno x hx q).elim) (fun x hx q=>(hno x hx q).elim) hg rfl h.img (fun i hi=>by
  rw [← h.base i hi];exact Zbq _ fun x hx q=>(hno x hx q).elim) K S
 refine ⟨k1,hL.move h0 rfl fun i _ hi=>?_,k2,k3⟩
 have hr:=Zjn hi
 show Zd (doF m.2 _) _=_
 rw [k4 _ (by omega)]
 exact Zbq _ fun x hx q=>(hno x hx q).elim
theorem Dev.finish (h:Dev m a 2 0 nd st 0 dg v w) {L:List Zk} (hL:LogAt m st w L) (hl:(L.length:Int)=nd) (hcode:Zwb L (a.length:Int)=0) (hd:Z7g (Z8e a L).flatten=dg) (hs:Zob (Zg L)≤st) (hg:(Zf m.2).1<1000000):
  ∃m',doR m (3,(0,(0,([],Zvm))))=(m',([],([],0)))∧Dev m' a 3 0 nd st 0 dg v w∧LogAt m' st w L∧(Zf m'.2).1=(Zf m.2).1+1∧m'.2.2=[]:=by
 obtain ⟨b1,b2,b3,b4⟩:=h.busy (by omega)
 have K:=h.kp
 have S:=h.sb
 have hac:Zai m (3,(0,(0,([],Zvm)))) 2 0 nd st 0 dg v w=Zoh ([Zp]++Zgb m.2 3 0 nd st 0 dg v w):=by
  show Zxq m 2 0 nd st 0 dg v w=_;unfold Zxq;rw [Xc rfl,hL.log,Xc hl,Xc (by rw [h.b];exact hcode),h.blocks,Xc hd,Xd (by omega)]
 obtain ⟨k1,k2,k3,k4⟩:=h.again (.inr rfl) hL b2.1 hg (ph':=3) (tr':=0) (nd':=nd) (st':=st) (dn':=0) (dg':=dg) (v':=v) (w':=w) { K with a:=by omega } (by
  unfold Zre at S ⊢;rw [Xd (by omega)] at S ⊢;simp only [Ya,decide_eq_true_eq] at S ⊢;exact ⟨by omega,S.2.1,S.2.2.1,S.2.2.2.1,S.2.2.2.2.1,S.2.2.2.2.2.1,S.2.2.2.2.2.2.1,S.2.2.2.2.2.2.2.1,.inl trivial,.inl trivial⟩)
 refine ⟨_,?_,k1,k2,k3,k4⟩
 rw [h.does (fun q=>by omega) (Zcx (by omega) (by omega) (by omega)) hg,hac]
 rfl
theorem Dev.boot3 (h:Dev m a 3 0 nd st 0 dg v w) {L:List Zk} (hL:LogAt m st w L) (hg:(Zf m.2).1<1000000):
  ∃m',(m.1,doF m.2 (Z6j m 3 0 nd st 0 dg v w))=m'∧Dev m' a 4 2 nd st 0 dg v w∧LogAt m' st w L∧(Zf m'.2).1=(Zf m.2).1+1∧m'.2.2=[]:=by
 obtain ⟨b1,b2,b3,b4⟩:=h.busy (by omega)
 have K:=h.kp
 have S:=h.sb
 obtain ⟨k1,k2,k3,k4⟩:=h.again (.inl rfl) hL b2.1 hg (ph':=4) (tr':=2) (nd':=nd) (st':=st) (dn':=0) (dg':=dg) (v':=v) (w':=w) { K with a:=by omega,b:=by omega } (by
  unfold Zre at S ⊢;rw [Xd (by omega)] at S ⊢;simp only [Ya,decide_eq_true_eq] at S ⊢;exact ⟨by omega,S.2.1,S.2.2.1,S.2.2.2.1,S.2.2.2.2.1,S.2.2.2.2.2.1,by omega,S.2.2.2.2.2.2.2.1,.inr trivial,.inl trivial⟩)
 exact ⟨_,rfl,k1,k2,k3,k4⟩
theorem Zkgb (hd:m.2.2=[]) (n:Int) (fs:List Int):Zao m [] n fs=m:=by
 unfold Zao
 rw [List.take_nil]
 show (m.1,Z6f m.2 fs)=m
 rw [Zrq hd]
end
theorem Zx8 {α:Type} (p:α→Bool) (x:α):∀(l:List α) (n:Nat),Zab p (l++[x]) n=match Zab p l n with | some i=>some i | none=>if p x=true then some (n+l.length) else none
 | [],n=>by
  show Zab p [x] n=_;unfold Zab
  by_cases h:p x=true
  ·rw [Xc h]
   show _=(if p x=true then some (n+0) else none);rw [Xc h];rfl
  ·rw [Xd h]
   show _=(if p x=true then some (n+0) else none);rw [Xd h];rfl
 | y::l,n=>by
  rw [Yha];unfold Zab
  by_cases h:p y=true
  ·rw [Xc h,Xc h]
  ·rw [Xd h,Xd h,Zx8 p x l (n+1)]
   cases Zab p l (n+1) with
   | some i=>rfl
   | none=>
    dsimp only;rw [Yg,show n+1+l.length=n+(l.length+1) by omega]
structure PlanAt (w:List Zk) (mv:List Zbc) (dn:Nat) (left:List Nat) (st:List Int):Prop where
 tail:∃n,left.length+(8-st.length)≤n∧mv.drop dn=Zeb w n left st
 inv:PlanI w left st
 done:∀i,i<w.length→(i∈left ↔ Zhe mv dn (wAt w i).2.1=false)
 was:∀b,Zhe mv dn b=true→∃i,i<w.length∧(wAt w i).2.1=b
 got:∀(j:Nat) (h:j<st.length),Zvh mv dn st[j]=(j:Int)
 no:∀b,b∉st→Zab (Zfj b) (mv.take dn) 0=none
 safe:∀i∈left,∀b,Zth (wAt w i) b=true→Zhe mv dn b=true→b∈st
 slot:Zob (mv.take dn)=(st.length:Int)
theorem Zfmb {l:List Zk} {n:Int} (h:Zwb l n=0):PlanAt (Zj l) (Zg l) 0 (Y0 (Zj l).length) []:=by
 have hl:=(Zue h).1
 have hwl:(Zj l).length≤l.length:=List.length_filter_le _ _
 exact ⟨⟨40,by rw [Y4a,Yh];omega,rfl⟩,Z6v _,fun i hi=>⟨fun _=>rfl,fun _=>Yca.2 hi⟩,fun b q=>(by cases q),fun j hj=>absurd hj (Yhb j),fun b _=>rfl,fun i _ b _ q=>(by cases q),rfl⟩
section
variable {w:List Zk} {mv:List Zbc} {dn:Nat} {left:List Nat} {st:List Int}
theorem Zdo (h:dn<mv.length) (b:Int):Zhe mv (dn+1) b=(Zhe mv dn b||doP b mv[dn]):=by
 unfold Zhe
 rw [Yda h,List.any_append]
 simp
theorem Zux (h:dn<mv.length) (b:Int):Zab (Zfj b) (mv.take (dn+1)) 0=match Zab (Zfj b) (mv.take dn) 0 with | some i=>some i | none=>if Zfj b mv[dn]=true then some dn else none:=by
 rw [Yda h,Zx8]
 have:(mv.take dn).length=dn:=by rw [Y5a];omega
 rw [this,Yw]
theorem Zudb (h:dn<mv.length) {b:Int} (q:0≤Zvh mv dn b):Zvh mv (dn+1) b=Zvh mv dn b:=by
 unfold Zvh at q ⊢
 rw [Zux h]
 cases hf:Zab (Zfj b) (mv.take dn) 0 with
 | some i=>rfl
 | none=>rw [hf] at q;have q:(0:Int)≤-1:=q;omega
theorem PlanAt.next (h:PlanAt w mv dn left st) (hw:∀x∈w,0≤x.2.1∧x.2.1≤7) (hT:(w.map fun x=>x.2.1).Nodup) (hlt:dn<mv.length):
  (∃i∈left,mv[dn]=(2,((i:Int),((wAt w i).2.1,0)))∧PlanAt w mv (dn+1) (left.erase i) st)∨(∃i∈left,mv[dn]=(1,((i:Int),((wAt w i).2.1,(st.length:Int))))∧(wAt w i).2.1∉st∧PlanAt w mv (dn+1) left (st++[(wAt w i).2.1])):=by
 obtain ⟨n,hn,ht⟩:=h.tail
 rw [List.drop_eq_getElem_cons hlt] at ht
 match n,left,h,hn,ht with
 | 0,_,_,_,ht=>cases ht
 | n+1,[],_,_,ht=>cases ht
 | n+1,i0::rest,h,hn,ht=>
  have hinj:∀i∈i0::rest,∀k∈i0::rest,(wAt w i).2.1=(wAt w k).2.1→i=k:=fun i hi k hk e=>by
   have li:=h.inv.lt i hi;have lk:=h.inv.lt k hk;rw [Zed li,Zed lk] at e;have hp:=Yv.1 (Yp.1 hT);rcases Yra i k with q | q | q
   ·exact absurd e (hp i k li lk q)
   ·exact q
   ·exact absurd e.symm (hp k i lk li q)
  have hinj2:∀i,i<w.length→∀k,k<w.length→(wAt w i).2.1=(wAt w k).2.1→i=k:=fun i li k lk e=>by
   rw [Zed li,Zed lk] at e;have hp:=Yv.1 (Yp.1 hT);rcases Yra i k with q | q | q
   ·exact absurd e (hp i k li lk q)
   ·exact q
   ·exact absurd e.symm (hp k i lk li q)
  cases hf:(i0::rest).find? (Zjc w (i0::rest) st) with
  | some i=>
   have e:Zeb w (n+1) (i0::rest) st=(2,((i:Int),((wAt w i).2.1,0)))::Zeb w n ((i0::rest).erase i) st:=by rw [Zeb,hf]
   rw [e] at ht;obtain ⟨t1,t2⟩:=List.cons.inj ht;have hi:=Yt hf;have hfr:Zjc w (i0::rest) st i=true:=Y7 hf;have hli:=h.inv.lt i hi;left;have hd:∀b,doP b mv[dn]=((wAt w i).2.1==b):=fun b=>by rw [t1];rfl
   have hs:∀b,Zfj b mv[dn]=false:=fun b=>by rw [t1];rfl
   refine ⟨i,hi,t1,⟨⟨n,?_,t2⟩,h.inv.done i,fun k hk=>?_,fun b q=>?_,fun j hj=>?_,fun b q=>?_,fun k hk b r q=>?_,?_⟩⟩
   ·rw [Yba hi]
    simp only [Yg] at hn ⊢;omega
   ·rw [Zdo hlt,hd,h.inv.nd.mem_erase_iff,h.done k hk,Yfa]
    constructor
    ·rintro ⟨q1,q2⟩
     refine ⟨q2,?_⟩;rw [beq_eq_false_iff_ne];exact fun q=>q1 (hinj2 k hk i hli q.symm)
    ·rintro ⟨q1,q2⟩
     refine ⟨fun q=>?_,q1⟩;rw [q] at q2;simp at q2
   ·rw [Zdo hlt,hd,Y3] at q
    rcases q with q | q
    ·exact h.was b q
    ·exact ⟨i,hli,by simpa using q⟩
   ·have:=h.got j hj
    rw [Zudb hlt (by omega)];exact this
   ·rw [Zux hlt,h.no b q]
    dsimp only;rw [hs,Xd Yea]
   ·rw [h.inv.nd.mem_erase_iff] at hk
    rw [Zdo hlt,hd,Y3] at q;rcases q with q | q
    ·exact h.safe k hk.2 b r q
    ·have q:(wAt w i).2.1=b:=by simpa using q
     unfold Zjc at hfr;rcases (Y3 _ _).mp hfr with z | z
     ·rw [← q]
      exact Zns.1 z
     ·rw [Y2,Y5] at z
      have:=z k hk.2;rw [q,r,Bool.and_true] at this;simp at this;exact absurd this hk.1
   ·rw [Z5v hlt,t1,Xd (fun z:(2:Int)=1=>by cases z)]
    exact h.slot
  | none=>
   have e:Zeb w (n+1) (i0::rest) st=(1,((i0:Int),((wAt w i0).2.1,(st.length:Int))))::Zeb w n (i0::rest) (Z7c (wAt w i0).2.1 st):=by rw [Zeb,hf]
   rw [e] at ht;obtain ⟨t1,t2⟩:=List.cons.inj ht;obtain ⟨s1,s2,s3⟩:=h.inv.stash hw hf;have hi:i0∈i0::rest:=Ye
   have hno:(wAt w i0).2.1∉st:=fun q=>by
    have h0:=Yn.1 hf i0 hi;have h1:=Z78 (Yva.2 h0);rw [Zns.2 q] at h1;cases h1
   have h8:=Zhp s1.sd s1.sb;rw [s3] at t2 s1;rw [s2] at h8;right;have hd:∀b,doP b mv[dn]=false:=fun b=>by rw [t1];rfl
   have hs:∀b,Zfj b mv[dn]=((wAt w i0).2.1==b):=fun b=>by rw [t1];rfl
   refine ⟨i0,hi,t1,hno,⟨⟨n,?_,t2⟩,s1,fun k hk=>?_,fun b q=>?_,fun j hj=>?_,fun b q=>?_,fun k hk b r q=>?_,?_⟩⟩
   ·rw [Yb]
    simp only [Yg,Yh] at hn ⊢;omega
   ·rw [Zdo hlt,hd,Yga]
    exact h.done k hk
   ·rw [Zdo hlt,hd,Yga] at q
    exact h.was b q
   ·by_cases c:j<st.length
    ·have e2:(st++[(wAt w i0).2.1])[j]=st[j]:=Y2a c
     have:=h.got j c;rw [e2,Zudb hlt (by omega)];exact this
    ·have hj2:j=st.length:=by rw [Yb] at hj;simp only [Yg,Yh] at hj;omega
     subst hj2;have e2:(st++[(wAt w i0).2.1])[st.length]=(wAt w i0).2.1:=by simp
     rw [e2];unfold Zvh;rw [Zux hlt,h.no _ hno];dsimp only;rw [hs,Xc (by simp)];dsimp only;rw [Zvu hlt,t1]
   ·have hb:b∉st:=fun z=>q (Yz _ z)
    have hb2:(wAt w i0).2.1≠b:=fun z=>q (by rw [z];exact Y9a _ Ye)
    rw [Zux hlt,h.no b hb];dsimp only;rw [hs,Xd (by simpa using hb2)]
   ·rw [Zdo hlt,hd,Yga] at q
    exact Yz _ (h.safe k hk b r q)
   ·rw [Z5v hlt,t1,Xc rfl,h.slot,Yb]
    rfl
theorem PlanAt.fin (h:PlanAt w mv mv.length left st):left=[]:=by
 obtain ⟨n,hn,ht⟩:=h.tail
 rw [List.drop_length] at ht
 match n,left,hn,ht with
 | _,[],_,_=>rfl
 | 0,i0::rest,hn,_=>simp at hn
 | n+1,i0::rest,_,ht=>
  rw [Zeb] at ht;split at ht <;> cases ht
end
theorem Z9y {n n':Int} (h:Num n) (h':Num n') {r r':Str} (e:Zl n++r=Zl n'++r'):n=n'∧r=r':=by
 have e1:=Zjo n h (Zl n++r) 0 r rfl
 have e2:=Zjo n' h' (Zl n++r) 0 r' e
 have q:n=n':=by
  have:=e1.symm.trans e2;exact (Prod.mk.inj this).1
 subst q
 exact ⟨rfl,Ywa e⟩
theorem Zzbb {t t':Str} (h:t.length≤8000) (h':t'.length≤8000) {r r':Str} (e:Z4 t++r=Z4 t'++r'):t=t'∧r=r':=by
 have e1:=Zqt t h (Z4 t++r) 0 r rfl
 have e2:=Zqt t' h' (Z4 t++r) 0 r' e
 have q:t=t':=by
  have:=e1.symm.trans e2;exact (Prod.mk.inj this).1
 subst q
 exact ⟨rfl,Ywa e⟩
theorem Zklb {s:Str} (h:(Z6 s).2.2=0):Ztj (Z6 s).1 (Z6 s).2.1=true∧s=Z0e (Z6 s).1 (Z6 s).2.1:=by
 unfold Z6 at h ⊢
 by_cases c:(Zcd s).2=0
 ·rw [Xc c] at h ⊢
  cases hp:Zgm (Zt s) with
  | none=>rw [hp] at h;cases h
  | some x=>
   obtain ⟨n,t,d⟩:=x;rw [hp] at h;dsimp only at h ⊢
   by_cases q:d=(Zt s).length∧Ztj n t=true
   ·rw [Xc q]
    refine ⟨q.2,?_⟩;unfold Zgm at hp;rcases Z9k (Zt s) 0 with ⟨m,b,e,g⟩ | ⟨c,hc,e⟩
    ·rw [e] at hp
     dsimp only at hp;rw [Xc rfl,Yc] at hp;rcases Zaq (Zt s) b with ⟨u,b',e2,g2⟩ | ⟨c,hc,e2⟩
     ·rw [e2] at hp
      dsimp only at hp;rw [Xc rfl,Yc] at hp;simp only [Option.some.injEq,Prod.mk.injEq] at hp;obtain ⟨rfl,rfl,rfl⟩:=hp;have hw:=(Ze4 g g2).2 q.1;unfold Z0e;rw [hw];exact (Zrt c).2.1.symm
     ·rw [e2] at hp
      dsimp only at hp;rw [Xd hc] at hp;cases hp
    ·rw [e] at hp
     dsimp only at hp;rw [Xd hc] at hp;cases hp
   ·rw [Xd q] at h
    exact absurd h (by decide)
 ·rw [Xd c] at h
  exact absurd h c
theorem Z3ab {n:Int} {t:Str} (hn:1≤n∧n≤1000000) (ht:t.length≤80) {i:Nat} (hi:i<(Z0e n t).length):(Z6 ((Z0e n t).take i)).2.2≠0:=by
 intro q
 obtain ⟨hB,e⟩:=Zklb q
 generalize (Z6 ((Z0e n t).take i)).1=n' at hB e
 generalize (Z6 ((Z0e n t).take i)).2.1=t' at hB e
 unfold Ztj at hB
 simp only [Ya,decide_eq_true_eq] at hB
 obtain ⟨r,hr⟩:∃r,r=(Z0e n t).drop i:=⟨_,rfl⟩
 have e2:Z0e n t=Z0e n' t'++r:=by rw [← e,hr,Ygb]
 have hrl:r.length=(Z0e n t).length-i:=by rw [hr,Yma]
 clear hr
 have e3:Zl n++(Z4 t++Znj (Zud 0 (Zl n++Z4 t)))=Zl n'++(Z4 t'++(Znj (Zud 0 (Zl n'++Z4 t'))++r)):=by
  have l:∀(n:Int) (t:Str),Z0e n t=Zl n++(Z4 t++Znj (Zud 0 (Zl n++Z4 t))):=fun n t=>by
   unfold Z0e Zuf;rw [Ym]
  rw [← l,e2,l n' t'];simp only [Ym]
 obtain ⟨x1,x2⟩:=Z9y ⟨by omega,by omega⟩ ⟨by omega,by omega⟩ e3
 obtain ⟨x3,x4⟩:=Zzbb (by omega) (by omega) x2
 have:=congrArg Yla x4
 rw [Yb,Z8m,Z8m] at this
 omega
theorem Zcbb {s:Str} {k:Int} (h:(Z4b s k).1=false):Zgk k (Z4b s k).2.1 (Z4b s k).2.2=true∧s=Zcb k (Z4b s k).2.1 (Z4b s k).2.2:=by
 unfold Z4b at h ⊢
 by_cases c:(Zcd s).2=0
 ·rw [Xc c] at h ⊢
  cases hp:Zhk (Zt s) with
  | none=>rw [hp] at h;cases h
  | some x=>
   obtain ⟨⟨n,a,t⟩,d⟩:=x;rw [hp] at h;dsimp only at h ⊢
   by_cases q:(d=(Zt s).length∧n=k)∧Zgk k a t=true
   ·rw [Xc q]
    obtain ⟨_,_,_,hw⟩:=Zylb hp;have hw:=hw.2 q.1.1;refine ⟨q.2,?_⟩;unfold Zcb;rw [← q.1.2];dsimp only;rw [hw];exact (Zrt c).2.1.symm
   ·rw [Xd q] at h
    exact absurd h (by decide)
 ·rw [Xd c] at h
  exact absurd h (by decide)
theorem Z0lb {n a:Int} {t:Str} (hB:Zgk n a t=true) {i:Nat} (hi:i<(Zcb n a t).length) (k:Int):(Z4b ((Zcb n a t).take i) k).1=true:=by
 refine Decidable.byContradiction fun q=>?_
 have q:(Z4b ((Zcb n a t).take i) k).1=false:=by simpa using q
 obtain ⟨hB',e⟩:=Zcbb q
 generalize (Z4b ((Zcb n a t).take i) k).2.1=a' at hB' e
 generalize (Z4b ((Zcb n a t).take i) k).2.2=t' at hB' e
 obtain ⟨h1,h2,h3⟩:=Zem.1 hB
 obtain ⟨h1',h2',h3'⟩:=Zem.1 hB'
 obtain ⟨r,hr⟩:∃r,r=(Zcb n a t).drop i:=⟨_,rfl⟩
 have e2:Zcb n a t=Zcb k a' t'++r:=by rw [← e,hr,Ygb]
 have hrl:r.length=(Zcb n a t).length-i:=by rw [hr,Yma]
 clear hr
 have e3:Zl n++(Zl a++(Z4 t++Znj (Zud 0 (Zoe n a t))))=Zl k++(Zl a'++(Z4 t'++(Znj (Zud 0 (Zoe k a' t'))++r))):=by
  have l:∀(n a:Int) (t:Str),Zcb n a t=Zl n++(Zl a++(Z4 t++Znj (Zud 0 (Zoe n a t)))):=fun n a t=>by
   unfold Zcb Zuf Zoe;simp only [Ym]
  rw [← l,e2,l k a' t'];simp only [Ym]
 obtain ⟨x1,x2⟩:=Z9y ⟨by omega,by omega⟩ ⟨by omega,by omega⟩ e3
 obtain ⟨x3,x4⟩:=Z9y ⟨by omega,by omega⟩ ⟨by omega,by omega⟩ x2
 obtain ⟨x5,x6⟩:=Zzbb (by omega) (by omega) x4
 have:=congrArg Yla x6
 rw [Yb,Z8m,Z8m] at this
 omega
theorem Zzlb {n a:Int} {t:Str} (hB:Zgk n a t=true):Z4b (Zcb n a t) n=(false,(a,t)):=by
 obtain ⟨h1,h2,h3⟩:=Zem.1 hB
 have hz:Zhk (Zoe n a t)=some ((n,(a,t)),(Zoe n a t).length):=by
  have e1:=Zjo n ⟨by omega,by omega⟩ (Zoe n a t) 0 (Zl a++Z4 t) (by unfold Zoe;rw [Yia,Ym]);have d1:(Zoe n a t).drop (Zl n).length=Zl a++Z4 t:=by unfold Zoe;rw [Ym,Yq]
  have e2:=Zjo a ⟨by omega,by omega⟩ (Zoe n a t) _ _ d1;have d2:(Zoe n a t).drop ((Zl n).length+(Zl a).length)=Z4 t++[]:=by rw [← Yxa,d1,Yq,Y6]
  have e3:=Zqt t (by omega) (Zoe n a t) _ _ d2;have hl:(Zoe n a t).length=(Zl n).length+(Zl a).length+(Z4 t).length:=by unfold Zoe;simp only [Yb]
  rw [Yw] at e1;unfold Zhk Zac Zvg;rw [e1];dsimp only;rw [Xc rfl,Yc];show (Ysa _ _)=_;rw [Yta];dsimp only;rw [e2];dsimp only;rw [Xc rfl,Yc,Yta];dsimp only;rw [e3];dsimp only;rw [Xc rfl,Yc,hl];rfl
 unfold Z4b Zcb
 rw [Zs5,Z3w,Xc rfl,hz]
 dsimp only
 rw [Xc ⟨⟨rfl,rfl⟩,hB⟩]
theorem Z03 {n a:Int} {t:Str} (hB:Zgk n a t=true) {k:Int} (hk:k≠n):(Z4b (Zcb n a t) k).1=true:=by
 refine Decidable.byContradiction fun q=>?_
 have q:(Z4b (Zcb n a t) k).1=false:=by simpa using q
 obtain ⟨hB',e⟩:=Zcbb q
 generalize (Z4b (Zcb n a t) k).2.1=a' at hB' e
 generalize (Z4b (Zcb n a t) k).2.2=t' at hB' e
 obtain ⟨h1,h2,h3⟩:=Zem.1 hB
 obtain ⟨h1',h2',h3'⟩:=Zem.1 hB'
 have l:∀(n a:Int) (t:Str),Zcb n a t=Zl n++(Zl a++(Z4 t++Znj (Zud 0 (Zoe n a t)))):=fun n a t=>by
  unfold Zcb Zuf Zoe;simp only [Ym]
 rw [l n a t,l k a' t'] at e
 exact hk (Z9y ⟨by omega,by omega⟩ ⟨by omega,by omega⟩ e).1.symm
theorem Zsbb:∀(T R:List Int),T.Nodup→(∀x∈T,x∈R)→R.length≤T.length→T.Perm R
 | [],R,_,_,h=>by
  have:R=[]:=List.length_eq_zero_iff.1 (by simpa using h);rw [this]
 | x::T,R,hn,hs,h=>by
  have hx:=hs x Ye;have hn2:=Yu.1 hn
  have h1:=Zsbb T (R.erase x) hn2.2 (fun y hy=>(List.mem_erase_of_ne (fun q:y=x=>hn2.1 (by rw [← q];exact hy))).2 (hs y (Yl _ hy))) (by
   rw [Yba hx];simp only [Yg] at h;omega)
  exact (h1.cons x).trans (List.perm_cons_erase hx).symm
theorem Zh3 {α:Type} {f:α→Int}:∀{l:List α},(l.map f).Nodup→∀{a b:α},a∈l→b∈l→f a=f b→a=b
 | [],_,a,b,ha,_,_=>by cases ha
 | x::l,h,a,b,ha,hb,e=>by
  have h2:=Yu.1 h;rcases Yo.1 ha with za | za
  ·rcases Yo.1 hb with zb | zb
   ·rw [za,zb]
   ·exact absurd (Yf.2 ⟨b,zb,by rw [← e,za]⟩) h2.1
  ·rcases Yo.1 hb with zb | zb
   ·exact absurd (Yf.2 ⟨a,za,by rw [e,zb]⟩) h2.1
   ·exact Zh3 h2.2 za zb e
def Znk (l:List Zbc):Nat:=(l.filter fun m=>m.1==1).length
theorem Zh5 (m:Int×Int×Int) (l:List Zbc):Znk ((2,m)::l)=Znk l:=by
 unfold Znk
 rw [Yya (by simp)]
theorem Z2ob (m:Int×Int×Int) (l:List Zbc):Znk ((1,m)::l)=Znk l+1:=by
 unfold Znk
 rw [List.filter_cons_of_pos (by simp),Yg]
theorem Zapb {w:List Zk} {left:List Nat} {st:List Int} (h:left.find? (Zjc w left st)=none):∀i∈left,∃k∈left,k≠i∧(wAt w k).2.2.1=(wAt w i).2.1:=fun i hi=>by
 have h1:Zjc w left st i=false:=Yva.2 (Yn.1 h i hi)
 unfold Zjc at h1
 have h2:=(Yfa.1 h1).2
 rw [Bool.not_eq_false'] at h2
 obtain ⟨k,hk,q⟩:=List.any_eq_true.1 h2
 rw [Ya] at q
 refine ⟨k,hk,by simpa using q.1,?_⟩
 have:=q.2
 unfold Zth at this
 rw [Ya] at this
 simpa using this.2
theorem Zulb {w:List Zk} {i0:Nat} {rest:List Nat} {st:List Int} (hn:(i0::rest).Nodup) (hT:((i0::rest).map fun i=>(wAt w i).2.1).Nodup) (h:(i0::rest).find? (Zjc w (i0::rest) st)=none) (st':List Int):rest≠[]∧∃j∈rest,Zjc w rest st' j=true:=by
 have hs:=Zapb h
 have hp:=Zsbb _ ((i0::rest).map fun i=>(wAt w i).2.2.1) hT (fun x hx=>by
  obtain ⟨i,hi,rfl⟩:=Yf.1 hx;obtain ⟨k,hk,_,q⟩:=hs i hi;exact Yf.2 ⟨k,hk,q⟩) (by simp)
 have hR:=hp.nodup hT
 have hm:(wAt w i0).2.2.1∈(i0::rest).map fun i=>(wAt w i).2.1:=hp.mem_iff.2 (Yf.2 ⟨i0,Ye,rfl⟩)
 obtain ⟨j,hj,q⟩:=Yf.1 hm
 obtain ⟨k,hk,k1,k2⟩:=hs j hj
 have e:k=i0:=Zh3 (f:=fun i=>(wAt w i).2.2.1) hR hk Ye (by show (wAt w k).2.2.1=(wAt w i0).2.2.1;rw [k2];exact q)
 have hj2:j∈rest:=by
  rcases Yo.1 hj with z | z
  ·exact absurd (z.trans e.symm).symm k1
  ·exact z
 refine ⟨fun z=>(by rw [z] at hj2;cases hj2),j,hj2,?_⟩
 unfold Zjc
 rw [Y3]
 right
 rw [Y2,Y5]
 intro y hy z
 rw [Ya] at z
 have z2:=z.2
 unfold Zth at z2
 rw [Ya] at z2
 have z3:(wAt w y).2.2.1=(wAt w j).2.1:=by simpa using z2.2
 have e2:y=i0:=Zh3 (f:=fun i=>(wAt w i).2.2.1) hR (Yl _ hy) Ye (by show (wAt w y).2.2.1=(wAt w i0).2.2.1;rw [z3];exact q)
 rw [e2] at hy
 exact (Yu.1 hn).1 hy
theorem Zyib (k:Int) (l:List Int):Zmf k (Z7c k l)=true:=by
 cases h:Zmf k l with
 | true=>
  have:Z7c k l=l:=by unfold Z7c;rw [h];rfl
  rw [this,h]
 | false=>
  rw [Z85 h];exact Zns.2 (Y9a _ Ye)
theorem Zvab {f:Nat→Int} {l:List Nat} (h:(l.map f).Nodup) (i:Nat):((l.erase i).map f).Nodup:=h.sublist (List.erase_sublist.map f)
theorem Zuob {w:List Zk} (n:Nat):∀(left:List Nat) (st:List Int),left.Nodup→(left.map fun i=>(wAt w i).2.1).Nodup→2*Znk (Zeb w n left st)≤left.length:=by
 induction n using Nat.strongRecOn with
 | ind n ih=>
  intro left st hn hT
  match n,left,ih,hn,hT with
  | 0,left,_,_,_=>simp [Zeb,Znk]
  | n+1,[],_,_,_=>simp [Zeb,Znk]
  | n+1,i0::rest,ih,hn,hT=>
   cases hf:(i0::rest).find? (Zjc w (i0::rest) st) with
   | some i=>
    have e:Zeb w (n+1) (i0::rest) st=(2,((i:Int),((wAt w i).2.1,0)))::Zeb w n ((i0::rest).erase i) st:=by rw [Zeb,hf]
    have hi:=Yt hf;have:=ih n (by omega) ((i0::rest).erase i) st (hn.erase i) (Zvab hT i);rw [Yba hi] at this;rw [e,Zh5];omega
   | none=>
    have e:Zeb w (n+1) (i0::rest) st=(1,((i0:Int),((wAt w i0).2.1,(st.length:Int))))::Zeb w n (i0::rest) (Z7c (wAt w i0).2.1 st):=by rw [Zeb,hf]
    obtain ⟨f1,j,f2,f3⟩:=Zulb hn hT hf (Z7c (wAt w i0).2.1 st);have hl:1≤rest.length:=List.length_pos_iff.2 f1;rw [e,Z2ob]
    match n,ih with
    | 0,_=>
     simp only [Zeb,Znk,Yja,Yh,Yg];omega
    | n+1,ih=>
     have hf2:(i0::rest).find? (Zjc w (i0::rest) (Z7c (wAt w i0).2.1 st))=some i0:=by
      rw [Yka];unfold Zjc;rw [Zyib];rfl
     have e2:Zeb w (n+1) (i0::rest) (Z7c (wAt w i0).2.1 st)=(2,((i0:Int),((wAt w i0).2.1,0)))::Zeb w n rest (Z7c (wAt w i0).2.1 st):=by
      rw [Zeb,hf2];dsimp only;rw [List.erase_cons_head]
     rw [e2,Zh5]
     match n,ih,rest,hn,hT,f1,f2,f3,hl with
     | 0,_,rest,_,_,_,_,_,hl=>
      simp only [Zeb,Znk,Yja,Yh,Yg];omega
     | n+1,_,[],_,_,f1,_,_,_=>exact absurd rfl f1
     | n+1,ih,r::rest,hn,hT,f1,f2,f3,hl=>
      cases hf3:(r::rest).find? (Zjc w (r::rest) (Z7c (wAt w i0).2.1 st)) with
      | none=>exact absurd f3 (Yn.1 hf3 j f2)
      | some i=>
       have e3:Zeb w (n+1) (r::rest) (Z7c (wAt w i0).2.1 st)=(2,((i:Int),((wAt w i).2.1,0)))::Zeb w n ((r::rest).erase i) (Z7c (wAt w i0).2.1 st):=by rw [Zeb,hf3]
       have hi:=Yt hf3;have:=ih n (by omega) ((r::rest).erase i) (Z7c (wAt w i0).2.1 st) ((Yu.1 hn).2.erase i) (Zvab (Yu.1 hT).2 i);rw [Yba hi] at this;rw [e3,Zh5];simp only [Yg] at this ⊢;omega
theorem Zvob {l:List Zk} (h:(Z3c l).Nodup) (hl:(Zj l).length≤8):Zob (Zg l)≤4:=by
 have hm:((Y0 (Zj l).length).map fun i=>(wAt (Zj l) i).2.1)=Z3c l:=by
  unfold Z3c;refine Yr (by simp) fun i h1 h2=>?_
  rw [Y9,Y3a,Y9,Zed (by simpa using h2)]
 have:=Zuob (w:=Zj l) 40 (Y0 (Zj l).length) [] List.nodup_range (by rw [hm];exact h)
 rw [Y4a] at this
 unfold Zob Zg
 unfold Znk at this
 omega
theorem Zq4:∀(l r:List Zk) (a:Int),Ztg a (l++r)=true→Ztg a l=true
 | [],_,_,_=>rfl
 | x::l,r,a,h=>by
  rw [Yha] at h;unfold Ztg at h ⊢;split at h
  ·rename_i c
   rw [Xc c];rw [Ya] at h ⊢;exact ⟨h.1,Zq4 l r _ h.2⟩
  ·rename_i c
   rw [Xd c];exact Zq4 l r _ h
theorem Zr7 {l:List Zk} {n:Int} (h1:l.length≤20) (h2:1≤n∧n≤8) (h3:∀x∈l,Zbe n x=true) (h4:(Z3c l).Nodup) (h5:Ztg (-1) l=true):Zwb l n=0:=by
 unfold Zwb
 rw [Xd,Xd (not_not_intro h4),Xc h5]
 rintro (q | q | q)
 ·omega
 ·exact q h2
 ·rw [Yx.2 h3] at q
  cases q
theorem Zggb {l r:List Zk} {n:Int} (h:Zwb (l++r) n=0):Zwb l n=0:=by
 obtain ⟨h1,h2,h3,h4,h5,h6⟩:=Zue h
 rw [Yb] at h1
 refine Zr7 (by omega) ⟨h2,h3⟩ (fun x hx=>h4 x (Yz _ hx)) ?_ (Zq4 _ _ _ h6)
 refine h5.sublist ?_
 unfold Z3c Zj
 exact ((List.sublist_append_left l r).filter _).map _
structure ForOk (a:List Str) (n:Int) (t:Str) (x:Zk):Prop where
 w:x.1≠5
 r:Zbe (a.length:Int) x=true
 tgt:x.2.1=n
 mak:Zmi x (a.getD x.2.2.1.toNat [])=t
structure DiffOk (a b:List Str) (l:List Zk) (i:Nat):Prop where
 up:(l.map fun x=>x.2.1).Nodup
 ok:∀x∈l,∃j:Nat,j<i∧ForOk a (j:Int) (b.getD j []) x
 all:∀j:Nat,j<i→a.getD j []≠b.getD j []→∃x∈l,x.2.1=(j:Int)
 len:l.length≤i
theorem DiffOk.zero (a b:List Str):DiffOk a b [] 0:=⟨Ypa,fun x hx=>(by cases hx),fun j hj=>absurd hj (Yhb j),Yqa _⟩
theorem DiffOk.same {a b:List Str} {l:List Zk} {i:Nat} (h:DiffOk a b l i) (e:a.getD i []=b.getD i []):DiffOk a b l (i+1):=by
 refine ⟨h.up,fun x hx=>?_,fun j hj q=>?_,by have:=h.len;omega⟩
 ·obtain ⟨j,h1,h2⟩:=h.ok x hx
  exact ⟨j,by omega,h2⟩
 ·by_cases c:j=i
  ·subst c
   exact absurd e q
  ·exact h.all j (by omega) q
theorem DiffOk.add {a b:List Str} {l:List Zk} {i:Nat} (h:DiffOk a b l i) {x:Zk} (hx:ForOk a (i:Int) (b.getD i []) x):DiffOk a b (l++[x]) (i+1):=by
 refine ⟨?_,fun y hy=>?_,fun j hj q=>?_,by rw [Yb];have:=h.len;simp only [Yg,Yh];omega⟩
 ·rw [Y6a]
  refine Ydb.2 ⟨h.up,by simp,fun p hp q hq=>?_⟩;obtain ⟨y,hy,rfl⟩:=Yf.1 hp;obtain ⟨j,h1,h2⟩:=h.ok y hy;have ht:=h2.tgt;have hxt:=hx.tgt;simp only [Y7a,Y8a,Yj] at hq;omega
 ·rcases Ys.1 hy with z | z
  ·obtain ⟨j,h1,h2⟩:=h.ok y z
   exact ⟨j,by omega,h2⟩
  ·rw [Yj.1 z]
   exact ⟨i,by omega,hx⟩
 ·by_cases c:j=i
  ·exact ⟨x,by simp,by rw [hx.tgt,c]⟩
  ·obtain ⟨y,h1,h2⟩:=h.all j (by omega) q
   exact ⟨y,Yz _ h1,h2⟩
def Zbm:Zk:=(5,(0,(1,[])))
theorem Zicb:∀(l r:List Zk) (a:Int),(∀x∈l,x.1≠5)→Ztg a (l++r)=Ztg a r
 | [],_,_,_=>rfl
 | x::l,r,a,h=>by
  rw [Yha,Ztg,Xd (h x Ye)];exact Zicb l r a fun y hy=>h y (Yl _ hy)
section
variable {a b:List Str} {l:List Zk}
theorem DiffOk.kinds {i:Nat} (h:DiffOk a b l i):∀x∈l,x.1≠5:=fun x hx=>by
 obtain ⟨j,_,q⟩:=h.ok x hx
 exact q.w
theorem DiffOk.writes {i:Nat} (h:DiffOk a b l i):Zj (l++[Zbm])=l:=by
 unfold Zj
 rw [List.filter_append,List.filter_eq_self.2 fun x hx=>Zss (h.kinds x hx),Yya (by simp [isW,Zbm]),Yja,Y6]
theorem DiffOk.code (h:DiffOk a b l a.length) (ha:1≤a.length∧a.length≤8):Zwb (l++[Zbm]) (a.length:Int)=0:=by
 have hl:=h.len
 refine Zr7 (by rw [Yb];simp only [Yg,Yh];omega) ⟨by omega,by omega⟩ (fun x hx=>?_) ?_ ?_
 ·rcases Ys.1 hx with z | z
  ·obtain ⟨j,_,q⟩:=h.ok x z
   exact q.r
  ·rw [Yj.1 z]
   rfl
 ·unfold Z3c
  rw [h.writes];exact h.up
 ·rw [Zicb _ _ _ h.kinds]
  rfl
theorem DiffOk.slots (h:DiffOk a b l a.length) (ha:a.length≤8):Zob (Zg (l++[Zbm]))≤4:=by
 have hl:=h.len
 refine Zvob ?_ (by rw [h.writes];omega)
 unfold Z3c
 rw [h.writes]
 exact h.up
theorem DiffOk.apply (h:DiffOk a b l a.length) (hab:b.length=a.length):Z8e a (l++[Zbm])=b:=by
 unfold Z8e
 rw [h.writes]
 refine Yr (by rw [Zqi,hab]) fun j h1 h2=>?_
 have hj:j<a.length:=by omega
 rw [Zwn hj,← Z3g h2]
 cases hf:l.find? (fun x=>x.2.1==(j:Int)) with
 | some x=>
  obtain ⟨i,_,q⟩:=h.ok x (Yt hf);have ht:x.2.1=(j:Int):=by simpa using Y7 hf
  have hij:i=j:=by have:=q.tgt;omega
  subst hij;exact q.mak
 | none=>
  refine Decidable.byContradiction fun z=>?_
  obtain ⟨x,hx,q⟩:=h.all j hj z;have:=Yn.1 hf x hx;rw [q] at this;simp at this
end
theorem Zqhb (a:List Str) {n:Int} (h:0≤n∧n<(a.length:Int)):ForOk a n Zmw (1,(n,(0,[]))):=by
 refine ⟨by show (1:Int)≠5;omega,?_,rfl,rfl⟩
 unfold Zbe Zxc
 rw [Xc rfl,Xa h.1,Xa (by omega:n≤(a.length:Int)-1)]
 rfl
theorem Zohb (a:List Str) {n:Int} (h:0≤n∧n<(a.length:Int)) {t:Str} (ht:t.length=8):ForOk a n t (2,(n,(0,t))):=by
 refine ⟨by show (2:Int)≠5;omega,?_,rfl,rfl⟩
 unfold Zbe Zxc
 dsimp only
 rw [Xd (by omega),Xc rfl,Xa h.1,Xa (by omega:n≤(a.length:Int)-1),Xa (by omega:(t.length:Int)=8)]
 rfl
theorem Zmhb (a:List Str) {n:Int} (h:0≤n∧n<(a.length:Int)) {i:Nat} (hi:i<a.length):ForOk a n a[i] (3,(n,((i:Int),[]))):=by
 refine ⟨by show (3:Int)≠5;omega,?_,rfl,?_⟩
 ·unfold Zbe Zxc
  dsimp only;rw [Xd (by omega),Xd (by omega),Xc rfl,Xa h.1,Xa (by omega:n≤(a.length:Int)-1),Xa (by omega:(0:Int)≤(i:Int)),Xa (by omega:(i:Int)≤(a.length:Int)-1)];rfl
 ·show a.getD ((i:Nat):Int).toNat []=a[i]
  rw [Yc,Z3g hi]
theorem Zwpb (a b:Str) (i:Nat):xb a b i=(((a.getD i 0).toNat ^^^ (b.getD i 0).toNat:Nat):Int):=by
 have h1:=UInt8.toNat_lt (a.getD i 0)
 have h2:=UInt8.toNat_lt (b.getD i 0)
 unfold xb
 generalize (a.getD i 0).toNat=x at h1
 generalize (b.getD i 0).toNat=y at h2
 have hx:x ^^^ y<2^8:=Yib (by omega) (by omega)
 have e:(Y1 8 (x:Int) ^^^ Y1 8 (y:Int)).toNat=x ^^^ y:=by
  rw [BitVec.toNat_xor,Yua,Yua];have q1:((x:Int)%((2^8:Nat):Int)).toNat=x:=by omega
  have q2:((y:Int)%((2^8:Nat):Int)).toNat=y:=by omega
  rw [q1,q2]
 unfold intBits
 show Y4 .u8 (((Y1 8 (x:Int) ^^^ Y1 8 (y:Int)).toNat:Nat):Int)=_
 rw [e,u8w]
 omega
theorem Zreb {a b:Str} {i:Nat} (h:i<8):(Z6h a b).getD i 0=UInt8.ofNat ((a.getD i 0).toNat ^^^ (b.getD i 0).toNat):=by
 have e:Z6h a b=(Y0 8).map fun i=>UInt8.ofNat (xb a b i).toNat:=by
  unfold Z6h Znb;rw [List.map_map];rfl
 rw [e,Yd,List.getElem?_map,List.getElem?_range h]
 show UInt8.ofNat (xb a b i).toNat=_
 rw [Zwpb,Yc]
theorem Zxpb {a t:Str} (ht:t.length=8):Z6h a (Z6h a t)=t:=by
 have hl:(Z6h a (Z6h a t)).length=8:=by unfold Z6h;rw [Zhh];simp
 refine Yr (by rw [hl,ht]) fun i h1 h2=>?_
 have e:∀(s:Str) (h:i<s.length),s[i]=s.getD i 0:=fun s h=>by rw [Yd,Yk h];rfl
 rw [e _ h1,e _ h2,Zreb (by omega),Zreb (by omega)]
 have q1:=UInt8.toNat_lt (a.getD i 0)
 have q2:=UInt8.toNat_lt (t.getD i 0)
 have hx:(a.getD i 0).toNat ^^^ (t.getD i 0).toNat<2^8:=Yib (by omega) (by omega)
 rw [UInt8.toNat_ofNat_of_lt' (by exact hx),← Nat.xor_assoc,Nat.xor_self,Nat.zero_xor,UInt8.ofNat_toNat]
theorem Zphb (a:List Str) {n:Int} (h:0≤n∧n<(a.length:Int)) {i:Nat} (hi:i<a.length) (ha:a[i].length=8) {t:Str} (ht:t.length=8):ForOk a n t (4,(n,((i:Int),Z5h a[i] t))):=by
 have hx:Z5h a[i] t=Z6h a[i] t:=by unfold Z5h;rw [Xc ⟨ha,ht⟩]
 have hl:(Z6h a[i] t).length=8:=by unfold Z6h;rw [Zhh];simp
 refine ⟨by show (4:Int)≠5;omega,?_,rfl,?_⟩
 ·rw [hx]
  unfold Zbe Zxc;dsimp only;rw [Xd (by omega),Xd (by omega),Xd (by omega),Xc rfl,Xa h.1,Xa (by omega:n≤(a.length:Int)-1),Xa (by omega:(0:Int)≤(i:Int)),Xa (by omega:(i:Int)≤(a.length:Int)-1),Xa (by omega:((Z6h a[i] t).length:Int)=8)];rfl
 ·show Z5h (a.getD ((i:Nat):Int).toNat []) (Z5h a[i] t)=t
  rw [Yc,Z3g hi,hx];unfold Z5h;rw [Xc ⟨ha,hl⟩,Zxpb ht]
structure Dev0 (m:Zn) (z:Nat) (ph tr nd st dn:Int) (dg:Str) (v w:Nat):Prop where
 b:m.1=(z:Int)
 r:1≤z∧z≤8
 fp:FlashP m.2
 n:(m.2.1.length:Int)=m.1+27
 ok:(Zf m.2).2.2.1=0
 txt:(Zf m.2).2.1=Z6e (ph,tr,nd,st,dn,(v:Int),(w:Int),dg)
 kp:Keep ph tr nd st dn dg v w
 sb:Zre ph tr nd st dn dg v w=true
section
variable {m:Zn} {a:List Str} {ph tr nd st dn:Int} {dg:Str} {v w:Nat}
theorem Dev.less (h:Dev m a ph tr nd st dn dg v w):Dev0 m a.length ph tr nd st dn dg v w:=by
 obtain ⟨i1,i2,_⟩:=Zig h.img
 exact ⟨h.b,⟨i1,i2⟩,h.fp,h.n,h.ok,h.txt,h.kp,h.sb⟩
theorem Dev0.more (h:Dev0 m a.length ph tr nd st dn dg v w) (hi:Zvb a=true) (hb:∀i:Nat,i<a.length→Zd m.2 (3+(i:Int))=a.getD i []):Dev m a ph tr nd st dn dg v w:=⟨h.b,hi,h.fp,h.n,h.ok,h.txt,h.kp,h.sb,hb⟩
theorem Dev0.onto {m':Zn} {z:Nat} (h:Dev0 m z ph tr nd st dn dg v w) (h1:m'.1=m.1) (h2:FlashP m'.2) (h3:m'.2.1.length=m.2.1.length) (h4:Zf m'.2=Zf m.2):Dev0 m' z ph tr nd st dn dg v w:=
 ⟨by rw [h1];exact h.b,h.r,h2,by rw [h1,h3];exact h.n,by rw [h4];exact h.ok,by rw [h4];exact h.txt,h.kp,h.sb⟩
theorem Dev0.keep {z:Nat} (h:Dev0 m z ph tr nd st dn dg v w) {pre:List Z0b} (hp:Zoc m.2.1.length pre) (hno:∀x∈pre,x.1=false→2≤x.2.1) (hg:(Zf m.2).1<1000000) {a':List Str} (hl:a'.length=z) (hi:Zvb a'=true) (hb:∀i:Nat,i<a'.length→Zde (Zd m.2) pre (3+(i:Int))=a'.getD i []) {ph' tr' nd' st' dn':Int} {dg':Str} {v' w':Nat} (K:Keep ph' tr' nd' st' dn' dg' v' w') (S:Zre ph' tr' nd' st' dn' dg' v' w'=true):
  Dev (m.1,doF m.2 (pre++Zgb m.2 ph' tr' nd' st' dn' dg' v' w')) a' ph' tr' nd' st' dn' dg' v' w'∧(Zf (doF m.2 (pre++Zgb m.2 ph' tr' nd' st' dn' dg' v' w'))).1=(Zf m.2).1+1∧(doF m.2 (pre++Zgb m.2 ph' tr' nd' st' dn' dg' v' w')).2=[]∧∀k:Int,2≤k→Zd (doF m.2 (pre++Zgb m.2 ph' tr' nd' st' dn' dg' v' w')) k=Zde (Zd m.2) pre k:=by
 have hn:=h.n
 have hmb:=h.b
 obtain ⟨i1,i2⟩:=h.r
 have hto:=Zaw m.2
 have hfit:Zoc m.2.1.length (pre++Zgb m.2 ph' tr' nd' st' dn' dg' v' w'):=Zwl hp (Zji (by omega) K)
 obtain ⟨hF,hlen⟩:=h.fp.acts _ hfit
 have hget:∀k:Int,0≤k→Zd (doF m.2 (pre++Zgb m.2 ph' tr' nd' st' dn' dg' v' w')) k=if k=toF m.2 then Z0e ((Zf m.2).1+1) (Z6e (ph',tr',nd',st',dn',(v':Int),(w':Int),dg')) else Zde (Zd m.2) pre k:=fun k hk=>by
  rw [Zls _ h.fp hfit hk,Zheb,Zgn hg,Zag,Zag,Zum];show Zdd (Zde (Zd m.2) pre) (false,(toF m.2,_)) k=_;unfold Zdd
  by_cases c:k=toF m.2
  ·rw [Xc ⟨rfl,c⟩,Xc c]
  ·rw [Xd (fun z=>c z.2),Xd c]
 have hk2:∀k:Int,2≤k→Zd (doF m.2 (pre++Zgb m.2 ph' tr' nd' st' dn' dg' v' w')) k=Zde (Zd m.2) pre k:=fun k hk=>by rw [hget k (by omega),Xd (by omega)]
 have hM:=Zv2 (f:=m.2) (f':=doF m.2 (pre++Zgb m.2 ph' tr' nd' st' dn' dg' v' w')) hg K.len (by rw [hget _ (by omega),Xc rfl]) (by
  rw [hget _ (by omega),Xd (by omega)];exact Zbq pre fun x hx q=>by have:=hno x hx q;omega)
 refine ⟨⟨?_,hi,hF,?_,?_,?_,K,S,fun i hi=>?_⟩,?_,?_,hk2⟩
 ·show m.1=_
  rw [hl];exact hmb
 ·show ((doF m.2 _).1.length:Int)=m.1+27
  rw [hlen];exact hn
 ·show (Zf (doF m.2 _)).2.2.1=0
  rw [hM]
 ·show (Zf (doF m.2 _)).2.1=_
  rw [hM]
 ·rw [← hb i hi]
  exact hk2 _ (by omega)
 ·rw [hM]
 ·rw [Zgn hg,show ∀x:Z0b,pre++[x,Zp]=(pre++[x])++[Zp] from fun x=>by simp]
  exact Zfu _ _
end
theorem Z2ab {f f':Zu} (h:(Zf f).2.2.1=0) (h1:(Z6 (Zd f' (toF f))).2.2≠0) (h2:Zd f' (1-toF f)=Zd f (1-toF f)):Zf f'=Zf f:=by
 unfold toF at *
 by_cases c1:(Z6 (Zd f 0)).2.2=0∧((Z6 (Zd f 1)).2.2≠0∨(Z6 (Zd f 1)).1≤(Z6 (Zd f 0)).1)
 ·have e:Zf f=((Z6 (Zd f 0)).1,(Z6 (Zd f 0)).2.1,(Z6 (Zd f 0)).2.2,0):=by unfold Zf;rw [Xc c1]
  rw [e] at h1 h2 ⊢;dsimp only at h1 h2;rw [Xc rfl] at h1 h2;have h2:Zd f' 0=Zd f 0:=h2;unfold Zf;rw [h2,Xc ⟨c1.1,.inl h1⟩]
 ·by_cases c2:(Z6 (Zd f 1)).2.2=0
  ·have e:Zf f=((Z6 (Zd f 1)).1,(Z6 (Zd f 1)).2.1,(Z6 (Zd f 1)).2.2,1):=by unfold Zf;rw [Xd c1,Xc c2]
   rw [e] at h1 h2 ⊢;dsimp only at h1 h2;rw [Xd (by omega)] at h1 h2;have h2:Zd f' 1=Zd f 1:=h2;unfold Zf;rw [h2,Xd (fun q=>h1 q.1),Xc c2]
  ·have e:Zf f=(0,[],6,-1):=by unfold Zf;rw [Xd c1,Xd c2]
   rw [e] at h;exact absurd h (by decide)
def Z6k (a b:List Str) (mv:List Zbc) (dn:Nat):List Str:=(Y0 a.length).map fun (j:Nat)=>if Zhe mv dn (j:Int)=true then b.getD j [] else a.getD j []
theorem Zih (a b:List Str) (mv:List Zbc) (dn:Nat):(Z6k a b mv dn).length=a.length:=by simp [Z6k]
theorem Zcm {a b:List Str} {mv:List Zbc} {dn j:Nat} (h:j<a.length):(Z6k a b mv dn).getD j []=if Zhe mv dn (j:Int)=true then b.getD j [] else a.getD j []:=by
 rw [Z3g (by rw [Zih];exact h)]
 simp [Z6k]
theorem Zpkb {l:List Str} (h1:1≤l.length∧l.length≤8) (h2:∀s∈l,s.length=8):Zvb l=true:=by
 unfold Zvb
 rw [Xa h1.1,Xa h1.2]
 exact Yx.2 fun s hs=>Xa (h2 s hs)
theorem Z4ab {a b:List Str} (ha:Zvb a=true) (hb:Zvb b=true) (hl:b.length=a.length) (mv:List Zbc) (dn:Nat):Zvb (Z6k a b mv dn)=true:=by
 obtain ⟨a1,a2,a3⟩:=Zig ha
 obtain ⟨b1,b2,b3⟩:=Zig hb
 refine Zpkb (by rw [Zih];exact ⟨a1,a2⟩) fun s hs=>?_
 unfold Z6k at hs
 obtain ⟨j,hj,rfl⟩:=Yf.1 hs
 have hj:=Yca.1 hj
 split
 ·exact b3 _ (Z1q (by omega))
 ·exact a3 _ (Z1q hj)
structure FoldC (a b:List Str) (L:List Zk) (st:Int):Prop where
 ia:Zvb a=true
 ib:Zvb b=true
 ab:Z8e a L=b
 code:Zwb L (a.length:Int)=0
 slots:Zob (Zg L)≤st
structure Folding (m:Zn) (a b:List Str) (L:List Zk) (nd st:Int) (dg:Str) (w dn:Nat):Prop where
 dev:Dev m (Z6k a b (Zg L) dn) 5 0 nd st (dn:Int) dg 0 w
 log:LogAt m st w L
 pl:∃left sl,PlanAt (Zj L) (Zg L) dn left sl∧∀(j:Nat) (h:j<sl.length),Zd m.2 (3+m.1+(Zb w).getD j 0)=a.getD sl[j].toNat []
 le:dn≤(Zg L).length
 cl:m.2.2=[]
 nt:(Z4b (Zd m.2 2) (dn:Int)).1=true
section
variable {m:Zn} {a b:List Str} {L:List Zk} {nd st:Int} {dg:Str} {w dn:Nat}
theorem FoldC.len (C:FoldC a b L st):b.length=a.length:=by
 rw [← C.ab]
 unfold Z8e
 rw [Zqi]
theorem FoldC.tgt (C:FoldC a b L st):((Zj L).map fun x=>x.2.1).Nodup:=(Zue C.code).2.2.2.2.1
theorem FoldC.made (C:FoldC a b L st) {i:Nat} (hi:i<(Zj L).length):b.getD (wAt (Zj L) i).2.1.toNat []=Zmi (wAt (Zj L) i) (a.getD (wAt (Zj L) i).2.2.1.toNat []):=by
 have hx:=Zdq C.code _ (Yi hi)
 have ht:=hx.tgt
 have hj:(Zj L)[i].2.1.toNat<a.length:=by omega
 have hl:=C.len
 rw [Zed hi,Z3g (by omega)]
 have e:b[(Zj L)[i].2.1.toNat]'(by omega)=(Z8e a L)[(Zj L)[i].2.1.toNat]'(by rw [C.ab];omega):=by
  congr 1;exact C.ab.symm
 rw [e]
 unfold Z8e
 rw [Zwn hj]
 have hf:=Zfhb C.tgt hi
 rw [show (((Zj L)[i].2.1.toNat:Nat):Int)=(Zj L)[i].2.1 by omega,hf]
 rfl
theorem FoldC.same (C:FoldC a b L st) {j:Nat} (hj:j<a.length) (h:∀i,i<(Zj L).length→(wAt (Zj L) i).2.1≠(j:Int)):b.getD j []=a.getD j []:=by
 have hl:=C.len
 rw [Z3g (by omega)]
 have e:b[j]'(by omega)=(Z8e a L)[j]'(by rw [C.ab];omega):=by
  congr 1;exact C.ab.symm
 rw [e]
 unfold Z8e
 rw [Zwn hj]
 cases hf:(Zj L).find? (fun x=>x.2.1==(j:Int)) with
 | none=>rfl
 | some x=>
  obtain ⟨i,hi,rfl⟩:=Yaa (Yt hf);have:=h i hi;rw [Zed hi] at this;exact absurd (by simpa using Y7 hf) this
theorem Folding.sound (C:FoldC a b L st) (h:Folding m a b L nd st dg w dn):Zel m st (dn:Int) w=true:=by
 have hb:=h.dev.b
 rw [Zih] at hb
 exact Ze5 h.log.log (by rw [hb];exact C.code) C.slots (by have:=h.le;omega)
theorem Folding.made (C:FoldC a b L st) (h:Folding m a b L nd st dg w dn) {left:List Nat} {sl:List Int} (hp:PlanAt (Zj L) (Zg L) dn left sl) (hs:∀(j:Nat) (h:j<sl.length),Zd m.2 (3+m.1+(Zb w).getD j 0)=a.getD sl[j].toNat []) {i:Nat} (hi:i∈left):
  Zli m w (Zg L) dn (wAt (Zj L) i)=b.getD (wAt (Zj L) i).2.1.toNat []:=by
 have hil:=hp.inv.lt i hi
 have hx:=Zdq C.code _ (Yi hil)
 rw [C.made hil]
 have hsafe:=hp.safe i hi
 rw [Zed hil] at hsafe ⊢
 generalize (Zj L)[i]=x at hx hsafe
 obtain ⟨k1,k2,k3⟩:=hx
 unfold Zli Zio
 by_cases c:x.1=3∨x.1=4
 ·rw [Xc c]
  congr 1
  by_cases q:0≤Zvh (Zg L) dn x.2.2.1
  ·rw [Xc q]
   have hm:x.2.2.1∈sl:=Decidable.byContradiction fun z=>by
    unfold Zvh at q;rw [hp.no _ z] at q;have q:(0:Int)≤-1:=q;omega
   obtain ⟨j,hj,e⟩:=Yaa hm;have:=hp.got j hj;rw [e] at this;rw [this,Yc,hs j hj,e]
  ·rw [Xd q]
   have hm:x.2.2.1∉sl:=fun z=>by
    obtain ⟨j,hj,e⟩:=Yaa z;have:=hp.got j hj;rw [e] at this;omega
   have hd:Zhe (Zg L) dn x.2.2.1≠true:=fun z=>hm (hsafe _ (by
    unfold Zth;rcases c with c | c <;> rw [c] <;> simp) z)
   have hb:=h.dev.base x.2.2.1.toNat (by rw [Zih];omega);rw [show (3:Int)+(x.2.2.1.toNat:Int)=3+x.2.2.1 by omega,Zcm (by omega),show ((x.2.2.1.toNat:Nat):Int)=x.2.2.1 by omega,Xd hd] at hb;exact hb
 ·rw [Xd c]
  unfold Zmi
  by_cases c1:x.1=1
  ·rw [Xc c1,Xc c1]
  ·have c2:x.1=2:=by omega
   rw [Xd c1,Xc c2,Xd c1,Xc c2]
theorem Folding.view (C:FoldC a b L st) (h:Folding m a b L nd st dg w dn):Zst m st (dn:Int) w=b:=by
 obtain ⟨left,sl,hp,hs⟩:=h.pl
 have hl:=C.len
 unfold Zst
 rw [h.dev.blocks,h.log.log,Yc]
 refine Yr (by rw [Zqi,Zih,hl]) fun j h1 h2=>?_
 have hj:j<a.length:=by omega
 rw [Zwn (by rw [Zih];exact hj),← Z3g h2]
 cases hf:(Zj L).find? (fun x=>x.2.1==(j:Int)) with
 | some x=>
  obtain ⟨i,hi,rfl⟩:=Yaa (Yt hf);have ht:(Zj L)[i].2.1=(j:Int):=by simpa using Y7 hf
  dsimp only
  by_cases c:Zhe (Zg L) dn (j:Int)=true
  ·rw [Xc c,Zcm hj,Xc c]
  ·rw [Xd c]
   have hil:i∈left:=(hp.done i hi).2 (by rw [Zed hi,ht];simpa using c);have:=h.made C hp hs hil;rw [Zed hi,ht,Yc] at this;exact this
 | none=>
  have hn:∀i,i<(Zj L).length→(wAt (Zj L) i).2.1≠(j:Int):=fun i hi q=>by
   have:=Yn.1 hf _ (Yi hi);rw [Zed hi] at q;rw [q] at this;simp at this
  have hd:Zhe (Zg L) dn (j:Int)≠true:=fun q=>by
   obtain ⟨i,hi,e⟩:=hp.was _ q;exact hn i hi e
  dsimp only;rw [Zcm hj,Xd hd];exact (C.same hj hn).symm
theorem Folding.onto {m':Zn} (h:Folding m a b L nd st dg w dn) (h1:m'.1=m.1) (h2:FlashP m'.2) (h3:m'.2.1.length=m.2.1.length) (h4:Zf m'.2=Zf m.2) (h5:m'.2.2=[]) (h6:∀k:Int,3≤k→Zd m'.2 k=Zd m.2 k) (h7:(Z4b (Zd m'.2 2) (dn:Int)).1=true):Folding m' a b L nd st dg w dn:=by
 have hd:=h.dev
 have hmb:=hd.b
 obtain ⟨_,_,hb2,_⟩:=hd.busy (by omega)
 refine ⟨(hd.less.onto h1 h2 h3 h4).more hd.img fun i hi=>?_,h.log.move (hd.busy (by omega)).2.1.1 h1 fun i _ hi=>?_,?_,h.le,h5,h7⟩
 ·rw [h6 _ (by omega)]
  exact hd.base i hi
 ·have:=Zjn hi
  exact h6 _ (by omega)
 ·obtain ⟨left,sl,hp,hs⟩:=h.pl
  refine ⟨left,sl,hp,fun j hj=>?_⟩;rw [← hs j hj,h1]
  have:0≤(Zb w).getD j 0:=by
   by_cases c:j<(Zb w).length
   ·exact (Zjn c).1
   ·rw [Yd,Y0a (by omega)]
    exact Int.le_refl 0
  exact h6 _ (by omega)
end
end Go.Proofs.Qz
