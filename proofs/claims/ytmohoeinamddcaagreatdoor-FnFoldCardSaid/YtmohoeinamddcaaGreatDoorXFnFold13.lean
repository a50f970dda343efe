/- What the law FnFold needs, part 14 of 15: the Lean functions of the Go functions that it reaches, with the proofs that the calls come to what they say, and plain facts about them. Conditions: those that each theorem states. Written by a session and by its programs (after the kit's printer). -/
import Derived.Test.YtmohoeinamddcaaGreatDoorXFnFold8
import Derived.Test.YtmohoeinamddcaaGreatDoorXFnFold9
import Derived.Test.YtmohoeinamddcaaGreatDoorXFnFold10
import Derived.Test.YtmohoeinamddcaaGreatDoorXFnFold11
import Derived.Test.YtmohoeinamddcaaGreatDoorXFnFold12
open Go.IntKind renaming wrap → Ya, max → Y3
open Option renaming bind_some → Yb
open List renaming length_append → Yc, length_cons → Yd, length_nil → Ye, getD_eq_getElem?_getD → Yg, getElem_mem → Yh, mem_cons → Yj, replicate → Yk, take_length → Yl, length_set → Yn, take_of_length_le → Yo, length_replicate → Yt, ext_getElem → Yv, length_take → Yy, mem_singleton → Yz, append_assoc → Y4, getElem?_append_left → Y5, getElem?_append_right → Y6, getElem?_eq_getElem → Y7, getElem?_eq_none → Y8, getElem?_replicate → Y9, mem_append → Yaa, mem_replicate → Yba, take_succ_eq_append_getElem → Yca
open Nat renaming le_refl → Yf, le_trans → Yp, zero_le → Yq, and_zero → Yda
open Int renaming toNat_natCast → Yi, le_refl → Ys, tmod_eq_emod_of_nonneg → Yu, tmod → Yx, emod_lt_of_pos → Y1, emod_nonneg → Y2
open Bool renaming and_eq_true → Ym, false_ne_true → Yr, not_true → Yw, or_false → Y0
namespace Go.Proofs.Qz
open Go
set_option linter.unusedVariables false
structure MoveF (m:Zn) (a b:List Str) (L:List Zk) (nd st:Int) (dg:Str) (w dn:Nat) (p:Int) (d:Str):Prop where
 len:d.length=8
 rng:3≤p∧p<(m.2.1.length:Int)∧p≤39
 go:∀(m':Zn) (pre:List Z0b),m'.1=m.1→FlashP m'.2→m'.2.1.length=m.2.1.length→Zf m'.2=Zf m.2→Zoc m'.2.1.length pre→(∀x∈pre,x.1=false→2≤x.2.1)→(∀k:Int,3≤k→Zde (Zd m'.2) pre k=if k=p then d else Zd m.2 k)→(Z4b (Zde (Zd m'.2) pre 2) ((dn:Int)+1)).1=true →
  Folding (m.1,doF m'.2 (pre++Zgb m'.2 5 0 nd st ((dn:Int)+1) dg 0 w)) a b L nd st dg w (dn+1)∧(Zf (doF m'.2 (pre++Zgb m'.2 5 0 nd st ((dn:Int)+1) dg 0 w))).1=(Zf m.2).1+1
section
variable {m:Zn} {a b:List Str} {L:List Zk} {nd st:Int} {dg:Str} {w dn:Nat}
theorem Folding.move (C:FoldC a b L st) (h:Folding m a b L nd st dg w dn) (hlt:dn<(Zg L).length) (hg:(Zf m.2).1<1000000):MoveF m a b L nd st dg w dn (Z2g m st (dn:Int) w) (Z8f m st (dn:Int) w):=by
 obtain ⟨left,sl,hp,hs⟩:=h.pl
 obtain ⟨a1,a2,a3⟩:=Zig C.ia
 obtain ⟨b1,b2,b3⟩:=Zig C.ib
 have hbl:=C.len
 have hmb:=h.dev.b
 rw [Zih] at hmb
 have hn:=h.dev.n
 obtain ⟨q1,q2,q3,q4⟩:=h.dev.busy (by omega)
 have hpl:=Zjp L (Zue C.code).1 (Zrh C.code)
 have hmv:Z1c m st (dn:Int) w=(Zg L)[dn]:=by
  unfold Z1c;rw [h.log.log,Yi];exact Zvu hlt
 have hA:Z2g m st (dn:Int) w=if ((Zg L)[dn]).1=1 then 3+m.1+(Zb w).getD ((Zg L)[dn]).2.2.2.toNat 0 else 3+((Zg L)[dn]).2.2.1:=by
  unfold Z2g;rw [hmv]
 have hD:Z8f m st (dn:Int) w=if ((Zg L)[dn]).1=1 then Zd m.2 (3+((Zg L)[dn]).2.2.1) else Zli m w (Zg L) dn (wAt (Zj L) ((Zg L)[dn]).2.1.toNat):=by
  unfold Z8f;rw [hmv,h.log.log,Yi]
 rw [hA,hD]
 clear hA hD hmv
 have K:=h.dev.kp
 have S:=h.dev.sb
 have K1:Keep 5 0 nd st ((dn:Int)+1) dg 0 w:={ K with e:=by omega }
 have S1:Zre 5 0 nd st ((dn:Int)+1) dg 0 w=true:=by
  unfold Zre at S ⊢;rw [Xd (by omega)] at S ⊢;simp only [Ym,decide_eq_true_eq] at S ⊢;exact ⟨by omega,S.2.1,S.2.2.1,S.2.2.2.1,S.2.2.2.2.1,S.2.2.2.2.2.1,S.2.2.2.2.2.2.1,by omega,.inl trivial,.inr trivial⟩
 have hmine:∀j:Nat,j<(Zb w).length→3+m.1≤3+m.1+(Zb w).getD j 0∧3+m.1+(Zb w).getD j 0≤26+m.1:=fun j hj=>by
  have:=Zjn hj;omega
 rcases hp.next (Zrh C.code) C.tgt hlt with ⟨i,hi,e,hp'⟩ | ⟨i,hi,e,hno,hp'⟩
 ·have hil:=hp.inv.lt i hi
  have hx:=Zdq C.code _ (Yh hil);rw [← Zed hil] at hx;have ht:=hx.tgt;have hd:=h.made C hp hs hi;have eA:(if ((Zg L)[dn]).1=1 then 3+m.1+(Zb w).getD ((Zg L)[dn]).2.2.2.toNat 0 else 3+((Zg L)[dn]).2.2.1)=3+(wAt (Zj L) i).2.1:=by rw [e,Xd (fun z:(2:Int)=1=>by cases z)]
  have eD:(if ((Zg L)[dn]).1=1 then Zd m.2 (3+((Zg L)[dn]).2.2.1) else Zli m w (Zg L) dn (wAt (Zj L) ((Zg L)[dn]).2.1.toNat))=b.getD (wAt (Zj L) i).2.1.toNat []:=by
   rw [e,Xd (fun z:(2:Int)=1=>by cases z),← hd];rfl
  rw [eA,eD];generalize hto:(wAt (Zj L) i).2.1=tg at ht hp' hd;obtain ⟨t,rfl⟩:∃t:Nat,tg=(t:Int):=⟨tg.toNat,by omega⟩;rw [Yi] at hd ⊢;refine ⟨b3 _ (Z1q (by omega)),⟨by omega,by omega,by omega⟩,fun m' pre h1 h2 h3 h4 h5 h6 h7 h8=>?_⟩
  have hdon:∀j:Nat,Zhe (Zg L) (dn+1) (j:Int)=(Zhe (Zg L) dn (j:Int)||decide (t=j)):=fun j=>by
   rw [Zdo hlt,e];show (_||(((wAt (Zj L) i).2.1)==(j:Int)))=_;rw [hto];congr 1
   by_cases c:t=j
   ·rw [Xa c,c];simp
   ·rw [Xb c,beq_eq_false_iff_ne]
    omega
  obtain ⟨k1,k2,k3,k4⟩:=(h.dev.less.onto h1 h2 h3 h4).keep (pre:=pre) h5 h6 (by rw [h4];exact hg) (a':=Z6k a b (Zg L) (dn+1)) (by rw [Zih,Zih]) (Z4ab C.ia C.ib hbl _ _) (fun j hj=>by
   rw [Zih] at hj;rw [h7 _ (by omega),Zcm hj,hdon]
   by_cases c:t=j
   ·subst c
    rw [Xc rfl,Xa rfl,Bool.or_true,Xc rfl]
   ·have hb:=h.dev.base j (by rw [Zih];exact hj)
    rw [Zcm hj] at hb;rw [Xd (by omega),Xb c,Y0,hb]) K1 S1
  rw [h1] at k1;refine ⟨⟨k1,h.log.move q2.1 rfl fun j _ hj=>?_,⟨_,_,hp',fun j hj=>?_⟩,hlt,k3,?_⟩,by rw [k2,h4]⟩
  ·have:=hmine j hj
   show Zd (doF m'.2 _) _=_;rw [k4 _ (by omega),h7 _ (by omega),Xd (by omega)]
  ·have hsl:=hp'.inv.sb
   rw [← hs j hj]
   have:0≤(Zb w).getD j 0:=by
    by_cases c:j<(Zb w).length
    ·exact (Zjn c).1
    ·rw [Yg,Y8 (by omega)]
     exact Ys 0
   show Zd (doF m'.2 _) _=_;rw [k4 _ (by omega),h7 _ (by omega),Xd (by omega)]
  ·show (Z4b (Zd (doF m'.2 _) 2) _).1=true
   rw [k4 _ (by omega)];exact h8
 ·have hil:=hp.inv.lt i hi
  have hx:=Zdq C.code _ (Yh hil);rw [← Zed hil] at hx;have ht:=hx.tgt
  have hsl:(sl.length:Int)<Zob (Zg L):=by
   rw [← hp.slot];exact Zd5 (Y7 hlt) (by rw [e])
  have hst:=C.slots;have hslb:sl.length<(Zb w).length:=by omega
  have hdn:Zhe (Zg L) dn (wAt (Zj L) i).2.1=false:=(hp.done i hil).1 hi
  have eA:(if ((Zg L)[dn]).1=1 then 3+m.1+(Zb w).getD ((Zg L)[dn]).2.2.2.toNat 0 else 3+((Zg L)[dn]).2.2.1)=3+m.1+(Zb w).getD sl.length 0:=by
   rw [e,Xc rfl];show 3+m.1+(Zb w).getD ((sl.length:Nat):Int).toNat 0=_;rw [Yi]
  have eD:(if ((Zg L)[dn]).1=1 then Zd m.2 (3+((Zg L)[dn]).2.2.1) else Zli m w (Zg L) dn (wAt (Zj L) ((Zg L)[dn]).2.1.toNat))=a.getD (wAt (Zj L) i).2.1.toNat []:=by
   rw [e,Xc rfl];show Zd m.2 (3+(wAt (Zj L) i).2.1)=_;have hb:=h.dev.base (wAt (Zj L) i).2.1.toNat (by rw [Zih];omega);rw [show (3:Int)+((wAt (Zj L) i).2.1.toNat:Int)=3+(wAt (Zj L) i).2.1 by omega,Zcm (by omega),show (((wAt (Zj L) i).2.1.toNat:Nat):Int)=(wAt (Zj L) i).2.1 by omega,hdn,Xd Yr] at hb;exact hb
  rw [eA,eD];have hr:=hmine _ hslb;refine ⟨a3 _ (Z1q (by omega)),⟨by omega,by omega,by omega⟩,fun m' pre h1 h2 h3 h4 h5 h6 h7 h8=>?_⟩
  have hdon:∀j:Nat,Zhe (Zg L) (dn+1) (j:Int)=Zhe (Zg L) dn (j:Int):=fun j=>by
   rw [Zdo hlt,e];exact Y0 _
  obtain ⟨k1,k2,k3,k4⟩:=(h.dev.less.onto h1 h2 h3 h4).keep (pre:=pre) h5 h6 (by rw [h4];exact hg) (a':=Z6k a b (Zg L) (dn+1)) (by rw [Zih,Zih]) (Z4ab C.ia C.ib hbl _ _) (fun j hj=>by
   rw [Zih] at hj;have hb:=h.dev.base j (by rw [Zih];exact hj);rw [Zcm hj] at hb;rw [h7 _ (by omega),Zcm hj,hdon,Xd (by omega),hb]) K1 S1
  rw [h1] at k1;refine ⟨⟨k1,h.log.move q2.1 rfl fun j hj0 hj=>?_,⟨_,_,hp',fun j hj=>?_⟩,hlt,k3,?_⟩,by rw [k2,h4]⟩
  ·have:=hmine j hj
   show Zd (doF m'.2 _) _=_;rw [k4 _ (by omega),h7 _ (by omega),Xd];intro z;have:=Zo3 hj hslb (by omega);omega
  ·show Zd (doF m'.2 _) _=_
   rw [Yc] at hj;simp only [Yd,Ye] at hj;have:=hmine j (by omega);rw [k4 _ (by omega),h7 _ (by omega)]
   by_cases c:j<sl.length
   ·have e2:(sl++[(wAt (Zj L) i).2.1])[j]'(by simp;omega)=sl[j]:=List.getElem_append_left c
    rw [e2,← hs j c,Xd];intro z;have:=Zo3 (by omega) hslb (show (Zb w).getD j 0=(Zb w).getD sl.length 0 by omega);omega
   ·have hj2:j=sl.length:=by omega
    subst hj2;rw [Xc rfl];simp
  ·show (Z4b (Zd (doF m'.2 _) 2) _).1=true
   rw [k4 _ (by omega)];exact h8
end
theorem Zfx {f:Zu} (h:FlashP f) (hc:f.2=[]) {p:Int} {t:Str} (hp:(0≤p∧p<(f.1.length:Int))∧t.length≤96) (fs:List Int):
  ∃g,Z6f (doF f [(false,(p,t))]) fs=g∧FlashP g∧g.1.length=f.1.length∧g.2=[]∧(∀k:Int,0≤k→k≠p→Zd g k=Zd f k)∧(Zd g p=Zd f p∨Zd g p=t∨∃i,i<t.length∧Zd g p=t.take i):=by
 have hd:doF f [(false,(p,t))]=(f.1,[(p,t)]):=by
  show Zri f p t=_;unfold Zri Zch;rw [hc];rfl
 obtain ⟨hF,hl⟩:=h.acts _ (Zjhb (n:=f.1.length) hp)
 obtain ⟨hG,hlg⟩:=hF.crash fs
 refine ⟨_,rfl,hG,by rw [hlg,hl],rfl,?_⟩
 rw [hd]
 have e:Z6f (f.1,[(p,t)]) fs=(f.1.set p.toNat (Zil (f.1.getD p.toNat []) t (fs.getD 0 0)),[]):=rfl
 rw [e]
 have g0:∀(s:List Str) (k:Int),Zd (s,[]) k=s.getD k.toNat []:=fun s k=>rfl
 have gf:∀k:Int,Zd f k=f.1.getD k.toNat []:=fun k=>by
  unfold Zd Zch;rw [hc];rfl
 refine ⟨fun k hk hne=>?_,?_⟩
 ·rw [g0,gf,Yg,List.getElem?_set_ne (by omega),← Yg]
 ·rw [g0,gf,Yg,List.getElem?_set_self (by omega)]
  show Zil _ _ _=_∨Zil _ _ _=_∨∃i,_∧Zil _ _ _=_;unfold Zil;split
  ·exact .inl rfl
  ·split
   ·exact .inr (.inl rfl)
   ·by_cases c:(fs.getD 0 0-2).toNat<t.length
    ·exact .inr (.inr ⟨_,c,rfl⟩)
    ·exact .inr (.inl (Yo (by omega)))
theorem Z1z {f:Zu} (h:FlashP f) {p:Int} {t:Str} (hp:(0≤p∧p<(f.1.length:Int))∧t.length≤96):
  FlashP (doF f [(false,(p,t)),Zp])∧(doF f [(false,(p,t)),Zp]).1.length=f.1.length∧(doF f [(false,(p,t)),Zp]).2=[]∧∀k:Int,0≤k→Zd (doF f [(false,(p,t)),Zp]) k=if k=p then t else Zd f k:=by
 have hfit:Zoc f.1.length [(false,(p,t)),Zp]:=Z7f (fun _=>hp) (Zgi _)
 obtain ⟨hF,hl⟩:=h.acts _ hfit
 refine ⟨hF,hl,Zfu f [(false,(p,t))],fun k hk=>?_⟩
 rw [Zls _ h hfit hk,Zag,Zag,Zum]
 show Zdd (Zd f) (false,(p,t)) k=_
 unfold Zdd
 by_cases c:k=p
 ·rw [Xc ⟨rfl,c⟩,Xc c]
 ·rw [Xd (fun z=>c z.2),Xd c]
def Zho:Zmg:=(6,(0,(0,([],Zvm))))
theorem Zjs:Zeg Zho=true:=Zcx (by omega) (by omega) (by omega)
theorem Dev0.state {m:Zn} {z:Nat} {ph tr nd st dn:Int} {dg:Str} {v w:Nat} (h:Dev0 m z ph tr nd st dn dg v w):stM m=some (ph,tr,nd,st,dn,dg,v,w):=by
 obtain ⟨i1,i2⟩:=h.r
 have hb:=h.b
 unfold stM
 rw [Xc ⟨⟨by omega,by omega⟩,h.fp.b,h.n⟩,Xc h.ok,h.txt,Zxdb h.kp h.sb]
theorem Dev.same {m m':Zn} {a:List Str} {ph tr nd st dn:Int} {dg:Str} {v w:Nat} (h:Dev m a ph tr nd st dn dg v w) (h1:m'.1=m.1) (h2:FlashP m'.2) (h3:m'.2.1.length=m.2.1.length) (h4:∀k:Int,0≤k→Zd m'.2 k=Zd m.2 k):Dev m' a ph tr nd st dn dg v w:=
 (h.less.onto h1 h2 h3 (Z5k (h4 0 (by omega)) (h4 1 (by omega)))).more h.img fun i hi=>by
  rw [h4 _ (by omega)];exact h.base i hi
section
variable {m:Zn} {a b:List Str} {L:List Zk} {nd st:Int} {dg:Str} {w dn:Nat}
theorem Folding.still (h:Folding m a b L nd st dg w dn):Zpd m=(m,0):=by
 unfold Zpd
 rw [h.dev.state]
 have e:Z6j m 5 0 nd st (dn:Int) dg 0 w=[]:=by
  show (if ((Z4b (Zd m.2 2) (dn:Int)).1=true∨(dn:Int)=40)∨_ then _ else _)=_;rw [Xc (.inl (.inl h.nt))]
 dsimp only
 rw [e]
 rfl
def Zuk (m:Zn) (b:List Str):Prop:=Dev m b 1 0 0 0 0 [] 0 0∧m.2.2=[]
theorem Zuk.still (h:Zuk m b):Zpd m=(m,0):=by
 unfold Zpd
 rw [h.1.state]
 rfl
theorem Z91 (h:Folding m a b L nd st dg w dn) (hlt:dn<(Zg L).length) (h8:(Z8f m st (dn:Int) w).length=8):Z1h m 5 0 nd st (dn:Int) dg 0 w=([(false,(2,Zcb (dn:Int) (Z2g m st (dn:Int) w) (Z8f m st (dn:Int) w))),Zp]++([(false,(Z2g m st (dn:Int) w,Z8f m st (dn:Int) w)),Zp]++Zgb m.2 5 0 nd st ((dn:Int)+1) dg 0 w),([],([((Zg L).length:Int)-((dn:Int)+1)],0))):=by
 unfold Z1h
 rw [Xc rfl,h.log.log,Xd (by omega),Xc h8]
 rfl
theorem Folding.redo (C:FoldC a b L st) (h:Folding m a b L nd st dg w dn) {p:Int} {d:Str} (M:MoveF m a b L nd st dg w dn p d) (hd:dn<40) {g:Zu} (h1:FlashP g) (h2:g.1.length=m.2.1.length) (h3:Zf g=Zf m.2) (h4:Zd g 2=Zcb (dn:Int) p d) (h5:∀k:Int,3≤k→k≠p→Zd g k=Zd m.2 k):
  ∃m',Zpd (m.1,g)=(m',0)∧Folding m' a b L nd st dg w (dn+1)∧(Zf m'.2).1=(Zf m.2).1+1:=by
 have hr:=M.rng
 have hB:Zgk (dn:Int) p d=true:=Zem.2 ⟨⟨by omega,by omega⟩,⟨by omega,by omega⟩,M.len⟩
 have hst:stM (m.1,g)=some (5,0,nd,st,(dn:Int),dg,0,w):=(h.dev.less.onto (m':=(m.1,g)) rfl h1 h2 h3).state
 have hN:Z4b (Zd g 2) (dn:Int)=(false,(p,d)):=by rw [h4];exact Zzlb hB
 have e:Z6j (m.1,g) 5 0 nd st (dn:Int) dg 0 w=[(false,(p,d)),Zp]++Zgb g 5 0 nd st ((dn:Int)+1) dg 0 w:=by
  show (if ((Z4b (Zd g 2) (dn:Int)).1=true∨(dn:Int)=40)∨(g.1.length:Int)≤(Z4b (Zd g 2) (dn:Int)).2.1 then [] else [Z4b (Zd g 2) (dn:Int),Zp]++Zgb g 5 0 nd st ((dn:Int)+1) dg 0 w)=_;rw [hN,Xd];rintro ((q | q) | q)
  ·cases q
  ·omega
  ·have q:(g.1.length:Int)≤p:=q
   omega
 have hup:∀k,Zde (Zd g) [(false,(p,d)),Zp] k=if k=p then d else Zd g k:=fun k=>by
  rw [Zag,Zag,Zum];show Zdd (Zd g) (false,(p,d)) k=_;unfold Zdd
  by_cases c:k=p
  ·rw [Xc ⟨rfl,c⟩,Xc c]
  ·rw [Xd (fun z=>c z.2),Xd c]
 obtain ⟨k1,k2⟩:=M.go (m.1,g) [(false,(p,d)),Zp] rfl h1 h2 h3 (Z7f (fun _=>⟨⟨by show 0≤p;omega,by show p<(g.1.length:Int);omega⟩,by show d.length≤96;have:=M.len;omega⟩) (Zgi _)) (fun x hx q=>by
  rcases Yj.1 hx with z | z
  ·rw [z]
   show 2≤p;omega
  ·rw [Yz.1 z] at q
   cases q) (fun k hk=>by
  rw [hup]
  by_cases c:k=p
  ·rw [Xc c,Xc c]
  ·rw [Xd c,Xd c]
   exact h5 k hk c) (by
  rw [hup,Xd (by omega)];show (Z4b (Zd g 2) _).1=true;rw [h4];exact Z03 hB (by omega))
 refine ⟨_,?_,k1,k2⟩
 unfold Zpd
 rw [hst]
 dsimp only
 rw [e]
theorem Z17 {l:List Z0b} {n:Nat} (fs:List Int):Zao m l (n:Int) fs=(m.1,Z6f (doF m.2 (l.take n)) fs):=rfl
theorem Folding.cut (C:FoldC a b L st) (h:Folding m a b L nd st dg w dn) (hlt:dn<(Zg L).length) (hg:(Zf m.2).1<1000000) (n:Nat) (fs:List Int):
  ∃m' dn',Zpd (Zao m (Z1h m 5 0 nd st (dn:Int) dg 0 w).1 (n:Int) fs)=(m',0)∧Folding m' a b L nd st dg w dn'∧(dn'=dn∨dn'=dn+1)∧(Zf m'.2).1≤(Zf m.2).1+1:=by
 have M:=h.move C hlt hg
 have hr:=M.rng
 have hpl:=Zjp L (Zue C.code).1 (Zrh C.code)
 rw [Z91 h hlt M.len,Zgn hg,Z17]
 generalize Z2g m st (dn:Int) w=p at M hr
 generalize Z8f m st (dn:Int) w=d at M
 have hB:Zgk (dn:Int) p d=true:=Zem.2 ⟨⟨by omega,by omega⟩,⟨by omega,by omega⟩,M.len⟩
 have hF:=h.dev.fp
 have hn27:=h.dev.n
 have hmb:=h.dev.b
 have hcl:=h.cl
 have hto:=Zaw m.2
 have K:=h.dev.kp
 have K1:Keep 5 0 nd st ((dn:Int)+1) dg 0 w:={ K with e:=by omega }
 have hG0:=Z0s m.2
 generalize hT:Z0e ((Zf m.2).1+1) (Z6e (5,0,nd,st,(dn:Int)+1,((0:Nat):Int),(w:Int),dg))=T
 have hTl:T.length≤96:=by rw [← hT];exact Zn3 (by omega) (by omega) K1.len
 have hTp:∀i,i<T.length→(Z6 (T.take i)).2.2≠0:=fun i hi=>by
  rw [← hT] at hi ⊢;exact Z3ab ⟨by omega,by omega⟩ K1.len hi
 have fN:(0≤(2:Int)∧(2:Int)<(m.2.1.length:Int))∧(Zcb (dn:Int) p d).length≤96:=⟨⟨by omega,by omega⟩,Zz3 ⟨by omega,by omega⟩ ⟨by omega,by omega⟩ (by have:=M.len;omega)⟩
 obtain ⟨F1,l1,c1,g1⟩:=Z1z hF fN
 have fD:(0≤p∧p<((doF m.2 [(false,(2,Zcb (dn:Int) p d)),Zp]).1.length:Int))∧d.length≤96:=⟨⟨by omega,by omega⟩,by have:=M.len;omega⟩
 obtain ⟨F2,l2,c2,g2⟩:=Z1z F1 fD
 have e2:doF (doF m.2 [(false,(2,Zcb (dn:Int) p d)),Zp]) [(false,(p,d)),Zp]=doF m.2 [(false,(2,Zcb (dn:Int) p d)),Zp,(false,(p,d)),Zp]:=rfl
 rw [e2] at F2 l2 c2 g2
 have fM:(0≤toF m.2∧toF m.2<((doF m.2 [(false,(2,Zcb (dn:Int) p d)),Zp,(false,(p,d)),Zp]).1.length:Int))∧T.length≤96:=⟨⟨by omega,by omega⟩,hTl⟩
 have gg1:∀k:Int,0≤k→k≠2→Zd (doF m.2 [(false,(2,Zcb (dn:Int) p d)),Zp]) k=Zd m.2 k:=fun k hk q=>by rw [g1 k hk,Xd q]
 have gg2:∀k:Int,0≤k→k≠2→k≠p→Zd (doF m.2 [(false,(2,Zcb (dn:Int) p d)),Zp,(false,(p,d)),Zp]) k=Zd m.2 k:=fun k hk q q2=>by rw [g2 k hk,Xd q2,gg1 k hk q]
 have gn1:Zd (doF m.2 [(false,(2,Zcb (dn:Int) p d)),Zp]) 2=Zcb (dn:Int) p d:=by rw [g1 2 (by omega),Xc rfl]
 have gn2:Zd (doF m.2 [(false,(2,Zcb (dn:Int) p d)),Zp,(false,(p,d)),Zp]) 2=Zcb (dn:Int) p d:=by rw [g2 2 (by omega),Xd (by omega),gn1]
 have m1:Zf (doF m.2 [(false,(2,Zcb (dn:Int) p d)),Zp])=Zf m.2:=Z5k (gg1 0 (by omega) (by omega)) (gg1 1 (by omega) (by omega))
 have m2:Zf (doF m.2 [(false,(2,Zcb (dn:Int) p d)),Zp,(false,(p,d)),Zp])=Zf m.2:=Z5k (gg2 0 (by omega) (by omega) (by omega)) (gg2 1 (by omega) (by omega) (by omega))
 have mid:∀g:Zu,FlashP g→g.1.length=m.2.1.length→Zf g=Zf m.2→Zd g 2=Zcb (dn:Int) p d→(∀k:Int,3≤k→k≠p→Zd g k=Zd m.2 k)→∃m' dn',Zpd (m.1,g)=(m',0)∧Folding m' a b L nd st dg w dn'∧(dn'=dn∨dn'=dn+1)∧(Zf m'.2).1≤(Zf m.2).1+1:=fun g q1 q2 q3 q4 q5=>by
  obtain ⟨m',r1,r2,r3⟩:=h.redo C M (by omega) q1 q2 q3 q4 q5;exact ⟨m',dn+1,r1,r2,.inr rfl,by omega⟩
 have early:∀g:Zu,FlashP g→g.1.length=m.2.1.length→g.2=[]→(∀k:Int,0≤k→k≠2→Zd g k=Zd m.2 k)→(Z4b (Zd g 2) (dn:Int)).1=true→∃m' dn',Zpd (m.1,g)=(m',0)∧Folding m' a b L nd st dg w dn'∧(dn'=dn∨dn'=dn+1)∧(Zf m'.2).1≤(Zf m.2).1+1:=fun g q1 q2 q3 q4 q5=>by
  have hm:=Z5k (f:=m.2) (f':=g) (q4 0 (by omega) (by omega)) (q4 1 (by omega) (by omega));have hf:=h.onto (m':=(m.1,g)) rfl q1 q2 hm q3 (fun k hk=>q4 k (by omega) (by omega)) q5;exact ⟨_,dn,hf.still,hf,.inl rfl,by show (Zf g).1≤_;rw [hm];omega⟩
 have late:∃m',m'=(m.1,doF m.2 [(false,(2,Zcb (dn:Int) p d)),Zp,(false,(p,d)),Zp,(false,(toF m.2,T)),Zp])∧Folding m' a b L nd st dg w (dn+1)∧(Zf m'.2).1=(Zf m.2).1+1:=by
  have hup:∀k,Zde (Zd m.2) [(false,(2,Zcb (dn:Int) p d)),Zp,(false,(p,d)),Zp] k=if k=p then d else if k=2 then Zcb (dn:Int) p d else Zd m.2 k:=fun k=>by
   rw [Zag,Zag,Zag,Zag,Zum,Zum];show Zdd (Zdd (Zd m.2) (false,(2,_))) (false,(p,d)) k=_;unfold Zdd
   by_cases c:k=p
   ·rw [Xc ⟨rfl,c⟩,Xc c]
   ·rw [Xd (fun z=>c z.2),Xd c]
    by_cases c2:k=2
    ·rw [Xc ⟨rfl,c2⟩,Xc c2]
    ·rw [Xd (fun z=>c2 z.2),Xd c2]
  obtain ⟨k1,k2⟩:=M.go m [(false,(2,Zcb (dn:Int) p d)),Zp,(false,(p,d)),Zp] rfl hF rfl rfl (Z7f (fun _=>fN) (Z7f (Zhs _) (Z7f (fun _=>⟨⟨by show 0≤p;omega,by show p<_;omega⟩,by show d.length≤96;have:=M.len;omega⟩) (Zgi _)))) (fun x hx q=>by
   rcases Yj.1 hx with z | z
   ·rw [z];show (2:Int)≤2;omega
   ·rcases Yj.1 z with z | z
    ·rw [z] at q;cases q
    ·rcases Yj.1 z with z | z
     ·rw [z];show 2≤p;omega
     ·rw [Yz.1 z] at q;cases q) (fun k hk=>by
   rw [hup]
   by_cases c:k=p
   ·rw [Xc c,Xc c]
   ·rw [Xd c,Xd c,Xd (by omega)]) (by
   rw [hup,Xd (by omega),Xc rfl];exact Z03 hB (by omega))
  rw [Zgn hg,hT] at k1 k2;exact ⟨_,rfl,k1,k2⟩
 obtain ⟨m3,e3,k3,k4⟩:=late
 have hlate:∀g:Zu,FlashP g→g.1.length=m.2.1.length→g.2=[]→(∀k:Int,0≤k→Zd g k=Zd m3.2 k)→∃m' dn',Zpd (m.1,g)=(m',0)∧Folding m' a b L nd st dg w dn'∧(dn'=dn∨dn'=dn+1)∧(Zf m'.2).1≤(Zf m.2).1+1:=fun g q1 q2 q3 q4=>by
  have hm:=Z5k (f:=m3.2) (f':=g) (q4 0 (by omega)) (q4 1 (by omega));have h31:m3.1=m.1:=by rw [e3]
  have hl3:m3.2.1.length=m.2.1.length:=by
   have:=k3.dev.n;rw [h31] at this;omega
  have hf:=k3.onto (m':=(m.1,g)) h31.symm q1 (by rw [hl3];exact q2) hm q3 (fun k hk=>q4 k (by omega)) (by
   show (Z4b (Zd g 2) _).1=true;rw [q4 2 (by omega)];exact k3.nt)
  exact ⟨_,dn+1,hf.still,hf,.inr rfl,by show (Zf g).1≤_;rw [hm];omega⟩
 have F3fit:Zoc m.2.1.length [(false,(2,Zcb (dn:Int) p d)),Zp,(false,(p,d)),Zp,(false,(toF m.2,T)),Zp]:=Z7f (fun _=>fN) (Z7f (Zhs _) (Z7f (fun _=>⟨⟨by show 0≤p;omega,by show p<_;omega⟩,by show d.length≤96;have:=M.len;omega⟩) (Z7f (Zhs _) (Z7f (fun _=>⟨⟨by show 0≤toF m.2;omega,by show toF m.2<_;omega⟩,hTl⟩) (Zgi _)))))
 obtain ⟨F3,l3⟩:=hF.acts _ F3fit
 match n with
 | 0=>
  show ∃m' dn',Zpd (m.1,Z6f m.2 fs)=(m',0)∧_;rw [Zrq hcl];exact early m.2 hF rfl hcl (fun k _ _=>rfl) h.nt
 | 1=>
  show ∃m' dn',Zpd (m.1,Z6f (doF m.2 [(false,(2,Zcb (dn:Int) p d))]) fs)=(m',0)∧_;obtain ⟨g,eg,G1,G2,G3,G4,G5⟩:=Zfx hF hcl fN fs;rw [eg];rcases G5 with q | q | ⟨i,hi,q⟩
  ·exact early g G1 G2 G3 G4 (by rw [q];exact h.nt)
  ·exact mid g G1 G2 (Z5k (G4 0 (by omega) (by omega)) (G4 1 (by omega) (by omega))) q fun k hk _=>G4 k (by omega) (by omega)
  ·exact early g G1 G2 G3 G4 (by rw [q];exact Z0lb hB hi _)
 | 2=>
  show ∃m' dn',Zpd (m.1,Z6f (doF m.2 [(false,(2,Zcb (dn:Int) p d)),Zp]) fs)=(m',0)∧_;rw [Zrq c1];exact mid _ F1 l1 m1 gn1 fun k hk _=>gg1 k (by omega) (by omega)
 | 3=>
  show ∃m' dn',Zpd (m.1,Z6f (doF (doF m.2 [(false,(2,Zcb (dn:Int) p d)),Zp]) [(false,(p,d))]) fs)=(m',0)∧_;obtain ⟨g,eg,G1,G2,G3,G4,G5⟩:=Zfx F1 c1 fD fs;rw [eg];refine mid g G1 (G2.trans l1) ?_ (by rw [G4 2 (by omega) (by omega),gn1]) fun k hk q=>by rw [G4 k (by omega) q,gg1 k (by omega) (by omega)]
  rw [← m1];exact Z5k (G4 0 (by omega) (by omega)) (G4 1 (by omega) (by omega))
 | 4=>
  show ∃m' dn',Zpd (m.1,Z6f (doF m.2 [(false,(2,Zcb (dn:Int) p d)),Zp,(false,(p,d)),Zp]) fs)=(m',0)∧_;rw [Zrq c2];exact mid _ F2 (l2.trans l1) m2 gn2 fun k hk q=>gg2 k (by omega) (by omega) q
 | 5=>
  show ∃m' dn',Zpd (m.1,Z6f (doF (doF m.2 [(false,(2,Zcb (dn:Int) p d)),Zp,(false,(p,d)),Zp]) [(false,(toF m.2,T))]) fs)=(m',0)∧_;obtain ⟨g,eg,G1,G2,G3,G4,G5⟩:=Zfx F2 c2 fM fs;rw [eg];have hmid:Zf g=Zf m.2→∃m' dn',Zpd (m.1,g)=(m',0)∧Folding m' a b L nd st dg w dn'∧(dn'=dn∨dn'=dn+1)∧(Zf m'.2).1≤(Zf m.2).1+1:=fun hm=>mid g G1 (G2.trans (l2.trans l1)) hm (by rw [G4 2 (by omega) (by omega),gn2]) fun k hk q=>by rw [G4 k (by omega) (by omega),gg2 k (by omega) (by omega) q]
  rcases G5 with q | q | ⟨i,hi,q⟩
  ·refine hmid ?_
   have all:∀k:Int,0≤k→k≠2→k≠p→Zd g k=Zd m.2 k:=fun k hk q1 q2=>by
    by_cases c:k=toF m.2
    ·rw [c,q,← c,gg2 k hk q1 q2]
    ·rw [G4 k hk c,gg2 k hk q1 q2]
   exact Z5k (all 0 (by omega) (by omega) (by omega)) (all 1 (by omega) (by omega) (by omega))
  ·refine hlate g G1 (G2.trans (l2.trans l1)) G3 fun k hk=>?_
   rw [e3];show _=Zd (doF (doF m.2 [(false,(2,Zcb (dn:Int) p d)),Zp,(false,(p,d)),Zp]) [(false,(toF m.2,T)),Zp]) k;obtain ⟨_,_,_,g3⟩:=Z1z F2 fM;rw [g3 k hk]
   by_cases c:k=toF m.2
   ·rw [Xc c,c,q]
   ·rw [Xd c,G4 k hk c]
  ·refine hmid (Z2ab h.dev.ok (by rw [q];exact hTp i hi) ?_)
   rw [G4 _ (by omega) (by omega),gg2 _ (by omega) (by omega) (by omega)]
 | n+6=>
  have e:([(false,(2,Zcb (dn:Int) p d)),Zp]++([(false,(p,d)),Zp]++[(false,(toF m.2,T)),Zp])).take (n+6)=[(false,(2,Zcb (dn:Int) p d)),Zp,(false,(p,d)),Zp,(false,(toF m.2,T)),Zp]:=Yo (by simp);show ∃m' dn',Zpd (m.1,Z6f (doF m.2 (([(false,(2,Zcb (dn:Int) p d)),Zp]++([(false,(p,d)),Zp]++[(false,(toF m.2,T)),Zp])).take (n+6))) fs)=(m',0)∧_;have c3:(doF m.2 [(false,(2,Zcb (dn:Int) p d)),Zp,(false,(p,d)),Zp,(false,(toF m.2,T)),Zp]).2=[]:=Zfu m.2 [(false,(2,Zcb (dn:Int) p d)),Zp,(false,(p,d)),Zp,(false,(toF m.2,T))];rw [e,Zrq c3];exact hlate _ F3 l3 c3 fun k _=>by rw [e3]
end
section
variable {m:Zn} {a b:List Str} {L:List Zk} {nd st:Int} {dg:Str} {w dn:Nat}
theorem Folding.acts (C:FoldC a b L st) (h:Folding m a b L nd st dg w dn) (hg:(Zf m.2).1<1000000):Z4j m Zho=Z1h m 5 0 nd st (dn:Int) dg 0 w:=by
 rw [h.dev.acts (fun _=>h.sound C) Zjs hg]
 rfl
theorem Folding.right (C:FoldC a b L st) (h:Folding m a b L nd st dg w dn):Zaf m=true:=h.dev.right fun _=>h.sound C
theorem Folding.did (C:FoldC a b L st) (h:Folding m a b L nd st dg w dn) (hlt:dn<(Zg L).length) (hg:(Zf m.2).1<1000000):
  ∃m',(m.1,doF m.2 (Z1h m 5 0 nd st (dn:Int) dg 0 w).1)=m'∧Folding m' a b L nd st dg w (dn+1)∧(Zf m'.2).1=(Zf m.2).1+1:=by
 have M:=h.move C hlt hg
 have hr:=M.rng
 have hpl:=Zjp L (Zue C.code).1 (Zrh C.code)
 rw [Z91 h hlt M.len]
 generalize Z2g m st (dn:Int) w=p at M hr
 generalize Z8f m st (dn:Int) w=d at M
 have hB:Zgk (dn:Int) p d=true:=Zem.2 ⟨⟨by omega,by omega⟩,⟨by omega,by omega⟩,M.len⟩
 have hF:=h.dev.fp
 have hn27:=h.dev.n
 have hmb:=h.dev.b
 have fN:(0≤(2:Int)∧(2:Int)<(m.2.1.length:Int))∧(Zcb (dn:Int) p d).length≤96:=⟨⟨by omega,by omega⟩,Zz3 ⟨by omega,by omega⟩ ⟨by omega,by omega⟩ (by have:=M.len;omega)⟩
 have hup:∀k,Zde (Zd m.2) [(false,(2,Zcb (dn:Int) p d)),Zp,(false,(p,d)),Zp] k=if k=p then d else if k=2 then Zcb (dn:Int) p d else Zd m.2 k:=fun k=>by
  rw [Zag,Zag,Zag,Zag,Zum,Zum];show Zdd (Zdd (Zd m.2) (false,(2,_))) (false,(p,d)) k=_;unfold Zdd
  by_cases c:k=p
  ·rw [Xc ⟨rfl,c⟩,Xc c]
  ·rw [Xd (fun z=>c z.2),Xd c]
   by_cases c2:k=2
   ·rw [Xc ⟨rfl,c2⟩,Xc c2]
   ·rw [Xd (fun z=>c2 z.2),Xd c2]
 obtain ⟨k1,k2⟩:=M.go m [(false,(2,Zcb (dn:Int) p d)),Zp,(false,(p,d)),Zp] rfl hF rfl rfl (Z7f (fun _=>fN) (Z7f (Zhs _) (Z7f (fun _=>⟨⟨by show 0≤p;omega,by show p<_;omega⟩,by show d.length≤96;have:=M.len;omega⟩) (Zgi _)))) (fun x hx q=>by
  rcases Yj.1 hx with z | z
  ·rw [z];show (2:Int)≤2;omega
  ·rcases Yj.1 z with z | z
   ·rw [z] at q;cases q
   ·rcases Yj.1 z with z | z
    ·rw [z];show 2≤p;omega
    ·rw [Yz.1 z] at q;cases q) (fun k hk=>by
  rw [hup]
  by_cases c:k=p
  ·rw [Xc c,Xc c]
  ·rw [Xd c,Xd c,Xd (by omega)]) (by
  rw [hup,Xd (by omega),Xc rfl];exact Z03 hB (by omega))
 exact ⟨_,rfl,k1,k2⟩
theorem Folding.over (C:FoldC a b L st) (h:Folding m a b L nd st dg w dn) (he:dn=(Zg L).length):Z6k a b (Zg L) dn=b:=by
 obtain ⟨left,sl,hp,_⟩:=h.pl
 have hl:=C.len
 subst he
 have hnil:=hp.fin
 refine Yv (by rw [Zih,hl]) fun j h1 h2=>?_
 have hj:j<a.length:=by omega
 rw [← Z3g h1,← Z3g h2,Zcm hj]
 by_cases c:Zhe (Zg L) (Zg L).length (j:Int)=true
 ·rw [Xc c]
 ·rw [Xd c]
  refine (C.same hj fun i hi q=>?_).symm;have:=(hp.done i hi).2 (by rw [q];simpa using c);rw [hnil] at this;cases this
theorem Folding.last (C:FoldC a b L st) (h:Folding m a b L nd st dg w dn) (he:dn=(Zg L).length):Z1h m 5 0 nd st (dn:Int) dg 0 w=(Zgb m.2 1 0 0 0 0 [] 0 0,([],([0],0))):=by
 unfold Z1h
 rw [Xc rfl,h.log.log,Xc (by omega)]
 rfl
theorem Folding.done (C:FoldC a b L st) (h:Folding m a b L nd st dg w dn) (he:dn=(Zg L).length) (hg:(Zf m.2).1<1000000):
  Zuk (m.1,doF m.2 (Zgb m.2 1 0 0 0 0 [] 0 0)) b∧(Zf (doF m.2 (Zgb m.2 1 0 0 0 0 [] 0 0))).1=(Zf m.2).1+1:=by
 have hd:=h.dev
 rw [h.over C he] at hd
 obtain ⟨k1,k2,k3,k4⟩:=hd.keep (pre:=[]) (Zxl _) (fun x hx=>(by cases hx)) hg rfl hd.img (fun i hi=>hd.base i hi) (Zek (v:=0) (by decide)) (by
  unfold Zre;rw [Xc rfl,Yda,Zmq];rfl)
 exact ⟨⟨k1,k3⟩,k2⟩
theorem Folding.cutLast (C:FoldC a b L st) (h:Folding m a b L nd st dg w dn) (he:dn=(Zg L).length) (hg:(Zf m.2).1<1000000) (n:Nat) (fs:List Int):
  ∃m',Zpd (Zao m (Z1h m 5 0 nd st (dn:Int) dg 0 w).1 (n:Int) fs)=(m',0)∧(Folding m' a b L nd st dg w dn∨Zuk m' b)∧(Zf m'.2).1≤(Zf m.2).1+1:=by
 obtain ⟨k1,k2⟩:=h.done C he hg
 rw [h.last C he]
 rw [Zgn hg] at k1 k2 ⊢
 rw [Z17]
 have hF:=h.dev.fp
 have hn27:=h.dev.n
 have hmb:=h.dev.b
 have hcl:=h.cl
 have hto:=Zaw m.2
 have K1:Keep 1 0 0 0 0 [] 0 0:=Zek (by decide)
 have hG0:=Z0s m.2
 generalize hT:Z0e ((Zf m.2).1+1) (Z6e (1,0,0,0,0,((0:Nat):Int),((0:Nat):Int),[]))=T at k1 k2 ⊢
 have hTl:T.length≤96:=by rw [← hT];exact Zn3 (by omega) (by omega) K1.len
 have hTp:∀i,i<T.length→(Z6 (T.take i)).2.2≠0:=fun i hi=>by
  rw [← hT] at hi ⊢;exact Z3ab ⟨by omega,by omega⟩ K1.len hi
 have fM:(0≤toF m.2∧toF m.2<(m.2.1.length:Int))∧T.length≤96:=⟨⟨by omega,by omega⟩,hTl⟩
 obtain ⟨F1,l1,c1,g1⟩:=Z1z hF fM
 have still:∀g:Zu,FlashP g→g.1.length=m.2.1.length→g.2=[]→Zf g=Zf m.2→(∀k:Int,2≤k→Zd g k=Zd m.2 k)→∃m',Zpd (m.1,g)=(m',0)∧(Folding m' a b L nd st dg w dn∨Zuk m' b)∧(Zf m'.2).1≤(Zf m.2).1+1:=fun g q1 q2 q3 q4 q5=>by
  have hf:=h.onto (m':=(m.1,g)) rfl q1 q2 q4 q3 (fun k hk=>q5 k (by omega)) (by
   show (Z4b (Zd g 2) _).1=true;rw [q5 2 (by omega)];exact h.nt)
  exact ⟨_,hf.still,.inl hf,by show (Zf g).1≤_;rw [q4];omega⟩
 have last:∀g:Zu,FlashP g→g.1.length=m.2.1.length→g.2=[]→(∀k:Int,0≤k→Zd g k=Zd (doF m.2 [(false,(toF m.2,T)),Zp]) k)→∃m',Zpd (m.1,g)=(m',0)∧(Folding m' a b L nd st dg w dn∨Zuk m' b)∧(Zf m'.2).1≤(Zf m.2).1+1:=fun g q1 q2 q3 q4=>by
  have hi:Zuk (m.1,g) b:=⟨k1.1.same (m':=(m.1,g)) rfl q1 (q2.trans l1.symm) q4,q3⟩;have hm:=Z5k (f:=doF m.2 [(false,(toF m.2,T)),Zp]) (f':=g) (q4 0 (by omega)) (q4 1 (by omega));exact ⟨_,hi.still,.inr hi,by show (Zf g).1≤_;rw [hm,k2];omega⟩
 match n with
 | 0=>
  show ∃m',Zpd (m.1,Z6f m.2 fs)=(m',0)∧_;rw [Zrq hcl];exact still m.2 hF rfl hcl rfl fun k _=>rfl
 | 1=>
  show ∃m',Zpd (m.1,Z6f (doF m.2 [(false,(toF m.2,T))]) fs)=(m',0)∧_;obtain ⟨g,eg,G1,G2,G3,G4,G5⟩:=Zfx hF hcl fM fs;rw [eg];rcases G5 with q | q | ⟨i,hi,q⟩
  ·have all:∀k:Int,0≤k→Zd g k=Zd m.2 k:=fun k hk=>by
    by_cases c:k=toF m.2
    ·rw [c,q]
    ·exact G4 k hk c
   exact still g G1 G2 G3 (Z5k (all 0 (by omega)) (all 1 (by omega))) fun k hk=>all k (by omega)
  ·refine last g G1 G2 G3 fun k hk=>?_
   rw [g1 k hk]
   by_cases c:k=toF m.2
   ·rw [Xc c,c,q]
   ·rw [Xd c,G4 k hk c]
  ·exact still g G1 G2 G3 (Z2ab h.dev.ok (by rw [q];exact hTp i hi) (G4 _ (by omega) (by omega))) fun k hk=>G4 k (by omega) (by omega)
 | n+2=>
  have e:([(false,(toF m.2,T)),Zp]:List Z0b).take (n+2)=[(false,(toF m.2,T)),Zp]:=Yo (by simp);show ∃m',Zpd (m.1,Z6f (doF m.2 (([(false,(toF m.2,T)),Zp]:List Z0b).take (n+2))) fs)=(m',0)∧_;rw [e,Zrq c1];exact last _ F1 l1 c1 fun k _=>rfl
def Z9h (m:Zn) (a b:List Str) (L:List Zk) (nd st:Int) (dg:Str) (w k:Nat):Prop:=(∃dn,k≤dn∧Folding m a b L nd st dg w dn)∨Zuk m b
theorem Z9h.cut {k:Nat} (C:FoldC a b L st) (h:Z9h m a b L nd st dg w k) (hg:(Zf m.2).1<1000000) (n:Nat) (fs:List Int) (hf:fs.length≤400):
  ∃c m',Zuq m Zho (n:Int) fs=(c,0)∧Zpd c=(m',0)∧Z9h m' a b L nd st dg w k∧(Zf m'.2).1≤(Zf m.2).1+1:=by
 rcases h with ⟨dn,hk,h⟩ | h
 ·have e:Zuq m Zho (n:Int) fs=(Zao m (Z1h m 5 0 nd st (dn:Int) dg 0 w).1 (n:Int) fs,0):=by
   unfold Zuq;rw [Xd (by omega),Xc ⟨⟨h.right C,Zjs⟩,by omega⟩,h.acts C hg]
  rw [e]
  by_cases c:dn=(Zg L).length
  ·obtain ⟨m',k1,k2,k3⟩:=h.cutLast C c hg n fs
   refine ⟨_,m',rfl,k1,?_,k3⟩;rcases k2 with q | q
   ·exact .inl ⟨dn,hk,q⟩
   ·exact .inr q
  ·obtain ⟨m',dn',k1,k2,k3,k4⟩:=h.cut C (by have:=h.le;omega) hg n fs
   exact ⟨_,m',rfl,k1,.inl ⟨dn',by omega,k2⟩,k4⟩
 ·have hr:Zaf m=true:=h.1.right fun q=>by omega
  have e:Zuq m Zho (n:Int) fs=(m,0):=by
   unfold Zuq;rw [Xd (by omega),Xc ⟨⟨hr,Zjs⟩,by omega⟩,h.1.acts (fun q=>by omega) Zjs hg];have:(Zai m Zho 1 0 0 0 0 [] 0 0).1=[]:=rfl;rw [this,Zkgb h.2]
  rw [e];exact ⟨_,m,rfl,h.still,.inr h,by omega⟩
theorem Z9h.fold {k:Nat} (C:FoldC a b L st) (h:Z9h m a b L nd st dg w k) (hg:(Zf m.2).1<1000000):
  ∃ph,(∃tr nd' st' dn dg' v w',stM m=some (ph,tr,nd',st',dn,dg',v,w'))∧((ph=5∧∃m' t r,doR m Zho=(m',(t,(r,0)))∧Z9h m' a b L nd st dg w (k+1)∧(Zf m'.2).1≤(Zf m.2).1+1)∨(ph=1∧Zuk m b)):=by
 rcases h with ⟨dn,hk,h⟩ | h
 ·refine ⟨5,⟨_,_,_,_,_,_,_,h.dev.state⟩,.inl ⟨rfl,?_⟩⟩
  have e:doR m Zho=((m.1,doF m.2 (Z1h m 5 0 nd st (dn:Int) dg 0 w).1),(Z1h m 5 0 nd st (dn:Int) dg 0 w).2):=by
   unfold doR;rw [Xc ⟨h.right C,Zjs⟩,h.acts C hg]
  rw [e]
  by_cases c:dn=(Zg L).length
  ·obtain ⟨k1,k2⟩:=h.done C c hg
   rw [h.last C c];exact ⟨_,_,_,rfl,.inr k1,by rw [k2];omega⟩
  ·have hlt:dn<(Zg L).length:=by have:=h.le;omega
   obtain ⟨m',k1,k2,k3⟩:=h.did C hlt hg;rw [k1,Z91 h hlt (h.move C hlt hg).len];exact ⟨m',_,_,rfl,.inl ⟨dn+1,by omega,k2⟩,by omega⟩
 ·exact ⟨1,⟨_,_,_,_,_,_,_,h.1.state⟩,.inr ⟨rfl,h⟩⟩
end
def Z6b (a:List Str):List Str:=Yk 3 []++a++Yk 24 []
def Z6i (a:List Str):Zu:=doF (Z6b a,[]) (Zgb (Z6b a,[]) 1 0 0 0 0 [] 0 0)
def Z7k (a:List Str):Zn:=((a.length:Int),Z6i a)
theorem Z4s (a:List Str):(Z6b a).length=a.length+27:=by
 unfold Z6b
 simp only [Yc,Yt]
 omega
theorem Zv3 (a:List Str) {i:Nat} (h:i<3):(Z6b a).getD i []=[]:=by
 unfold Z6b
 rw [Y4,Yg,Y5 (by simpa using h),Y9]
 simp [h]
theorem Z8ab (a:List Str) {i:Nat} (h:i<a.length):(Z6b a).getD (3+i) []=a.getD i []:=by
 unfold Z6b
 rw [Y4,Yg,Y6 (by simp),Yt,Y5 (by omega),Yg,show 3+i-3=i by omega]
theorem Zu3 (a:List Str) (n:Int):Zd (Z6b a,[]) n=(Z6b a).getD n.toNat []:=rfl
theorem Zmlb:(Z6 []).2.2≠0:=by decide
theorem newG (a:List Str):Zf (Z6b a,[])=(0,[],6,-1):=by
 have h0:Zd (Z6b a,[]) 0=[]:=by rw [Zu3];exact Zv3 a (by decide)
 have h1:Zd (Z6b a,[]) 1=[]:=by rw [Zu3];exact Zv3 a (by decide)
 have:=Zmlb
 unfold Zf
 rw [h0,h1,Xd (fun q=>this q.1),Xd this]
theorem Zw3 {a:List Str} (h:Zvb a=true):FlashP (Z6b a,[]):=by
 obtain ⟨i1,i2,i3⟩:=Zig h
 have hl:=Z4s a
 refine ⟨⟨by show 1≤(Z6b a).length;omega,by show (Z6b a).length≤40;omega⟩,fun x hx=>?_,fun x hx=>(by cases hx),List.nodup_nil⟩
 unfold Z6b at hx
 rcases Yaa.1 hx with hx | hx
 ·rcases Yaa.1 hx with hx | hx
  ·rw [(Yba.1 hx).2]
   simp
  ·rw [i3 x hx]
   omega
 ·rw [(Yba.1 hx).2]
  simp
theorem Zqgb {a:List Str} (h:Zvb a=true):Dev (Z7k a) a 1 0 0 0 0 [] 0 0∧(Zf (Z7k a).2).1=1∧(Z7k a).2.2=[]:=by
 obtain ⟨i1,i2,i3⟩:=Zig h
 have hl:=Z4s a
 have hG:=newG a
 have hg:(Zf (Z6b a,[])).1<1000000:=by rw [hG];decide
 have K:Keep 1 0 0 0 0 [] 0 0:=Zek (by decide)
 have hp:=Zw3 h
 have ht:toF (Z6b a,[])=1∨toF (Z6b a,[])=0:=(Zaw _).symm
 have hfit:Zoc (Z6b a).length (Zgb (Z6b a,[]) 1 0 0 0 0 [] 0 0):=Zji (by omega) K
 obtain ⟨hF,hlen⟩:=hp.acts _ hfit
 have hlen:(Z6i a).1.length=(Z6b a).length:=hlen
 have hget:∀k:Int,0≤k→Zd (Z6i a) k=if k=toF (Z6b a,[]) then Z0e ((Zf (Z6b a,[])).1+1) (Z6e (1,0,0,0,0,((0:Nat):Int),((0:Nat):Int),[])) else Zd (Z6b a,[]) k:=fun k hk=>by
  unfold Z6i;rw [Zls _ hp hfit hk,Zgn hg,Zag,Zag,Zum];generalize Z0e ((Zf (Z6b a,[])).1+1) (Z6e (1,0,0,0,0,((0:Nat):Int),((0:Nat):Int),[]))=T;generalize toF (Z6b a,[])=p;show Zdd (Zd (Z6b a,[])) (false,(p,T)) k=_;unfold Zdd
  by_cases c:k=p
  ·rw [Xc ⟨rfl,c⟩,Xc c]
  ·rw [Xd (fun z=>c z.2),Xd c]
 have hM:=Zv2 (f:=(Z6b a,[])) (f':=Z6i a) hg K.len (by rw [hget _ (by omega),Xc rfl]) (by rw [hget _ (by omega),Xd (by omega)])
 rw [hG] at hM
 have e0:(Zf (Z6i a)).2.2.1=0:=by rw [hM]
 have e1:(Zf (Z6i a)).1=1:=by rw [hM];rfl
 have e2:(Zf (Z6i a)).2.1=Z6e (1,0,0,0,0,((0:Nat):Int),((0:Nat):Int),[]):=by rw [hM]
 have e3:(Z6i a).2=[]:=by
  have e:∀x:Z0b,[x,Zp]=[x]++[Zp]:=fun _=>rfl
  unfold Z6i;rw [Zgn hg,e];exact Zfu _ _
 have e4:∀i:Nat,i<a.length→Zd (Z6i a) (3+(i:Int))=a.getD i []:=fun i hi=>by
  rw [hget _ (by omega),Xd (by omega),Zu3,show (3+(i:Int)).toNat=3+i by omega];exact Z8ab a hi
 have e5:((Z6i a).1.length:Int)=(a.length:Int)+27:=by omega
 have e6:Zre 1 0 0 0 0 [] 0 0=true:=by
  unfold Zre;rw [Xc rfl,Yda,Zmq];rfl
 have hF:FlashP (Z6i a):=hF
 clear hM hget hlen
 unfold Z7k
 generalize Z6i a=f at *
 exact ⟨⟨rfl,h,hF,e5,e0,e2,K,e6,e4⟩,e1,e3⟩
theorem Za8 {f:Zu} {n:Int} {i:Nat} (h:Zch f n=some i):(f.2.getD i (0,[])).1=n:=by
 obtain ⟨_,h2,h3,_⟩:=Zmj (show Zab (fun x:Zic=>x.1==n) f.2 0=some i from h)
 rw [Zuu (Z8r h)]
 simpa using h3
theorem Zlkb {f:Zu} (h:FlashP f) (n:Int) (s:Str) {k:Nat} (hk:100≤k):Zpo k f n s=some (Zri f n s):=by
 have hl:=h.len
 have hn:=h.n
 unfold Zpo Zri
 refine Za (Z3x f n (by omega) (by omega)) ?_
 cases hd:Zch f n with
 | some i=>
  have hi:=Z8r hd;have hat:=Zo0 (l:=f.2) (0,[]) hi;dsimp only;rw [Xa (by omega:(0:Int)≤(i:Int)),Xe];refine Za hat (Za hat ?_);rw [Yi,Za8 hd]
 | none=>
  dsimp only;rw [show decide ((0:Int)≤-1)=false from rfl,Xf];exact Za (Zsb (by simp;omega)) rfl
theorem Zfkb {f:Zu} (h:FlashP f) {k:Nat} (hk:100≤k):Znf k f=some (Zun f):=by
 have hl:=h.len
 have hn:=h.n
 have run:=Zgc (fun j i=>Znf.l0 j (f.2.length:Int) (i:Int) f.2 (Z6g f.1 (f.2.take i))) f.2.length (Z6g f.1 f.2,f.2) (fun i hi j=>?_) (fun j=>?_) k (by omega)
 ·have run:Znf.l0 k (f.2.length:Int) 0 f.2 f.1=some (Z6g f.1 f.2,f.2):=run
  unfold Znf Zun;exact Za run rfl
 ·have hd:=(h.d _ (Yh hi)).1
  have hll:=Z3u (f.2.take i) f.1;have ha:=Z9t (l:=Z6g f.1 (f.2.take i)) [] hd.1 (by rw [hll];exact hd.2)
  conv=>lhs;unfold Znf.l0
  rw [dlt hi,Zv (by omega),Xe];refine Za (Zm hi) (Za (Zm hi) (Za ha (Za ha ?_)));rw [Zhab _ hi]
 ·conv=>lhs;unfold Znf.l0
  rw [Zib (Yf _),Yl];rfl
theorem Zoc.before {f:Zu} {l:List Z0b} (h:FlashP f) (hl:Zoc f.1.length l) (i:Nat):FlashP (doF f (l.take i))∧(doF f (l.take i)).1.length=f.1.length:=h.acts _ (hl.take i)
theorem Z0x {f:Zu} (h:FlashP f) {l:List Z0b} (hl:Zoc f.1.length l) (hn:l.length≤1000) {k:Nat} (hk:1048577≤k):Zad k f l=some (doF f l):=by
 have h2:=h.len
 have h3:=h.n
 have run:=Zgc (fun j i=>Zad.l0 k j l (l.length:Int) (i:Int) (doF f (l.take i)).1 (doF f (l.take i)).2) l.length (doF f l) (fun i hi j=>?_) (fun j=>?_) k (by omega)
 ·have run:Zad.l0 k k l (l.length:Int) 0 f.1 f.2=some (doF f l):=run
  have hc:Zyo f=some f:=by
   unfold Zyo slices_Clone_string Zyj;refine Za (a:=f.1) (Za (Zsb (by simp;omega)) rfl) (Za (a:=f.2) (Za (Zsb (by simp;omega)) rfl) rfl)
  unfold Zad;exact Za hc (Za run rfl)
 ·obtain ⟨b1,b2⟩:=hl.before h i
  conv=>lhs;unfold Zad.l0
  rw [dlt hi,Zv (by omega),Xe,Ze8 f hi];refine Za (Zm hi) ?_;unfold doA;cases q:l[i].1 with
  | true=>
   rw [Xc rfl];exact Za (Zfkb b1 (by omega)) rfl
  | false=>
   rw [Xd Yr];exact Za (Zlkb b1 _ _ (by omega)) rfl
 ·conv=>lhs;unfold Zad.l0
  rw [Zib (Yf _),Yl];rfl
theorem Z1cb {f:Zu} (h:FlashP f):Zpm f=some f:=by
 have h2:=h.len
 have h3:=h.n
 unfold Zpm
 exact Za (Zsb (by simp;omega)) (Za (Zsb (by simp;omega)) rfl)
theorem Z6nb {f:Zu} (h:FlashP f) (n:Int) (s:Str) {k:Nat} (hk:100≤k):Zvf k f n s=some (Zri f n s):=by
 have hl:=h.len
 have hn:=h.n
 have run:=Zki (fun j i=>Zvf.l0 j n s i [] [] f.1 f.2) f.2 (fun x=>x.1==n) (.inl ([],[],f.1,f.2)) (fun i=>.inr (f.1,f.2.set i ((f.2.getD i (0,[])).1,s))) (fun i hi=>by
  constructor
  ·intro hp j
   conv=>lhs;unfold Zvf.l0
   rw [dlt hi,Zv (by omega),Xe];refine Za (Zm hi) (Za (Zm hi) ?_);rw [hp];rfl
  ·intro hp j
   conv=>lhs;unfold Zvf.l0
   rw [dlt hi,Xe];refine Za (Zm hi) (Za (Zm hi) ?_);rw [hp,Xe];refine Za (Zm hi) (Za (Zm hi) ?_);rw [Yi,Zuu hi]) (fun j=>by
  conv=>lhs;unfold Zvf.l0
  rw [Zib (Yf _)];rfl) (k:=k) (by omega)
 unfold Zvf Zri
 refine Za (Z1cb h) ?_
 cases hd:Zch f n with
 | some i=>
  rw [show Zab (fun x:Zic=>x.1==n) f.2 0=some i from hd] at run;refine Za run ?_;dsimp only;rw [Za8 hd]
 | none=>
  rw [show Zab (fun x:Zic=>x.1==n) f.2 0=none from hd] at run;refine Za run ?_;exact Za (Zsb (by simp;omega)) rfl
theorem Z3cb {f:Zu} (h:FlashP f) {k:Nat} (hk:1048577≤k):Z7 k f=some true:=by
 have h2:=h.len
 have h3:=h.n
 rw [Zunb f (by omega) (by omega) hk,h.b]
theorem Zfob {f:Zu} (h:FlashP f) {n:Int} {s:Str} (hn:0≤n∧n<(f.1.length:Int)) (hs:s.length≤96) {k:Nat} (hk:1048577≤k):Zxp k f n s=some ((Zri f n s).1,(Zri f n s).2,[],0):=by
 have h3:=h.n
 have hI:Zld n 0 (Ya .i64 ((f.1.length:Int)-1))=some true:=by
  rw [w64 (n:=(f.1.length:Int)-1) (by omega) (by omega)];unfold Zld;rw [Xa hn.1,Xa (by omega:n≤(f.1.length:Int)-1)];rfl
 unfold Zxp
 rw [Xb (by omega:¬(8000:Int)<(s.length:Int)),Xf]
 refine Za (Z3cb h hk) ?_
 rw [Xb (by omega:¬(96:Int)<(s.length:Int)),show ((!true)||false)=false from rfl,Xf]
 refine Za hI ?_
 rw [Yw,Xf]
 exact Za (Z6nb (k:=k) h n s (by omega)) rfl
theorem Zeob {f:Zu} (h:FlashP f) {k:Nat} (hk:1048577≤k):Zwp k f=some ((Zun f).1,(Zun f).2,[],0):=by
 have hl:=h.len
 have hn:=h.n
 have run:=Zgc (fun j i=>Z3f.l0 j f.1 f.2 (i:Int) (Z6g f.1 (f.2.take i)) []) f.2.length (Z6g f.1 f.2,[]) (fun i hi j=>?_) (fun j=>?_) k (by omega)
 ·have run:Z3f.l0 k f.1 f.2 0 f.1 []=some (Z6g f.1 f.2,[]):=run
  unfold Zwp;refine Za (Z3cb h hk) (Za (a:=Zun f) ?_ rfl);unfold Z3f Zun;exact Za (Zsb (by simp;omega)) (Za run rfl)
 ·have hd:=(h.d _ (Yh hi)).1
  have hll:=Z3u (f.2.take i) f.1;have ha:=Z9t (l:=Z6g f.1 (f.2.take i)) [] hd.1 (by rw [hll];exact hd.2)
  conv=>lhs;unfold Z3f.l0
  rw [dlt hi,Zv (by omega),Xe];refine Za (Zm hi) (Za (Zm hi) (Za ha (Za ha ?_)));rw [Zhab _ hi]
 ·conv=>lhs;unfold Z3f.l0
  rw [Zib (Yf _),Yl];rfl
theorem sDoF {f:Zu} (h:FlashP f) {l:List Z0b} (hl:Zoc f.1.length l) (hn:l.length≤1000) {k:Nat} (hk:1048577≤k):Zif k f l=some ((doF f l).1,(doF f l).2,[],0):=by
 have h2:=h.len
 have h3:=h.n
 have run:=Zgc (fun j i=>Zif.l0 k j l (i:Int) [] 0 (doF f (l.take i)).1 (doF f (l.take i)).2) l.length ([],0,(doF f l).1,(doF f l).2) (fun i hi j=>?_) (fun j=>?_) k (by omega)
 ·have run:Zif.l0 k k l 0 [] 0 f.1 f.2=some ([],0,(doF f l).1,(doF f l).2):=run
  unfold Zif;exact Za (Z1cb h) (Za run rfl)
 ·obtain ⟨b1,b2⟩:=hl.before h i
  conv=>lhs;unfold Zif.l0
  rw [dlt hi,Zv (by omega),show (true&&((0:Int)==0))=true from rfl,Xe,Ze8 f hi];refine Za (Zm hi) ?_;unfold doA;cases q:l[i].1 with
  | true=>
   rw [Xc rfl];exact Za (Zeob b1 hk) rfl
  | false=>
   have ha:=hl _ (Yh hi) q;rw [Xd Yr];exact Za (Zm hi) (Za (Zm hi) (Za (Zfob b1 (by rw [b2];exact ha.1) ha.2 hk) rfl))
 ·conv=>lhs;unfold Zif.l0
  rw [Zib (Yf _),Yl];rfl
def Z1n (n:Int):Prop:=n<9223372036854775808
theorem Zgkb {old fresh:Str} {n:Int} (hf:fresh.length≤96) (hn:Z1n n):Zfn old fresh n=some (Zil old fresh n):=by
 unfold Zfn Zil
 unfold Z1n at hn
 by_cases c:n<1
 ·rw [Xc c,Xa c]
  rfl
 ·rw [Xd c,Xb c,Xf]
  by_cases c1:n=1
  ·rw [Xc c1,show (n==1)=true by simpa using c1]
   rfl
  ·rw [Xd c1,show (n==1)=false by simpa using c1,Xf,w64 (n:=n-2) (by omega) (by omega)]
   obtain ⟨q,hq⟩:∃q:Nat,n-2=(q:Int):=⟨(n-2).toNat,by omega⟩;rw [hq,Yi]
   by_cases cl:q≤fresh.length
   ·have hm:Zyi (q:Int) (fresh.length:Int)=((q:Nat):Int):=by unfold Zyi;split <;> omega
    have hc:Z9b fresh 0 ((q:Nat):Int)=some (fresh.take q):=Zng (l:=fresh) (i:=0) (j:=q) (Yq _) cl;rw [hm];exact Za hc rfl
   ·have hm:Zyi (q:Int) (fresh.length:Int)=((fresh.length:Nat):Int):=by unfold Zyi;split <;> omega
    have hc:Z9b fresh 0 ((fresh.length:Nat):Int)=some (fresh.take fresh.length):=Zng (l:=fresh) (i:=0) (j:=fresh.length) (Yq _) (Yf _);rw [hm];refine Za hc ?_;rw [Yl,Yo (by omega)]
theorem Zahb {fs:List Int} (h:∀x∈fs,Z1n x) (i:Nat):Z1n (fs.getD i 0):=by
 rw [Yg]
 cases q:fs[i]? with
 | none=>show (0:Int)<9223372036854775808;omega
 | some x=>exact h x (List.mem_of_getElem? q)
theorem Zbhb {fs:List Int} {i:Nat} (h:i<fs.length):fs.getD i 0=fs[i]:=by rw [Yg,Y7 h];rfl
theorem Zchb {fs:List Int} {i:Nat} (h:fs.length≤i):fs.getD i 0=0:=by rw [Yg,Y8 h];rfl
theorem Zbjb {f:Zu} (h:FlashP f) {fs:List Int} (hf:∀x∈fs,Z1n x) {k:Nat} (hk:1048577≤k):Zje k f fs=some (Z6f f fs):=by
 have hl:=h.len
 have hn:=h.n
 have run:=Zgc (fun j i=>Zje.l0 j fs (f.2.length:Int) (i:Int) f.2 (Zei f.1 f.2 fs i)) f.2.length (Zei f.1 f.2 fs f.2.length,f.2) (fun i hi j=>?_) (fun j=>?_) k (by omega)
 ·have run:Zje.l0 k fs (f.2.length:Int) 0 f.2 f.1=some (Zei f.1 f.2 fs f.2.length,f.2):=run
  unfold Zje Z6f;exact Za run rfl
 ·have hd:=h.d _ (Yh hi)
  have hll:=Zk1 f.1 f.2 fs i;have ha:=Z9t (l:=Zei f.1 f.2 fs i) [] hd.1.1 (by rw [hll];exact hd.1.2);rw [Zz7 h fs hi i (Yf _)] at ha;have hT:=Zgkb (old:=f.1.getD f.2[i].1.toNat []) hd.2 (Zahb hf i)
  have hend:Zje.l0 j fs (f.2.length:Int) ((i+1:Nat):Int) f.2 ((Zei f.1 f.2 fs i).set f.2[i].1.toNat (Zil (f.1.getD f.2[i].1.toNat []) f.2[i].2 (fs.getD i 0)))=Zje.l0 j fs (f.2.length:Int) ((i+1:Nat):Int) f.2 (Zei f.1 f.2 fs (i+1)):=by
   rw [Zei,Zuu hi]
  conv=>lhs;unfold Zje.l0
  rw [dlt hi,Zv (by omega),Xe];refine Za (Zm hi) (Za (Zm hi) ?_)
  by_cases c:i<fs.length
  ·rw [Zbhb c] at hT hend
   rw [dlt c,Xe];exact Za (Zm c) (Za ha (Za ha (Za hT (Za ha (Za ha hend)))))
  ·rw [Zchb (by omega)] at hT hend
   rw [Zib (by omega),Xf];exact Za ha (Za ha (Za hT (Za ha (Za ha hend))))
 ·conv=>lhs;unfold Zje.l0
  rw [Zib (Yf _)];rfl
theorem Z5kb (m:Zn) (l:List Int):(Z9q m l).length≤l.length+1:=by
 have:=Zw1 m l
 unfold Z9q
 split
 ·simp
 ·rw [Yc]
  simp;omega
theorem Zu2 (f:Zu) (a b c d e:Int) (x:Str) (v w:Nat):(Zgb f a b c d e x v w).length≤2:=Zts _ _
theorem Z66 (m:Zn) (ph tr nd st dn:Int) (dg:Str) (v w:Nat):(Z6j m ph tr nd st dn dg v w).length≤100:=by
 have hk:=fun a b c d e x v w=>Zu2 m.2 a b c d e x v w
 have hl:=Zbh w
 unfold Z6j
 split
 ·have:=Z5kb m ((Zb w).drop (st+Z3k (Zh m st w)).toNat)
  rw [List.length_drop] at this;omega
 ·split
  ·exact Yp (hk _ _ _ _ _ _ _ _) (by omega)
  ·split
   ·split
    ·exact Yp (hk _ _ _ _ _ _ _ _) (by omega)
    ·exact Yp (hk _ _ _ _ _ _ _ _) (by omega)
   ·split
    ·split
     ·simp
     ·rw [Yc]
      have:=hk 5 tr nd st (dn+1) dg v w;simp only [Yd,Ye];omega
    ·simp
def Ze0 (a:Zjl):Prop:=a.1.length≤100∧a.2.2.1.length≤100
theorem Zej (c:Int):Ze0 (Zhg c):=⟨by simp [Zhg],by simp [Zhg]⟩
theorem Zup {l:List Z0b} (h:l.length≤100):Ze0 (Zoh l):=⟨h,by simp [Zoh]⟩
theorem Z75 (m:Zn) (c:Zmg):Ze0 (Z4j m c):=by
 have hk:=fun a b c d e x v w=>Zu2 m.2 a b c d e x v w
 have hid:∀v,(Zbn m v).length≤100:=fun v=>Yp (hk _ _ _ _ _ _ _ _) (by omega)
 unfold Z4j
 split
 ·split
  ·exact Zej _
  ·split
   ·rename_i ph tr nd st dn dg v w hs
    unfold Zai;split
    ·unfold Zlq
     split
     ·split
      ·rename_i l hl
       have hle:l.length≤24:=by
        unfold Zoi at hl;split at hl
        ·cases hl
        ·rename_i hn
         have:=Zbh (Zuc v 0);split at hl
         ·cases hl
          rw [Zidb];omega
         ·cases hl
          rw [Yy];omega
       refine Zup ?_;have:=hk 2 0 c.2.1 c.2.2.1 0 c.2.2.2.1 v (Zci l);simp only [Yc,Zwh,List.length_map,Yd,Ye];omega
      ·exact Zej _
     ·exact Zej _
    ·split
     ·unfold Zpr
      split
      ·split
       ·exact Zej _
       ·split
        ·refine Zup ?_
         split <;> simp
        ·exact Zej _
      ·exact Zej _
     ·split
      ·unfold Zxq
       split
       ·split
        ·split
         ·split
          ·split
           ·exact ⟨hid v,by simp⟩
           ·refine Zup ?_
            have:=hk 3 tr nd st dn dg v w;simp only [Yc,Yd,Ye];omega
          ·exact ⟨hid v,by simp⟩
         ·exact ⟨hid v,by simp⟩
        ·exact ⟨hid v,by simp⟩
       ·exact Zej _
      ·split
       ·split
        ·exact Zej _
        ·exact Zup (hid v)
       ·split
        ·split
         ·refine Zup ?_
          have:=hk 5 0 nd st dn dg v w;simp only [Yc,Yd,Ye];omega
         ·exact Zej _
        ·split
         ·unfold Z1h
          split
          ·split
           ·exact ⟨hid v,by simp⟩
           ·refine ⟨?_,by simp⟩
            have:=hk ph tr nd st (dn+1) dg v w;simp only [Yc,Yd,Ye];omega
          ·exact Zej _
         ·split
          ·split
           ·exact Zej _
           ·exact ⟨by simp,by simp⟩
          ·split
           ·exact ⟨by simp,by simp [Zvdb]⟩
           ·split
            ·unfold Zxu
             split
             ·exact Zup (Yp (hk _ _ _ _ _ _ _ _) (by omega))
             ·exact Zej _
            ·split
             ·exact Zup (Yp (hk _ _ _ _ _ _ _ _) (by omega))
             ·exact Zup (Z66 _ _ _ _ _ _ _ _ _)
   ·exact Zej _
 ·exact Zej _
def flD (d:DoT):Int×List Str×List Zic×Str×List Int×Int:=(d.1.1,d.1.2.1,d.1.2.2,d.2.1,d.2.2.1,d.2.2.2)
def flC (d:Zn×Int):Int×List Str×List Zic×Int:=(d.1.1,d.1.2.1,d.1.2.2,d.2)
theorem Zc3 {m:Zn} (h:Zaf m=true):FlashP m.2:=by
 unfold Zaf at h
 cases hs:stM m with
 | none=>rw [hs] at h;cases h
 | some z=>
  obtain ⟨ph,tr,nd,st,dn,dg,v,w⟩:=z;exact FlashP.of (Z1s hs).fit.f
theorem Zl9 {m:Zn} {c:Zmg} (hm:Zaf m=true) (hc:Zeg c=true):Zc fun k=>Zqc k m c=some (Z4j m c):=by
 unfold Z4j
 rw [Xc ⟨hm,hc⟩]
 cases hs:stM m with
 | none=>unfold Zaf at hm;rw [hs] at hm;cases hm
 | some z=>
  obtain ⟨ph,tr,nd,st,dn,dg,v,w⟩:=z;exact Z0ib hs (Zvy hs hm) (Zo7 hc)
theorem Zepb {α:Type} (l:List α) {n:Int} (h:0≤n):Z9b l 0 (Zyi n (l.length:Int))=some (l.take n.toNat):=by
 obtain ⟨q,rfl⟩:∃q:Nat,n=(q:Int):=⟨n.toNat,by omega⟩
 rw [Yi]
 by_cases c:q≤l.length
 ·have hm:Zyi (q:Int) (l.length:Int)=((q:Nat):Int):=by unfold Zyi;split <;> omega
  rw [hm];exact Zng (l:=l) (i:=0) (j:=q) (Yq _) c
 ·have hm:Zyi (q:Int) (l.length:Int)=((l.length:Nat):Int):=by unfold Zyi;split <;> omega
  have hc:Z9b l 0 ((l.length:Nat):Int)=some (l.take l.length):=Zng (l:=l) (i:=0) (j:=l.length) (Yq _) (Yf _);rw [hm,hc,Yl,Yo (by omega)]
def flM (m:Zn):Int×List Str×List Zic:=(m.1,m.2.1,m.2.2)
theorem Zdjb {m:Zn} (hF:FlashP m.2) {l:List Z0b} (hl:Zoc m.2.1.length l) (hn:l.length≤1000) {n:Int} (h0:0≤n) {fs:List Int} (hf:∀x∈fs,Z1n x) {k:Nat} (hk:1048577≤k):Zro k m l n fs=some (flM (Zao m l n fs)):=by
 have hz:Z4q l=some (l.length:Int):=rfl
 unfold Zro
 exact Za hz (Za (Zepb l h0) (Za (Z0x hF (hl.take _) (by rw [Yy];omega) hk) (Za (Zbjb (hF.acts _ (hl.take _)).1 hf hk) rfl)))
structure Lean1 (m:Zn):Prop where
 s:m.2.1.length≤1048576
 d:m.2.2.length≤1048576
section
variable {m:Zn} {c:Zmg} {ph tr nd st dn:Int} {dg:Str} {v w:Nat}
theorem Zav (hm:Zaf m=true):m.2.1.length≤1048576∧m.2.2.length≤1048576:=by
 have hF:=Zc3 hm
 have:=hF.n
 have:=hF.len
 omega
theorem iDoR (hm:Zaf m=true) (hc:Zeg c=true):Zc fun k=>Zhi k m c=some (flD (doR m c)):=by
 have hF:=Zc3 hm
 obtain ⟨hl,hl2⟩:=Zav hm
 have ec:=Zp9 c
 rw [hc] at ec
 have hfit:=Z65 m c
 have hsm:=(Z75 m c).1
 have em:=Z8x m hl hl2
 rw [hm] at em
 unfold doR
 rw [Xc ⟨hm,hc⟩]
 refine ((em.and (Zl9 hm hc)).and (Zc.ge 1048577 fun k hk=>hk)).mono fun k ⟨⟨e,e2⟩,hk⟩=>?_
 unfold Zhi
 exact Za e (Za ec (Za e2 (Za (Z0x hF hfit (by omega) hk) rfl)))
theorem Zejb (hm:Zaf m=true) (hc:Zeg c=true) {n:Int} (h0:0≤n) {fs:List Int} (hf:∀x∈fs,Z1n x) (hfl:fs.length≤400):Zc fun k=>Zoo k m c n fs=some (flC (Zuq m c n fs)):=by
 have hF:=Zc3 hm
 obtain ⟨hl,hl2⟩:=Zav hm
 have ec:=Zp9 c
 rw [hc] at ec
 have hfit:=Z65 m c
 have hsm:=(Z75 m c).1
 have em:=Z8x m hl hl2
 rw [hm] at em
 unfold Zuq
 rw [Xd (by omega),Xc ⟨⟨hm,hc⟩,h0⟩]
 refine ((em.and (Zl9 hm hc)).and (Zc.ge 1048577 fun k hk=>hk)).mono fun k ⟨⟨e,e2⟩,hk⟩=>?_
 unfold Zoo
 rw [Xb (by omega:¬(400:Int)<(fs.length:Int)),Xf]
 refine Za e (Za ec ?_)
 rw [Xb (by omega:¬n<0)]
 exact Za e2 (Za (Zdjb hF hfit (by omega) h0 hf hk) rfl)
theorem Z8ib (hs:stM m=some (ph,(tr,(nd,(st,(dn,(dg,(v,w)))))))):Zc fun k=>Zcn k m=some (flC (Zpd m)):=by
 have h:=Z1s hs
 have hF:=FlashP.of h.fit.f
 have:=hF.n
 have:=hF.len
 have hi:=Z2q m (by omega) (by omega)
 have hfit:=Z86 h
 have hlen:=Z66 m ph tr nd st dn dg v w
 unfold Zpd
 rw [hs] at hi ⊢
 refine ((hi.and (Zo9 h)).and (Zc.ge 1048577 fun k hk=>hk)).mono fun k ⟨⟨e,e2⟩,hk⟩=>?_
 unfold Zcn
 exact Za e (Za e2 (Za (Z0x hF hfit (by omega) hk) rfl))
theorem Zm2 (hs:stM m=some (ph,(tr,(nd,(st,(dn,(dg,(v,w)))))))):Zc fun k=>Zdn k m=some (ph,(tr,(nd,(st,(dn,(dg,(Zb v,(Zb w,0)))))))):=by
 have hF:=FlashP.of (Z1s hs).fit.f
 have:=hF.n
 have:=hF.len
 have hi:=Z2q m (by omega) (by omega)
 rw [hs] at hi
 refine hi.mono fun k e=>?_
 unfold Zdn
 exact Za e rfl
theorem Zjkb (hm:Zaf m=true) (hs:stM m=some (ph,(tr,(nd,(st,(dn,(dg,(v,w)))))))):Zc fun k=>Zak k m=some (Z1j m ph st dn w,0):=by
 obtain ⟨hl,hl2⟩:=Zav hm
 have em:=Z8x m hl hl2
 rw [hm] at em
 refine (em.and (Z09 hs (Zvy hs hm))).mono fun k ⟨e,e2⟩=>?_
 unfold Zak
 exact Za e (Za e2 rfl)
theorem Z2ib (hm:Zaf m=true) (hs:stM m=some (ph,(tr,(nd,(st,(dn,(dg,(v,w)))))))):Zc fun k=>Zno k m=some (Ztd m,0):=by
 obtain ⟨hl,hl2⟩:=Zav hm
 have em:=Z8x m hl hl2
 rw [hm] at em
 have hf:=(Z1s hs).fit
 have hb:=hf.b
 have hn:=hf.n
 refine (em.and (Zc.ge 1048577 fun k hk=>hk)).mono fun k ⟨e,hk⟩=>?_
 unfold Zno
 exact Za e (Za (Z2x (m:=m) ⟨by omega,hb.2⟩ (by omega) hl2 hk) rfl)
end
theorem Ztlb {a:List Str} (h:a.length≤400):Zul (Yk (a.length+27) ([]:Str)) 3 a=Z6b a:=by
 unfold Zul Z6b
 rw [Yt,List.take_replicate,List.drop_replicate,Yo (by omega:a.length≤a.length+27-3)]
 have e1:min 3 (a.length+27)=3:=by omega
 have e2:a.length+27-(3+a.length)=24:=by omega
 rw [e1,e2]
theorem Z9ab {a:List Str} (h:Zvb a=true):Zoc (Z6b a).length (Zgb (Z6b a,[]) 1 0 0 0 0 [] 0 0)∧(Zgb (Z6b a,[]) 1 0 0 0 0 [] 0 0).length≤2:=by
 have hl:=Z4s a
 exact ⟨Zji (by omega) (Zek (by decide)),Zu2 _ _ _ _ _ _ _ _ _⟩
theorem Zpjb {a:List Str} (h:Zvb a=true):Zc fun k=>Z4o k a=some (flM (Z7k a)):=by
 obtain ⟨i1,i2,i3⟩:=Zig h
 have hl:=Z4s a
 have K:Keep 1 0 0 0 0 [] 0 0:=Zek (by decide)
 have hp:=Zw3 h
 obtain ⟨hfit,hal⟩:=Z9ab h
 have hz:Z5g a=some (a.length:Int):=rfl
 have e3:Ya .i64 ((Ya .i64 (3+(a.length:Int)))+24)=((a.length+27:Nat):Int):=by
  rw [w64 (n:=3+(a.length:Int)) (by omega) (by omega),w64 (by omega) (by omega)];omega
 have ht:Z9p 3 (Yk (a.length+27) ([]:Str)).length=some ():=by
  unfold Z9p;rw [Yt,Xc ⟨by omega,by omega⟩]
 refine (((Zz9 K).and (Zu9 (f:=(Z6b a,[])) hp.b (by show 2≤(Z6b a).length;omega) _ K.len)).and (Zc.ge 1048577 fun k hk=>hk)).mono fun k ⟨⟨e1,e2⟩,hk⟩=>?_
 unfold Z4o
 refine Za hz ?_
 dsimp only
 rw [e3]
 refine Za (Zys (by omega)) (Za ht (Za e1 ?_))
 rw [show Int.toNat 3=3 from rfl,Ztlb (by omega)]
 exact Za e2 (Za (Z0x (f:=(Z6b a,[])) hp hfit (by show (Zgb _ _ _ _ _ _ _ _ _).length≤1000;omega) hk) rfl)
theorem Zh2 {a:List Str} (hl:a.length≤400):Zc fun k=>Zxk k a=some (if Zvb a=true then ((Z7k a).1,((Z7k a).2.1,((Z7k a).2.2,0))) else (0,([],([],1)))):=by
 have hi:Zc fun k=>Zzk k a=some (Zvb a):=Zc.ge 100 fun k hk=>Zr9 a hk
 have h4:decide ((400:Int)<(a.length:Int))=false:=Xb (by omega)
 cases h:Zvb a with
 | false=>
  rw [h] at hi;refine hi.mono fun k e=>?_
  rw [Xd Yr];unfold Zxk;rw [h4,Xf];exact Za e rfl
 | true=>
  rw [h] at hi;refine (hi.and (Zpjb h)).mono fun k ⟨e,e2⟩=>?_
  rw [Xc rfl];unfold Zxk;rw [h4,Xf];exact Za e (Za e2 rfl)
def Zwi (a:List Str) (i:Nat):List Str:=(List.range (a.length+27)).map fun j=>if 3≤j∧j<3+i then a.getD (j-3) [] else []
theorem Ztx (a:List Str) (i:Nat):(Zwi a i).length=a.length+27:=by simp [Zwi]
theorem Zsx (a:List Str) (i:Nat) {j:Nat} (h:j<(Zwi a i).length):(Zwi a i)[j]=if 3≤j∧j<3+i then a.getD (j-3) [] else []:=by simp [Zwi]
theorem Zdhb (a:List Str):Zwi a a.length=Z6b a:=by
 have hl:=Z4s a
 refine Yv (by rw [Ztx,hl]) fun j h1 h2=>?_
 rw [Zsx,← Z3g h2]
 by_cases c:j<3
 ·rw [Xd (by omega),Zv3 a c]
 ·by_cases c2:j<3+a.length
  ·rw [Xc ⟨by omega,c2⟩]
   have:=Z8ab a (i:=j-3) (by omega);rw [show 3+(j-3)=j by omega] at this;exact this.symm
  ·rw [Xd (by omega)]
   unfold Z6b;rw [Yg,Y6 (by simp;omega),Y9];split <;> rfl
theorem Zehb (a:List Str) {i:Nat} (h:i<a.length):(Zwi a i).set (3+i) a[i]=Zwi a (i+1):=by
 refine Yv (by rw [Yn,Ztx,Ztx]) fun j h1 h2=>?_
 rw [List.getElem_set,Zsx,Zsx]
 by_cases c:3+i=j
 ·rw [Xc c,Xc ⟨by omega,by omega⟩,show j-3=i by omega,Z3g h]
 ·rw [Xd c]
  by_cases c2:3≤j∧j<3+i
  ·rw [Xc c2,Xc ⟨c2.1,by omega⟩]
  ·rw [Xd c2,Xd (by omega)]
theorem Zznb {a:List Str} (hl:a.length≤400):Zc fun k=>Zff k a=some (if Zvb a=true then ((Z7k a).1,((Z7k a).2.1,((Z7k a).2.2,0))) else (0,([],([],1)))):=by
 have hi:Zc fun k=>Zcc k a=some (Zvb a):=Zc.ge 100 fun k hk=>Z44 a hk
 have h4:decide ((400:Int)<(a.length:Int))=false:=Xb (by omega)
 cases h:Zvb a with
 | false=>
  rw [h] at hi;refine hi.mono fun k e=>?_
  rw [Xd Yr];unfold Zff;rw [h4,Xf];exact Za e rfl
 | true=>
  rw [h] at hi;obtain ⟨i1,i2,i3⟩:=Zig h;have hnl:=Z4s a;have K:Keep 1 0 0 0 0 [] 0 0:=Zek (by decide);have hp:=Zw3 h;obtain ⟨hfit,hal⟩:=Z9ab h
  have e3:Ya .i64 ((Ya .i64 (3+(a.length:Int)))+24)=((a.length+27:Nat):Int):=by
   rw [w64 (n:=3+(a.length:Int)) (by omega) (by omega),w64 (by omega) (by omega)];omega
  have hF:Zvp ((a.length+27:Nat):Int)=some (Zwi a 0,[]):=by
   have W:Zld ((a.length+27:Nat):Int) 1 40=some (decide (1≤((a.length+27:Nat):Int))&&decide (((a.length+27:Nat):Int)≤40)):=rfl
   have e:Zwi a 0=Yk (a.length+27) []:=by
    refine Yv (by rw [Ztx,Yt]) fun j h1 h2=>?_
    rw [Zsx,Xd (by omega),List.getElem_replicate]
   unfold Zvp;refine Za W ?_;rw [Xa (by omega:1≤((a.length+27:Nat):Int)),Xa (by omega:((a.length+27:Nat):Int)≤40),e];exact Za (Zys (by omega)) rfl
  have run:∀k,a.length<k→Zff.l0 k a 0 (Zwi a 0) []=some (Z6b a,[]):=fun k hk=>by
   refine Zgc (fun j i=>Zff.l0 j a (i:Int) (Zwi a i) []) a.length (Z6b a,[]) (fun i hi j=>?_) (fun j=>?_) k hk
   ·have hfl:(Zwi a i).length=a.length+27:=by simp [Zwi]
    have e6:Ya .i64 (3+(i:Int))=((3+i:Nat):Int):=by rw [w64 (by omega) (by omega)];omega
    conv=>lhs;unfold Zff.l0
    rw [dlt hi,Xe];refine Za (Zm hi) ?_;dsimp only;rw [e6,Zv (by omega),Yi];refine Za (Zm (by rw [hfl];omega)) (Za (Zm (by rw [hfl];omega)) ?_);rw [Zehb a hi]
   ·conv=>lhs;unfold Zff.l0
    rw [Zib (Yf _),Xf,Zdhb]
  refine (((hi.and (sL12 1 0 0 0 0 [] 0 0 (by constructor <;> decide) (by constructor <;> decide) (by constructor <;> decide) (by constructor <;> decide) (by constructor <;> decide) (by decide) (by decide) (by decide))).and (Z0nb (f:=(Z6b a,[])) hp.b (by show 2≤(Z6b a).length;omega) _ K.len)).and (Zc.ge 1048577 fun k hk=>hk)).mono fun k ⟨⟨⟨e,e1⟩,e2⟩,hk⟩=>?_
  rw [Xc rfl];unfold Zff;rw [h4,Xf];refine Za e ?_;rw [e3];refine Za hF (Za (run k (by omega)) (Za e1 (Za e2 (Za (sDoF (f:=(Z6b a,[])) hp hfit (by show (Zgb _ _ _ _ _ _ _ _ _).length≤1000;omega) hk) rfl))))
theorem Zmy (l:List Str) (hl:l.length≤1048576):Zc fun k=>Zne k l l=some true:=by
 have key:=Z9gb (fun k j i=>Zne.l0 j l l (i:Int)) l.length (.inl ()) (Zc.of fun k i hi j=>by
  conv=>lhs;unfold Zne.l0
  rw [dlt hi,Zm hi,Zv (by omega)];simp only [Xe,Yb,beq_self_eq_true,Yw,Xf]) (Zc.of fun k j=>by
  conv=>lhs;unfold Zne.l0
  rw [Zib (Yf _)];rfl)
 refine key.mono fun k e=>?_
 have e:Zne.l0 k l l 0=some (.inl ()):=e
 unfold Zne
 rw [bne_self_eq_false,Xf]
 exact Za e rfl
theorem Zly (l:List Int) (hb:∀x∈l,0≤x∧x<256) (hl:l.length≤1048576) (i:Nat) {z:Int} (hz:1<z∧z≤1000):∃v:Nat,Z4k l (i:Int) z=some (v:Int)∧(v:Int)<z:=by
 unfold Z4k
 rw [Xb (by omega:¬z≤1),Bool.false_or]
 by_cases h0:l.length=0
 ·rw [show (((l.length:Nat):Int)==0)=true by rw [h0];rfl]
  exact ⟨0,rfl,by omega⟩
 ·rw [show (((l.length:Nat):Int)==0)=false by rw [Zqh,Xb (by omega:¬(((l.length:Nat):Int)=0))],Xf]
  have e:Yx (i:Int) (l.length:Int)=((i%l.length:Nat):Int):=by rw [Yu (by omega)];omega
  have hlt:i%l.length<l.length:=Nat.mod_lt _ (by omega);rw [Z7i (by omega),e,Zm hlt,Z7i (by omega)];have hx:=hb _ (Yh hlt);simp only [Yb];rw [w64 (by omega) (by omega),Yu hx.1];have h1:=Y2 l[i%l.length] (by omega:z≠0);have h2:=Y1 l[i%l.length] (by omega:0<z);exact ⟨(l[i%l.length]%z).toNat,by congr 1;omega,by omega⟩
namespace Dgu
theorem Ztm (x:Int) {n:Int} (h:0≤n):∃v,Z8g x n=some v:=by
 unfold Z8g
 exact Zrdb ⟨_,Z3b h⟩ fun _=>Zrdb ⟨_,Z3b (by rw [Z9f];omega)⟩ fun _=>⟨_,rfl⟩
theorem Zofb (b:Str) (hb:b.length=64) (w:List Int) (hw:w.length=64):∃r:List Int,r.length=64∧Zc fun k=>∀j,16<j→Zr.l0 j b 0 w=some r:=by
 refine Zin (fun k j (s:Int×List Int)=>Zr.l0 j b s.1 s.2) (fun s=>(16-s.1).toNat) (fun s=>0≤s.1∧s.1≤16∧s.2.length=64) (fun r=>r.length=64) (fun s ⟨h0,h1,h2⟩=>?_) 16 (0,w) ⟨by simp,by simp,hw⟩ (by simp)
 obtain ⟨i,w⟩:=s
 have h0:0≤i:=h0
 have h1:i≤16:=h1
 have h2:w.length=64:=h2
 by_cases hi:i<16
 ·right
  obtain ⟨c0,e0,_⟩:=Zgd (l:=b) (i:=4*i) (by omega) (by omega);obtain ⟨c1,e1,_⟩:=Zgd (l:=b) (i:=4*i+1) (by omega) (by omega);obtain ⟨c2,e2,_⟩:=Zgd (l:=b) (i:=4*i+2) (by omega) (by omega);obtain ⟨c3,e3,_⟩:=Zgd (l:=b) (i:=4*i+3) (by omega) (by omega);obtain ⟨v,ev,_⟩:=Zgd (l:=w) (i:=i) (by omega) (by omega);refine ⟨(i+1,w.set i.toNat (intBits .or .u32 (intBits .or .u32 (intBits .or .u32 (shl .u32 (Ya .u32 (c0.toNat:Int)) 24) (shl .u32 (Ya .u32 (c1.toNat:Int)) 16)) (shl .u32 (Ya .u32 (c2.toNat:Int)) 8)) (Ya .u32 (c3.toNat:Int)))),⟨by show 0≤i+1;omega,by show i+1≤16;omega,by show (w.set _ _).length=64;rw [Yn];exact h2⟩,by show (16-(i+1)).toNat<(16-i).toNat;omega,Zc.of fun k j=>?_⟩
  ·show Zr.l0 (j+1) b i w=_
   conv=>lhs;unfold Zr.l0
   rw [Xa hi,wid (n:=4*i) (by omega) (by omega)];simp only [Xe];rw [wid (n:=4*i+1) (by omega) (by omega),wid (n:=4*i+2) (by omega) (by omega),wid (n:=4*i+3) (by omega) (by omega),e0,e1,e2,e3,ev,Z3b (by omega),Z3b (by omega),Z3b (by omega),wid (n:=i+1) (by omega) (by omega)];rfl
 ·left
  refine ⟨w,Zc.of fun k j=>?_,h2⟩;show Zr.l0 (j+1) b i w=_
  conv=>lhs;unfold Zr.l0
  rw [Xb hi];rfl
theorem Zpfb (w:List Int) (hw:w.length=64):∃r:List Int,r.length=64∧Zc fun k=>∀j,48<j→Zr.l1 j 16 w=some r:=by
 refine Zin (fun k j (s:Int×List Int)=>Zr.l1 j s.1 s.2) (fun s=>(64-s.1).toNat) (fun s=>16≤s.1∧s.1≤64∧s.2.length=64) (fun r=>r.length=64) (fun s ⟨h0,h1,h2⟩=>?_) 48 (16,w) ⟨by simp,by simp,hw⟩ (by simp)
 obtain ⟨i,w⟩:=s
 have h0:16≤i:=h0
 have h1:i≤64:=h1
 have h2:w.length=64:=h2
 by_cases hi:i<64
 ·right
  obtain ⟨a,ea,_⟩:=Zgd (l:=w) (i:=i-15) (by omega) (by omega);obtain ⟨b,eb,_⟩:=Zgd (l:=w) (i:=i-2) (by omega) (by omega);obtain ⟨c,ec,_⟩:=Zgd (l:=w) (i:=i-16) (by omega) (by omega);obtain ⟨d,ed,_⟩:=Zgd (l:=w) (i:=i-7) (by omega) (by omega);obtain ⟨v,ev,_⟩:=Zgd (l:=w) (i:=i) (by omega) (by omega);obtain ⟨t1,f1⟩:=Ztm a (n:=7) (by omega);obtain ⟨t2,f2⟩:=Ztm a (n:=18) (by omega);obtain ⟨t3,f3⟩:=Ztm b (n:=17) (by omega);obtain ⟨t4,f4⟩:=Ztm b (n:=19) (by omega);refine ⟨(i+1,w.set i.toNat (Ya .u32 ((Ya .u32 ((Ya .u32 (c+(intBits .xor .u32 (intBits .xor .u32 t1 t2) (shr .u32 a 3))))+d))+(intBits .xor .u32 (intBits .xor .u32 t3 t4) (shr .u32 b 10))))),⟨by show 16≤i+1;omega,by show i+1≤64;omega,by show (w.set _ _).length=64;rw [Yn];exact h2⟩,by show (64-(i+1)).toNat<(64-i).toNat;omega,Zc.of fun k j=>?_⟩;show Zr.l1 (j+1) i w=_
  conv=>lhs;unfold Zr.l1
  rw [Xa hi,w64 (n:=i-15) (by omega) (by omega),w64 (n:=i-2) (by omega) (by omega),w64 (n:=i-16) (by omega) (by omega),w64 (n:=i-7) (by omega) (by omega),w64 (n:=i+1) (by omega) (by omega)];simp only [Xe,ea,eb,ec,ed,ev,Yb,f1,f2,f3,f4];rw [Z3b (by omega),Z3b (by omega)];rfl
 ·left
  refine ⟨w,Zc.of fun k j=>?_,h2⟩;show Zr.l1 (j+1) i w=_
  conv=>lhs;unfold Zr.l1
  rw [Xb hi];rfl
theorem Zqfb (w key:List Int) (hw:w.length=64) (hk:key.length=64) (a b c d e f g h:Int):∃r,True∧Zc fun k=>∀j,64<j→Zr.l2 j a b c d e f g h 0 w key=some r:=by
  refine Zin (fun k j (s:Int×Int×Int×Int×Int×Int×Int×Int×Int)=>Zr.l2 j s.1 s.2.1 s.2.2.1 s.2.2.2.1 s.2.2.2.2.1 s.2.2.2.2.2.1 s.2.2.2.2.2.2.1 s.2.2.2.2.2.2.2.1 s.2.2.2.2.2.2.2.2 w key) (fun s=>(64-s.2.2.2.2.2.2.2.2).toNat) (fun s=>0≤s.2.2.2.2.2.2.2.2∧s.2.2.2.2.2.2.2.2≤64) (fun _=>True) (fun s ⟨h0,h1⟩=>?_) 64 (a,b,c,d,e,f,g,h,0) ⟨by simp,by simp⟩ (by simp)
  ·obtain ⟨a,b,c,d,e,f,g,h,i⟩:=s
   have h0:0≤i:=h0;have h1:i≤64:=h1
   by_cases hi:i<64
   ·right
    obtain ⟨x,ex,_⟩:=Zgd (l:=w) (i:=i) (by omega) (by omega);obtain ⟨y,ey,_⟩:=Zgd (l:=key) (i:=i) (by omega) (by omega);obtain ⟨t1,f1⟩:=Ztm e (n:=6) (by omega);obtain ⟨t2,f2⟩:=Ztm e (n:=11) (by omega);obtain ⟨t3,f3⟩:=Ztm e (n:=25) (by omega);obtain ⟨t4,f4⟩:=Ztm a (n:=2) (by omega);obtain ⟨t5,f5⟩:=Ztm a (n:=13) (by omega);obtain ⟨t6,f6⟩:=Ztm a (n:=22) (by omega);refine ⟨(Ya .u32 ((Ya .u32 ((Ya .u32 ((Ya .u32 ((Ya .u32 (h+(intBits .xor .u32 (intBits .xor .u32 t1 t2) t3)))+(intBits .xor .u32 (intBits .and .u32 e f) (intBits .and .u32 (intBits .xor .u32 (Y3 .u32) e) g))))+y))+x))+(Ya .u32 ((intBits .xor .u32 (intBits .xor .u32 t4 t5) t6)+(intBits .xor .u32 (intBits .xor .u32 (intBits .and .u32 a b) (intBits .and .u32 a c)) (intBits .and .u32 b c))))),a,b,c,Ya .u32 (d+Ya .u32 ((Ya .u32 ((Ya .u32 ((Ya .u32 (h+(intBits .xor .u32 (intBits .xor .u32 t1 t2) t3)))+(intBits .xor .u32 (intBits .and .u32 e f) (intBits .and .u32 (intBits .xor .u32 (Y3 .u32) e) g))))+y))+x)),e,f,g,i+1),⟨by show 0≤i+1;omega,by show i+1≤64;omega⟩,by show (64-(i+1)).toNat<(64-i).toNat;omega,Zc.of fun k j=>?_⟩
    ·show Zr.l2 (j+1) a b c d e f g h i w key=_
     conv=>lhs;unfold Zr.l2
     rw [Xa hi,w64 (n:=i+1) (by omega) (by omega)];simp only [Xe,ex,ey,Yb,f1,f2,f3,f4,f5,f6]
   ·left
    refine ⟨(a,b,c,d,e,f,g,h),Zc.of fun k j=>?_,trivial⟩
    ·show Zr.l2 (j+1) a b c d e f g h i w key=_
     conv=>lhs;unfold Zr.l2
     rw [Xb hi];rfl
theorem Zrfb (st v:List Int) (hs:st.length=8) (hv:v.length=8):∃r:List Int,r.length=8∧Zc fun k=>∀j,8<j→Zr.l3 j st 0 v []=some r:=by
 refine Zin (fun k j (s:Int×List Int)=>Zr.l3 j st s.1 v s.2) (fun s=>(8-s.1).toNat) (fun s=>0≤s.1∧s.1≤8∧(s.2.length:Int)=s.1) (fun r=>r.length=8) (fun s ⟨h0,h1,h2⟩=>?_) 8 (0,[]) ⟨by simp,by simp,by simp⟩ (by simp)
 obtain ⟨i,o⟩:=s
 have h0:0≤i:=h0
 have h1:i≤8:=h1
 have h2:(o.length:Int)=i:=h2
 by_cases hi:i<8
 ·right
  obtain ⟨x,ex,_⟩:=Zgd (l:=st) (i:=i) (by omega) (by omega);obtain ⟨y,ey,_⟩:=Zgd (l:=v) (i:=i) (by omega) (by omega);refine ⟨(i+1,o++[Ya .i64 (Ya .u32 ((Ya .u32 x)+y))]),⟨by show 0≤i+1;omega,by show i+1≤8;omega,by show ((o++[_]).length:Int)=i+1;rw [Yc];simp;omega⟩,by show (8-(i+1)).toNat<(8-i).toNat;omega,Zc.of fun k j=>?_⟩;show Zr.l3 (j+1) st i v o=_
  conv=>lhs;unfold Zr.l3
  rw [Xa hi,w64 (n:=i+1) (by omega) (by omega)];simp only [Xe,ex,ey,Yb];rw [Zsb (by simp;omega)];rfl
 ·left
  refine ⟨o,Zc.of fun k j=>?_,by omega⟩;show Zr.l3 (j+1) st i v o=_
  conv=>lhs;unfold Zr.l3
  rw [Xb hi];rfl
theorem Zsfb (st:List Int) (b:Str) (hs:st.length=8) (hb:b.length=64):Ev (fun k=>Zr k st b) fun r=>r.length=8:=by
 obtain ⟨w0,h0,e0⟩:=Zofb b hb (Yk 64 0) (by simp)
 obtain ⟨w1,h1,e1⟩:=Zpfb w0 h0
 obtain ⟨s0,a0,_⟩:=Zgd (l:=st) (i:=0) (by omega) (by omega)
 obtain ⟨s1,a1,_⟩:=Zgd (l:=st) (i:=1) (by omega) (by omega)
 obtain ⟨s2,a2,_⟩:=Zgd (l:=st) (i:=2) (by omega) (by omega)
 obtain ⟨s3,a3,_⟩:=Zgd (l:=st) (i:=3) (by omega) (by omega)
 obtain ⟨s4,a4,_⟩:=Zgd (l:=st) (i:=4) (by omega) (by omega)
 obtain ⟨s5,a5,_⟩:=Zgd (l:=st) (i:=5) (by omega) (by omega)
 obtain ⟨s6,a6,_⟩:=Zgd (l:=st) (i:=6) (by omega) (by omega)
 obtain ⟨s7,a7,_⟩:=Zgd (l:=st) (i:=7) (by omega) (by omega)
 have hkey:∃key,Z3p=some key∧key.length=64:=⟨_,rfl,rfl⟩
 obtain ⟨key,ek,hkl⟩:=hkey
 obtain ⟨r,_,er⟩:=Zqfb w1 key h1 hkl (Ya .u32 s0) (Ya .u32 s1) (Ya .u32 s2) (Ya .u32 s3) (Ya .u32 s4) (Ya .u32 s5) (Ya .u32 s6) (Ya .u32 s7)
 obtain ⟨o,ho,eo⟩:=Zrfb st [r.1,r.2.1,r.2.2.1,r.2.2.2.1,r.2.2.2.2.1,r.2.2.2.2.2.1,r.2.2.2.2.2.2.1,r.2.2.2.2.2.2.2] hs rfl
 refine ⟨o,ho,((((e0.and e1).and er).and eo).and (Zc.ge 66 fun k hk=>hk)).mono fun k ⟨⟨⟨⟨e0,e1⟩,er⟩,eo⟩,hk⟩=>?_⟩
 have hm:Zrg 4 64 64 (0:Int)=some (Yk 64 0):=Zys (n:=64) (b:=4) (by omega)
 unfold Zr
 rw [hm]
 simp only [Yb]
 rw [e0 k (by omega)]
 simp only [Yb]
 rw [e1 k (by omega)]
 simp only [a0,a1,a2,a3,a4,a5,a6,a7,Yb]
 rw [ek]
 simp only [Yb]
 rw [er k (by omega)]
 simp only [Yb]
 rw [eo k (by omega)]
 rfl
theorem all0 (l:List Int) (hl:l.length≤9000):∃r:List Int,(r.length≤9100∧r.length%64=56)∧Zc fun k=>∀j,64<j→Zs.l0 j l=some r:=by
 refine Zin (fun k j (s:List Int)=>Zs.l0 j s) (fun s=>(56+64-s.length%64)%64) (fun s=>s.length+(56+64-s.length%64)%64≤9100) (fun r=>r.length≤9100∧r.length%64=56) (fun s h=>?_) 64 l (by show l.length+_≤9100;omega) (by omega)
 have h:s.length+(56+64-s.length%64)%64≤9100:=h
 have e:Yx (s.length:Int) 64=((s.length%64:Nat):Int):=by rw [Yu (by omega)];omega
 by_cases hm:s.length%64=56
 ·left
  refine ⟨s,Zc.of fun k j=>?_,by omega,hm⟩;show Zs.l0 (j+1) s=_
  conv=>lhs;unfold Zs.l0
  rw [Z7i (by omega),e,hm];rfl
 ·right
  refine ⟨s++[0],by show (s++[0]).length+_≤9100;rw [Yc];simp only [Yd,Ye];omega,by show (56+64-(s++[0]).length%64)%64<_;rw [Yc];simp only [Yd,Ye];omega,Zc.of fun k j=>?_⟩;show Zs.l0 (j+1) s=_
  conv=>lhs;unfold Zs.l0
  rw [Z7i (by omega),e,show (((s.length%64:Nat):Int) != 56)=true by simp;omega];simp only [Xe,Yb];rw [Zsb (by simp;omega)];rfl
theorem all1 (n:Int) (l:List Int) (hl:l.length≤9100) (hm:l.length%64=56):∃r:List Int,(r.length≤9200∧r.length%64=0)∧Zc fun k=>∀j,8<j→Zs.l1 j n 56 l=some r:=by
 refine Zin (fun k j (s:Int×List Int)=>Zs.l1 j n s.1 s.2) (fun s=>((s.1+8)/8).toNat) (fun s=>∃q:Nat,s.1=8*(q:Int)-8∧q≤8∧s.2.length+q=l.length+8) (fun r=>r.length≤9200∧r.length%64=0) (fun s ⟨q,h0,h1,h2⟩=>?_) 8 (56,l) ⟨8,by simp,by omega,by simp⟩ (by simp)
 obtain ⟨i,o⟩:=s
 have h0:i=8*(q:Int)-8:=h0
 have h2:o.length+q=l.length+8:=h2
 by_cases hi:0≤i
 ·right
  refine ⟨(i-8,o++[Ya .u8 (shr .u64 n (Ya .u64 i))]),⟨q-1,by show i-8=_;omega,by omega,by show (o++[_]).length+_=_;rw [Yc];simp only [Yd,Ye];omega⟩,by show ((i-8+8)/8).toNat<((i+8)/8).toNat;omega,Zc.of fun k j=>?_⟩;show Zs.l1 (j+1) n i o=_
  conv=>lhs;unfold Zs.l1
  rw [Xa hi,Z3b (by rw [Z9f];omega),w64 (n:=i-8) (by omega) (by omega)];simp only [Xe,Yb];rw [Zsb (by simp;omega)];rfl
 ·left
  refine ⟨o,Zc.of fun k j=>?_,by omega,by omega⟩;show Zs.l1 (j+1) n i o=_
  conv=>lhs;unfold Zs.l1
  rw [Xb hi];rfl
theorem all2 (l:List Int) (hl:l.length≤9200) (hm:l.length%64=0) (st:List Int) (hs:st.length=8):∃r:List Int,r.length=8∧Zc fun k=>∀j,l.length<j→Zs.l2 k j l 0 st=some r:=by
 refine Zin (fun k j (s:Int×List Int)=>Zs.l2 k j l s.1 s.2) (fun s=>((l.length:Int)-s.1).toNat) (fun s=>∃q:Nat,s.1=64*(q:Int)∧s.1≤(l.length:Int)∧s.2.length=8) (fun r=>r.length=8) (fun s ⟨q,h0,h1,h2⟩=>?_) l.length (0,st) ⟨0,by simp,by simp,hs⟩ (by simp)
 obtain ⟨i,o⟩:=s
 have h0:i=64*(q:Int):=h0
 have h1:i≤(l.length:Int):=h1
 have h2:o.length=8:=h2
 by_cases hi:i<(l.length:Int)
 ·right
  obtain ⟨t,et,ht⟩:=Zjgb (l:=l) (i:=i) (j:=i+64) (by omega) (by omega) (by omega);obtain ⟨r,hr,er⟩:=Zsfb o (Znb t) h2 (by rw [Zhh];omega);refine ⟨(i+64,r),⟨q+1,by show i+64=_;omega,by show i+64≤_;omega,hr⟩,by show ((l.length:Int)-(i+64)).toNat<((l.length:Int)-i).toNat;omega,er.mono fun k er j=>?_⟩;show Zs.l2 k (j+1) l i o=_
  conv=>lhs;unfold Zs.l2
  rw [Xa hi,w64 (n:=i+64) (by omega) (by omega)];simp only [Xe];rw [et];simp only [Yb];have er:Zr k o (Znb t)=some r:=er;rw [er];rfl
 ·left
  refine ⟨o,Zc.of fun k j=>?_,h2⟩;show Zs.l2 k (j+1) l i o=_
  conv=>lhs;unfold Zs.l2
  rw [Xb hi];rfl
theorem all3 (st:List Int) (hs:st.length=8):∃r:List Int,r.length=32∧Zc fun k=>∀j,8<j→Zs.l3 j 0 st []=some r:=by
 refine Zin (fun k j (s:Int×List Int)=>Zs.l3 j s.1 st s.2) (fun s=>(8-s.1).toNat) (fun s=>0≤s.1∧s.1≤8∧(s.2.length:Int)=4*s.1) (fun r=>r.length=32) (fun s ⟨h0,h1,h2⟩=>?_) 8 (0,[]) ⟨by simp,by simp,by simp⟩ (by simp)
 obtain ⟨i,o⟩:=s
 have h0:0≤i:=h0
 have h1:i≤8:=h1
 have h2:(o.length:Int)=4*i:=h2
 by_cases hi:i<8
 ·right
  obtain ⟨x,ex,_⟩:=Zgd (l:=st) (i:=i) (by omega) (by omega);refine ⟨(i+1,o++[(Ya .u8 (shr .i64 x 24)),(Ya .u8 (shr .i64 x 16)),(Ya .u8 (shr .i64 x 8)),(Ya .u8 x)]),⟨by show 0≤i+1;omega,by show i+1≤8;omega,by show ((o++[_,_,_,_]).length:Int)=4*(i+1);rw [Yc];simp only [Yd,Ye];omega⟩,by show (8-(i+1)).toNat<(8-i).toNat;omega,Zc.of fun k j=>?_⟩;show Zs.l3 (j+1) i st o=_
  conv=>lhs;unfold Zs.l3
  rw [Xa hi,w64 (n:=i+1) (by omega) (by omega)];simp only [Xe,ex,Yb];rw [Z3b (by omega),Z3b (by omega),Z3b (by omega)];simp only [Yb];rw [Zsb (by simp;omega)];rfl
 ·left
  refine ⟨o,Zc.of fun k j=>?_,by omega⟩;show Zs.l3 (j+1) i st o=_
  conv=>lhs;unfold Zs.l3
  rw [Xb hi];rfl
end Dgu
open Dgu in
theorem sDigest_ev (s:Str) (h:s.length≤8000):Ev (fun k=>Zpn k s) fun d=>d.length=32:=by
 have hb:(Zfb s).length=s.length:=by simp [Zfb]
 obtain ⟨a,⟨h1,h2⟩,ea⟩:=all0 (Zfb s++[128]) (by rw [Yc,hb];simp;omega)
 obtain ⟨b,⟨h3,h4⟩,eb⟩:=all1 (Ya .u64 (Ya .i64 (8*(s.length:Int)))) a h1 h2
 have hst:∃st,Zmr=some st∧st.length=8:=⟨_,rfl,rfl⟩
 obtain ⟨st,es,hs⟩:=hst
 obtain ⟨c,h5,ec⟩:=all2 b h3 h4 st hs
 obtain ⟨d,h6,ed⟩:=all3 c h5
 refine ⟨Znb d,by show (Znb d).length=32;rw [Zhh];exact h6,((((ea.and eb).and ec).and ed).and (Zc.ge 9300 fun k hk=>hk)).mono fun k ⟨⟨⟨⟨ea,eb⟩,ec⟩,ed⟩,hk⟩=>?_⟩
 unfold Zpn Zs
 rw [Xb (by omega:¬(8000<(s.length:Int))),Zt4 (by omega)]
 simp only [Xf,Yb]
 rw [Zsb (by rw [hb];simp;omega)]
 simp only [Yb]
 rw [ea k (by omega)]
 simp only [Yb]
 rw [eb k (by omega)]
 simp only [Yb]
 rw [es]
 simp only [Yb]
 rw [ec k (by omega)]
 simp only [Yb]
 rw [ed k (by omega)]
 rfl
abbrev Zah:=List Int×Int×Int×Int
def Src (s:Zah):Prop:=0≤s.2.1∧s.1.length≤140737488351232
theorem Zbr (s:Zah) (hs:Src s) (m:Int) (hm:m<9223372036854775807):∃p:Int×Zah,Zkd s m=some p∧Src p.2∧0≤p.1∧(m≤1→p.1=0)∧(1<m→p.1<m):=by
 unfold Zkd
 by_cases h:m≤1
 ·rw [Xa h]
  exact ⟨(0,s),rfl,hs,Ys _,fun _=>rfl,fun q=>by omega⟩
 ·have hj:∃q:Int×Zah,Zkd.j0 0 s.1 s.2.1 s.2.2.1 s.2.2.2=some q∧Src q.2:=by
   obtain ⟨h0,h1⟩:=hs;unfold Zkd.j0
   by_cases ha:s.2.1<(s.1.length:Int)
   ·obtain ⟨c,ec,_⟩:=Zgd h0 ha
    rw [Xa ha,ec,w64 (by omega) (by omega)];exact ⟨(Ya .u64 c,s.1,s.2.1+1,s.2.2.1,s.2.2.2),rfl,by show 0≤s.2.1+1;omega,h1⟩
   ·rw [Xb ha]
    exact ⟨(0,s),rfl,h0,h1⟩
  obtain ⟨q,hq,hq2⟩:=hj;rw [Xb h,hq];simp only [Xf,Yb];rw [Z3b (by omega),Z3b (by omega),Z3b (by omega),Z3b (by omega),Z7z (n:=m) (by omega) (by omega),Z7i (by omega)];simp only [Yb];generalize intBits .xor .u64 (intBits .xor .u64 (intBits .xor .u64 q.2.2.2.1 (shl .u64 q.2.2.2.1 13)) (shr .u64 (intBits .xor .u64 q.2.2.2.1 (shl .u64 q.2.2.2.1 13)) 7)) (shl .u64 (intBits .xor .u64 (intBits .xor .u64 q.2.2.2.1 (shl .u64 q.2.2.2.1 13)) (shr .u64 (intBits .xor .u64 q.2.2.2.1 (shl .u64 q.2.2.2.1 13)) 7)) 17)=e;generalize hx:Ya .u64 (q.1+shr .u64 e 20)=x;have hx0:0≤x:=by rw [← hx,Z9f];omega
  have h1:Yx x m=x%m:=Yu hx0;have h2:=Y2 x (by omega:m≠0);have h3:=Y1 x (by omega:0<m);refine ⟨(x%m,q.2.1,q.2.2.1,e,q.2.2.2.2),?_,hq2,h2,fun q=>absurd q h,fun _=>h3⟩;rw [h1,w64 (by omega) (by omega)]
theorem Z53 (s:Zah) (hs:Src s) (m:Int) (hm:m<9223372036854775807):∃p:Bool×Zah,Zgl s m=some p∧Src p.2:=by
 obtain ⟨p,h1,h2,_⟩:=Zbr s hs m hm
 unfold Zgl
 rw [h1]
 exact ⟨(p.1==0,p.2),rfl,h2⟩
theorem Zwob (code:List Int) (hc:code.length≤1048576):∃s:Zah,Src s∧∀k,65≤k→Zqe k code=some s:=by
 have hl:∃r:Zah,Src r∧∀k,64<k→Zqe.l0 k code 0 code 0 88172645463325252 0=some r:=by
  refine Zclb (fun j (s:Int×Int)=>Zqe.l0 j code s.1 code 0 s.2 0) (fun s=>(64-s.1).toNat) (fun s=>0≤s.1∧s.1≤64) Src (fun s ⟨h0,h1⟩=>?_) 64 (0,88172645463325252) ⟨by simp,by simp⟩ (by simp);obtain ⟨i,mix⟩:=s;have h0:0≤i:=h0;have h1:i≤64:=h1
  by_cases hi:i<(code.length:Int)∧i<64
  ·right
   obtain ⟨c,ec,_⟩:=Zgd h0 hi.1;refine ⟨(i+1,Ya .u64 ((intBits .xor .u64 mix (Ya .u64 c))*1099511628211)),⟨by show 0≤i+1;omega,by show i+1≤64;omega⟩,by show (64-(i+1)).toNat<(64-i).toNat;omega,fun j=>?_⟩;show Zqe.l0 (j+1) code i code 0 mix 0=_
   conv=>lhs;unfold Zqe.l0
   rw [Xa hi.1,Xa hi.2,ec,w64 (n:=i+1) (by omega) (by omega)];rfl
  ·left
   refine ⟨(code,0,mix,0),fun j=>?_,by show (0:Int)≤0;omega,by show code.length≤_;omega⟩;show Zqe.l0 (j+1) code i code 0 mix 0=_
   conv=>lhs;unfold Zqe.l0
   rw [show (decide (i<(code.length:Int))&&decide (i<64))=false by rw [Bool.eq_false_iff,Ne,Ym,decide_eq_true_eq,decide_eq_true_eq];exact hi];rfl
 obtain ⟨r,hr,er⟩:=hl
 cases hc:decide (12<Ya .i64 (Int.tdiv (code.length:Int) 20)) with
 | false=>
  refine ⟨(r.1,r.2.1,r.2.2.1,Ya .i64 (Int.tdiv (code.length:Int) 20)),hr,fun k hk=>?_⟩;unfold Zqe;rw [er k (by omega),Z7i (by omega)];simp only [Yb];rw [hc];rfl
 | true=>
  refine ⟨(r.1,r.2.1,r.2.2.1,12),hr,fun k hk=>?_⟩;unfold Zqe;rw [er k (by omega),Z7i (by omega)];simp only [Yb];rw [hc];rfl
theorem Zemb (s:Zah) (hs:Src s) (l:List Str) (P:Str→Prop) (hl:1<l.length) (hl2:l.length≤1000) (hP:∀x∈l,P x):∃p:Str×Zah,Z2p s l=some p∧P p.1∧Src p.2:=by
 obtain ⟨v,e,h1,h2,_,h3⟩:=Zbr s hs (l.length:Int) (by omega)
 obtain ⟨x,ex,hx⟩:=Zgd h2 (h3 (by omega))
 unfold Z2p
 rw [e]
 simp only [Yb]
 rw [ex]
 exact ⟨(x,v.2),rfl,hP x hx,h1⟩
theorem Z37 (s:Zah) (hs:Src s):∃p:Str×Zah,Zom s=some p∧p.1.length=8∧Src p.2:=by
 obtain ⟨p,e,h1,h2⟩:=Zemb s hs ([([97,97,97,97,97,97,97,97]:Str),([97,98,97,98,97,98,97,98]:Str),([104,101,108,108,111,32,32,33]:Str),([0,0,0,0,0,0,0,0]:Str),([0,0,0,1,0,0,0,0]:Str)]) (fun x=>x.length=8) (by decide) (by decide) (by decide)
 unfold Zom
 rw [e]
 exact ⟨p,rfl,h1,h2⟩
theorem Z2fb (s:Zah) (hs:Src s) (m:Int) (h0:0≤m) (h1:m≤1000):Ev (fun k=>Zhf k s m) fun p=>(p.1.length:Int)=m∧Src p.2:=by
 unfold Zhf
 refine Ev.bind (Q:=fun (r:List Int×Int×Int×Int×List Int)=>(r.2.2.2.2.length:Int)=m∧Src (r.1,(r.2.1,(r.2.2.1,r.2.2.2.1)))) ?_ fun r hr=>Ev.ret ⟨by show ((Znb r.2.2.2.2).length:Int)=m;rw [Zhh];exact hr.1,hr.2⟩
 refine Ev.loop (fun k j (z:Int×Zah×List Int)=>Zhf.l0 j m z.1 z.2.1.1 z.2.1.2.1 z.2.1.2.2.1 z.2.1.2.2.2 z.2.2) (fun z=>(m-z.1).toNat) (fun z=>0≤z.1∧z.1≤m∧(z.2.2.length:Int)=z.1∧Src z.2.1) _ (0,s,[]) ⟨by simp,h0,by simp,hs⟩ ?_
 rintro ⟨i,z,l⟩ ⟨q0,q1,q2,q3⟩
 have q0:0≤i:=q0
 have q1:i≤m:=q1
 have q2:(l.length:Int)=i:=q2
 by_cases hi:i<m
 ·right
  obtain ⟨v,e,h,_⟩:=Zbr z q3 256 (by omega);refine ⟨(i+1,v.2,l++[Ya .u8 v.1]),⟨by show 0≤i+1;omega,by show i+1≤m;omega,by show ((l++[_]).length:Int)=i+1;rw [Yc];simp;omega,h⟩,by show (m-(i+1)).toNat<(m-i).toNat;omega,Zc.of fun k j=>?_⟩;show Zhf.l0 (j+1) m i z.1 z.2.1 z.2.2.1 z.2.2.2 l=_
  conv=>lhs;unfold Zhf.l0
  rw [Xa hi];simp only [Xe];rw [e];simp only [Yb];rw [Zsb (by simp;omega),w64 (n:=i+1) (by omega) (by omega)];rfl
 ·left
  refine ⟨(z.1,z.2.1,z.2.2.1,z.2.2.2,l),Zc.of fun k j=>?_,by show (l.length:Int)=m;omega,q3⟩;show Zhf.l0 (j+1) m i z.1 z.2.1 z.2.2.1 z.2.2.2 l=_
  conv=>lhs;unfold Zhf.l0
  rw [Xb hi];rfl
theorem Z39 (s:Zah) (hs:Src s) (n:Int) (h0:0≤n) (h1:n≤100):Ev (fun k=>Z4e k s n) fun p=>(p.1.length:Int)=n∧Src p.2:=by
 unfold Z4e
 refine Ev.bind (Q:=fun (r:List Int×Int×Int×Int×List Str)=>(r.2.2.2.2.length:Int)=n∧Src (r.1,(r.2.1,(r.2.2.1,r.2.2.2.1)))) ?_ fun r hr=>Ev.ret hr
 refine Ev.loop (fun k j (z:Int×Zah×List Str)=>Z4e.l0 j z.1 z.2.1.1 z.2.1.2.1 z.2.1.2.2.1 z.2.1.2.2.2 z.2.2) (fun z=>z.1.toNat) (fun z=>0≤z.1∧z.1≤n∧(z.2.2.length:Int)=n-z.1∧Src z.2.1) _ (n,s,[]) ⟨h0,Ys _,by simp,hs⟩ ?_
 rintro ⟨i,z,l⟩ ⟨q0,q1,q2,q3⟩
 have q0:0≤i:=q0
 have q1:i≤n:=q1
 have q2:(l.length:Int)=n-i:=q2
 by_cases hi:0<i
 ·right
  obtain ⟨v,e,_,h⟩:=Z37 z q3;refine ⟨(i-1,v.2,l++[v.1]),⟨by show 0≤i-1;omega,by show i-1≤n;omega,by show ((l++[_]).length:Int)=n-(i-1);rw [Yc];simp;omega,h⟩,by show (i-1).toNat<i.toNat;omega,Zc.of fun k j=>?_⟩;show Z4e.l0 (j+1) i z.1 z.2.1 z.2.2.1 z.2.2.2 l=_
  conv=>lhs;unfold Z4e.l0
  rw [Xa hi];simp only [Xe];rw [e];simp only [Yb];rw [Zsb (by simp;omega),w64 (n:=i-1) (by omega) (by omega)];rfl
 ·left
  refine ⟨(z.1,z.2.1,z.2.2.1,z.2.2.2,l),Zc.of fun k j=>?_,by show (l.length:Int)=n;omega,q3⟩;show Z4e.l0 (j+1) i z.1 z.2.1 z.2.2.1 z.2.2.2 l=_
  conv=>lhs;unfold Z4e.l0
  rw [Xb hi];rfl
theorem Zmt (l:List Str) (hl:l.length≤1048576):Zc fun k=>Zcc k l=some (Zvb l):=Zc.ge 100 fun k hk=>Z44 l hk
theorem Zamb (a b:Str) (ha:a.length=8) (hb:b.length=8):Ev (fun k=>Zae k a b) fun r=>True:=by
 unfold Zae
 refine Ev.bind (Q:=fun (r:Int)=>True) ?_ fun r _=>Ev.ret trivial
 refine Ev.loop (fun k j (z:Int×Int)=>Zae.l0 j a b z.1 z.2) (fun z=>(8-z.2).toNat) (fun z=>0≤z.2) _ (0,0) (by simp) ?_
 rintro ⟨c,i⟩ q0
 have q0:0≤i:=q0
 by_cases hi:i<8
 ·right
  obtain ⟨x,ex,_⟩:=Zgd (l:=a) (i:=i) q0 (by omega);obtain ⟨y,ey,_⟩:=Zgd (l:=b) (i:=i) q0 (by omega);refine ⟨(bif ((x.toNat:Int) != (y.toNat:Int)) then Ya .i64 (c+1) else c,i+1),by show 0≤i+1;omega,by show (8-(i+1)).toNat<(8-i).toNat;omega,Zc.of fun k j=>?_⟩;show Zae.l0 (j+1) a b c i=_
  conv=>lhs;unfold Zae.l0
  rw [Xa hi,ex,ey,w64 (n:=i+1) (by omega) (by omega)];simp only [Xe,Yb];cases ((x.toNat:Int) != (y.toNat:Int)) <;> rfl
 ·left
  refine ⟨c,Zc.of fun k j=>?_,trivial⟩;show Zae.l0 (j+1) a b c i=_
  conv=>lhs;unfold Zae.l0
  rw [Xb hi];rfl
theorem Znhb {a:List Str} (h8:∀x∈a,x.length=8) (hl:a.length≤8) {n:Int} (hn:0≤n∧n<(a.length:Int)) {t:Str} (ht:t.length=8):Ev (fun k=>Zmc k a n t) (ForOk a n t):=by
 have hz:Znr=some Zmw:=rfl
 unfold Zmc
 refine Ev.bnd hz (Ev.cond (fun q=>?_) fun _=>?_)
 ·have e:t=Zmw:=by simpa using q
  rw [e];exact Ev.ret (Zqhb a hn)
 refine Ev.bind (Q:=fun (r:Zk ⊕ Zk)=>∀y,r = .inr y→ForOk a n t y) ?_ fun r hr=>?_
 ·refine Ev.loop (fun k j (i:Nat)=>Zmc.l0 j a n t (i:Int) 0 0 0 []) (fun i=>a.length-i) (fun i=>True) _ 0 trivial ?_
  intro i _
  by_cases hi:i<a.length
  ·cases hx:(a[i]==t) with
   | true=>
    have e:a[i]=t:=by simpa using hx
    left;refine ⟨.inr (3,n,(i:Int),[]),Zc.of fun k j=>?_,fun y hy=>?_⟩
    ·conv=>lhs;unfold Zmc.l0
     rw [dlt hi,Zm hi];simp only [Xe,Yb,hx]
    ·cases hy
     rw [← e];exact Zmhb a hn hi
   | false=>
    right;refine ⟨i+1,trivial,by omega,Zc.of fun k j=>?_⟩
    conv=>lhs;unfold Zmc.l0
    rw [dlt hi,Zm hi,Zv (by omega)];simp only [Xe,Yb,hx,Xf]
  ·left
   refine ⟨.inl (0,0,0,[]),Zc.of fun k j=>?_,fun y hy=>by cases hy⟩
   conv=>lhs;unfold Zmc.l0
   rw [Zib (by omega)];rfl
 ·cases r with
  | inr y=>exact Ev.ret (hr y rfl)
  | inl y=>
   refine Ev.bind (Q:=fun (r:Zk ⊕ Zk)=>∀y,r = .inr y→ForOk a n t y) ?_ fun r hr=>?_
   ·refine Ev.loop (fun k j (i:Nat)=>Zmc.l1 k j a n t (i:Int) y.1 y.2.1 y.2.2.1 y.2.2.2) (fun i=>a.length-i) (fun i=>True) _ 0 trivial ?_
    intro i _
    by_cases hi:i<a.length
    ·have h8i:=h8 _ (Yh hi)
     obtain ⟨o,_,eo⟩:=Zamb a[i] t h8i ht
     by_cases h2:o≤2
     ·left
      have ex:Zc fun k=>Z3e k a[i] t=some (Z5h a[i] t):=Zc.ge 10 fun k hk=>Zhob a[i] t hk
      refine ⟨.inr (4,n,(i:Int),Z5h a[i] t),(eo.and ex).mono fun k ⟨eo,ew⟩ j=>?_,fun y hy=>?_⟩
      ·have eo:Zae k a[i] t=some o:=eo
       have ew:Z3e k a[i] t=some (Z5h a[i] t):=ew
       conv=>lhs;unfold Zmc.l1
       rw [dlt hi,Zm hi];simp only [Xe,Yb];rw [eo];simp only [Yb];rw [Xa h2,ew];rfl
      ·cases hy
       exact Zphb a hn hi h8i ht
     ·right
      refine ⟨i+1,trivial,by omega,eo.mono fun k eo j=>?_⟩;have eo:Zae k a[i] t=some o:=eo
      conv=>lhs;unfold Zmc.l1
      rw [dlt hi,Zm hi,Zv (by omega)];simp only [Xe,Yb];rw [eo];simp only [Yb];rw [Xb h2];rfl
    ·left
     refine ⟨.inl y,Zc.of fun k j=>?_,fun z hz=>by cases hz⟩
     conv=>lhs;unfold Zmc.l1
     rw [Zib (by omega)];rfl
   ·cases r with
    | inr y=>exact Ev.ret (hr y rfl)
    | inl y=>exact Ev.ret (Zohb a hn ht)
theorem Z7ob {a b:List Str} (ia:Zvb a=true) (ib:Zvb b=true) (hab:a.length=b.length):Ev (fun k=>Z8d k a b) fun r=>DiffOk a b r a.length:=by
 obtain ⟨a1,a2,a3⟩:=Zig ia
 obtain ⟨b1,b2,b3⟩:=Zig ib
 unfold Z8d
 refine Ev.bind (Q:=fun v=>v=true) (Ev.ever (Zmt a (by omega)) ia) fun v3 h3=>?_
 subst h3
 refine Ev.cond (fun q=>by cases q) fun _=>?_
 refine Ev.bind (Q:=fun v=>v=true) (Ev.ever (Zmt b (by omega)) ib) fun v4 h4=>?_
 subst h4
 refine Ev.cond (fun q=>by rw [hab] at q;simp at q) fun _=>?_
 refine Ev.bind (Q:=fun (r:List Zk)=>DiffOk a b r a.length) ?_ fun r hr=>Ev.ret hr
 refine Ev.loop (fun k j (z:Nat×List Zk)=>Z8d.l0 k j a b (z.1:Int) z.2) (fun z=>a.length-z.1) (fun z=>z.1≤a.length∧DiffOk a b z.2 z.1) _ (0,[]) ⟨Yq _,DiffOk.zero a b⟩ ?_
 rintro ⟨i,l⟩ ⟨q0,q1⟩
 have q0:i≤a.length:=q0
 have q1:DiffOk a b l i:=q1
 have hlen:=q1.len
 by_cases hi:i<a.length
 ·right
  have hib:i<b.length:=by omega
  cases hxy:(a[i]==b[i]) with
  | true=>
   have e:a[i]=b[i]:=by simpa using hxy
   refine ⟨(i+1,l),⟨hi,q1.same (by rw [Z3g hi,Z3g hib,e])⟩,by show a.length-(i+1)<a.length-i;omega,Zc.of fun k j=>?_⟩;show Z8d.l0 k (j+1) a b (i:Int) l=_
   conv=>lhs;unfold Z8d.l0
   rw [dlt hi,Zm hi,Zm hib,Zv (by omega)];simp only [Xe,Yb,hxy,Yw,Xf]
  | false=>
   obtain ⟨w,hw,ew⟩:=Znhb a3 a2 (n:=(i:Int)) ⟨by omega,by omega⟩ (b3 _ (Yh hib));refine ⟨(i+1,l++[w]),⟨hi,q1.add (by rw [Z3g hib];exact hw)⟩,by show a.length-(i+1)<a.length-i;omega,ew.mono fun k ew j=>?_⟩;have ew:Zmc k a (i:Int) b[i]=some w:=ew;show Z8d.l0 k (j+1) a b (i:Int) l=_
   conv=>lhs;unfold Z8d.l0
   rw [dlt hi,Zm hi,Zm hib,Zv (by omega)];simp only [Xe,Yb,hxy,Bool.not_false];rw [ew];simp only [Yb];rw [Zsb (by simp;omega)];rfl
 ·left
  refine ⟨l,Zc.of fun k j=>?_,?_⟩
  ·show Z8d.l0 k (j+1) a b (i:Int) l=_
   conv=>lhs;unfold Z8d.l0
   rw [Zib (by omega)];rfl
  ·rw [show a.length=i by omega]
   exact q1
theorem Zobb {a b:List Str} (ia:Zvb a=true) (ib:Zvb b=true) (hab:a.length=b.length):Ev (fun k=>Zlk k a b) fun p=>∃l,DiffOk a b l a.length∧p=((a.length:Int),(Z7g b.flatten,(l++[Zbm],0))):=by
 obtain ⟨a1,a2,a3⟩:=Zig ia
 obtain ⟨b1,b2,b3⟩:=Zig ib
 unfold Zlk
 refine Ev.cond (fun q=>by simp at q;omega) fun _=>?_
 refine Ev.bind (Q:=fun v=>v=true) (Ev.ever (Zmt a (by omega)) ia) fun v3 h3=>?_
 subst h3
 refine Ev.cond (fun q=>by cases q) fun _=>?_
 refine Ev.bind (Q:=fun v=>v=true) (Ev.ever (Zmt b (by omega)) ib) fun v4 h4=>?_
 subst h4
 refine Ev.cond (fun q=>by rw [hab] at q;simp at q) fun _=>?_
 refine Ev.bind (Z7ob ia ib hab) fun l hl=>?_
 have hlen:=hl.len
 refine Ev.bnd (Zsb (by simp;omega)) (Ev.bind (Q:=fun d=>d=Z7g b.flatten) (Ev.ever (Zrnb ib) rfl) fun d hd=>Ev.ret ⟨l,hl,?_⟩)
 rw [hd]
 rfl
theorem Znbb {a b:List Str} (ha:a.length≤1048576) (hb:b.length≤1048576) (h:¬(Zvb a=true∧Zvb b=true∧a.length=b.length)):Ev (fun k=>Zlk k a b) fun p=>p.2.2.2≠0∧p.2.2.1=[]:=by
 have ill:∀c,Ztn c=some (0,[],[],c):=fun c=>rfl
 unfold Zlk
 refine Ev.cond (fun _=>Ev.bnd (ill 2) (Ev.ret ⟨by decide,rfl⟩)) fun _=>?_
 refine Ev.bind (Ev.ever (Zmt a ha) rfl) fun v4 h4=>Ev.cond (fun _=>Ev.bnd (ill 1) (Ev.ret ⟨by decide,rfl⟩)) fun q4=>?_
 refine Ev.bind (Ev.ever (Zmt b hb) rfl) fun v6 h6=>Ev.cond (fun _=>Ev.bnd (ill 1) (Ev.ret ⟨by decide,rfl⟩)) fun q6=>?_
 exfalso
 have q6:=(Bool.or_eq_false_iff).1 q6
 refine h ⟨by rw [h4];simpa using q4,by rw [h6];simpa using q6.1,?_⟩
 have:(a.length:Int)=(b.length:Int):=by simpa using q6.2
 omega
theorem Z3ob {x y z:Int} {t:Str} {n:Int} (h2:n≤8) (h:Zxc x y z t n=true):Zxc x y z t 8=true:=by
 unfold Zxc at h ⊢
 split at h
 ·rename_i q
  rw [Xc q];simp only [Ym,decide_eq_true_eq] at h ⊢;exact ⟨⟨⟨h.1.1.1,by omega⟩,h.1.2⟩,h.2⟩
 ·rename_i q1
  rw [Xd q1];split at h
  ·rename_i q
   rw [Xc q];simp only [Ym,decide_eq_true_eq] at h ⊢;exact ⟨⟨⟨h.1.1.1,by omega⟩,h.1.2⟩,h.2⟩
  ·rename_i q2
   rw [Xd q2];split at h
   ·rename_i q
    rw [Xc q];simp only [Ym,decide_eq_true_eq] at h ⊢;exact ⟨⟨⟨h.1.1.1,by omega⟩,h.1.2.1,by omega⟩,h.2⟩
   ·rename_i q3
    rw [Xd q3];split at h
    ·rename_i q
     rw [Xc q];simp only [Ym,decide_eq_true_eq] at h ⊢;exact ⟨⟨⟨h.1.1.1,by omega⟩,h.1.2.1,by omega⟩,h.2⟩
    ·rename_i q4
     rw [Xd q4];exact h
theorem Zqob (t:Str):(Z7g t).length=32:=by
 unfold Z7g
 rw [Zhh]
 have ho:∀v,(Zsg v).length=4:=fun v=>by simp [Zsg,bb]
 simp [lst,List.flatMap_cons,ho]
theorem Zfbb (s:Zah) (hs:Src s):Ev (fun k=>Zsn k s) fun p=>p.1.length≤100∧Src p.2:=by
 obtain ⟨v2,e2,h2,l2,_,u2⟩:=Zbr s hs 5 (by omega)
 have u2:=u2 (by omega)
 have e3:Ya .i64 (1+v2.1)=1+v2.1:=w64 (by omega) (by omega)
 unfold Zsn
 refine Ev.bnd e2 ?_
 simp only [e3]
 refine Ev.bind (Z39 v2.2 h2 (1+v2.1) (by omega) (by omega)) fun v3 h3=>?_
 obtain ⟨v4,e4,h4⟩:=Z53 v3.2 h3.2 12 (by omega)
 refine Ev.bnd e4 (Ev.cond (fun _=>?_) fun _=>Ev.ret ⟨by show v3.1.length≤100;omega,h4⟩)
 obtain ⟨v5,e5,h5,l5,_,u5⟩:=Zbr v4.2 h4 3 (by omega)
 refine Ev.bnd e5 (Ev.cond (fun _=>?_) fun _=>Ev.cond (fun _=>Ev.ret ⟨by simp,h5⟩) fun _=>?_)
 ·obtain ⟨v6,e6,h6,l6,_,u6⟩:=Zbr v5.2 h5 2 (by omega)
  have u6:=u6 (by omega);have e7:Ya .i64 (7+Ya .i64 (2*v6.1))=7+2*v6.1:=by rw [w64 (n:=2*v6.1) (by omega) (by omega),w64 (by omega) (by omega)]
  refine Ev.bnd e6 ?_;simp only [e7];refine Ev.bind (Z2fb v6.2 h6 (7+2*v6.1) (by omega) (by omega)) fun v7 h7=>?_
  obtain ⟨x,ex,_⟩:=Zgd (l:=v3.1) (i:=0) (by omega) (by omega);exact Ev.bnd ex (Ev.bnd ex (Ev.ret ⟨by show (List.set _ _ _).length≤100;rw [Yn];omega,h7.2⟩))
 ·obtain ⟨v6,e6,h6,l6,_,u6⟩:=Zbr v5.2 h5 2 (by omega)
  have u6:=u6 (by omega);have e7:Ya .i64 (8+v6.1)=8+v6.1:=w64 (by omega) (by omega);refine Ev.bnd e6 ?_;simp only [e7];exact Ev.bind (Z39 v6.2 h6 (8+v6.1) (by omega) (by omega)) fun v7 h7=>Ev.ret ⟨by show v7.1.length≤100;omega,h7.2⟩
theorem Zzgb (code:List Int) (hc:code.length≤1048576):Ev (fun k=>Z6d k code) fun p=>p.1.length≤100∧p.2.length≤100:=by
 obtain ⟨s,hs,es⟩:=Zwob code hc
 unfold Z6d
 refine Ev.bind (Q:=Src) (Ev.ever (Zc.ge 65 es) hs) fun s hs=>Ev.bind (Zfbb s hs) fun v3 h3=>Ev.bnd (Zsb (by have:=h3.1;simp;omega)) ?_
 refine Ev.bind (Q:=fun (r:List Int×Int×Int×Int×List Str)=>Src (r.1,(r.2.1,(r.2.2.1,r.2.2.2.1)))∧r.2.2.2.2.length≤100) ?_ fun r hr=>?_
 ·refine Ev.loop (fun k j (z:Int×Zah×List Str)=>Z6d.l0 j z.1 z.2.1.1 z.2.1.2.1 z.2.1.2.2.1 z.2.1.2.2.2 z.2.2) (fun z=>((z.2.2.length:Int)-z.1).toNat) (fun z=>0≤z.1∧z.2.2.length≤100∧Src z.2.1) _ (0,v3.2,[]++v3.1) ⟨by simp,by simpa using h3.1,h3.2⟩ ?_
  rintro ⟨i,z,l⟩ ⟨q0,q1,q2⟩;have q0:0≤i:=q0;have q1:l.length≤100:=q1
  by_cases hi:i<(l.length:Int)
  ·right
   obtain ⟨v7,e7,h7⟩:=Z53 z q2 2 (by omega);obtain ⟨b,z2⟩:=v7;cases b with
   | true=>
    obtain ⟨v9,e9,_,h9⟩:=Z37 z2 h7;obtain ⟨x,ex,_⟩:=Zgd (l:=l) (i:=i) q0 hi;refine ⟨(i+1,v9.2,l.set i.toNat v9.1),⟨by show 0≤i+1;omega,by show (l.set _ _).length≤100;rw [Yn];exact q1,h9⟩,by show (((l.set i.toNat v9.1).length:Int)-(i+1)).toNat<((l.length:Int)-i).toNat;rw [Yn];omega,Zc.of fun k j=>?_⟩;show Z6d.l0 (j+1) i z.1 z.2.1 z.2.2.1 z.2.2.2 l=_
    conv=>lhs;unfold Z6d.l0
    rw [Xa hi,Xe,w64 (n:=i+1) (by omega) (by omega)];exact Za e7 (Za e9 (Za ex (Za ex rfl)))
   | false=>
    refine ⟨(i+1,z2,l),⟨by show 0≤i+1;omega,q1,h7⟩,by show ((l.length:Int)-(i+1)).toNat<((l.length:Int)-i).toNat;omega,Zc.of fun k j=>?_⟩;show Z6d.l0 (j+1) i z.1 z.2.1 z.2.2.1 z.2.2.2 l=_
    conv=>lhs;unfold Z6d.l0
    rw [Xa hi,Xe,w64 (n:=i+1) (by omega) (by omega)];exact Za e7 rfl
  ·left
   refine ⟨(z.1,z.2.1,z.2.2.1,z.2.2.2,l),Zc.of fun k j=>?_,q2,q1⟩;show Z6d.l0 (j+1) i z.1 z.2.1 z.2.2.1 z.2.2.2 l=_
   conv=>lhs;unfold Z6d.l0
   rw [Xb hi];rfl
 ·obtain ⟨v6,e6,h6⟩:=Z53 _ hr.1 12 (by omega)
  exact Ev.bnd e6 (Ev.cond (fun _=>Ev.bind (Zfbb v6.2 h6) fun v7 h7=>Ev.ret ⟨h3.1,h7.1⟩) fun _=>Ev.ret ⟨h3.1,hr.2⟩)
theorem Zygb (code:List Int) (hc:code.length≤1048576):Ev (fun k=>Zfl k code) fun p=>p.1.length≤100∧p.2.length≤100:=by
 unfold Zfl
 exact Ev.bind (Zzgb code hc) fun p hp=>Ev.ret hp
theorem Zbs {m m':Zn} {c:Zmg} {t:Str} {r:List Int} (h:doR m c=(m',(t,(r,0)))):Zc fun k=>Zhi k m c=some (flD (m',(t,(r,0)))):=by
 rw [← h]
 have q:Zaf m=true∧Zeg c=true:=by
  refine Decidable.byContradiction fun q=>?_
  unfold doR at h;rw [Xd q] at h;have:=(Prod.mk.inj (Prod.mk.inj (Prod.mk.inj h).2).2).2;exact absurd this (by decide)
 exact iDoR q.1 q.2
structure OnTrial (m:Zn) (a b:List Str) (L:List Zk) (nd st:Int) (dg:Str) (w:Nat) (tr:Int):Prop where
 dev:Dev m a 4 tr nd st 0 dg 0 w
 log:LogAt m st w L
 code:Zwb L (a.length:Int)=0
 ab:Z8e a L=b
 slots:Zob (Zg L)≤st
 gen:(Zf m.2).1≤10-tr
 cl:m.2.2=[]
theorem OnTrial.sound {m:Zn} {a b:List Str} {L:List Zk} {nd st tr:Int} {dg:Str} {w:Nat} (h:OnTrial m a b L nd st dg w tr):Zel m st 0 w=true:=by
 have hb:=h.dev.b
 exact Ze5 h.log.log (by rw [hb];exact h.code) h.slots (by omega)
theorem OnTrial.right {m:Zn} {a b:List Str} {L:List Zk} {nd st tr:Int} {dg:Str} {w:Nat} (h:OnTrial m a b L nd st dg w tr):Zaf m=true:=h.dev.right fun _=>h.sound
theorem OnTrial.view {m:Zn} {a b:List Str} {L:List Zk} {nd st tr:Int} {dg:Str} {w:Nat} (h:OnTrial m a b L nd st dg w tr):Z1j m 4 st 0 w=b:=by
 unfold Z1j
 rw [Xc rfl,h.dev.blocks,h.log.log]
 exact h.ab
theorem Zxfb {a:List Str} {L:List Zk} {st:Int} {dg:Str} {w:Nat} (hL:L.length≤20) (h1:a.length≤8) (hc:Zwb L (a.length:Int)=0) (p3:Int) (p4:Str) (p5:Int) {m:Zn} (hd:Dev m a 2 0 (L.length:Int) st 0 dg 0 w) (hl:LogAt m st w []) (hg:(Zf m.2).1≤2):
  Ev (fun k=>Zyd.l0 k k true 0 p3 p4 p5 m.1 [] 0 L m.2.1 m.2.2 []) fun r=>∃m',r=(true,(p3,(p4,(p5,(m'.1,([],(0,(L,(m'.2.1,(m'.2.2,[]))))))))))∧Dev m' a 2 0 (L.length:Int) st 0 dg 0 w∧LogAt m' st w L∧(Zf m'.2).1≤2:=by
 refine Ev.loop (fun k j (z:Nat×Zn)=>Zyd.l0 k j true (z.1:Int) p3 p4 p5 z.2.1 [] 0 L z.2.2.1 z.2.2.2 []) (fun z=>L.length-z.1) (fun z=>z.1≤L.length∧Dev z.2 a 2 0 (L.length:Int) st 0 dg 0 w∧LogAt z.2 st w (L.take z.1)∧(Zf z.2.2).1≤2) _ (0,m) ⟨Yq _,hd,hl,hg⟩ ?_
 rintro ⟨i,m⟩ ⟨q0,q1,q2,q3⟩
 have q0:i≤L.length:=q0
 have q1:Dev m a 2 0 (L.length:Int) st 0 dg 0 w:=q1
 have q2:LogAt m st w (L.take i):=q2
 have q3:(Zf m.2).1≤2:=q3
 by_cases hi:i<L.length
 ·right
  have hx:Zxc L[i].1 L[i].2.1 L[i].2.2.1 L[i].2.2.2 8=true:=Z3ob (by omega) ((Zue hc).2.2.2.1 _ (Yh hi))
  have hcp:Zwb (L.take i++[L[i]]) (a.length:Int)=0:=by
   rw [← Yca hi];refine Zggb (r:=L.drop (i+1)) ?_;rw [List.take_append_drop];exact hc
  obtain ⟨m',k1,k2,k3,k4⟩:=q1.step q2 (by rw [Yy];omega) hx hcp (by omega);rw [← Yca hi] at k3;refine ⟨(i+1,m'),⟨hi,k2,k3,by show (Zf m'.2).1≤2;omega⟩,by show L.length-(i+1)<L.length-i;omega,(Zbs k1).mono fun k e j=>?_⟩;show Zyd.l0 k (j+1) true (i:Int) p3 p4 p5 m.1 [] 0 L m.2.1 m.2.2 []=_
  conv=>lhs;unfold Zyd.l0
  rw [dlt hi,Xe,Zv (by omega)];exact Za (Zm hi) (Za (Zm hi) (Za e rfl))
 ·left
  obtain rfl:i=L.length:=by omega
  rw [Yl] at q2;refine ⟨_,Zc.of fun k j=>?_,m,rfl,q1,q2,q3⟩;show Zyd.l0 k (j+1) true (L.length:Int) p3 p4 p5 m.1 [] 0 L m.2.1 m.2.2 []=_
  conv=>lhs;unfold Zyd.l0
  rw [Zib (Yf _)];rfl
theorem Zimb (n:Int):Ev (fun k=>Zlm k [] n) fun p=>p.1.length≤40:=by
 unfold Zlm
 refine Ev.cond (fun _=>Ev.ret (by simp)) fun _=>?_
 refine Ev.bind (Ev.ever (Zcdb [] n (by simp)) rfl) fun v hv=>Ev.cond (fun _=>Ev.ret (by simp)) fun _=>?_
 exact Ev.bind (Q:=fun (l:List Zbc)=>l.length≤40) (Ev.ever (Zc.ge 60 (Z8cb [] (by simp) (fun x hx=>by cases hx))) (by decide)) fun l hl=>Ev.ret hl
theorem Zvfb {code:List Int} {a b:List Str} (ha:Zvb a=true) (hb:Zvb b=true) (hab:a.length=b.length) (ed:Zc fun k=>Zfl k code=some (a,b)):
  Ev (fun k=>Zyd k code) fun r=>∃m L nd st dg w,r=(a,(b,(m.1,(m.2.1,(m.2.2,true)))))∧OnTrial m a b L nd st dg w 2:=by
 obtain ⟨a1,a2,a3⟩:=Zig ha
 unfold Zyd
 refine Ev.bind (Q:=fun q=>q=(a,b)) (Ev.ever ed rfl) fun v2 h2=>?_
 subst h2
 refine Ev.bind (Zobb ha hb hab) fun v3 ⟨l,hl,h3⟩=>?_
 subst h3
 have hll:l.length≤a.length:=hl.len
 have a1:1≤a.length:=a1
 have hL:(l++[Zbm]).length≤20:=by rw [Yc];simp only [Yd,Ye];omega
 have hL1:1≤(l++[Zbm]).length:=by rw [Yc];simp only [Yd,Ye];omega
 have hcode:=hl.code ⟨a1,a2⟩
 have hsl:=hl.slots a2
 have happ:=hl.apply hab.symm
 have hs0:=(Z4v (Zg (l++[Zbm]))).1
 generalize l++[Zbm]=L at hL hL1 hcode hsl happ hs0 ⊢
 have hpl:=Zjp L (Zue hcode).1 (Zrh hcode)
 refine Ev.bind (Q:=fun p=>p=(Zg L,0)) (Ev.ever (Z5nb L _ hcode) rfl) fun v4 h4=>?_
 subst h4
 refine Ev.bind (Q:=fun p=>p=Zob (Zg L)) (Ev.ever (Zc.ge 41 (Zadb (Zg L) (by omega))) rfl) fun v5 h5=>?_
 subst h5
 have hn:=Zh2 (a:=a) (by omega)
 rw [Xc ha] at hn
 refine Ev.bind (Q:=fun p=>p=_) (Ev.ever hn rfl) fun v6 h6=>?_
 subst h6
 obtain ⟨d0,g0,c0⟩:=Zqgb ha
 obtain ⟨m1,w,k1,d1,l1,g1⟩:=d0.begin (A:=(L.length:Int)) (B:=Zob (Zg L)) (dg:=Z7g b.flatten) ⟨by omega,by omega⟩ ⟨hs0,hsl⟩ (Zqob _) (by omega)
 refine Ev.cond (fun q=>by cases q) fun _=>?_
 refine Ev.bind (Q:=fun p=>p=flD (m1,([],([],0)))) (Ev.ever (Zbs k1) rfl) fun v8 h8=>?_
 subst h8
 refine Ev.bind (Zxfb (m:=m1) hL a2 hcode _ _ _ d1 l1 (by omega)) fun v9 ⟨m2,h9,d2,l2,g2⟩=>?_
 subst h9
 obtain ⟨m3,k3,d3,l3,g3,c3⟩:=d2.finish l2 rfl hcode (by rw [happ]) (by omega) (by omega)
 refine Ev.bind (Q:=fun p=>p=flD (m3,([],([],0)))) (Ev.ever (Zbs k3) rfl) fun v11 h11=>?_
 subst h11
 obtain ⟨m4,k4,d4,l4,g4,c4⟩:=d3.boot3 l3 (by omega)
 have hs3:Zel m3 (Zob (Zg L)) 0 w=true:=Ze5 l3.log (by rw [d3.b];exact hcode) (Ys _) (by omega)
 have k5:doR m3 (11,(0,(0,([],Zvm))))=(m4,([],([],0))):=by
  rw [d3.does (fun _=>hs3) (Zcx (by omega) (by omega) (by omega)) (by omega)];have e:Zai m3 (11,(0,(0,([],Zvm)))) 3 0 (L.length:Int) (Zob (Zg L)) 0 (Z7g b.flatten) 0 w=Zoh (Z6j m3 3 0 (L.length:Int) (Zob (Zg L)) 0 (Z7g b.flatten) 0 w):=rfl;rw [e];exact congrArg (fun x=>(x,(([]:Str),(([]:List Int),(0:Int))))) k4
 refine Ev.bind (Q:=fun p=>p=flD (m4,([],([],0)))) (Ev.ever (Zbs k5) rfl) fun v12 h12=>?_
 subst h12
 exact Ev.cond (fun _=>Ev.ret ⟨m4,L,_,_,_,w,rfl,d4,l4,hcode,happ,Ys _,by omega,c4⟩) fun q=>by cases q
theorem Zwfb {code:List Int} {a b:List Str} (ha:a.length≤100) (hb:b.length≤100) (h:¬(Zvb a=true∧Zvb b=true∧a.length=b.length)) (ed:Zc fun k=>Zfl k code=some (a,b)):
  Ev (fun k=>Zyd k code) fun r=>∃x y z,r=(a,(b,(x,(y,(z,false))))):=by
 unfold Zyd
 refine Ev.bind (Q:=fun q=>q=(a,b)) (Ev.ever ed rfl) fun v2 h2=>?_
 subst h2
 refine Ev.bind (Znbb (a:=a) (b:=b) (by omega) (by omega) h) fun v3 ⟨h3,h3'⟩=>?_
 obtain ⟨p1,p2,p3,p4⟩:=v3
 have h3:p4≠0:=h3
 have h3':p3=[]:=h3'
 subst h3'
 refine Ev.bind (Zimb _) fun v4 h4=>?_
 refine Ev.bind (Q:=fun _=>True) (Ev.ever (Zc.ge 41 (Zadb v4.1 h4)) trivial) fun v5 _=>?_
 refine Ev.bind (Q:=fun _=>True) (Ev.ever (Zh2 (a:=a) (by omega)) trivial) fun v6 _=>?_
 exact Ev.cond (fun _=>Ev.ret ⟨_,_,_,rfl⟩) fun q=>absurd (by simpa using q) h3
end Go.Proofs.Qz
