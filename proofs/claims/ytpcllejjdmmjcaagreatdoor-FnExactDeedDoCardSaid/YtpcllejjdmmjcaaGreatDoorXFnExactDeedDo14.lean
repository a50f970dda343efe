/- What the law FnExactDeedDo needs, part 15 of 15: the Lean functions of the Go functions that it reaches, with the proofs that the calls come to what they say, and plain facts about them; the last theorem is the law. Conditions: those that each theorem states. Written by a session and by its programs (after the kit's printer). -/
import Derived.Test.YtpcllejjdmmjcaaGreatDoorRows
import Derived.Test.YtpcllejjdmmjcaaGreatDoorCards
import Derived.Test.YtpcllejjdmmjcaaGreatDoorTie
import Derived.Carry
import Derived.Handed
import Derived.LaidMore
import Derived.OpenVars
import Derived.OpenShut
import Derived.ProofKit
import Derived.SevenTiedAt
import Derived.MakeChecks
import Derived.Test.YtpcllejjdmmjcaaGreatDoorXFnExactDeedDo6
import Derived.Test.YtpcllejjdmmjcaaGreatDoorXFnExactDeedDo9
import Derived.Test.YtpcllejjdmmjcaaGreatDoorXFnExactDeedDo11
import Derived.Test.YtpcllejjdmmjcaaGreatDoorXFnExactDeedDo13
open Go.Proofs.Tryz renaming prog → Ya, f6 → Yi, checked → Yv, func6 → Yw, params6 → Y1
open Nat renaming le_refl → Yb, zero_le → Yj, le_trans → Ym, add_assoc → Yz
open Bool renaming not_true → Yc, false_ne_true → Yx
open Option renaming bind_some → Yd, some → Y0
open List renaming length_append → Ye, range → Yf, take_length → Yh, getD_eq_getElem?_getD → Yk, getElem_mem → Yl, length_cons → Yn, length_nil → Yo, getElem?_eq_getElem → Yp, length_take → Yq, take_of_length_le → Yr, append_nil → Ys, drop_length → Yt, mem_of_getElem? → Yu, mem_map → Yy
open Int renaming toNat_natCast → Yg
namespace Go.Proofs.Qz
open Go
set_option linter.unusedVariables false
def Zef (n:Nat) (l:List Zcf):Prop:=∀a∈l,Z4t n a
theorem Zqp (n:Nat):Zef n []:=fun a ha=>by cases ha
theorem Zws {n:Nat} {a b:List Zcf} (h1:Zef n a) (h2:Zef n b):Zef n (a++b):=fun x hx=>(List.mem_append.1 hx).elim (h1 x) (h2 x)
theorem Zqbb (n:Nat):Z4t n Zmi:=fun q=>by cases q
theorem Zrp (n:Nat):Zef n [Zmi]:=fun a ha=>by rw [List.mem_singleton.1 ha];exact Zqbb n
theorem Zxs {n:Nat} {a:Zcf} {l:List Zcf} (h1:Z4t n a) (h2:Zef n l):Zef n (a::l):=fun x hx=>(List.mem_cons.1 hx).elim (fun q=>q▸h1) (h2 x)
theorem Zef.take {n:Nat} {l:List Zcf} (h:Zef n l) (i:Nat):Zef n (l.take i):=fun a ha=>h a (List.mem_of_mem_take ha)
theorem Zc1 {n:Int} (h0:0≤n) (h:n≤1000000):(Zn n).length≤3:=by
 unfold Zn
 rw [Zel]
 refine Z4z 10 _ 3 ?_ (by omega)
 unfold zig
 rw [Xd (by omega)]
 omega
theorem Z6db {t:Str} (h:t.length≤1000):(Z3b t).length≤3+t.length:=by
 unfold Z3b
 rw [Ye]
 have:=Zc1 (n:=(t.length:Int)) (by omega) (by omega)
 omega
theorem Zynb {n:Int} {t:Str} (h0:0≤n) (h:n≤1000000) (ht:t.length≤80):(Zw0 n t).length≤96:=by
 have h1:=Zc1 h0 h
 have h2:=Z6db (t:=t) (by omega)
 unfold Zw0
 rw [Zz7,Ye]
 omega
theorem Z5nb {n a:Int} {t:Str} (hn:0≤n∧n≤1000000) (ha:0≤a∧a≤1000000) (ht:t.length≤8):(Zlk n a t).length≤96:=by
 have h1:=Zc1 hn.1 hn.2
 have h2:=Zc1 ha.1 ha.2
 have h3:=Z6db (t:=t) (by omega)
 unfold Zlk Zdm
 rw [Zz7,Ye,Ye]
 omega
theorem Zsob {n:Int} {x:Zk}:x.2.2.2.length≤8→(Z0x n x).length≤96:=fun h=>by
 have l0:=Zhc n
 have l1:=Zhc x.1
 have l2:=Zhc x.2.1
 have l3:=Zhc x.2.2.1
 have l4:=Ztj x.2.2.2
 unfold Z0x Zwt
 rw [Zz7]
 simp only [Ye]
 omega
section
variable {m:Zp} {ph tr nd st dn:Int} {dg:Str} {v w:Nat}
theorem Z6mb {f:Z2} {n:Nat} (h2:2≤n) {t:Str} (ht:t.length≤80):Zef n (Zmo f t):=by
 unfold Zmo
 split
 ·rename_i hg
  have h0:=Zv0 f;refine Zxs (fun _=>⟨?_,Zynb (by omega) (by omega) ht⟩) (Zrp n);dsimp only;split <;> omega
 ·exact Zqp n
theorem Z8l {f:Z2} {n:Nat} (h2:2≤n) {a b c d e:Int} {x:Str} {v w:Nat} (h:Keep a b c d e x v w):Zef n (Zne f a b c d e x v w):=Z6mb h2 h.len
theorem Z0mb {n:Nat} (h2:2≤n) (hv:v<16777216):Zef n (Z8m m v):=Z8l h2 (Zhn hv)
theorem Zxjb (hf:Fit m st w) (l:List Int) (hx:∀x∈l,0≤x∧x≤23):Zef m.2.1.length (Zgf m l):=by
 have hb:=hf.b
 have hn:=hf.n
 intro a ha
 unfold Zgf at ha
 obtain ⟨x,q,rfl⟩:=Yy.1 ha
 have:=hx x (List.mem_filter.1 q).1
 exact fun _=>⟨by dsimp only;omega,by simp⟩
theorem Zlnb (hf:Fit m st w) (l:List Int) (hx:∀x∈l,0≤x∧x≤23):Zef m.2.1.length (Z4q m l):=by
 unfold Z4q
 split
 ·exact Zqp _
 ·exact Zws (Zxjb hf l hx) (Zrp _)
theorem Zznb (w:Nat):∀x∈Zb w,0≤x∧x≤23:=fun x hx=>by
 obtain ⟨j,hj,rfl⟩:=List.mem_iff_getElem.1 hx
 exact Z9j hj
theorem Z4nb (s:Str) (n:Int) {k:Nat} (h:(Znd s n).2.1<(k:Int)):Z4t k (Znd s n):=fun q=>by
 refine ⟨⟨(Zo6 s n q).1,h⟩,?_⟩
 unfold Znd at q ⊢
 split at q
 ·rename_i hq
  rw [Xc hq];split at q
  ·split at q
   ·rename_i q2
    rw [Xc q2];have:=(Zmx.1 q2.2).2.2;dsimp only;omega
   ·cases q
  ·cases q
 ·cases q
theorem Zhw (h:MS0 m ph tr nd st dn dg v w):Zef m.2.1.length (Z2k m ph tr nd st dn dg v w):=by
 have hf:=h.fit
 have hk0:=h.keep
 have h2:=h.two
 unfold Z2k
 by_cases c2:ph=2
 ·rw [Xc c2]
  exact Zlnb hf _ fun x hx=>Zznb w x (List.mem_of_mem_drop hx)
 ·rw [Xd c2]
  by_cases c3:ph=3
  ·rw [Xc c3]
   exact Z8l h2 { hk0 with a:=by omega,b:=by omega }
  ·rw [Xd c3]
   by_cases c4:ph=4
   ·rw [Xc c4]
    by_cases ct:tr=0
    ·rw [Xc ct]
     exact Z8l h2 (Zhn h.hv)
    ·rw [Xd ct]
     have hbz:=(h.busy (by omega)).2.2.2.2.1;exact Z8l h2 { hk0 with a:=by omega,b:=by omega }
   ·rw [Xd c4]
    by_cases c5:ph=5
    ·rw [Xc c5]
     obtain ⟨q1,q2,q3,q4,q5,q6,q7,q8⟩:=h.busy (by omega);split
     ·exact Zqp _
     ·rename_i q
      refine Zws (Zxs (Z4nb _ _ (Int.not_le.1 fun z=>q (.inr z))) (Zrp _)) (Z8l h2 { hk0 with a:=by omega,e:=by omega })
    ·rw [Xd c5]
     exact Zqp _
theorem Zuhb (h:MSt m ph tr nd st dn dg v w) {c:Zdf} (hc:CmdOk c):Zef m.2.1.length (Zcp m c ph tr nd st dn dg v w).1:=by
 have hf:=h.fit
 have hb:=hf.b
 have hn:=hf.n
 have h2:=h.two
 have hk0:=h.keep
 have hid:=Z0mb (m:=m) h2 h.hv
 have nil:=Zqp m.2.1.length
 unfold Zcp
 split
 ·rename_i c1
  obtain ⟨q1,q2,q3⟩:=hc.k1 c1;unfold Zds;split
  ·split
   ·rename_i l hl
    obtain ⟨u,u1,u2,u3,u4,u5⟩:=Zb7 (Zyw h.hv (by omega)) (by omega) hl;refine Zws (Zws (fun a ha=>?_) (Zrp _)) (Z8l h2 { hk0 with a:=by omega,b:=by omega,c:=by omega,d:=by omega,e:=by omega,x:=q3,w:=by omega });unfold Zoi at ha;obtain ⟨x,q,rfl⟩:=Yy.1 ha;have:=u5 x q;exact fun _=>⟨by dsimp only;omega,by simp⟩
   ·exact nil
  ·exact nil
 ·split
  ·rename_i c2
   have hx:=hc.k2 c2;unfold Zvt;split
   ·rename_i p2
    split
    ·exact nil
    ·rename_i hne
     split
     ·obtain ⟨q1,q2,q3,q4,q5,q6,q7,q8⟩:=h.busy (by omega)
      have hll:=h.log;refine Zxs (fun _=>⟨?_,Zsob (Zhy hx)⟩) ?_
      ·have:=Z7t (w:=w) (n:=st+((Zd m st w).length:Int)) (by omega) (by omega)
       dsimp only;omega
      ·split
       ·exact Zrp _
       ·exact nil
     ·exact nil
   ·exact nil
  ·split
   ·unfold Zts
    split
    ·split
     ·split
      ·split
       ·split
        ·exact hid
        ·exact Zws (Zrp _) (Z8l h2 { hk0 with a:=by omega })
       ·exact hid
      ·exact hid
     ·exact hid
    ·exact nil
   ·split
    ·split
     ·exact nil
     ·exact hid
    ·split
     ·split
      ·refine Zws (Zxs (fun _=>⟨by dsimp only;omega,by simp⟩) (Zrp _)) (Z8l h2 { hk0 with a:=by omega,b:=by omega })
      ·exact nil
     ·split
      ·unfold Zys
       split
       ·rename_i p5
        split
        ·exact hid
        ·rename_i hne
         have hS:=h.snd (by omega);have hdn:=hS.dn;have hlt:dn<((Zh (Zd m st w)).length:Int):=by omega
         have hpl:=hS.plan;have hr:=Zy4 hS hlt;have hl:=Zz4 hS hlt
         have hr2:Zyh m st dn w<(m.2.1.length:Int):=by
          obtain ⟨_,z2,z3⟩:=Z2u hS hlt;unfold Zyh;rcases z3 with ⟨q,_,q1,q2⟩ | ⟨q,_⟩
          ·rw [Xc q];omega
          ·rw [Xd (by omega)];omega
         refine Zws (Zxs (fun _=>⟨by dsimp only;omega,?_⟩) (Zxs (Zqbb _) (Zxs (fun _=>⟨⟨hr.1,hr2⟩,hl⟩) (Zrp _)))) (Z8l h2 { hk0 with e:=by omega });dsimp only;split
         ·exact Z5nb ⟨by omega,by omega⟩ ⟨by omega,by omega⟩ (by omega)
         ·simp
       ·exact nil
      ·split
       ·split
        ·exact nil
        ·exact nil
       ·split
        ·exact nil
        ·split
         ·rename_i c9
          obtain ⟨q1,q2⟩:=hc.k9 c9;unfold Z1s;split
          ·rename_i l hl
           obtain ⟨n,hn9⟩:∃n:Nat,c.2.1=(n:Int):=⟨c.2.1.toNat,by omega⟩;rw [hn9] at hl;obtain ⟨u1,u2,u3,u4⟩:=Z84 h (by omega) hl;exact Z8l h2 { hk0 with v:=u4 }
          ·exact nil
         ·split
          ·exact Z8l h2 { hk0 with v:=by omega }
          ·exact Zhw h.toMS0
end
theorem Zxy (m:Zp) (c:Zdf):Zef m.2.1.length (Z0k m c).1:=by
 unfold Z0k
 split
 ·rename_i hmc
  split
  ·exact Zqp _
  ·split
   ·rename_i ph tr nd st dn dg v w hs
    exact Zuhb (Zj6 hs hmc.1) (Z23 hmc.2)
   ·exact Zqp _
 ·exact Zqp _
theorem Zuab {f:Z2} {n:Int} {i:Nat} (h:Zjj f n=some i):(f.2.getD i (0,[])).1=n:=by
 obtain ⟨_,h2,h3,_⟩:=Z4l (show Zmb (fun x:Z8c=>x.1==n) f.2 0=some i from h)
 rw [Zou (Zow h)]
 simpa using h3
theorem Zxmb {f:Z2} (h:FlashP f) (n:Int) (s:Str) {k:Nat} (hk:100≤k):Zyp k f n s=some (Zrm f n s):=by
 have hl:=h.len
 have hn:=h.n
 unfold Zyp Zrm
 refine Za (Z6z f n (by omega) (by omega)) ?_
 cases hd:Zjj f n with
 | some i=>
  have hi:=Zow hd;have hat:=Zd3 (l:=f.2) (0,[]) hi;dsimp only;rw [Xa (by omega:(0:Int)≤(i:Int)),Xe];refine Za hat (Za hat ?_);rw [Yg,Zuab hd]
 | none=>
  dsimp only;rw [show decide ((0:Int)≤-1)=false from rfl,Xf];exact Za (Z5 (by simp;omega)) rfl
theorem Zrmb {f:Z2} (h:FlashP f) {k:Nat} (hk:100≤k):Zyf k f=some (Z1r f):=by
 have hl:=h.len
 have hn:=h.n
 have run:=Zqb (fun j i=>Zyf.l0 j (f.2.length:Int) (i:Int) f.2 (Zfi f.1 (f.2.take i))) f.2.length (Zfi f.1 f.2,f.2) (fun i hi j=>?_) (fun j=>?_) k (by omega)
 ·have run:Zyf.l0 k (f.2.length:Int) 0 f.2 f.1=some (Zfi f.1 f.2,f.2):=run
  unfold Zyf Z1r;exact Za run rfl
 ·have hd:=(h.d _ (Yl hi)).1
  have hll:=Z9w (f.2.take i) f.1;have ha:=Zcs (l:=Zfi f.1 (f.2.take i)) [] hd.1 (by rw [hll];exact hd.2)
  conv=>lhs;unfold Zyf.l0
  rw [dlt hi,Zm (by omega),Xe];refine Za (Zg hi) (Za (Zg hi) (Za ha (Za ha ?_)));rw [Zvcb _ hi]
 ·conv=>lhs;unfold Zyf.l0
  rw [Zs (Yb _),Yh];rfl
theorem Zef.before {f:Z2} {l:List Zcf} (h:FlashP f) (hl:Zef f.1.length l) (i:Nat):FlashP (doF f (l.take i))∧(doF f (l.take i)).1.length=f.1.length:=h.acts _ (hl.take i)
theorem Z94 {f:Z2} (h:FlashP f) {l:List Zcf} (hl:Zef f.1.length l) (hn:l.length≤1000) {k:Nat} (hk:1048577≤k):Zud k f l=some (doF f l):=by
 have h2:=h.len
 have h3:=h.n
 have run:=Zqb (fun j i=>Zud.l0 k j l (l.length:Int) (i:Int) (doF f (l.take i)).1 (doF f (l.take i)).2) l.length (doF f l) (fun i hi j=>?_) (fun j=>?_) k (by omega)
 ·have run:Zud.l0 k k l (l.length:Int) 0 f.1 f.2=some (doF f l):=run
  have hc:Z4p f=some f:=by
   unfold Z4p Zii Ztk;refine Za (a:=f.1) (Za (Z5 (by simp;omega)) rfl) (Za (a:=f.2) (Za (Z5 (by simp;omega)) rfl) rfl)
  unfold Zud;exact Za hc (Za run rfl)
 ·obtain ⟨b1,b2⟩:=hl.before h i
  conv=>lhs;unfold Zud.l0
  rw [dlt hi,Zm (by omega),Xe,Z0ab f hi];refine Za (Zg hi) ?_;unfold doA;cases q:l[i].1 with
  | true=>
   rw [Xc rfl];exact Za (Zrmb b1 (by omega)) rfl
  | false=>
   rw [Xd Yx];exact Za (Zxmb b1 _ _ (by omega)) rfl
 ·conv=>lhs;unfold Zud.l0
  rw [Zs (Yb _),Yh];rfl
theorem Zcfb {f:Z2} (h:FlashP f):Zsl f=some f:=by
 have h2:=h.len
 have h3:=h.n
 unfold Zsl
 exact Za (Z5 (by simp;omega)) (Za (Z5 (by simp;omega)) rfl)
theorem Z8pb {f:Z2} (h:FlashP f) (n:Int) (s:Str) {k:Nat} (hk:100≤k):Zag k f n s=some (Zrm f n s):=by
 have hl:=h.len
 have hn:=h.n
 have run:=Z2g (fun j i=>Zag.l0 j n s i [] [] f.1 f.2) f.2 (fun x=>x.1==n) (.inl ([],[],f.1,f.2)) (fun i=>.inr (f.1,f.2.set i ((f.2.getD i (0,[])).1,s))) (fun i hi=>by
  constructor
  ·intro hp j
   conv=>lhs;unfold Zag.l0
   rw [dlt hi,Zm (by omega),Xe];refine Za (Zg hi) (Za (Zg hi) ?_);rw [hp];rfl
  ·intro hp j
   conv=>lhs;unfold Zag.l0
   rw [dlt hi,Xe];refine Za (Zg hi) (Za (Zg hi) ?_);rw [hp,Xe];refine Za (Zg hi) (Za (Zg hi) ?_);rw [Yg,Zou hi]) (fun j=>by
  conv=>lhs;unfold Zag.l0
  rw [Zs (Yb _)];rfl) (k:=k) (by omega)
 unfold Zag Zrm
 refine Za (Zcfb h) ?_
 cases hd:Zjj f n with
 | some i=>
  rw [show Zmb (fun x:Z8c=>x.1==n) f.2 0=some i from hd] at run;refine Za run ?_;dsimp only;rw [Zuab hd]
 | none=>
  rw [show Zmb (fun x:Z8c=>x.1==n) f.2 0=none from hd] at run;refine Za run ?_;exact Za (Z5 (by simp;omega)) rfl
theorem Zp7 {f:Z2} (h:FlashP f) {k:Nat} (hk:1048577≤k):Z1 k f=some true:=by
 have h2:=h.len
 have h3:=h.n
 rw [Zx1 f (by omega) (by omega) hk,h.b]
theorem Zuqb {f:Z2} (h:FlashP f) {n:Int} {s:Str} (hn:0≤n∧n<(f.1.length:Int)) (hs:s.length≤96) {k:Nat} (hk:1048577≤k):Zpr k f n s=some ((Zrm f n s).1,(Zrm f n s).2,[],0):=by
 have h3:=h.n
 have hI:Z7 n 0 (IntKind.wrap .i64 ((f.1.length:Int)-1))=some true:=by
  rw [w64 (n:=(f.1.length:Int)-1) (by omega) (by omega)];unfold Z7;rw [Xa hn.1,Xa (by omega:n≤(f.1.length:Int)-1)];rfl
 unfold Zpr
 rw [Xb (by omega:¬(8000:Int)<(s.length:Int)),Xf]
 refine Za (Zp7 h hk) ?_
 rw [Xb (by omega:¬(96:Int)<(s.length:Int)),show ((!true)||false)=false from rfl,Xf]
 refine Za hI ?_
 rw [Yc,Xf]
 exact Za (Z8pb (k:=k) h n s (by omega)) rfl
theorem Zqqb {f:Z2} (h:FlashP f) {k:Nat} (hk:1048577≤k):Zor k f=some ((Z1r f).1,(Z1r f).2,[],0):=by
 have hl:=h.len
 have hn:=h.n
 have run:=Zqb (fun j i=>Zmg.l0 j f.1 f.2 (i:Int) (Zfi f.1 (f.2.take i)) []) f.2.length (Zfi f.1 f.2,[]) (fun i hi j=>?_) (fun j=>?_) k (by omega)
 ·have run:Zmg.l0 k f.1 f.2 0 f.1 []=some (Zfi f.1 f.2,[]):=run
  unfold Zor;refine Za (Zp7 h hk) (Za (a:=Z1r f) ?_ rfl);unfold Zmg Z1r;exact Za (Z5 (by simp;omega)) (Za run rfl)
 ·have hd:=(h.d _ (Yl hi)).1
  have hll:=Z9w (f.2.take i) f.1;have ha:=Zcs (l:=Zfi f.1 (f.2.take i)) [] hd.1 (by rw [hll];exact hd.2)
  conv=>lhs;unfold Zmg.l0
  rw [dlt hi,Zm (by omega),Xe];refine Za (Zg hi) (Za (Zg hi) (Za ha (Za ha ?_)));rw [Zvcb _ hi]
 ·conv=>lhs;unfold Zmg.l0
  rw [Zs (Yb _),Yh];rfl
theorem Zw1 {f:Z2} (h:FlashP f) {l:List Zcf} (hl:Zef f.1.length l) (hn:l.length≤1000) {k:Nat} (hk:1048577≤k):Zid k f l=some ((doF f l).1,(doF f l).2,[],0):=by
 have h2:=h.len
 have h3:=h.n
 have run:=Zqb (fun j i=>Zid.l0 k j l (i:Int) [] 0 (doF f (l.take i)).1 (doF f (l.take i)).2) l.length ([],0,(doF f l).1,(doF f l).2) (fun i hi j=>?_) (fun j=>?_) k (by omega)
 ·have run:Zid.l0 k k l 0 [] 0 f.1 f.2=some ([],0,(doF f l).1,(doF f l).2):=run
  unfold Zid;exact Za (Zcfb h) (Za run rfl)
 ·obtain ⟨b1,b2⟩:=hl.before h i
  conv=>lhs;unfold Zid.l0
  rw [dlt hi,Zm (by omega),show (true&&((0:Int)==0))=true from rfl,Xe,Z0ab f hi];refine Za (Zg hi) ?_;unfold doA;cases q:l[i].1 with
  | true=>
   rw [Xc rfl];exact Za (Zqqb b1 hk) rfl
  | false=>
   have ha:=hl _ (Yl hi) q;rw [Xd Yx];exact Za (Zg hi) (Za (Zg hi) (Za (Zuqb b1 (by rw [b2];exact ha.1) ha.2 hk) rfl))
 ·conv=>lhs;unfold Zid.l0
  rw [Zs (Yb _),Yh];rfl
def Zqi (n:Int):Prop:=n<9223372036854775808
theorem Zsmb {old fresh:Str} {n:Int} (hf:fresh.length≤96) (hn:Zqi n):Zlo old fresh n=some (Z3r old fresh n):=by
 unfold Zlo Z3r
 unfold Zqi at hn
 by_cases c:n<1
 ·rw [Xc c,Xa c]
  rfl
 ·rw [Xd c,Xb c,Xf]
  by_cases c1:n=1
  ·rw [Xc c1,show (n==1)=true by simpa using c1]
   rfl
  ·rw [Xd c1,show (n==1)=false by simpa using c1,Xf,w64 (n:=n-2) (by omega) (by omega)]
   obtain ⟨q,hq⟩:∃q:Nat,n-2=(q:Int):=⟨(n-2).toNat,by omega⟩;rw [hq,Yg]
   by_cases cl:q≤fresh.length
   ·have hm:Zlj (q:Int) (fresh.length:Int)=((q:Nat):Int):=by unfold Zlj;split <;> omega
    have hc:Zpb fresh 0 ((q:Nat):Int)=some (fresh.take q):=Zwf (l:=fresh) (i:=0) (j:=q) (Yj _) cl;rw [hm];exact Za hc rfl
   ·have hm:Zlj (q:Int) (fresh.length:Int)=((fresh.length:Nat):Int):=by unfold Zlj;split <;> omega
    have hc:Zpb fresh 0 ((fresh.length:Nat):Int)=some (fresh.take fresh.length):=Zwf (l:=fresh) (i:=0) (j:=fresh.length) (Yj _) (Yb _);rw [hm];refine Za hc ?_;rw [Yh,Yr (by omega)]
theorem Zrqb {old fresh:Str} {n:Int} (ho:old.length≤96) (hf:fresh.length≤96) (hn:Zqi n):Zsr old fresh n=some (Z3r old fresh n):=by
 unfold Zsr Z3r
 unfold Zqi at hn
 rw [Xb (by omega:¬(8000:Int)<(old.length:Int)),Xb (by omega:¬(8000:Int)<(fresh.length:Int))]
 simp only [Bool.or_self,Bool.false_or,Xf]
 by_cases c:n<1
 ·rw [Xc c,Xa c]
  rfl
 ·rw [Xd c,Xb c,Xf]
  by_cases c1:n=1
  ·rw [Xc c1,show (n==1)=true by simpa using c1]
   rfl
  ·rw [Xd c1,show (n==1)=false by simpa using c1,Xf,w64 (n:=n-2) (by omega) (by omega)]
   obtain ⟨q,hq⟩:∃q:Nat,n-2=(q:Int):=⟨(n-2).toNat,by omega⟩;rw [hq,Yg]
   by_cases cl:q≤fresh.length
   ·have hc:Zpb fresh 0 ((q:Nat):Int)=some (fresh.take q):=Zwf (l:=fresh) (i:=0) (j:=q) (Yj _) cl
    rw [Xb (by omega:¬(fresh.length:Int)<(q:Int)),Xf];exact Za hc rfl
   ·have hc:Zpb fresh 0 ((fresh.length:Nat):Int)=some (fresh.take fresh.length):=Zwf (l:=fresh) (i:=0) (j:=fresh.length) (Yj _) (Yb _)
    rw [Xa (by omega:(fresh.length:Int)<(q:Int)),Xe];refine Za hc ?_;rw [Yh,Yr (by omega)]
theorem Zjbb {fs:List Int} (h:∀x∈fs,Zqi x) (i:Nat):Zqi (fs.getD i 0):=by
 rw [Yk]
 cases q:fs[i]? with
 | none=>show (0:Int)<9223372036854775808;omega
 | some x=>exact h x (Yu q)
theorem Zkbb {fs:List Int} {i:Nat} (h:i<fs.length):fs.getD i 0=fs[i]:=by rw [Yk,Yp h];rfl
theorem Zlbb {fs:List Int} {i:Nat} (h:fs.length≤i):fs.getD i 0=0:=by rw [Yk,List.getElem?_eq_none h];rfl
theorem Zklb {f:Z2} (h:FlashP f) {fs:List Int} (hf:∀x∈fs,Zqi x) {k:Nat} (hk:1048577≤k):Zje k f fs=some (Z2m f fs):=by
 have hl:=h.len
 have hn:=h.n
 have run:=Zqb (fun j i=>Zje.l0 j fs (f.2.length:Int) (i:Int) f.2 (Z6g f.1 f.2 fs i)) f.2.length (Z6g f.1 f.2 fs f.2.length,f.2) (fun i hi j=>?_) (fun j=>?_) k (by omega)
 ·have run:Zje.l0 k fs (f.2.length:Int) 0 f.2 f.1=some (Z6g f.1 f.2 fs f.2.length,f.2):=run
  unfold Zje Z2m;exact Za run rfl
 ·have hd:=h.d _ (Yl hi)
  have hll:=Zmz f.1 f.2 fs i;have ha:=Zcs (l:=Z6g f.1 f.2 fs i) [] hd.1.1 (by rw [hll];exact hd.1.2);rw [Zkab h fs hi i (Yb _)] at ha;have hT:=Zsmb (old:=f.1.getD f.2[i].1.toNat []) hd.2 (Zjbb hf i)
  have hend:Zje.l0 j fs (f.2.length:Int) ((i+1:Nat):Int) f.2 ((Z6g f.1 f.2 fs i).set f.2[i].1.toNat (Z3r (f.1.getD f.2[i].1.toNat []) f.2[i].2 (fs.getD i 0)))=Zje.l0 j fs (f.2.length:Int) ((i+1:Nat):Int) f.2 (Z6g f.1 f.2 fs (i+1)):=by
   rw [Z6g,Zou hi]
  conv=>lhs;unfold Zje.l0
  rw [dlt hi,Zm (by omega),Xe];refine Za (Zg hi) (Za (Zg hi) ?_)
  by_cases c:i<fs.length
  ·rw [Zkbb c] at hT hend
   rw [dlt c,Xe];exact Za (Zg c) (Za ha (Za ha (Za hT (Za ha (Za ha hend)))))
  ·rw [Zlbb (by omega)] at hT hend
   rw [Zs (by omega),Xf];exact Za ha (Za ha (Za hT (Za ha (Za ha hend))))
 ·conv=>lhs;unfold Zje.l0
  rw [Zs (Yb _)];rfl
theorem Zdfb {f:Z2} (h:FlashP f) {fs:List Int} (hf:∀x∈fs,Zqi x) (hfl:fs.length≤400) {k:Nat} (hk:1048577≤k):Zlc k f fs=some (Z2m f fs):=by
 have hl:=h.len
 have hn:=h.n
 have run:=Zqb (fun j i=>Zlc.l1 j fs f.1 f.2 (i:Int) (Z6g f.1 f.2 fs i) []) f.2.length (Z6g f.1 f.2 fs f.2.length,[]) (fun i hi j=>?_) (fun j=>?_) k (by omega)
 ·have run:Zlc.l1 k fs f.1 f.2 0 f.1 []=some (Z6g f.1 f.2 fs f.2.length,[]):=run
  unfold Zlc Z2m;rw [Xb (by omega:¬(400:Int)<(fs.length:Int)),Xf];exact Za (Zp7 h hk) (Za (Z5 (by simp;omega)) (Za run rfl))
 ·have hd:=h.d _ (Yl hi)
  have hll:=Zmz f.1 f.2 fs i;have ha:=Zcs (l:=Z6g f.1 f.2 fs i) [] hd.1.1 (by rw [hll];exact hd.1.2);have hb:=Zcs (l:=f.1) [] hd.1.1 hd.1.2
  have hs0:(f.1.getD f.2[i].1.toNat []).length≤96:=by
   rw [Zwbb (by omega)];exact h.s _ (Yl _)
  have hT:=Zrqb hs0 hd.2 (Zjbb hf i)
  have hj:Zlc.j0 fs (i:Int) 0=some (fs.getD i 0):=by
   unfold Zlc.j0
   by_cases c:i<fs.length
   ·rw [Zkbb c,dlt c,Xe]
    exact Za (Zg c) rfl
   ·rw [Zlbb (by omega),Zs (by omega)]
    rfl
  conv=>lhs;unfold Zlc.l1
  rw [dlt hi,Zm (by omega),Xe];refine Za hj (Za (Zg hi) (Za (Zg hi) (Za hb (Za (Zg hi) (Za hT (Za ha (Za ha ?_)))))));rw [Z6g,Zou hi]
 ·conv=>lhs;unfold Zlc.l1
  rw [Zs (Yb _)];rfl
theorem Zjnb (m:Zp) (l:List Int):(Z4q m l).length≤l.length+1:=by
 have:=Zrw m l
 unfold Z4q
 split
 ·simp
 ·rw [Ye]
  simp;omega
theorem Zqcb (f:Z2) (a b c d e:Int) (x:Str) (v w:Nat):(Zne f a b c d e x v w).length≤2:=Z7l _ _
theorem Zl3 (m:Zp) (ph tr nd st dn:Int) (dg:Str) (v w:Nat):(Z2k m ph tr nd st dn dg v w).length≤100:=by
 have hk:=fun a b c d e x v w=>Zqcb m.2 a b c d e x v w
 have hl:=Z9c w
 unfold Z2k
 split
 ·have:=Zjnb m ((Zb w).drop (st+Znh (Zd m st w)).toNat)
  rw [List.length_drop] at this;omega
 ·split
  ·exact Ym (hk _ _ _ _ _ _ _ _) (by omega)
  ·split
   ·split
    ·exact Ym (hk _ _ _ _ _ _ _ _) (by omega)
    ·exact Ym (hk _ _ _ _ _ _ _ _) (by omega)
   ·split
    ·split
     ·simp
     ·rw [Ye]
      have:=hk 5 tr nd st (dn+1) dg v w;simp only [Yn,Yo];omega
    ·simp
def Zz2 (a:Zsm):Prop:=a.1.length≤100∧a.2.2.1.length≤100
theorem Z0j (c:Int):Zz2 (Zxf c):=⟨by simp [Zxf],by simp [Zxf]⟩
theorem Znr {l:List Zcf} (h:l.length≤100):Zz2 (Zej l):=⟨h,by simp [Zej]⟩
theorem Z22 (m:Zp) (c:Zdf):Zz2 (Z0k m c):=by
 have hk:=fun a b c d e x v w=>Zqcb m.2 a b c d e x v w
 have hid:∀v,(Z8m m v).length≤100:=fun v=>Ym (hk _ _ _ _ _ _ _ _) (by omega)
 unfold Z0k
 split
 ·split
  ·exact Z0j _
  ·split
   ·rename_i ph tr nd st dn dg v w hs
    unfold Zcp;split
    ·unfold Zds
     split
     ·split
      ·rename_i l hl
       have hle:l.length≤24:=by
        unfold Zqh at hl;split at hl
        ·cases hl
        ·rename_i hn
         have:=Z9c (Zyb v 0);split at hl
         ·cases hl
          rw [Za2];omega
         ·cases hl
          rw [Yq];omega
       refine Znr ?_;have:=hk 2 0 c.2.1 c.2.2.1 0 c.2.2.2.1 v (Z0g l);simp only [Ye,Zoi,List.length_map,Yn,Yo];omega
      ·exact Z0j _
     ·exact Z0j _
    ·split
     ·unfold Zvt
      split
      ·split
       ·exact Z0j _
       ·split
        ·refine Znr ?_
         split <;> simp
        ·exact Z0j _
      ·exact Z0j _
     ·split
      ·unfold Zts
       split
       ·split
        ·split
         ·split
          ·split
           ·exact ⟨hid v,by simp⟩
           ·refine Znr ?_
            have:=hk 3 tr nd st dn dg v w;simp only [Ye,Yn,Yo];omega
          ·exact ⟨hid v,by simp⟩
         ·exact ⟨hid v,by simp⟩
        ·exact ⟨hid v,by simp⟩
       ·exact Z0j _
      ·split
       ·split
        ·exact Z0j _
        ·exact Znr (hid v)
       ·split
        ·split
         ·refine Znr ?_
          have:=hk 5 0 nd st dn dg v w;simp only [Ye,Yn,Yo];omega
         ·exact Z0j _
        ·split
         ·unfold Zys
          split
          ·split
           ·exact ⟨hid v,by simp⟩
           ·refine ⟨?_,by simp⟩
            have:=hk ph tr nd st (dn+1) dg v w;simp only [Ye,Yn,Yo];omega
          ·exact Z0j _
         ·split
          ·split
           ·exact Z0j _
           ·exact ⟨by simp,by simp⟩
          ·split
           ·exact ⟨by simp,by simp [Z77]⟩
           ·split
            ·unfold Z1s
             split
             ·exact Znr (Ym (hk _ _ _ _ _ _ _ _) (by omega))
             ·exact Z0j _
            ·split
             ·exact Znr (Ym (hk _ _ _ _ _ _ _ _) (by omega))
             ·exact Znr (Zl3 _ _ _ _ _ _ _ _ _)
   ·exact Z0j _
 ·exact Z0j _
def flD (d:DoT):Int×List Str×List Z8c×Str×List Int×Int:=(d.1.1,d.1.2.1,d.1.2.2,d.2.1,d.2.2.1,d.2.2.2)
def flC (d:Zp×Int):Int×List Str×List Z8c×Int:=(d.1.1,d.1.2.1,d.1.2.2,d.2)
theorem Zp0 {m:Zp} (h:Ztg m=true):FlashP m.2:=by
 unfold Ztg at h
 cases hs:stM m with
 | none=>rw [hs] at h;cases h
 | some z=>
  obtain ⟨ph,tr,nd,st,dn,dg,v,w⟩:=z;exact FlashP.of (Zuo hs).fit.f
theorem Z7bb {m:Zp} {c:Zdf} (hm:Ztg m=true) (hc:Zwh c=true):Zc fun k=>Znc k m c=some (Z0k m c):=by
 unfold Z0k
 rw [Xc ⟨hm,hc⟩]
 cases hs:stM m with
 | none=>unfold Ztg at hm;rw [hs] at hm;cases hm
 | some z=>
  obtain ⟨ph,tr,nd,st,dn,dg,v,w⟩:=z;exact Zalb hs (Zj6 hs hm) (Z23 hc)
theorem Zbfb (m:Zp) (c:Zdf) (hl:m.2.1.length≤1048576) (hl2:m.2.2.length≤1048576):∃n:Int,(Zc fun k=>Z6h k m c=some n)∧((n==1) = !(Ztg m&&Zwh c)):=by
 have ec:=Zv1 c
 cases hm:Ztg m with
 | false=>
  refine ⟨1,(Zkt m hl hl2).mono fun k e=>?_,rfl⟩;rw [hm] at e;unfold Z6h;exact Za e rfl
 | true=>
  cases hc:Zwh c with
  | false=>
   refine ⟨1,(Zkt m hl hl2).mono fun k e=>?_,rfl⟩;rw [hm] at e;rw [hc] at ec;unfold Z6h;exact Za e (Za ec rfl)
  | true=>
   rw [hc] at ec;cases hs:stM m with
   | none=>unfold Ztg at hm;rw [hs] at hm;cases hm
   | some z=>
    obtain ⟨ph,tr,nd,st,dn,dg,v,w⟩:=z;have h:=Zuo hs;refine ⟨if 1000000≤(Zlb m.2).1 then 9 else 0,((Zkt m hl hl2).and (Z21 h.fit.f h.two)).mono fun k ⟨e,e2⟩=>?_,by split <;> rfl⟩;rw [hm] at e;unfold Z6h;refine Za e (Za ec (Za e2 ?_))
    by_cases c9:1000000≤(Zlb m.2).1
    ·rw [Xc c9,Xa c9]
     rfl
    ·rw [Xd c9,Xb c9]
     rfl
theorem Zqib (m:Zp) (c:Zdf) (hl:m.2.1.length≤1048576) (hl2:m.2.2.length≤1048576):(Zc fun k=>Zan k m c=some (flD (doR m c)))∧Zc fun k=>Ztn k m c=some (flD (doR m c)):=by
 obtain ⟨n,hn,hn1⟩:=Zbfb m c hl hl2
 unfold doR
 cases hm:Ztg m with
 | false=>
  rw [Xd (fun q=>by cases q.1)];rw [hm] at hn1;constructor
  ·refine (Zvp m hl hl2).mono fun k e=>?_
   rw [hm] at e;unfold Zan;exact Za e rfl
  ·refine hn.mono fun k e=>?_
   unfold Ztn;refine Za e ?_;rw [hn1];rfl
 | true=>
  cases hc:Zwh c with
  | false=>
   rw [Xd (fun q=>by cases q.2)];rw [hm,hc] at hn1;have ec:=Z1w c;rw [hc] at ec;constructor
   ·refine (Zvp m hl hl2).mono fun k e=>?_
    rw [hm] at e;unfold Zan;exact Za e (Za ec rfl)
   ·refine hn.mono fun k e=>?_
    unfold Ztn;refine Za e ?_;rw [hn1];rfl
  | true=>
   rw [Xc ⟨rfl,rfl⟩];rw [hm,hc] at hn1;have ec:=Z1w c;rw [hc] at ec;have hF:=Zp0 hm;have hfit:=Zxy m c;have hsm:=(Z22 m c).1;constructor
   ·refine (((Zvp m hl hl2).and (Z7bb hm hc)).and (Zc.ge 1048577 fun k hk=>hk)).mono fun k ⟨⟨e,e2⟩,hk⟩=>?_
    rw [hm] at e;unfold Zan;exact Za e (Za ec (Za e2 (Za (Z94 hF hfit (by omega) hk) rfl)))
   ·refine ((hn.and (Z7x m c hl hl2)).and (Zc.ge 1048577 fun k hk=>hk)).mono fun k ⟨⟨e,e2⟩,hk⟩=>?_
    unfold Ztn;refine Za e ?_;rw [hn1];exact Za e2 (Za (Zw1 hF hfit (by omega) hk) rfl)
theorem Znrb {α:Type} (l:List α) {n:Int} (h:0≤n):Zpb l 0 (Zlj n (l.length:Int))=some (l.take n.toNat):=by
 obtain ⟨q,rfl⟩:∃q:Nat,n=(q:Int):=⟨n.toNat,by omega⟩
 rw [Yg]
 by_cases c:q≤l.length
 ·have hm:Zlj (q:Int) (l.length:Int)=((q:Nat):Int):=by unfold Zlj;split <;> omega
  rw [hm];exact Zwf (l:=l) (i:=0) (j:=q) (Yj _) c
 ·have hm:Zlj (q:Int) (l.length:Int)=((l.length:Nat):Int):=by unfold Zlj;split <;> omega
  have hc:Zpb l 0 ((l.length:Nat):Int)=some (l.take l.length):=Zwf (l:=l) (i:=0) (j:=l.length) (Yj _) (Yb _);rw [hm,hc,Yh,Yr (by omega)]
theorem Zffb (l:List Zcf) {n:Int} (h:0≤n):Zxn l n=some (l.take n.toNat):=by
 obtain ⟨q,rfl⟩:∃q:Nat,n=(q:Int):=⟨n.toNat,by omega⟩
 rw [Yg]
 unfold Zxn
 by_cases c:q<l.length
 ·rw [dlt c,Xe]
  exact Za (Zwf (l:=l) (i:=0) (j:=q) (Yj _) (by omega)) rfl
 ·rw [Zs (by omega),Xf,Yr (by omega)]
def flM (m:Zp):Int×List Str×List Z8c:=(m.1,m.2.1,m.2.2)
theorem Zacb {m:Zp} (hF:FlashP m.2) {l:List Zcf} (hl:Zef m.2.1.length l) (hn:l.length≤1000) {n:Int} (h0:0≤n) {fs:List Int} (hf:∀x∈fs,Zqi x) {k:Nat} (hk:1048577≤k):Zcn k m l n fs=some (flM (Zoz m l n fs)):=by
 have hz:Z3s l=some (l.length:Int):=rfl
 unfold Zcn
 exact Za hz (Za (Znrb l h0) (Za (Z94 hF (hl.take _) (by rw [Yq];omega) hk) (Za (Zklb (hF.acts _ (hl.take _)).1 hf hk) rfl)))
theorem Zoib (m:Zp) (c:Zdf) (n:Int) {fs:List Int} (hf:∀x∈fs,Zqi x) (hl:m.2.1.length≤1048576) (hl2:m.2.2.length≤1048576):(Zc fun k=>Z6k k m c n fs=some (flC (Z9n m c n fs)))∧Zc fun k=>Zml k m c n fs=some (flC (Z9n m c n fs)):=by
 obtain ⟨z,hz,hz1⟩:=Zbfb m c hl hl2
 unfold Z9n
 by_cases cl:400<fs.length
 ·rw [Xc cl]
  constructor
  ·refine Zc.of fun k=>?_
   unfold Z6k;rw [Xa (by omega:(400:Int)<(fs.length:Int))];rfl
  ·refine Zc.of fun k=>?_
   unfold Zml;rw [Xa (by omega:(400:Int)<(fs.length:Int))];rfl
 ·rw [Xd cl]
  have d4:decide ((400:Int)<(fs.length:Int))=false:=Xb (by omega);cases hm:Ztg m with
  | false=>
   rw [Xd (fun q=>by cases q.1.1)];rw [hm] at hz1;constructor
   ·refine (Zvp m hl hl2).mono fun k e=>?_
    rw [hm] at e;unfold Z6k;rw [d4,Xf];exact Za e rfl
   ·refine (hz.and (Z7x m c hl hl2)).mono fun k ⟨e,e2⟩=>?_
    unfold Zml;rw [d4,Xf];refine Za e2 ?_;cases decide (n<0) with
    | true=>rfl
    | false=>
     refine Za e ?_;rw [hz1];rfl
  | true=>
   cases hc:Zwh c with
   | false=>
    rw [Xd (fun q=>by cases q.1.2)];rw [hm,hc] at hz1;have ec:=Z1w c;rw [hc] at ec;constructor
    ·refine (Zvp m hl hl2).mono fun k e=>?_
     rw [hm] at e;unfold Z6k;rw [d4,Xf];exact Za e (Za ec rfl)
    ·refine (hz.and (Z7x m c hl hl2)).mono fun k ⟨e,e2⟩=>?_
     unfold Zml;rw [d4,Xf];refine Za e2 ?_;cases decide (n<0) with
     | true=>rfl
     | false=>
      refine Za e ?_;rw [hz1];rfl
   | true=>
    rw [hm,hc] at hz1;have ec:=Z1w c;rw [hc] at ec;have hF:=Zp0 hm;have hfit:=Zxy m c;have hsm:=(Z22 m c).1
    by_cases h0:0≤n
    ·rw [Xc ⟨⟨rfl,rfl⟩,h0⟩]
     have hft:=hfit.take n.toNat;have hlt:((Z0k m c).1.take n.toNat).length≤1000:=by rw [Yq];omega
     constructor
     ·refine (((Zvp m hl hl2).and (Z7bb hm hc)).and (Zc.ge 1048577 fun k hk=>hk)).mono fun k ⟨⟨e,e2⟩,hk⟩=>?_
      rw [hm] at e;unfold Z6k;rw [d4,Xf];refine Za e (Za ec ?_);rw [Xb (by omega:¬n<0)];exact Za e2 (Za (Zacb hF hfit (by omega) h0 hf hk) rfl)
     ·refine ((hz.and (Z7x m c hl hl2)).and (Zc.ge 1048577 fun k hk=>hk)).mono fun k ⟨⟨e,e2⟩,hk⟩=>?_
      unfold Zml;rw [d4,Xf];refine Za e2 ?_;rw [Xb (by omega:¬n<0),Xf];refine Za e ?_;rw [hz1];exact Za (Zffb _ h0) (Za (Zw1 hF hft hlt hk) (Za (Zdfb (hF.acts _ hft).1 hf (by omega) hk) rfl))
    ·rw [Xd (fun q=>h0 q.2)]
     constructor
     ·refine (Zvp m hl hl2).mono fun k e=>?_
      rw [hm] at e;unfold Z6k;rw [d4,Xf];refine Za e (Za ec ?_);rw [Xa (by omega:n<0)];rfl
     ·refine (Z7x m c hl hl2).mono fun k e2=>?_
      unfold Zml;rw [d4,Xf];refine Za e2 ?_;rw [Xa (by omega:n<0)];rfl
theorem Zmib (m:Zp) (hl:m.2.1.length≤1048576) (hl2:m.2.2.length≤1048576):(Zc fun k=>Zgo k m=some (flC (Zak m)))∧Zc fun k=>Z1o k m=some (flC (Zak m)):=by
 have hi:=Zru m hl hl2
 have hs:=Zay m hl hl2
 unfold Zak
 cases hst:stM m with
 | none=>
  rw [hst] at hi hs;constructor
  ·refine hi.mono fun k e=>?_
   unfold Zgo;exact Za e rfl
  ·refine hs.mono fun k e=>?_
   unfold Z1o;exact Za e rfl
 | some z=>
  obtain ⟨ph,tr,nd,st,dn,dg,v,w⟩:=z;rw [hst] at hi hs;have h:=Zuo hst;have hF:=FlashP.of h.fit.f;have hfit:=Zhw h;have hlen:=Zl3 m ph tr nd st dn dg v w;constructor
  ·refine ((hi.and (Zb5 h)).and (Zc.ge 1048577 fun k hk=>hk)).mono fun k ⟨⟨e,e2⟩,hk⟩=>?_
   unfold Zgo;exact Za e (Za e2 (Za (Z94 hF hfit (by omega) hk) rfl))
  ·refine ((hs.and (Zo7 h)).and (Zc.ge 1048577 fun k hk=>hk)).mono fun k ⟨⟨e,e2⟩,hk⟩=>?_
   unfold Z1o;exact Za e (Za e2 (Za (Zw1 hF hfit (by omega) hk) rfl))
theorem Znib (m:Zp) (n:Int) {fs:List Int} (hf:∀x∈fs,Zqi x) (hl:m.2.1.length≤1048576) (hl2:m.2.2.length≤1048576):(Zc fun k=>Z5k k m n fs=some (flC (Zjs m n fs)))∧Zc fun k=>Zll k m n fs=some (flC (Zjs m n fs)):=by
 have hi:=Zru m hl hl2
 have hs:=Zay m hl hl2
 unfold Zjs
 by_cases cl:400<fs.length
 ·rw [Xc cl]
  have d4:decide ((400:Int)<(fs.length:Int))=true:=Xa (by omega);constructor
  ·refine hi.mono fun k e=>?_
   unfold Z5k;refine Za e ?_;rw [d4];rfl
  ·refine Zc.of fun k=>?_
   unfold Zll;rw [d4];rfl
 ·rw [Xd cl]
  have d4:decide ((400:Int)<(fs.length:Int))=false:=Xb (by omega);cases hst:stM m with
  | none=>
   rw [hst] at hi hs;constructor
   ·refine hi.mono fun k e=>?_
    unfold Z5k;refine Za e ?_;rw [d4];rfl
   ·refine hs.mono fun k e=>?_
    unfold Zll;rw [d4,Xf];exact Za e rfl
  | some z=>
   obtain ⟨ph,tr,nd,st,dn,dg,v,w⟩:=z;rw [hst] at hi hs;have h:=Zuo hst;have hF:=FlashP.of h.fit.f;have hfit:=Zhw h;have hlen:=Zl3 m ph tr nd st dn dg v w;dsimp only
   by_cases h0:0≤n
   ·rw [Xc h0]
    have hft:=hfit.take n.toNat;have hlt:((Z2k m ph tr nd st dn dg v w).take n.toNat).length≤1000:=by rw [Yq];omega
    have dn0:decide (n<0)=false:=Xb (by omega);constructor
    ·refine ((hi.and (Zb5 h)).and (Zc.ge 1048577 fun k hk=>hk)).mono fun k ⟨⟨e,e2⟩,hk⟩=>?_
     unfold Z5k;refine Za e ?_;rw [d4,Xf,dn0];exact Za e2 (Za (Zacb hF hfit (by omega) h0 hf hk) rfl)
    ·refine ((hs.and (Zo7 h)).and (Zc.ge 1048577 fun k hk=>hk)).mono fun k ⟨⟨e,e2⟩,hk⟩=>?_
     unfold Zll;rw [d4,Xf];refine Za e ?_;rw [dn0];exact Za e2 (Za (Zffb _ h0) (Za (Zw1 hF hft hlt hk) (Za (Zdfb (hF.acts _ hft).1 hf (by omega) hk) rfl)))
   ·rw [Xd h0]
    have dn1:decide (n<0)=true:=Xa (by omega);constructor
    ·refine hi.mono fun k e=>?_
     unfold Z5k;refine Za e ?_;rw [d4,Xf,dn1];rfl
    ·refine hs.mono fun k e=>?_
     unfold Zll;rw [d4,Xf];refine Za e ?_;rw [dn1];rfl
structure Lean1 (m:Zp):Prop where
 s:m.2.1.length≤1048576
 d:m.2.2.length≤1048576
theorem Zjx:Lean1 noM:=⟨by simp [noM],by simp [noM]⟩
theorem Zzab {f:Z2} (h:FlashP f) {l:List Zcf} (hl:Zef f.1.length l):(doF f l).1.length≤40∧(doF f l).2.length≤40:=by
 obtain ⟨h1,h2⟩:=h.acts _ hl
 have:=h1.n
 have:=h1.len
 omega
theorem Znab {m:Zp} (h:FlashP m.2) {l:List Zcf} (hl:Zef m.2.1.length l) (n:Int) (fs:List Int):Lean1 (Zoz m l n fs):=by
 have h1:=(h.acts _ (hl.take n.toNat)).1.crash fs
 have h2:=h1.1.n
 have h3:=h1.1.len
 exact ⟨by show (Z2m _ fs).1.length≤_;omega,by show (Z2m _ fs).2.length≤_;omega⟩
theorem Zljb (m:Zp) (c:Zdf):(doR m c).1.2.1.length≤40∧(doR m c).1.2.2.length≤40∧(doR m c).2.2.1.length≤100:=by
 unfold doR
 split
 ·rename_i h
  obtain ⟨h1,h2⟩:=Zzab (Zp0 h.1) (Zxy m c);exact ⟨h1,h2,(Z22 m c).2⟩
 ·simp [noM]
theorem Zbjb (m:Zp) (c:Zdf) (n:Int) (fs:List Int):Lean1 (Z9n m c n fs).1:=by
 unfold Z9n
 split
 ·exact Zjx
 ·split
  ·rename_i h
   exact Znab (Zp0 h.1.1) (Zxy m c) n fs
  ·exact Zjx
theorem Zjib (m:Zp) (n:Int) (fs:List Int):Lean1 (Zjs m n fs).1:=by
 unfold Zjs
 split
 ·exact Zjx
 ·split
  ·rename_i ph tr nd st dn dg v w hs
   split
   ·exact Znab (FlashP.of (Zuo hs).fit.f) (Zhw (Zuo hs)) n fs
   ·exact Zjx
  ·exact Zjx
theorem Zkib (m:Zp):(Zak m).1.2.1.length≤40∧(Zak m).1.2.2.length≤40:=by
 unfold Zak
 split
 ·rename_i ph tr nd st dn dg v w hs
  exact Zzab (FlashP.of (Zuo hs).fit.f) (Zhw (Zuo hs))
 ·simp [noM]
def Zuf (fs:List Int) (x:Zp×Int) (l:List Int):Zp×Int:=l.foldl (fun x n=>Zjs x.1 n fs) x
def Zmp (m:Zp) (d:Z7r):DoT:=if Ztg m=true∧Zlp d=true then (if d.2.1<0 then doR m d.1 else ((Zak (Zuf d.2.2.1 (Z9n m d.1 d.2.1 d.2.2.1) d.2.2.2).1).1,([],([],0)))) else (noM,([],([],1)))
theorem Zzhb (fs:List Int) (x:Zp×Int) {l:List Int} {i:Nat} (h:i<l.length):Zuf fs x (l.take (i+1))=Zjs (Zuf fs x (l.take i)).1 l[i] fs:=by
 unfold Zuf
 rw [List.take_succ_eq_append_getElem h,List.foldl_append]
 rfl
theorem Z42 (fs:List Int):∀(l:List Int) {x:Zp×Int},Lean1 x.1→Lean1 (Zuf fs x l).1
 | [],_,h=>h
 | n::l,x,_=>Z42 fs l (Zjib x.1 n fs)
theorem Zv9 {fs:List Int} (hf:∀x∈fs,Zqi x) {x:Zp×Int} (hx:Lean1 x.1) (l:List Int):
  Zc fun k=>∀i,i<l.length→Z5k k (Zuf fs x (l.take i)).1 (l.getD i 0) fs=some (flC (Zuf fs x (l.take (i+1))))∧Zll k (Zuf fs x (l.take i)).1 (l.getD i 0) fs=some (flC (Zuf fs x (l.take (i+1)))):=
 Zc.all fun i hi=>by
  have hs:=Z42 fs (l.take i) hx;obtain ⟨b1,b2⟩:=Znib (Zuf fs x (l.take i)).1 (l.getD i 0) hf hs.s hs.d;have hg:l.getD i 0=l[i]:=by rw [Yk,Yp hi];rfl
  rw [Zzhb fs x hi,← hg];exact b1.and b2
theorem Zhpb {fs:List Int} (hf:∀x∈fs,Zqi x) {x:Zp×Int} (hx:Lean1 x.1) (l:List Int) (hl:l.length≤1048576) (a1 a2 a3:Int) (a4:Str) (a5 a6 a7:Int) (a8:Str) (a9:Int):
  Zc fun k=>Zaf.l0 k k a1 a2 a3 a4 a5 a6 a7 a8 a9 fs l 0 x.1.1 x.1.2.1 x.1.2.2=some (flM (Zuf fs x l).1):=by
 refine Zss (fun k j i=>Zaf.l0 k j a1 a2 a3 a4 a5 a6 a7 a8 a9 fs l (i:Int) (Zuf fs x (l.take i)).1.1 (Zuf fs x (l.take i)).1.2.1 (Zuf fs x (l.take i)).1.2.2) l.length _ ((Zv9 hf hx l).mono fun k hk i hi j=>?_) (Zc.of fun k j=>?_)
 ·have hg:l.getD i 0=l[i]:=by rw [Yk,Yp hi];rfl
  have e:=(hk i hi).2;rw [hg] at e
  conv=>lhs;unfold Zaf.l0
  rw [dlt hi,Xe,Zm (by omega)];exact Za (Zg hi) (Za e rfl)
 ·conv=>lhs;unfold Zaf.l0
  rw [Zs (Yb _),Xf,Yh];rfl
theorem Zblb {fs:List Int} (hf:∀x∈fs,Zqi x) {x:Zp×Int} (hx:Lean1 x.1) (l:List Int) (hl:l.length≤1048576) (a1 a2 a3:Int) (a4:Str) (a5 a6 a7:Int) (a8:Str) (a9:Int) (a11:List Int):
  Zc fun k=>Zxe.l0 k k a1 a2 a3 a4 a5 a6 a7 a8 a9 fs a11 l (l.length:Int) 0 x.1.1 x.2 x.1.2.1 x.1.2.2=some ((Zuf fs x l).1.1,(Zuf fs x l).2,(Zuf fs x l).1.2.1,(Zuf fs x l).1.2.2):=by
 refine Zss (fun k j i=>Zxe.l0 k j a1 a2 a3 a4 a5 a6 a7 a8 a9 fs a11 l (l.length:Int) (i:Int) (Zuf fs x (l.take i)).1.1 (Zuf fs x (l.take i)).2 (Zuf fs x (l.take i)).1.2.1 (Zuf fs x (l.take i)).1.2.2) l.length _ ((Zv9 hf hx l).mono fun k hk i hi j=>?_) (Zc.of fun k j=>?_)
 ·have hg:l.getD i 0=l[i]:=by rw [Yk,Yp hi];rfl
  have e:=(hk i hi).1;rw [hg] at e
  conv=>lhs;unfold Zxe.l0
  rw [dlt hi,Xe,Zm (by omega)];exact Za (Zg hi) (Za e rfl)
 ·conv=>lhs;unfold Zxe.l0
  rw [Zs (Yb _),Xf,Yh]
theorem Zpib (m:Zp) (d:Z7r) (hf:∀x∈d.2.2.1,Zqi x) (hl:m.2.1.length≤1048576) (hl2:m.2.2.length≤1048576) (h1:d.2.2.1.length≤1048576) (h2:d.2.2.2.length≤1048576):
  (Zc fun k=>Z7k k m d=some (flD (Zmp m d)))∧Zc fun k=>Zim k m d=some (flD (Zmp m d)):=by
 have em:=Zvp m hl hl2
 have es:=Zkt m hl hl2
 unfold Zmp
 cases hm:Ztg m with
 | false=>
  rw [hm] at em es;rw [Xd (fun q=>by cases q.1)];constructor
  ·refine em.mono fun k e=>?_
   unfold Z7k;exact Za e rfl
  ·refine es.mono fun k e=>?_
   unfold Zim;exact Za e rfl
 | true=>
  rw [hm] at em es;have ei:Zc fun k=>Zio k d=some (Zlp d):=Zc.ge 1048577 fun k hk=>Zmlb d (by omega) (by omega) h1 h2
  have ed:Zc fun k=>Z2o k d=some (Zlp d):=Zc.ge 1048577 fun k hk=>Zspb d (by omega) (by omega)
  cases hd:Zlp d with
  | false=>
   rw [hd] at ei ed;rw [Xd (fun q=>by cases q.2)];constructor
   ·refine (em.and ei).mono fun k ⟨e,e2⟩=>?_
    unfold Z7k;exact Za e (Za e2 rfl)
   ·refine (es.and ed).mono fun k ⟨e,e2⟩=>?_
    unfold Zim;exact Za e (Za e2 rfl)
  | true=>
   rw [hd] at ei ed;rw [Xc ⟨rfl,rfl⟩]
   by_cases c:d.2.1<0
   ·rw [Xc c]
    obtain ⟨b1,b2⟩:=Zqib m d.1 hl hl2;constructor
    ·refine ((em.and ei).and b1).mono fun k ⟨⟨e,e2⟩,e3⟩=>?_
     have q:Zxe k m d=some (flD (doR m d.1)):=by
      unfold Zxe;rw [Xa c,Xe];exact Za e3 rfl
     unfold Z7k;exact Za e (Za e2 (Za q rfl))
    ·refine ((es.and ed).and b2).mono fun k ⟨⟨e,e2⟩,e3⟩=>?_
     have q:Zaf k m d=some (flD (doR m d.1)):=by
      unfold Zaf;rw [Xa c,Xe];exact Za e3 rfl
     unfold Zim;exact Za e (Za e2 (Za q rfl))
   ·rw [Xd c]
    obtain ⟨c1,c2⟩:=Zoib m d.1 d.2.1 hf hl hl2;have hs:=Zbjb m d.1 d.2.1 d.2.2.1;have ha:=Z42 d.2.2.1 d.2.2.2 hs;have s1:=Zblb hf hs d.2.2.2 h2 d.1.1 d.1.2.1 d.1.2.2.1 d.1.2.2.2.1 d.1.2.2.2.2.1 d.1.2.2.2.2.2.1 d.1.2.2.2.2.2.2.1 d.1.2.2.2.2.2.2.2 d.2.1 d.2.2.2;have s2:=Zhpb hf hs d.2.2.2 h2 d.1.1 d.1.2.1 d.1.2.2.1 d.1.2.2.2.1 d.1.2.2.2.2.1 d.1.2.2.2.2.2.1 d.1.2.2.2.2.2.2.1 d.1.2.2.2.2.2.2.2 d.2.1;generalize Zuf d.2.2.1 (Z9n m d.1 d.2.1 d.2.2.1) d.2.2.2=y at ha s1 s2;generalize Z9n m d.1 d.2.1 d.2.2.1=x at c1 c2 s1 s2;obtain ⟨b1,b2⟩:=Zmib y.1 ha.s ha.d;constructor
    ·refine ((((em.and ei).and c1).and s1).and b1).mono fun k ⟨⟨⟨⟨e,e2⟩,e3⟩,e4⟩,e5⟩=>?_
     have q:Zxe k m d=some ((Zak y.1).1.1,(Zak y.1).1.2.1,(Zak y.1).1.2.2,[],[],0):=by
      unfold Zxe;rw [Xb c,Xf];exact Za e3 (Za e4 (Za e5 rfl))
     unfold Z7k;exact Za e (Za e2 (Za q rfl))
    ·refine ((((es.and ed).and c2).and s2).and b2).mono fun k ⟨⟨⟨⟨e,e2⟩,e3⟩,e4⟩,e5⟩=>?_
     have q:Zaf k m d=some ((Zak y.1).1.1,(Zak y.1).1.2.1,(Zak y.1).1.2.2,[],[],0):=by
      unfold Zaf;rw [Xb c,Xf];exact Za e3 (Za e4 (Za e5 rfl))
     unfold Zim;exact Za e (Za e2 (Za q rfl))
theorem Zgjb (m:Zp) (d:Z7r):(Zmp m d).1.2.1.length≤40∧(Zmp m d).1.2.2.length≤40∧(Zmp m d).2.2.1.length≤100:=by
 unfold Zmp
 split
 ·split
  ·exact Zljb m d.1
  ·have h:=Zkib (Zuf d.2.2.1 (Z9n m d.1 d.2.1 d.2.2.1) d.2.2.2).1
   exact ⟨h.1,h.2,by simp⟩
 ·simp [noM]
theorem Zunb (l:List Str) (k0:Nat) (h:k0+l.length<9223372036854775807):Zc fun k=>Z5f k l (k0:Int)=some (((k0+l.length:Nat):Int),Zkk l.length k0):=by
 have hm:=Zc.all (n:=l.length) (p:=fun i k=>Z3c k ((k0+i:Nat):Int)=some (mt ((k0+i:Nat):Int))) fun i hi=>Zq0 _ (by omega)
 have key:Zc fun k=>Z5f.l0 k k (k0:Int) 0 l=some (((k0+l.length:Nat):Int),Zkk l.length k0):=by
  refine Zss (fun k j i=>Z5f.l0 k j ((k0+i:Nat):Int) (i:Int) ((Yf i).map (fun (i:Nat)=>mt ((k0+i:Nat):Int))++l.drop i)) l.length _ (hm.mono fun k hk i hi j=>?_) (Zc.of fun k j=>?_)
  ·have hlen:=Z6q l (fun (i:Nat)=>mt ((k0+i:Nat):Int)) i (by omega)
   conv=>lhs;unfold Z5f.l0
   rw [hlen,Xa (by omega:(i:Int)<(l.length:Int))];simp only [Xe];rw [hk i hi];simp only [Yd];rw [Zg (by rw [hlen];exact hi)];simp only [Yd];rw [Yg,Zgx l (fun (i:Nat)=>mt ((k0+i:Nat):Int)) i hi,Zm (by omega),Zm (by omega)];rfl
  ·conv=>lhs;unfold Z5f.l0
   have hlen:=Z6q l (fun (i:Nat)=>mt ((k0+i:Nat):Int)) l.length (Yb _);rw [hlen,Xb (by omega:¬((l.length:Int)<(l.length:Int)))];simp only [Xf];rw [Yt,Ys];refine congrArg some (congrArg (Prod.mk _) (List.map_congr_left fun i hi=>?_));rw [Int.natCast_add]
 refine key.mono fun k hk=>?_
 unfold Z5f
 rw [hk]
 rfl
theorem Z9kb (n:Nat) (k0:Nat) (h:k0+n<9223372036854775807):Zc fun k=>Z4f k (Zkk n k0) (k0:Int)=some ((k0+n:Nat):Int):=by
 have hm:=Zc.all (n:=n) (p:=fun i k=>Z3c k ((k0+i:Nat):Int)=some (mt ((k0+i:Nat):Int))) fun i hi=>Zq0 _ (by omega)
 have hl:(Zkk n k0).length=n:=by simp [Zkk]
 have key:Zc fun k=>Z4f.l0 k k (Zkk n k0) (k0:Int) 0=some (.inl ((k0+n:Nat):Int)):=by
  refine Zss (fun k j i=>Z4f.l0 k j (Zkk n k0) ((k0+i:Nat):Int) (i:Int)) n _ (hm.mono fun k hk i hi j=>?_) (Zc.of fun k j=>?_)
  ·conv=>lhs;unfold Z4f.l0
   rw [hl,Xa (by omega:(i:Int)<(n:Int))];simp only [Xe];rw [Zg (by rw [hl];exact hi)];simp only [Yd];rw [hk i hi]
   have e:(Zkk n k0)[i]'(by rw [hl];exact hi)=mt ((k0+i:Nat):Int):=by
    simp [Zkk]
   simp only [Yd,e,Zgib,Yc,Xf];rw [Zm (by omega),Zm (by omega)];rfl
  ·conv=>lhs;unfold Z4f.l0
   rw [hl,Xb (by omega:¬((n:Int)<(n:Int)))];rfl
 refine key.mono fun k hk=>?_
 unfold Z4f
 rw [hk]
 rfl
def Zfl (n k0:Nat):List Int:=(Yf n).map fun (i:Nat)=>((k0+i:Nat):Int)
theorem Zwnb (n k0:Nat):(Zfl n k0).length=n:=by simp [Zfl]
theorem Zc6 (l:List Int) (k0:Nat) (h:k0+l.length<9223372036854775000) {k:Nat} (hk:l.length<k):Zmd k l (k0:Int)=some (((k0+l.length:Nat):Int),Zfl l.length k0):=by
 have key:=Zqb (fun j i=>Zmd.l0 j ((k0+i:Nat):Int) (i:Int) ((Yf i).map (fun (i:Nat)=>((k0+i:Nat):Int))++l.drop i)) l.length (((k0+l.length:Nat):Int),Zfl l.length k0) (fun i hi j=>by
  have hlen:=Z6q l (fun (i:Nat)=>((k0+i:Nat):Int)) i (by omega);show Zmd.l0 (j+1) _ (i:Int) _=Zmd.l0 j _ _ _;rw [Zmd.l0,hlen,dlt hi,Zg (by rw [hlen];exact hi)];simp only [Xe,Yd];rw [Yg,Zgx l (fun (i:Nat)=>((k0+i:Nat):Int)) i hi,Zm (by omega),Zm (by omega)];rfl) (fun j=>by
  have hlen:=Z6q l (fun (i:Nat)=>((k0+i:Nat):Int)) l.length (Yb _);show Zmd.l0 (j+1) _ (l.length:Int) _=_;rw [Zmd.l0,hlen,Zs (Yb _)];simp only [Xf];rw [Yt,Ys];rfl) k hk
 have key:Zmd.l0 k (k0:Int) 0 l=_:=key
 unfold Zmd
 rw [key]
 rfl
theorem Z7kb (n k0:Nat) (h:k0+n<9223372036854775000) {k:Nat} (hk:n<k):Zpe k (Zfl n k0) (k0:Int)=some ((k0+n:Nat):Int):=by
 have hl:=Zwnb n k0
 have key:=Zqb (fun j i=>Zpe.l0 j (Zfl n k0) ((k0+i:Nat):Int) (i:Int)) n (.inl ((k0+n:Nat):Int)) (fun i hi j=>by
  show Zpe.l0 (j+1) _ _ (i:Int)=Zpe.l0 j _ _ _;have e:(Zfl n k0)[i]'(by rw [hl];exact hi)=((k0+i:Nat):Int):=by simp [Zfl]
  rw [Zpe.l0,hl,dlt hi,Zg (by rw [hl];exact hi),e];simp only [Xe,Yd,bne_self_eq_false,Xf];rw [Zm (by omega),Zm (by omega)];rfl) (fun j=>by
  show Zpe.l0 (j+1) _ _ (n:Int)=_;rw [Zpe.l0,hl,Zs (Yb _)];rfl) k hk
 have key:Zpe.l0 k (Zfl n k0) (k0:Int) 0=_:=key
 unfold Zpe
 rw [key]
 rfl
def Zvi (k0 i:Nat):Int×Str:=(((k0+2*i:Nat):Int),mt ((k0+2*i+1:Nat):Int))
theorem Ztnb (l:List (Int×Str)) (k0:Nat) (h:k0+2*l.length<9223372036854775000):Zc fun k=>Zif k l (k0:Int)=some (((k0+2*l.length:Nat):Int),(Yf l.length).map (Zvi k0)):=by
 have hm:=Zc.all (n:=l.length) (p:=fun i k=>Z3c k ((k0+2*i+1:Nat):Int)=some (mt ((k0+2*i+1:Nat):Int))) fun i hi=>Zq0 _ (by omega)
 have key:Zc fun k=>Zif.l0 k k (k0:Int) 0 l=some (((k0+2*l.length:Nat):Int),(Yf l.length).map (Zvi k0)):=by
  refine Zss (fun k j i=>Zif.l0 k j ((k0+2*i:Nat):Int) (i:Int) ((Yf i).map (Zvi k0)++l.drop i)) l.length _ (hm.mono fun k hk i hi j=>?_) (Zc.of fun k j=>?_)
  ·have hlen:=Z6q l (Zvi k0) i (by omega)
   obtain ⟨x,hx⟩:∃x,at? ((Yf i).map (Zvi k0)++l.drop i) (i:Int)=some x:=⟨_,Zg (by rw [hlen];exact hi)⟩;have hs:=Zgx l (Zvi k0) i hi;have h9:∀y,at? (((Yf i).map (Zvi k0)++l.drop i).set i y) (i:Int)=some y:=fun y=>Zcib (by rw [hlen];exact hi)
   conv=>lhs;unfold Zif.l0
   rw [hlen,dlt hi,Xe];refine Za hx (Za hx ?_);dsimp only;rw [Zm (n:=k0+2*i) (by omega),Zm (n:=k0+2*i+1) (by omega),Zm (n:=i) (by omega),Yg];refine Za (hk i hi) (Za (h9 _) (Za (h9 _) ?_));rw [List.set_set];show Zif.l0 k j _ _ (((Yf i).map (Zvi k0)++l.drop i).set i (Zvi k0 i))=_;rw [hs,show k0+2*i+1+1=k0+2*(i+1) by omega]
  ·have hlen:=Z6q l (Zvi k0) l.length (Yb _)
   conv=>lhs;unfold Zif.l0
   rw [hlen,Zs (Yb _),Yt,Ys];rfl
 refine key.mono fun k hk=>?_
 unfold Zif
 exact Za hk rfl
def Zbm (n k0:Nat):List (Int×Str):=(Yf n).map (Zvi k0)
theorem Zvnb (n k0:Nat):(Zbm n k0).length=n:=by simp [Zbm]
def Zgi (m:Zp):Nat:=m.2.1.length+2*m.2.2.length
theorem Zbdb (m:Zp) (k0:Nat) (h1:m.2.1.length≤1048576) (h2:m.2.2.length≤1048576) (h0:k0≤1048576000):Zc fun k=>Zjn k m (k0:Int)=some (((k0+Zgi m:Nat):Int),(Zkk m.2.1.length k0,Zbm m.2.2.length (k0+m.2.1.length))):=by
 refine ((Zunb m.2.1 k0 (by omega)).and (Ztnb m.2.2 (k0+m.2.1.length) (by omega))).mono fun k ⟨e1,e2⟩=>?_
 unfold Zjn
 refine Za (a:=(((k0+Zgi m:Nat):Int),(Zkk m.2.1.length k0,Zbm m.2.2.length (k0+m.2.1.length)))) ?_ rfl
 unfold Z9s
 refine Za e1 (Za e2 ?_)
 unfold Zgi
 rw [Yz]
 rfl
theorem Z6kb (n k0:Nat) (h:k0+2*n<9223372036854775000):Zc fun k=>Z3f k (Zbm n k0) (k0:Int)=some ((k0+2*n:Nat):Int):=by
 have hm:=Zc.all (n:=n) (p:=fun i k=>Z3c k ((k0+2*i+1:Nat):Int)=some (mt ((k0+2*i+1:Nat):Int))) fun i hi=>Zq0 _ (by omega)
 have hl:=Zvnb n k0
 have key:Zc fun k=>Z3f.l0 k k (Zbm n k0) (k0:Int) 0=some (.inl ((k0+2*n:Nat):Int)):=by
  refine Zss (fun k j i=>Z3f.l0 k j (Zbm n k0) ((k0+2*i:Nat):Int) (i:Int)) n _ (hm.mono fun k hk i hi j=>?_) (Zc.of fun k j=>?_)
  ·have hx:at? (Zbm n k0) (i:Int)=some (Zvi k0 i):=by
    rw [Zg (by rw [hl];exact hi)];simp [Zbm]
   conv=>lhs;unfold Z3f.l0
   rw [hl,dlt hi,Xe];refine Za hx ?_;rw [show ((Zvi k0 i).1 != ((k0+2*i:Nat):Int))=false by simp [Zvi],Xf];refine Za hx ?_;dsimp only;rw [Zm (n:=k0+2*i) (by omega),Zm (n:=k0+2*i+1) (by omega),Zm (n:=i) (by omega)];refine Za (hk i hi) ?_;rw [show ((Zvi k0 i).2==mt ((k0+2*i+1:Nat):Int))=true by simp [Zvi],Yc,Xf,show k0+2*i+1+1=k0+2*(i+1) by omega]
  ·conv=>lhs;unfold Z3f.l0
   rw [hl,Zs (Yb _)];rfl
 refine key.mono fun k hk=>?_
 unfold Z3f
 rw [hk]
 rfl
theorem Z8kb (b:Int) (n d k0:Nat) (h1:n≤1048576) (h2:d≤1048576) (h0:k0≤1048576000):Zc fun k=>Ztq k (b,(Zkk n k0,Zbm d (k0+n))) (k0:Int)=some ((k0+(n+2*d):Nat):Int):=by
 refine ((Z9kb n k0 (by omega)).and (Z6kb d (k0+n) (by omega))).mono fun k ⟨e1,e2⟩=>?_
 unfold Ztq
 refine Za (a:=((k0+(n+2*d):Nat):Int)) ?_ ?_
 ·unfold Z8s
  refine Za e1 ?_;rw [Xb (by omega:¬((k0+n:Nat):Int)<0),Xf];refine Za e2 ?_;rw [Xb (by omega:¬((k0+n+2*d:Nat):Int)<0),Xf,Yz]
 ·rw [Xb (by omega:¬((k0+(n+2*d):Nat):Int)<0)]
  rfl
theorem Zsjb (m:Zp) (h1:m.2.1.length≤1048576) (h2:m.2.2.length≤1048576):Zc fun k=>Zdl k m m=some true:=by
 refine ((Zfbb m.2.1 (by omega)).and (Zbbb m.2.2 (by omega))).mono fun k ⟨e1,e2⟩=>?_
 unfold Zdl Zrq
 rw [e1,e2]
 simp only [bne_self_eq_false,Xf,Yd,Yc]
abbrev DoK:=Zp×Str×List Int×Int
theorem Zkjb (d:DoK) (h1:d.1.2.1.length≤100000) (h2:d.1.2.2.length≤100000) (h3:d.2.2.1.length≤100000):∃n:Nat,∃(x:List Str) (y:List (Int×Str)) (z:List Int),Zc fun k=>Zvq k d 1=some ((n:Int),(x,(y,z)))∧Zoo k ((d.1.1,(x,y)),(d.2.1,(z,d.2.2.2))) 1=some (n:Int)∧Zin k d d=some true:=by
 refine ⟨1+Zgi d.1+d.2.2.1.length,Zkk d.1.2.1.length 1,Zbm d.1.2.2.length (1+d.1.2.1.length),Zfl d.2.2.1.length (1+Zgi d.1),?_⟩
 have hN:Zgi d.1=d.1.2.1.length+2*d.1.2.2.length:=rfl
 refine (((((Zbdb d.1 1 (by omega) (by omega) (by omega)).and (Z8kb d.1.1 d.1.2.1.length d.1.2.2.length 1 (by omega) (by omega) (by omega))).and (Zsjb d.1 (by omega) (by omega))).and (Zk4 d.2.2.1 (by omega))).and (Zc.ge 100001 fun k hk=>hk)).mono fun k ⟨⟨⟨⟨e1,e2⟩,e3⟩,e4⟩,hk⟩=>⟨?_,?_,?_⟩
 ·unfold Zvq
  exact Za e1 (Za (Zc6 d.2.2.1 (1+Zgi d.1) (by omega) (by omega)) rfl)
 ·unfold Zoo
  refine Za e2 ?_;rw [Xb (by omega:¬((1+(d.1.2.1.length+2*d.1.2.2.length):Nat):Int)<0),Xf];refine Za (Z7kb d.2.2.1.length (1+Zgi d.1) (by omega) (by omega)) ?_;rw [Xb (by omega:¬((1+Zgi d.1+d.2.2.1.length:Nat):Int)<0)];rfl
 ·unfold Zin
  refine Za e3 ?_;rw [Yc,Xf,show (d.2.1==d.2.1)=true by simp,Yc,Xf];refine Za e4 ?_;rw [Yc,Xf,show (d.2.2.2 != d.2.2.2)=false by simp];rfl
end Go.Proofs.Qz
namespace Go.Proofs.Qz
open Go
def Zbh.Pure:Prop:=∀(y0:G28) (y1:G86),Bnd T28 y0→Bnd T86 y1→∃k:Nat,Zbh k y0 y1=some true
end Go.Proofs.Qz
namespace Go.Proofs.Qz
open Go
set_option linter.unusedVariables false
theorem Zgrb (d:Z7r) (n:Int) (h0:0≤n) (hn:n≤1048576) (hd:Bnd (.pair (.pair (.int .i64) (.pair (.int .i64) (.pair (.int .i64) (.pair .str (.pair (.int .i64) (.pair (.int .i64) (.pair (.int .i64) .str))))))) (.pair (.int .i64) (.pair (.sl (.int .i64)) (.sl (.int .i64))))) d):
  ∃v,Zxq d n=some v∧(0≤v→d.2.2.1.length≤1048576∧d.2.2.2.length≤1048576):=by
 have ht:d.1.2.2.2.1.length≤140737488351232:=hd.1.2.2.2.1
 have hs:d.1.2.2.2.2.2.2.2.length≤140737488351232:=hd.1.2.2.2.2.2.2.2
 have hl1:d.2.2.1.length≤140737488351232:=hd.2.2.1.1
 have hl2:d.2.2.2.length≤140737488351232:=hd.2.2.2.1
 have hcmd:∃v,Zwq d.1 n=some v∧v≤1048576:=by
  unfold Zwq;dsimp only;rw [w64 (n:=n-(d.1.2.2.2.1.length:Int)) (by omega) (by omega)]
  by_cases c:(n-(d.1.2.2.2.1.length:Int))<0
  ·rw [Xa c];exact ⟨-1,rfl,by omega⟩
  ·rw [Xb c,Zkrb d.1.2.2.2.2 _ hs (by omega) (by omega)]
   simp only [Xf,Yd];split
   ·exact ⟨-1,rfl,by omega⟩
   ·rename_i q
    rw [Xb (by omega)];exact ⟨_,rfl,by omega⟩
 obtain ⟨v,hv,hv1⟩:=hcmd
 unfold Zxq
 rw [hv]
 simp only [Yd]
 by_cases c:v<0
 ·rw [Xa c];exact ⟨-1,rfl,fun h=>by omega⟩
 rw [Xb c]
 obtain ⟨u,hu,hu1,hu2⟩:=Zogb d.2.2.1 v hl1 (by omega) (by omega)
 rw [hu]
 simp only [Xf,Yd]
 by_cases c1:u<0
 ·rw [Xa c1];exact ⟨-1,rfl,fun h=>by omega⟩
 rw [Xb c1]
 obtain ⟨x,hx,hx1,hx2⟩:=Zogb d.2.2.2 u hl2 (by omega) (by omega)
 rw [hx]
 simp only [Xf,Yd]
 by_cases c2:x<0
 ·rw [Xa c2];exact ⟨-1,rfl,fun h=>by omega⟩
 rw [Xb c2]
 have:=hu2 (by omega)
 have:=hx2 (by omega)
 exact ⟨x,rfl,fun h=>⟨by omega,by omega⟩⟩
theorem Zbh.proved:Zbh.Pure:=by
 intro m d hm hd
 have hbig:Zu2 m.2:=⟨⟨hm.2.1.1,fun x hx=>hm.2.1.2 x hx⟩,hm.2.2.1,fun x hx=>(hm.2.2.2 x hx).2⟩
 obtain ⟨u,hu,ev⟩:=Zjrb m 1048576 hbig (by omega) (by omega)
 by_cases hu0:u<0
 ·obtain ⟨k,g1⟩:=ev.ex
  refine ⟨k,?_⟩;unfold Zbh;refine Za g1 ?_;rw [Xa hu0];rfl
 ·have hf:=hu.2 (by omega)
  have hm1:=hf.1.1;have hm2:=hf.2.1;obtain ⟨z,hz,hz0⟩:=Zgrb d u (by omega) (by omega) hd
  by_cases hzn:z<0
  ·obtain ⟨k,g1⟩:=ev.ex
   refine ⟨k,?_⟩;unfold Zbh;refine Za g1 ?_;rw [Xb hu0,Xf];refine Za hz ?_;rw [Xa hzn];rfl
  ·obtain ⟨h1,h2⟩:=hz0 (by omega)
   have hfa:∀x∈d.2.2.1,Zqi x:=fun x hx=>(wf64 (hd.2.2.1.2 x hx)).2
   obtain ⟨bi,bs⟩:=Zpib m d hfa (by omega) (by omega) h1 h2;obtain ⟨hs1,hs2,hs3⟩:=Zgjb m d;have hmm:=Zbdb m 1 (by omega) (by omega) (by omega);have hN:Zgi m=m.2.1.length+2*m.2.2.length:=rfl;obtain ⟨n,x,y,w,hmk⟩:=Zkjb (Zmp m d) (by omega) (by omega) (by omega);obtain ⟨k,⟨⟨⟨⟨⟨⟨⟨⟨⟨⟨⟨g1,g5⟩,g6⟩,g7⟩,g8⟩,g9⟩,g10,g11,g12⟩,g13⟩,g14⟩,g15⟩,g16⟩,hk⟩⟩:=(((((((((((ev.and (Zurb m 1048576 hf (by omega))).and (Ztjb m 1048576 hf (by omega))).and bi).and bs).and hmm).and hmk).and (Zygb d.2.2.1 h1)).and (Zygb d.2.2.2 h2)).and (Zk4 d.2.2.1 h1)).and (Zk4 d.2.2.2 h2)).and (Zc.ge 2000000 fun k hk=>hk)).ex
   have htd:Z9l k d=some (d.1.1,d.1.2.1,d.1.2.2.1,d.1.2.2.2.1,d.1.2.2.2.2.1,d.1.2.2.2.2.2.1,d.1.2.2.2.2.2.2.1,d.1.2.2.2.2.2.2.2,d.2.1,d.2.2.1,d.2.2.2):=by
    unfold Z9l Zat Zbt;rw [g13,g14];rfl
   have hed:Zpq k d d=some true:=by
    unfold Zpq Z7s;rw [g15,g16,Zujb];simp only [bne_self_eq_false,beq_self_eq_true,Yd,Yc,Xf]
   have hmd:Zuq k d ((1+Zgi m:Nat):Int)=some (((1+Zgi m+d.2.2.1.length+d.2.2.2.length:Nat):Int),Zfl d.2.2.1.length (1+Zgi m),Zfl d.2.2.2.length (1+Zgi m+d.2.2.1.length)):=by
    unfold Zuq;exact Za (Zc6 d.2.2.1 (1+Zgi m) (by omega) (k:=k) (by omega)) (Za (Zc6 d.2.2.2 (1+Zgi m+d.2.2.1.length) (by omega) (k:=k) (by omega)) rfl)
   refine ⟨k,?_⟩;unfold Zbh;refine Za g1 ?_;rw [Xb hu0,Xf];refine Za hz ?_;rw [Xb hzn,Xf];refine Za g5 (Za htd (Za g8 (Za g5 (Za htd (Za g7 (Za g12 ?_))))));rw [Yc,Xf];refine Za g5 (Za g6 ?_);rw [Yc,Xf];refine Za htd (Za hed ?_);rw [Yc,Xf];refine Za g9 (Za hmd ?_);rw [Xb (by omega:¬((1+Zgi m+d.2.2.1.length+d.2.2.2.length:Nat):Int)<0),Xf];refine Za g12 ?_;rw [Yc,Xf];refine Za g10 (Za g11 ?_);rw [Xb (by omega:¬((n:Nat):Int)<0),Xf,show (((n:Nat):Int) != ((n:Nat):Int))=false by simp,Xf];refine Za g5 (Za htd (Za g7 (Za g12 ?_)));rw [Yc,Xf];refine Za g11 ?_;rw [Xb (by omega:¬((n:Nat):Int)<0),Xf,show (((n:Nat):Int) != ((n:Nat):Int))=false by simp];rfl
end Go.Proofs.Qz
namespace Go.Proofs.YtpcllejjdmmjcaaGreatDoor.fnExactDeedDo
open Go Go.ChangeShapes Go.WideShapes Go.ChangeAt Go.RowKit Go.Proofs.Qz
set_option linter.unusedVariables false
theorem own:ownKnob Ya.godebug=none:=by kernel_rfl
theorem Zq5:laidOutB Ya=true:=by kernel_rfl
theorem go (k:Nat) (y0:G28) (y1:G86):(Zbh.con k).f [Zcw true T28 y0,Zcw true T86 y1] = .opt (Zcb Zbh.sig.outs) (Zbh k y0 y1) Zbh.sig.enc:=by kernel_rfl
abbrev Z8w:List (String×DataW Unit):=[("loop.example/g00668/impl.digestStart",Rows.laid_loop_example_g00668_impl_digestStart),("loop.example/g00668/impl.digestRounds",Rows.laid_loop_example_g00668_impl_digestRounds)]
theorem Zmjb (os:Os) (args:Array Value):laidMetH Ya Z8w ((World.doorLaid Ya 19 os).forCall (fun _ _=>0) ⟨#[],args,[]⟩).memory:=
 laidMetH_of_parts3 (fuel:=8) (laidMet_of_run' 8 (by kernel_rfl) (by kernel_rfl)) (by kernel_rfl) (by kernel_rfl)
theorem globals {W:World} (h:laidMetH Ya Z8w W):GlW W:=by
 rw [MakeChecks.laidMetH_plain _ _ _ (by kernel_rfl)] at h
 intro n r l e
 unfold GL at e
 split at e
 ·cases e;exact Ztcb h (name:= "loop.example/g00668/impl.digestStart") (k:=.u32) (zs:=Zzn) (Yu (i:=0) (by kernel_rfl)) (n:=8) (t:=302) (e:=297) (by kernel_rfl) (by kernel_rfl) (by kernel_rfl) (by kernel_rfl) (by kernel_rfl) (by kernel_rfl)
 ·cases e;exact Ztcb h (name:= "loop.example/g00668/impl.digestRounds") (k:=.u32) (zs:=Z0n) (Yu (i:=1) (by kernel_rfl)) (n:=64) (t:=324) (e:=297) (by kernel_rfl) (by kernel_rfl) (by kernel_rfl) (by kernel_rfl) (by kernel_rfl) (by kernel_rfl)
 ·cases e
set_option maxRecDepth 100000 in
theorem lifted (os:Os) (started:os.Started) (H:Type) (enc:TypeId×Value→H):
  ReturnsInHanded {} Yv os 6 .any (fun w args=>(Rows.fnExactDeedDoSpec.pre enc Ya Yi [] false w args∧laidMetH Ya Z8w w)∧sizedMet enc Ya Yi (OpenSpec.ofChange Rows.fnExactDeedDoSpec) false w args) (Rows.fnExactDeedDoSpec.post enc Ya Yi false true false false):=by
 refine returnsInHanded_of_change_and (C:=Yv) (X:=fun w _=>laidMetH Ya Z8w w) (fun _ _ _ hh h=>h.of_heap hh) own started (by kernel_rfl) Yw
  (ChangeSpec.witness_shaped (enc:=enc) (C:=Yv) (os:=os) (X:=fun w _=>laidMetH Ya Z8w w) false (World.doorLaid Ya 19 os) #[.agg #[.int .i64 0,.slice none 0 0,.slice none 0 0],.agg #[.int .i64 0,.int .i64 0,.int .i64 0,.string ByteArray.empty,.int .i64 0,.int .i64 0,.int .i64 0,.string ByteArray.empty,.int .i64 0,.slice none 0 0,.slice none 0 0]] 8 rfl (World.shaped_of_RefB (by kernel_rfl) (by kernel_rfl)) (by kernel_rfl) (by kernel_rfl) (by kernel_rfl) (Zmjb os _)) ?_
 intro W base args ds gs before hval0 hW hcnd hsz0 hL _
 have hsz:(DataW.weightsEach Ya (Yi.params.toList++Rows.fnExactDeedDoSpec.plain.varTypes Ya) (ds++gs)).all (·≤reachBytes)=true:=hsz0
 have hval:∀(j:Nat) t v,Yi.params[j]? = some t→args[j]? = some v→Value.okWide Ya W .any base t v:=hval0
 have hW':=hW
 obtain ⟨p,q,hA0,hV,rfl,hfz,hnd⟩:=hW
 have hA:DataW.TrodAll enc Ya W 0 (fun _=>true) true Yi.params.toList args.toList ds p:=hA0
 rw [Y1] at hA hval hsz
 obtain ⟨v0,vs0,d0,ds0,p0,q0,hargs,rfl,rfl,h0,r0⟩:=trodAll_cons hA
 obtain ⟨v1,vs1,d1,ds1,p1,q1,rfl,rfl,rfl,h1,r1⟩:=trodAll_cons r0
 obtain ⟨rfl,rfl,rfl⟩:=trodAll_nil r1
 obtain rfl:args = #[v0,v1]:=by cases args;simp_all
 obtain ⟨_,_,_,_,gd0,_,_,_,_,_,gd1,_,rfl,_⟩:=trodVars_two hV
 have lt0:=Z3gb h0
 have z0:=Zehb hsz (j:=0) (t:=63) rfl rfl
 obtain ⟨y0,b0,c0⟩:=Ze9 (ty:=T28) (n:=20) (ag:=true) (by kernel_rfl) (by kernel_rfl) (hval 0 63 v0 rfl rfl) h0 z0
 have lt1:=Z3gb h1
 have z1:=Zehb hsz (j:=1) (t:=86) rfl rfl
 obtain ⟨y1,b1,c1⟩:=Ze9 (ty:=T86) (n:=20) (ag:=true) (by kernel_rfl) (by kernel_rfl) (hval 1 86 v1 rfl rfl) h1 z1
 obtain ⟨k,hp⟩:=Zbh.proved y0 y1 b0 b1
 have hrr:((Zbh.con k).f [Zcw true T28 y0,Zcw true T86 y1]).val=some ⟨[.val false [.leaf (.bool true)]],[]⟩:=by
  refine (congrArg CR.val (go k y0 y1)).trans ?_;rw [hp]
  kernel_rfl
 refine (Zanb (Zbh.ok k) hrr (globals hL) (vs:=[v0,v1]) (Z59 (c0 _) (Z59 (c1 _) Z1ib))).mono fun e W' ⟨he,bel0⟩=>?_
 have bel:Below W.heap.size W W':=bel0
 subst he
 exact ⟨_,rfl,_,_,_,[],_,_,hW',trodAll_mk1 (Z3qb Tryz.underlying4 _),(trodAll_cons_mk (Below.trod Zq5 (by kernel_rfl) (of_decide_eq_true (by kernel_rfl)) h0 bel lt0) (trodAll_cons_mk (Below.trod Zq5 (by kernel_rfl) (of_decide_eq_true (by kernel_rfl)) h1 bel lt1) trodAll_mk0)),Below.trodVars Zq5 bel (by kernel_rfl) hV,bel.frame _,fun h=>by cases h⟩
theorem k10:(Rows.fnExactDeedDoRow.inPlace==Ya.inPlace 6)=true:=by kernel_rfl
theorem k11:(Rows.fnExactDeedDoRow.unfollowed==Ya.unfollowed 6)=true:=by kernel_rfl
theorem k12:(Rows.fnExactDeedDoRow.recurses==Ya.recurses 6)=true:=by kernel_rfl
theorem k13:(Rows.fnExactDeedDoRow.named==Ya.varsNamed 6)=true:=by kernel_rfl
theorem Z6ib:joinedFacts Ya 6 Yi Rows.fnExactDeedDoSpec Rows.fnExactDeedDoRow=true:=by
 unfold joinedFacts
 rw [k10,k11,k12,k13]
 kernel_rfl
theorem Z8q:Rows.fnExactDeedDoRow.holds Tryz.pinned (OpenSpec.ofChange Rows.fnExactDeedDoSpec):=
 OpenClaim.holds_of_wide 6 Yi rfl rfl rfl rfl rfl rfl rfl ⟨rfl,rfl,rfl,rfl,rfl⟩ rfl rfl rfl rfl rfl (by kernel_rfl) Yw Z6ib
  (of_decide_eq_true (by kernel_rfl)) (by unfold Func.isWrapper;first | (rw [Xc (by decide +kernel)];kernel_rfl) | (rw [Xd (by decide +kernel)];exact ⟨rfl,rfl⟩))
  (fun os started H enc _=>lifted os started H enc)
theorem proved:Rows.FnExactDeedDoSaid:=Z8q
theorem t1:Rows.fnExactDeedDoRow.wfByText (OpenSpec.ofChange Rows.fnExactDeedDoSpec)=true:=by kernel_rfl
theorem t2:Ya.mainIs=some ((true, "933041b7a138b4b8385d4c8b62717555527b224f332a52fd1e388c0e673042bb").1,(true, "933041b7a138b4b8385d4c8b62717555527b224f332a52fd1e388c0e673042bb").2.toList):=by kernel_rfl
theorem t3:false=Ya.looks []:=by kernel_rfl
theorem t4:false=Rows.fnExactDeedDoRow.goesBy Ya:=by kernel_rfl
theorem tied:Rows.FnExactDeedDoCardSaid:=
 Claim7.holds_tied_plain_at .later [] [.data,.data] true (true, "933041b7a138b4b8385d4c8b62717555527b224f332a52fd1e388c0e673042bb") false
  proved (fun _ h=>by cases h) t1 (fun _ h=>by cases h) fnExactDeedDo_row_tie rfl ⟨rfl,rfl⟩ t2 rfl
  (fun f fn hf hfn=>by
   obtain rfl:f=6:=Y0.inj ((show Ya.funcNamed "loop.example/g00668/laws.FnExactDeedDo" = some 6 by kernel_rfl).symm.trans hf) |>.symm;obtain rfl:fn=Yi:=(Y0.inj (Yw.symm.trans hfn)).symm
   exact ⟨t3,fun j t ht=>by
    rw [Y1] at ht;have hm:t∈[63,86]:=by simpa using Array.mem_of_getElem? ht
    have hall:([63,86].all fun u=>!Tryz.prog.wantsStandIn u)=true:=by kernel_rfl
    exact (show Ya.wantsStandIn t=false by simpa using List.all_eq_true.1 hall t hm)⟩)
  t4
end Go.Proofs.YtpcllejjdmmjcaaGreatDoor.fnExactDeedDo
namespace Go.Proofs.YtpcllejjdmmjcaaGreatDoor
theorem fnExactDeedDo_card:Rows.FnExactDeedDoCardSaid:=fnExactDeedDo.tied
#print axioms fnExactDeedDo_card
end Go.Proofs.YtpcllejjdmmjcaaGreatDoor
