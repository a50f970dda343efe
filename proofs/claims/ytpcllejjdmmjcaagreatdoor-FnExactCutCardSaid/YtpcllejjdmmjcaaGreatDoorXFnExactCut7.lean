/- What the law FnExactCut needs, part 8 of 15: the Lean functions of the Go functions that it reaches, with the proofs that the calls come to what they say, and plain facts about them. Conditions: those that each theorem states. Written by a session and by its programs (after the kit's printer). -/
import Derived.Test.YtpcllejjdmmjcaaGreatDoorXFnExactCut6
open Option renaming bind → Ya
open Go.Proofs.Tryz renaming prog → Yb, f296 → Yl, f110 → Yr, f133 → Ys, f138 → Yt, f199 → Yu, f204 → Yv, f255 → Yw, f270 → Yx, f271 → Yy, f294 → Yz, func199 → Y0
open Go.IntKind renaming wrap → Yc, max → Yn
open List renaming getD → Yd, set → Yf, mem_singleton → Yg, length_map → Yj, nodup_nil → Yk, getElem?_eq_getElem → Yo, getElem?_map → Yp, replicate → Yq
open Int renaming toNat → Ye, toNat_natCast → Ym
open Nat renaming le_refl → Yh, mul_one → Yi
namespace Go.Proofs.Qz
open Go Go.RowKit
set_option linter.unusedVariables false
set_option linter.defProp false
def Znj (a:List G52):Option (List G52):=Ya (Zs 40 [] a) fun y=>some y
def Znj.sig:Sig:={ ps:=[.val false (.sl T52) (ros (.sl T52))],rs:=[.val false [.own 52 T52]],ntmps:=8 }
def Znj.con (k:Nat):Con:=Znj.sig.con (fun x=>Znj x)
theorem Znj.ok (k:Nat):Zf Yb 209 (Znj.con k):=
 Zey (e:=52) (C:={ ti:=TAB,con:=Zll [] }) (s:=Znj.sig) (G:=fun x=>Znj x) (Z8s Z1s trivial) Tryz.func209 (by kernel_rfl) rfl (by kernel_rfl) (by kernel_rfl) (by kernel_rfl) rfl rfl rfl rfl rfl rfl (by kernel_rfl) (by kernel_rfl)
  (fun x=>⟨_,_,.inl rfl⟩) (fun x y h=>Eq.trans (b:=Znj x) (by kernel_rfl) h) (fun x y h hl=>by
   have e:x=([]:List G52):=hl T52 x (.inl (by kernel_rfl));subst e;exact Eq.trans (b:=Znj []) (by kernel_rfl) h)
def Zfj (k:Nat) (a1:List G52):Option (List G52):=Ya (Znj a1) fun v2=>Ya (Zdg k v2) fun v3=>some v3
def Zfj.con (k:Nat):Con:=Sig.con { ps:=[.val false (.sl T52) (ros (.sl T52))],rs:=[.val false [.v (.sl T52)]],ntmps:=6 } (fun x=>Zfj k x)
theorem Zfj.ok (k:Nat):Zf Yb 117 (Zfj.con k):=fA (cX (cC (Zdg.ok k) (cC (Znj.ok k) cN))) Tryz.func117
def Zpt (a1:G52) (a2:Int):Option (Bool):=some (((a1.1==3)||(a1.1==4))&&(a1.2.2.1==a2))
def Zpt.con (k:Nat):Con:=Sig.con { ps:=[.val true T52 (ros T52),.val false (.int .i64) (ros (.int .i64))],rs:=[.val false [.v .bool]],ntmps:=19 } (fun x=>Zpt x.1 x.2)
theorem Zpt.ok (k:Nat):Zf Yb 203 (Zpt.con k):=fA (cX cN) Tryz.func203
def Znp (a1:Int) (a2:Int) (a3:List G52) (a4:Int):Option (Bool):=bif a1 != a2 then Ya (at? a3 a1) fun v5=>Ya (Zpt v5 a4) fun v6=>some v6 else some false
def Znp.con (k:Nat):Con:=Sig.con { ps:=[.val false (.int .i64) (ros (.int .i64)),.rptr (.int .i64),.rptr (.sl T52),.rptr (.int .i64)],rs:=[.val false [.v .bool]],ntmps:=17 } (fun x=>Znp x.1 x.2.1 x.2.2.1 x.2.2.2)
theorem Znp.ok (k:Nat):Zf Yb 202 (Znp.con k):=fA (cX (cC (Zpt.ok k) cN)) Tryz.func202
def Z4d.l0:Nat→List Int→List G52→Int→Int→Int→Int→Option ((Int×Int) ⊕ (Int×Int×Int))
 | 0,_,_,_,_,_,_=>none
 | j+1,a1,a2,a3,a4,a5,a6=>bif decide (a4<a3) then Ya (at? a1 a4) fun v7=>Ya (Znp v7 a5 a2 a6) fun v8=>bif v8 then some (.inr (a4,a5,a6)) else Z4d.l0 j a1 a2 a3 (Yc .i64 (a4+1)) a5 a6 else some (.inl (a5,a6))
def Z4d (k:Nat) (a1:List Int) (a2:Int) (a3:List G52) (a4:Int):Option (Int×Int×Int):=Ya (Z4d.l0 k a1 a3 ((a1.length):Int) 0 a2 a4) fun
  | .inl y5=>some ((-1),y5.1,y5.2)
  | .inr y6=>some (y6.1,y6.2.1,y6.2.2)
def Z4d.con (k:Nat):Con:=Sig.con { ps:=[.val false (.sl (.int .i64)) (ros (.sl (.int .i64))),.fn 202 [(3,(.int .i64),(Zzg (.int .i64))),(4000000,(.sl T52),[.ro]),(2,(.int .i64),(Zzg (.int .i64)))]],rs:=[.val false [.v (.int .i64)]],ntmps:=19 } (fun x=>Z4d k x.1 x.2.1 x.2.2.1 x.2.2.2)
def Z4d.cok (k:Nat):=cX (cC (Znp.ok k) cN)
def Z4d.l0.s (k:Nat):Summ:=lp 19 { tmps:=[(0,.one (.bor (.int .i64))),(1,.fn 202 [.ptr 0 0,.rp (.sl T52),.ptr 1 0]),(7,.one (.v (.int .i64))),(8,.one (.v (.int .i64)))],slots:=[(0,.box 3 [.v (.int .i64)]),(1,.box 2 [.v (.int .i64)])],nb:=2 } [(.exit 0,{ tmps:=[],slots:=[(0,.box 3 [.v (.int .i64)]),(1,.box 2 [.v (.int .i64)])],nb:=2 }),(.ret,{ tmps:=[(4,.one (.v (.int .i64)))],slots:=[(0,.box 3 [.v (.int .i64)]),(1,.box 2 [.v (.int .i64)])],nb:=2 })] (fun j x=>Z4d.l0 j x.1 x.2.1 x.2.2.1 x.2.2.2.1 x.2.2.2.2.1 x.2.2.2.2.2) k
def Z4d.l0.ok (k:Nat):=(lA (Z4d.cok k):Zj Yb _ (.loop (cO (cO (cR (cL (cR (cB Yu))))))) (Z4d.l0.s k))
theorem Z4d.ok (k:Nat):Zf Yb 199 (Z4d.con k):=fP (.two .auto (.two (.two .auto (.one (.sum (Z4d.l0.s k)))) .auto)) (Z4d.cok k) Y0 (sC (Z4d.l0.ok k) sN)
def Zjq (k:Nat) (a1:List Int) (a2:Int) (a3:List G52) (a4:Int):Option (Bool×Int×Int):=Ya (Z4d k a1 a2 a3 a4) fun v5=>some (decide (0≤v5.1),v5.2.1,v5.2.2)
def Zjq.con (k:Nat):Con:=Sig.con { ps:=[.val false (.sl (.int .i64)) (ros (.sl (.int .i64))),.fn 202 [(3,(.int .i64),(Zzg (.int .i64))),(4000000,(.sl T52),[.ro]),(2,(.int .i64),(Zzg (.int .i64)))]],rs:=[.val false [.v .bool]],ntmps:=9 } (fun x=>Zjq k x.1 x.2.1 x.2.2.1 x.2.2.2)
theorem Zjq.ok (k:Nat):Zf Yb 201 (Zjq.con k):=fA (cX (cC (Z4d.ok k) cN)) Tryz.func201
def Zmp (k:Nat) (a1:Int) (a2:List G52) (a3:List Int) (a4:List Int):Option (Bool×List Int):=Ya (at? a2 a1) fun v5=>bif Zkg v5.2.1 a3 then some (true,a3) else Ya (Zjq k a4 a1 a2 v5.2.1) fun v6=>some (!v6.1,a3)
def Zmp.con (k:Nat):Con:=Sig.con { ps:=[.val false (.int .i64) (ros (.int .i64)),.rptr (.sl T52),.ref 222 (.sl (.int .i64)) [.own 1000222],.rptr (.sl (.int .i64))],rs:=[.val false [.v .bool]],ntmps:=21 } (fun x=>Zmp k x.1 x.2.1 x.2.2.1 x.2.2.2)
theorem Zmp.ok (k:Nat):Zf Yb 200 (Zmp.con k):=fA (cX (cC (Zjq.ok k) cN)) Tryz.func200
def Ztd.l0 (k:Nat):Nat→List Int→List Int→Int→Int→List G52→List Int→Option ((List G52×List Int) ⊕ (Int×List G52×List Int))
 | 0,_,_,_,_,_,_=>none
 | j+1,a1,a2,a3,a4,a5,a6=>bif decide (a4<a3) then Ya (at? a1 a4) fun v7=>Ya (Zmp k v7 a5 a6 a2) fun v8=>bif v8.1 then some (.inr (a4,a5,v8.2)) else Ztd.l0 k j a1 a2 a3 (Yc .i64 (a4+1)) a5 v8.2 else some (.inl (a5,a6))
def Ztd (k:Nat) (a1:List Int) (a2:List G52) (a3:List Int) (a4:List Int):Option (Int×List G52×List Int):=Ya (Ztd.l0 k k a1 a4 ((a1.length):Int) 0 a2 a3) fun
  | .inl y5=>some ((-1),y5.1,y5.2)
  | .inr y6=>some (y6.1,y6.2.1,y6.2.2)
def Ztd.con (k:Nat):Con:=Sig.con { ps:=[.val false (.sl (.int .i64)) (ros (.sl (.int .i64))),.fn 200 [(31,(.sl T52),(Zzg (.sl T52))),(222,(.sl (.int .i64)),[.own 1000222]),(4000000,(.sl (.int .i64)),[.ro])]],rs:=[.val false [.v (.int .i64)]],ntmps:=19 } (fun x=>Ztd k x.1 x.2.1 x.2.2.1 x.2.2.2)
def Ztd.cok (k:Nat):=cX (cC (Zmp.ok k) cN)
def Ztd.l0.s (k:Nat):Summ:=lp 19 { tmps:=[(0,.one (.bor (.int .i64))),(1,.fn 200 [.ptr 0 0,.ptr 1 0,.rp (.sl (.int .i64))]),(7,.one (.v (.int .i64))),(8,.one (.v (.int .i64)))],slots:=[(0,.box 31 [.v (.sl T52)]),(1,.box 222 [.own 3]),(3,.arr false 1000222 (.int .i64))],nb:=4 } [(.exit 0,{ tmps:=[],slots:=[(0,.box 31 [.v (.sl T52)]),(1,.box 222 [.own 4]),(4,.arr false 1000222 (.int .i64))],nb:=5 }),(.ret,{ tmps:=[(4,.one (.v (.int .i64)))],slots:=[(0,.box 31 [.v (.sl T52)]),(1,.box 222 [.own 4]),(4,.arr false 1000222 (.int .i64))],nb:=5 })] (fun j x=>Ztd.l0 k j x.1 x.2.1 x.2.2.1 x.2.2.2.1 x.2.2.2.2.1 x.2.2.2.2.2) k
def Ztd.l0.ok (k:Nat):=(lA (Ztd.cok k):Zj Yb _ (.loop (cO (cO (cR (cL (cR (cB Yu))))))) (Ztd.l0.s k))
theorem Ztd.ok (k:Nat):Zf Yb 199 (Ztd.con k):=fP (.two .auto (.two (.two .auto (.one (.sum (Ztd.l0.s k)))) .auto)) (Ztd.cok k) Y0 (sC (Ztd.l0.ok k) sN)
def slices_Delete_int (l:List Int) (i j:Int):Option (List Int):=if 0≤i∧i≤j∧j≤(l.length:Int) then some (l.take i.toNat++l.drop j.toNat) else none
def slices_Delete_int.con (k:Nat):Con:={ ms:=[.mv,.val [.ro],.val [.ro]],f:=fun xs=>match xs with
 | [.mv e (.int .i64) l,.val false [.leaf (.int .i64 i)],.val false [.leaf (.int .i64 j)]]=>bif Nat.beq e 3 then .opt (List Int) (slices_Delete_int l i j) fun r=>⟨[.val false [.own e (.int .i64) r]],[]⟩ else .fail
 | _=>.fail }
theorem slices_Delete_int.drew (w:World) (q:Nat):(w.drewN q).heap=w.heap∧(w.drewN q).os=w.os∧(w.drewN q).tape=w.tape∧(w.drewN q).output=w.output:=⟨rfl,rfl,rfl,rfl⟩
theorem slices_Delete_int.ok (k:Nat):Zf Yb 204 (slices_Delete_int.con k):=by
 refine ⟨(Zc3 Tryz.func204 (by kernel_rfl) (show Yv.body=some (cB Yv) by kernel_rfl)),?_⟩
 intro xs rr hrr w vs F L M hF hnd hgl hargs
 unfold slices_Delete_int.con at hrr
 dsimp only at hrr
 split at hrr
 ·rename_i e l i j
  cases he:Nat.beq e 3 with
  | false=>rw [he] at hrr;cases hrr
  | true=>
  rw [he] at hrr;have hm:Zy e=false:=by rw [Nat.eq_of_beq_eq_true he];rfl
  replace hrr:(slices_Delete_int l i j).map (fun r=>(⟨[.val false [.own e (.int .i64) r]],[]⟩:RR))=some rr:=hrr;unfold slices_Delete_int at hrr;split at hrr
  ·rename_i hij
   obtain ⟨h0,h1,h2⟩:=hij;cases hrr
   match vs,hargs with
   | [v1,v2,v3],⟨_,_,_,_,hL,hM,⟨rfl,rfl,hrow⟩,_,_,_,_,hL2,hM2,⟨rfl,hv2,hn2⟩,_,_,_,_,hL3,hM3,⟨rfl,hv3,hn3⟩,hn4,hn5⟩=>
   have hv2:v2 = .int .i64 i:=hv2;have hv3:v3 = .int .i64 j:=hv3;subst hv2;subst hv3;subst hn2;subst hn3;subst hn4;subst hn5;subst hL3;subst hM3;subst hL2;subst hM2;subst hL;subst hM;obtain ⟨a,rfl⟩:∃a:Nat,i=(a:Int):=⟨i.toNat,by omega⟩;obtain ⟨b,rfl⟩:∃b:Nat,j=(b:Int):=⟨j.toNat,by omega⟩;rw [Ym,Ym];rcases hrow.slice hm with ⟨rfl,rfl⟩ | ⟨g,cap,cs,fr,rfl,hh,hun,hfz,hlc,hcs,hcells⟩
   ·have hb0:b=0:=by
     have:(([]:List Int).length:Int)=0:=rfl;have h2:(b:Int)≤(([]:List Int).length:Int):=h2;omega
    have ha0:a=0:=by omega
    subst hb0;subst ha0;refine (Tryz.slices_Delete_int_empty none 0 w).mono ?_;rintro e' w' ⟨rfl,rfl⟩;refine ⟨_,rfl,⟨rfl,rfl,rfl,Yh _,fun _ _ _=>rfl⟩,[],[.row (.slice none 0 0)],?_,Yk,rfl,rfl,Zac.ok (.inl ⟨rfl,rfl⟩) hm,rfl⟩;intro c hc q hq;rw [Yg.1 hc] at hq;cases hq
   ·have hsz:(Ty.int IntKind.i64).sz=1:=rfl
    rw [hsz,Yi] at hcs;have hab:a≤b:=by omega
    have hbl:b≤l.length:=by omega
    obtain ⟨rfl,hcapm⟩:=hfz rfl
    have hcell:∀q,q<l.length→w.cell? ⟨g,0+q,none⟩=some (.int .i64 (l.getD q 0)):=by
     intro q hq;have h3:=hcells q l[q] (Yo hq);have h3:(cs.toList.drop (q*1)).take 1=[.int .i64 l[q]]:=h3;rw [Yi] at h3
     have h4:cs.toList[q]? = some (.int .i64 l[q]):=by
      have:=congrArg (fun z=>z[0]?) h3;simpa using this
     rw [cell_of_row w g (0+q) cs e (0,0) hh,Nat.zero_add,← Array.getElem?_toList,h4,List.getD_eq_getElem?_getD,Yo hq];rfl
    refine (Tryz.slices_Delete_int_cells g 0 l.length cap a b l w (Yh _) hlc (by unfold maxLen at hcapm;omega) hab hbl hcell (fun q hq=>by
     simp only [World.frozen?,hh];simp)).mono ?_
    rintro e' w' ⟨rfl,q,rfl⟩;rw [List.take_of_length_le (Yh l.length)];obtain ⟨d1,d2,d3,d4⟩:=slices_Delete_int.drew w q;generalize hvs:((l.take a++l.drop b++Yq (b-a) (0:Int)).map (Value.int .i64))=us;have hul:us.length=l.length:=by rw [← hvs];simp;omega
    obtain ⟨r1,r2,r3,r4⟩:=Zr6 g us 0 (w.drewN q);have hh':(w.drewN q).heap[g]? = some (.cells cs e (0,0)):=by rw [d1];exact hh
    have hblk:=Zis g us 0 cs (w.drewN q) hh' (by omega);have hgl:g<w.heap.size:=(Array.getElem?_eq_some_iff.1 hh).1;have hres:(l.take a++l.drop b).length=l.length-(b-a):=by simp;omega
    refine ⟨_,rfl,⟨r1.trans d2,r2.trans d3,r3.trans d4,by rw [r4,d1];exact Yh _,fun x hx hn=>?_⟩,[],[.row (.slice (some ⟨g,0,none⟩) (l.length-(b-a)) cap)],?_,?_,rfl,rfl,Zac.ok (.inr ⟨g,cap,_,(0,0),by rw [hres],hblk,.inl rfl,fun _=>⟨rfl,hcapm⟩,by rw [hres];omega,?_,?_⟩) hm,rfl⟩
    ·rw [Z50 g us 0 (w.drewN q) x (fun ex=>hn (by subst ex;exact Yg.2 rfl)),d1]
    ·intro c hc x hx
     rw [Yg.1 hc] at hx;cases hx;exact ⟨.inl (Yg.2 rfl),by rw [r4,d1];exact hgl⟩
    ·exact List.nodup_cons.2 ⟨(fun h=>nomatch h),Yk⟩
    ·rw [List.size_toArray,Zbs _ _ _ (by simp;omega),Array.length_toList,hcs,hsz,Yi]
    ·intro x y hx
     show ((overL cs.toList 0 us).toArray.toList.drop (x*1)).take 1=[.int .i64 y];have hxl:=(List.getElem?_eq_some_iff.1 hx).1
     have hus:us[x]? = some (.int .i64 y):=by
      rw [← hvs,Yp,List.getElem?_append_left hxl,hx];rfl
     rw [Yi,List.toList_toArray];apply List.ext_getElem?;intro m;rw [List.getElem?_take,List.getElem?_drop,Zlm _ _ _ (by simp;omega)];cases m with
     | zero=>
      rw [Xc (by omega),Xd (by omega),Xc (by omega),Nat.add_zero,Nat.sub_zero,hus];rfl
     | succ m=>rw [Xd (by omega)];rfl
  ·cases hrr
 ·cases hrr
def Zmb.l0:Nat→Int→Int→List Int→Option ((List Int))
 | 0,_,_,_=>none
 | j+1,a1,a2,a3=>bif decide (a2<a1) then Ya (at? a3 a2) fun v4=>Ya (at? a3 a2) fun v5=>Zmb.l0 j a1 (Yc .i64 (a2+1)) (Yf a3 (Ye a2) a2) else some a3
def Zmb.l1 (k:Nat):Nat→List G52→List Zcd→List Int→List Int→Option ((List G52×List Zcd×List Int×List Int))
 | 0,_,_,_,_=>none
 | j+1,a1,a2,a3,a4=>bif decide (0<((a3.length):Int)) then Ya (Ztd k a3 a1 a4 a3) fun v5=>bif decide (v5.1<0) then Ya (at? a3 0) fun v6=>Ya (at? a3 0) fun v7=>let e8:=at? v5.2.1 v7;Ya (e8) fun v9=>Ya (Zs 32 a2 [(1,(v7,(v9.2.1,((v5.2.2.length):Int))))]) fun v10=>Ya (e8) fun v11=>Zmb.l1 k j v5.2.1 v10 a3 (Zkh v11.2.1 v5.2.2) else let e12:=at? a3 v5.1;Ya (e12) fun v13=>Ya (e12) fun v14=>Ya (at? v5.2.1 v14) fun v15=>Ya (Zs 32 a2 [(2,(v14,(v15.2.1,0)))]) fun v16=>Ya (slices_Delete_int a3 v5.1 (Yc .i64 (v5.1+1))) fun v17=>Zmb.l1 k j v5.2.1 v16 v17 v5.2.2 else some (a1,a2,a3,a4)
def Zmb (k:Nat) (a1:List G52):Option (List Zcd):=Ya (Zfj k a1) fun v2=>Ya (Ztg 8 ((v2.length):Int) ((v2.length):Int) 0) fun v3=>Ya (Zmb.l0 k ((v3.length):Int) 0 v3) fun y4=>Ya (Zmb.l1 k k v2 [] y4 []) fun y5=>some y5.2.1
def Zmb.con (k:Nat):Con:=Sig.con { ps:=[.val false (.sl T52) (ros (.sl T52))],rs:=[.val false [.own 139 Z5b]],ntmps:=76 } (fun x=>Zmb k x)
def Zmb.cok (k:Nat):=cX (cC (Zfj.ok k) (cC (Ztd.ok k) (cC (slices_Delete_int.ok k) cN)))
def Zmb.l0.s (k:Nat):Summ:=lp 76 { tmps:=[(4,.one (.ptr 2 0)),(17,.one (.v (.int .i64))),(18,.one (.v (.int .i64)))],slots:=[(2,.box 221 [.own 3]),(3,.arr false 3 (.int .i64))],nb:=4 } [(.exit 0,{ tmps:=[],slots:=[(2,.box 221 [.own 4]),(4,.arr false 3 (.int .i64))],nb:=5 })] (fun j x=>Zmb.l0 j x.1 x.2.1 x.2.2) k
def Zmb.l0.ok (k:Nat):=(lA (Zmb.cok k):Zj Yb _ (.loop (cO (cO (cR (cL (cR (cR (cR (cB Yr))))))))) (Zmb.l0.s k))
def Zmb.l1.s (k:Nat):Summ:=lp 76 { tmps:=[(3,.one (.ptr 0 0)),(4,.one (.ptr 2 0)),(6,.one (.ptr 6 0)),(7,.one (.own 7))],slots:=[(0,.box 31 [.v (.sl T52)]),(2,.box 221 [.own 8]),(6,.box 222 [.own 9]),(7,.arr false 139 Z5b),(8,.arr false 3 (.int .i64)),(9,.arr false 1000222 (.int .i64))],nb:=10 } [(.exit 2,{ tmps:=[(7,.one (.own 10))],slots:=[(0,.box 31 [.v (.sl T52)]),(2,.box 221 [.own 11]),(6,.box 222 [.own 12]),(10,.arr false 139 Z5b),(11,.arr false 3 (.int .i64)),(12,.arr false 1000222 (.int .i64))],nb:=13 })] (fun j x=>Zmb.l1 k j x.1 x.2.1 x.2.2.1 x.2.2.2) k
def Zmb.l1.ok (k:Nat):=(lA (Zmb.cok k):Zj Yb _ (.loop (cO (cO (cL (cR (cR (cR (cR (cR (cR (cB Yr))))))))))) (Zmb.l1.s k))
theorem Zmb.ok (k:Nat):Zf Yb 110 (Zmb.con k):=fP (.two .auto (.two .auto (.two .auto (.two (.two .auto (.one (.sum (Zmb.l0.s k)))) (.two .auto (.two .auto (.two (.one (.sum (Zmb.l1.s k))) .auto))))))) (Zmb.cok k) Tryz.func110 (sC (Zmb.l0.ok k) (sC (Zmb.l1.ok k) sN))
def Zhe.l0:Nat→Int→List Zcd→Int→Int→Option (Int)
 | 0,_,_,_,_=>none
 | j+1,a1,a2,a3,a4=>bif decide (a4<a3) then Ya (at? a2 a4) fun v5=>let e6:=Yc .i64 (a4+1);bif v5.1==1 then Zhe.l0 j (Yc .i64 (a1+1)) a2 a3 e6 else Zhe.l0 j a1 a2 a3 e6 else some a1
def Zhe (k:Nat) (a1:List Zcd):Option (Int):=Ya (Zhe.l0 k 0 a1 ((a1.length):Int) 0) fun y2=>some y2
def Zhe.con (k:Nat):Con:=Sig.con { ps:=[.val false (.sl Z5b) (ros (.sl Z5b))],rs:=[.val false [.v (.int .i64)]],ntmps:=19 } (fun x=>Zhe k x)
def Zhe.cok (k:Nat):=cX cN
def Zhe.l0.s (k:Nat):Summ:=lp 19 { tmps:=[(3,.one (.v (.int .i64))),(6,.one (.bor Z5b)),(7,.one (.v (.int .i64))),(8,.one (.v (.int .i64)))],slots:=[],nb:=0 } [(.exit 0,{ tmps:=[(3,.one (.v (.int .i64)))],slots:=[],nb:=0 })] (fun j x=>Zhe.l0 j x.1 x.2.1 x.2.2.1 x.2.2.2) k
def Zhe.l0.ok (k:Nat):=(lA (Zhe.cok k):Zj Yb _ (.loop (cO (cO (cR (cL (cR (cR (cB Tryz.f111)))))))) (Zhe.l0.s k))
theorem Zhe.ok (k:Nat):Zf Yb 111 (Zhe.con k):=fP (.two .auto (.two .auto (.two (.two .auto (.one (.sum (Zhe.l0.s k)))) .auto))) (Zhe.cok k) Tryz.func111 (sC (Zhe.l0.ok k) sN)
def Znl (a1:List Zcd):Option (Int):=some ((a1.length):Int)
def Znl.con (k:Nat):Con:=Sig.con { ps:=[.val false (.sl Z5b) (ros (.sl Z5b))],rs:=[.val false [.v (.int .i64)]],ntmps:=5 } (fun x=>Znl x)
theorem Znl.ok (k:Nat):Zf Yb 112 (Znl.con k):=fA (cX cN) Tryz.func112
def Ztn (k:Nat) (a1:G28):Option (Bool):=Ya (Zqh k a1) fun v2=>bif !v2.2.2.2.2.2.2.2.2 then some false else Ya (Zvd k a1) fun v3=>Ya (Zgp k v3) fun v4=>bif !v4 then some false else bif (v2.1==1)||(v2.1==2) then some true else Ya (Z8c k a1 (v2.1,(v2.2.1,(v2.2.2.1,(v2.2.2.2.1,(v2.2.2.2.2.1,(v2.2.2.2.2.2.1,(v2.2.2.2.2.2.2.1,v2.2.2.2.2.2.2.2.1)))))))) fun v5=>Ya (Zed k v5 a1.1) fun v6=>bif v6 != 0 then some false else Ya (Zmb k v5) fun v7=>Ya (Zhe k v7) fun v8=>bif decide (v8≤v2.2.2.2.1) then Ya (Znl v7) fun v9=>some (decide (v2.2.2.2.2.1≤v9)) else some false
def Ztn.con (k:Nat):Con:=Sig.con { ps:=[.val true T28 (ros T28)],rs:=[.val false [.v .bool]],ntmps:=50 } (fun x=>Ztn k x)
theorem Ztn.ok (k:Nat):Zf Yb 56 (Ztn.con k):=fA (cXr true false (cC (Zgp.ok k) (cC (Zvd.ok k) (cC (Zqh.ok k) (cC (Z8c.ok k) (cC (Zed.ok k) (cC (Zmb.ok k) (cC (Zhe.ok k) (cC (Znl.ok k) cN))))))))) Tryz.func56
def Zep (a1:G54):Option (Bool):=let e2:=(a1.2.2.2.2.1==0)&&((a1.2.2.2.2.2.1==0)&&((a1.2.2.2.2.2.2.1==0)&&(a1.2.2.2.2.2.2.2==[])));bif a1.1==1 then Ya (Zhb a1.2.1 1 20) fun v3=>Ya (Zhb a1.2.2.1 0 4) fun v4=>Ya (Zhb a1.1 1 11) fun v5=>some ((((v5&&v3)&&v4)&&(((a1.2.2.2.1.length):Int)==32))&&e2) else let e6:=a1.2.1==0;let e7:=a1.2.2.1==0;let e8:=a1.2.2.2.1==[];bif a1.1==2 then Ya (Zoc a1.2.2.2.2 8) fun v9=>Ya (Zhb a1.1 1 11) fun v10=>some ((((v10&&e6)&&e7)&&e8)&&v9) else bif a1.1==9 then Ya (Zhb a1.2.1 1 24) fun v11=>Ya (Zhb a1.1 1 11) fun v12=>some ((((v12&&v11)&&e7)&&e8)&&e2) else bif a1.1==7 then Ya (Zli a1.2.1) fun v13=>Ya (Zhb a1.1 1 11) fun v14=>some ((((v14&&v13)&&e7)&&e8)&&e2) else Ya (Zhb a1.1 1 11) fun v15=>some ((((v15&&e6)&&e7)&&e8)&&e2)
def Zep.con (k:Nat):Con:=Sig.con { ps:=[.val true T54 (ros T54)],rs:=[.val false [.v .bool]],ntmps:=64 } (fun x=>Zep x)
theorem Zep.ok (k:Nat):Zf Yb 60 (Zep.con k):=fA (cX (cC (Zhb.ok k) (cC (Zoc.ok k) (cC (Zli.ok k) cN)))) Tryz.func60
def Z6h (a:List Str):Option (List Str):=Ya (Zs 16 [] a) fun y=>some y
def Z6h.sig:Sig:={ ps:=[.val false (.sl .str) (ros (.sl .str))],rs:=[.val false [.own 9 .str]],ntmps:=8 }
def Z6h.con (k:Nat):Con:=Z6h.sig.con (fun x=>Z6h x)
theorem Z6h.ok (k:Nat):Zf Yb 205 (Z6h.con k):=
 Zey (e:=9) (C:={ ti:=TAB,con:=Zll [] }) (s:=Z6h.sig) (G:=fun x=>Z6h x) (Z8s Z1s trivial) Tryz.func205 (by kernel_rfl) rfl (by kernel_rfl) (by kernel_rfl) (by kernel_rfl) rfl rfl rfl rfl rfl rfl (by kernel_rfl) (by kernel_rfl)
  (fun x=>⟨_,_,.inl rfl⟩) (fun x y h=>Eq.trans (b:=Z6h x) (by kernel_rfl) h) (fun x y h hl=>by
   have e:x=([]:List Str):=hl .str x (.inl (by kernel_rfl));subst e;exact Eq.trans (b:=Z6h []) (by kernel_rfl) h)
def Zik (a:List Zq):Option (List Zq):=Ya (Zs 24 [] a) fun y=>some y
def Zik.sig:Sig:={ ps:=[.val false (.sl Zp) (ros (.sl Zp))],rs:=[.val false [.own 195 Zp]],ntmps:=8 }
def Zik.con (k:Nat):Con:=Zik.sig.con (fun x=>Zik x)
theorem Zik.ok (k:Nat):Zf Yb 224 (Zik.con k):=
 Zey (e:=195) (C:={ ti:=TAB,con:=Zll [] }) (s:=Zik.sig) (G:=fun x=>Zik x) (Z8s Z1s trivial) Tryz.func224 (by kernel_rfl) rfl (by kernel_rfl) (by kernel_rfl) (by kernel_rfl) rfl rfl rfl rfl rfl rfl (by kernel_rfl) (by kernel_rfl)
  (fun x=>⟨_,_,.inl rfl⟩) (fun x y h=>Eq.trans (b:=Zik x) (by kernel_rfl) h) (fun x y h hl=>by
   have e:x=([]:List Zq):=hl Zp x (.inl (by kernel_rfl));subst e;exact Eq.trans (b:=Zik []) (by kernel_rfl) h)
def Zap (a1:G26):Option (List Str×List Zq):=Ya (Z6h a1.1) fun v2=>Ya (Zik a1.2) fun v3=>some (v2,v3)
def Zap.con (k:Nat):Con:=Sig.con { ps:=[.val true T26 (ros T26)],rs:=[.val true [.own 9 .str,.own 195 Zp]],ntmps:=10 } (fun x=>Zap x)
theorem Zap.ok (k:Nat):Zf Yb 141 (Zap.con k):=fA (cXr true false (cC (Z6h.ok k) (cC (Zik.ok k) cN))) Tryz.func141
def Zpf.l0:Nat→Int→Int→List Zq→List Str→Option ((List Str×List Zq))
 | 0,_,_,_,_=>none
 | j+1,a1,a2,a3,a4=>bif decide (a2<a1) then Ya (at? a3 a2) fun v5=>Ya (at? a3 a2) fun v6=>let e7:=at? a4 v6.1;Ya (e7) fun v8=>Ya (e7) fun v9=>Zpf.l0 j a1 (Yc .i64 (a2+1)) a3 (Yf a4 (Ye v6.1) v6.2) else some (a4,a3)
def Zpf (k:Nat) (a1:G26):Option (List Str×List Zq):=Ya (Zpf.l0 k ((a1.2.length):Int) 0 a1.2 a1.1) fun y2=>some (y2.1,[])
def Zpf.con (k:Nat):Con:=Sig.con { ps:=[.ref 26 T26 [.own 9,.own 195]],rs:=[],ntmps:=26 } (fun x=>Zpf k x)
def Zpf.cok (k:Nat):=cX cN
def Zpf.l0.s (k:Nat):Summ:=lp 26 { tmps:=[(0,.one (.ptr 0 0)),(7,.one (.own 3)),(8,.one (.v (.int .i64))),(9,.one (.v (.int .i64)))],slots:=[(0,.box 26 [.own 4,.own 3]),(3,.arr false 195 Zp),(4,.arr false 9 .str)],nb:=5 } [(.exit 0,{ tmps:=[],slots:=[(0,.box 26 [.own 5,.own 6]),(5,.arr false 9 .str),(6,.arr false 195 Zp)],nb:=7 })] (fun j x=>Zpf.l0 j x.1 x.2.1 x.2.2.1 x.2.2.2) k
def Zpf.l0.ok (k:Nat):=(lA (Zpf.cok k):Zj Yb _ (.loop (cO (cO (cR (cL (cB Tryz.f142)))))) (Zpf.l0.s k))
theorem Zpf.ok (k:Nat):Zf Yb 142 (Zpf.con k):=fP (.two (.two .auto (.one (.sum (Zpf.l0.s k)))) .auto) (Zpf.cok k) Tryz.func142 (sC (Zpf.l0.ok k) sN)
def Z3o (k:Nat) (a1:G26) (a2:Int) (a3:Str):Option (List Str×List Zq):=Ya (Ztk k a1 a2) fun v4=>bif decide (0≤v4) then let e5:=at? a1.2 v4;Ya (e5) fun v6=>Ya (e5) fun v7=>some (a1.1,Yf a1.2 (Ye v4) (v7.1,a3)) else Ya (Zs 24 a1.2 [(a2,a3)]) fun v8=>some (a1.1,v8)
def Z3o.con (k:Nat):Con:=Sig.con { ps:=[.ref 26 T26 [.own 9,.own 195],.val false (.int .i64) (ros (.int .i64)),.val false .str (ros .str)],rs:=[],ntmps:=34 } (fun x=>Z3o k x.1 x.2.1 x.2.2)
theorem Z3o.ok (k:Nat):Zf Yb 143 (Z3o.con k):=fA (cX (cC (Ztk.ok k) cN)) Tryz.func143
def Z5e.l0 (k:Nat):Nat→List Zlc→Int→Int→List Str→List Zq→Option ((List Str×List Zq))
 | 0,_,_,_,_,_=>none
 | j+1,a1,a2,a3,a4,a5=>bif decide (a3<a2) then Ya (at? a1 a3) fun v6=>let e7:=Yc .i64 (a3+1);bif v6.1 then Ya (Zpf k (a4,a5)) fun v8=>Z5e.l0 k j a1 a2 e7 v8.1 v8.2 else Ya (Z3o k (a4,a5) v6.2.1 v6.2.2) fun v9=>Z5e.l0 k j a1 a2 e7 v9.1 v9.2 else some (a4,a5)
def Z5e (k:Nat) (a1:G26) (a2:List Zlc):Option (List Str×List Zq):=Ya (Zap a1) fun v3=>Ya (Z5e.l0 k k a2 ((a2.length):Int) 0 v3.1 v3.2) fun y4=>some (y4.1,y4.2)
def Z5e.con (k:Nat):Con:=Sig.con { ps:=[.val true T26 (ros T26),.val false (.sl Z6b) (ros (.sl Z6b))],rs:=[.val true [.own 9 .str,.own 195 Zp]],ntmps:=26 } (fun x=>Z5e k x.1 x.2)
def Z5e.cok (k:Nat):=cXr true false (cC (Zap.ok k) (cC (Zpf.ok k) (cC (Z3o.ok k) cN)))
def Z5e.l0.s (k:Nat):Summ:=lp 26 { tmps:=[(5,.one (.ptr 3 0)),(10,.one (.bor Z6b)),(11,.one (.v (.int .i64))),(12,.one (.v (.int .i64)))],slots:=[(3,.box 26 [.own 4,.own 5]),(4,.arr false 9 .str),(5,.arr false 195 Zp)],nb:=6 } [(.exit 0,{ tmps:=[],slots:=[(3,.box 26 [.own 6,.own 7]),(6,.arr false 9 .str),(7,.arr false 195 Zp)],nb:=8 })] (fun j x=>Z5e.l0 k j x.1 x.2.1 x.2.2.1 x.2.2.2.1 x.2.2.2.2) k
def Z5e.l0.ok (k:Nat):=(lA (Z5e.cok k):Zj Yb _ (.loop (cO (cO (cR (cL (cR (cR (cB Tryz.f63)))))))) (Z5e.l0.s k))
theorem Z5e.ok (k:Nat):Zf Yb 63 (Z5e.con k):=fP (.two .auto (.two .auto (.two (.two .auto (.one (.sum (Z5e.l0.s k)))) .auto))) (Z5e.cok k) Tryz.func63 (sC (Z5e.l0.ok k) sN)
def Z0r (a1:List Zlc):Option (Int):=some ((a1.length):Int)
def Z0r.con (k:Nat):Con:=Sig.con { ps:=[.val false (.sl Z6b) (ros (.sl Z6b))],rs:=[.val false [.v (.int .i64)]],ntmps:=5 } (fun x=>Z0r x)
theorem Z0r.ok (k:Nat):Zf Yb 126 (Z0r.con k):=fA (cX cN) Tryz.func126
def Zwn (a1:Str) (a2:Str) (a3:Int):Option (Str):=bif decide (a3<1) then some a1 else bif a3==1 then some a2 else Ya (Zob a2 0 (Zaj (Yc .i64 (a3-2)) ((a2.length):Int))) fun v4=>some v4
def Zwn.con (k:Nat):Con:=Sig.con { ps:=[.val false .str (ros .str),.val false .str (ros .str),.val false (.int .i64) (ros (.int .i64))],rs:=[.val false [.v .str]],ntmps:=22 } (fun x=>Zwn x.1 x.2.1 x.2.2)
theorem Zwn.ok (k:Nat):Zf Yb 218 (Zwn.con k):=fA (cX cN) Tryz.func218
def Zee.l0:Nat→List Int→Int→Int→List Zq→List Str→Option ((List Str×List Zq))
 | 0,_,_,_,_,_=>none
 | j+1,a1,a2,a3,a4,a5=>bif decide (a3<a2) then Ya (at? a4 a3) fun v6=>Ya (at? a4 a3) fun v7=>let e8:=Yc .i64 (a3+1);let e9:=at? a5 v7.1;bif decide (a3<((a1.length):Int)) then Ya (at? a1 a3) fun v10=>Ya (e9) fun v11=>Ya (e9) fun v12=>Ya (Zwn v12 v7.2 v10) fun v13=>Ya (e9) fun v14=>Ya (e9) fun v15=>Zee.l0 j a1 a2 e8 a4 (Yf a5 (Ye v7.1) v13) else Ya (e9) fun v16=>Ya (e9) fun v17=>Ya (Zwn v17 v7.2 0) fun v18=>Ya (e9) fun v19=>Ya (e9) fun v20=>Zee.l0 j a1 a2 e8 a4 (Yf a5 (Ye v7.1) v18) else some (a5,a4)
def Zee (k:Nat) (a1:G26) (a2:List Int):Option (List Str×List Zq):=Ya (Zee.l0 k a2 ((a1.2.length):Int) 0 a1.2 a1.1) fun y3=>some (y3.1,[])
def Zee.con (k:Nat):Con:=Sig.con { ps:=[.ref 26 T26 [.own 9,.own 195],.val false (.sl (.int .i64)) (ros (.sl (.int .i64)))],rs:=[],ntmps:=48 } (fun x=>Zee k x.1 x.2)
def Zee.cok (k:Nat):=cX (cC (Zwn.ok k) cN)
def Zee.l0.s (k:Nat):Summ:=lp 48 { tmps:=[(0,.one (.ptr 0 0)),(1,.one (.bor (.int .i64))),(10,.one (.own 3)),(11,.one (.v (.int .i64))),(12,.one (.v (.int .i64)))],slots:=[(0,.box 26 [.own 4,.own 3]),(3,.arr false 195 Zp),(4,.arr false 9 .str)],nb:=5 } [(.exit 0,{ tmps:=[],slots:=[(0,.box 26 [.own 5,.own 6]),(5,.arr false 9 .str),(6,.arr false 195 Zp)],nb:=7 })] (fun j x=>Zee.l0 j x.1 x.2.1 x.2.2.1 x.2.2.2.1 x.2.2.2.2) k
def Zee.l0.ok (k:Nat):=(lA (Zee.cok k):Zj Yb _ (.loop (cO (cO (cR (cL (cB Tryz.f127)))))) (Zee.l0.s k))
theorem Zee.ok (k:Nat):Zf Yb 127 (Zee.con k):=fP (.two (.two .auto (.one (.sum (Zee.l0.s k)))) .auto) (Zee.cok k) Tryz.func127 (sC (Zee.l0.ok k) sN)
def Z4o (k:Nat) (a1:G28) (a2:List Zlc) (a3:Int) (a4:List Int):Option (Int×List Str×List Zq):=Ya (Z0r a2) fun v5=>Ya (Zob a2 0 (Zaj a3 v5)) fun v6=>Ya (Z5e k a1.2 v6) fun v7=>Ya (Zee k v7 a4) fun v8=>some (a1.1,v8.1,v8.2)
def Z4o.con (k:Nat):Con:=Sig.con { ps:=[.val true T28 (ros T28),.val false (.sl Z6b) (ros (.sl Z6b)),.val false (.int .i64) (ros (.int .i64)),.val false (.sl (.int .i64)) (ros (.sl (.int .i64)))],rs:=[.val true [.v (.int .i64),.own 9 .str,.own 195 Zp]],ntmps:=25 } (fun x=>Z4o k x.1 x.2.1 x.2.2.1 x.2.2.2)
theorem Z4o.ok (k:Nat):Zf Yb 61 (Z4o.con k):=fA (cXr true false (cC (Z5e.ok k) (cC (Z0r.ok k) (cC (Zee.ok k) cN)))) Tryz.func61
def Zrf.l0:Nat→Str→Int→Int→List Int→Option ((List Int))
 | 0,_,_,_,_=>none
 | j+1,a1,a2,a3,a4=>bif decide (a3<a2) then Ya (at? a4 a3) fun v5=>Ya (at? a4 a3) fun v6=>Ya (at? a1 a3) fun v7=>Ya (at? a4 a3) fun v8=>Ya (at? a4 a3) fun v9=>Zrf.l0 j a1 a2 (Yc .i64 (a3+1)) (Yf a4 (Ye a3) (intBits .xor .u8 v6 (v7.toNat:Int))) else some a4
def Zrf (k:Nat) (a1:Str) (a2:Str):Option (Str):=Ya (Z0w (a1.length) 1) fun v3=>Ya (Zrf.l0 k a2 (((Zgb a1).length):Int) 0 (Zgb a1)) fun y4=>some (Znb y4)
def Zrf.con (k:Nat):Con:=Sig.con { ps:=[.val false .str (ros .str),.val false .str (ros .str)],rs:=[.val false [.v .str]],ntmps:=26 } (fun x=>Zrf k x.1 x.2)
def Zrf.cok (k:Nat):=cX cN
def Zrf.l0.s (k:Nat):Summ:=lp 26 { tmps:=[(1,.one (.v .str)),(5,.one (.own 1)),(10,.one (.v (.int .i64))),(11,.one (.v (.int .i64)))],slots:=[(1,.arr true 5 (.int .u8))],nb:=2 } [(.exit 0,{ tmps:=[(5,.one (.own 2))],slots:=[(2,.arr true 5 (.int .u8))],nb:=3 })] (fun j x=>Zrf.l0 j x.1 x.2.1 x.2.2.1 x.2.2.2) k
def Zrf.l0.ok (k:Nat):=(lA (Zrf.cok k):Zj Yb _ (.loop (cO (cO (cR (cL (cR (cR (cB Tryz.f264)))))))) (Zrf.l0.s k))
theorem Zrf.ok (k:Nat):Zf Yb 264 (Zrf.con k):=fP (.two .auto (.two .auto (.two (.two .auto (.one (.sum (Zrf.l0.s k)))) .auto))) (Zrf.cok k) Tryz.func264 (sC (Zrf.l0.ok k) sN)
def Zrm (k:Nat) (a1:G52) (a2:Str):Option (Str):=bif a1.1==1 then some ([0,0,0,0,0,0,0,0]:Str) else bif a1.1==2 then some a1.2.2.2 else bif a1.1==3 then some a2 else Ya (Zrf k a2 a1.2.2.2) fun v3=>some v3
def Zrm.con (k:Nat):Con:=Sig.con { ps:=[.val true T52 (ros T52),.val false .str (ros .str)],rs:=[.val false [.v .str]],ntmps:=20 } (fun x=>Zrm k x.1 x.2)
theorem Zrm.ok (k:Nat):Zf Yb 206 (Zrm.con k):=fA (cX (cC (Zrf.ok k) cN)) Tryz.func206
def Zse.l0 (k:Nat):Nat→List Str→List G52→Int→Int→List Str→Option ((List Str))
 | 0,_,_,_,_,_=>none
 | j+1,a1,a2,a3,a4,a5=>bif decide (a4<a3) then Ya (at? a2 a4) fun v6=>Ya (at? a1 v6.2.2.1) fun v7=>Ya (Zrm k v6 v7) fun v8=>let e9:=at? a5 v6.2.1;Ya (e9) fun v10=>Ya (e9) fun v11=>Zse.l0 k j a1 a2 a3 (Yc .i64 (a4+1)) (Yf a5 (Ye v6.2.1) v8) else some a5
def Zse (k:Nat) (a1:List Str) (a2:List G52):Option (List Str):=Ya (Z6h a1) fun v3=>Ya (Zfj k a2) fun v4=>Ya (Zse.l0 k k a1 v4 ((v4.length):Int) 0 v3) fun y5=>some y5
def Zse.con (k:Nat):Con:=Sig.con { ps:=[.val false (.sl .str) (ros (.sl .str)),.val false (.sl T52) (ros (.sl T52))],rs:=[.val false [.own 9 .str]],ntmps:=30 } (fun x=>Zse k x.1 x.2)
def Zse.cok (k:Nat):=cX (cC (Zfj.ok k) (cC (Z6h.ok k) (cC (Zrm.ok k) cN)))
def Zse.l0.s (k:Nat):Summ:=lp 30 { tmps:=[(0,.one (.bor .str)),(5,.one (.own 1)),(11,.one (.v (.sl T52))),(12,.one (.v (.int .i64))),(13,.one (.v (.int .i64)))],slots:=[(1,.arr false 9 .str)],nb:=2 } [(.exit 0,{ tmps:=[(5,.one (.own 2))],slots:=[(2,.arr false 9 .str)],nb:=3 })] (fun j x=>Zse.l0 k j x.1 x.2.1 x.2.2.1 x.2.2.2.1 x.2.2.2.2) k
def Zse.l0.ok (k:Nat):=(lA (Zse.cok k):Zj Yb _ (.loop (cO (cO (cR (cL (cR (cR (cB Tryz.f113)))))))) (Zse.l0.s k))
theorem Zse.ok (k:Nat):Zf Yb 113 (Zse.con k):=fP (.two .auto (.two .auto (.two (.two .auto (.one (.sum (Zse.l0.s k)))) .auto))) (Zse.cok k) Tryz.func113 (sC (Zse.l0.ok k) sN)
def Z8o (a1:Zcd) (a2:Int):Option (Bool):=some ((a1.1==2)&&(a1.2.2.1==a2))
def Z8o.con (k:Nat):Con:=Sig.con { ps:=[.val true Z5b (ros Z5b),.rptr (.int .i64)],rs:=[.val false [.v .bool]],ntmps:=13 } (fun x=>Z8o x.1 x.2)
theorem Z8o.ok (k:Nat):Zf Yb 116 (Z8o.con k):=fA (cX cN) Tryz.func116
def Z0d.l0:Nat→List Zcd→Int→Int→Int→Option (Int ⊕ (Int×Int))
 | 0,_,_,_,_=>none
 | j+1,a1,a2,a3,a4=>bif decide (a3<a2) then Ya (at? a1 a3) fun v5=>Ya (Z8o v5 a4) fun v6=>bif v6 then some (.inr (a3,a4)) else Z0d.l0 j a1 a2 (Yc .i64 (a3+1)) a4 else some (.inl a4)
def Z0d (k:Nat) (a1:List Zcd) (a2:Int):Option (Int×Int):=Ya (Z0d.l0 k a1 ((a1.length):Int) 0 a2) fun
  | .inl y3=>some ((-1),y3)
  | .inr y4=>some (y4.1,y4.2)
def Z0d.con (k:Nat):Con:=Sig.con { ps:=[.val false (.sl Z5b) (ros (.sl Z5b)),.fn 116 [(2,(.int .i64),(Zzg (.int .i64)))]],rs:=[.val false [.v (.int .i64)]],ntmps:=19 } (fun x=>Z0d k x.1 x.2)
def Z0d.cok (k:Nat):=cX (cC (Z8o.ok k) cN)
def Z0d.l0.s (k:Nat):Summ:=lp 19 { tmps:=[(0,.one (.bor Z5b)),(1,.fn 116 [.ptr 0 0]),(7,.one (.v (.int .i64))),(8,.one (.v (.int .i64)))],slots:=[(0,.box 2 [.v (.int .i64)])],nb:=1 } [(.exit 0,{ tmps:=[],slots:=[(0,.box 2 [.v (.int .i64)])],nb:=1 }),(.ret,{ tmps:=[(4,.one (.v (.int .i64)))],slots:=[(0,.box 2 [.v (.int .i64)])],nb:=1 })] (fun j x=>Z0d.l0 j x.1 x.2.1 x.2.2.1 x.2.2.2) k
def Z0d.l0.ok (k:Nat):=(lA (Z0d.cok k):Zj Yb _ (.loop (cO (cO (cR (cL (cR (cB Tryz.f207))))))) (Z0d.l0.s k))
theorem Z0d.ok (k:Nat):Zf Yb 207 (Z0d.con k):=fP (.two .auto (.two (.two .auto (.one (.sum (Z0d.l0.s k)))) .auto)) (Z0d.cok k) Tryz.func207 (sC (Z0d.l0.ok k) sN)
def Zhq (k:Nat) (a1:List Zcd) (a2:Int):Option (Bool×Int):=Ya (Z0d k a1 a2) fun v3=>some (decide (0≤v3.1),v3.2)
def Zhq.con (k:Nat):Con:=Sig.con { ps:=[.val false (.sl Z5b) (ros (.sl Z5b)),.fn 116 [(2,(.int .i64),(Zzg (.int .i64)))]],rs:=[.val false [.v .bool]],ntmps:=9 } (fun x=>Zhq k x.1 x.2)
theorem Zhq.ok (k:Nat):Zf Yb 115 (Zhq.con k):=fA (cX (cC (Z0d.ok k) cN)) Tryz.func115
def Z7o (k:Nat) (a1:Int) (a2:List Zcd) (a3:G46):Option (Bool):=Ya (Zob a2 0 a3.2.2.2.2.1) fun v4=>Ya (Zhq k v4 a1) fun v5=>some v5.1
def Z7o.con (k:Nat):Con:=Sig.con { ps:=[.val false (.int .i64) (ros (.int .i64)),.rptr (.sl Z5b),.rptr T46],rs:=[.val false [.v .bool]],ntmps:=11 } (fun x=>Z7o k x.1 x.2.1 x.2.2)
theorem Z7o.ok (k:Nat):Zf Yb 114 (Z7o.con k):=fA (cX (cC (Zhq.ok k) cN)) Tryz.func114
def Zrd.l0:Nat→Int→List Zcd→Int→Int→Option (Unit ⊕ Int)
 | 0,_,_,_,_=>none
 | j+1,a1,a2,a3,a4=>bif decide (a4<a3) then Ya (at? a2 a4) fun v5=>bif (v5.1==1)&&(v5.2.2.1==a1) then some (.inr (v5.2.2.2)) else Zrd.l0 j a1 a2 a3 (Yc .i64 (a4+1)) else some (.inl ())
def Zrd (k:Nat) (a1:List Zcd) (a2:Int) (a3:Int):Option (Int):=Ya (Zob a1 0 a2) fun v4=>Ya (Zrd.l0 k a3 v4 ((v4.length):Int) 0) fun
  | .inl y5=>some (-1)
  | .inr y6=>some y6
def Zrd.con (k:Nat):Con:=Sig.con { ps:=[.val false (.sl Z5b) (ros (.sl Z5b)),.val false (.int .i64) (ros (.int .i64)),.val false (.int .i64) (ros (.int .i64))],rs:=[.val false [.v (.int .i64)]],ntmps:=29 } (fun x=>Zrd k x.1 x.2.1 x.2.2)
def Zrd.cok (k:Nat):=cX cN
def Zrd.l0.s (k:Nat):Summ:=lp 29 { tmps:=[(2,.one (.v (.int .i64))),(11,.one (.bor Z5b)),(12,.one (.v (.int .i64))),(13,.one (.v (.int .i64)))],slots:=[],nb:=0 } [(.exit 0,{ tmps:=[],slots:=[],nb:=0 }),(.ret,{ tmps:=[(6,.one (.v (.int .i64)))],slots:=[],nb:=0 })] (fun j x=>Zrd.l0 j x.1 x.2.1 x.2.2.1 x.2.2.2) k
def Zrd.l0.ok (k:Nat):=(lA (Zrd.cok k):Zj Yb _ (.loop (cO (cO (cR (cL (cR (cB Tryz.f211))))))) (Zrd.l0.s k))
theorem Zrd.ok (k:Nat):Zf Yb 211 (Zrd.con k):=fP (.two .auto (.two (.two .auto (.one (.sum (Zrd.l0.s k)))) .auto)) (Zrd.cok k) Tryz.func211 (sC (Zrd.l0.ok k) sN)
def Zbg.j0 (k:Nat) (a1:List Zcd) (a2:Int) (a3:List Str) (a4:List Zq) (a5:Int) (a6:Int) (a7:Int) (a8:Int) (a9:Int) (a10:Str) (a11:List Int) (a12:List Int) (a13:Str) (a14:Int) (a15:Int) (a16:Int) (a17:Str):Option ((Str×Int×Int×Int×Str)):=bif (a14==3)||(a14==4) then Ya (Zag k (a3,a4) (Yc .i64 (3+a16))) fun v18=>Ya (Zrd k a1 a9 a16) fun v19=>bif decide (0≤v19) then Ya (at? a12 v19) fun v20=>Ya (Zbj k (a2,(a3,a4)) v20) fun v21=>some (v21,a14,a15,a16,a17) else some (v18,a14,a15,a16,a17) else some (a13,a14,a15,a16,a17)
def Zbg (k:Nat) (a1:G28) (a2:G46) (a3:List Zcd) (a4:G52):Option (Str):=Ya (Zbg.j0 k a3 a1.1 a1.2.1 a1.2.2 a2.1 a2.2.1 a2.2.2.1 a2.2.2.2.1 a2.2.2.2.2.1 a2.2.2.2.2.2.1 a2.2.2.2.2.2.2.1 a2.2.2.2.2.2.2.2 [] a4.1 a4.2.1 a4.2.2.1 a4.2.2.2) fun y5=>bif (y5.2.1==4)&&(((y5.1.length):Int) != 8) then some ([]) else Ya (Zrm k y5.2 y5.1) fun v6=>some v6
def Zbg.con (k:Nat):Con:=Sig.con { ps:=[.val true T28 (ros T28),.val true T46 (ros T46),.val false (.sl Z5b) (ros (.sl Z5b)),.val true T52 (ros T52)],rs:=[.val false [.v .str]],ntmps:=51 } (fun x=>Zbg k x.1 x.2.1 x.2.2.1 x.2.2.2)
def Zbg.cok (k:Nat):=cXr true false (cC (Zag.ok k) (cC (Zbj.ok k) (cC (Zrm.ok k) (cC (Zrd.ok k) cN))))
def Zbg.j0.s (k:Nat):Summ:=lq 51 { tmps:=[(2,.one (.bor Z5b)),(4,.eptr [.v (.int .i64),.bor .str,.bor Zp]),(5,.eptr [.v (.int .i64),.v (.int .i64),.v (.int .i64),.v (.int .i64),.v (.int .i64),.v .str,.bor (.int .i64),.bor (.int .i64)]),(7,.one (.ptr 0 0)),(9,.one (.v .str))],slots:=[(0,.box 52 [.v (.int .i64),.v (.int .i64),.v (.int .i64),.v .str])],nb:=1 } [(.nrm,{ tmps:=[(9,.one (.v .str))],slots:=[(0,.box 52 [.v (.int .i64),.v (.int .i64),.v (.int .i64),.v .str])],nb:=1 })] (fun x=>Zbg.j0 k x.1 x.2.1 x.2.2.1 x.2.2.2.1 x.2.2.2.2.1 x.2.2.2.2.2.1 x.2.2.2.2.2.2.1 x.2.2.2.2.2.2.2.1 x.2.2.2.2.2.2.2.2.1 x.2.2.2.2.2.2.2.2.2.1 x.2.2.2.2.2.2.2.2.2.2.1 x.2.2.2.2.2.2.2.2.2.2.2.1 x.2.2.2.2.2.2.2.2.2.2.2.2.1 x.2.2.2.2.2.2.2.2.2.2.2.2.2.1 x.2.2.2.2.2.2.2.2.2.2.2.2.2.2.1 x.2.2.2.2.2.2.2.2.2.2.2.2.2.2.2.1 x.2.2.2.2.2.2.2.2.2.2.2.2.2.2.2.2)
def Zbg.j0.ok (k:Nat):=(jA (Zbg.cok k):Zj Yb _ (cL (cR (cR (cB Tryz.f118)))) (Zbg.j0.s k))
theorem Zbg.ok (k:Nat):Zf Yb 118 (Zbg.con k):=fP (.two .auto (.two .auto (.two (.sum (Zbg.j0.s k)) .auto))) (Zbg.cok k) Tryz.func118 (sC (Zbg.j0.ok k) sN)
def Zqe.l0 (k:Nat):Nat→Int→List Str→List Zq→List G52→Int→Int→Int→Int→Int→Int→Int→Str→List Str→List Int→List Int→List Zcd→Option ((Int×Int×Int×Int×Int×Str×List Str×List Int×List Int×List Zcd))
 | 0,_,_,_,_,_,_,_,_,_,_,_,_,_,_,_,_=>none
 | j+1,a1,a2,a3,a4,a5,a6,a7,a8,a9,a10,a11,a12,a13,a14,a15,a16=>bif decide (a6<a5) then Ya (at? a4 a6) fun v17=>let e18:=(a7,(a8,(a9,(a10,(a11,(a12,(a14,a15)))))));Ya (Z7o k v17.2.1 a16 e18) fun v19=>let e20:=Yc .i64 (a6+1);bif !v19 then Ya (Zbg k (a1,(a2,a3)) e18 a16 v17) fun v21=>let e22:=at? a13 v17.2.1;Ya (e22) fun v23=>Ya (e22) fun v24=>Zqe.l0 k j a1 a2 a3 a4 a5 e20 a7 a8 a9 a10 a11 a12 (Yf a13 (Ye v17.2.1) v21) a14 a15 a16 else Zqe.l0 k j a1 a2 a3 a4 a5 e20 a7 a8 a9 a10 a11 a12 a13 a14 a15 a16 else some (a7,a8,a9,a10,a11,a12,a13,a14,a15,a16)
def Zqe (k:Nat) (a1:G28):Option (List Str):=Ya (Zqh k a1) fun v2=>Ya (Zvd k a1) fun v3=>Ya (Z8c k a1 (v2.1,(v2.2.1,(v2.2.2.1,(v2.2.2.2.1,(v2.2.2.2.2.1,(v2.2.2.2.2.2.1,(v2.2.2.2.2.2.2.1,v2.2.2.2.2.2.2.2.1)))))))) fun v4=>bif v2.1==4 then Ya (Zse k v3 v4) fun v5=>some v5 else bif v2.1==5 then Ya (Zmb k v4) fun v6=>Ya (Zfj k v4) fun v7=>Ya (Zqe.l0 k k a1.1 a1.2.1 a1.2.2 v7 ((v7.length):Int) 0 v2.1 v2.2.1 v2.2.2.1 v2.2.2.2.1 v2.2.2.2.2.1 v2.2.2.2.2.2.1 v3 v2.2.2.2.2.2.2.1 v2.2.2.2.2.2.2.2.1 v6) fun y8=>some y8.2.2.2.2.2.2.1 else some v3
def Zqe.con (k:Nat):Con:=Sig.con { ps:=[.val true T28 (ros T28)],rs:=[.val false [.own 9 .str]],ntmps:=56 } (fun x=>Zqe k x)
def Zqe.cok (k:Nat):=cXr true false (cC (Zvd.ok k) (cC (Zqh.ok k) (cC (Z8c.ok k) (cC (Zmb.ok k) (cC (Zse.ok k) (cC (Z7o.ok k) (cC (Zfj.ok k) (cC (Zbg.ok k) cN))))))))
def Zqe.l0.s (k:Nat):Summ:=lp 56 { tmps:=[(1,.eptr [.v (.int .i64),.bor .str,.bor Zp]),(3,.one (.ptr 2 0)),(5,.one (.own 7)),(7,.one (.ptr 6 0)),(8,.fn 114 [.ptr 6 0,.ptr 2 0]),(34,.one (.v (.sl T52))),(35,.one (.v (.int .i64))),(36,.one (.v (.int .i64)))],slots:=[(2,.box 46 [.v (.int .i64),.v (.int .i64),.v (.int .i64),.v (.int .i64),.v (.int .i64),.v .str,.own 8,.own 9]),(6,.box 98 [.own 10]),(7,.arr false 9 .str),(8,.arr false 2 (.int .i64)),(9,.arr false 2 (.int .i64)),(10,.arr false 139 Z5b)],nb:=11 } [(.exit 1,{ tmps:=[(5,.one (.own 11))],slots:=[(2,.box 46 [.v (.int .i64),.v (.int .i64),.v (.int .i64),.v (.int .i64),.v (.int .i64),.v .str,.own 12,.own 13]),(6,.box 98 [.own 14]),(11,.arr false 9 .str),(12,.arr false 2 (.int .i64)),(13,.arr false 2 (.int .i64)),(14,.arr false 139 Z5b)],nb:=15 })] (fun j x=>Zqe.l0 k j x.1 x.2.1 x.2.2.1 x.2.2.2.1 x.2.2.2.2.1 x.2.2.2.2.2.1 x.2.2.2.2.2.2.1 x.2.2.2.2.2.2.2.1 x.2.2.2.2.2.2.2.2.1 x.2.2.2.2.2.2.2.2.2.1 x.2.2.2.2.2.2.2.2.2.2.1 x.2.2.2.2.2.2.2.2.2.2.2.1 x.2.2.2.2.2.2.2.2.2.2.2.2.1 x.2.2.2.2.2.2.2.2.2.2.2.2.2.1 x.2.2.2.2.2.2.2.2.2.2.2.2.2.2.1 x.2.2.2.2.2.2.2.2.2.2.2.2.2.2.2) k
def Zqe.l0.ok (k:Nat):=(lA (Zqe.cok k):Zj Yb _ (.loop (cO (cO (cR (cR (cR (cL (cR (cR (cR (cO (cR (cL (cR (cR (cR (cB Tryz.f57))))))))))))))))) (Zqe.l0.s k))
theorem Zqe.ok (k:Nat):Zf Yb 57 (Zqe.con k):=fP (.two .auto (.two .auto (.two .auto (.two (.two .auto (.one (.two .auto (.two .auto (.two .auto (.two (.two .auto (.two .auto (.two .auto (.one (.sum (Zqe.l0.s k)))))) .auto)))))) .auto)))) (Zqe.cok k) Tryz.func57 (sC (Zqe.l0.ok k) sN)
def Zfc.j0 (a1:Int) (a2:Int):Option (Int):=bif decide (a1<0) then some (intBits .xor .u64 (Yn .u64) a2) else some a2
def Zfc.l1:Nat→Int→List Int→Option ((Int×List Int))
 | 0,_,_=>none
 | j+1,a1,a2=>bif decide (127<a1) then Ya (Zs 1 a2 [(intBits .or .u8 (Yc .u8 a1) 128)]) fun v3=>Ya (Zwb 7) fun v4=>Zfc.l1 j (shr .u64 a1 7) v3 else some (a1,a2)
def Zfc (k:Nat) (a1:Int):Option (Str):=Ya (Zwb 1) fun v2=>Ya (Zfc.j0 a1 (shl .u64 (Yc .u64 a1) 1)) fun y3=>Ya (Zfc.l1 k y3 []) fun y4=>Ya (Zs 1 y4.2 [(Yc .u8 y4.1)]) fun v5=>some (Znb v5)
def Zfc.con (k:Nat):Con:=Sig.con { ps:=[.val false (.int .i64) (ros (.int .i64))],rs:=[.val false [.v .str]],ntmps:=28 } (fun x=>Zfc k x)
def Zfc.cok (k:Nat):=cX cN
def Zfc.j0.s (k:Nat):Summ:=lq 28 { tmps:=[(0,.one (.v (.int .i64))),(3,.one (.v (.int .u64)))],slots:=[],nb:=0 } [(.nrm,{ tmps:=[(3,.one (.v (.int .u64)))],slots:=[],nb:=0 })] (fun x=>Zfc.j0 x.1 x.2)
def Zfc.j0.ok (k:Nat):=(jA (Zfc.cok k):Zj Yb _ (cL (cR (cR (cB Yw)))) (Zfc.j0.s k))
def Zfc.l1.s (k:Nat):Summ:=lp 28 { tmps:=[(3,.one (.v (.int .u64))),(4,.one (.own 0))],slots:=[(0,.arr false 5 (.int .u8))],nb:=1 } [(.exit 0,{ tmps:=[(3,.one (.v (.int .u64))),(4,.one (.own 1))],slots:=[(1,.arr false 5 (.int .u8))],nb:=2 })] (fun j x=>Zfc.l1 j x.1 x.2) k
def Zfc.l1.ok (k:Nat):=(lA (Zfc.cok k):Zj Yb _ (.loop (cO (cO (cL (cR (cR (cR (cR (cB Yw))))))))) (Zfc.l1.s k))
theorem Zfc.ok (k:Nat):Zf Yb 255 (Zfc.con k):=fP (.two .auto (.two .auto (.two (.sum (Zfc.j0.s k)) (.two .auto (.two (.one (.sum (Zfc.l1.s k))) .auto))))) (Zfc.cok k) Tryz.func255 (sC (Zfc.j0.ok k) (sC (Zfc.l1.ok k) sN))
def Zcj (k:Nat) (a1:Str):Option (Str):=Ya (Zfc k ((a1.length):Int)) fun v2=>Ya (Zqc v2 a1) fun v3=>some v3
def Zcj.con (k:Nat):Con:=Sig.con { ps:=[.val false .str (ros .str)],rs:=[.val false [.v .str]],ntmps:=8 } (fun x=>Zcj k x)
theorem Zcj.ok (k:Nat):Zf Yb 187 (Zcj.con k):=fA (cX (cC (Zfc.ok k) cN)) Tryz.func187
def Zun (k:Nat) (a1:Int) (a2:Str):Option (Str):=Ya (Zfc k a1) fun v3=>Ya (Zcj k a2) fun v4=>Ya (Zqc v3 v4) fun v5=>Ya (Zdj k v5) fun v6=>some v6
def Zun.con (k:Nat):Con:=Sig.con { ps:=[.val false (.int .i64) (ros (.int .i64)),.val false .str (ros .str)],rs:=[.val false [.v .str]],ntmps:=11 } (fun x=>Zun k x.1 x.2)
theorem Zun.ok (k:Nat):Zf Yb 185 (Zun.con k):=fA (cX (cC (Zcj.ok k) (cC (Zdj.ok k) (cC (Zfc.ok k) cN)))) Tryz.func185
def Zjp (k:Nat) (a1:G26) (a2:Str):Option (List Zlc):=Ya (Z1c k a1) fun v3=>let e4:=Yc .i64 (v3.1+1);bif decide (1000000<e4) then some ([]) else let e5:=(true,(0,[]));bif v3.2.2.2==0 then Ya (Zun k e4 a2) fun v6=>some ([(false,(1,v6)),e5]) else Ya (Zun k e4 a2) fun v7=>some ([(false,(0,v7)),e5])
def Zjp.con (k:Nat):Con:=Sig.con { ps:=[.val true T26 (ros T26),.val false .str (ros .str)],rs:=[.val false [.own 151 Z6b]],ntmps:=28 } (fun x=>Zjp k x.1 x.2)
theorem Zjp.ok (k:Nat):Zf Yb 96 (Zjp.con k):=fA (cXr true false (cC (Z1c.ok k) (cC (Zun.ok k) cN))) Tryz.func96
def Zxd.l0 (k:Nat):Nat→Str→List Int→Int→Int→Option (Str)
 | 0,_,_,_,_=>none
 | j+1,a1,a2,a3,a4=>bif decide (a4<a3) then Ya (at? a2 a4) fun v5=>Ya (Zfc k v5) fun v6=>Ya (Zqc a1 v6) fun v7=>Zxd.l0 k j v7 a2 a3 (Yc .i64 (a4+1)) else some a1
def Zxd (k:Nat) (a1:List Int):Option (Str):=Ya (Zxd.l0 k k [] a1 ((a1.length):Int) 0) fun y2=>some y2
def Zxd.con (k:Nat):Con:=Sig.con { ps:=[.val false (.sl (.int .i64)) (ros (.sl (.int .i64)))],rs:=[.val false [.v .str]],ntmps:=18 } (fun x=>Zxd k x)
def Zxd.cok (k:Nat):=cX (cC (Zfc.ok k) cN)
def Zxd.l0.s (k:Nat):Summ:=lp 18 { tmps:=[(3,.one (.v .str)),(6,.one (.bor (.int .i64))),(7,.one (.v (.int .i64))),(8,.one (.v (.int .i64)))],slots:=[],nb:=0 } [(.exit 0,{ tmps:=[(3,.one (.v .str))],slots:=[],nb:=0 })] (fun j x=>Zxd.l0 k j x.1 x.2.1 x.2.2.1 x.2.2.2) k
def Zxd.l0.ok (k:Nat):=(lA (Zxd.cok k):Zj Yb _ (.loop (cO (cO (cR (cL (cR (cR (cB Tryz.f186)))))))) (Zxd.l0.s k))
theorem Zxd.ok (k:Nat):Zf Yb 186 (Zxd.con k):=fP (.two .auto (.two .auto (.two (.two .auto (.one (.sum (Zxd.l0.s k)))) .auto))) (Zxd.cok k) Tryz.func186 (sC (Zxd.l0.ok k) sN)
def Zvn (k:Nat) (a1:G46):Option (Str):=Ya (Zmc k a1.2.2.2.2.2.2.1) fun v2=>Ya (Zmc k a1.2.2.2.2.2.2.2) fun v3=>Ya (Zxd k [a1.1,a1.2.1,a1.2.2.1,a1.2.2.2.1,a1.2.2.2.2.1,v2,v3]) fun v4=>Ya (Zcj k a1.2.2.2.2.2.1) fun v5=>Ya (Zqc v4 v5) fun v6=>some v6
def Zvn.con (k:Nat):Con:=Sig.con { ps:=[.val true T46 (ros T46)],rs:=[.val false [.v .str]],ntmps:=25 } (fun x=>Zvn k x)
theorem Zvn.ok (k:Nat):Zf Yb 97 (Zvn.con k):=fA (cXr true false (cC (Zmc.ok k) (cC (Zxd.ok k) (cC (Zcj.ok k) cN)))) Tryz.func97
def Zfe (k:Nat) (a1:G28) (a2:G46):Option (List Zlc):=Ya (Zvn k a2) fun v3=>Ya (Zjp k a1.2 v3) fun v4=>some v4
def Zfe.con (k:Nat):Con:=Sig.con { ps:=[.val true T28 (ros T28),.val true T46 (ros T46)],rs:=[.val false [.own 151 Z6b]],ntmps:=10 } (fun x=>Zfe k x.1 x.2)
theorem Zfe.ok (k:Nat):Zf Yb 131 (Zfe.con k):=fA (cXr true false (cC (Zjp.ok k) (cC (Zvn.ok k) cN))) Tryz.func131
def Zoj (a:List Int):Option (List Int):=Ya (Zs 8 [] a) fun y=>some y
def Zoj.sig:Sig:={ ps:=[.val false (.sl (.int .i64)) (ros (.sl (.int .i64)))],rs:=[.val false [.own 2 (.int .i64)]],ntmps:=8 }
def Zoj.con (k:Nat):Con:=Zoj.sig.con (fun x=>Zoj x)
theorem Zoj.ok (k:Nat):Zf Yb 221 (Zoj.con k):=
 Zey (e:=2) (C:={ ti:=TAB,con:=Zll [] }) (s:=Zoj.sig) (G:=fun x=>Zoj x) (Z8s Z1s trivial) Tryz.func221 (by kernel_rfl) rfl (by kernel_rfl) (by kernel_rfl) (by kernel_rfl) rfl rfl rfl rfl rfl rfl (by kernel_rfl) (by kernel_rfl)
  (fun x=>⟨_,_,.inl rfl⟩) (fun x y h=>Eq.trans (b:=Zoj x) (by kernel_rfl) h) (fun x y h hl=>by
   have e:x=([]:List Int):=hl (.int .i64) x (.inl (by kernel_rfl));subst e;exact Eq.trans (b:=Zoj []) (by kernel_rfl) h)
def Zej (a1:G46):Option (Int×Int×Int×Int×Int×Str×List Int×List Int):=Ya (Zoj a1.2.2.2.2.2.2.1) fun v2=>some (1,0,0,0,0,[],v2,[])
def Zej.con (k:Nat):Con:=Sig.con { ps:=[.val true T46 (ros T46)],rs:=[.val true [.v (.int .i64),.v (.int .i64),.v (.int .i64),.v (.int .i64),.v (.int .i64),.v .str,.own 2 (.int .i64),.own 2 (.int .i64)]],ntmps:=7 } (fun x=>Zej x)
theorem Zej.ok (k:Nat):Zf Yb 132 (Zej.con k):=fA (cXr true false (cC (Zoj.ok k) cN)) Tryz.func132
def Zge.l0:Nat→Int→List G52→Int→Int→Option (Int)
 | 0,_,_,_,_=>none
 | j+1,a1,a2,a3,a4=>bif decide (a4<a3) then Ya (at? a2 a4) fun v5=>let e6:=Yc .i64 (a4+1);bif v5.1==5 then Zge.l0 j e6 a2 a3 e6 else Zge.l0 j a1 a2 a3 e6 else some a1
def Zge (k:Nat) (a1:List G52):Option (Int):=Ya (Zge.l0 k 0 a1 ((a1.length):Int) 0) fun y2=>some y2
def Zge.con (k:Nat):Con:=Sig.con { ps:=[.val false (.sl T52) (ros (.sl T52))],rs:=[.val false [.v (.int .i64)]],ntmps:=20 } (fun x=>Zge k x)
def Zge.cok (k:Nat):=cX cN
def Zge.l0.s (k:Nat):Summ:=lp 20 { tmps:=[(3,.one (.v (.int .i64))),(6,.one (.bor T52)),(7,.one (.v (.int .i64))),(8,.one (.v (.int .i64)))],slots:=[],nb:=0 } [(.exit 0,{ tmps:=[(3,.one (.v (.int .i64)))],slots:=[],nb:=0 })] (fun j x=>Zge.l0 j x.1 x.2.1 x.2.2.1 x.2.2.2) k
def Zge.l0.ok (k:Nat):=(lA (Zge.cok k):Zj Yb _ (.loop (cO (cO (cR (cL (cR (cR (cB Tryz.f136)))))))) (Zge.l0.s k))
theorem Zge.ok (k:Nat):Zf Yb 136 (Zge.con k):=fP (.two .auto (.two .auto (.two (.two .auto (.one (.sum (Zge.l0.s k)))) .auto))) (Zge.cok k) Tryz.func136 (sC (Zge.l0.ok k) sN)
def Zlp (k:Nat) (a1:Str) (a2:Int):Option (Bool×Int×Str):=Ya (Zvk k a1) fun v3=>Ya (Zgc k (v3.1,(0,false))) fun v4=>Ya (Zgc k v4.2) fun v5=>Ya (Zyg k v5.2) fun v6=>bif (((v3.2 != 0)||v6.2.2.2)||(v6.2.2.1 != ((v3.1.length):Int)))||(v4.1 != a2) then some (true,0,[]) else Ya (Zli a2) fun v7=>bif !v7 then some (true,0,[]) else Ya (Zhb v5.1 0 39) fun v8=>bif (!v8)||(((v6.1.length):Int) != 8) then some (true,0,[]) else some (false,v5.1,v6.1)
def Zlp.con (k:Nat):Con:=Sig.con { ps:=[.val false .str (ros .str),.val false (.int .i64) (ros (.int .i64))],rs:=[.val true [.v .bool,.v (.int .i64),.v .str]],ntmps:=66 } (fun x=>Zlp k x.1 x.2)
theorem Zlp.ok (k:Nat):Zf Yb 146 (Zlp.con k):=fA (cX (cC (Zhb.ok k) (cC (Zli.ok k) (cC (Zgc.ok k) (cC (Zyg.ok k) (cC (Zvk.ok k) cN)))))) Tryz.func146
def Zqd.l0 (k:Nat):Nat→List Int→Int→Int→Int→List Str→List Zq→List Zlc→Option ((Int×List Str×List Zq×List Zlc))
 | 0,_,_,_,_,_,_,_=>none
 | j+1,a1,a2,a3,a4,a5,a6,a7=>bif decide (a3<a2) then Ya (at? a1 a3) fun v8=>let e9:=(a4,(a5,a6));Ya (Zbj k e9 v8) fun v10=>let e11:=Yc .i64 (a3+1);bif !(v10==[]) then Ya (Zph e9 v8) fun v12=>Ya (Zs 32 a7 ([(false,(v12,[]))])) fun v13=>Zqd.l0 k j a1 a2 e11 a4 a5 a6 v13 else Zqd.l0 k j a1 a2 e11 a4 a5 a6 a7 else some (a4,a5,a6,a7)
def Zqd (k:Nat) (a1:G28) (a2:G46):Option (List Zlc):=let e3:=(true,(0,[]));bif a2.1==2 then Ya (Z8c k a1 a2) fun v4=>Ya (Zge k v4) fun v5=>Ya (Zob a2.2.2.2.2.2.2.2 (Yc .i64 (a2.2.2.2.1+v5)) ((a2.2.2.2.2.2.2.2.length):Int)) fun v6=>Ya (Zqd.l0 k k v6 ((v6.length):Int) 0 a1.1 a1.2.1 a1.2.2 []) fun y7=>bif decide (0<((y7.2.2.2.length):Int)) then Ya (Zs 32 y7.2.2.2 [e3]) fun v8=>some v8 else some y7.2.2.2 else bif a2.1==3 then Ya (Zfe k a1 (4,(2,a2.2.2))) fun v9=>some v9 else bif a2.1==4 then bif a2.2.1==0 then Ya (Zej a2) fun v10=>Ya (Zfe k a1 v10) fun v11=>some v11 else Ya (Zfe k a1 (a2.1,((Yc .i64 (a2.2.1-1)),a2.2.2))) fun v12=>some v12 else bif a2.1==5 then Ya (Zag k a1.2 2) fun v13=>Ya (Zlp k v13 a2.2.2.2.2.1) fun v14=>bif v14.1||(a2.2.2.2.2.1==40) then some ([]) else Ya (Zqm a1.2 v14.2.1) fun v15=>bif !v15 then some ([]) else Ya (Zfe k a1 (a2.1,(a2.2.1,(a2.2.2.1,(a2.2.2.2.1,((Yc .i64 (a2.2.2.2.2.1+1)),a2.2.2.2.2.2)))))) fun v16=>Ya (Zs 32 [v14,e3] v16) fun v17=>some v17 else some ([])
def Zqd.con (k:Nat):Con:=Sig.conR { ps:=[.val true T28 (Zzg T28),.val true T46 (ros T46)],rs:=[.val false [.own 151 Z6b]],ntmps:=105 } (fun x=>Zqd k x.1 x.2)
def Zqd.cok (k:Nat):=cX (cC (Z8c.ok k) (cC (Zag.ok k) (cC (Zfe.ok k) (cC (Zej.ok k) (cC (Zge.ok k) (cC (Zbj.ok k) (cC (Zph.ok k) (cC (Zlp.ok k) (cC (Zqm.ok k) cN)))))))))
def Zqd.l0.s (k:Nat):Summ:=lp 105 { tmps:=[(2,.one (.ptr 0 0)),(5,.one (.own 3)),(22,.one (.bor (.int .i64))),(23,.one (.v (.int .i64))),(24,.one (.v (.int .i64)))],slots:=[(0,.box 28 [.v (.int .i64),.v (.sl .str),.v (.sl Zp)]),(3,.arr false 151 Z6b)],nb:=4 } [(.exit 1,{ tmps:=[(5,.one (.own 4))],slots:=[(0,.box 28 [.v (.int .i64),.v (.sl .str),.v (.sl Zp)]),(4,.arr false 151 Z6b)],nb:=5 })] (fun j x=>Zqd.l0 k j x.1 x.2.1 x.2.2.1 x.2.2.2.1 x.2.2.2.2.1 x.2.2.2.2.2.1 x.2.2.2.2.2.2) k
def Zqd.l0.ok (k:Nat):=(lA (Zqd.cok k):Zj Yb _ (.loop (cO (cO (cR (cL (cR (cL (cR (cO (cR (cL (cR (cB Tryz.f64))))))))))))) (Zqd.l0.s k))
theorem Zqd.ok (k:Nat):Zf Yb 64 (Zqd.con k):=Z48 (fP (.two .auto (.two (.two .auto (.one (.two .auto (.two (.two .auto (.two (.two .auto (.one (.sum (Zqd.l0.s k)))) .auto)) .auto)))) .auto)) (Zqd.cok k) Tryz.func64 (sC (Zqd.l0.ok k) sN))
def Zbp (k:Nat) (a1:List Int) (a2:List Int):Option (List Int):=Ya (Zmc k a1) fun v3=>Ya (Zmc k a2) fun v4=>Ya (Zid k (intBits .andNot .i64 16777215 (intBits .or .i64 v3 v4))) fun v5=>some v5
def Zbp.con (k:Nat):Con:=Sig.con { ps:=[.val false (.sl (.int .i64)) (ros (.sl (.int .i64))),.val false (.sl (.int .i64)) (ros (.sl (.int .i64)))],rs:=[.val false [.own 2 (.int .i64)]],ntmps:=12 } (fun x=>Zbp k x.1 x.2)
theorem Zbp.ok (k:Nat):Zf Yb 66 (Zbp.con k):=fA (cX (cC (Zid.ok k) (cC (Zmc.ok k) cN))) Tryz.func66
def Zre.l0:Nat→List Int→Int→Int→List Zok→Option ((List Zok))
 | 0,_,_,_,_=>none
 | j+1,a1,a2,a3,a4=>bif decide (a3<a2) then Ya (at? a1 a3) fun v5=>let e6:=Yc .i64 (((a4.length):Int)-1);let e7:=Yc .i64 (a3+1);let e8:=Zs 16 a4 [(v5,1)];bif decide (0≤e6) then let e9:=at? a4 e6;Ya (e9) fun v10=>Ya (e9) fun v11=>Ya (e9) fun v12=>Ya (e9) fun v13=>bif (Yc .i64 (v11.1+v13.2))==v5 then Ya (e9) fun v14=>Ya (e9) fun v15=>Ya (e9) fun v16=>Ya (e9) fun v17=>Zre.l0 j a1 a2 e7 (Yf a4 (Ye e6) (v17.1,(Yc .i64 (v15.2+1)))) else Ya (e8) fun v18=>Zre.l0 j a1 a2 e7 v18 else Ya (e8) fun v19=>Zre.l0 j a1 a2 e7 v19 else some a4
def Zre (k:Nat) (a1:List Int):Option (List Zok):=Ya (Zre.l0 k a1 ((a1.length):Int) 0 []) fun y2=>some y2
def Zre.con (k:Nat):Con:=Sig.con { ps:=[.val false (.sl (.int .i64)) (ros (.sl (.int .i64)))],rs:=[.val false [.own 243 Zei]],ntmps:=48 } (fun x=>Zre k x)
def Zre.cok (k:Nat):=cX cN
def Zre.l0.s (k:Nat):Summ:=lp 48 { tmps:=[(3,.one (.own 0)),(7,.one (.bor (.int .i64))),(8,.one (.v (.int .i64))),(9,.one (.v (.int .i64)))],slots:=[(0,.arr false 243 Zei)],nb:=1 } [(.exit 0,{ tmps:=[(3,.one (.own 1))],slots:=[(1,.arr false 243 Zei)],nb:=2 })] (fun j x=>Zre.l0 j x.1 x.2.1 x.2.2.1 x.2.2.2) k
def Zre.l0.ok (k:Nat):=(lA (Zre.cok k):Zj Yb _ (.loop (cO (cO (cR (cL (cR (cR (cB Tryz.f223)))))))) (Zre.l0.s k))
theorem Zre.ok (k:Nat):Zf Yb 223 (Zre.con k):=fP (.two .auto (.two .auto (.two (.two .auto (.one (.sum (Zre.l0.s k)))) .auto))) (Zre.cok k) Tryz.func223 (sC (Zre.l0.ok k) sN)
def Z2b.l0:Nat→Int→Int→Int→Int→List Int→Option ((Int×Int×List Int))
 | 0,_,_,_,_,_=>none
 | j+1,a1,a2,a3,a4,a5=>bif decide (a2<a1) then Ya (Zs 8 a5 [(Yc .i64 (a3+a2))]) fun v6=>Z2b.l0 j a1 (Yc .i64 (a2+1)) a3 a4 v6 else some (a3,a4,a5)
def Z2b.l1 (k:Nat):Nat→Int→Int→Int→List Zok→Option (Unit ⊕ (Bool×List Int))
 | 0,_,_,_,_=>none
 | j+1,a1,a2,a3,a4=>bif decide (a3<a2) then Ya (at? a4 a3) fun v5=>Ya (at? a4 a3) fun v6=>bif decide (a1≤v6.2) then Ya (Z2b.l0 k a1 0 v6.1 v6.2 []) fun y7=>some (.inr (true,y7.2.2)) else Z2b.l1 k j a1 a2 (Yc .i64 (a3+1)) a4 else some (.inl ())
def Z2b (k:Nat) (a1:List Int) (a2:List Int) (a3:Int):Option (List Int×Bool):=Ya (Zbp k a1 a2) fun v4=>Ya (Z8j v4) fun v5=>bif decide (v5<a3) then some ([],false) else Ya (Zre k v4) fun v6=>Ya (Z2b.l1 k k a3 ((v6.length):Int) 0 v6) fun
  | .inl y7=>Ya (Zob v4 0 a3) fun v8=>some (v8,true)
  | .inr y9=>some (y9.2,y9.1)
def Z2b.con (k:Nat):Con:=Sig.con { ps:=[.val false (.sl (.int .i64)) (ros (.sl (.int .i64))),.val false (.sl (.int .i64)) (ros (.sl (.int .i64))),.val false (.int .i64) (ros (.int .i64))],rs:=[.val false [.v (.sl (.int .i64))],.val false [.v .bool]],ntmps:=48 } (fun x=>Z2b k x.1 x.2.1 x.2.2)
def Z2b.cok (k:Nat):=cX (cC (Zbp.ok k) (cC (Z8j.ok k) (cC (Zre.ok k) cN)))
def Z2b.l0.s (k:Nat):Summ:=lp 48 { tmps:=[(10,.one (.ptr 3 0)),(11,.one (.own 4)),(31,.one (.v (.int .i64))),(32,.one (.v (.int .i64)))],slots:=[(3,.box 243 [.v (.int .i64),.v (.int .i64)]),(4,.arr false 2 (.int .i64))],nb:=5 } [(.exit 2,{ tmps:=[(11,.one (.own 5))],slots:=[(3,.box 243 [.v (.int .i64),.v (.int .i64)]),(5,.arr false 2 (.int .i64))],nb:=6 })] (fun j x=>Z2b.l0 j x.1 x.2.1 x.2.2.1 x.2.2.2.1 x.2.2.2.2) k
def Z2b.l0.ok (k:Nat):=(lA (Z2b.cok k):Zj Yb _ (.loop (cO (cO (cR (cL (cR (cL (cR (cR (cO (cL (cR (cR (cO (cO (cR (cL (cR (cR (cR (cB Yt))))))))))))))))))))) (Z2b.l0.s k))
def Z2b.l1.s (k:Nat):Summ:=lp 48 { tmps:=[(2,.one (.v (.int .i64))),(21,.one (.own 2)),(22,.one (.v (.int .i64))),(23,.one (.v (.int .i64)))],slots:=[(2,.arr false 243 Zei)],nb:=3 } [(.exit 0,{ tmps:=[],slots:=[],nb:=3 }),(.ret,{ tmps:=[(6,.one (.own 3)),(7,.one (.v .bool))],slots:=[(3,.arr false 2 (.int .i64))],nb:=4 })] (fun j x=>Z2b.l1 k j x.1 x.2.1 x.2.2.1 x.2.2.2) k
def Z2b.l1.ok (k:Nat):=(lP (.two .auto (.two .auto (.two (.one (.two .auto (.two .auto (.two (.two .auto (.two (.two .auto (.one (.sum (Z2b.l0.s k)))) .auto)) .auto)))) .auto))) (Z2b.cok k) (sC (Z2b.l0.ok k) sN):Zj Yb _ (.loop (cO (cO (cR (cL (cR (cR (cR (cB Yt))))))))) (Z2b.l1.s k))
theorem Z2b.ok (k:Nat):Zf Yb 138 (Z2b.con k):=fP (.two .auto (.two .auto (.two .auto (.two (.two .auto (.one (.sum (Z2b.l1.s k)))) .auto)))) (Z2b.cok k) Tryz.func138 (sC (Z2b.l1.ok k) sN)
def Zpe.l0:Nat→Int→List Str→List Zq→List Int→Int→Int→List Zlc→Option ((List Zlc))
 | 0,_,_,_,_,_,_,_=>none
 | j+1,a1,a2,a3,a4,a5,a6,a7=>bif decide (a6<a5) then Ya (at? a4 a6) fun v8=>Ya (Zph (a1,(a2,a3)) v8) fun v9=>Ya (Zs 32 a7 ([(false,(v9,[]))])) fun v10=>Zpe.l0 j a1 a2 a3 a4 a5 (Yc .i64 (a6+1)) v10 else some a7
def Zpe (k:Nat) (a1:G28) (a2:G46) (a3:G54):Option (List Zlc×Str×List Int×Int):=bif a2.1 != 1 then some ([],[],[],10) else Ya (Z2b k a2.2.2.2.2.2.2.1 [] (Yc .i64 (a3.2.1+a3.2.2.1))) fun v4=>bif !v4.2 then some ([],[],[],11) else Ya (Zpe.l0 k a1.1 a1.2.1 a1.2.2 v4.1 ((v4.1.length):Int) 0 []) fun y5=>Ya (Zs 32 y5 ([(true,(0,[]))])) fun v6=>Ya (Zfe k a1 (2,(0,(a3.2.1,(a3.2.2.1,(0,(a3.2.2.2.1,(a2.2.2.2.2.2.2.1,v4.1)))))))) fun v7=>Ya (Zs 32 v6 v7) fun v8=>some (v8,[],[],0)
def Zpe.con (k:Nat):Con:=Sig.con { ps:=[.val true T28 (ros T28),.val true T46 (ros T46),.val true T54 (ros T54)],rs:=[.val true [.own 151 Z6b,.v .str,.own 2 (.int .i64),.v (.int .i64)]],ntmps:=63 } (fun x=>Zpe k x.1 x.2.1 x.2.2)
def Zpe.cok (k:Nat):=cXr true false (cC (Zfe.ok k) (cC (Z2b.ok k) (cC (Zph.ok k) cN)))
def Zpe.l0.s (k:Nat):Summ:=lp 63 { tmps:=[(3,.eptr [.v (.int .i64),.bor .str,.bor Zp]),(9,.one (.own 2)),(30,.one (.v (.sl (.int .i64)))),(31,.one (.v (.int .i64))),(32,.one (.v (.int .i64)))],slots:=[(2,.arr false 151 Z6b)],nb:=3 } [(.exit 0,{ tmps:=[(9,.one (.own 3))],slots:=[(3,.arr false 151 Z6b)],nb:=4 })] (fun j x=>Zpe.l0 j x.1 x.2.1 x.2.2.1 x.2.2.2.1 x.2.2.2.2.1 x.2.2.2.2.2.1 x.2.2.2.2.2.2) k
def Zpe.l0.ok (k:Nat):=(lA (Zpe.cok k):Zj Yb _ (.loop (cO (cO (cR (cL (cR (cR (cR (cR (cR (cB Tryz.f128))))))))))) (Zpe.l0.s k))
theorem Zpe.ok (k:Nat):Zf Yb 128 (Zpe.con k):=fP (.two .auto (.two .auto (.two .auto (.two .auto (.two .auto (.two (.two .auto (.one (.sum (Zpe.l0.s k)))) .auto)))))) (Zpe.cok k) Tryz.func128 (sC (Zpe.l0.ok k) sN)
def Zuk (a1:List G52):Option (Int):=some ((a1.length):Int)
def Zuk.con (k:Nat):Con:=Sig.con { ps:=[.val false (.sl T52) (ros (.sl T52))],rs:=[.val false [.v (.int .i64)]],ntmps:=5 } (fun x=>Zuk x)
theorem Zuk.ok (k:Nat):Zf Yb 135 (Zuk.con k):=fA (cX cN) Tryz.func135
def Zrp (k:Nat) (a1:G52):Option (Str):=Ya (Zxd k [a1.1,a1.2.1,a1.2.2.1]) fun v2=>Ya (Zcj k a1.2.2.2) fun v3=>Ya (Zqc v2 v3) fun v4=>some v4
def Zrp.con (k:Nat):Con:=Sig.con { ps:=[.val true T52 (ros T52)],rs:=[.val false [.v .str]],ntmps:=15 } (fun x=>Zrp k x)
theorem Zrp.ok (k:Nat):Zf Yb 269 (Zrp.con k):=fA (cX (cC (Zxd.ok k) (cC (Zcj.ok k) cN))) Tryz.func269
def Zpp (k:Nat) (a1:Int) (a2:G52):Option (Str):=Ya (Zfc k a1) fun v3=>Ya (Zrp k a2) fun v4=>Ya (Zqc v3 v4) fun v5=>Ya (Zdj k v5) fun v6=>some v6
def Zpp.con (k:Nat):Con:=Sig.con { ps:=[.val false (.int .i64) (ros (.int .i64)),.val true T52 (ros T52)],rs:=[.val false [.v .str]],ntmps:=11 } (fun x=>Zpp k x.1 x.2)
theorem Zpp.ok (k:Nat):Zf Yb 219 (Zpp.con k):=fA (cX (cC (Zdj.ok k) (cC (Zfc.ok k) (cC (Zrp.ok k) cN)))) Tryz.func219
def Z6o (k:Nat) (a1:G28) (a2:G46) (a3:List G52) (a4:G52):Option (List Zlc×Str×List Int×Int):=bif a2.1 != 2 then some ([],[],[],10) else Ya (Zuk a3) fun v5=>bif v5==a2.2.2.1 then some ([],[],[],9) else Ya (Zs 40 a3 [a4]) fun v6=>Ya (Zed k v6 a1.1) fun v7=>bif v7 != 0 then some ([],[],[],v7) else Ya (at? a2.2.2.2.2.2.2.2 (Yc .i64 (a2.2.2.2.1+v5))) fun v8=>Ya (Zph a1 v8) fun v9=>Ya (Zpp k v5 a4) fun v10=>let e11:=[(false,(v9,v10))];bif a4.1==5 then Ya (Zs 32 e11 ([(true,(0,[]))])) fun v12=>some (v12,[],[],0) else some (e11,[],[],0)
def Z6o.con (k:Nat):Con:=Sig.con { ps:=[.val true T28 (ros T28),.val true T46 (ros T46),.mv 52 T52,.val true T52 (ros T52)],rs:=[.val true [.own 151 Z6b,.v .str,.own 2 (.int .i64),.v (.int .i64)]],ntmps:=58 } (fun x=>Z6o k x.1 x.2.1 x.2.2.1 x.2.2.2)
theorem Z6o.ok (k:Nat):Zf Yb 129 (Z6o.con k):=fA (cXr true false (cC (Zed.ok k) (cC (Zuk.ok k) (cC (Zph.ok k) (cC (Zpp.ok k) cN))))) Tryz.func129
def strings_Repeat (a:Str) (n:Int):Option Str:=if 0≤n∧(a.length:Int)*n≤140737488355328∧n≤9223372036854775807 then some (Lib.repeatL a n.toNat) else none
def strings_Repeat.sig:Sig:={ ps:=[.val false .str (ros .str),.val false (.int .i64) (ros (.int .i64))],rs:=[.val false [.v .str]],ntmps:=0 }
def strings_Repeat.con (k:Nat):Con:=strings_Repeat.sig.con (fun x=>strings_Repeat x.1 x.2)
theorem strings_Repeat.ok (k:Nat):Zf Yb 294 (strings_Repeat.con k):=Zfjb (Zc3 Tryz.func294 (by kernel_rfl) (show Yz.body=some (cB Yz) by kernel_rfl)) (by kernel_rfl) (by kernel_rfl) (by
 intro (x:Str×Int) (y:Str) w h
 obtain ⟨a,n⟩:=x
 replace h:strings_Repeat a n=some y:=h
 unfold strings_Repeat at h
 split at h
 ·rename_i h0
  obtain ⟨h0,h1,h2⟩:=h0;injection h with h
  subst h;obtain ⟨c,rfl⟩:∃c:Nat,n=(c:Int):=⟨n.toNat,by omega⟩;have h3:((a.length*c:Nat):Int)≤140737488355328:=by rw [Int.natCast_mul];exact h1
  have h1':a.length*c≤140737488355328:=by omega
  refine (Tryz.strings_Repeat (ba a) c w (by omega) h1').mono ?_;rintro e w' ⟨rfl,bel⟩;exact ⟨[.string (ba (Lib.repeatL a c))],rfl,rfl,rfl,bel⟩
 ·cases h)
def Zwd.l0:Nat→Int→Int→List Int→Option ((List Int))
 | 0,_,_,_=>none
 | j+1,a1,a2,a3=>bif decide (0≤a2) then Ya (at? a3 a2) fun v4=>Ya (at? a3 a2) fun v5=>Ya (Zwb 8) fun v6=>Zwd.l0 j (shr .u64 a1 8) (Yc .i64 (a2-1)) (Yf a3 (Ye a2) (Yc .u8 a1)) else some a3
def Zwd (k:Nat) (a1:Int) (a2:Int):Option (Str):=Ya (Ztg 1 a2 a2 0) fun v3=>Ya (Zwd.l0 k a1 (Yc .i64 (a2-1)) v3) fun y4=>some (Znb y4)
def Zwd.con (k:Nat):Con:=Sig.con { ps:=[.val false (.int .u64) (ros (.int .u64)),.val false (.int .i64) (ros (.int .i64))],rs:=[.val false [.v .str]],ntmps:=24 } (fun x=>Zwd k x.1 x.2)
def Zwd.cok (k:Nat):=cX cN
def Zwd.l0.s (k:Nat):Summ:=lp 24 { tmps:=[(0,.one (.v (.int .u64))),(5,.one (.own 1)),(6,.one (.v (.int .i64)))],slots:=[(1,.arr false 5 (.int .u8))],nb:=2 } [(.exit 0,{ tmps:=[(5,.one (.own 2))],slots:=[(2,.arr false 5 (.int .u8))],nb:=3 })] (fun j x=>Zwd.l0 j x.1 x.2.1 x.2.2) k
def Zwd.l0.ok (k:Nat):=(lA (Zwd.cok k):Zj Yb _ (.loop (cO (cO (cR (cL (cR (cR (cB Tryz.f295)))))))) (Zwd.l0.s k))
theorem Zwd.ok (k:Nat):Zf Yb 295 (Zwd.con k):=fP (.two .auto (.two .auto (.two (.two .auto (.one (.sum (Zwd.l0.s k)))) .auto))) (Zwd.cok k) Tryz.func295 (sC (Zwd.l0.ok k) sN)
def Z9o (a1:Str):Option (Int):=Ya (at? a1 0) fun v2=>Ya (Zwb 24) fun v3=>Ya (at? a1 1) fun v4=>Ya (Zwb 16) fun v5=>Ya (at? a1 2) fun v6=>Ya (Zwb 8) fun v7=>Ya (at? a1 3) fun v8=>some (intBits .or .u32 (intBits .or .u32 (intBits .or .u32 (shl .u32 (Yc .u32 (v2.toNat:Int)) 24) (shl .u32 (Yc .u32 (v4.toNat:Int)) 16)) (shl .u32 (Yc .u32 (v6.toNat:Int)) 8)) (Yc .u32 (v8.toNat:Int)))
def Z9o.con (k:Nat):Con:=Sig.con { ps:=[.val false .str (ros .str)],rs:=[.val false [.v (.int .u32)]],ntmps:=21 } (fun x=>Z9o x)
theorem Z9o.ok (k:Nat):Zf Yb 311 (Z9o.con k):=fA (cX cN) Tryz.func311
def Zgr (a1:Int) (a2:Int):Option (Int):=let e3:=intBits .and .u64 (Yc .u64 a2) 31;Ya (Zwb e3) fun v4=>let e5:=Yc .u64 (32-e3);Ya (Zwb e5) fun v6=>some (intBits .or .u32 (shl .u32 a1 e3) (shr .u32 a1 e5))
def Zgr.con (k:Nat):Con:=Sig.con { ps:=[.val false (.int .u32) (ros (.int .u32)),.val false (.int .i64) (ros (.int .i64))],rs:=[.val false [.v (.int .u32)]],ntmps:=17 } (fun x=>Zgr x.1 x.2)
theorem Zgr.ok (k:Nat):Zf Yb 321 (Zgr.con k):=fA (cX cN) Tryz.func321
def Z3h (a1:Int) (a2:Int):Option (Int):=Ya (Zgr a1 (Yc .i64 (0-a2))) fun v3=>some v3
def Z3h.con (k:Nat):Con:=Sig.con { ps:=[.val false (.int .u32) (ros (.int .u32)),.val false (.int .i64) (ros (.int .i64))],rs:=[.val false [.v (.int .u32)]],ntmps:=9 } (fun x=>Z3h x.1 x.2)
theorem Z3h.ok (k:Nat):Zf Yb 312 (Z3h.con k):=fA (cX (cC (Zgr.ok k) cN)) Tryz.func312
def Zqb.l0:Nat→Str→Int→List Int→Option ((List Int))
 | 0,_,_,_=>none
 | j+1,a1,a2,a3=>bif decide (a2<64) then let e4:=Yc .i64 (a2+1);bif decide (a2<16) then Ya (Zob a1 (Yc .i64 (4*a2)) ((a1.length):Int)) fun v5=>Ya (Z9o v5) fun v6=>Ya (at? a3 a2) fun v7=>Ya (Zhs a3 a2 v6) fun v8=>Zqb.l0 j a1 e4 v8 else let e9:=at? a3 (Yc .i64 (a2-15));Ya (e9) fun v10=>Ya (e9) fun v11=>let e12:=at? a3 (Yc .i64 (a2-2));Ya (e12) fun v13=>Ya (e12) fun v14=>Ya (Z3h v11 7) fun v15=>Ya (Z3h v11 18) fun v16=>Ya (Zwb 3) fun v17=>Ya (Z3h v14 17) fun v18=>Ya (Z3h v14 19) fun v19=>Ya (Zwb 10) fun v20=>let e21:=at? a3 (Yc .i64 (a2-16));Ya (e21) fun v22=>Ya (e21) fun v23=>let e24:=at? a3 (Yc .i64 (a2-7));Ya (e24) fun v25=>Ya (e24) fun v26=>Ya (at? a3 a2) fun v27=>Ya (Zhs a3 a2 (Yc .u32 ((Yc .u32 ((Yc .u32 (v23+(intBits .xor .u32 (intBits .xor .u32 v15 v16) (shr .u32 v11 3))))+v26))+(intBits .xor .u32 (intBits .xor .u32 v18 v19) (shr .u32 v14 10))))) fun v28=>Zqb.l0 j a1 e4 v28 else some a3
def Zqb.l1:Nat→Int→Int→Int→Int→Int→Int→Int→Int→Int→List Int→Option ((Int×Int×Int×Int×Int×Int×Int×Int))
 | 0,_,_,_,_,_,_,_,_,_,_=>none
 | j+1,a1,a2,a3,a4,a5,a6,a7,a8,a9,a10=>bif decide (a9<64) then Ya (Z3h a5 6) fun v11=>Ya (Z3h a5 11) fun v12=>Ya (Z3h a5 25) fun v13=>Ya (at? Zcn a9) fun v14=>Ya (at? a10 a9) fun v15=>Ya (at? a10 a9) fun v16=>Ya (Z3h a1 2) fun v17=>Ya (Z3h a1 13) fun v18=>Ya (Z3h a1 22) fun v19=>let e20:=Yc .u32 ((Yc .u32 ((Yc .u32 ((Yc .u32 (a8+(intBits .xor .u32 (intBits .xor .u32 v11 v12) v13)))+(intBits .xor .u32 (intBits .and .u32 a5 a6) (intBits .and .u32 (intBits .xor .u32 (Yn .u32) a5) a7))))+v14))+v16);Zqb.l1 j (Yc .u32 (e20+(Yc .u32 ((intBits .xor .u32 (intBits .xor .u32 v17 v18) v19)+(intBits .xor .u32 (intBits .xor .u32 (intBits .and .u32 a1 a2) (intBits .and .u32 a1 a3)) (intBits .and .u32 a2 a3)))))) a1 a2 a3 (Yc .u32 (a4+e20)) a5 a6 a7 (Yc .i64 (a9+1)) a10 else some (a1,a2,a3,a4,a5,a6,a7,a8)
def Zqb.l2:Nat→Int→Int→Int→Int→Int→Int→Int→Int→Int→List Int→Option ((List Int))
 | 0,_,_,_,_,_,_,_,_,_,_=>none
 | j+1,a1,a2,a3,a4,a5,a6,a7,a8,a9,a10=>bif decide (a9<8) then Ya (at? [a1,a2,a3,a4,a5,a6,a7,a8] a9) fun v11=>Ya (at? a10 a9) fun v12=>Ya (at? a10 a9) fun v13=>Ya (at? a10 a9) fun v14=>Ya (Zhs a10 a9 (Yc .u32 (v13+v11))) fun v15=>Zqb.l2 j a1 a2 a3 a4 a5 a6 a7 a8 (Yc .i64 (a9+1)) v15 else some a10
def Zqb (k:Nat) (a1:List Int) (a2:Str):Option (List Int):=Ya (Zqb.l0 k a2 0 (Yq 64 (0:Int))) fun y3=>Ya (at? a1 0) fun v4=>Ya (at? a1 0) fun v5=>Ya (at? a1 1) fun v6=>Ya (at? a1 1) fun v7=>Ya (at? a1 2) fun v8=>Ya (at? a1 2) fun v9=>Ya (at? a1 3) fun v10=>Ya (at? a1 3) fun v11=>Ya (at? a1 4) fun v12=>Ya (at? a1 4) fun v13=>Ya (at? a1 5) fun v14=>Ya (at? a1 5) fun v15=>Ya (at? a1 6) fun v16=>Ya (at? a1 6) fun v17=>Ya (at? a1 7) fun v18=>Ya (at? a1 7) fun v19=>Ya (Zqb.l1 k v5 v7 v9 v11 v13 v15 v17 v19 0 y3) fun y20=>Ya (Zqb.l2 k y20.1 y20.2.1 y20.2.2.1 y20.2.2.2.1 y20.2.2.2.2.1 y20.2.2.2.2.2.1 y20.2.2.2.2.2.2.1 y20.2.2.2.2.2.2.2 0 a1) fun y21=>some y21
def Zqb.con (k:Nat):Con:=Sig.con { ps:=[.val false (.sl (.int .u32)) [.own 2000008],.val false .str (ros .str)],rs:=[],ntmps:=193 } (fun x=>Zqb k x.1 x.2)
def Zqb.cok (k:Nat):=cX (cC (Z9o.ok k) (cC (Z3h.ok k) cN))
def Zqb.l0.s (k:Nat):Summ:=lp 193 { tmps:=[(1,.one (.v .str)),(4,.one (.own 2)),(23,.one (.v (.int .i64)))],slots:=[(2,.arr false 2000064 (.int .u32))],nb:=3 } [(.exit 0,{ tmps:=[(4,.one (.own 3))],slots:=[(3,.arr false 2000064 (.int .u32))],nb:=4 })] (fun j x=>Zqb.l0 j x.1 x.2.1 x.2.2) k
def Zqb.l0.ok (k:Nat):=(lA (Zqb.cok k):Zj Yb _ (.loop (cO (cO (cR (cL (cR (cB Yl))))))) (Zqb.l0.s k))
def Zqb.l1.s (k:Nat):Summ:=lp 193 { tmps:=[(4,.one (.own 4)),(10,.one (.v (.int .u32))),(11,.one (.v (.int .u32))),(12,.one (.v (.int .u32))),(13,.one (.v (.int .u32))),(14,.one (.v (.int .u32))),(15,.one (.v (.int .u32))),(16,.one (.v (.int .u32))),(17,.one (.v (.int .u32))),(107,.one (.v (.int .i64)))],slots:=[(4,.arr false 2000064 (.int .u32))],nb:=5 } [(.exit 2,{ tmps:=[(10,.one (.v (.int .u32))),(11,.one (.v (.int .u32))),(12,.one (.v (.int .u32))),(13,.one (.v (.int .u32))),(14,.one (.v (.int .u32))),(15,.one (.v (.int .u32))),(16,.one (.v (.int .u32))),(17,.one (.v (.int .u32)))],slots:=[],nb:=5 })] (fun j x=>Zqb.l1 j x.1 x.2.1 x.2.2.1 x.2.2.2.1 x.2.2.2.2.1 x.2.2.2.2.2.1 x.2.2.2.2.2.2.1 x.2.2.2.2.2.2.2.1 x.2.2.2.2.2.2.2.2.1 x.2.2.2.2.2.2.2.2.2) k
def Zqb.l1.ok (k:Nat):=(lA (Zqb.cok k):Zj Yb _ (.loop (cO (cO (cR (cL (cR (cR (cR (cB Yl))))))))) (Zqb.l1.s k))
def Zqb.l2.s (k:Nat):Summ:=lp 193 { tmps:=[(0,.one (.pin 0)),(178,.agg [.v (.int .u32),.v (.int .u32),.v (.int .u32),.v (.int .u32),.v (.int .u32),.v (.int .u32),.v (.int .u32),.v (.int .u32)]),(179,.one (.v (.int .i64)))],slots:=[(0,.pin 2000008 (.int .u32))],nb:=5 } [(.exit 4,{ tmps:=[],slots:=[(0,.pin 2000008 (.int .u32))],nb:=5 })] (fun j x=>Zqb.l2 j x.1 x.2.1 x.2.2.1 x.2.2.2.1 x.2.2.2.2.1 x.2.2.2.2.2.1 x.2.2.2.2.2.2.1 x.2.2.2.2.2.2.2.1 x.2.2.2.2.2.2.2.2.1 x.2.2.2.2.2.2.2.2.2) k
def Zqb.l2.ok (k:Nat):=(lA (Zqb.cok k):Zj Yb _ (.loop (cO (cO (cR (cR (cR (cR (cR (cB Yl))))))))) (Zqb.l2.s k))
theorem Zqb.ok (k:Nat):Zf Yb 296 (Zqb.con k):=fP (.two .auto (.two (.two .auto (.one (.sum (Zqb.l0.s k)))) (.two .auto (.two (.two .auto (.one (.sum (Zqb.l1.s k)))) (.two .auto (.one (.sum (Zqb.l2.s k)))))))) (Zqb.cok k) Tryz.func296 (sC (Zqb.l0.ok k) (sC (Zqb.l1.ok k) (sC (Zqb.l2.ok k) sN)))
def Znc.l0 (k:Nat):Nat→Str→List Int→Option ((List Int))
 | 0,_,_=>none
 | j+1,a1,a2=>bif !(a1==[]) then Ya (Zob a1 0 64) fun v3=>Ya (Zqb k a2 v3) fun v4=>Ya (Zob a1 64 ((a1.length):Int)) fun v5=>Znc.l0 k j v5 v4 else some a2
def Znc.l1 (k:Nat):Nat→Str→Int→Int→Int→Int→Int→Int→Int→Int→Int→Option (Str)
 | 0,_,_,_,_,_,_,_,_,_,_=>none
 | j+1,a1,a2,a3,a4,a5,a6,a7,a8,a9,a10=>bif decide (a10<8) then Ya (at? [a2,a3,a4,a5,a6,a7,a8,a9] a10) fun v11=>Ya (Zwd k (Yc .u64 v11) 4) fun v12=>Ya (Zqc a1 v12) fun v13=>Znc.l1 k j v13 a2 a3 a4 a5 a6 a7 a8 a9 (Yc .i64 (a10+1)) else some a1
def Znc (k:Nat) (a1:Str):Option (Str):=Ya (nz? 64) fun v2=>Ya (nz? 64) fun v3=>Ya (Zqc a1 ([128]:Str)) fun v4=>Ya (strings_Repeat ([0]:Str) (Int.tmod (Yc .i64 (119-(Int.tmod ((a1.length):Int) 64))) 64)) fun v5=>Ya (Zqc v4 v5) fun v6=>Ya (Zwd k (Yc .u64 (8*(Yc .u64 ((a1.length):Int)))) 8) fun v7=>Ya (Zqc v6 v7) fun v8=>Ya (Znc.l0 k k v8 [(Yd Zbn 0 0),(Yd Zbn 1 0),(Yd Zbn 2 0),(Yd Zbn 3 0),(Yd Zbn 4 0),(Yd Zbn 5 0),(Yd Zbn 6 0),(Yd Zbn 7 0)]) fun y9=>Ya (Znc.l1 k k [] (Yd y9 0 0) (Yd y9 1 0) (Yd y9 2 0) (Yd y9 3 0) (Yd y9 4 0) (Yd y9 5 0) (Yd y9 6 0) (Yd y9 7 0) 0) fun y10=>some y10
def Znc.con (k:Nat):Con:=Sig.con { ps:=[.val false .str (ros .str)],rs:=[.val false [.v .str]],ntmps:=44 } (fun x=>Znc k x)
def Znc.cok (k:Nat):=cX (cC (strings_Repeat.ok k) (cC (Zwd.ok k) (cC (Zqb.ok k) cN)))
def Znc.l0.s (k:Nat):Summ:=lp 44 { tmps:=[(3,.one (.own 1)),(5,.one (.v .str))],slots:=[(1,.arr false 2000008 (.int .u32))],nb:=2 } [(.exit 0,{ tmps:=[(3,.one (.own 2))],slots:=[(2,.arr false 2000008 (.int .u32))],nb:=3 })] (fun j x=>Znc.l0 k j x.1 x.2) k
def Znc.l0.ok (k:Nat):=(lA (Znc.cok k):Zj Yb _ (.loop (cO (cO (cL (cR (cR (cR (cR (cB Yx))))))))) (Znc.l0.s k))
def Znc.l1.s (k:Nat):Summ:=lp 44 { tmps:=[(6,.one (.v .str)),(33,.agg [.v (.int .u32),.v (.int .u32),.v (.int .u32),.v (.int .u32),.v (.int .u32),.v (.int .u32),.v (.int .u32),.v (.int .u32)]),(34,.one (.v (.int .i64)))],slots:=[],nb:=3 } [(.exit 2,{ tmps:=[(6,.one (.v .str))],slots:=[],nb:=3 })] (fun j x=>Znc.l1 k j x.1 x.2.1 x.2.2.1 x.2.2.2.1 x.2.2.2.2.1 x.2.2.2.2.2.1 x.2.2.2.2.2.2.1 x.2.2.2.2.2.2.2.1 x.2.2.2.2.2.2.2.2.1 x.2.2.2.2.2.2.2.2.2) k
def Znc.l1.ok (k:Nat):=(lA (Znc.cok k):Zj Yb _ (.loop (cO (cO (cR (cL (cR (cR (cR (cR (cR (cR (cB Yx)))))))))))) (Znc.l1.s k))
theorem Znc.ok (k:Nat):Zf Yb 270 (Znc.con k):=fP (.two .auto (.two .auto (.two .auto (.two .auto (.two (.one (.sum (Znc.l0.s k))) (.two .auto (.two (.two .auto (.one (.sum (Znc.l1.s k)))) .auto))))))) (Znc.cok k) Tryz.func270 (sC (Znc.l0.ok k) (sC (Znc.l1.ok k) sN))
def strings_Join (l:List Str) (s:Str):Option Str:=if l.length≤140737488355328∧(Lib.join l s).length≤140737488355328 then some (Lib.join l s) else none
def strings_Join.con (k:Nat):Con:={ ms:=[.val [.ro],.val [.ro]],f:=fun xs=>match xs with
 | [.val false [.leaf (.bor .str l)],.val false [.leaf (.str s)]]=>.opt Str (strings_Join l s) fun r=>⟨[.val false [.leaf (.str r)]],[]⟩
 | _=>.fail }
theorem strings_Join.ok (k:Nat):Zf Yb 271 (strings_Join.con k):=by
 refine ⟨(Zc3 Tryz.func271 (by kernel_rfl) (show Yy.body=some (cB Yy) by kernel_rfl)),?_⟩
 intro xs rr hrr w vs F L M hF hnd hgl hargs
 unfold strings_Join.con at hrr
 dsimp only at hrr
 split at hrr
 ·rename_i l s
  replace hrr:(strings_Join l s).map (fun r=>(⟨[.val false [.leaf (.str r)]],[]⟩:RR))=some rr:=hrr;unfold strings_Join at hrr;split at hrr
  ·rename_i hc
   obtain ⟨hc1,hc2⟩:=hc;cases hrr
   match vs,hargs with
   | [v1,v2],⟨_,_,_,_,hL,hM,⟨rfl,hv1,hn1⟩,_,_,_,_,hL2,hM2,⟨rfl,hv2,hn2⟩,hn3,hn4⟩=>
   have hv2:v2 = .string (ba s):=hv2;subst hv2;subst hn1;subst hn2;subst hn3;subst hn4;subst hL2;subst hM2;subst hL;subst hM;obtain ⟨A,c,hv,hlc,hrow⟩:=hv1;cases hv
   have fin:∀w',Below w.heap.size w w'→∃v,Ending.returned (.string (ba (Lib.join l s))) = .returned v∧Zuu ⟨[.val false [.leaf (.str (Lib.join l s))]],[]⟩ F [] [] w v w':=fun w' bel=>
    ⟨_,rfl,⟨bel.os,bel.tape,bel.output,bel.size,fun b hb _=>bel.block b hb⟩,[],[],(fun c hc=>nomatch hc),Yk,rfl,rfl,rfl⟩
   rcases hrow with rfl | ⟨g,o,rfl,hB,hcells⟩
   ·refine (Tryz.strings_Join_none A c (ba s) w).mono ?_
    rintro e w' ⟨rfl,rfl⟩;exact fin _ (Below.refl _ _)
   ·have hx:((l.map ba).map (·.data.toList))=l:=by rw [List.map_map];exact List.map_id' l
    have hcall:=Tryz.strings_Join g o c (l.map ba) (ba s) w (fun j x hj=>by
     rw [Yp] at hj;obtain ⟨y,hy,rfl⟩:=Option.map_eq_some_iff.1 hj;obtain ⟨cs,h1,h2⟩:=hcells j y hy;have h2:cs=[.string (ba y)]:=h2;subst h2;have:=h1 0 _ rfl;simpa [Ty.sz] using this) hB.1 (by rw [Yj];exact hc1) (by rw [Yj];exact hlc) (by rw [hx];exact hc2)
    rw [hx,Yj] at hcall;refine hcall.mono ?_;rintro e w' ⟨rfl,bel⟩;exact fin w' bel
  ·cases hrr
 ·cases hrr
def Zdp (k:Nat) (a1:List Str):Option (Str):=Ya (strings_Join a1 []) fun v2=>Ya (Znc k v2) fun v3=>some v3
def Zdp.con (k:Nat):Con:=Sig.con { ps:=[.val false (.sl .str) (ros (.sl .str))],rs:=[.val false [.v .str]],ntmps:=6 } (fun x=>Zdp k x)
theorem Zdp.ok (k:Nat):Zf Yb 220 (Zdp.con k):=fA (cX (cC (Znc.ok k) (cC (strings_Join.ok k) cN))) Tryz.func220
def Z5o (k:Nat) (a1:G28) (a2:G46) (a3:List G52):Option (List Zlc×Str×List Int×Int):=Ya (Zej a2) fun v4=>Ya (Zfe k a1 v4) fun v5=>Ya (Zvd k a1) fun v6=>bif a2.1 != 2 then some ([],[],[],10) else Ya (Zuk a3) fun v7=>bif v7 != a2.2.2.1 then some (v5,[],[],4) else Ya (Zed k a3 a1.1) fun v8=>bif v8 != 0 then some (v5,[],[],5) else Ya (Zse k v6 a3) fun v9=>Ya (Zdp k v9) fun v10=>bif !(v10==a2.2.2.2.2.2.1) then some (v5,[],[],5) else Ya (Zmb k a3) fun v11=>Ya (Zhe k v11) fun v12=>bif decide (a2.2.2.2.1<v12) then some (v5,[],[],11) else Ya (Zfe k a1 (3,a2.2)) fun v13=>Ya (Zs 32 ([(true,(0,[]))]) v13) fun v14=>some (v14,[],[],0)
def Z5o.con (k:Nat):Con:=Sig.con { ps:=[.val true T28 (ros T28),.val true T46 (ros T46),.val false (.sl T52) (ros (.sl T52))],rs:=[.val true [.own 151 Z6b,.v .str,.own 2 (.int .i64),.v (.int .i64)]],ntmps:=62 } (fun x=>Z5o k x.1 x.2.1 x.2.2)
theorem Z5o.ok (k:Nat):Zf Yb 130 (Z5o.con k):=fA (cX (cC (Zvd.ok k) (cC (Zed.ok k) (cC (Zmb.ok k) (cC (Zhe.ok k) (cC (Zse.ok k) (cC (Zfe.ok k) (cC (Zej.ok k) (cC (Zuk.ok k) (cC (Zdp.ok k) cN)))))))))) Tryz.func130
def Zkp (k:Nat) (a1:Int) (a2:Int) (a3:Str):Option (Str):=Ya (Zxd k [a1,a2]) fun v4=>Ya (Zcj k a3) fun v5=>Ya (Zqc v4 v5) fun v6=>Ya (Zdj k v6) fun v7=>some v7
def Zkp.con (k:Nat):Con:=Sig.con { ps:=[.val false (.int .i64) (ros (.int .i64)),.val false (.int .i64) (ros (.int .i64)),.val false .str (ros .str)],rs:=[.val false [.v .str]],ntmps:=15 } (fun x=>Zkp k x.1 x.2.1 x.2.2)
theorem Zkp.ok (k:Nat):Zf Yb 222 (Zkp.con k):=fA (cX (cC (Zxd.ok k) (cC (Zcj.ok k) (cC (Zdj.ok k) cN)))) Tryz.func222
def Zxc.j0 (k:Nat) (a1:List G52) (a2:Int) (a3:Int) (a4:List Str) (a5:List Zq) (a6:Int) (a7:Int) (a8:Int) (a9:Int) (a10:Int) (a11:Str) (a12:List Int) (a13:List Int) (a14:Int) (a15:Int) (a16:Int) (a17:Int) (a18:List Zcd):Option ((Int×Str×Int×List Str×List Zq×Int×Int×Int×Int×Int×Str×List Int×List Int×Int×Int×Int×Int)):=let e19:=(a3,(a4,a5));bif a14==1 then Ya (at? a13 a17) fun v20=>Ya (Zph e19 v20) fun v21=>Ya (Zag k (a4,a5) a2) fun v22=>some (v21,v22,a3,a4,a5,a6,a7,a8,a9,a10,a11,a12,a13,a14,a15,a16,a17) else Ya (Zfj k a1) fun v23=>Ya (at? v23 a15) fun v24=>Ya (Zbg k e19 (a6,(a7,(a8,(a9,(a10,(a11,(a12,a13))))))) a18 v24) fun v25=>some (a2,v25,a3,a4,a5,a6,a7,a8,a9,a10,a11,a12,a13,a14,a15,a16,a17)
def Zxc.j1 (k:Nat) (a1:Int) (a2:Str) (a3:Str) (a4:Int) (a5:Int) (a6:Int) (a7:Int) (a8:Int) (a9:Str) (a10:List Int) (a11:List Int):Option ((Str×Int×Int×Int×Int×Int×Str×List Int×List Int)):=bif ((a2.length):Int)==8 then Ya (Zkp k a8 a1 a2) fun v12=>some (v12,a4,a5,a6,a7,a8,a9,a10,a11) else some (a3,a4,a5,a6,a7,a8,a9,a10,a11)
def Zxc (k:Nat) (a1:G28) (a2:G46) (a3:List G52):Option (List Zlc×Str×List Int×Int):=bif a2.1 != 5 then some ([],[],[],10) else Ya (Zmb k a3) fun v4=>Ya (Znl v4) fun v5=>let e6:=Yc .i64 (v5-a2.2.2.2.2.1);bif e6==0 then Ya (Zej a2) fun v7=>Ya (Zfe k a1 v7) fun v8=>some (v8,[],[0],0) else let e9:=at? v4 a2.2.2.2.2.1;Ya (e9) fun v10=>Ya (e9) fun v11=>Ya (Zxc.j0 k a3 (Yc .i64 (3+v11.2.2.1)) a1.1 a1.2.1 a1.2.2 a2.1 a2.2.1 a2.2.2.1 a2.2.2.2.1 a2.2.2.2.2.1 a2.2.2.2.2.2.1 a2.2.2.2.2.2.2.1 a2.2.2.2.2.2.2.2 v11.1 v11.2.1 v11.2.2.1 v11.2.2.2 v4) fun y12=>Ya (Zxc.j1 k y12.1 y12.2.1 [] y12.2.2.2.2.2.1 y12.2.2.2.2.2.2.1 y12.2.2.2.2.2.2.2.1 y12.2.2.2.2.2.2.2.2.1 y12.2.2.2.2.2.2.2.2.2.1 y12.2.2.2.2.2.2.2.2.2.2.1 y12.2.2.2.2.2.2.2.2.2.2.2.1 y12.2.2.2.2.2.2.2.2.2.2.2.2.1) fun y13=>Ya (Zfe k (y12.2.2.1,(y12.2.2.2.1,y12.2.2.2.2.1)) (y13.2.1,(y13.2.2.1,(y13.2.2.2.1,(y13.2.2.2.2.1,((Yc .i64 (y13.2.2.2.2.2.1+1)),y13.2.2.2.2.2.2)))))) fun v14=>let e15:=(true,(0,[]));Ya (Zs 32 [(false,(2,y13.1)),e15,(false,(y12.1,y12.2.1)),e15] v14) fun v16=>some (v16,[],[(Yc .i64 (e6-1))],0)
def Zxc.con (k:Nat):Con:=Sig.conR { ps:=[.val true T28 (Zzg T28),.val true T46 (Zzg T46),.val false (.sl T52) (ros (.sl T52))],rs:=[.val true [.own 151 Z6b,.v .str,.own 2 (.int .i64),.v (.int .i64)]],ntmps:=95 } (fun x=>Zxc k x.1 x.2.1 x.2.2)
def Zxc.cok (k:Nat):=cX (cC (Zmb.ok k) (cC (Znl.ok k) (cC (Zfj.ok k) (cC (Zbg.ok k) (cC (Zag.ok k) (cC (Zfe.ok k) (cC (Zej.ok k) (cC (Zph.ok k) (cC (Zkp.ok k) cN)))))))))
def Zxc.j0.s (k:Nat):Summ:=lq 95 { tmps:=[(2,.one (.bor T52)),(3,.one (.ptr 0 0)),(4,.one (.ptr 1 0)),(7,.one (.own 5)),(9,.one (.ptr 4 0)),(10,.one (.v (.int .i64)))],slots:=[(0,.box 28 [.v (.int .i64),.v (.sl .str),.v (.sl Zp)]),(1,.box 46 [.v (.int .i64),.v (.int .i64),.v (.int .i64),.v (.int .i64),.v (.int .i64),.v .str,.v (.sl (.int .i64)),.v (.sl (.int .i64))]),(4,.box 139 [.v (.int .i64),.v (.int .i64),.v (.int .i64),.v (.int .i64)]),(5,.arr false 139 Z5b)],nb:=6 } [(.nrm,{ tmps:=[(10,.one (.v (.int .i64))),(11,.one (.v .str))],slots:=[(0,.box 28 [.v (.int .i64),.v (.sl .str),.v (.sl Zp)]),(1,.box 46 [.v (.int .i64),.v (.int .i64),.v (.int .i64),.v (.int .i64),.v (.int .i64),.v .str,.v (.sl (.int .i64)),.v (.sl (.int .i64))]),(4,.box 139 [.v (.int .i64),.v (.int .i64),.v (.int .i64),.v (.int .i64)])],nb:=6 })] (fun x=>Zxc.j0 k x.1 x.2.1 x.2.2.1 x.2.2.2.1 x.2.2.2.2.1 x.2.2.2.2.2.1 x.2.2.2.2.2.2.1 x.2.2.2.2.2.2.2.1 x.2.2.2.2.2.2.2.2.1 x.2.2.2.2.2.2.2.2.2.1 x.2.2.2.2.2.2.2.2.2.2.1 x.2.2.2.2.2.2.2.2.2.2.2.1 x.2.2.2.2.2.2.2.2.2.2.2.2.1 x.2.2.2.2.2.2.2.2.2.2.2.2.2.1 x.2.2.2.2.2.2.2.2.2.2.2.2.2.2.1 x.2.2.2.2.2.2.2.2.2.2.2.2.2.2.2.1 x.2.2.2.2.2.2.2.2.2.2.2.2.2.2.2.2.1 x.2.2.2.2.2.2.2.2.2.2.2.2.2.2.2.2.2)
def Zxc.j0.ok (k:Nat):=(jA (Zxc.cok k):Zj Yb _ (cL (cR (cR (cR (cR (cR (cR (cR (cB Ys))))))))) (Zxc.j0.s k))
def Zxc.j1.s (k:Nat):Summ:=lq 95 { tmps:=[(4,.one (.ptr 1 0)),(10,.one (.v (.int .i64))),(11,.one (.v .str)),(12,.one (.v .str))],slots:=[(1,.box 46 [.v (.int .i64),.v (.int .i64),.v (.int .i64),.v (.int .i64),.v (.int .i64),.v .str,.v (.sl (.int .i64)),.v (.sl (.int .i64))])],nb:=6 } [(.nrm,{ tmps:=[(12,.one (.v .str))],slots:=[(1,.box 46 [.v (.int .i64),.v (.int .i64),.v (.int .i64),.v (.int .i64),.v (.int .i64),.v .str,.v (.sl (.int .i64)),.v (.sl (.int .i64))])],nb:=6 })] (fun x=>Zxc.j1 k x.1 x.2.1 x.2.2.1 x.2.2.2.1 x.2.2.2.2.1 x.2.2.2.2.2.1 x.2.2.2.2.2.2.1 x.2.2.2.2.2.2.2.1 x.2.2.2.2.2.2.2.2.1 x.2.2.2.2.2.2.2.2.2.1 x.2.2.2.2.2.2.2.2.2.2)
def Zxc.j1.ok (k:Nat):=(jA (Zxc.cok k):Zj Yb _ (cL (cR (cR (cR (cR (cR (cR (cR (cR (cR (cB Ys))))))))))) (Zxc.j1.s k))
theorem Zxc.ok (k:Nat):Zf Yb 133 (Zxc.con k):=Z48 (fP (.two .auto (.two .auto (.two .auto (.two .auto (.two .auto (.two .auto (.two .auto (.two (.sum (Zxc.j0.s k)) (.two .auto (.two (.sum (Zxc.j1.s k)) .auto)))))))))) (Zxc.cok k) Tryz.func133 (sC (Zxc.j0.ok k) (sC (Zxc.j1.ok k) sN)))
def Zsn (k:Nat) (a1:G28) (a2:G46):Option (List Zcd):=Ya (Z8c k a1 a2) fun v3=>Ya (Zed k v3 a1.1) fun v4=>bif v4 != 0 then some ([]) else Ya (Zmb k v3) fun v5=>some v5
def Zsn.con (k:Nat):Con:=Sig.con { ps:=[.val true T28 (ros T28),.val true T46 (ros T46)],rs:=[.val false [.own 139 Z5b]],ntmps:=16 } (fun x=>Zsn k x.1 x.2)
theorem Zsn.ok (k:Nat):Zf Yb 134 (Zsn.con k):=fA (cXr true false (cC (Z8c.ok k) (cC (Zed.ok k) (cC (Zmb.ok k) cN)))) Tryz.func134
def Zwc.j0 (k:Nat) (a1:Int) (a2:List Str) (a3:List Zq) (a4:Int) (a5:Int) (a6:Int) (a7:Int) (a8:Int) (a9:Int) (a10:Str) (a11:List Int) (a12:List Int):Option ((Int×Int×Int×Int×Int×Int×Str×List Int×List Int)):=bif a5==5 then Ya (Zsn k (a1,(a2,a3)) (a5,(a6,(a7,(a8,(a9,(a10,(a11,a12)))))))) fun v13=>Ya (Znl v13) fun v14=>some (Yc .i64 (v14-a9),a5,a6,a7,a8,a9,a10,a11,a12) else some (a4,a5,a6,a7,a8,a9,a10,a11,a12)
def Zwc (k:Nat) (a1:G28) (a2:G54):Option (List Zlc×Str×List Int×Int):=Ya (Zqh k a1) fun v3=>Ya (Z1c k a1.2) fun v4=>bif v4.1==1000000 then some ([],[],[],9) else let e5:=(v3.2.2.1,(v3.2.2.2.1,(v3.2.2.2.2.1,(v3.2.2.2.2.2.1,(v3.2.2.2.2.2.2.1,v3.2.2.2.2.2.2.2.1)))));let e6:=(v3.1,(v3.2.1,e5));Ya (Z8c k a1 e6) fun v7=>bif a2.1==1 then Ya (Zpe k a1 e6 a2) fun v8=>some (v8.1,v8.2.1,v8.2.2.1,v8.2.2.2) else bif a2.1==2 then Ya (Z6o k a1 e6 v7 a2.2.2.2.2) fun v9=>some (v9.1,v9.2.1,v9.2.2.1,v9.2.2.2) else bif a2.1==3 then Ya (Z5o k a1 e6 v7) fun v10=>some (v10.1,v10.2.1,v10.2.2.1,v10.2.2.2) else bif a2.1==4 then bif (v3.1==1)||(v3.1==5) then some ([],[],[],10) else Ya (Zej e6) fun v11=>Ya (Zfe k a1 v11) fun v12=>some (v12,[],[],0) else bif a2.1==5 then bif v3.1 != 4 then some ([],[],[],10) else Ya (Zfe k a1 (5,(0,e5))) fun v13=>Ya (Zs 32 ([(false,(2,[])),(true,(0,[]))]) v13) fun v14=>some (v14,[],[],0) else bif a2.1==6 then Ya (Zxc k a1 e6 v7) fun v15=>some (v15.1,v15.2.1,v15.2.2.1,v15.2.2.2) else bif a2.1==7 then bif decide (a1.1≤a2.2.1) then some ([],[],[],8) else Ya (Zqe k a1) fun v16=>let e17:=at? v16 a2.2.1;Ya (e17) fun v18=>Ya (e17) fun v19=>some ([],v19,[],0) else bif a2.1==8 then Ya (Zwc.j0 k a1.1 a1.2.1 a1.2.2 0 v3.1 v3.2.1 v3.2.2.1 v3.2.2.2.1 v3.2.2.2.2.1 v3.2.2.2.2.2.1 v3.2.2.2.2.2.2.1 v3.2.2.2.2.2.2.2.1) fun y20=>Ya (Zuk v7) fun v21=>Ya (Zge k v7) fun v22=>Ya (Z8j y20.2.2.2.2.2.2.2.1) fun v23=>Ya (Z8j y20.2.2.2.2.2.2.2.2) fun v24=>some ([],[],[y20.2.1,y20.2.2.1,v21,v22,y20.1,(Yc .i64 ((Yc .i64 (24-v23))-v24))],0) else bif a2.1==9 then Ya (Z2b k v3.2.2.2.2.2.2.1 v3.2.2.2.2.2.2.2.1 a2.2.1) fun v25=>bif !v25.2 then some ([],[],[],11) else Ya (Zmc k v3.2.2.2.2.2.2.1) fun v26=>Ya (Zmc k v25.1) fun v27=>Ya (Zid k (intBits .or .i64 v26 v27)) fun v28=>Ya (Zfe k a1 (v3.1,(v3.2.1,(v3.2.2.1,(v3.2.2.2.1,(v3.2.2.2.2.1,(v3.2.2.2.2.2.1,(v28,v3.2.2.2.2.2.2.2.1)))))))) fun v29=>some (v29,[],[],0) else bif a2.1==10 then Ya (Zfe k a1 (v3.1,(v3.2.1,(v3.2.2.1,(v3.2.2.2.1,(v3.2.2.2.2.1,(v3.2.2.2.2.2.1,([],v3.2.2.2.2.2.2.2.1)))))))) fun v30=>some (v30,[],[],0) else Ya (Zqd k a1 e6) fun v31=>some (v31,[],[],0)
def Zwc.con (k:Nat):Con:=Sig.con { ps:=[.val true T28 (ros T28),.val true T54 (ros T54)],rs:=[.val true [.own 151 Z6b,.v .str,.own 2 (.int .i64),.v (.int .i64)]],ntmps:=175 } (fun x=>Zwc k x.1 x.2)
def Zwc.cok (k:Nat):=cXr true false (cC (Zqe.ok k) (cC (Zqh.ok k) (cC (Zqd.ok k) (cC (Z8c.ok k) (cC (Znl.ok k) (cC (Z1c.ok k) (cC (Zpe.ok k) (cC (Z6o.ok k) (cC (Z5o.ok k) (cC (Zfe.ok k) (cC (Zej.ok k) (cC (Zxc.ok k) (cC (Zsn.ok k) (cC (Zuk.ok k) (cC (Zge.ok k) (cC (Z8j.ok k) (cC (Z2b.ok k) (cC (Zid.ok k) (cC (Zmc.ok k) cN)))))))))))))))))))
def Zwc.j0.s (k:Nat):Summ:=lq 175 { tmps:=[(2,.eptr [.v (.int .i64),.bor .str,.bor Zp]),(5,.one (.ptr 4 0)),(10,.one (.v (.int .i64)))],slots:=[(4,.box 46 [.v (.int .i64),.v (.int .i64),.v (.int .i64),.v (.int .i64),.v (.int .i64),.v .str,.own 7,.own 8]),(7,.arr false 2 (.int .i64)),(8,.arr false 2 (.int .i64))],nb:=9 } [(.nrm,{ tmps:=[(10,.one (.v (.int .i64)))],slots:=[(4,.box 46 [.v (.int .i64),.v (.int .i64),.v (.int .i64),.v (.int .i64),.v (.int .i64),.v .str,.own 9,.own 10]),(9,.arr false 2 (.int .i64)),(10,.arr false 2 (.int .i64))],nb:=11 })] (fun x=>Zwc.j0 k x.1 x.2.1 x.2.2.1 x.2.2.2.1 x.2.2.2.2.1 x.2.2.2.2.2.1 x.2.2.2.2.2.2.1 x.2.2.2.2.2.2.2.1 x.2.2.2.2.2.2.2.2.1 x.2.2.2.2.2.2.2.2.2.1 x.2.2.2.2.2.2.2.2.2.2.1 x.2.2.2.2.2.2.2.2.2.2.2)
def Zwc.j0.ok (k:Nat):=(jA (Zwc.cok k):Zj Yb _ (cL (cR (cL (cR (cR (cR (cR (cR (cR (cR (cR (cR (cR (cR (cR (cR (cR (cR (cO (cR (cL (cR (cR (cR (cR (cB Tryz.f62)))))))))))))))))))))))))) (Zwc.j0.s k))
theorem Zwc.ok (k:Nat):Zf Yb 62 (Zwc.con k):=fP (.two .auto (.two .auto (.two .auto (.two .auto (.two (.two .auto (.one (.two .auto (.two .auto (.two .auto (.two .auto (.two .auto (.two .auto (.two .auto (.two .auto (.two .auto (.two .auto (.two .auto (.two .auto (.two .auto (.two .auto (.two .auto (.two (.two .auto (.two (.sum (Zwc.j0.s k)) .auto)) .auto)))))))))))))))))) .auto))))) (Zwc.cok k) Tryz.func62 (sC (Zwc.j0.ok k) sN)
def Z6j (k:Nat) (a1:G28) (a2:G54) (a3:Int) (a4:List Int):Option (Int×List Str×List Zq×Int):=bif decide (400<((a4.length):Int)) then some (0,[],[],2) else Ya (Ztn k a1) fun v5=>bif !v5 then some (0,[],[],1) else Ya (Zep a2) fun v6=>bif (!v6)||(decide (a3<0)) then some (0,[],[],1) else Ya (Zwc k a1 a2) fun v7=>Ya (Z4o k a1 v7.1 a3 a4) fun v8=>some (v8.1,v8.2.1,v8.2.2,0)
def Z6j.con (k:Nat):Con:=Sig.con { ps:=[.val true T28 (ros T28),.val true T54 (ros T54),.val false (.int .i64) (ros (.int .i64)),.val false (.sl (.int .i64)) (ros (.sl (.int .i64)))],rs:=[.val true [.v (.int .i64),.own 9 .str,.own 195 Zp,.v (.int .i64)]],ntmps:=37 } (fun x=>Z6j k x.1 x.2.1 x.2.2.1 x.2.2.2)
theorem Z6j.ok (k:Nat):Zf Yb 15 (Z6j.con k):=fA (cXr true false (cC (Ztn.ok k) (cC (Zep.ok k) (cC (Z4o.ok k) (cC (Zwc.ok k) cN))))) Tryz.func15
def Z9e.l0:Nat→List Str→Int→Int→Option (Int ⊕ Int)
 | 0,_,_,_=>none
 | j+1,a1,a2,a3=>bif decide (a3<((a1.length):Int)) then Ya (at? a1 a3) fun v4=>let e5:=Yc .i64 (a2-((v4.length):Int));bif decide (e5<0) then some (.inr (-1)) else Z9e.l0 j a1 e5 (Yc .i64 (a3+1)) else some (.inl a2)
def Z9e (k:Nat) (a1:List Str) (a2:Int):Option (Int):=let e3:=Yc .i64 (a2-((a1.length):Int));bif decide (e3<0) then some (-1) else Ya (Z9e.l0 k a1 e3 0) fun
  | .inl y4=>some y4
  | .inr y5=>some y5
def Z9e.con (k:Nat):Con:=Sig.con { ps:=[.val false (.sl .str) (ros (.sl .str)),.val false (.int .i64) (ros (.int .i64))],rs:=[.val false [.v (.int .i64)]],ntmps:=28 } (fun x=>Z9e k x.1 x.2)
def Z9e.cok (k:Nat):=cX cN
def Z9e.l0.s (k:Nat):Summ:=lp 28 { tmps:=[(0,.one (.bor .str)),(1,.one (.v (.int .i64))),(5,.one (.v (.int .i64)))],slots:=[],nb:=0 } [(.exit 0,{ tmps:=[(1,.one (.v (.int .i64)))],slots:=[],nb:=0 }),(.ret,{ tmps:=[(4,.one (.v (.int .i64)))],slots:=[],nb:=0 })] (fun j x=>Z9e.l0 j x.1 x.2.1 x.2.2) k
def Z9e.l0.ok (k:Nat):=(lA (Z9e.cok k):Zj Yb _ (.loop (cO (cO (cR (cL (cR (cR (cR (cB Tryz.f148))))))))) (Z9e.l0.s k))
theorem Z9e.ok (k:Nat):Zf Yb 148 (Z9e.con k):=fP (.two .auto (.two .auto (.two .auto (.two (.two .auto (.one (.sum (Z9e.l0.s k)))) .auto)))) (Z9e.cok k) Tryz.func148 (sC (Z9e.l0.ok k) sN)
def Zzp (a1:Zq) (a2:Int):Option (Int):=let e3:=Yc .i64 (a2-((a1.2.length):Int));bif decide (e3<0) then some (-1) else some e3
def Zzp.con (k:Nat):Con:=Sig.con { ps:=[.val true Zp (ros Zp),.val false (.int .i64) (ros (.int .i64))],rs:=[.val false [.v (.int .i64)]],ntmps:=13 } (fun x=>Zzp x.1 x.2)
theorem Zzp.ok (k:Nat):Zf Yb 226 (Zzp.con k):=fA (cX cN) Tryz.func226
def Z8e.l0:Nat→List Zq→Int→Int→Option (Int ⊕ Int)
 | 0,_,_,_=>none
 | j+1,a1,a2,a3=>bif decide (a3<((a1.length):Int)) then Ya (at? a1 a3) fun v4=>Ya (Zzp v4 a2) fun v5=>bif decide (v5<0) then some (.inr (-1)) else Z8e.l0 j a1 v5 (Yc .i64 (a3+1)) else some (.inl a2)
def Z8e (k:Nat) (a1:List Zq) (a2:Int):Option (Int):=let e3:=Yc .i64 (a2-((a1.length):Int));bif decide (e3<0) then some (-1) else Ya (Z8e.l0 k a1 e3 0) fun
  | .inl y4=>some y4
  | .inr y5=>some y5
def Z8e.con (k:Nat):Con:=Sig.con { ps:=[.val false (.sl Zp) (ros (.sl Zp)),.val false (.int .i64) (ros (.int .i64))],rs:=[.val false [.v (.int .i64)]],ntmps:=27 } (fun x=>Z8e k x.1 x.2)
def Z8e.cok (k:Nat):=cX (cC (Zzp.ok k) cN)
def Z8e.l0.s (k:Nat):Summ:=lp 27 { tmps:=[(0,.one (.bor Zp)),(1,.one (.v (.int .i64))),(5,.one (.v (.int .i64)))],slots:=[],nb:=0 } [(.exit 0,{ tmps:=[(1,.one (.v (.int .i64)))],slots:=[],nb:=0 }),(.ret,{ tmps:=[(4,.one (.v (.int .i64)))],slots:=[],nb:=0 })] (fun j x=>Z8e.l0 j x.1 x.2.1 x.2.2) k
def Z8e.l0.ok (k:Nat):=(lA (Z8e.cok k):Zj Yb _ (.loop (cO (cO (cR (cL (cR (cR (cR (cB Tryz.f149))))))))) (Z8e.l0.s k))
theorem Z8e.ok (k:Nat):Zf Yb 149 (Z8e.con k):=fP (.two .auto (.two .auto (.two .auto (.two (.two .auto (.one (.sum (Z8e.l0.s k)))) .auto)))) (Z8e.cok k) Tryz.func149 (sC (Z8e.l0.ok k) sN)
def Z0p (k:Nat) (a1:G26) (a2:Int):Option (Int):=Ya (Z9e k a1.1 a2) fun v3=>bif decide (v3<0) then some (-1) else Ya (Z8e k a1.2 v3) fun v4=>bif decide (v4<0) then some (-1) else some v4
def Z0p.con (k:Nat):Con:=Sig.con { ps:=[.val true T26 (ros T26),.val false (.int .i64) (ros (.int .i64))],rs:=[.val false [.v (.int .i64)]],ntmps:=18 } (fun x=>Z0p k x.1 x.2)
theorem Z0p.ok (k:Nat):Zf Yb 67 (Z0p.con k):=fA (cXr true false (cC (Z9e.ok k) (cC (Z8e.ok k) cN))) Tryz.func67
def Z1p (k:Nat) (a1:G28) (a2:Int):Option (Int):=Ya (Z0p k a1.2 a2) fun v3=>bif decide (v3<0) then some (-1) else some v3
def Z1p.con (k:Nat):Con:=Sig.con { ps:=[.val true T28 (ros T28),.val false (.int .i64) (ros (.int .i64))],rs:=[.val false [.v (.int .i64)]],ntmps:=12 } (fun x=>Z1p k x.1 x.2)
theorem Z1p.ok (k:Nat):Zf Yb 19 (Z1p.con k):=fA (cXr true false (cC (Z0p.ok k) cN)) Tryz.func19
end Go.Proofs.Qz
