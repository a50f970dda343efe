/- What the law FnFold needs, part 9 of 15: the Lean functions of the Go functions that it reaches, with the proofs that the calls come to what they say, and plain facts about them. Conditions: those that each theorem states. Written by a session and by its programs (after the kit's printer). -/
import Derived.Test.YtmohoeinamddcaaGreatDoorXFnFold5
import Derived.Test.YtmohoeinamddcaaGreatDoorXFnFold7
open Option renaming bind → Ya
open Go.IntKind renaming wrap → Yb
open Go.Proofs.Tryz renaming prog → Yc, f44 → Yj, f119 → Yp, f171 → Yw, f177 → Yx, f45 → Yy, f79 → Yz
open Int renaming toNat → Yd, tmod → Yf, toNat_natCast → Yg, tdiv → Yk
open List renaming set → Ye, replicate → Yh, drop_eq_getElem_cons → Yl, drop_length → Ym, getElem?_eq_getElem → Yn, length_map → Yo, append_assoc → Yq, drop_zero → Yr, getElem_mem → Ys, take_add_one → Yt
open Nat renaming zero_add → Yi, le_refl → Yu, sub_self → Yv
namespace Go.Proofs.Qz
open Go Go.RowKit
set_option linter.unusedVariables false
set_option linter.defProp false
def strings_Join (l:List Str) (s:Str):Option Str:=if l.length≤140737488355328∧(Lib.join l s).length≤140737488355328 then some (Lib.join l s) else none
def strings_Join.con (k:Nat):Con:={ ms:=[.val [.ro],.val [.ro]],f:=fun xs=>match xs with
 | [.val false [.leaf (.bor .str l)],.val false [.leaf (.str s)]]=>.opt Str (strings_Join l s) fun r=>⟨[.val false [.leaf (.str r)]],[]⟩
 | _=>.fail }
theorem strings_Join.ok (k:Nat):Ze Yc 177 (strings_Join.con k):=by
 refine ⟨(Zu1 Tryz.func177 (by kernel_rfl) (show Yx.body=some (cB Yx) by kernel_rfl)),?_⟩
 intro xs rr hrr w vs F L M hF hnd hgl hargs
 unfold strings_Join.con at hrr
 dsimp only at hrr
 split at hrr
 ·rename_i l s
  replace hrr:(strings_Join l s).map (fun r=>(⟨[.val false [.leaf (.str r)]],[]⟩:RR))=some rr:=hrr;unfold strings_Join at hrr;split at hrr
  ·rename_i hc
   obtain ⟨hc1,hc2⟩:=hc;cases hrr
   match vs,hargs with
   | [v1,v2],⟨_,_,_,_,hL,hM,⟨rfl,hv1,hn1⟩,_,_,_,_,hL2,hM2,⟨rfl,hv2,hn2⟩,hn3,hn4⟩=>
   have hv2:v2 = .string (ba s):=hv2;subst hv2;subst hn1;subst hn2;subst hn3;subst hn4;subst hL2;subst hM2;subst hL;subst hM;obtain ⟨A,c,hv,hlc,hrow⟩:=hv1;cases hv
   have fin:∀w',Below w.heap.size w w'→∃v,Ending.returned (.string (ba (Lib.join l s))) = .returned v∧Ztt ⟨[.val false [.leaf (.str (Lib.join l s))]],[]⟩ F [] [] w v w':=fun w' bel=>
    ⟨_,rfl,⟨bel.os,bel.tape,bel.output,bel.size,fun b hb _=>bel.block b hb⟩,[],[],(fun c hc=>nomatch hc),List.nodup_nil,rfl,rfl,rfl⟩
   rcases hrow with rfl | ⟨g,o,rfl,hB,hcells⟩
   ·refine (Tryz.strings_Join_none A c (ba s) w).mono ?_
    rintro e w' ⟨rfl,rfl⟩;exact fin _ (Below.refl _ _)
   ·have hx:((l.map ba).map (·.data.toList))=l:=by rw [List.map_map];exact List.map_id' l
    have hcall:=Tryz.strings_Join g o c (l.map ba) (ba s) w (fun j x hj=>by
     rw [List.getElem?_map] at hj;obtain ⟨y,hy,rfl⟩:=Option.map_eq_some_iff.1 hj;obtain ⟨cs,h1,h2⟩:=hcells j y hy;have h2:cs=[.string (ba y)]:=h2;subst h2;have:=h1 0 _ rfl;simpa [Ty.sz] using this) hB.1 (by rw [Yo];exact hc1) (by rw [Yo];exact hlc) (by rw [hx];exact hc2)
    rw [hx,Yo] at hcall;refine hcall.mono ?_;rintro e w' ⟨rfl,bel⟩;exact fin w' bel
  ·cases hrr
 ·cases hrr
def Z0o (k:Nat) (a1:List Str):Option (Str):=Ya (strings_Join a1 []) fun v2=>Ya (Zsc k v2) fun v3=>some v3
def Z0o.con (k:Nat):Con:=Sig.con { ps:=[.val false (.sl .str) (ros (.sl .str))],rs:=[.val false [.v .str]],ntmps:=6 } (fun x=>Z0o k x)
theorem Z0o.ok (k:Nat):Ze Yc 139 (Z0o.con k):=fA (cX (cC (Zsc.ok k) (cC (strings_Join.ok k) cN))) Tryz.func139
def Zso (k:Nat) (a1:G28) (a2:G58) (a3:List G45):Option (List Zyg×Str×List Int×Int):=Ya (Z2i a2) fun v4=>Ya (Zke k a1 v4) fun v5=>Ya (Zhd k a1) fun v6=>bif a2.1 != 2 then some ([],[],[],10) else Ya (Zbk a3) fun v7=>bif v7 != a2.2.2.1 then some (v5,[],[],4) else Ya (Zbd k a3 a1.1) fun v8=>bif v8 != 0 then some (v5,[],[],5) else Ya (Zxe k v6 a3) fun v9=>Ya (Z0o k v9) fun v10=>bif !(v10==a2.2.2.2.2.2.1) then some (v5,[],[],5) else Ya (Zpb k a3) fun v11=>Ya (Zme k v11) fun v12=>bif decide (a2.2.2.2.1<v12) then some (v5,[],[],11) else Ya (Zke k a1 (3,a2.2)) fun v13=>Ya (Zmb 32 ([(true,(0,[]))]) v13) fun v14=>some (v14,[],[],0)
def Zso.con (k:Nat):Con:=Sig.con { ps:=[.val true T28 (ros T28),.val true T58 (ros T58),.val false (.sl T45) (ros (.sl T45))],rs:=[.val true [.own 108 Zte,.v .str,.own 2 (.int .i64),.v (.int .i64)]],ntmps:=62 } (fun x=>Zso k x.1 x.2.1 x.2.2)
theorem Zso.ok (k:Nat):Ze Yc 76 (Zso.con k):=fA (cX (cC (Zhd.ok k) (cC (Zbd.ok k) (cC (Zpb.ok k) (cC (Zme.ok k) (cC (Zke.ok k) (cC (Z2i.ok k) (cC (Zbk.ok k) (cC (Zxe.ok k) (cC (Z0o.ok k) cN)))))))))) Tryz.func76
def Z5o (k:Nat) (a1:Int) (a2:Int) (a3:Str):Option (Str):=Ya (Zxd k [a1,a2]) fun v4=>Ya (Z0i k a3) fun v5=>Ya (Zge v4 v5) fun v6=>Ya (Z1i k v6) fun v7=>some v7
def Z5o.con (k:Nat):Con:=Sig.con { ps:=[.val false (.int .i64) (ros (.int .i64)),.val false (.int .i64) (ros (.int .i64)),.val false .str (ros .str)],rs:=[.val false [.v .str]],ntmps:=15 } (fun x=>Z5o k x.1 x.2.1 x.2.2)
theorem Z5o.ok (k:Nat):Ze Yc 141 (Z5o.con k):=fA (cX (cC (Zxd.ok k) (cC (Z0i.ok k) (cC (Z1i.ok k) cN)))) Tryz.func141
def Zwc.j0 (k:Nat) (a1:List G45) (a2:Int) (a3:Int) (a4:List Str) (a5:List Zz) (a6:Int) (a7:Int) (a8:Int) (a9:Int) (a10:Int) (a11:Str) (a12:List Int) (a13:List Int) (a14:Int) (a15:Int) (a16:Int) (a17:Int) (a18:List G96):Option ((Int×Str×Int×List Str×List Zz×Int×Int×Int×Int×Int×Str×List Int×List Int×Int×Int×Int×Int)):=let e19:=(a3,(a4,a5));bif a14==1 then Ya (at? a13 a17) fun v20=>Ya (Zgh e19 v20) fun v21=>Ya (Z0f k (a4,a5) a2) fun v22=>some (v21,v22,a3,a4,a5,a6,a7,a8,a9,a10,a11,a12,a13,a14,a15,a16,a17) else Ya (Z3i k a1) fun v23=>Ya (at? v23 a15) fun v24=>Ya (Z1f k e19 (a6,(a7,(a8,(a9,(a10,(a11,(a12,a13))))))) a18 v24) fun v25=>some (a2,v25,a3,a4,a5,a6,a7,a8,a9,a10,a11,a12,a13,a14,a15,a16,a17)
def Zwc.j1 (k:Nat) (a1:Int) (a2:Str) (a3:Str) (a4:Int) (a5:Int) (a6:Int) (a7:Int) (a8:Int) (a9:Str) (a10:List Int) (a11:List Int):Option ((Str×Int×Int×Int×Int×Int×Str×List Int×List Int)):=bif ((a2.length):Int)==8 then Ya (Z5o k a8 a1 a2) fun v12=>some (v12,a4,a5,a6,a7,a8,a9,a10,a11) else some (a3,a4,a5,a6,a7,a8,a9,a10,a11)
def Zwc (k:Nat) (a1:G28) (a2:G58) (a3:List G45):Option (List Zyg×Str×List Int×Int):=bif a2.1 != 5 then some ([],[],[],10) else Ya (Zpb k a3) fun v4=>Ya (Z0k v4) fun v5=>let e6:=Yb .i64 (v5-a2.2.2.2.2.1);bif e6==0 then Ya (Z2i a2) fun v7=>Ya (Zke k a1 v7) fun v8=>some (v8,[],[0],0) else let e9:=at? v4 a2.2.2.2.2.1;Ya (e9) fun v10=>Ya (e9) fun v11=>Ya (Zwc.j0 k a3 (Yb .i64 (3+v11.2.2.1)) a1.1 a1.2.1 a1.2.2 a2.1 a2.2.1 a2.2.2.1 a2.2.2.2.1 a2.2.2.2.2.1 a2.2.2.2.2.2.1 a2.2.2.2.2.2.2.1 a2.2.2.2.2.2.2.2 v11.1 v11.2.1 v11.2.2.1 v11.2.2.2 v4) fun y12=>Ya (Zwc.j1 k y12.1 y12.2.1 [] y12.2.2.2.2.2.1 y12.2.2.2.2.2.2.1 y12.2.2.2.2.2.2.2.1 y12.2.2.2.2.2.2.2.2.1 y12.2.2.2.2.2.2.2.2.2.1 y12.2.2.2.2.2.2.2.2.2.2.1 y12.2.2.2.2.2.2.2.2.2.2.2.1 y12.2.2.2.2.2.2.2.2.2.2.2.2.1) fun y13=>Ya (Zke k (y12.2.2.1,(y12.2.2.2.1,y12.2.2.2.2.1)) (y13.2.1,(y13.2.2.1,(y13.2.2.2.1,(y13.2.2.2.2.1,((Yb .i64 (y13.2.2.2.2.2.1+1)),y13.2.2.2.2.2.2)))))) fun v14=>let e15:=(true,(0,[]));Ya (Zmb 32 [(false,(2,y13.1)),e15,(false,(y12.1,y12.2.1)),e15] v14) fun v16=>some (v16,[],[(Yb .i64 (e6-1))],0)
def Zwc.con (k:Nat):Con:=Sig.conR { ps:=[.val true T28 (Zze T28),.val true T58 (Zze T58),.val false (.sl T45) (ros (.sl T45))],rs:=[.val true [.own 108 Zte,.v .str,.own 2 (.int .i64),.v (.int .i64)]],ntmps:=95 } (fun x=>Zwc k x.1 x.2.1 x.2.2)
def Zwc.cok (k:Nat):=cX (cC (Zpb.ok k) (cC (Z0k.ok k) (cC (Zke.ok k) (cC (Z2i.ok k) (cC (Zgh.ok k) (cC (Z0f.ok k) (cC (Z3i.ok k) (cC (Z1f.ok k) (cC (Z5o.ok k) cN)))))))))
def Zwc.j0.s (k:Nat):Summ:=lq 95 { tmps:=[(2,.one (.bor T45)),(3,.one (.ptr 0 0)),(4,.one (.ptr 1 0)),(7,.one (.own 5)),(9,.one (.ptr 4 0)),(10,.one (.v (.int .i64)))],slots:=[(0,.box 28 [.v (.int .i64),.v (.sl .str),.v (.sl Zx)]),(1,.box 58 [.v (.int .i64),.v (.int .i64),.v (.int .i64),.v (.int .i64),.v (.int .i64),.v .str,.v (.sl (.int .i64)),.v (.sl (.int .i64))]),(4,.box 96 [.v (.int .i64),.v (.int .i64),.v (.int .i64),.v (.int .i64)]),(5,.arr false 96 T96)],nb:=6 } [(.nrm,{ tmps:=[(10,.one (.v (.int .i64))),(11,.one (.v .str))],slots:=[(0,.box 28 [.v (.int .i64),.v (.sl .str),.v (.sl Zx)]),(1,.box 58 [.v (.int .i64),.v (.int .i64),.v (.int .i64),.v (.int .i64),.v (.int .i64),.v .str,.v (.sl (.int .i64)),.v (.sl (.int .i64))]),(4,.box 96 [.v (.int .i64),.v (.int .i64),.v (.int .i64),.v (.int .i64)])],nb:=6 })] (fun x=>Zwc.j0 k x.1 x.2.1 x.2.2.1 x.2.2.2.1 x.2.2.2.2.1 x.2.2.2.2.2.1 x.2.2.2.2.2.2.1 x.2.2.2.2.2.2.2.1 x.2.2.2.2.2.2.2.2.1 x.2.2.2.2.2.2.2.2.2.1 x.2.2.2.2.2.2.2.2.2.2.1 x.2.2.2.2.2.2.2.2.2.2.2.1 x.2.2.2.2.2.2.2.2.2.2.2.2.1 x.2.2.2.2.2.2.2.2.2.2.2.2.2.1 x.2.2.2.2.2.2.2.2.2.2.2.2.2.2.1 x.2.2.2.2.2.2.2.2.2.2.2.2.2.2.2.1 x.2.2.2.2.2.2.2.2.2.2.2.2.2.2.2.2.1 x.2.2.2.2.2.2.2.2.2.2.2.2.2.2.2.2.2)
def Zwc.j0.ok (k:Nat):=(jA (Zwc.cok k):Zo Yc _ (cL (cR (cR (cR (cR (cR (cR (cR (cB Yz))))))))) (Zwc.j0.s k))
def Zwc.j1.s (k:Nat):Summ:=lq 95 { tmps:=[(4,.one (.ptr 1 0)),(10,.one (.v (.int .i64))),(11,.one (.v .str)),(12,.one (.v .str))],slots:=[(1,.box 58 [.v (.int .i64),.v (.int .i64),.v (.int .i64),.v (.int .i64),.v (.int .i64),.v .str,.v (.sl (.int .i64)),.v (.sl (.int .i64))])],nb:=6 } [(.nrm,{ tmps:=[(12,.one (.v .str))],slots:=[(1,.box 58 [.v (.int .i64),.v (.int .i64),.v (.int .i64),.v (.int .i64),.v (.int .i64),.v .str,.v (.sl (.int .i64)),.v (.sl (.int .i64))])],nb:=6 })] (fun x=>Zwc.j1 k x.1 x.2.1 x.2.2.1 x.2.2.2.1 x.2.2.2.2.1 x.2.2.2.2.2.1 x.2.2.2.2.2.2.1 x.2.2.2.2.2.2.2.1 x.2.2.2.2.2.2.2.2.1 x.2.2.2.2.2.2.2.2.2.1 x.2.2.2.2.2.2.2.2.2.2)
def Zwc.j1.ok (k:Nat):=(jA (Zwc.cok k):Zo Yc _ (cL (cR (cR (cR (cR (cR (cR (cR (cR (cR (cB Yz))))))))))) (Zwc.j1.s k))
theorem Zwc.ok (k:Nat):Ze Yc 79 (Zwc.con k):=Zf1 (fP (.two .auto (.two .auto (.two .auto (.two .auto (.two .auto (.two .auto (.two .auto (.two (.sum (Zwc.j0.s k)) (.two .auto (.two (.sum (Zwc.j1.s k)) .auto)))))))))) (Zwc.cok k) Tryz.func79 (sC (Zwc.j0.ok k) (sC (Zwc.j1.ok k) sN)))
def Zqc.j0 (k:Nat) (a1:Int) (a2:List Str) (a3:List Zz) (a4:Int) (a5:Int) (a6:Int) (a7:Int) (a8:Int) (a9:Int) (a10:Str) (a11:List Int) (a12:List Int):Option ((Int×Int×Int×Int×Int×Int×Str×List Int×List Int)):=bif a5==5 then Ya (Zyk k (a1,(a2,a3)) (a5,(a6,(a7,(a8,(a9,(a10,(a11,a12)))))))) fun v13=>Ya (Z0k v13) fun v14=>some (Yb .i64 (v14-a9),a5,a6,a7,a8,a9,a10,a11,a12) else some (a4,a5,a6,a7,a8,a9,a10,a11,a12)
def Zqc (k:Nat) (a1:G28) (a2:G47):Option (List Zyg×Str×List Int×Int):=Ya (Zpf k a1) fun v3=>Ya (Z0c k a1.2) fun v4=>bif v4.1==1000000 then some ([],[],[],9) else let e5:=(v3.2.2.1,(v3.2.2.2.1,(v3.2.2.2.2.1,(v3.2.2.2.2.2.1,(v3.2.2.2.2.2.2.1,v3.2.2.2.2.2.2.2.1)))));let e6:=(v3.1,(v3.2.1,e5));Ya (Z4c k a1 e6) fun v7=>bif a2.1==1 then Ya (Zve k a1 e6 a2) fun v8=>some (v8.1,v8.2.1,v8.2.2.1,v8.2.2.2) else bif a2.1==2 then Ya (Zto k a1 e6 v7 a2.2.2.2.2) fun v9=>some (v9.1,v9.2.1,v9.2.2.1,v9.2.2.2) else bif a2.1==3 then Ya (Zso k a1 e6 v7) fun v10=>some (v10.1,v10.2.1,v10.2.2.1,v10.2.2.2) else bif a2.1==4 then bif (v3.1==1)||(v3.1==5) then some ([],[],[],10) else Ya (Z2i e6) fun v11=>Ya (Zke k a1 v11) fun v12=>some (v12,[],[],0) else bif a2.1==5 then bif v3.1 != 4 then some ([],[],[],10) else Ya (Zke k a1 (5,(0,e5))) fun v13=>Ya (Zmb 32 ([(false,(2,[])),(true,(0,[]))]) v13) fun v14=>some (v14,[],[],0) else bif a2.1==6 then Ya (Zwc k a1 e6 v7) fun v15=>some (v15.1,v15.2.1,v15.2.2.1,v15.2.2.2) else bif a2.1==7 then bif decide (a1.1≤a2.2.1) then some ([],[],[],8) else Ya (Zvd k a1) fun v16=>let e17:=at? v16 a2.2.1;Ya (e17) fun v18=>Ya (e17) fun v19=>some ([],v19,[],0) else bif a2.1==8 then Ya (Zqc.j0 k a1.1 a1.2.1 a1.2.2 0 v3.1 v3.2.1 v3.2.2.1 v3.2.2.2.1 v3.2.2.2.2.1 v3.2.2.2.2.2.1 v3.2.2.2.2.2.2.1 v3.2.2.2.2.2.2.2.1) fun y20=>Ya (Zbk v7) fun v21=>Ya (Zle k v7) fun v22=>Ya (Zsj y20.2.2.2.2.2.2.2.1) fun v23=>Ya (Zsj y20.2.2.2.2.2.2.2.2) fun v24=>some ([],[],[y20.2.1,y20.2.2.1,v21,v22,y20.1,(Yb .i64 ((Yb .i64 (24-v23))-v24))],0) else bif a2.1==9 then Ya (Z2b k v3.2.2.2.2.2.2.1 v3.2.2.2.2.2.2.2.1 a2.2.1) fun v25=>bif !v25.2 then some ([],[],[],11) else Ya (Zrc k v3.2.2.2.2.2.2.1) fun v26=>Ya (Zrc k v25.1) fun v27=>Ya (Zid k (intBits .or .i64 v26 v27)) fun v28=>Ya (Zke k a1 (v3.1,(v3.2.1,(v3.2.2.1,(v3.2.2.2.1,(v3.2.2.2.2.1,(v3.2.2.2.2.2.1,(v28,v3.2.2.2.2.2.2.2.1)))))))) fun v29=>some (v29,[],[],0) else bif a2.1==10 then Ya (Zke k a1 (v3.1,(v3.2.1,(v3.2.2.1,(v3.2.2.2.1,(v3.2.2.2.2.1,(v3.2.2.2.2.2.1,([],v3.2.2.2.2.2.2.2.1)))))))) fun v30=>some (v30,[],[],0) else Ya (Z9c k a1 e6) fun v31=>some (v31,[],[],0)
def Zqc.con (k:Nat):Con:=Sig.con { ps:=[.val true T28 (ros T28),.val true T47 (ros T47)],rs:=[.val true [.own 108 Zte,.v .str,.own 2 (.int .i64),.v (.int .i64)]],ntmps:=175 } (fun x=>Zqc k x.1 x.2)
def Zqc.cok (k:Nat):=cXr true false (cC (Zpf.ok k) (cC (Zyk.ok k) (cC (Z9c.ok k) (cC (Zvd.ok k) (cC (Z4c.ok k) (cC (Z0k.ok k) (cC (Z0c.ok k) (cC (Zve.ok k) (cC (Zto.ok k) (cC (Zso.ok k) (cC (Zke.ok k) (cC (Z2i.ok k) (cC (Zwc.ok k) (cC (Zbk.ok k) (cC (Zle.ok k) (cC (Zsj.ok k) (cC (Z2b.ok k) (cC (Zid.ok k) (cC (Zrc.ok k) cN)))))))))))))))))))
def Zqc.j0.s (k:Nat):Summ:=lq 175 { tmps:=[(2,.eptr [.v (.int .i64),.bor .str,.bor Zx]),(5,.one (.ptr 4 0)),(10,.one (.v (.int .i64)))],slots:=[(4,.box 58 [.v (.int .i64),.v (.int .i64),.v (.int .i64),.v (.int .i64),.v (.int .i64),.v .str,.own 7,.own 8]),(7,.arr false 2 (.int .i64)),(8,.arr false 2 (.int .i64))],nb:=9 } [(.nrm,{ tmps:=[(10,.one (.v (.int .i64)))],slots:=[(4,.box 58 [.v (.int .i64),.v (.int .i64),.v (.int .i64),.v (.int .i64),.v (.int .i64),.v .str,.own 9,.own 10]),(9,.arr false 2 (.int .i64)),(10,.arr false 2 (.int .i64))],nb:=11 })] (fun x=>Zqc.j0 k x.1 x.2.1 x.2.2.1 x.2.2.2.1 x.2.2.2.2.1 x.2.2.2.2.2.1 x.2.2.2.2.2.2.1 x.2.2.2.2.2.2.2.1 x.2.2.2.2.2.2.2.2.1 x.2.2.2.2.2.2.2.2.2.1 x.2.2.2.2.2.2.2.2.2.2.1 x.2.2.2.2.2.2.2.2.2.2.2)
def Zqc.j0.ok (k:Nat):=(jA (Zqc.cok k):Zo Yc _ (cL (cR (cL (cR (cR (cR (cR (cR (cR (cR (cR (cR (cR (cR (cR (cR (cR (cR (cO (cR (cL (cR (cR (cR (cR (cB Tryz.f33)))))))))))))))))))))))))) (Zqc.j0.s k))
theorem Zqc.ok (k:Nat):Ze Yc 33 (Zqc.con k):=fP (.two .auto (.two .auto (.two .auto (.two .auto (.two (.two .auto (.one (.two .auto (.two .auto (.two .auto (.two .auto (.two .auto (.two .auto (.two .auto (.two .auto (.two .auto (.two .auto (.two .auto (.two .auto (.two .auto (.two .auto (.two .auto (.two (.two .auto (.two (.sum (Zqc.j0.s k)) .auto)) .auto)))))))))))))))))) .auto))))) (Zqc.cok k) Tryz.func33 (sC (Zqc.j0.ok k) sN)
def Zhi (k:Nat) (a1:G28) (a2:G47):Option (Int×List Str×List Zz×Str×List Int×Int):=Ya (Zii k a1) fun v3=>bif !v3 then some (0,[],[],[],[],1) else Ya (Z4l a2) fun v4=>bif !v4 then some (0,[],[],[],[],1) else Ya (Zqc k a1 a2) fun v5=>Ya (Zad k a1.2 v5.1) fun v6=>some (a1.1,v6.1,v6.2,v5.2.1,v5.2.2.1,v5.2.2.2)
def Zhi.con (k:Nat):Con:=Sig.con { ps:=[.val true T28 (ros T28),.val true T47 (ros T47)],rs:=[.val true [.v (.int .i64),.own 9 .str,.own 176 Zx,.v .str,.own 2 (.int .i64),.v (.int .i64)]],ntmps:=33 } (fun x=>Zhi k x.1 x.2)
theorem Zhi.ok (k:Nat):Ze Yc 8 (Zhi.con k):=fA (cXr true false (cC (Zii.ok k) (cC (Z4l.ok k) (cC (Zqc.ok k) (cC (Zad.ok k) cN))))) Tryz.func8
def Zqe.l0:Nat→List Int→Int→List Int→Int→Int→Int→Option ((List Int×Int×Int×Int))
 | 0,_,_,_,_,_,_=>none
 | j+1,a1,a2,a3,a4,a5,a6=>bif (decide (a2<((a1.length):Int)))&&(decide (a2<64)) then Ya (at? a1 a2) fun v7=>Zqe.l0 j a1 (Yb .i64 (a2+1)) a3 a4 (Yb .u64 ((intBits .xor .u64 a5 (Yb .u64 v7))*1099511628211)) a6 else some (a3,a4,a5,a6)
def Zqe (k:Nat) (a1:List Int):Option (List Int×Int×Int×Int):=Ya (Zqe.l0 k a1 0 a1 0 88172645463325252 0) fun y2=>Ya (nz? 20) fun v3=>let e4:=Yb .i64 (Yk ((a1.length):Int) 20);bif decide (12<e4) then some (y2.1,y2.2.1,y2.2.2.1,12) else some (y2.1,y2.2.1,y2.2.2.1,e4)
def Zqe.con (k:Nat):Con:=Sig.con { ps:=[.val false (.sl (.int .u8)) (Zze (.sl (.int .u8)))],rs:=[.box 192 [.v (.sl (.int .u8)),.v (.int .i64),.v (.int .u64),.v (.int .i64)]],ntmps:=47 } (fun x=>Zqe k x)
def Zqe.cok (k:Nat):=cX cN
def Zqe.l0.s (k:Nat):Summ:=lp 47 { tmps:=[(0,.one (.v (.sl (.int .u8)))),(3,.one (.ptr 0 0)),(4,.one (.v (.int .i64)))],slots:=[(0,.box 192 [.v (.sl (.int .u8)),.v (.int .i64),.v (.int .u64),.v (.int .i64)])],nb:=1 } [(.exit 0,{ tmps:=[],slots:=[(0,.box 192 [.v (.sl (.int .u8)),.v (.int .i64),.v (.int .u64),.v (.int .i64)])],nb:=1 })] (fun j x=>Zqe.l0 j x.1 x.2.1 x.2.2.1 x.2.2.2.1 x.2.2.2.2.1 x.2.2.2.2.2) k
def Zqe.l0.ok (k:Nat):=(lA (Zqe.cok k):Zo Yc _ (.loop (cO (cO (cR (cL (cR (cR (cB Tryz.f104)))))))) (Zqe.l0.s k))
theorem Zqe.ok (k:Nat):Ze Yc 104 (Zqe.con k):=fP (.two .auto (.two .auto (.two (.two .auto (.one (.sum (Zqe.l0.s k)))) .auto))) (Zqe.cok k) Tryz.func104 (sC (Zqe.l0.ok k) sN)
def Zkd.j0 (a1:Int) (a2:List Int) (a3:Int) (a4:Int) (a5:Int):Option ((Int×List Int×Int×Int×Int)):=bif decide (a3<((a2.length):Int)) then Ya (at? a2 a3) fun v6=>some (Yb .u64 v6,a2,Yb .i64 (a3+1),a4,a5) else some (a1,a2,a3,a4,a5)
def Zkd (a1:Zfq) (a2:Int):Option (Int×List Int×Int×Int×Int):=bif decide (a2≤1) then some (0,a1.1,a1.2.1,a1.2.2.1,a1.2.2.2) else Ya (Zkd.j0 0 a1.1 a1.2.1 a1.2.2.1 a1.2.2.2) fun y3=>Ya (Zrb 13) fun v4=>Ya (Zrb 7) fun v5=>Ya (Zrb 17) fun v6=>Ya (Zrb 20) fun v7=>Ya (nz? (Yb .u64 a2)) fun v8=>let e9:=intBits .xor .u64 y3.2.2.2.1 (shl .u64 y3.2.2.2.1 13);let e10:=intBits .xor .u64 e9 (shr .u64 e9 7);let e11:=intBits .xor .u64 e10 (shl .u64 e10 17);some (Yb .i64 (Yf (Yb .u64 (y3.1+(shr .u64 e11 20))) (Yb .u64 a2)),y3.2.1,y3.2.2.1,e11,y3.2.2.2.2)
def Zkd.con (k:Nat):Con:=Sig.con { ps:=[.ref 192 Z8h (Zze Z8h),.val false (.int .i64) (ros (.int .i64))],rs:=[.val false [.v (.int .i64)]],ntmps:=87 } (fun x=>Zkd x.1 x.2)
def Zkd.cok (k:Nat):=cX cN
def Zkd.j0.s (k:Nat):Summ:=lq 87 { tmps:=[(0,.one (.ptr 0 0)),(5,.one (.v (.int .u64)))],slots:=[(0,.box 192 [.v (.sl (.int .u8)),.v (.int .i64),.v (.int .u64),.v (.int .i64)])],nb:=1 } [(.nrm,{ tmps:=[(5,.one (.v (.int .u64)))],slots:=[(0,.box 192 [.v (.sl (.int .u8)),.v (.int .i64),.v (.int .u64),.v (.int .i64)])],nb:=1 })] (fun x=>Zkd.j0 x.1 x.2.1 x.2.2.1 x.2.2.2.1 x.2.2.2.2)
def Zkd.j0.ok (k:Nat):=(jA (Zkd.cok k):Zo Yc _ (cL (cR (cR (cR (cB Tryz.f159))))) (Zkd.j0.s k))
theorem Zkd.ok (k:Nat):Ze Yc 159 (Zkd.con k):=fP (.two .auto (.two .auto (.two .auto (.two (.sum (Zkd.j0.s k)) .auto)))) (Zkd.cok k) Tryz.func159 (sC (Zkd.j0.ok k) sN)
def Zgl (a1:Zfq) (a2:Int):Option (Bool×List Int×Int×Int×Int):=Ya (Zkd a1 a2) fun v3=>some (v3.1==0,v3.2.1,v3.2.2.1,v3.2.2.2.1,v3.2.2.2.2)
def Zgl.con (k:Nat):Con:=Sig.con { ps:=[.ref 192 Z8h (Zze Z8h),.val false (.int .i64) (ros (.int .i64))],rs:=[.val false [.v .bool]],ntmps:=9 } (fun x=>Zgl x.1 x.2)
theorem Zgl.ok (k:Nat):Ze Yc 106 (Zgl.con k):=fA (cX (cC (Zkd.ok k) cN)) Tryz.func106
def Z2p (a1:Zfq) (a2:List Str):Option (Str×List Int×Int×Int×Int):=Ya (Zkd a1 ((a2.length):Int)) fun v3=>Ya (at? a2 v3.1) fun v4=>some (v4,v3.2.1,v3.2.2.1,v3.2.2.2.1,v3.2.2.2.2)
def Z2p.con (k:Nat):Con:=Sig.con { ps:=[.ref 192 Z8h (Zze Z8h),.val false (.sl .str) (ros (.sl .str))],rs:=[.val false [.v .str]],ntmps:=12 } (fun x=>Z2p x.1 x.2)
theorem Z2p.ok (k:Nat):Ze Yc 161 (Z2p.con k):=fA (cX (cC (Zkd.ok k) cN)) Tryz.func161
def Zom (a1:Zfq):Option (Str×List Int×Int×Int×Int):=Ya (Z2p a1 ([([97,97,97,97,97,97,97,97]:Str),([97,98,97,98,97,98,97,98]:Str),([104,101,108,108,111,32,32,33]:Str),([0,0,0,0,0,0,0,0]:Str),([0,0,0,1,0,0,0,0]:Str)])) fun v2=>some (v2.1,v2.2.1,v2.2.2.1,v2.2.2.2.1,v2.2.2.2.2)
def Zom.con (k:Nat):Con:=Sig.con { ps:=[.ref 192 Z8h (Zze Z8h)],rs:=[.val false [.v .str]],ntmps:=6 } (fun x=>Zom x)
theorem Zom.ok (k:Nat):Ze Yc 107 (Zom.con k):=fA (cX (cC (Z2p.ok k) cN)) Tryz.func107
def Z4e.l0:Nat→Int→List Int→Int→Int→Int→List Str→Option ((List Int×Int×Int×Int×List Str))
 | 0,_,_,_,_,_,_=>none
 | j+1,a1,a2,a3,a4,a5,a6=>bif decide (0<a1) then Ya (Zom (a2,(a3,(a4,a5)))) fun v7=>Ya (Zmb 16 a6 [v7.1]) fun v8=>Z4e.l0 j (Yb .i64 (a1-1)) v7.2.1 v7.2.2.1 v7.2.2.2.1 v7.2.2.2.2 v8 else some (a2,a3,a4,a5,a6)
def Z4e (k:Nat) (a1:Zfq) (a2:Int):Option (List Str×List Int×Int×Int×Int):=Ya (Z4e.l0 k a2 a1.1 a1.2.1 a1.2.2.1 a1.2.2.2 []) fun y3=>some (y3.2.2.2.2,y3.1,y3.2.1,y3.2.2.1,y3.2.2.2.1)
def Z4e.con (k:Nat):Con:=Sig.con { ps:=[.ref 192 Z8h (Zze Z8h),.val false (.int .i64) (ros (.int .i64))],rs:=[.val false [.own 9 .str]],ntmps:=17 } (fun x=>Z4e k x.1 x.2)
def Z4e.cok (k:Nat):=cX (cC (Zom.ok k) cN)
def Z4e.l0.s (k:Nat):Summ:=lp 17 { tmps:=[(0,.one (.ptr 0 0)),(1,.one (.v (.int .i64))),(5,.one (.own 2))],slots:=[(0,.box 192 [.v (.sl (.int .u8)),.v (.int .i64),.v (.int .u64),.v (.int .i64)]),(2,.arr false 9 .str)],nb:=3 } [(.exit 0,{ tmps:=[(5,.one (.own 3))],slots:=[(0,.box 192 [.v (.sl (.int .u8)),.v (.int .i64),.v (.int .u64),.v (.int .i64)]),(3,.arr false 9 .str)],nb:=4 })] (fun j x=>Z4e.l0 j x.1 x.2.1 x.2.2.1 x.2.2.2.1 x.2.2.2.2.1 x.2.2.2.2.2) k
def Z4e.l0.ok (k:Nat):=(lA (Z4e.cok k):Zo Yc _ (.loop (cO (cO (cL (cR (cR (cB Tryz.f158))))))) (Z4e.l0.s k))
theorem Z4e.ok (k:Nat):Ze Yc 158 (Z4e.con k):=fP (.two .auto (.two .auto (.two (.one (.sum (Z4e.l0.s k))) .auto))) (Z4e.cok k) Tryz.func158 (sC (Z4e.l0.ok k) sN)
def Zhf.l0:Nat→Int→Int→List Int→Int→Int→Int→List Int→Option ((List Int×Int×Int×Int×List Int))
 | 0,_,_,_,_,_,_,_=>none
 | j+1,a1,a2,a3,a4,a5,a6,a7=>bif decide (a2<a1) then Ya (Zkd (a3,(a4,(a5,a6))) 256) fun v8=>Ya (Zmb 1 a7 [(Yb .u8 v8.1)]) fun v9=>Zhf.l0 j a1 (Yb .i64 (a2+1)) v8.2.1 v8.2.2.1 v8.2.2.2.1 v8.2.2.2.2 v9 else some (a3,a4,a5,a6,a7)
def Zhf (k:Nat) (a1:Zfq) (a2:Int):Option (Str×List Int×Int×Int×Int):=Ya (Zhf.l0 k a2 0 a1.1 a1.2.1 a1.2.2.1 a1.2.2.2 []) fun y3=>some (Znb y3.2.2.2.2,y3.1,y3.2.1,y3.2.2.1,y3.2.2.2.1)
def Zhf.con (k:Nat):Con:=Sig.con { ps:=[.ref 192 Z8h (Zze Z8h),.val false (.int .i64) (ros (.int .i64))],rs:=[.val false [.v .str]],ntmps:=21 } (fun x=>Zhf k x.1 x.2)
def Zhf.cok (k:Nat):=cX (cC (Zkd.ok k) cN)
def Zhf.l0.s (k:Nat):Summ:=lp 21 { tmps:=[(0,.one (.ptr 0 0)),(1,.one (.v (.int .i64))),(5,.one (.own 2)),(6,.one (.v (.int .i64)))],slots:=[(0,.box 192 [.v (.sl (.int .u8)),.v (.int .i64),.v (.int .u64),.v (.int .i64)]),(2,.arr false 5 (.int .u8))],nb:=3 } [(.exit 0,{ tmps:=[(5,.one (.own 3))],slots:=[(0,.box 192 [.v (.sl (.int .u8)),.v (.int .i64),.v (.int .u64),.v (.int .i64)]),(3,.arr false 5 (.int .u8))],nb:=4 })] (fun j x=>Zhf.l0 j x.1 x.2.1 x.2.2.1 x.2.2.2.1 x.2.2.2.2.1 x.2.2.2.2.2.1 x.2.2.2.2.2.2) k
def Zhf.l0.ok (k:Nat):=(lA (Zhf.cok k):Zo Yc _ (.loop (cO (cO (cR (cL (cR (cR (cB Tryz.f160)))))))) (Zhf.l0.s k))
theorem Zhf.ok (k:Nat):Ze Yc 160 (Zhf.con k):=fP (.two .auto (.two .auto (.two (.two .auto (.one (.sum (Zhf.l0.s k)))) .auto))) (Zhf.cok k) Tryz.func160 (sC (Zhf.l0.ok k) sN)
def Zsn (k:Nat) (a1:Zfq):Option (List Str×List Int×Int×Int×Int):=Ya (Zkd a1 5) fun v2=>Ya (Z4e k v2.2 (Yb .i64 (1+v2.1))) fun v3=>Ya (Zgl v3.2 12) fun v4=>bif v4.1 then Ya (Zkd v4.2 3) fun v5=>bif v5.1==0 then Ya (Zkd v5.2 2) fun v6=>Ya (Zhf k v6.2 (Yb .i64 (7+(Yb .i64 (2*v6.1))))) fun v7=>let e8:=at? v3.1 0;Ya (e8) fun v9=>Ya (e8) fun v10=>some (Ye v3.1 (Yd 0) v7.1,v7.2.1,v7.2.2.1,v7.2.2.2.1,v7.2.2.2.2) else bif v5.1==1 then some ([],v5.2.1,v5.2.2.1,v5.2.2.2.1,v5.2.2.2.2) else Ya (Zkd v5.2 2) fun v11=>Ya (Z4e k v11.2 (Yb .i64 (8+v11.1))) fun v12=>some (v12.1,v12.2.1,v12.2.2.1,v12.2.2.2.1,v12.2.2.2.2) else some (v3.1,v4.2.1,v4.2.2.1,v4.2.2.2.1,v4.2.2.2.2)
def Zsn.con (k:Nat):Con:=Sig.con { ps:=[.ref 192 Z8h (Zze Z8h)],rs:=[.val false [.own 9 .str]],ntmps:=31 } (fun x=>Zsn k x)
theorem Zsn.ok (k:Nat):Ze Yc 105 (Zsn.con k):=fA (cX (cC (Zgl.ok k) (cC (Z4e.ok k) (cC (Zkd.ok k) (cC (Zhf.ok k) cN))))) Tryz.func105
def Z6d.l0:Nat→Int→List Int→Int→Int→Int→List Str→Option ((List Int×Int×Int×Int×List Str))
 | 0,_,_,_,_,_,_=>none
 | j+1,a1,a2,a3,a4,a5,a6=>bif decide (a1<((a6.length):Int)) then Ya (Zgl (a2,(a3,(a4,a5))) 2) fun v7=>let e8:=Yb .i64 (a1+1);bif v7.1 then Ya (Zom v7.2) fun v9=>Ya (at? a6 a1) fun v10=>Ya (at? a6 a1) fun v11=>Z6d.l0 j e8 v9.2.1 v9.2.2.1 v9.2.2.2.1 v9.2.2.2.2 (Ye a6 (Yd a1) v9.1) else Z6d.l0 j e8 v7.2.1 v7.2.2.1 v7.2.2.2.1 v7.2.2.2.2 a6 else some (a2,a3,a4,a5,a6)
def Z6d (k:Nat) (a1:List Int):Option (List Str×List Str):=Ya (Zqe k a1) fun v2=>Ya (Zsn k v2) fun v3=>Ya (Zmb 16 [] v3.1) fun v4=>Ya (Z6d.l0 k 0 v3.2.1 v3.2.2.1 v3.2.2.2.1 v3.2.2.2.2 v4) fun y5=>Ya (Zgl (y5.1,(y5.2.1,(y5.2.2.1,y5.2.2.2.1))) 12) fun v6=>bif v6.1 then Ya (Zsn k v6.2) fun v7=>some (v3.1,v7.1) else some (v3.1,y5.2.2.2.2)
def Z6d.con (k:Nat):Con:=Sig.conR { ps:=[.val false (.sl (.int .u8)) (Zze (.sl (.int .u8)))],rs:=[.val false [.own 9 .str],.val false [.own 9 .str]],ntmps:=34 } (fun x=>Z6d k x)
def Z6d.cok (k:Nat):=cX (cC (Zqe.ok k) (cC (Zsn.ok k) (cC (Zgl.ok k) (cC (Zom.ok k) cN))))
def Z6d.l0.s (k:Nat):Summ:=lp 34 { tmps:=[(4,.one (.ptr 0 0)),(6,.one (.own 4)),(7,.one (.v (.int .i64)))],slots:=[(0,.box 192 [.v (.sl (.int .u8)),.v (.int .i64),.v (.int .u64),.v (.int .i64)]),(4,.arr false 9 .str)],nb:=5 } [(.exit 0,{ tmps:=[(6,.one (.own 5))],slots:=[(0,.box 192 [.v (.sl (.int .u8)),.v (.int .i64),.v (.int .u64),.v (.int .i64)]),(5,.arr false 9 .str)],nb:=6 })] (fun j x=>Z6d.l0 j x.1 x.2.1 x.2.2.1 x.2.2.2.1 x.2.2.2.2.1 x.2.2.2.2.2) k
def Z6d.l0.ok (k:Nat):=(lA (Z6d.cok k):Zo Yc _ (.loop (cO (cO (cR (cL (cR (cR (cR (cR (cB Tryz.f43)))))))))) (Z6d.l0.s k))
theorem Z6d.ok (k:Nat):Ze Yc 43 (Z6d.con k):=Zf1 (fP (.two .auto (.two .auto (.two .auto (.two .auto (.two (.two .auto (.one (.sum (Z6d.l0.s k)))) .auto))))) (Z6d.cok k) Tryz.func43 (sC (Z6d.l0.ok k) sN))
def Zfl (k:Nat) (a1:List Int):Option (List Str×List Str):=Ya (Z6d k a1) fun v2=>some (v2.1,v2.2)
def Zfl.con (k:Nat):Con:=Sig.con { ps:=[.val false (.sl (.int .u8)) (ros (.sl (.int .u8)))],rs:=[.val false [.own 9 .str],.val false [.own 9 .str]],ntmps:=8 } (fun x=>Zfl k x)
theorem Zfl.ok (k:Nat):Ze Yc 18 (Zfl.con k):=fA (cX (cC (Z6d.ok k) cN)) Tryz.func18
def Zgf.l0:Nat→List G96→Int→Int→Option (Int)
 | 0,_,_,_=>none
 | j+1,a1,a2,a3=>bif (decide (a3<((a1.length):Int)))&&(decide (((a1.length):Int)≤40)) then Ya (at? a1 a3) fun v4=>let e5:=Yb .i64 (a3+1);bif v4.1==1 then Zgf.l0 j a1 (Yb .i64 (a2+1)) e5 else Zgf.l0 j a1 a2 e5 else some a2
def Zgf (k:Nat) (a1:List G96):Option (Int):=Ya (Zgf.l0 k a1 0 0) fun y2=>some y2
def Zgf.con (k:Nat):Con:=Sig.con { ps:=[.val false (.sl T96) (ros (.sl T96))],rs:=[.val false [.v (.int .i64)]],ntmps:=25 } (fun x=>Zgf k x)
def Zgf.cok (k:Nat):=cX cN
def Zgf.l0.s (k:Nat):Summ:=lp 25 { tmps:=[(0,.one (.bor T96)),(3,.one (.v (.int .i64))),(4,.one (.v (.int .i64)))],slots:=[],nb:=0 } [(.exit 0,{ tmps:=[(3,.one (.v (.int .i64)))],slots:=[],nb:=0 })] (fun j x=>Zgf.l0 j x.1 x.2.1 x.2.2) k
def Zgf.l0.ok (k:Nat):=(lA (Zgf.cok k):Zo Yc _ (.loop (cO (cO (cR (cL (cR (cR (cB Tryz.f19)))))))) (Zgf.l0.s k))
theorem Zgf.ok (k:Nat):Ze Yc 19 (Zgf.con k):=fP (.two .auto (.two .auto (.two (.two .auto (.one (.sum (Zgf.l0.s k)))) .auto))) (Zgf.cok k) Tryz.func19 (sC (Zgf.l0.ok k) sN)
def Zld (a1:Int) (a2:Int) (a3:Int):Option (Bool):=some ((decide (a2≤a1))&&(decide (a1≤a3)))
def Zld.con (k:Nat):Con:=Sig.con { ps:=[.val false (.int .i64) (ros (.int .i64)),.val false (.int .i64) (ros (.int .i64)),.val false (.int .i64) (ros (.int .i64))],rs:=[.val false [.v .bool]],ntmps:=15 } (fun x=>Zld x.1 x.2.1 x.2.2)
theorem Zld.ok (k:Nat):Ze Yc 55 (Zld.con k):=fA (cX cN) Tryz.func55
def Zrn (a1:G45) (a2:Int):Option (Bool):=Ya (Zld a2 1 8) fun v3=>bif !v3 then some false else let e4:=Yb .i64 (a2-1);Ya (Zld a1.2.1 0 e4) fun v5=>Ya (Zld a1.2.2.1 0 e4) fun v6=>let e7:=a1.2.2.2==[];let e8:=v5&&(a1.2.2.1==0);bif a1.1==1 then some (e8&&e7) else let e9:=((a1.2.2.2.length):Int)==8;bif a1.1==2 then some (e8&&e9) else bif a1.1==3 then some ((v5&&v6)&&e7) else bif a1.1==4 then some ((v5&&v6)&&e9) else bif a1.1==5 then bif a1.2.1==0 then Ya (Zld a1.2.2.1 0 1000000) fun v10=>some (v10&&e7) else some false else some false
def Zrn.con (k:Nat):Con:=Sig.con { ps:=[.val true T45 (ros T45),.val false (.int .i64) (ros (.int .i64))],rs:=[.val false [.v .bool]],ntmps:=87 } (fun x=>Zrn x.1 x.2)
theorem Zrn.ok (k:Nat):Ze Yc 108 (Zrn.con k):=fA (cX (cC (Zld.ok k) cN)) Tryz.func108
def Z0.l0:Nat→List G45→Int→Int→Option (Unit ⊕ Int)
 | 0,_,_,_=>none
 | j+1,a1,a2,a3=>bif decide (a3<((a1.length):Int)) then Ya (at? a1 a3) fun v4=>Ya (Zrn v4 a2) fun v5=>bif !v5 then some (.inr 1) else Z0.l0 j a1 a2 (Yb .i64 (a3+1)) else some (.inl ())
def Z0.l1:Nat→List G45→Int→Int→Option (Unit ⊕ Int)
 | 0,_,_,_=>none
 | j+1,a1,a2,a3=>bif decide (a3<a2) then Ya (at? a1 a2) fun v4=>let e5:=Yb .i64 (a3+1);bif v4.1 != 5 then Ya (at? a1 a3) fun v6=>bif v6.1 != 5 then Ya (at? a1 a2) fun v7=>Ya (at? a1 a3) fun v8=>bif v7.2.1==v8.2.1 then some (.inr 12) else Z0.l1 j a1 a2 e5 else Z0.l1 j a1 a2 e5 else Z0.l1 j a1 a2 e5 else some (.inl ())
def Z0.l2 (k:Nat):Nat→List G45→Int→Option (Unit ⊕ Int)
 | 0,_,_=>none
 | j+1,a1,a2=>bif decide (a2<((a1.length):Int)) then Ya (Z0.l1 k a1 a2 0) fun
    | .inl y3=>Z0.l2 k j a1 (Yb .i64 (a2+1))
    | .inr y4=>some (.inr y4) else some (.inl ())
def Z0.l3:Nat→List G45→Int→Int→Option (Unit ⊕ Int)
 | 0,_,_,_=>none
 | j+1,a1,a2,a3=>bif decide (a3<((a1.length):Int)) then Ya (at? a1 a3) fun v4=>let e5:=Yb .i64 (a3+1);bif v4.1 != 5 then Z0.l3 j a1 a2 e5 else Ya (at? a1 a3) fun v6=>bif decide (v6.2.2.1≤a2) then some (.inr 8) else Ya (at? a1 a3) fun v7=>Z0.l3 j a1 v7.2.2.1 e5 else some (.inl ())
def Z0 (k:Nat) (a1:List G45) (a2:Int):Option (Int):=bif decide (20<((a1.length):Int)) then some 1 else Ya (Zld a2 1 8) fun v3=>bif !v3 then some 1 else Ya (Z0.l0 k a1 a2 0) fun
  | .inl y4=>Ya (Z0.l2 k k a1 0) fun
    | .inl y5=>Ya (Z0.l3 k a1 (-1) 0) fun
      | .inl y6=>some 0
      | .inr y7=>some y7
    | .inr y8=>some y8
  | .inr y9=>some y9
def Z0.con (k:Nat):Con:=Sig.con { ps:=[.val false (.sl T45) (ros (.sl T45)),.val false (.int .i64) (ros (.int .i64))],rs:=[.val false [.v (.int .i64)]],ntmps:=93 } (fun x=>Z0 k x.1 x.2)
def Z0.cok (k:Nat):=cX (cC (Zld.ok k) (cC (Zrn.ok k) cN))
def Z0.l0.s (k:Nat):Summ:=lp 93 { tmps:=[(0,.one (.bor T45)),(1,.one (.v (.int .i64))),(5,.one (.v (.int .i64)))],slots:=[],nb:=0 } [(.exit 0,{ tmps:=[],slots:=[],nb:=0 }),(.ret,{ tmps:=[(4,.one (.v (.int .i64)))],slots:=[],nb:=0 })] (fun j x=>Z0.l0 j x.1 x.2.1 x.2.2) k
def Z0.l0.ok (k:Nat):=(lA (Z0.cok k):Zo Yc _ (.loop (cO (cO (cR (cL (cR (cR (cB Yj)))))))) (Z0.l0.s k))
def Z0.l1.s (k:Nat):Summ:=lp 93 { tmps:=[(0,.one (.bor T45)),(6,.one (.v (.int .i64))),(7,.one (.v (.int .i64)))],slots:=[],nb:=0 } [(.exit 4,{ tmps:=[],slots:=[],nb:=0 }),(.ret,{ tmps:=[(4,.one (.v (.int .i64)))],slots:=[],nb:=0 })] (fun j x=>Z0.l1 j x.1 x.2.1 x.2.2) k
def Z0.l1.ok (k:Nat):=(lA (Z0.cok k):Zo Yc _ (.loop (cO (cO (cR (cO (cL (cR (cO (cO (cR (cL (cR (cR (cR (cB Yj))))))))))))))) (Z0.l1.s k))
def Z0.l2.s (k:Nat):Summ:=lp 93 { tmps:=[(0,.one (.bor T45)),(6,.one (.v (.int .i64)))],slots:=[],nb:=0 } [(.exit 2,{ tmps:=[],slots:=[],nb:=0 }),(.ret,{ tmps:=[(4,.one (.v (.int .i64)))],slots:=[],nb:=0 })] (fun j x=>Z0.l2 k j x.1 x.2) k
def Z0.l2.ok (k:Nat):=(lP (.two .auto (.two (.one (.two .auto (.one (.sum (Z0.l1.s k))))) .auto)) (Z0.cok k) (sC (Z0.l1.ok k) sN):Zo Yc _ (.loop (cO (cO (cR (cL (cR (cR (cR (cB Yj))))))))) (Z0.l2.s k))
def Z0.l3.s (k:Nat):Summ:=lp 93 { tmps:=[(0,.one (.bor T45)),(8,.one (.v (.int .i64))),(9,.one (.v (.int .i64)))],slots:=[],nb:=0 } [(.exit 6,{ tmps:=[],slots:=[],nb:=0 }),(.ret,{ tmps:=[(4,.one (.v (.int .i64)))],slots:=[],nb:=0 })] (fun j x=>Z0.l3 j x.1 x.2.1 x.2.2) k
def Z0.l3.ok (k:Nat):=(lA (Z0.cok k):Zo Yc _ (.loop (cO (cO (cR (cL (cR (cR (cR (cR (cR (cB Yj))))))))))) (Z0.l3.s k))
theorem Z0.ok (k:Nat):Ze Yc 44 (Z0.con k):=fP (.two .auto (.two .auto (.two (.two .auto (.one (.sum (Z0.l0.s k)))) (.two (.two .auto (.one (.sum (Z0.l2.s k)))) (.two .auto (.two (.two .auto (.one (.sum (Z0.l3.s k)))) .auto)))))) (Z0.cok k) Tryz.func44 (sC (Z0.l0.ok k) (sC (Z0.l2.ok k) (sC (Z0.l3.ok k) sN)))
def Z9d.l0:Nat→List G45→Int→List G45→Option ((List G45))
 | 0,_,_,_=>none
 | j+1,a1,a2,a3=>bif (decide (a2<((a1.length):Int)))&&(decide (((a1.length):Int)≤20)) then Ya (at? a1 a2) fun v4=>let e5:=Yb .i64 (a2+1);bif v4.1 != 5 then Ya (at? a1 a2) fun v6=>Ya (Zmb 40 a3 [v6]) fun v7=>Z9d.l0 j a1 e5 v7 else Z9d.l0 j a1 e5 a3 else some a3
def Z9d (k:Nat) (a1:List G45):Option (List G45):=Ya (Z9d.l0 k a1 0 []) fun y2=>some y2
def Z9d.con (k:Nat):Con:=Sig.con { ps:=[.val false (.sl T45) (ros (.sl T45))],rs:=[.val false [.own 45 T45]],ntmps:=31 } (fun x=>Z9d k x)
def Z9d.cok (k:Nat):=cX cN
def Z9d.l0.s (k:Nat):Summ:=lp 31 { tmps:=[(0,.one (.bor T45)),(3,.one (.own 1)),(4,.one (.v (.int .i64)))],slots:=[(1,.arr false 45 T45)],nb:=2 } [(.exit 0,{ tmps:=[(3,.one (.own 2))],slots:=[(2,.arr false 45 T45)],nb:=3 })] (fun j x=>Z9d.l0 j x.1 x.2.1 x.2.2) k
def Z9d.l0.ok (k:Nat):=(lA (Z9d.cok k):Zo Yc _ (.loop (cO (cO (cR (cL (cR (cR (cB Tryz.f109)))))))) (Z9d.l0.s k))
theorem Z9d.ok (k:Nat):Ze Yc 109 (Z9d.con k):=fP (.two .auto (.two .auto (.two (.two .auto (.one (.sum (Z9d.l0.s k)))) .auto))) (Z9d.cok k) Tryz.func109 (sC (Z9d.l0.ok k) sN)
def Zor (a1:G45) (a2:Int):Option (Bool):=some (((a1.1==3)||(a1.1==4))&&(a1.2.2.1==a2))
def Zor.con (k:Nat):Con:=Sig.con { ps:=[.val true T45 (ros T45),.val false (.int .i64) (ros (.int .i64))],rs:=[.val false [.v .bool]],ntmps:=19 } (fun x=>Zor x.1 x.2)
theorem Zor.ok (k:Nat):Ze Yc 183 (Zor.con k):=fA (cX cN) Tryz.func183
def Z2c.l0:Nat→List G45→List Bool→Int→Int→Option (Unit ⊕ Bool)
 | 0,_,_,_,_=>none
 | j+1,a1,a2,a3,a4=>bif decide (a4<((a1.length):Int)) then let e5:=Yb .i64 (a4+1);bif a4 != a3 then Ya (at? a2 a4) fun v6=>bif v6 then Ya (at? a1 a4) fun v7=>Ya (at? a1 a3) fun v8=>Ya (Zor v7 v8.2.1) fun v9=>bif v9 then some (.inr true) else Z2c.l0 j a1 a2 a3 e5 else Z2c.l0 j a1 a2 a3 e5 else Z2c.l0 j a1 a2 a3 e5 else some (.inl ())
def Z2c (k:Nat) (a1:List G45) (a2:List Bool) (a3:List Bool) (a4:Int):Option (Bool):=Ya (at? a1 a4) fun v5=>Ya (at? a3 v5.2.1) fun v6=>bif v6 then some false else Ya (Z2c.l0 k a1 a2 a4 0) fun
  | .inl y7=>some false
  | .inr y8=>some y8
def Z2c.con (k:Nat):Con:=Sig.con { ps:=[.val false (.sl T45) (ros (.sl T45)),.val false (.sl .bool) (ros (.sl .bool)),.val false (.sl .bool) (ros (.sl .bool)),.val false (.int .i64) (ros (.int .i64))],rs:=[.val false [.v .bool]],ntmps:=45 } (fun x=>Z2c k x.1 x.2.1 x.2.2.1 x.2.2.2)
def Z2c.cok (k:Nat):=cX (cC (Zor.ok k) cN)
def Z2c.l0.s (k:Nat):Summ:=lp 45 { tmps:=[(0,.one (.bor T45)),(1,.one (.bor .bool)),(3,.one (.v (.int .i64))),(9,.one (.v (.int .i64)))],slots:=[],nb:=0 } [(.exit 0,{ tmps:=[],slots:=[],nb:=0 }),(.ret,{ tmps:=[(8,.one (.v .bool))],slots:=[],nb:=0 })] (fun j x=>Z2c.l0 j x.1 x.2.1 x.2.2.1 x.2.2.2) k
def Z2c.l0.ok (k:Nat):=(lA (Z2c.cok k):Zo Yc _ (.loop (cO (cO (cR (cL (cR (cR (cB Tryz.f162)))))))) (Z2c.l0.s k))
theorem Z2c.ok (k:Nat):Ze Yc 162 (Z2c.con k):=fP (.two .auto (.two .auto (.two (.two .auto (.one (.sum (Z2c.l0.s k)))) .auto))) (Z2c.cok k) Tryz.func162 (sC (Z2c.l0.ok k) sN)
def Zmd.l0 (k:Nat):Nat→List G45→List Bool→List Bool→Int→Int→Int→Option ((Int×Int))
 | 0,_,_,_,_,_,_=>none
 | j+1,a1,a2,a3,a4,a5,a6=>bif decide (a6<((a1.length):Int)) then Ya (at? a2 a6) fun v7=>let e8:=Yb .i64 (a6+1);bif !v7 then Zmd.l0 k j a1 a2 a3 a4 a5 e8 else bif decide (a5<0) then bif decide (a4<0) then Ya (Z2c k a1 a2 a3 a6) fun v9=>bif !v9 then Zmd.l0 k j a1 a2 a3 a6 a6 e8 else Zmd.l0 k j a1 a2 a3 a4 a6 e8 else Zmd.l0 k j a1 a2 a3 a4 a6 e8 else bif decide (a4<0) then Ya (Z2c k a1 a2 a3 a6) fun v10=>bif !v10 then Zmd.l0 k j a1 a2 a3 a6 a5 e8 else Zmd.l0 k j a1 a2 a3 a4 a5 e8 else Zmd.l0 k j a1 a2 a3 a4 a5 e8 else some (a4,a5)
def Zmd (k:Nat) (a1:List G45) (a2:List Bool) (a3:List Bool):Option (Int×Int):=Ya (Zmd.l0 k k a1 a2 a3 (-1) (-1) 0) fun y4=>some (y4.1,y4.2)
def Zmd.con (k:Nat):Con:=Sig.con { ps:=[.val false (.sl T45) (ros (.sl T45)),.val false (.sl .bool) (ros (.sl .bool)),.val false (.sl .bool) (ros (.sl .bool))],rs:=[.val false [.v (.int .i64)],.val false [.v (.int .i64)]],ntmps:=38 } (fun x=>Zmd k x.1 x.2.1 x.2.2)
def Zmd.cok (k:Nat):=cX (cC (Z2c.ok k) cN)
def Zmd.l0.s (k:Nat):Summ:=lp 38 { tmps:=[(0,.one (.bor T45)),(1,.one (.bor .bool)),(2,.one (.bor .bool)),(8,.one (.v (.int .i64))),(9,.one (.v (.int .i64))),(10,.one (.v (.int .i64)))],slots:=[],nb:=0 } [(.exit 0,{ tmps:=[(8,.one (.v (.int .i64))),(9,.one (.v (.int .i64)))],slots:=[],nb:=0 })] (fun j x=>Zmd.l0 k j x.1 x.2.1 x.2.2.1 x.2.2.2.1 x.2.2.2.2.1 x.2.2.2.2.2) k
def Zmd.l0.ok (k:Nat):=(lA (Zmd.cok k):Zo Yc _ (.loop (cO (cO (cR (cL (cR (cR (cB Tryz.f110)))))))) (Zmd.l0.s k))
theorem Zmd.ok (k:Nat):Ze Yc 110 (Zmd.con k):=fP (.two .auto (.two .auto (.two (.two .auto (.one (.sum (Zmd.l0.s k)))) .auto))) (Zmd.cok k) Tryz.func110 (sC (Zmd.l0.ok k) sN)
def Zzb.l0:Nat→Int→List G45→List Bool→Option ((List G45×List Bool))
 | 0,_,_,_=>none
 | j+1,a1,a2,a3=>bif decide (a1<((a2.length):Int)) then Ya (at? a3 a1) fun v4=>Ya (at? a3 a1) fun v5=>Zzb.l0 j (Yb .i64 (a1+1)) a2 (Ye a3 (Yd a1) true) else some (a2,a3)
def Zzb.l1 (k:Nat):Nat→Int→List G45→List Bool→List Bool→List G96→Option ((List G96))
 | 0,_,_,_,_,_=>none
 | j+1,a1,a2,a3,a4,a5=>Ya (Zmd k a2 a3 a4) fun v6=>bif decide (v6.2<0) then some a5 else bif decide (0≤v6.1) then let e7:=at? a2 v6.1;Ya (e7) fun v8=>Ya (e7) fun v9=>Ya (Zmb 32 a5 [(2,(v6.1,(v9.2.1,0)))]) fun v10=>let e11:=at? a3 v6.1;Ya (e11) fun v12=>Ya (e11) fun v13=>Zzb.l1 k j a1 a2 (Ye a3 (Yd v6.1) false) a4 v10 else let e14:=at? a2 v6.2;Ya (e14) fun v15=>Ya (e14) fun v16=>Ya (Zmb 32 a5 [(1,(v6.2,(v16.2.1,a1)))]) fun v17=>Ya (e14) fun v18=>Ya (e14) fun v19=>let e20:=at? a4 v19.2.1;Ya (e20) fun v21=>Ya (e20) fun v22=>Zzb.l1 k j (Yb .i64 (a1+1)) a2 a3 (Ye a4 (Yd v19.2.1) true) v17
def Zzb (k:Nat) (a1:List G45):Option (List G96):=Ya (Z9d k a1) fun v2=>Ya (Zrg 1 ((v2.length):Int) ((v2.length):Int) false) fun v3=>Ya (Zzb.l0 k 0 v2 v3) fun y4=>Ya (Zrg 1 8 8 false) fun v5=>Ya (Zzb.l1 k k 0 y4.1 y4.2 v5 []) fun y6=>some y6
def Zzb.con (k:Nat):Con:=Sig.con { ps:=[.val false (.sl T45) (ros (.sl T45))],rs:=[.val false [.own 96 T96]],ntmps:=74 } (fun x=>Zzb k x)
def Zzb.cok (k:Nat):=cX (cC (Z9d.ok k) (cC (Zmd.ok k) cN))
def Zzb.l0.s (k:Nat):Summ:=lp 74 { tmps:=[(3,.one (.own 2)),(4,.one (.own 3)),(5,.one (.v (.int .i64)))],slots:=[(2,.arr false 45 T45),(3,.arr false 4 .bool)],nb:=4 } [(.exit 0,{ tmps:=[(3,.one (.own 4)),(4,.one (.own 5))],slots:=[(4,.arr false 45 T45),(5,.arr false 4 .bool)],nb:=6 })] (fun j x=>Zzb.l0 j x.1 x.2.1 x.2.2) k
def Zzb.l0.ok (k:Nat):=(lA (Zzb.cok k):Zo Yc _ (.loop (cO (cO (cR (cL (cR (cR (cR (cB Yy))))))))) (Zzb.l0.s k))
def Zzb.l1.s (k:Nat):Summ:=lp 74 { tmps:=[(3,.one (.own 8)),(4,.one (.own 9)),(6,.one (.own 10)),(7,.one (.own 11)),(8,.one (.v (.int .i64)))],slots:=[(8,.arr false 45 T45),(9,.arr false 4 .bool),(10,.arr false 4 .bool),(11,.arr false 96 T96)],nb:=12 } [(.ret,{ tmps:=[(2,.one (.own 12))],slots:=[(12,.arr false 96 T96)],nb:=13 })] (fun j x=>Zzb.l1 k j x.1 x.2.1 x.2.2.1 x.2.2.2.1 x.2.2.2.2) k
def Zzb.l1.ok (k:Nat):=(lA (Zzb.cok k):Zo Yc _ (.loop (cO (cO (cR (cR (cR (cR (cR (cR (cR (cB Yy))))))))))) (Zzb.l1.s k))
theorem Zzb.ok (k:Nat):Ze Yc 45 (Zzb.con k):=fP (.two .auto (.two .auto (.two .auto (.two (.two .auto (.one (.sum (Zzb.l0.s k)))) (.two .auto (.two .auto (.two .auto (.one (.sum (Zzb.l1.s k)))))))))) (Zzb.cok k) Tryz.func45 (sC (Zzb.l0.ok k) (sC (Zzb.l1.ok k) sN))
def Zlm (k:Nat) (a1:List G45) (a2:Int):Option (List G96×Int):=bif decide (400<((a1.length):Int)) then some ([],2) else Ya (Z0 k a1 a2) fun v3=>bif v3 != 0 then some ([],v3) else Ya (Zzb k a1) fun v4=>some (v4,0)
def Zlm.con (k:Nat):Con:=Sig.con { ps:=[.val false (.sl T45) (ros (.sl T45)),.val false (.int .i64) (ros (.int .i64))],rs:=[.val true [.own 96 T96,.v (.int .i64)]],ntmps:=20 } (fun x=>Zlm k x.1 x.2)
theorem Zlm.ok (k:Nat):Ze Yc 20 (Zlm.con k):=fA (cX (cC (Z0.ok k) (cC (Zzb.ok k) cN))) Tryz.func20
def Zyd.l0 (k:Nat):Nat→Bool→Int→Int→Str→Int→Int→Str→Int→List G45→List Str→List Zz→List Int→Option ((Bool×Int×Str×Int×Int×Str×Int×List G45×List Str×List Zz×List Int))
 | 0,_,_,_,_,_,_,_,_,_,_,_,_=>none
 | j+1,a1,a2,a3,a4,a5,a6,a7,a8,a9,a10,a11,a12=>bif decide (a2<((a9.length):Int)) then Ya (at? a9 a2) fun v13=>Ya (at? a9 a2) fun v14=>Ya (Zhi k (a6,(a10,a11)) (2,(0,(0,([],v14))))) fun v15=>Zyd.l0 k j (a1&&(v15.2.2.2.2.2==0)) (Yb .i64 (a2+1)) a3 a4 a5 v15.1 v15.2.2.2.1 v15.2.2.2.2.2 a9 v15.2.1 v15.2.2.1 v15.2.2.2.2.1 else some (a1,a3,a4,a5,a6,a7,a8,a9,a10,a11,a12)
def Zyd (k:Nat) (a1:List Int):Option (List Str×List Str×Int×List Str×List Zz×Bool):=Ya (Zfl k a1) fun v2=>Ya (Zlk k v2.1 v2.2) fun v3=>Ya (Zlm k v3.2.2.1 ((v2.1.length):Int)) fun v4=>Ya (Zgf k v4.1) fun v5=>Ya (Zxk k v2.1) fun v6=>bif v3.2.2.2 != 0 then some (v2.1,v2.2,v6.1,v6.2.1,v6.2.2.1,false) else let e7:=(0,(0,(0,[])));Ya (Zhi k (v6.1,(v6.2.1,v6.2.2.1)) (1,(((v3.2.2.1.length):Int),(v5,(v3.2.1,e7))))) fun v8=>Ya (Zyd.l0 k k (v8.2.2.2.2.2==0) 0 v3.1 v3.2.1 v3.2.2.2 v8.1 v8.2.2.2.1 v8.2.2.2.2.2 v3.2.2.1 v8.2.1 v8.2.2.1 v8.2.2.2.2.1) fun y9=>let e10:=(0,(0,([],e7)));Ya (Zhi k (y9.2.2.2.2.1,(y9.2.2.2.2.2.2.2.2.1,y9.2.2.2.2.2.2.2.2.2.1)) (3,e10)) fun v11=>Ya (Zhi k (v11.1,(v11.2.1,v11.2.2.1)) (11,e10)) fun v12=>bif y9.1&&(v11.2.2.2.2.2==0) then some (v2.1,v2.2,v12.1,v12.2.1,v12.2.2.1,v12.2.2.2.2.2==0) else some (v2.1,v2.2,v12.1,v12.2.1,v12.2.2.1,false)
def Zyd.con (k:Nat):Con:=Sig.con { ps:=[.val false (.sl (.int .u8)) (ros (.sl (.int .u8)))],rs:=[.val false [.own 9 .str],.val false [.own 9 .str],.val true [.v (.int .i64),.own 9 .str,.own 176 Zx],.val false [.v .bool]],ntmps:=101 } (fun x=>Zyd k x)
def Zyd.cok (k:Nat):=cX (cC (Zlk.ok k) (cC (Zxk.ok k) (cC (Zhi.ok k) (cC (Zfl.ok k) (cC (Zgf.ok k) (cC (Zlm.ok k) cN))))))
def Zyd.l0.s (k:Nat):Summ:=lp 101 { tmps:=[(8,.one (.ptr 4 0)),(11,.one (.ptr 12 0)),(12,.one (.v .bool)),(13,.one (.v (.int .i64)))],slots:=[(4,.box 35 [.v (.int .i64),.v .str,.own 13,.v (.int .i64)]),(12,.box 42 [.v (.int .i64),.own 14,.own 15,.v .str,.own 16,.v (.int .i64)]),(13,.arr false 45 T45),(14,.arr false 9 .str),(15,.arr false 176 Zx),(16,.arr false 2 (.int .i64))],nb:=17 } [(.exit 0,{ tmps:=[(12,.one (.v .bool))],slots:=[(4,.box 35 [.v (.int .i64),.v .str,.own 17,.v (.int .i64)]),(12,.box 42 [.v (.int .i64),.own 18,.own 19,.v .str,.own 20,.v (.int .i64)]),(17,.arr false 45 T45),(18,.arr false 9 .str),(19,.arr false 176 Zx),(20,.arr false 2 (.int .i64))],nb:=21 })] (fun j x=>Zyd.l0 k j x.1 x.2.1 x.2.2.1 x.2.2.2.1 x.2.2.2.2.1 x.2.2.2.2.2.1 x.2.2.2.2.2.2.1 x.2.2.2.2.2.2.2.1 x.2.2.2.2.2.2.2.2.1 x.2.2.2.2.2.2.2.2.2.1 x.2.2.2.2.2.2.2.2.2.2.1 x.2.2.2.2.2.2.2.2.2.2.2) k
def Zyd.l0.ok (k:Nat):=(lA (Zyd.cok k):Zo Yc _ (.loop (cO (cO (cR (cL (cR (cR (cR (cR (cR (cR (cR (cR (cB Tryz.f4)))))))))))))) (Zyd.l0.s k))
theorem Zyd.ok (k:Nat):Ze Yc 4 (Zyd.con k):=fP (.two .auto (.two .auto (.two .auto (.two .auto (.two .auto (.two .auto (.two .auto (.two .auto (.two (.two .auto (.one (.sum (Zyd.l0.s k)))) .auto))))))))) (Zyd.cok k) Tryz.func4 (sC (Zyd.l0.ok k) sN)
def Zvp (a1:Int):Option (List Str×List Zz):=Ya (Zld a1 1 40) fun v2=>bif !v2 then some ([],[]) else Ya (Zrg 16 a1 a1 []) fun v3=>some (v3,[])
def Zvp.con (k:Nat):Con:=Sig.con { ps:=[.val false (.int .i64) (ros (.int .i64))],rs:=[.val true [.own 9 .str,.own 176 Zx]],ntmps:=10 } (fun x=>Zvp x)
theorem Zvp.ok (k:Nat):Ze Yc 27 (Zvp.con k):=fA (cX (cC (Zld.ok k) cN)) Tryz.func27
def Zpm (a1:G26):Option (List Str×List Zz):=Ya (Zmb 16 [] a1.1) fun v2=>Ya (Zmb 24 [] a1.2) fun v3=>some (v2,v3)
def Zpm.con (k:Nat):Con:=Sig.con { ps:=[.val true T26 (ros T26)],rs:=[.val true [.own 9 .str,.own 176 Zx]],ntmps:=12 } (fun x=>Zpm x)
theorem Zpm.ok (k:Nat):Ze Yc 56 (Zpm.con k):=fA (cXr true false cN) Tryz.func56
def Zmk (a1:Int):Option (List Str×List Zz×Str×Int):=some ([],[],[],a1)
def Zmk.con (k:Nat):Con:=Sig.con { ps:=[.val false (.int .i64) (ros (.int .i64))],rs:=[.val true [.own 9 .str,.own 176 Zx,.v .str,.v (.int .i64)]],ntmps:=5 } (fun x=>Zmk x)
theorem Zmk.ok (k:Nat):Ze Yc 59 (Zmk.con k):=fA (cX cN) Tryz.func59
def Z7.l0:Nat→List Str→List Zz→Int→Option (Unit ⊕ Bool)
 | 0,_,_,_=>none
 | j+1,a1,a2,a3=>bif decide (a3<((a1.length):Int)) then Ya (at? a1 a3) fun v4=>bif decide (96<((v4.length):Int)) then some (.inr false) else Z7.l0 j a1 a2 (Yb .i64 (a3+1)) else some (.inl ())
def Z7.l1:Nat→List Str→List Zz→Int→Int→Option (Unit ⊕ Bool)
 | 0,_,_,_,_=>none
 | j+1,a1,a2,a3,a4=>bif decide (a4<a3) then Ya (at? a2 a4) fun v5=>Ya (at? a2 a3) fun v6=>bif v5.1==v6.1 then some (.inr false) else Z7.l1 j a1 a2 a3 (Yb .i64 (a4+1)) else some (.inl ())
def Z7.l2 (k:Nat):Nat→List Str→List Zz→Int→Option (Unit ⊕ Bool)
 | 0,_,_,_=>none
 | j+1,a1,a2,a3=>bif decide (a3<((a2.length):Int)) then Ya (at? a2 a3) fun v4=>Ya (Zld v4.1 0 (Yb .i64 (((a1.length):Int)-1))) fun v5=>bif !v5 then some (.inr false) else Ya (at? a2 a3) fun v6=>bif decide (96<((v6.2.length):Int)) then some (.inr false) else Ya (Z7.l1 k a1 a2 a3 0) fun
    | .inl y7=>Z7.l2 k j a1 a2 (Yb .i64 (a3+1))
    | .inr y8=>some (.inr y8) else some (.inl ())
def Z7 (k:Nat) (a1:G26):Option (Bool):=let e2:=((a1.1.length):Int);bif ((decide (e2<1))||(decide (40<e2)))||(decide (e2<((a1.2.length):Int))) then some false else Ya (Z7.l0 k a1.1 a1.2 0) fun
  | .inl y3=>Ya (Z7.l2 k k a1.1 a1.2 0) fun
    | .inl y4=>some true
    | .inr y5=>some y5
  | .inr y6=>some y6
def Z7.con (k:Nat):Con:=Sig.con { ps:=[.val true T26 (ros T26)],rs:=[.val false [.v .bool]],ntmps:=86 } (fun x=>Z7 k x)
def Z7.cok (k:Nat):=cXr true false (cC (Zld.ok k) cN)
def Z7.l0.s (k:Nat):Summ:=lp 86 { tmps:=[(1,.eptr [.bor .str,.bor Zx]),(3,.one (.v (.int .i64)))],slots:=[],nb:=0 } [(.exit 0,{ tmps:=[],slots:=[],nb:=0 }),(.ret,{ tmps:=[(2,.one (.v .bool))],slots:=[],nb:=0 })] (fun j x=>Z7.l0 j x.1 x.2.1 x.2.2) k
def Z7.l0.ok (k:Nat):=(lA (Z7.cok k):Zo Yc _ (.loop (cO (cO (cR (cL (cR (cR (cB Yp)))))))) (Z7.l0.s k))
def Z7.l1.s (k:Nat):Summ:=lp 86 { tmps:=[(1,.eptr [.bor .str,.bor Zx]),(4,.one (.v (.int .i64))),(5,.one (.v (.int .i64)))],slots:=[],nb:=0 } [(.exit 4,{ tmps:=[],slots:=[],nb:=0 }),(.ret,{ tmps:=[(2,.one (.v .bool))],slots:=[],nb:=0 })] (fun j x=>Z7.l1 j x.1 x.2.1 x.2.2.1 x.2.2.2) k
def Z7.l1.ok (k:Nat):=(lA (Z7.cok k):Zo Yc _ (.loop (cO (cO (cR (cR (cO (cL (cR (cO (cO (cR (cL (cR (cR (cR (cB Yp)))))))))))))))) (Z7.l1.s k))
def Z7.l2.s (k:Nat):Summ:=lp 86 { tmps:=[(1,.eptr [.bor .str,.bor Zx]),(4,.one (.v (.int .i64)))],slots:=[],nb:=0 } [(.exit 2,{ tmps:=[],slots:=[],nb:=0 }),(.ret,{ tmps:=[(2,.one (.v .bool))],slots:=[],nb:=0 })] (fun j x=>Z7.l2 k j x.1 x.2.1 x.2.2) k
def Z7.l2.ok (k:Nat):=(lP (.two .auto (.two (.one (.two .auto (.two .auto (.one (.sum (Z7.l1.s k)))))) .auto)) (Z7.cok k) (sC (Z7.l1.ok k) sN):Zo Yc _ (.loop (cO (cO (cR (cL (cR (cR (cR (cB Yp))))))))) (Z7.l2.s k))
theorem Z7.ok (k:Nat):Ze Yc 119 (Z7.con k):=fP (.two .auto (.two .auto (.two (.two .auto (.one (.sum (Z7.l0.s k)))) (.two (.two .auto (.one (.sum (Z7.l2.s k)))) .auto)))) (Z7.cok k) Tryz.func119 (sC (Z7.l0.ok k) (sC (Z7.l2.ok k) sN))
def Z3f.l0:Nat→List Str→List Zz→Int→List Str→List Zz→Option ((List Str×List Zz))
 | 0,_,_,_,_,_=>none
 | j+1,a1,a2,a3,a4,a5=>bif decide (a3<((a2.length):Int)) then Ya (at? a2 a3) fun v6=>Ya (at? a2 a3) fun v7=>let e8:=at? a4 v6.1;Ya (e8) fun v9=>Ya (e8) fun v10=>Z3f.l0 j a1 a2 (Yb .i64 (a3+1)) (Ye a4 (Yd v6.1) v7.2) a5 else some (a4,a5)
def Z3f (k:Nat) (a1:G26):Option (List Str×List Zz):=Ya (Zmb 16 [] a1.1) fun v2=>Ya (Z3f.l0 k a1.1 a1.2 0 v2 []) fun y3=>some (y3.1,y3.2)
def Z3f.con (k:Nat):Con:=Sig.con { ps:=[.val true T26 (ros T26)],rs:=[.val true [.own 9 .str,.own 176 Zx]],ntmps:=33 } (fun x=>Z3f k x)
def Z3f.cok (k:Nat):=cXr true false cN
def Z3f.l0.s (k:Nat):Summ:=lp 33 { tmps:=[(1,.eptr [.bor .str,.bor Zx]),(3,.one (.ptr 3 0)),(4,.one (.v (.int .i64)))],slots:=[(3,.box 26 [.own 4,.own 5]),(4,.arr false 9 .str),(5,.arr false 176 Zx)],nb:=6 } [(.exit 0,{ tmps:=[],slots:=[(3,.box 26 [.own 6,.own 7]),(6,.arr false 9 .str),(7,.arr false 176 Zx)],nb:=8 })] (fun j x=>Z3f.l0 j x.1 x.2.1 x.2.2.1 x.2.2.2.1 x.2.2.2.2) k
def Z3f.l0.ok (k:Nat):=(lA (Z3f.cok k):Zo Yc _ (.loop (cO (cO (cR (cL (cR (cR (cB Tryz.f120)))))))) (Z3f.l0.s k))
theorem Z3f.ok (k:Nat):Ze Yc 120 (Z3f.con k):=fP (.two .auto (.two .auto (.two (.two .auto (.one (.sum (Z3f.l0.s k)))) .auto))) (Z3f.cok k) Tryz.func120 (sC (Z3f.l0.ok k) sN)
def Zwp (k:Nat) (a1:G26):Option (List Str×List Zz×Str×Int):=Ya (Z7 k a1) fun v2=>bif !v2 then Ya (Zmk 1) fun v3=>some (v3.1,v3.2.1,v3.2.2.1,v3.2.2.2) else Ya (Z3f k a1) fun v4=>some (v4.1,v4.2,[],0)
def Zwp.con (k:Nat):Con:=Sig.con { ps:=[.val true T26 (ros T26)],rs:=[.val true [.own 9 .str,.own 176 Zx,.v .str,.v (.int .i64)]],ntmps:=10 } (fun x=>Zwp k x)
theorem Zwp.ok (k:Nat):Ze Yc 57 (Zwp.con k):=fA (cXr true false (cC (Zmk.ok k) (cC (Z7.ok k) (cC (Z3f.ok k) cN)))) Tryz.func57
def Zvf.l0:Nat→Int→Str→Int→List Str→List Zz→List Str→List Zz→Option ((List Str×List Zz×List Str×List Zz) ⊕ (List Str×List Zz))
 | 0,_,_,_,_,_,_,_=>none
 | j+1,a1,a2,a3,a4,a5,a6,a7=>bif decide (a3<((a7.length):Int)) then Ya (at? a7 a3) fun v8=>Ya (at? a7 a3) fun v9=>bif v9.1==a1 then Ya (at? a7 a3) fun v10=>Ya (at? a7 a3) fun v11=>some (.inr (a6,Ye a7 (Yd a3) (v11.1,a2))) else Zvf.l0 j a1 a2 (Yb .i64 (a3+1)) a4 a5 a6 a7 else some (.inl (a4,a5,a6,a7))
def Zvf (k:Nat) (a1:G26) (a2:Int) (a3:Str):Option (List Str×List Zz):=Ya (Zpm a1) fun v4=>Ya (Zvf.l0 k a2 a3 0 [] [] v4.1 v4.2) fun
  | .inl y5=>Ya (Zmb 24 y5.2.2.2 [(a2,a3)]) fun v6=>some (y5.2.2.1,v6)
  | .inr y7=>some (y7.1,y7.2)
def Zvf.con (k:Nat):Con:=Sig.con { ps:=[.val true T26 (ros T26),.val false (.int .i64) (ros (.int .i64)),.val false .str (ros .str)],rs:=[.val true [.own 9 .str,.own 176 Zx]],ntmps:=42 } (fun x=>Zvf k x.1 x.2.1 x.2.2)
def Zvf.cok (k:Nat):=cXr true false (cC (Zpm.ok k) cN)
def Zvf.l0.s (k:Nat):Summ:=lp 42 { tmps:=[(1,.one (.v (.int .i64))),(2,.one (.v .str)),(6,.one (.ptr 0 0)),(7,.one (.ptr 3 0)),(8,.one (.v (.int .i64)))],slots:=[(0,.box 26 [.own 4,.own 5]),(3,.box 26 [.own 6,.own 7]),(4,.arr false 9 .str),(5,.arr false 176 Zx),(6,.arr false 9 .str),(7,.arr false 176 Zx)],nb:=8 } [(.exit 0,{ tmps:=[],slots:=[(0,.box 26 [.own 8,.own 9]),(3,.box 26 [.own 10,.own 11]),(8,.arr false 9 .str),(9,.arr false 176 Zx),(10,.arr false 9 .str),(11,.arr false 176 Zx)],nb:=12 }),(.ret,{ tmps:=[],slots:=[(0,.box 26 [.own 8,.own 9]),(3,.box 26 [.own 8,.own 9]),(8,.arr false 9 .str),(9,.arr false 176 Zx)],nb:=10 })] (fun j x=>Zvf.l0 j x.1 x.2.1 x.2.2.1 x.2.2.2.1 x.2.2.2.2.1 x.2.2.2.2.2.1 x.2.2.2.2.2.2) k
def Zvf.l0.ok (k:Nat):=(lA (Zvf.cok k):Zo Yc _ (.loop (cO (cO (cR (cL (cR (cR (cB Tryz.f121)))))))) (Zvf.l0.s k))
theorem Zvf.ok (k:Nat):Ze Yc 121 (Zvf.con k):=fP (.two .auto (.two .auto (.two (.two .auto (.one (.sum (Zvf.l0.s k)))) .auto))) (Zvf.cok k) Tryz.func121 (sC (Zvf.l0.ok k) sN)
def Zxp (k:Nat) (a1:G26) (a2:Int) (a3:Str):Option (List Str×List Zz×Str×Int):=bif decide (8000<((a3.length):Int)) then Ya (Zmk 2) fun v4=>some (v4.1,v4.2.1,v4.2.2.1,v4.2.2.2) else Ya (Z7 k a1) fun v5=>bif (!v5)||(decide (96<((a3.length):Int))) then Ya (Zmk 1) fun v6=>some (v6.1,v6.2.1,v6.2.2.1,v6.2.2.2) else Ya (Zld a2 0 (Yb .i64 (((a1.1.length):Int)-1))) fun v7=>bif !v7 then Ya (Zmk 8) fun v8=>some (v8.1,v8.2.1,v8.2.2.1,v8.2.2.2) else Ya (Zvf k a1 a2 a3) fun v9=>some (v9.1,v9.2,[],0)
def Zxp.con (k:Nat):Con:=Sig.con { ps:=[.val true T26 (ros T26),.val false (.int .i64) (ros (.int .i64)),.val false .str (ros .str)],rs:=[.val true [.own 9 .str,.own 176 Zx,.v .str,.v (.int .i64)]],ntmps:=33 } (fun x=>Zxp k x.1 x.2.1 x.2.2)
theorem Zxp.ok (k:Nat):Ze Yc 58 (Zxp.con k):=fA (cXr true false (cC (Zld.ok k) (cC (Zmk.ok k) (cC (Z7.ok k) (cC (Zvf.ok k) cN))))) Tryz.func58
def Zif.l0 (k:Nat):Nat→List Zyg→Int→Str→Int→List Str→List Zz→Option ((Str×Int×List Str×List Zz))
 | 0,_,_,_,_,_,_=>none
 | j+1,a1,a2,a3,a4,a5,a6=>bif (decide (a2<((a1.length):Int)))&&(a4==0) then Ya (at? a1 a2) fun v7=>let e8:=Yb .i64 (a2+1);bif v7.1 then Ya (Zwp k (a5,a6)) fun v9=>Zif.l0 k j a1 e8 v9.2.2.1 v9.2.2.2 v9.1 v9.2.1 else Ya (at? a1 a2) fun v10=>Ya (at? a1 a2) fun v11=>Ya (Zxp k (a5,a6) v10.2.1 v11.2.2) fun v12=>Zif.l0 k j a1 e8 v12.2.2.1 v12.2.2.2 v12.1 v12.2.1 else some (a3,a4,a5,a6)
def Zif (k:Nat) (a1:G26) (a2:List Zyg):Option (List Str×List Zz×Str×Int):=Ya (Zpm a1) fun v3=>Ya (Zif.l0 k k a2 0 [] 0 v3.1 v3.2) fun y4=>bif y4.2.1 != 0 then Ya (Zmk y4.2.1) fun v5=>some (v5.1,v5.2.1,v5.2.2.1,v5.2.2.2) else some (y4.2.2.1,y4.2.2.2,y4.1,y4.2.1)
def Zif.con (k:Nat):Con:=Sig.con { ps:=[.val true T26 (ros T26),.val false (.sl Zte) (ros (.sl Zte))],rs:=[.val true [.own 9 .str,.own 176 Zx,.v .str,.v (.int .i64)]],ntmps:=49 } (fun x=>Zif k x.1 x.2)
def Zif.cok (k:Nat):=cXr true false (cC (Zpm.ok k) (cC (Zwp.ok k) (cC (Zxp.ok k) (cC (Zmk.ok k) cN))))
def Zif.l0.s (k:Nat):Summ:=lp 49 { tmps:=[(1,.one (.bor Zte)),(5,.one (.ptr 3 0)),(6,.one (.v (.int .i64)))],slots:=[(3,.box 77 [.own 4,.own 5,.v .str,.v (.int .i64)]),(4,.arr false 9 .str),(5,.arr false 176 Zx)],nb:=6 } [(.exit 0,{ tmps:=[],slots:=[(3,.box 77 [.own 6,.own 7,.v .str,.v (.int .i64)]),(6,.arr false 9 .str),(7,.arr false 176 Zx)],nb:=8 })] (fun j x=>Zif.l0 k j x.1 x.2.1 x.2.2.1 x.2.2.2.1 x.2.2.2.2.1 x.2.2.2.2.2) k
def Zif.l0.ok (k:Nat):=(lA (Zif.cok k):Zo Yc _ (.loop (cO (cO (cR (cL (cR (cR (cB Tryz.f28)))))))) (Zif.l0.s k))
theorem Zif.ok (k:Nat):Ze Yc 28 (Zif.con k):=fP (.two .auto (.two .auto (.two (.two .auto (.one (.sum (Zif.l0.s k)))) .auto))) (Zif.cok k) Tryz.func28 (sC (Zif.l0.ok k) sN)
def Z1p (a1:Int):Option (Int):=bif decide (a1<0) then some (Yb .u64 ((Yb .u64 (2*(Yb .u64 (Yb .i64 (0-(Yb .i64 (a1+1)))))))+1)) else some (Yb .u64 (2*(Yb .u64 a1)))
def Z1p.con (k:Nat):Con:=Sig.con { ps:=[.val false (.int .i64) (ros (.int .i64))],rs:=[.val false [.v (.int .u64)]],ntmps:=14 } (fun x=>Z1p x)
theorem Z1p.ok (k:Nat):Ze Yc 125 (Z1p.con k):=fA (cX cN) Tryz.func125
def Z5c.l0:Nat→Int→List Int→Option ((Int×List Int))
 | 0,_,_=>none
 | j+1,a1,a2=>bif decide (128≤a1) then Ya (nz? 128) fun v3=>Ya (Zmb 1 a2 [(Yb .u8 (Yb .u64 ((Yf a1 128)+128)))]) fun v4=>Ya (nz? 128) fun v5=>Z5c.l0 j (Yb .u64 (Yk a1 128)) v4 else some (a1,a2)
def Z5c (k:Nat) (a1:Int):Option (Str):=Ya (Z1p a1) fun v2=>Ya (Z5c.l0 k v2 []) fun y3=>Ya (Zmb 1 y3.2 [(Yb .u8 y3.1)]) fun v4=>some (Znb v4)
def Z5c.con (k:Nat):Con:=Sig.con { ps:=[.val false (.int .i64) (ros (.int .i64))],rs:=[.val false [.v .str]],ntmps:=25 } (fun x=>Z5c k x)
def Z5c.cok (k:Nat):=cX (cC (Z1p.ok k) cN)
def Z5c.l0.s (k:Nat):Summ:=lp 25 { tmps:=[(3,.one (.v (.int .u64))),(4,.one (.own 1))],slots:=[(1,.arr false 5 (.int .u8))],nb:=2 } [(.exit 0,{ tmps:=[(3,.one (.v (.int .u64))),(4,.one (.own 2))],slots:=[(2,.arr false 5 (.int .u8))],nb:=3 })] (fun j x=>Z5c.l0 j x.1 x.2) k
def Z5c.l0.ok (k:Nat):=(lA (Z5c.cok k):Zo Yc _ (.loop (cO (cO (cL (cR (cR (cR (cB Tryz.f62)))))))) (Z5c.l0.s k))
theorem Z5c.ok (k:Nat):Ze Yc 62 (Z5c.con k):=fP (.two .auto (.two .auto (.two .auto (.two (.one (.sum (Z5c.l0.s k))) .auto)))) (Z5c.cok k) Tryz.func62 (sC (Z5c.l0.ok k) sN)
def Zmm (k:Nat) (a1:Str):Option (Str):=bif decide (8000<((a1.length):Int)) then some ([]) else Ya (Z5c k ((a1.length):Int)) fun v2=>Ya (Zge v2 a1) fun v3=>some v3
def Zmm.con (k:Nat):Con:=Sig.con { ps:=[.val false .str (ros .str)],rs:=[.val false [.v .str]],ntmps:=11 } (fun x=>Zmm k x)
theorem Zmm.ok (k:Nat):Ze Yc 64 (Zmm.con k):=fA (cX (cC (Z5c.ok k) cN)) Tryz.func64
def Znm (a1:Int):Option (Str):=Ya (Zrb 8) fun v2=>Ya (Zrb 16) fun v3=>Ya (Zrb 24) fun v4=>some (Znb [(Yb .u8 a1),(Yb .u8 (shr .i64 a1 8)),(Yb .u8 (shr .i64 a1 16)),(Yb .u8 (shr .i64 a1 24))])
def Znm.con (k:Nat):Con:=Sig.con { ps:=[.val false (.int .i64) (ros (.int .i64))],rs:=[.val false [.v .str]],ntmps:=16 } (fun x=>Znm x)
theorem Znm.ok (k:Nat):Ze Yc 170 (Znm.con k):=fA (cX cN) Tryz.func170
def Z7b.l0:Nat→Int→Int→Option (Int)
 | 0,_,_=>none
 | j+1,a1,a2=>bif decide (a2<8) then let e3:=Yb .i64 (a2+1);bif (intBits .and .u32 a1 1)==1 then Ya (Zrb 1) fun v4=>Z7b.l0 j (intBits .xor .u32 (shr .u32 a1 1) 3988292384) e3 else Ya (Zrb 1) fun v5=>Z7b.l0 j (shr .u32 a1 1) e3 else some a1
def Z7b.l1 (k:Nat):Nat→Str→Int→Int→Option (Int)
 | 0,_,_,_=>none
 | j+1,a1,a2,a3=>bif decide (a3<((a1.length):Int)) then Ya (at? a1 a3) fun v4=>Ya (Z7b.l0 k (intBits .xor .u32 a2 (Yb .u32 (v4.toNat:Int))) 0) fun y5=>Z7b.l1 k j a1 y5 (Yb .i64 (a3+1)) else some a2
def Z7b (k:Nat) (a1:Int) (a2:Str):Option (Int):=Ya (Z7b.l1 k k a2 (intBits .xor .u32 (Yb .u32 a1) 4294967295) 0) fun y3=>some (Yb .i64 (intBits .xor .u32 y3 4294967295))
def Z7b.con (k:Nat):Con:=Sig.con { ps:=[.val false (.int .i64) (ros (.int .i64)),.val false .str (ros .str)],rs:=[.val false [.v (.int .i64)]],ntmps:=38 } (fun x=>Z7b k x.1 x.2)
def Z7b.cok (k:Nat):=cX cN
def Z7b.l0.s (k:Nat):Summ:=lp 38 { tmps:=[(5,.one (.v (.int .u32))),(7,.one (.v (.int .i64)))],slots:=[],nb:=0 } [(.exit 2,{ tmps:=[(5,.one (.v (.int .u32)))],slots:=[],nb:=0 })] (fun j x=>Z7b.l0 j x.1 x.2) k
def Z7b.l0.ok (k:Nat):=(lA (Z7b.cok k):Zo Yc _ (.loop (cO (cO (cR (cR (cO (cL (cR (cO (cO (cR (cL (cR (cR (cB Yw))))))))))))))) (Z7b.l0.s k))
def Z7b.l1.s (k:Nat):Summ:=lp 38 { tmps:=[(1,.one (.v .str)),(5,.one (.v (.int .u32))),(6,.one (.v (.int .i64)))],slots:=[],nb:=0 } [(.exit 0,{ tmps:=[(5,.one (.v (.int .u32)))],slots:=[],nb:=0 })] (fun j x=>Z7b.l1 k j x.1 x.2.1 x.2.2) k
def Z7b.l1.ok (k:Nat):=(lP (.two .auto (.two (.one (.two .auto (.two .auto (.one (.sum (Z7b.l0.s k)))))) .auto)) (Z7b.cok k) (sC (Z7b.l0.ok k) sN):Zo Yc _ (.loop (cO (cO (cR (cL (cR (cR (cB Yw)))))))) (Z7b.l1.s k))
theorem Z7b.ok (k:Nat):Ze Yc 171 (Z7b.con k):=fP (.two .auto (.two .auto (.two (.two .auto (.one (.sum (Z7b.l1.s k)))) .auto))) (Z7b.cok k) Tryz.func171 (sC (Z7b.l1.ok k) sN)
def Zzp (k:Nat) (a1:Str):Option (Str):=bif decide (7996<((a1.length):Int)) then some ([]) else Ya (Z7b k 0 a1) fun v2=>Ya (Znm v2) fun v3=>Ya (Zge a1 v3) fun v4=>some v4
def Zzp.con (k:Nat):Con:=Sig.con { ps:=[.val false .str (ros .str)],rs:=[.val false [.v .str]],ntmps:=11 } (fun x=>Zzp k x)
theorem Zzp.ok (k:Nat):Ze Yc 124 (Zzp.con k):=fA (cX (cC (Znm.ok k) (cC (Z7b.ok k) cN))) Tryz.func124
def Zzj (k:Nat) (a1:Int) (a2:Str):Option (Str):=Ya (Zld a1 1 1000000) fun v3=>bif (!v3)||(decide (80<((a2.length):Int))) then some ([]) else Ya (Z5c k a1) fun v4=>Ya (Zmm k a2) fun v5=>Ya (Zge v4 v5) fun v6=>Ya (Zzp k v6) fun v7=>some v7
def Zzj.con (k:Nat):Con:=Sig.con { ps:=[.val false (.int .i64) (ros (.int .i64)),.val false .str (ros .str)],rs:=[.val false [.v .str]],ntmps:=19 } (fun x=>Zzj k x.1 x.2)
theorem Zzj.ok (k:Nat):Ze Yc 61 (Zzj.con k):=fA (cX (cC (Zld.ok k) (cC (Z5c.ok k) (cC (Zmm.ok k) (cC (Zzp.ok k) cN))))) Tryz.func61
def Z0p (k:Nat) (a1:Str):Option (Str×Int×Int):=bif decide (8000<((a1.length):Int)) then some ([],0,2) else bif decide (((a1.length):Int)<4) then some ([],0,4) else let e2:=Yb .i64 (((a1.length):Int)-4);Ya (Z9b a1 0 e2) fun v3=>Ya (Z7b k 0 v3) fun v4=>Ya (Znm v4) fun v5=>Ya (Z9b a1 e2 ((a1.length):Int)) fun v6=>bif !(v5==v6) then some ([],0,5) else some (v3,0,0)
def Z0p.con (k:Nat):Con:=Sig.con { ps:=[.val false .str (ros .str)],rs:=[.val true [.v .str,.v (.int .i64),.v (.int .i64)]],ntmps:=29 } (fun x=>Z0p k x)
theorem Z0p.ok (k:Nat):Ze Yc 167 (Z0p.con k):=fA (cX (cC (Znm.ok k) (cC (Z7b.ok k) cN))) Tryz.func167
def Z7d.l0:Nat→Str→Int→Int→Int→Int→Int→Int→Option ((Int×Int×Int) ⊕ (Int×Int×Int))
 | 0,_,_,_,_,_,_,_=>none
 | j+1,a1,a2,a3,a4,a5,a6,a7=>bif decide (a4<10) then bif decide ((Yb .i64 (((a1.length):Int)-a4))≤a2) then some (.inr (0,0,4)) else let e8:=Yb .i64 (a2+a4);Ya (at? a1 e8) fun v9=>bif (a4==9)&&(decide (1<(Yb .u64 (v9.toNat:Int)))) then some (.inr (0,0,3)) else Ya (nz? 128) fun v10=>let e11:=Yb .u64 (Yb .i64 (7*a4));Ya (Zrb e11) fun v12=>let e13:=Yb .u64 (a3+(shl .u64 (Yf (Yb .u64 (v9.toNat:Int)) 128) e11));bif decide ((Yb .u64 (v9.toNat:Int))<128) then bif ((Yb .u64 (v9.toNat:Int))==0)&&(decide (0<a4)) then some (.inr (0,0,3)) else Ya (nz? 2) fun v14=>Ya (nz? 2) fun v15=>let e16:=Yb .i64 (e8+1);let e17:=Yb .i64 (Yb .u64 (Yk e13 2));bif (Yf e13 2)==1 then some (.inr (Yb .i64 ((Yb .i64 (0-e17))-1),e16,0)) else some (.inr (e17,e16,0)) else Z7d.l0 j a1 a2 e13 (Yb .i64 (a4+1)) a5 a6 a7 else some (.inl (a5,a6,a7))
def Z7d (k:Nat) (a1:Str) (a2:Int):Option (Int×Int×Int):=bif decide (8000<((a1.length):Int)) then some (0,0,2) else bif decide (a2<0) then some (0,0,1) else Ya (Z7d.l0 k a1 a2 0 0 0 0 0) fun
  | .inl y3=>some (0,0,3)
  | .inr y4=>some (y4.1,y4.2.1,y4.2.2)
def Z7d.con (k:Nat):Con:=Sig.con { ps:=[.val false .str (ros .str),.val false (.int .i64) (ros (.int .i64))],rs:=[.val true [.v (.int .i64),.v (.int .i64),.v (.int .i64)]],ntmps:=73 } (fun x=>Z7d k x.1 x.2)
def Z7d.cok (k:Nat):=cX cN
def Z7d.l0.s (k:Nat):Summ:=lp 73 { tmps:=[(0,.one (.v .str)),(1,.one (.v (.int .i64))),(4,.one (.ptr 0 0)),(5,.one (.v (.int .u64))),(6,.one (.v (.int .i64)))],slots:=[(0,.box 202 [.v (.int .i64),.v (.int .i64),.v (.int .i64)])],nb:=1 } [(.exit 0,{ tmps:=[],slots:=[(0,.box 202 [.v (.int .i64),.v (.int .i64),.v (.int .i64)])],nb:=1 }),(.ret,{ tmps:=[],slots:=[(0,.box 202 [.v (.int .i64),.v (.int .i64),.v (.int .i64)])],nb:=1 })] (fun j x=>Z7d.l0 j x.1 x.2.1 x.2.2.1 x.2.2.2.1 x.2.2.2.2.1 x.2.2.2.2.2.1 x.2.2.2.2.2.2) k
def Z7d.l0.ok (k:Nat):=(lA (Z7d.cok k):Zo Yc _ (.loop (cO (cO (cR (cL (cR (cR (cR (cR (cB Tryz.f168)))))))))) (Z7d.l0.s k))
theorem Z7d.ok (k:Nat):Ze Yc 168 (Z7d.con k):=fP (.two .auto (.two .auto (.two .auto (.two .auto (.two (.two .auto (.one (.sum (Z7d.l0.s k)))) .auto))))) (Z7d.cok k) Tryz.func168 (sC (Z7d.l0.ok k) sN)
def Zqn (k:Nat) (a1:Str) (a2:Int):Option (Str×Int×Int):=Ya (Z7d k a1 a2) fun v3=>bif v3.2.2 != 0 then some ([],0,v3.2.2) else bif (decide (v3.1<0))||(decide (8000<v3.1)) then some ([],0,3) else bif decide ((Yb .i64 (((a1.length):Int)-v3.1))<v3.2.1) then some ([],0,4) else let e4:=Yb .i64 (v3.2.1+v3.1);Ya (Z9b a1 v3.2.1 e4) fun v5=>some (v5,e4,0)
def Zqn.con (k:Nat):Con:=Sig.con { ps:=[.val false .str (ros .str),.val false (.int .i64) (ros (.int .i64))],rs:=[.val true [.v .str,.v (.int .i64),.v (.int .i64)]],ntmps:=48 } (fun x=>Zqn k x.1 x.2)
theorem Zqn.ok (k:Nat):Ze Yc 169 (Zqn.con k):=fA (cX (cC (Z7d.ok k) cN)) Tryz.func169
def Zkk (k:Nat) (a1:Str):Option (Int×Str×Int):=Ya (Z0p k a1) fun v2=>bif v2.2.2 != 0 then some (0,[],v2.2.2) else Ya (Z7d k v2.1 0) fun v3=>Ya (Zqn k v2.1 v3.2.1) fun v4=>bif (v3.2.2 != 0)||(v4.2.2 != 0) then some (0,[],3) else Ya (Zzj k v3.1 v4.1) fun v5=>bif !(v5==a1) then some (0,[],3) else some (v3.1,v4.1,0)
def Zkk.con (k:Nat):Con:=Sig.con { ps:=[.val false .str (ros .str)],rs:=[.val true [.v (.int .i64),.v .str,.v (.int .i64)]],ntmps:=45 } (fun x=>Zkk k x)
theorem Zkk.ok (k:Nat):Ze Yc 122 (Zkk.con k):=fA (cX (cC (Zzj.ok k) (cC (Z0p.ok k) (cC (Z7d.ok k) (cC (Zqn.ok k) cN))))) Tryz.func122
def Z6c.l0:Nat→Int→List Str→List Zz→Int→Option (Unit ⊕ Str)
 | 0,_,_,_,_=>none
 | j+1,a1,a2,a3,a4=>bif decide (a4<((a3.length):Int)) then Ya (at? a3 a4) fun v5=>bif v5.1==a1 then Ya (at? a3 a4) fun v6=>some (.inr (v6.2)) else Z6c.l0 j a1 a2 a3 (Yb .i64 (a4+1)) else some (.inl ())
def Z6c (k:Nat) (a1:G26) (a2:Int):Option (Str):=Ya (Z6c.l0 k a2 a1.1 a1.2 0) fun
  | .inl y3=>Ya (at? a1.1 a2) fun v4=>some v4
  | .inr y5=>some y5
def Z6c.con (k:Nat):Con:=Sig.con { ps:=[.val true T26 (ros T26),.val false (.int .i64) (ros (.int .i64))],rs:=[.val false [.v .str]],ntmps:=32 } (fun x=>Z6c k x.1 x.2)
def Z6c.cok (k:Nat):=cXr true false cN
def Z6c.l0.s (k:Nat):Summ:=lp 32 { tmps:=[(1,.one (.v (.int .i64))),(2,.eptr [.bor .str,.bor Zx]),(5,.one (.v (.int .i64)))],slots:=[],nb:=0 } [(.exit 0,{ tmps:=[],slots:=[],nb:=0 }),(.ret,{ tmps:=[(4,.one (.v .str))],slots:=[],nb:=0 })] (fun j x=>Z6c.l0 j x.1 x.2.1 x.2.2.1 x.2.2.2) k
def Z6c.l0.ok (k:Nat):=(lA (Z6c.cok k):Zo Yc _ (.loop (cO (cO (cR (cL (cR (cB Tryz.f123))))))) (Z6c.l0.s k))
theorem Z6c.ok (k:Nat):Ze Yc 123 (Z6c.con k):=fP (.two .auto (.two (.two .auto (.one (.sum (Z6c.l0.s k)))) .auto)) (Z6c.cok k) Tryz.func123 (sC (Z6c.l0.ok k) sN)
def Z5p (k:Nat) (a1:G26):Option (Int×Str×Int×Int):=Ya (Z6c k a1 0) fun v2=>Ya (Zkk k v2) fun v3=>Ya (Z6c k a1 1) fun v4=>Ya (Zkk k v4) fun v5=>bif (v3.2.2==0)&&((v5.2.2 != 0)||(decide (v5.1≤v3.1))) then some (v3.1,v3.2.1,v3.2.2,0) else bif v5.2.2==0 then some (v5.1,v5.2.1,v5.2.2,1) else some (0,[],6,(-1))
def Z5p.con (k:Nat):Con:=Sig.con { ps:=[.val true T26 (ros T26)],rs:=[.val true [.v (.int .i64),.v .str,.v (.int .i64)],.val false [.v (.int .i64)]],ntmps:=35 } (fun x=>Z5p k x)
theorem Z5p.ok (k:Nat):Ze Yc 60 (Z5p.con k):=fA (cXr true false (cC (Zkk.ok k) (cC (Z6c.ok k) cN))) Tryz.func60
def Z4p (k:Nat) (a1:G26) (a2:Str):Option (List Zyg):=Ya (Z5p k a1) fun v3=>bif decide (1000000≤v3.1) then some ([]) else let e4:=(true,(0,[]));bif v3.2.2.2 != 0 then Ya (Zzj k (Yb .i64 (v3.1+1)) a2) fun v5=>some ([(false,(0,v5)),e4]) else Ya (Zzj k (Yb .i64 (v3.1+1)) a2) fun v6=>some ([(false,(1,v6)),e4])
def Z4p.con (k:Nat):Con:=Sig.con { ps:=[.val true T26 (ros T26),.val false .str (ros .str)],rs:=[.val false [.own 108 Zte]],ntmps:=28 } (fun x=>Z4p k x.1 x.2)
theorem Z4p.ok (k:Nat):Ze Yc 29 (Z4p.con k):=fA (cXr true false (cC (Z5p.ok k) (cC (Zzj.ok k) cN))) Tryz.func29
def Zef.l0:Nat→List Int→Int→Option (Unit ⊕ Bool)
 | 0,_,_=>none
 | j+1,a1,a2=>bif decide (a2<((a1.length):Int)) then Ya (at? a1 a2) fun v3=>Ya (Zld v3 0 23) fun v4=>bif !v4 then some (.inr false) else let e5:=Yb .i64 (a2+1);bif decide (0<a2) then Ya (at? a1 (Yb .i64 (a2-1))) fun v6=>Ya (at? a1 a2) fun v7=>bif decide (v7≤v6) then some (.inr false) else Zef.l0 j a1 e5 else Zef.l0 j a1 e5 else some (.inl ())
def Zef (k:Nat) (a1:List Int):Option (Bool):=bif decide (24<((a1.length):Int)) then some false else Ya (Zef.l0 k a1 0) fun
  | .inl y2=>some true
  | .inr y3=>some y3
def Zef.con (k:Nat):Con:=Sig.con { ps:=[.val false (.sl (.int .i64)) (ros (.sl (.int .i64)))],rs:=[.val false [.v .bool]],ntmps:=35 } (fun x=>Zef k x)
def Zef.cok (k:Nat):=cX (cC (Zld.ok k) cN)
def Zef.l0.s (k:Nat):Summ:=lp 35 { tmps:=[(0,.one (.bor (.int .i64))),(3,.one (.v (.int .i64)))],slots:=[],nb:=0 } [(.exit 0,{ tmps:=[],slots:=[],nb:=0 }),(.ret,{ tmps:=[(2,.one (.v .bool))],slots:=[],nb:=0 })] (fun j x=>Zef.l0 j x.1 x.2) k
def Zef.l0.ok (k:Nat):=(lA (Zef.cok k):Zo Yc _ (.loop (cO (cO (cR (cL (cR (cR (cB Tryz.f126)))))))) (Zef.l0.s k))
theorem Zef.ok (k:Nat):Ze Yc 126 (Zef.con k):=fP (.two .auto (.two .auto (.two (.two .auto (.one (.sum (Zef.l0.s k)))) .auto))) (Zef.cok k) Tryz.func126 (sC (Zef.l0.ok k) sN)
def Zdf.l0:Nat→List Int→Int→Int→Option (Int)
 | 0,_,_,_=>none
 | j+1,a1,a2,a3=>bif decide (a3<((a1.length):Int)) then Ya (at? a1 a3) fun v4=>Ya (Zrb v4) fun v5=>Zdf.l0 j a1 (Yb .i64 (a2+(shl .i64 1 v4))) (Yb .i64 (a3+1)) else some a2
def Zdf (k:Nat) (a1:List Int):Option (Int):=Ya (Zef k a1) fun v2=>bif !v2 then some (-1) else Ya (Zdf.l0 k a1 0 0) fun y3=>some y3
def Zdf.con (k:Nat):Con:=Sig.con { ps:=[.val false (.sl (.int .i64)) (ros (.sl (.int .i64)))],rs:=[.val false [.v (.int .i64)]],ntmps:=22 } (fun x=>Zdf k x)
def Zdf.cok (k:Nat):=cX (cC (Zef.ok k) cN)
def Zdf.l0.s (k:Nat):Summ:=lp 22 { tmps:=[(0,.one (.bor (.int .i64))),(3,.one (.v (.int .i64))),(4,.one (.v (.int .i64)))],slots:=[],nb:=0 } [(.exit 0,{ tmps:=[(3,.one (.v (.int .i64)))],slots:=[],nb:=0 })] (fun j x=>Zdf.l0 j x.1 x.2.1 x.2.2) k
def Zdf.l0.ok (k:Nat):=(lA (Zdf.cok k):Zo Yc _ (.loop (cO (cO (cR (cL (cR (cR (cR (cB Tryz.f63))))))))) (Zdf.l0.s k))
theorem Zdf.ok (k:Nat):Ze Yc 63 (Zdf.con k):=fP (.two .auto (.two .auto (.two .auto (.two (.two .auto (.one (.sum (Zdf.l0.s k)))) .auto)))) (Zdf.cok k) Tryz.func63 (sC (Zdf.l0.ok k) sN)
def Z6p (k:Nat) (a1:G58):Option (Str):=Ya (Z5c k a1.1) fun v2=>Ya (Z5c k a1.2.1) fun v3=>Ya (Zge v2 v3) fun v4=>Ya (Z5c k a1.2.2.1) fun v5=>Ya (Zge v4 v5) fun v6=>Ya (Z5c k a1.2.2.2.1) fun v7=>Ya (Zge v6 v7) fun v8=>Ya (Z5c k a1.2.2.2.2.1) fun v9=>Ya (Zge v8 v9) fun v10=>Ya (Zdf k a1.2.2.2.2.2.2.1) fun v11=>Ya (Z5c k v11) fun v12=>Ya (Zge v10 v12) fun v13=>Ya (Zdf k a1.2.2.2.2.2.2.2) fun v14=>Ya (Z5c k v14) fun v15=>Ya (Zge v13 v15) fun v16=>Ya (Zmm k a1.2.2.2.2.2.1) fun v17=>Ya (Zge v16 v17) fun v18=>some v18
def Z6p.con (k:Nat):Con:=Sig.con { ps:=[.val true T58 (ros T58)],rs:=[.val false [.v .str]],ntmps:=36 } (fun x=>Z6p k x)
theorem Z6p.ok (k:Nat):Ze Yc 30 (Z6p.con k):=fA (cXr true false (cC (Z5c.ok k) (cC (Zdf.ok k) (cC (Zmm.ok k) cN)))) Tryz.func30
def Zff.l0:Nat→List Str→Int→List Str→List Zz→Option ((List Str×List Zz))
 | 0,_,_,_,_=>none
 | j+1,a1,a2,a3,a4=>bif decide (a2<((a1.length):Int)) then Ya (at? a1 a2) fun v5=>let e6:=Yb .i64 (3+a2);let e7:=at? a3 e6;Ya (e7) fun v8=>Ya (e7) fun v9=>Zff.l0 j a1 (Yb .i64 (a2+1)) (Ye a3 (Yd e6) v5) a4 else some (a3,a4)
def Zff (k:Nat) (a1:List Str):Option (Int×List Str×List Zz×Int):=bif decide (400<((a1.length):Int)) then some (0,[],[],2) else Ya (Zcc k a1) fun v2=>bif !v2 then some (0,[],[],1) else Ya (Zvp (Yb .i64 ((Yb .i64 (3+((a1.length):Int)))+24))) fun v3=>Ya (Zff.l0 k a1 0 v3.1 v3.2) fun y4=>Ya (Z6p k (1,(0,(0,(0,(0,([],([],[])))))))) fun v5=>Ya (Z4p k y4 v5) fun v6=>Ya (Zif k y4 v6) fun v7=>some (((a1.length):Int),v7.1,v7.2.1,0)
def Zff.con (k:Nat):Con:=Sig.con { ps:=[.val false (.sl .str) (ros (.sl .str))],rs:=[.val true [.v (.int .i64),.own 9 .str,.own 176 Zx,.v (.int .i64)]],ntmps:=45 } (fun x=>Zff k x)
def Zff.cok (k:Nat):=cX (cC (Zcc.ok k) (cC (Zvp.ok k) (cC (Zif.ok k) (cC (Z4p.ok k) (cC (Z6p.ok k) cN)))))
def Zff.l0.s (k:Nat):Summ:=lp 45 { tmps:=[(0,.one (.bor .str)),(3,.one (.ptr 3 0)),(4,.one (.v (.int .i64)))],slots:=[(3,.box 26 [.own 4,.own 5]),(4,.arr false 9 .str),(5,.arr false 176 Zx)],nb:=6 } [(.exit 0,{ tmps:=[],slots:=[(3,.box 26 [.own 6,.own 7]),(6,.arr false 9 .str),(7,.arr false 176 Zx)],nb:=8 })] (fun j x=>Zff.l0 j x.1 x.2.1 x.2.2.1 x.2.2.2) k
def Zff.l0.ok (k:Nat):=(lA (Zff.cok k):Zo Yc _ (.loop (cO (cO (cR (cL (cR (cR (cR (cR (cB Tryz.f7)))))))))) (Zff.l0.s k))
theorem Zff.ok (k:Nat):Ze Yc 7 (Zff.con k):=fP (.two .auto (.two .auto (.two .auto (.two .auto (.two (.two .auto (.one (.sum (Zff.l0.s k)))) .auto))))) (Zff.cok k) Tryz.func7 (sC (Zff.l0.ok k) sN)
def Zwo (k:Nat) (a1:G28):Option (List G96):=Ya (Zpf k a1) fun v2=>bif (!v2.2.2.2.2.2.2.2.2)||(v2.1 != 5) then some ([]) else Ya (Zyk k a1 (v2.1,(v2.2.1,(v2.2.2.1,(v2.2.2.2.1,(v2.2.2.2.2.1,(v2.2.2.2.2.2.1,(v2.2.2.2.2.2.2.1,v2.2.2.2.2.2.2.2.1)))))))) fun v3=>some v3
def Zwo.con (k:Nat):Con:=Sig.con { ps:=[.val true T28 (ros T28)],rs:=[.val false [.own 96 T96]],ntmps:=20 } (fun x=>Zwo k x)
theorem Zwo.ok (k:Nat):Ze Yc 9 (Zwo.con k):=fA (cXr true false (cC (Zpf.ok k) (cC (Zyk.ok k) cN))) Tryz.func9
def Z4q (a1:List Zyg):Option (Int):=some ((a1.length):Int)
def Z4q.con (k:Nat):Con:=Sig.con { ps:=[.val false (.sl Zte) (ros (.sl Zte))],rs:=[.val false [.v (.int .i64)]],ntmps:=5 } (fun x=>Z4q x)
theorem Z4q.ok (k:Nat):Ze Yc 91 (Z4q.con k):=fA (cX cN) Tryz.func91
def Zfn (a1:Str) (a2:Str) (a3:Int):Option (Str):=bif decide (a3<1) then some a1 else bif a3==1 then some a2 else Ya (Z9b a2 0 (Zyi (Yb .i64 (a3-2)) ((a2.length):Int))) fun v4=>some v4
def Zfn.con (k:Nat):Con:=Sig.con { ps:=[.val false .str (ros .str),.val false .str (ros .str),.val false (.int .i64) (ros (.int .i64))],rs:=[.val false [.v .str]],ntmps:=22 } (fun x=>Zfn x.1 x.2.1 x.2.2)
theorem Zfn.ok (k:Nat):Ze Yc 150 (Zfn.con k):=fA (cX cN) Tryz.func150
def Zje.l0:Nat→List Int→Int→Int→List Zz→List Str→Option ((List Str×List Zz))
 | 0,_,_,_,_,_=>none
 | j+1,a1,a2,a3,a4,a5=>bif decide (a3<a2) then Ya (at? a4 a3) fun v6=>Ya (at? a4 a3) fun v7=>let e8:=Yb .i64 (a3+1);let e9:=at? a5 v7.1;bif decide (a3<((a1.length):Int)) then Ya (at? a1 a3) fun v10=>Ya (e9) fun v11=>Ya (e9) fun v12=>Ya (Zfn v12 v7.2 v10) fun v13=>Ya (e9) fun v14=>Ya (e9) fun v15=>Zje.l0 j a1 a2 e8 a4 (Ye a5 (Yd v7.1) v13) else Ya (e9) fun v16=>Ya (e9) fun v17=>Ya (Zfn v17 v7.2 0) fun v18=>Ya (e9) fun v19=>Ya (e9) fun v20=>Zje.l0 j a1 a2 e8 a4 (Ye a5 (Yd v7.1) v18) else some (a5,a4)
def Zje (k:Nat) (a1:G26) (a2:List Int):Option (List Str×List Zz):=Ya (Zje.l0 k a2 ((a1.2.length):Int) 0 a1.2 a1.1) fun y3=>some (y3.1,[])
def Zje.con (k:Nat):Con:=Sig.con { ps:=[.ref 26 T26 [.own 9,.own 176],.val false (.sl (.int .i64)) (ros (.sl (.int .i64)))],rs:=[],ntmps:=48 } (fun x=>Zje k x.1 x.2)
def Zje.cok (k:Nat):=cX (cC (Zfn.ok k) cN)
def Zje.l0.s (k:Nat):Summ:=lp 48 { tmps:=[(0,.one (.ptr 0 0)),(1,.one (.bor (.int .i64))),(10,.one (.own 3)),(11,.one (.v (.int .i64))),(12,.one (.v (.int .i64)))],slots:=[(0,.box 26 [.own 4,.own 3]),(3,.arr false 176 Zx),(4,.arr false 9 .str)],nb:=5 } [(.exit 0,{ tmps:=[],slots:=[(0,.box 26 [.own 5,.own 6]),(5,.arr false 9 .str),(6,.arr false 176 Zx)],nb:=7 })] (fun j x=>Zje.l0 j x.1 x.2.1 x.2.2.1 x.2.2.2.1 x.2.2.2.2) k
def Zje.l0.ok (k:Nat):=(lA (Zje.cok k):Zo Yc _ (.loop (cO (cO (cR (cL (cB Tryz.f92)))))) (Zje.l0.s k))
theorem Zje.ok (k:Nat):Ze Yc 92 (Zje.con k):=fP (.two (.two .auto (.one (.sum (Zje.l0.s k)))) .auto) (Zje.cok k) Tryz.func92 (sC (Zje.l0.ok k) sN)
def Zro (k:Nat) (a1:G28) (a2:List Zyg) (a3:Int) (a4:List Int):Option (Int×List Str×List Zz):=Ya (Z4q a2) fun v5=>Ya (Z9b a2 0 (Zyi a3 v5)) fun v6=>Ya (Zad k a1.2 v6) fun v7=>Ya (Zje k v7 a4) fun v8=>some (a1.1,v8.1,v8.2)
def Zro.con (k:Nat):Con:=Sig.con { ps:=[.val true T28 (ros T28),.val false (.sl Zte) (ros (.sl Zte)),.val false (.int .i64) (ros (.int .i64)),.val false (.sl (.int .i64)) (ros (.sl (.int .i64)))],rs:=[.val true [.v (.int .i64),.own 9 .str,.own 176 Zx]],ntmps:=25 } (fun x=>Zro k x.1 x.2.1 x.2.2.1 x.2.2.2)
theorem Zro.ok (k:Nat):Ze Yc 37 (Zro.con k):=fA (cXr true false (cC (Zad.ok k) (cC (Z4q.ok k) (cC (Zje.ok k) cN)))) Tryz.func37
def Zoo (k:Nat) (a1:G28) (a2:G47) (a3:Int) (a4:List Int):Option (Int×List Str×List Zz×Int):=bif decide (400<((a4.length):Int)) then some (0,[],[],2) else Ya (Zii k a1) fun v5=>bif !v5 then some (0,[],[],1) else Ya (Z4l a2) fun v6=>bif (!v6)||(decide (a3<0)) then some (0,[],[],1) else Ya (Zqc k a1 a2) fun v7=>Ya (Zro k a1 v7.1 a3 a4) fun v8=>some (v8.1,v8.2.1,v8.2.2,0)
def Zoo.con (k:Nat):Con:=Sig.con { ps:=[.val true T28 (ros T28),.val true T47 (ros T47),.val false (.int .i64) (ros (.int .i64)),.val false (.sl (.int .i64)) (ros (.sl (.int .i64)))],rs:=[.val true [.v (.int .i64),.own 9 .str,.own 176 Zx,.v (.int .i64)]],ntmps:=37 } (fun x=>Zoo k x.1 x.2.1 x.2.2.1 x.2.2.2)
theorem Zoo.ok (k:Nat):Ze Yc 10 (Zoo.con k):=fA (cXr true false (cC (Zii.ok k) (cC (Z4l.ok k) (cC (Zqc.ok k) (cC (Zro.ok k) cN))))) Tryz.func10
def Z4k (a1:List Int) (a2:Int) (a3:Int):Option (Int):=bif (decide (a3≤1))||(((a1.length):Int)==0) then some 0 else Ya (nz? ((a1.length):Int)) fun v4=>Ya (at? a1 (Yf a2 ((a1.length):Int))) fun v5=>Ya (nz? a3) fun v6=>some (Yf (Yb .i64 v5) a3)
def Z4k.con (k:Nat):Con:=Sig.con { ps:=[.val false (.sl (.int .u8)) (ros (.sl (.int .u8))),.val false (.int .i64) (ros (.int .i64)),.val false (.int .i64) (ros (.int .i64))],rs:=[.val false [.v (.int .i64)]],ntmps:=24 } (fun x=>Z4k x.1 x.2.1 x.2.2)
theorem Z4k.ok (k:Nat):Ze Yc 11 (Z4k.con k):=fA (cX cN) Tryz.func11
def Zcn (k:Nat) (a1:G28):Option (Int×List Str×List Zz×Int):=Ya (Zpf k a1) fun v2=>bif !v2.2.2.2.2.2.2.2.2 then some (0,[],[],1) else Ya (Z9c k a1 (v2.1,(v2.2.1,(v2.2.2.1,(v2.2.2.2.1,(v2.2.2.2.2.1,(v2.2.2.2.2.2.1,(v2.2.2.2.2.2.2.1,v2.2.2.2.2.2.2.2.1)))))))) fun v3=>Ya (Zad k a1.2 v3) fun v4=>some (a1.1,v4.1,v4.2,0)
def Zcn.con (k:Nat):Con:=Sig.con { ps:=[.val true T28 (ros T28)],rs:=[.val true [.v (.int .i64),.own 9 .str,.own 176 Zx,.v (.int .i64)]],ntmps:=23 } (fun x=>Zcn k x)
theorem Zcn.ok (k:Nat):Ze Yc 12 (Zcn.con k):=fA (cXr true false (cC (Zad.ok k) (cC (Zpf.ok k) (cC (Z9c.ok k) cN)))) Tryz.func12
def Zne.l0:Nat→List Str→List Str→Int→Option (Unit ⊕ Bool)
 | 0,_,_,_=>none
 | j+1,a1,a2,a3=>bif decide (a3<((a1.length):Int)) then Ya (at? a1 a3) fun v4=>Ya (at? a2 a3) fun v5=>bif !(v4==v5) then some (.inr false) else Zne.l0 j a1 a2 (Yb .i64 (a3+1)) else some (.inl ())
def Zne (k:Nat) (a1:List Str) (a2:List Str):Option (Bool):=bif ((a1.length):Int) != ((a2.length):Int) then some false else Ya (Zne.l0 k a1 a2 0) fun
  | .inl y3=>some true
  | .inr y4=>some y4
def Zne.con (k:Nat):Con:=Sig.con { ps:=[.val false (.sl .str) (ros (.sl .str)),.val false (.sl .str) (ros (.sl .str))],rs:=[.val false [.v .bool]],ntmps:=26 } (fun x=>Zne k x.1 x.2)
def Zne.cok (k:Nat):=cX cN
def Zne.l0.s (k:Nat):Summ:=lp 26 { tmps:=[(0,.one (.bor .str)),(1,.one (.bor .str)),(5,.one (.v (.int .i64)))],slots:=[],nb:=0 } [(.exit 0,{ tmps:=[],slots:=[],nb:=0 }),(.ret,{ tmps:=[(4,.one (.v .bool))],slots:=[],nb:=0 })] (fun j x=>Zne.l0 j x.1 x.2.1 x.2.2) k
def Zne.l0.ok (k:Nat):=(lA (Zne.cok k):Zo Yc _ (.loop (cO (cO (cR (cL (cR (cR (cB Tryz.f13)))))))) (Zne.l0.s k))
theorem Zne.ok (k:Nat):Ze Yc 13 (Zne.con k):=fP (.two .auto (.two .auto (.two (.two .auto (.one (.sum (Zne.l0.s k)))) .auto))) (Zne.cok k) Tryz.func13 (sC (Zne.l0.ok k) sN)
def Zak (k:Nat) (a1:G28):Option (List Str×Int):=Ya (Zii k a1) fun v2=>bif !v2 then some ([],1) else Ya (Zvd k a1) fun v3=>some (v3,0)
def Zak.con (k:Nat):Con:=Sig.con { ps:=[.val true T28 (ros T28)],rs:=[.val true [.own 9 .str,.v (.int .i64)]],ntmps:=10 } (fun x=>Zak k x)
theorem Zak.ok (k:Nat):Ze Yc 14 (Zak.con k):=fA (cXr true false (cC (Zii.ok k) (cC (Zvd.ok k) cN))) Tryz.func14
def Zdn (k:Nat) (a1:G28):Option (Int×Int×Int×Int×Int×Str×List Int×List Int×Int):=Ya (Zpf k a1) fun v2=>bif !v2.2.2.2.2.2.2.2.2 then some (0,0,0,0,0,[],[],[],1) else some (v2.1,v2.2.1,v2.2.2.1,v2.2.2.2.1,v2.2.2.2.2.1,v2.2.2.2.2.2.1,v2.2.2.2.2.2.2.1,v2.2.2.2.2.2.2.2.1,0)
def Zdn.con (k:Nat):Con:=Sig.con { ps:=[.val true T28 (ros T28)],rs:=[.val true [.v (.int .i64),.v (.int .i64),.v (.int .i64),.v (.int .i64),.v (.int .i64),.v .str,.own 2 (.int .i64),.own 2 (.int .i64),.v (.int .i64)]],ntmps:=15 } (fun x=>Zdn k x)
theorem Zdn.ok (k:Nat):Ze Yc 15 (Zdn.con k):=fA (cXr true false (cC (Zpf.ok k) cN)) Tryz.func15
def Zno (k:Nat) (a1:G28):Option (List Str×Int):=Ya (Zii k a1) fun v2=>bif !v2 then some ([],1) else Ya (Zhd k a1) fun v3=>some (v3,0)
def Zno.con (k:Nat):Con:=Sig.con { ps:=[.val true T28 (ros T28)],rs:=[.val true [.own 9 .str,.v (.int .i64)]],ntmps:=10 } (fun x=>Zno k x)
theorem Zno.ok (k:Nat):Ze Yc 16 (Zno.con k):=fA (cXr true false (cC (Zii.ok k) (cC (Zhd.ok k) cN))) Tryz.func16
def Zqo (k:Nat) (a1:List Int) (a2:List Int):Option (List Int):=Ya (Zqd k a1) fun v3=>bif !v3 then some ([]) else Ya (Zqd k a2) fun v4=>bif !v4 then some ([]) else Ya (Z3l k a1 a2) fun v5=>some v5
def Zqo.con (k:Nat):Con:=Sig.con { ps:=[.val false (.sl (.int .i64)) (ros (.sl (.int .i64))),.val false (.sl (.int .i64)) (ros (.sl (.int .i64)))],rs:=[.val false [.own 2 (.int .i64)]],ntmps:=16 } (fun x=>Zqo k x.1 x.2)
theorem Zqo.ok (k:Nat):Ze Yc 17 (Zqo.con k):=fA (cX (cC (Zqd.ok k) (cC (Z3l.ok k) cN))) Tryz.func17
def Zqb.j0 (k:Nat) (a1:List Int) (a2:Int) (a3:Int) (a4:List Str) (a5:List Zz) (a6:Int) (a7:Int) (a8:List Str) (a9:List Str) (a10:List Zz):Option ((Int×List Str×List Zz×Int×List Str×List Zz×Int×List Str) ⊕ (Bool×Int×List Str×List Zz×Int×Int×List Str×List Zz)):=Ya (Z4k a1 (Yb .i64 (a2+3)) 2) fun v11=>bif (v11==0)&&(a7==0) then Ya (Zak k (a6,(a9,a10))) fun v12=>Ya (Zne k v12.1 a8) fun v13=>bif !v13 then some (.inr (false,a3,a4,a5,a6,a7,a9,a10)) else some (.inl (a6,a9,a10,a6,a9,a10,a7,a8)) else some (.inl (a3,a4,a5,a6,a9,a10,a7,a8))
def Zqb.l1 (k:Nat):Nat→List Int→Int→Int→Int→List Str→List Zz→List Str→Option ((Int×List Str×List Zz×List Str) ⊕ (Bool×Int×List Str×List Zz))
 | 0,_,_,_,_,_,_,_=>none
 | j+1,a1,a2,a3,a4,a5,a6,a7=>bif decide (a3≤a2) then Ya (Z4k a1 a3 7) fun v8=>let e9:=Yb .i64 (a3+1);Ya (Z4k a1 e9 20) fun v10=>Ya (Z4k a1 (Yb .i64 (a3+2)) 20) fun v11=>let e12:=(6,(0,(0,([],(0,(0,(0,[])))))));Ya (Zoo k (a4,(a5,a6)) e12 v8 [v10,v11]) fun v13=>Ya (Zcn k (v13.1,(v13.2.1,v13.2.2.1))) fun v14=>Ya (Zqb.j0 k a1 a3 a4 a5 a6 v14.1 v14.2.2.2 a7 v14.2.1 v14.2.2.1) fun
    | .inl y15=>let e16:=(y15.1,(y15.2.1,y15.2.2.1));Ya (Zdn k e16) fun v17=>bif v17.1==5 then Ya (Zhi k e16 e12) fun v18=>Ya (Zak k (v18.1,(v18.2.1,v18.2.2.1))) fun v19=>Ya (Zne k v19.1 y15.2.2.2.2.2.2.2) fun v20=>bif !v20 then some (.inr (false,v18.1,v18.2.1,v18.2.2.1)) else Zqb.l1 k j a1 a2 e9 v18.1 v18.2.1 v18.2.2.1 y15.2.2.2.2.2.2.2 else Ya (Zak k e16) fun v21=>Ya (Zne k v21.1 y15.2.2.2.2.2.2.2) fun v22=>bif !v22 then some (.inr (false,y15.1,y15.2.1,y15.2.2.1)) else Zqb.l1 k j a1 a2 e9 y15.1 y15.2.1 y15.2.2.1 y15.2.2.2.2.2.2.2
    | .inr y23=>some (.inr (y23.1,y23.2.1,y23.2.2.1,y23.2.2.2.1)) else some (.inl (a4,a5,a6,a7))
def Zqb (k:Nat) (a1:List Int) (a2:List Int):Option (Bool):=bif (decide (1048576<((a1.length):Int)))||(decide (1048576<((a2.length):Int))) then some true else Ya (Zyd k a1) fun v3=>Ya (Zlk k v3.1 v3.2.1) fun v4=>bif v4.2.2.2 != 0 then Ya (Zxk k v3.1) fun v5=>Ya (Zff k v3.1) fun v6=>some (v5.2.2.2==v6.2.2.2) else Ya (Zhi k (v3.2.2.1,(v3.2.2.2.1,v3.2.2.2.2.1)) (5,(0,(0,([],(0,(0,(0,[])))))))) fun v7=>bif (!v3.2.2.2.2.2)||(v7.2.2.2.2.2 != 0) then some false else Ya (Zwo k (v7.1,(v7.2.1,v7.2.2.1))) fun v8=>Ya (Zqb.l1 k k a2 ((v8.length):Int) 0 v7.1 v7.2.1 v7.2.2.1 v3.2.1) fun
  | .inl y9=>let e10:=(y9.1,(y9.2.1,y9.2.2.1));Ya (Zdn k e10) fun v11=>bif v11.1==1 then Ya (Zno k e10) fun v12=>Ya (Zne k v12.1 y9.2.2.2) fun v13=>bif v13 then Ya (Zqo k v11.2.2.2.2.2.2.1 v11.2.2.2.2.2.2.2.1) fun v14=>some (((v14.length):Int)==24) else some false else some false
  | .inr y15=>some y15.1
def Zqb.sig:Sig:={ ps:=[.val false (.sl (.int .u8)) (ros (.sl (.int .u8))),.val false (.sl (.int .u8)) (ros (.sl (.int .u8)))],rs:=[.val false [.v .bool]],ntmps:=136 }
def Zqb.con (k:Nat):Con:=Zqb.sig.con (fun x=>Zqb k x.1 x.2)
def Zqb.cok (k:Nat):=cX (cC (Zyd.ok k) (cC (Zlk.ok k) (cC (Zxk.ok k) (cC (Zff.ok k) (cC (Zhi.ok k) (cC (Zwo.ok k) (cC (Zoo.ok k) (cC (Z4k.ok k) (cC (Zcn.ok k) (cC (Zne.ok k) (cC (Zak.ok k) (cC (Zdn.ok k) (cC (Zno.ok k) (cC (Zqo.ok k) cN))))))))))))))
def Zqb.j0.s (k:Nat):Summ:=lq 136 { tmps:=[(1,.one (.bor (.int .u8))),(6,.one (.own 21)),(7,.one (.ptr 4 0)),(11,.one (.v (.int .i64))),(13,.one (.ptr 18 0))],slots:=[(4,.box 28 [.v (.int .i64),.v (.sl .str),.v (.sl Zx)]),(18,.box 38 [.v (.int .i64),.own 22,.own 23,.v (.int .i64)]),(21,.arr false 9 .str),(22,.arr false 9 .str),(23,.arr false 176 Zx)],nb:=24 } [(.nrm,{ tmps:=[(6,.one (.own 24))],slots:=[(4,.box 28 [.v (.int .i64),.v (.sl .str),.v (.sl Zx)]),(18,.box 38 [.v (.int .i64),.v (.sl .str),.v (.sl Zx),.v (.int .i64)]),(24,.arr false 9 .str)],nb:=25 }),(.ret,{ tmps:=[(4,.one (.v .bool))],slots:=[(4,.box 28 [.v (.int .i64),.v (.sl .str),.v (.sl Zx)]),(18,.box 38 [.v (.int .i64),.own 24,.own 25,.v (.int .i64)]),(24,.arr false 9 .str),(25,.arr false 176 Zx)],nb:=26 })] (fun x=>Zqb.j0 k x.1 x.2.1 x.2.2.1 x.2.2.2.1 x.2.2.2.2.1 x.2.2.2.2.2.1 x.2.2.2.2.2.2.1 x.2.2.2.2.2.2.2.1 x.2.2.2.2.2.2.2.2.1 x.2.2.2.2.2.2.2.2.2)
def Zqb.j0.ok (k:Nat):=(jA (Zqb.cok k):Zo Yc _ (cL (cR (cR (cO (cL (cR (cO (cO (cR (cL (cR (cR (cR (cR (cR (cR (cR (cR (cB Tryz.f3))))))))))))))))))) (Zqb.j0.s k))
def Zqb.l1.s (k:Nat):Summ:=lp 136 { tmps:=[(1,.one (.bor (.int .u8))),(6,.one (.own 11)),(7,.one (.ptr 4 0)),(10,.one (.v (.int .i64))),(11,.one (.v (.int .i64)))],slots:=[(4,.box 28 [.v (.int .i64),.v (.sl .str),.v (.sl Zx)]),(11,.arr false 9 .str)],nb:=12 } [(.exit 0,{ tmps:=[(6,.one (.own 12))],slots:=[(4,.box 28 [.v (.int .i64),.v (.sl .str),.v (.sl Zx)]),(12,.arr false 9 .str)],nb:=13 }),(.ret,{ tmps:=[(4,.one (.v .bool))],slots:=[(4,.box 28 [.v (.int .i64),.v (.sl .str),.v (.sl Zx)])],nb:=12 })] (fun j x=>Zqb.l1 k j x.1 x.2.1 x.2.2.1 x.2.2.2.1 x.2.2.2.2.1 x.2.2.2.2.2.1 x.2.2.2.2.2.2) k
def Zqb.l1.ok (k:Nat):=(lP (.two .auto (.two (.one (.two .auto (.two .auto (.two (.sum (Zqb.j0.s k)) .auto)))) .auto)) (Zqb.cok k) (sC (Zqb.j0.ok k) sN):Zo Yc _ (.loop (cO (cO (cR (cL (cR (cR (cR (cR (cR (cR (cR (cR (cB Tryz.f3)))))))))))))) (Zqb.l1.s k))
theorem Zqb.ok (k:Nat):Ze Yc 3 (Zqb.con k):=fP (.two .auto (.two .auto (.two .auto (.two .auto (.two .auto (.two .auto (.two .auto (.two .auto (.two (.two .auto (.one (.sum (Zqb.l1.s k)))) .auto))))))))) (Zqb.cok k) Tryz.func3 (sC (Zqb.l1.ok k) sN)
end Go.Proofs.Qz
namespace Go.Proofs.Qz
open Go
set_option linter.unusedVariables false
def Zc (p:Nat→Prop):Prop:=∃K,∀k,K≤k→p k
theorem Zc.of {p:Nat→Prop} (h:∀k,p k):Zc p:=⟨0,fun k _=>h k⟩
theorem Zc.ge {p:Nat→Prop} (K:Nat) (h:∀k,K≤k→p k):Zc p:=⟨K,h⟩
theorem Zc.mono {p q:Nat→Prop} (h:Zc p) (f:∀k,p k→q k):Zc q:=by
 obtain ⟨K,h⟩:=h
 exact ⟨K,fun k hk=>f k (h k hk)⟩
theorem Zc.and {p q:Nat→Prop} (h:Zc p) (g:Zc q):Zc fun k=>p k∧q k:=by
 obtain ⟨K,h⟩:=h
 obtain ⟨J,g⟩:=g
 exact ⟨K+J,fun k hk=>⟨h k (by omega),g k (by omega)⟩⟩
theorem Zc.ex {p:Nat→Prop} (h:Zc p):∃k,p k:=by
 obtain ⟨K,h⟩:=h
 exact ⟨K,h K (Yu K)⟩
theorem Zc.all {n:Nat} {p:Nat→Nat→Prop}:(∀i,i<n→Zc (p i))→Zc fun k=>∀i,i<n→p i k:=by
 induction n with
 | zero=>exact fun _=>⟨0,fun k _ i hi=>absurd hi (Nat.not_lt_zero i)⟩
 | succ n ih=>
  intro h;refine ((ih fun i hi=>h i (Nat.lt_succ_of_lt hi)).and (h n (Nat.lt_succ_self n))).mono fun k hk i hi=>?_
  rcases Nat.eq_or_lt_of_le (Nat.le_of_lt_succ hi) with rfl | hi
  ·exact hk.2
  ·exact hk.1 i hi
theorem Zc.two {p q r:Nat→Prop} (h:Zc p) (g:Zc q) (f:∀k,p k→q k→r k):Zc r:=(h.and g).mono fun k hk=>f k hk.1 hk.2
theorem Z9gb {R:Type} (L:Nat→Nat→Nat→Option R) (n:Nat) (r:R) (hs:Zc fun k=>∀i,i<n→∀j,L k (j+1) i=L k j (i+1)) (hl:Zc fun k=>∀j,L k (j+1) n=some r):Zc fun k=>L k k 0=some r:=by
 obtain ⟨K,hs⟩:=hs
 obtain ⟨J,hl⟩:=hl
 refine ⟨K+J+n+1,fun k hk=>?_⟩
 have hs:=hs k (by omega)
 have hl:=hl k (by omega)
 have key:∀d i j,i+d=n→d<j→L k j i=some r:=by
  intro d
  induction d with
  | zero=>
   intro i j hi hj;obtain ⟨m,rfl⟩:∃m,j=m+1:=⟨j-1,by omega⟩;obtain rfl:i=n:=by omega
   exact hl m
  | succ d ih=>
   intro i j hi hj;obtain ⟨m,rfl⟩:∃m,j=m+1:=⟨j-1,by omega⟩;rw [hs i (by omega) m];exact ih (i+1) m (by omega) (by omega)
 exact key n 0 k (by omega) (by omega)
theorem Zgc {R:Type} (L:Nat→Nat→Option R) (n:Nat) (r:R) (hs:∀i,i<n→∀j,L (j+1) i=L j (i+1)) (hl:∀j,L (j+1) n=some r):∀k,n<k→L k 0=some r:=by
 have key:∀d i j,i+d=n→d<j→L j i=some r:=by
  intro d
  induction d with
  | zero=>
   intro i j hi hj;obtain ⟨m,rfl⟩:∃m,j=m+1:=⟨j-1,by omega⟩;obtain rfl:i=n:=by omega
   exact hl m
  | succ d ih=>
   intro i j hi hj;obtain ⟨m,rfl⟩:∃m,j=m+1:=⟨j-1,by omega⟩;rw [hs i (by omega) m];exact ih (i+1) m (by omega) (by omega)
 exact fun k hk=>key n 0 k (by omega) hk
theorem bnd {α β:Type} {f:Nat→Option α} {g:Nat→α→Option β} {a:α} {b:β} (h:Zc fun k=>f k=some a) (k:Zc fun k=>g k a=some b):Zc fun k=>(f k).bind (g k)=some b:=
 h.two k fun k h1 h2=>by rw [h1];exact h2
theorem Zrdb {α β:Type} {x:Option α} {f:α→Option β} (hx:∃v,x=some v) (hf:∀v,∃w,f v=some w):∃w,x.bind f=some w:=by
 obtain ⟨v,rfl⟩:=hx
 exact hf v
theorem w64 {n:Int} (h0:-9223372036854775808≤n) (h1:n<9223372036854775808):Yb .i64 n=n:=by
 simp [Yb,IntKind.bits,IntKind.signed]
 omega
theorem wn {n:Nat} (h:n<9223372036854775808):Yb .i64 (n:Int)=n:=w64 (by omega) (by omega)
theorem Zv {n:Nat} (h:n<9223372036854775807):Yb .i64 ((n:Int)+1)=((n+1:Nat):Int):=by rw [w64] <;> omega
theorem Zm {α:Type} {l:List α} {i:Nat} (h:i<l.length):at? l (i:Int)=some l[i]:=by
 unfold at?
 rw [Xc (by omega),Yg,Yn h]
theorem Zsb {α:Type} {n:Nat} {a b:List α} (h:(a.length+b.length)*n≤140737488355328):Zmb n a b=some (a++b):=Xc h
theorem Zyf {a b:Str} (h:a.length+b.length≤9223372036854775807):Zge a b=some (a++b):=Xc h
theorem Zys {α:Type} {b n:Nat} {x:α} (h:n*b≤140737488355328):Zrg b (n:Int) (n:Int) x=some (Yh n x):=by
 unfold Zrg
 rw [Xc ⟨by omega,Int.le_refl _,by rw [Yg];exact h⟩,Yg]
theorem Zng {α:Type} {l:List α} {i j:Nat} (h:i≤j) (k:j≤l.length):Z9b l (i:Int) (j:Int)=some ((l.take j).drop i):=by
 unfold Z9b
 rw [Xc ⟨by omega,by omega,by omega⟩,Yg,Yg]
theorem Zt4 {n b:Nat} (h:n*b≤140737488355328):Zvv n b=some ():=Xc h
theorem Z7i {b:Int} (h:b≠0):nz? b=some ():=Xd h
theorem Z3b {b:Int} (h:0≤b):Zrb b=some ():=Xd (by omega)
theorem Z2db {α β:Type} {l:List α} (f:α→β) {i:Nat} (h:i<l.length):(l.take (i+1)).map f=(l.take i).map f++[f l[i]]:=by
 rw [Yt,Yn h,List.map_append]
 rfl
theorem Z0j {α:Type} {l:List α} {i:Nat} (h:i<l.length):l.take (i+1)=l.take i++[l[i]]:=by
 rw [Yt,Yn h]
 rfl
def Zdl {α S R:Type} (f:S→α→S ⊕ R) (g:S→R):List α→S→R
 | [],s=>g s
 | x::l,s=>match f s x with
  | .inl s'=>Zdl f g l s'
  | .inr r=>r
theorem Z6mb {α S R:Type} {f:S→α→S ⊕ R} {g:S→R} {x:α} {l:List α} {s s':S} (h:f s x = .inl s'):Zdl f g (x::l) s=Zdl f g l s':=by
 have e:Zdl f g (x::l) s=match f s x with | .inl s'=>Zdl f g l s' | .inr r=>r:=rfl
 rw [e,h]
theorem Zblb {α S R:Type} (L:Nat→S→Int→Option R) (l:List α) (f:S→α→S ⊕ R) (g:S→R) (I:Nat→S→Prop)
  (hs:∀(i:Nat) (h:i<l.length) (s:S),I i s→(∃s',f s l[i] = .inl s'∧I (i+1) s'∧∀j,L (j+1) s (i:Int)=L j s' ((i+1:Nat):Int))∨∃r,f s l[i] = .inr r∧∀j,L (j+1) s (i:Int)=some r)
  (he:∀(s:S),I l.length s→∀j,L (j+1) s (l.length:Int)=some (g s)):∀(d i:Nat) (s:S),i+d=l.length→I i s→∀j,d<j→L j s (i:Int)=some (Zdl f g (l.drop i) s):=by
 intro d
 induction d with
 | zero=>
  intro i s hi hI j hj;obtain ⟨j,rfl⟩:∃q,j=q+1:=⟨j-1,by omega⟩;obtain rfl:i=l.length:=by omega
  rw [Ym,he s hI];rfl
 | succ d ih=>
  intro i s hi hI j hj;obtain ⟨j,rfl⟩:∃q,j=q+1:=⟨j-1,by omega⟩;have hlt:i<l.length:=by omega
  rw [Yl hlt];rcases hs i hlt s hI with ⟨s',h1,h2,h3⟩ | ⟨r,h1,h3⟩
  ·rw [h3 j]
   show _=some (match f s l[i] with | .inl s'=>Zdl f g (l.drop (i+1)) s' | .inr r=>r);rw [h1];exact ih (i+1) s' (by omega) h2 j (by omega)
  ·rw [h3 j]
   show _=some (match f s l[i] with | .inl s'=>Zdl f g (l.drop (i+1)) s' | .inr r=>r);rw [h1]
theorem Zalb {α S R:Type} (L:Nat→S→Int→Option R) (l:List α) (f:S→α→S ⊕ R) (g:S→R) (I:Nat→S→Prop) (hs:∀(i:Nat) (h:i<l.length) (s:S),I i s→(∃s',f s l[i] = .inl s'∧I (i+1) s'∧∀j,L (j+1) s (i:Int)=L j s' ((i+1:Nat):Int))∨∃r,f s l[i] = .inr r∧∀j,L (j+1) s (i:Int)=some r) (he:∀(s:S),I l.length s→∀j,L (j+1) s (l.length:Int)=some (g s)) {s:S} (hI:I 0 s) {k:Nat} (hk:l.length<k):L k s 0=some (Zdl f g l s):=Zblb L l f g I hs he l.length 0 s (Yi _) hI k hk
def Zab {α:Type} (p:α→Bool):List α→Nat→Option Nat
 | [],_=>none
 | x::l,i=>if p x then some i else Zab p l (i+1)
theorem Zki {α R:Type} (L:Nat→Int→Option R) (l:List α) (p:α→Bool) (a:R) (b:Nat→R)
  (hs:∀(i:Nat) (h:i<l.length),(p l[i]=false→∀j,L (j+1) (i:Int)=L j ((i+1:Nat):Int))∧(p l[i]=true→∀j,L (j+1) (i:Int)=some (b i)))
  (he:∀j,L (j+1) (l.length:Int)=some a) {k:Nat} (hk:l.length<k):L k 0=some (match Zab p l 0 with | some i=>b i | none=>a):=by
 have key:∀(d i:Nat),i+d=l.length→∀j,d<j→L j (i:Int)=some (match Zab p (l.drop i) i with | some i=>b i | none=>a):=by
  intro d
  induction d with
  | zero=>
   intro i hi j hj;obtain ⟨j,rfl⟩:∃q,j=q+1:=⟨j-1,by omega⟩;obtain rfl:i=l.length:=by omega
   rw [Ym,he];rfl
  | succ d ih=>
   intro i hi j hj;obtain ⟨j,rfl⟩:∃q,j=q+1:=⟨j-1,by omega⟩;have hlt:i<l.length:=by omega
   rw [Yl hlt];obtain ⟨h1,h2⟩:=hs i hlt;cases hp:p l[i] with
   | true=>rw [h2 hp j];simp [Zab,hp]
   | false=>
    rw [h1 hp j,ih (i+1) (by omega) j (by omega)];simp [Zab,hp]
 have:=key l.length 0 (Yi _) k hk
 rwa [Yr] at this
theorem Zmj {α:Type} {p:α→Bool}:∀{l:List α} {n i:Nat},Zab p l n=some i→n≤i∧∃h:i-n<l.length,p (l[i-n])=true∧∀j,(hj:j<i-n)→p (l[j]'(by omega))=false
 | [],_,_,h=>by cases h
 | x::l,n,i,h=>by
  unfold Zab at h;split at h
  ·rename_i hp
   cases h;refine ⟨Yu _,by simp,?_,fun j hj=>by omega⟩;simpa using hp
  ·rename_i hp
   obtain ⟨h1,h2,h3,h4⟩:=Zmj h;refine ⟨by omega,by simp only [List.length_cons];omega,?_,fun j hj=>?_⟩
   ·have e:i-n=(i-(n+1))+1:=by omega
    simpa [e] using h3
   ·cases j with
    | zero=>simpa using hp
    | succ j=>simpa using h4 j (by omega)
theorem Zgo {α:Type} {p:α→Bool}:∀{l:List α} {n:Nat},Zab p l n=none ↔ ∀x∈l,p x=false
 | [],n=>by simp [Zab]
 | x::l,n=>by
  unfold Zab;split
  ·rename_i hp
   simp [hp]
  ·rename_i hp
   rw [Zgo];simp at hp;simp [hp]
theorem Zqu {α:Type} {p:α→Bool} {l:List α} {n:Nat}:(Zab p l n).isSome=l.any p:=by
 cases h:Zab p l n with
 | none=>
  have:=Zgo.1 h
  symm
  simp only [Option.isSome_none,List.any_eq_false];intro x hx;rw [this x hx];exact nofun
 | some i=>
  obtain ⟨_,h2,h3,_⟩:=Zmj h
  symm
  exact List.any_eq_true.2 ⟨_,Ys h2,h3⟩
theorem Zx7 {α:Type} (L:Nat→Int→List α→Option (List α)) (l:List α) (z:α)
  (hs:∀(i:Nat) (h:i<l.length) (c:List α),c.length=l.length→∀j,L (j+1) (i:Int) c=L j ((i+1:Nat):Int) (c.set i l[i]))
  (he:∀(c:List α) j,L (j+1) (l.length:Int) c=some c) {k:Nat} (hk:l.length<k):L k 0 (Yh l.length z)=some l:=by
 have key:∀(d i:Nat),i+d=l.length→∀j,d<j→L j (i:Int) (l.take i++Yh (l.length-i) z)=some l:=by
  intro d
  induction d with
  | zero=>
   intro i hi j hj;obtain ⟨j,rfl⟩:∃q,j=q+1:=⟨j-1,by omega⟩;obtain rfl:i=l.length:=by omega
   rw [he,Yv,List.take_length];simp
  | succ d ih=>
   intro i hi j hj;obtain ⟨j,rfl⟩:∃q,j=q+1:=⟨j-1,by omega⟩;have hlt:i<l.length:=by omega
   rw [hs i hlt _ (by simp;omega)]
   have e:(l.take i++Yh (l.length-i) z).set i l[i]=l.take (i+1)++Yh (l.length-(i+1)) z:=by
    have hl:(l.take i).length=i:=by simp;omega
    rw [List.set_append_right _ _ (by omega),hl,Yv,show l.length-i=(l.length-(i+1))+1 by omega,List.replicate_succ,List.set_cons_zero,Z0j hlt,Yq];rfl
   rw [e];exact ih (i+1) (by omega) j (by omega)
 have:=key l.length 0 (Yi _) k hk
 simpa using this
theorem dlt {a b:Nat} (h:a<b):decide ((a:Int)<(b:Int))=true:=Xa (by omega)
theorem Zib {a b:Nat} (h:b≤a):decide ((a:Int)<(b:Int))=false:=Xb (by omega)
theorem Za {α β:Type} {x:Option α} {f:α→Option β} {a:α} {b:Option β} (h:x=some a) (k:f a=b):x.bind f=b:=by rw [h];exact k
theorem Zbgb {α:Type} (L:Nat→Nat→Str→Int→Option Str) (l:List α) (f:α→Str) (B M:Nat) (hB:∀x∈l,(f x).length≤B)
  (hs:∀i,(h:i<l.length)→Zc fun k=>∀acc j,acc.length≤M→L k (j+1) acc (i:Int)=L k j (acc++f l[i]) ((i+1:Nat):Int))
  (he:∀k acc j,L k (j+1) acc (l.length:Int)=some acc) (acc:Str) (ha:acc.length+B*l.length≤M):Zc fun k=>L k k acc 0=some (acc++(l.map f).flatten):=by
 have hall:Zc fun k=>∀i,i<l.length→∀(h:i<l.length) acc j,acc.length≤M→L k (j+1) acc (i:Int)=L k j (acc++f l[i]) ((i+1:Nat):Int):=Zc.all fun i hi=>(hs i hi).mono fun k hk h=>hk
 obtain ⟨K,hK⟩:=hall
 refine Zc.ge (K+l.length+1) fun k hk=>?_
 have hK:=hK k (by omega)
 have key:∀(d i:Nat) (acc:Str),i+d=l.length→acc.length+B*d≤M→∀j,d<j→L k j acc (i:Int)=some (acc++((l.drop i).map f).flatten):=by
  intro d
  induction d with
  | zero=>
   intro i acc hi hacc j hj;obtain ⟨j,rfl⟩:∃q,j=q+1:=⟨j-1,by omega⟩;obtain rfl:i=l.length:=by omega
   rw [he,Ym];simp
  | succ d ih=>
   intro i acc hi hacc j hj;obtain ⟨j,rfl⟩:∃q,j=q+1:=⟨j-1,by omega⟩;have h:i<l.length:=by omega
   have hf:=hB _ (Ys h);rw [Nat.mul_succ] at hacc;rw [hK i h h acc j (by omega),ih (i+1) _ (by omega) (by rw [List.length_append];omega) j (by omega),Yl h,List.map_cons,List.flatten_cons,Yq]
 have:=key l.length 0 acc (Yi _) ha k (by omega)
 rwa [Yr] at this
end Go.Proofs.Qz
