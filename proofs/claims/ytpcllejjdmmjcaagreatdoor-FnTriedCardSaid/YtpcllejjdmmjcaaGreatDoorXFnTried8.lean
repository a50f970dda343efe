/- What the law FnTried needs, part 9 of 14: the Lean functions of the Go functions that it reaches, with the proofs that the calls come to what they say, and plain facts about them. Conditions: those that each theorem states. Written by a session and by its programs (after the kit's printer). -/
import Derived.Test.YtpcllejjdmmjcaaGreatDoorXFnTried5
import Derived.Test.YtpcllejjdmmjcaaGreatDoorXFnTried7
open Option renaming bind → Ya
open Go.Proofs.Tryz renaming prog → Yb, f87 → Yj, f161 → Yp, f133 → Yw, f260 → Yx, f271 → Yy, f88 → Yz
open Go.IntKind renaming wrap → Yc
open Int renaming toNat → Yd, tmod → Yf, toNat_natCast → Yg, tdiv → Yk
open List renaming set → Ye, replicate → Yh, drop_eq_getElem_cons → Yl, drop_length → Ym, getElem?_eq_getElem → Yn, length_map → Yo, append_assoc → Yq, drop_zero → Yr, getElem_mem → Ys, take_add_one → Yt
open Nat renaming zero_add → Yi, le_refl → Yu, sub_self → Yv
namespace Go.Proofs.Qz
open Go Go.RowKit
set_option linter.unusedVariables false
set_option linter.defProp false
def strings_Join (l:List Str) (s:Str):Option Str:=if l.length≤140737488355328∧(Lib.join l s).length≤140737488355328 then some (Lib.join l s) else none
def strings_Join.con (k:Nat):Con:={ ms:=[.val [.ro],.val [.ro]],f:=fun xs=>match xs with
 | [.val false [.leaf (.bor .str l)],.val false [.leaf (.str s)]]=>.opt Str (strings_Join l s) fun r=>⟨[.val false [.leaf (.str r)]],[]⟩
 | _=>.fail }
theorem strings_Join.ok (k:Nat):Zd Yb 271 (strings_Join.con k):=by
 refine ⟨(Z70 Tryz.func271 (by kernel_rfl) (show Yy.body=some (cB Yy) by kernel_rfl)),?_⟩
 intro xs rr hrr w vs F L M hF hnd hgl hargs
 unfold strings_Join.con at hrr
 dsimp only at hrr
 split at hrr
 ·rename_i l s
  replace hrr:(strings_Join l s).map (fun r=>(⟨[.val false [.leaf (.str r)]],[]⟩:RR))=some rr:=hrr;unfold strings_Join at hrr;split at hrr
  ·rename_i hc
   obtain ⟨hc1,hc2⟩:=hc;cases hrr
   match vs,hargs with
   | [v1,v2],⟨_,_,_,_,hL,hM,⟨rfl,hv1,hn1⟩,_,_,_,_,hL2,hM2,⟨rfl,hv2,hn2⟩,hn3,hn4⟩=>
   have hv2:v2 = .string (ba s):=hv2;subst hv2;subst hn1;subst hn2;subst hn3;subst hn4;subst hL2;subst hM2;subst hL;subst hM;obtain ⟨A,c,hv,hlc,hrow⟩:=hv1;cases hv
   have fin:∀w',Below w.heap.size w w'→∃v,Ending.returned (.string (ba (Lib.join l s))) = .returned v∧Zys ⟨[.val false [.leaf (.str (Lib.join l s))]],[]⟩ F [] [] w v w':=fun w' bel=>
    ⟨_,rfl,⟨bel.os,bel.tape,bel.output,bel.size,fun b hb _=>bel.block b hb⟩,[],[],(fun c hc=>nomatch hc),List.nodup_nil,rfl,rfl,rfl⟩
   rcases hrow with rfl | ⟨g,o,rfl,hB,hcells⟩
   ·refine (Tryz.strings_Join_none A c (ba s) w).mono ?_
    rintro e w' ⟨rfl,rfl⟩;exact fin _ (Below.refl _ _)
   ·have hx:((l.map ba).map (·.data.toList))=l:=by rw [List.map_map];exact List.map_id' l
    have hcall:=Tryz.strings_Join g o c (l.map ba) (ba s) w (fun j x hj=>by
     rw [List.getElem?_map] at hj;obtain ⟨y,hy,rfl⟩:=Option.map_eq_some_iff.1 hj;obtain ⟨cs,h1,h2⟩:=hcells j y hy;have h2:cs=[.string (ba y)]:=h2;subst h2;have:=h1 0 _ rfl;simpa [Ty.sz] using this) hB.1 (by rw [Yo];exact hc1) (by rw [Yo];exact hlc) (by rw [hx];exact hc2)
    rw [hx,Yo] at hcall;refine hcall.mono ?_;rintro e w' ⟨rfl,bel⟩;exact fin w' bel
  ·cases hrr
 ·cases hrr
def Z8n (k:Nat) (a1:List Str):Option (Str):=Ya (strings_Join a1 []) fun v2=>Ya (Zoc k v2) fun v3=>some v3
def Z8n.con (k:Nat):Con:=Sig.con { ps:=[.val false (.sl .str) (ros (.sl .str))],rs:=[.val false [.v .str]],ntmps:=6 } (fun x=>Z8n k x)
theorem Z8n.ok (k:Nat):Zd Yb 220 (Z8n.con k):=fA (cX (cC (Zoc.ok k) (cC (strings_Join.ok k) cN))) Tryz.func220
def Z1n (k:Nat) (a1:G28) (a2:G46) (a3:List G52):Option (List Zkg×Str×List Int×Int):=Ya (Zii a2) fun v4=>Ya (Zde k a1 v4) fun v5=>Ya (Zdd k a1) fun v6=>bif a2.1 != 2 then some ([],[],[],10) else Ya (Ztj a3) fun v7=>bif v7 != a2.2.2.1 then some (v5,[],[],4) else Ya (Z8c k a3 a1.1) fun v8=>bif v8 != 0 then some (v5,[],[],5) else Ya (Zne k v6 a3) fun v9=>Ya (Z8n k v9) fun v10=>bif !(v10==a2.2.2.2.2.2.1) then some (v5,[],[],5) else Ya (Zib k a3) fun v11=>Ya (Zfe k v11) fun v12=>bif decide (a2.2.2.2.1<v12) then some (v5,[],[],11) else Ya (Zde k a1 (3,a2.2)) fun v13=>Ya (Zfb 32 ([(true,(0,[]))]) v13) fun v14=>some (v14,[],[],0)
def Z1n.con (k:Nat):Con:=Sig.con { ps:=[.val true T28 (ros T28),.val true T46 (ros T46),.val false (.sl T52) (ros (.sl T52))],rs:=[.val true [.own 151 Zke,.v .str,.own 2 (.int .i64),.v (.int .i64)]],ntmps:=62 } (fun x=>Z1n k x.1 x.2.1 x.2.2)
theorem Z1n.ok (k:Nat):Zd Yb 130 (Z1n.con k):=fA (cX (cC (Zdd.ok k) (cC (Z8c.ok k) (cC (Zib.ok k) (cC (Zfe.ok k) (cC (Zne.ok k) (cC (Zde.ok k) (cC (Zii.ok k) (cC (Ztj.ok k) (cC (Z8n.ok k) cN)))))))))) Tryz.func130
def Zdo (k:Nat) (a1:Int) (a2:Int) (a3:Str):Option (Str):=Ya (Zsd k [a1,a2]) fun v4=>Ya (Zgi k a3) fun v5=>Ya (Zae v4 v5) fun v6=>Ya (Zhi k v6) fun v7=>some v7
def Zdo.con (k:Nat):Con:=Sig.con { ps:=[.val false (.int .i64) (ros (.int .i64)),.val false (.int .i64) (ros (.int .i64)),.val false .str (ros .str)],rs:=[.val false [.v .str]],ntmps:=15 } (fun x=>Zdo k x.1 x.2.1 x.2.2)
theorem Zdo.ok (k:Nat):Zd Yb 222 (Zdo.con k):=fA (cX (cC (Zsd.ok k) (cC (Zgi.ok k) (cC (Zhi.ok k) cN)))) Tryz.func222
def Ztc.j0 (k:Nat) (a1:List G52) (a2:Int) (a3:Int) (a4:List Str) (a5:List Z2) (a6:Int) (a7:Int) (a8:Int) (a9:Int) (a10:Int) (a11:Str) (a12:List Int) (a13:List Int) (a14:Int) (a15:Int) (a16:Int) (a17:Int) (a18:List Zve):Option ((Int×Str×Int×List Str×List Z2×Int×Int×Int×Int×Int×Str×List Int×List Int×Int×Int×Int×Int)):=let e19:=(a3,(a4,a5));bif a14==1 then Ya (at? a13 a17) fun v20=>Ya (Z2g e19 v20) fun v21=>Ya (Zlf k (a4,a5) a2) fun v22=>some (v21,v22,a3,a4,a5,a6,a7,a8,a9,a10,a11,a12,a13,a14,a15,a16,a17) else Ya (Zji k a1) fun v23=>Ya (at? v23 a15) fun v24=>Ya (Zmf k e19 (a6,(a7,(a8,(a9,(a10,(a11,(a12,a13))))))) a18 v24) fun v25=>some (a2,v25,a3,a4,a5,a6,a7,a8,a9,a10,a11,a12,a13,a14,a15,a16,a17)
def Ztc.j1 (k:Nat) (a1:Int) (a2:Str) (a3:Str) (a4:Int) (a5:Int) (a6:Int) (a7:Int) (a8:Int) (a9:Str) (a10:List Int) (a11:List Int):Option ((Str×Int×Int×Int×Int×Int×Str×List Int×List Int)):=bif ((a2.length):Int)==8 then Ya (Zdo k a8 a1 a2) fun v12=>some (v12,a4,a5,a6,a7,a8,a9,a10,a11) else some (a3,a4,a5,a6,a7,a8,a9,a10,a11)
def Ztc (k:Nat) (a1:G28) (a2:G46) (a3:List G52):Option (List Zkg×Str×List Int×Int):=bif a2.1 != 5 then some ([],[],[],10) else Ya (Zib k a3) fun v4=>Ya (Zfk v4) fun v5=>let e6:=Yc .i64 (v5-a2.2.2.2.2.1);bif e6==0 then Ya (Zii a2) fun v7=>Ya (Zde k a1 v7) fun v8=>some (v8,[],[0],0) else let e9:=at? v4 a2.2.2.2.2.1;Ya (e9) fun v10=>Ya (e9) fun v11=>Ya (Ztc.j0 k a3 (Yc .i64 (3+v11.2.2.1)) a1.1 a1.2.1 a1.2.2 a2.1 a2.2.1 a2.2.2.1 a2.2.2.2.1 a2.2.2.2.2.1 a2.2.2.2.2.2.1 a2.2.2.2.2.2.2.1 a2.2.2.2.2.2.2.2 v11.1 v11.2.1 v11.2.2.1 v11.2.2.2 v4) fun y12=>Ya (Ztc.j1 k y12.1 y12.2.1 [] y12.2.2.2.2.2.1 y12.2.2.2.2.2.2.1 y12.2.2.2.2.2.2.2.1 y12.2.2.2.2.2.2.2.2.1 y12.2.2.2.2.2.2.2.2.2.1 y12.2.2.2.2.2.2.2.2.2.2.1 y12.2.2.2.2.2.2.2.2.2.2.2.1 y12.2.2.2.2.2.2.2.2.2.2.2.2.1) fun y13=>Ya (Zde k (y12.2.2.1,(y12.2.2.2.1,y12.2.2.2.2.1)) (y13.2.1,(y13.2.2.1,(y13.2.2.2.1,(y13.2.2.2.2.1,((Yc .i64 (y13.2.2.2.2.2.1+1)),y13.2.2.2.2.2.2)))))) fun v14=>let e15:=(true,(0,[]));Ya (Zfb 32 [(false,(2,y13.1)),e15,(false,(y12.1,y12.2.1)),e15] v14) fun v16=>some (v16,[],[(Yc .i64 (e6-1))],0)
def Ztc.con (k:Nat):Con:=Sig.conR { ps:=[.val true T28 (Zpe T28),.val true T46 (Zpe T46),.val false (.sl T52) (ros (.sl T52))],rs:=[.val true [.own 151 Zke,.v .str,.own 2 (.int .i64),.v (.int .i64)]],ntmps:=95 } (fun x=>Ztc k x.1 x.2.1 x.2.2)
def Ztc.cok (k:Nat):=cX (cC (Zib.ok k) (cC (Zfk.ok k) (cC (Zji.ok k) (cC (Zmf.ok k) (cC (Zlf.ok k) (cC (Zde.ok k) (cC (Zii.ok k) (cC (Z2g.ok k) (cC (Zdo.ok k) cN)))))))))
def Ztc.j0.s (k:Nat):Summ:=lq 95 { tmps:=[(2,.one (.bor T52)),(3,.one (.ptr 0 0)),(4,.one (.ptr 1 0)),(7,.one (.own 5)),(9,.one (.ptr 4 0)),(10,.one (.v (.int .i64)))],slots:=[(0,.box 28 [.v (.int .i64),.v (.sl .str),.v (.sl Zz)]),(1,.box 46 [.v (.int .i64),.v (.int .i64),.v (.int .i64),.v (.int .i64),.v (.int .i64),.v .str,.v (.sl (.int .i64)),.v (.sl (.int .i64))]),(4,.box 139 [.v (.int .i64),.v (.int .i64),.v (.int .i64),.v (.int .i64)]),(5,.arr false 139 Zkc)],nb:=6 } [(.nrm,{ tmps:=[(10,.one (.v (.int .i64))),(11,.one (.v .str))],slots:=[(0,.box 28 [.v (.int .i64),.v (.sl .str),.v (.sl Zz)]),(1,.box 46 [.v (.int .i64),.v (.int .i64),.v (.int .i64),.v (.int .i64),.v (.int .i64),.v .str,.v (.sl (.int .i64)),.v (.sl (.int .i64))]),(4,.box 139 [.v (.int .i64),.v (.int .i64),.v (.int .i64),.v (.int .i64)])],nb:=6 })] (fun x=>Ztc.j0 k x.1 x.2.1 x.2.2.1 x.2.2.2.1 x.2.2.2.2.1 x.2.2.2.2.2.1 x.2.2.2.2.2.2.1 x.2.2.2.2.2.2.2.1 x.2.2.2.2.2.2.2.2.1 x.2.2.2.2.2.2.2.2.2.1 x.2.2.2.2.2.2.2.2.2.2.1 x.2.2.2.2.2.2.2.2.2.2.2.1 x.2.2.2.2.2.2.2.2.2.2.2.2.1 x.2.2.2.2.2.2.2.2.2.2.2.2.2.1 x.2.2.2.2.2.2.2.2.2.2.2.2.2.2.1 x.2.2.2.2.2.2.2.2.2.2.2.2.2.2.2.1 x.2.2.2.2.2.2.2.2.2.2.2.2.2.2.2.2.1 x.2.2.2.2.2.2.2.2.2.2.2.2.2.2.2.2.2)
def Ztc.j0.ok (k:Nat):=(jA (Ztc.cok k):Zn Yb _ (cL (cR (cR (cR (cR (cR (cR (cR (cB Yw))))))))) (Ztc.j0.s k))
def Ztc.j1.s (k:Nat):Summ:=lq 95 { tmps:=[(4,.one (.ptr 1 0)),(10,.one (.v (.int .i64))),(11,.one (.v .str)),(12,.one (.v .str))],slots:=[(1,.box 46 [.v (.int .i64),.v (.int .i64),.v (.int .i64),.v (.int .i64),.v (.int .i64),.v .str,.v (.sl (.int .i64)),.v (.sl (.int .i64))])],nb:=6 } [(.nrm,{ tmps:=[(12,.one (.v .str))],slots:=[(1,.box 46 [.v (.int .i64),.v (.int .i64),.v (.int .i64),.v (.int .i64),.v (.int .i64),.v .str,.v (.sl (.int .i64)),.v (.sl (.int .i64))])],nb:=6 })] (fun x=>Ztc.j1 k x.1 x.2.1 x.2.2.1 x.2.2.2.1 x.2.2.2.2.1 x.2.2.2.2.2.1 x.2.2.2.2.2.2.1 x.2.2.2.2.2.2.2.1 x.2.2.2.2.2.2.2.2.1 x.2.2.2.2.2.2.2.2.2.1 x.2.2.2.2.2.2.2.2.2.2)
def Ztc.j1.ok (k:Nat):=(jA (Ztc.cok k):Zn Yb _ (cL (cR (cR (cR (cR (cR (cR (cR (cR (cR (cB Yw))))))))))) (Ztc.j1.s k))
theorem Ztc.ok (k:Nat):Zd Yb 133 (Ztc.con k):=Zt0 (fP (.two .auto (.two .auto (.two .auto (.two .auto (.two .auto (.two .auto (.two .auto (.two (.sum (Ztc.j0.s k)) (.two .auto (.two (.sum (Ztc.j1.s k)) .auto)))))))))) (Ztc.cok k) Tryz.func133 (sC (Ztc.j0.ok k) (sC (Ztc.j1.ok k) sN)))
def Zsm (k:Nat) (a1:G28) (a2:G46):Option (List Zve):=Ya (Z1c k a1 a2) fun v3=>Ya (Z8c k v3 a1.1) fun v4=>bif v4 != 0 then some ([]) else Ya (Zib k v3) fun v5=>some v5
def Zsm.con (k:Nat):Con:=Sig.con { ps:=[.val true T28 (ros T28),.val true T46 (ros T46)],rs:=[.val false [.own 139 Zkc]],ntmps:=16 } (fun x=>Zsm k x.1 x.2)
theorem Zsm.ok (k:Nat):Zd Yb 134 (Zsm.con k):=fA (cXr true false (cC (Z1c.ok k) (cC (Z8c.ok k) (cC (Zib.ok k) cN)))) Tryz.func134
def Zmc.j0 (k:Nat) (a1:Int) (a2:List Str) (a3:List Z2) (a4:Int) (a5:Int) (a6:Int) (a7:Int) (a8:Int) (a9:Int) (a10:Str) (a11:List Int) (a12:List Int):Option ((Int×Int×Int×Int×Int×Int×Str×List Int×List Int)):=bif a5==5 then Ya (Zsm k (a1,(a2,a3)) (a5,(a6,(a7,(a8,(a9,(a10,(a11,a12)))))))) fun v13=>Ya (Zfk v13) fun v14=>some (Yc .i64 (v14-a9),a5,a6,a7,a8,a9,a10,a11,a12) else some (a4,a5,a6,a7,a8,a9,a10,a11,a12)
def Zmc (k:Nat) (a1:G28) (a2:G54):Option (List Zkg×Str×List Int×Int):=Ya (Zsf k a1) fun v3=>Ya (Zxc k a1.2) fun v4=>bif v4.1==1000000 then some ([],[],[],9) else let e5:=(v3.2.2.1,(v3.2.2.2.1,(v3.2.2.2.2.1,(v3.2.2.2.2.2.1,(v3.2.2.2.2.2.2.1,v3.2.2.2.2.2.2.2.1)))));let e6:=(v3.1,(v3.2.1,e5));Ya (Z1c k a1 e6) fun v7=>bif a2.1==1 then Ya (Zle k a1 e6 a2) fun v8=>some (v8.1,v8.2.1,v8.2.2.1,v8.2.2.2) else bif a2.1==2 then Ya (Z2n k a1 e6 v7 a2.2.2.2.2) fun v9=>some (v9.1,v9.2.1,v9.2.2.1,v9.2.2.2) else bif a2.1==3 then Ya (Z1n k a1 e6 v7) fun v10=>some (v10.1,v10.2.1,v10.2.2.1,v10.2.2.2) else bif a2.1==4 then bif (v3.1==1)||(v3.1==5) then some ([],[],[],10) else Ya (Zii e6) fun v11=>Ya (Zde k a1 v11) fun v12=>some (v12,[],[],0) else bif a2.1==5 then bif v3.1 != 4 then some ([],[],[],10) else Ya (Zde k a1 (5,(0,e5))) fun v13=>Ya (Zfb 32 ([(false,(2,[])),(true,(0,[]))]) v13) fun v14=>some (v14,[],[],0) else bif a2.1==6 then Ya (Ztc k a1 e6 v7) fun v15=>some (v15.1,v15.2.1,v15.2.2.1,v15.2.2.2) else bif a2.1==7 then bif decide (a1.1≤a2.2.1) then some ([],[],[],8) else Ya (Zqd k a1) fun v16=>let e17:=at? v16 a2.2.1;Ya (e17) fun v18=>Ya (e17) fun v19=>some ([],v19,[],0) else bif a2.1==8 then Ya (Zmc.j0 k a1.1 a1.2.1 a1.2.2 0 v3.1 v3.2.1 v3.2.2.1 v3.2.2.2.1 v3.2.2.2.2.1 v3.2.2.2.2.2.1 v3.2.2.2.2.2.2.1 v3.2.2.2.2.2.2.2.1) fun y20=>Ya (Ztj v7) fun v21=>Ya (Zee k v7) fun v22=>Ya (Z9i y20.2.2.2.2.2.2.2.1) fun v23=>Ya (Z9i y20.2.2.2.2.2.2.2.2) fun v24=>some ([],[],[y20.2.1,y20.2.2.1,v21,v22,y20.1,(Yc .i64 ((Yc .i64 (24-v23))-v24))],0) else bif a2.1==9 then Ya (Zub k v3.2.2.2.2.2.2.1 v3.2.2.2.2.2.2.2.1 a2.2.1) fun v25=>bif !v25.2 then some ([],[],[],11) else Ya (Znc k v3.2.2.2.2.2.2.1) fun v26=>Ya (Znc k v25.1) fun v27=>Ya (Zed k (intBits .or .i64 v26 v27)) fun v28=>Ya (Zde k a1 (v3.1,(v3.2.1,(v3.2.2.1,(v3.2.2.2.1,(v3.2.2.2.2.1,(v3.2.2.2.2.2.1,(v28,v3.2.2.2.2.2.2.2.1)))))))) fun v29=>some (v29,[],[],0) else bif a2.1==10 then Ya (Zde k a1 (v3.1,(v3.2.1,(v3.2.2.1,(v3.2.2.2.1,(v3.2.2.2.2.1,(v3.2.2.2.2.2.1,([],v3.2.2.2.2.2.2.2.1)))))))) fun v30=>some (v30,[],[],0) else Ya (Z6c k a1 e6) fun v31=>some (v31,[],[],0)
def Zmc.con (k:Nat):Con:=Sig.con { ps:=[.val true T28 (ros T28),.val true T54 (ros T54)],rs:=[.val true [.own 151 Zke,.v .str,.own 2 (.int .i64),.v (.int .i64)]],ntmps:=175 } (fun x=>Zmc k x.1 x.2)
def Zmc.cok (k:Nat):=cXr true false (cC (Zqd.ok k) (cC (Zsf.ok k) (cC (Z6c.ok k) (cC (Z1c.ok k) (cC (Zfk.ok k) (cC (Zxc.ok k) (cC (Zle.ok k) (cC (Z2n.ok k) (cC (Z1n.ok k) (cC (Zde.ok k) (cC (Zii.ok k) (cC (Ztc.ok k) (cC (Zsm.ok k) (cC (Ztj.ok k) (cC (Zee.ok k) (cC (Z9i.ok k) (cC (Zub.ok k) (cC (Zed.ok k) (cC (Znc.ok k) cN)))))))))))))))))))
def Zmc.j0.s (k:Nat):Summ:=lq 175 { tmps:=[(2,.eptr [.v (.int .i64),.bor .str,.bor Zz]),(5,.one (.ptr 4 0)),(10,.one (.v (.int .i64)))],slots:=[(4,.box 46 [.v (.int .i64),.v (.int .i64),.v (.int .i64),.v (.int .i64),.v (.int .i64),.v .str,.own 7,.own 8]),(7,.arr false 2 (.int .i64)),(8,.arr false 2 (.int .i64))],nb:=9 } [(.nrm,{ tmps:=[(10,.one (.v (.int .i64)))],slots:=[(4,.box 46 [.v (.int .i64),.v (.int .i64),.v (.int .i64),.v (.int .i64),.v (.int .i64),.v .str,.own 9,.own 10]),(9,.arr false 2 (.int .i64)),(10,.arr false 2 (.int .i64))],nb:=11 })] (fun x=>Zmc.j0 k x.1 x.2.1 x.2.2.1 x.2.2.2.1 x.2.2.2.2.1 x.2.2.2.2.2.1 x.2.2.2.2.2.2.1 x.2.2.2.2.2.2.2.1 x.2.2.2.2.2.2.2.2.1 x.2.2.2.2.2.2.2.2.2.1 x.2.2.2.2.2.2.2.2.2.2.1 x.2.2.2.2.2.2.2.2.2.2.2)
def Zmc.j0.ok (k:Nat):=(jA (Zmc.cok k):Zn Yb _ (cL (cR (cL (cR (cR (cR (cR (cR (cR (cR (cR (cR (cR (cR (cR (cR (cR (cR (cO (cR (cL (cR (cR (cR (cR (cB Tryz.f62)))))))))))))))))))))))))) (Zmc.j0.s k))
theorem Zmc.ok (k:Nat):Zd Yb 62 (Zmc.con k):=fP (.two .auto (.two .auto (.two .auto (.two .auto (.two (.two .auto (.one (.two .auto (.two .auto (.two .auto (.two .auto (.two .auto (.two .auto (.two .auto (.two .auto (.two .auto (.two .auto (.two .auto (.two .auto (.two .auto (.two .auto (.two .auto (.two (.two .auto (.two (.sum (Zmc.j0.s k)) .auto)) .auto)))))))))))))))))) .auto))))) (Zmc.cok k) Tryz.func62 (sC (Zmc.j0.ok k) sN)
def Zrj (k:Nat) (a1:G28) (a2:G54):Option (Int×List Str×List Z2×Str×List Int×Int):=Ya (Z0h k a1) fun v3=>bif !v3 then some (0,[],[],[],[],1) else Ya (Zgl a2) fun v4=>bif !v4 then some (0,[],[],[],[],1) else Ya (Zmc k a1 a2) fun v5=>Ya (Z7c k a1.2 v5.1) fun v6=>some (a1.1,v6.1,v6.2,v5.2.1,v5.2.2.1,v5.2.2.2)
def Zrj.con (k:Nat):Con:=Sig.con { ps:=[.val true T28 (ros T28),.val true T54 (ros T54)],rs:=[.val true [.v (.int .i64),.own 9 .str,.own 195 Zz,.v .str,.own 2 (.int .i64),.v (.int .i64)]],ntmps:=33 } (fun x=>Zrj k x.1 x.2)
theorem Zrj.ok (k:Nat):Zd Yb 24 (Zrj.con k):=fA (cXr true false (cC (Z0h.ok k) (cC (Zgl.ok k) (cC (Zmc.ok k) (cC (Z7c.ok k) cN))))) Tryz.func24
def Zie.l0:Nat→List Int→Int→List Int→Int→Int→Int→Option ((List Int×Int×Int×Int))
 | 0,_,_,_,_,_,_=>none
 | j+1,a1,a2,a3,a4,a5,a6=>bif (decide (a2<((a1.length):Int)))&&(decide (a2<64)) then Ya (at? a1 a2) fun v7=>Zie.l0 j a1 (Yc .i64 (a2+1)) a3 a4 (Yc .u64 ((intBits .xor .u64 a5 (Yc .u64 v7))*1099511628211)) a6 else some (a3,a4,a5,a6)
def Zie (k:Nat) (a1:List Int):Option (List Int×Int×Int×Int):=Ya (Zie.l0 k a1 0 a1 0 88172645463325252 0) fun y2=>Ya (nz? 20) fun v3=>let e4:=Yc .i64 (Yk ((a1.length):Int) 20);bif decide (12<e4) then some (y2.1,y2.2.1,y2.2.2.1,12) else some (y2.1,y2.2.1,y2.2.2.1,e4)
def Zie.con (k:Nat):Con:=Sig.con { ps:=[.val false (.sl (.int .u8)) (Zpe (.sl (.int .u8)))],rs:=[.box 262 [.v (.sl (.int .u8)),.v (.int .i64),.v (.int .u64),.v (.int .i64)]],ntmps:=47 } (fun x=>Zie k x)
def Zie.cok (k:Nat):=cX cN
def Zie.l0.s (k:Nat):Summ:=lp 47 { tmps:=[(0,.one (.v (.sl (.int .u8)))),(3,.one (.ptr 0 0)),(4,.one (.v (.int .i64)))],slots:=[(0,.box 262 [.v (.sl (.int .u8)),.v (.int .i64),.v (.int .u64),.v (.int .i64)])],nb:=1 } [(.exit 0,{ tmps:=[],slots:=[(0,.box 262 [.v (.sl (.int .u8)),.v (.int .i64),.v (.int .u64),.v (.int .i64)])],nb:=1 })] (fun j x=>Zie.l0 j x.1 x.2.1 x.2.2.1 x.2.2.2.1 x.2.2.2.2.1 x.2.2.2.2.2) k
def Zie.l0.ok (k:Nat):=(lA (Zie.cok k):Zn Yb _ (.loop (cO (cO (cR (cL (cR (cR (cB Tryz.f173)))))))) (Zie.l0.s k))
theorem Zie.ok (k:Nat):Zd Yb 173 (Zie.con k):=fP (.two .auto (.two .auto (.two (.two .auto (.one (.sum (Zie.l0.s k)))) .auto))) (Zie.cok k) Tryz.func173 (sC (Zie.l0.ok k) sN)
def Zgd.j0 (a1:Int) (a2:List Int) (a3:Int) (a4:Int) (a5:Int):Option ((Int×List Int×Int×Int×Int)):=bif decide (a3<((a2.length):Int)) then Ya (at? a2 a3) fun v6=>some (Yc .u64 v6,a2,Yc .i64 (a3+1),a4,a5) else some (a1,a2,a3,a4,a5)
def Zgd (a1:Zlp) (a2:Int):Option (Int×List Int×Int×Int×Int):=bif decide (a2≤1) then some (0,a1.1,a1.2.1,a1.2.2.1,a1.2.2.2) else Ya (Zgd.j0 0 a1.1 a1.2.1 a1.2.2.1 a1.2.2.2) fun y3=>Ya (Zkb 13) fun v4=>Ya (Zkb 7) fun v5=>Ya (Zkb 17) fun v6=>Ya (Zkb 20) fun v7=>Ya (nz? (Yc .u64 a2)) fun v8=>let e9:=intBits .xor .u64 y3.2.2.2.1 (shl .u64 y3.2.2.2.1 13);let e10:=intBits .xor .u64 e9 (shr .u64 e9 7);let e11:=intBits .xor .u64 e10 (shl .u64 e10 17);some (Yc .i64 (Yf (Yc .u64 (y3.1+(shr .u64 e11 20))) (Yc .u64 a2)),y3.2.1,y3.2.2.1,e11,y3.2.2.2.2)
def Zgd.con (k:Nat):Con:=Sig.con { ps:=[.ref 262 Zvh (Zpe Zvh),.val false (.int .i64) (ros (.int .i64))],rs:=[.val false [.v (.int .i64)]],ntmps:=87 } (fun x=>Zgd x.1 x.2)
def Zgd.cok (k:Nat):=cX cN
def Zgd.j0.s (k:Nat):Summ:=lq 87 { tmps:=[(0,.one (.ptr 0 0)),(5,.one (.v (.int .u64)))],slots:=[(0,.box 262 [.v (.sl (.int .u8)),.v (.int .i64),.v (.int .u64),.v (.int .i64)])],nb:=1 } [(.nrm,{ tmps:=[(5,.one (.v (.int .u64)))],slots:=[(0,.box 262 [.v (.sl (.int .u8)),.v (.int .i64),.v (.int .u64),.v (.int .i64)])],nb:=1 })] (fun x=>Zgd.j0 x.1 x.2.1 x.2.2.1 x.2.2.2.1 x.2.2.2.2)
def Zgd.j0.ok (k:Nat):=(jA (Zgd.cok k):Zn Yb _ (cL (cR (cR (cR (cB Tryz.f248))))) (Zgd.j0.s k))
theorem Zgd.ok (k:Nat):Zd Yb 248 (Zgd.con k):=fP (.two .auto (.two .auto (.two .auto (.two (.sum (Zgd.j0.s k)) .auto)))) (Zgd.cok k) Tryz.func248 (sC (Zgd.j0.ok k) sN)
def Zsk (a1:Zlp) (a2:Int):Option (Bool×List Int×Int×Int×Int):=Ya (Zgd a1 a2) fun v3=>some (v3.1==0,v3.2.1,v3.2.2.1,v3.2.2.2.1,v3.2.2.2.2)
def Zsk.con (k:Nat):Con:=Sig.con { ps:=[.ref 262 Zvh (Zpe Zvh),.val false (.int .i64) (ros (.int .i64))],rs:=[.val false [.v .bool]],ntmps:=9 } (fun x=>Zsk x.1 x.2)
theorem Zsk.ok (k:Nat):Zd Yb 175 (Zsk.con k):=fA (cX (cC (Zgd.ok k) cN)) Tryz.func175
def Zap (a1:Zlp) (a2:List Str):Option (Str×List Int×Int×Int×Int):=Ya (Zgd a1 ((a2.length):Int)) fun v3=>Ya (at? a2 v3.1) fun v4=>some (v4,v3.2.1,v3.2.2.1,v3.2.2.2.1,v3.2.2.2.2)
def Zap.con (k:Nat):Con:=Sig.con { ps:=[.ref 262 Zvh (Zpe Zvh),.val false (.sl .str) (ros (.sl .str))],rs:=[.val false [.v .str]],ntmps:=12 } (fun x=>Zap x.1 x.2)
theorem Zap.ok (k:Nat):Zd Yb 250 (Zap.con k):=fA (cX (cC (Zgd.ok k) cN)) Tryz.func250
def Z1l (a1:Zlp):Option (Str×List Int×Int×Int×Int):=Ya (Zap a1 ([([97,97,97,97,97,97,97,97]:Str),([97,98,97,98,97,98,97,98]:Str),([104,101,108,108,111,32,32,33]:Str),([0,0,0,0,0,0,0,0]:Str),([0,0,0,1,0,0,0,0]:Str)])) fun v2=>some (v2.1,v2.2.1,v2.2.2.1,v2.2.2.2.1,v2.2.2.2.2)
def Z1l.con (k:Nat):Con:=Sig.con { ps:=[.ref 262 Zvh (Zpe Zvh)],rs:=[.val false [.v .str]],ntmps:=6 } (fun x=>Z1l x)
theorem Z1l.ok (k:Nat):Zd Yb 176 (Z1l.con k):=fA (cX (cC (Zap.ok k) cN)) Tryz.func176
def Zte.l0:Nat→Int→List Int→Int→Int→Int→List Str→Option ((List Int×Int×Int×Int×List Str))
 | 0,_,_,_,_,_,_=>none
 | j+1,a1,a2,a3,a4,a5,a6=>bif decide (0<a1) then Ya (Z1l (a2,(a3,(a4,a5)))) fun v7=>Ya (Zfb 16 a6 [v7.1]) fun v8=>Zte.l0 j (Yc .i64 (a1-1)) v7.2.1 v7.2.2.1 v7.2.2.2.1 v7.2.2.2.2 v8 else some (a2,a3,a4,a5,a6)
def Zte (k:Nat) (a1:Zlp) (a2:Int):Option (List Str×List Int×Int×Int×Int):=Ya (Zte.l0 k a2 a1.1 a1.2.1 a1.2.2.1 a1.2.2.2 []) fun y3=>some (y3.2.2.2.2,y3.1,y3.2.1,y3.2.2.1,y3.2.2.2.1)
def Zte.con (k:Nat):Con:=Sig.con { ps:=[.ref 262 Zvh (Zpe Zvh),.val false (.int .i64) (ros (.int .i64))],rs:=[.val false [.own 9 .str]],ntmps:=17 } (fun x=>Zte k x.1 x.2)
def Zte.cok (k:Nat):=cX (cC (Z1l.ok k) cN)
def Zte.l0.s (k:Nat):Summ:=lp 17 { tmps:=[(0,.one (.ptr 0 0)),(1,.one (.v (.int .i64))),(5,.one (.own 2))],slots:=[(0,.box 262 [.v (.sl (.int .u8)),.v (.int .i64),.v (.int .u64),.v (.int .i64)]),(2,.arr false 9 .str)],nb:=3 } [(.exit 0,{ tmps:=[(5,.one (.own 3))],slots:=[(0,.box 262 [.v (.sl (.int .u8)),.v (.int .i64),.v (.int .u64),.v (.int .i64)]),(3,.arr false 9 .str)],nb:=4 })] (fun j x=>Zte.l0 j x.1 x.2.1 x.2.2.1 x.2.2.2.1 x.2.2.2.2.1 x.2.2.2.2.2) k
def Zte.l0.ok (k:Nat):=(lA (Zte.cok k):Zn Yb _ (.loop (cO (cO (cL (cR (cR (cB Tryz.f247))))))) (Zte.l0.s k))
theorem Zte.ok (k:Nat):Zd Yb 247 (Zte.con k):=fP (.two .auto (.two .auto (.two (.one (.sum (Zte.l0.s k))) .auto))) (Zte.cok k) Tryz.func247 (sC (Zte.l0.ok k) sN)
def Z4e.l0:Nat→Int→Int→List Int→Int→Int→Int→List Int→Option ((List Int×Int×Int×Int×List Int))
 | 0,_,_,_,_,_,_,_=>none
 | j+1,a1,a2,a3,a4,a5,a6,a7=>bif decide (a2<a1) then Ya (Zgd (a3,(a4,(a5,a6))) 256) fun v8=>Ya (Zfb 1 a7 [(Yc .u8 v8.1)]) fun v9=>Z4e.l0 j a1 (Yc .i64 (a2+1)) v8.2.1 v8.2.2.1 v8.2.2.2.1 v8.2.2.2.2 v9 else some (a3,a4,a5,a6,a7)
def Z4e (k:Nat) (a1:Zlp) (a2:Int):Option (Str×List Int×Int×Int×Int):=Ya (Z4e.l0 k a2 0 a1.1 a1.2.1 a1.2.2.1 a1.2.2.2 []) fun y3=>some (Zhb y3.2.2.2.2,y3.1,y3.2.1,y3.2.2.1,y3.2.2.2.1)
def Z4e.con (k:Nat):Con:=Sig.con { ps:=[.ref 262 Zvh (Zpe Zvh),.val false (.int .i64) (ros (.int .i64))],rs:=[.val false [.v .str]],ntmps:=21 } (fun x=>Z4e k x.1 x.2)
def Z4e.cok (k:Nat):=cX (cC (Zgd.ok k) cN)
def Z4e.l0.s (k:Nat):Summ:=lp 21 { tmps:=[(0,.one (.ptr 0 0)),(1,.one (.v (.int .i64))),(5,.one (.own 2)),(6,.one (.v (.int .i64)))],slots:=[(0,.box 262 [.v (.sl (.int .u8)),.v (.int .i64),.v (.int .u64),.v (.int .i64)]),(2,.arr false 5 (.int .u8))],nb:=3 } [(.exit 0,{ tmps:=[(5,.one (.own 3))],slots:=[(0,.box 262 [.v (.sl (.int .u8)),.v (.int .i64),.v (.int .u64),.v (.int .i64)]),(3,.arr false 5 (.int .u8))],nb:=4 })] (fun j x=>Z4e.l0 j x.1 x.2.1 x.2.2.1 x.2.2.2.1 x.2.2.2.2.1 x.2.2.2.2.2.1 x.2.2.2.2.2.2) k
def Z4e.l0.ok (k:Nat):=(lA (Z4e.cok k):Zn Yb _ (.loop (cO (cO (cR (cL (cR (cR (cB Tryz.f249)))))))) (Z4e.l0.s k))
theorem Z4e.ok (k:Nat):Zd Yb 249 (Z4e.con k):=fP (.two .auto (.two .auto (.two (.two .auto (.one (.sum (Z4e.l0.s k)))) .auto))) (Z4e.cok k) Tryz.func249 (sC (Z4e.l0.ok k) sN)
def Z6m (k:Nat) (a1:Zlp):Option (List Str×List Int×Int×Int×Int):=Ya (Zgd a1 5) fun v2=>Ya (Zte k v2.2 (Yc .i64 (1+v2.1))) fun v3=>Ya (Zsk v3.2 12) fun v4=>bif v4.1 then Ya (Zgd v4.2 3) fun v5=>bif v5.1==0 then Ya (Zgd v5.2 2) fun v6=>Ya (Z4e k v6.2 (Yc .i64 (7+(Yc .i64 (2*v6.1))))) fun v7=>let e8:=at? v3.1 0;Ya (e8) fun v9=>Ya (e8) fun v10=>some (Ye v3.1 (Yd 0) v7.1,v7.2.1,v7.2.2.1,v7.2.2.2.1,v7.2.2.2.2) else bif v5.1==1 then some ([],v5.2.1,v5.2.2.1,v5.2.2.2.1,v5.2.2.2.2) else Ya (Zgd v5.2 2) fun v11=>Ya (Zte k v11.2 (Yc .i64 (8+v11.1))) fun v12=>some (v12.1,v12.2.1,v12.2.2.1,v12.2.2.2.1,v12.2.2.2.2) else some (v3.1,v4.2.1,v4.2.2.1,v4.2.2.2.1,v4.2.2.2.2)
def Z6m.con (k:Nat):Con:=Sig.con { ps:=[.ref 262 Zvh (Zpe Zvh)],rs:=[.val false [.own 9 .str]],ntmps:=31 } (fun x=>Z6m k x)
theorem Z6m.ok (k:Nat):Zd Yb 174 (Z6m.con k):=fA (cX (cC (Zsk.ok k) (cC (Zte.ok k) (cC (Zgd.ok k) (cC (Z4e.ok k) cN))))) Tryz.func174
def Z1d.l0:Nat→Int→List Int→Int→Int→Int→List Str→Option ((List Int×Int×Int×Int×List Str))
 | 0,_,_,_,_,_,_=>none
 | j+1,a1,a2,a3,a4,a5,a6=>bif decide (a1<((a6.length):Int)) then Ya (Zsk (a2,(a3,(a4,a5))) 2) fun v7=>let e8:=Yc .i64 (a1+1);bif v7.1 then Ya (Z1l v7.2) fun v9=>Ya (at? a6 a1) fun v10=>Ya (at? a6 a1) fun v11=>Z1d.l0 j e8 v9.2.1 v9.2.2.1 v9.2.2.2.1 v9.2.2.2.2 (Ye a6 (Yd a1) v9.1) else Z1d.l0 j e8 v7.2.1 v7.2.2.1 v7.2.2.2.1 v7.2.2.2.2 a6 else some (a2,a3,a4,a5,a6)
def Z1d (k:Nat) (a1:List Int):Option (List Str×List Str):=Ya (Zie k a1) fun v2=>Ya (Z6m k v2) fun v3=>Ya (Zfb 16 [] v3.1) fun v4=>Ya (Z1d.l0 k 0 v3.2.1 v3.2.2.1 v3.2.2.2.1 v3.2.2.2.2 v4) fun y5=>Ya (Zsk (y5.1,(y5.2.1,(y5.2.2.1,y5.2.2.2.1))) 12) fun v6=>bif v6.1 then Ya (Z6m k v6.2) fun v7=>some (v3.1,v7.1) else some (v3.1,y5.2.2.2.2)
def Z1d.con (k:Nat):Con:=Sig.conR { ps:=[.val false (.sl (.int .u8)) (Zpe (.sl (.int .u8)))],rs:=[.val false [.own 9 .str],.val false [.own 9 .str]],ntmps:=34 } (fun x=>Z1d k x)
def Z1d.cok (k:Nat):=cX (cC (Zie.ok k) (cC (Z6m.ok k) (cC (Zsk.ok k) (cC (Z1l.ok k) cN))))
def Z1d.l0.s (k:Nat):Summ:=lp 34 { tmps:=[(4,.one (.ptr 0 0)),(6,.one (.own 4)),(7,.one (.v (.int .i64)))],slots:=[(0,.box 262 [.v (.sl (.int .u8)),.v (.int .i64),.v (.int .u64),.v (.int .i64)]),(4,.arr false 9 .str)],nb:=5 } [(.exit 0,{ tmps:=[(6,.one (.own 5))],slots:=[(0,.box 262 [.v (.sl (.int .u8)),.v (.int .i64),.v (.int .u64),.v (.int .i64)]),(5,.arr false 9 .str)],nb:=6 })] (fun j x=>Z1d.l0 j x.1 x.2.1 x.2.2.1 x.2.2.2.1 x.2.2.2.2.1 x.2.2.2.2.2) k
def Z1d.l0.ok (k:Nat):=(lA (Z1d.cok k):Zn Yb _ (.loop (cO (cO (cR (cL (cR (cR (cR (cR (cB Tryz.f86)))))))))) (Z1d.l0.s k))
theorem Z1d.ok (k:Nat):Zd Yb 86 (Z1d.con k):=Zt0 (fP (.two .auto (.two .auto (.two .auto (.two .auto (.two (.two .auto (.one (.sum (Z1d.l0.s k)))) .auto))))) (Z1d.cok k) Tryz.func86 (sC (Z1d.l0.ok k) sN))
def Zrk (k:Nat) (a1:List Int):Option (List Str×List Str):=Ya (Z1d k a1) fun v2=>some (v2.1,v2.2)
def Zrk.con (k:Nat):Con:=Sig.con { ps:=[.val false (.sl (.int .u8)) (ros (.sl (.int .u8)))],rs:=[.val false [.own 9 .str],.val false [.own 9 .str]],ntmps:=8 } (fun x=>Zrk k x)
theorem Zrk.ok (k:Nat):Zd Yb 43 (Zrk.con k):=fA (cX (cC (Z1d.ok k) cN)) Tryz.func43
def Z3e.l0:Nat→List Zve→Int→Int→Option (Int)
 | 0,_,_,_=>none
 | j+1,a1,a2,a3=>bif (decide (a3<((a1.length):Int)))&&(decide (((a1.length):Int)≤40)) then Ya (at? a1 a3) fun v4=>let e5:=Yc .i64 (a3+1);bif v4.1==1 then Z3e.l0 j a1 (Yc .i64 (a2+1)) e5 else Z3e.l0 j a1 a2 e5 else some a2
def Z3e (k:Nat) (a1:List Zve):Option (Int):=Ya (Z3e.l0 k a1 0 0) fun y2=>some y2
def Z3e.con (k:Nat):Con:=Sig.con { ps:=[.val false (.sl Zkc) (ros (.sl Zkc))],rs:=[.val false [.v (.int .i64)]],ntmps:=25 } (fun x=>Z3e k x)
def Z3e.cok (k:Nat):=cX cN
def Z3e.l0.s (k:Nat):Summ:=lp 25 { tmps:=[(0,.one (.bor Zkc)),(3,.one (.v (.int .i64))),(4,.one (.v (.int .i64)))],slots:=[],nb:=0 } [(.exit 0,{ tmps:=[(3,.one (.v (.int .i64)))],slots:=[],nb:=0 })] (fun j x=>Z3e.l0 j x.1 x.2.1 x.2.2) k
def Z3e.l0.ok (k:Nat):=(lA (Z3e.cok k):Zn Yb _ (.loop (cO (cO (cR (cL (cR (cR (cB Tryz.f44)))))))) (Z3e.l0.s k))
theorem Z3e.ok (k:Nat):Zd Yb 44 (Z3e.con k):=fP (.two .auto (.two .auto (.two (.two .auto (.one (.sum (Z3e.l0.s k)))) .auto))) (Z3e.cok k) Tryz.func44 (sC (Z3e.l0.ok k) sN)
def Zhd (a1:Int) (a2:Int) (a3:Int):Option (Bool):=some ((decide (a2≤a1))&&(decide (a1≤a3)))
def Zhd.con (k:Nat):Con:=Sig.con { ps:=[.val false (.int .i64) (ros (.int .i64)),.val false (.int .i64) (ros (.int .i64)),.val false (.int .i64) (ros (.int .i64))],rs:=[.val false [.v .bool]],ntmps:=15 } (fun x=>Zhd x.1 x.2.1 x.2.2)
theorem Zhd.ok (k:Nat):Zd Yb 98 (Zhd.con k):=fA (cX cN) Tryz.func98
def Z5m (a1:G52) (a2:Int):Option (Bool):=Ya (Zhd a2 1 8) fun v3=>bif !v3 then some false else let e4:=Yc .i64 (a2-1);Ya (Zhd a1.2.1 0 e4) fun v5=>Ya (Zhd a1.2.2.1 0 e4) fun v6=>let e7:=a1.2.2.2==[];let e8:=v5&&(a1.2.2.1==0);bif a1.1==1 then some (e8&&e7) else let e9:=((a1.2.2.2.length):Int)==8;bif a1.1==2 then some (e8&&e9) else bif a1.1==3 then some ((v5&&v6)&&e7) else bif a1.1==4 then some ((v5&&v6)&&e9) else bif a1.1==5 then bif a1.2.1==0 then Ya (Zhd a1.2.2.1 0 1000000) fun v10=>some (v10&&e7) else some false else some false
def Z5m.con (k:Nat):Con:=Sig.con { ps:=[.val true T52 (ros T52),.val false (.int .i64) (ros (.int .i64))],rs:=[.val false [.v .bool]],ntmps:=87 } (fun x=>Z5m x.1 x.2)
theorem Z5m.ok (k:Nat):Zd Yb 177 (Z5m.con k):=fA (cX (cC (Zhd.ok k) cN)) Tryz.func177
def Zw.l0:Nat→List G52→Int→Int→Option (Unit ⊕ Int)
 | 0,_,_,_=>none
 | j+1,a1,a2,a3=>bif decide (a3<((a1.length):Int)) then Ya (at? a1 a3) fun v4=>Ya (Z5m v4 a2) fun v5=>bif !v5 then some (.inr 1) else Zw.l0 j a1 a2 (Yc .i64 (a3+1)) else some (.inl ())
def Zw.l1:Nat→List G52→Int→Int→Option (Unit ⊕ Int)
 | 0,_,_,_=>none
 | j+1,a1,a2,a3=>bif decide (a3<a2) then Ya (at? a1 a2) fun v4=>let e5:=Yc .i64 (a3+1);bif v4.1 != 5 then Ya (at? a1 a3) fun v6=>bif v6.1 != 5 then Ya (at? a1 a2) fun v7=>Ya (at? a1 a3) fun v8=>bif v7.2.1==v8.2.1 then some (.inr 12) else Zw.l1 j a1 a2 e5 else Zw.l1 j a1 a2 e5 else Zw.l1 j a1 a2 e5 else some (.inl ())
def Zw.l2 (k:Nat):Nat→List G52→Int→Option (Unit ⊕ Int)
 | 0,_,_=>none
 | j+1,a1,a2=>bif decide (a2<((a1.length):Int)) then Ya (Zw.l1 k a1 a2 0) fun
    | .inl y3=>Zw.l2 k j a1 (Yc .i64 (a2+1))
    | .inr y4=>some (.inr y4) else some (.inl ())
def Zw.l3:Nat→List G52→Int→Int→Option (Unit ⊕ Int)
 | 0,_,_,_=>none
 | j+1,a1,a2,a3=>bif decide (a3<((a1.length):Int)) then Ya (at? a1 a3) fun v4=>let e5:=Yc .i64 (a3+1);bif v4.1 != 5 then Zw.l3 j a1 a2 e5 else Ya (at? a1 a3) fun v6=>bif decide (v6.2.2.1≤a2) then some (.inr 8) else Ya (at? a1 a3) fun v7=>Zw.l3 j a1 v7.2.2.1 e5 else some (.inl ())
def Zw (k:Nat) (a1:List G52) (a2:Int):Option (Int):=bif decide (20<((a1.length):Int)) then some 1 else Ya (Zhd a2 1 8) fun v3=>bif !v3 then some 1 else Ya (Zw.l0 k a1 a2 0) fun
  | .inl y4=>Ya (Zw.l2 k k a1 0) fun
    | .inl y5=>Ya (Zw.l3 k a1 (-1) 0) fun
      | .inl y6=>some 0
      | .inr y7=>some y7
    | .inr y8=>some y8
  | .inr y9=>some y9
def Zw.con (k:Nat):Con:=Sig.con { ps:=[.val false (.sl T52) (ros (.sl T52)),.val false (.int .i64) (ros (.int .i64))],rs:=[.val false [.v (.int .i64)]],ntmps:=93 } (fun x=>Zw k x.1 x.2)
def Zw.cok (k:Nat):=cX (cC (Zhd.ok k) (cC (Z5m.ok k) cN))
def Zw.l0.s (k:Nat):Summ:=lp 93 { tmps:=[(0,.one (.bor T52)),(1,.one (.v (.int .i64))),(5,.one (.v (.int .i64)))],slots:=[],nb:=0 } [(.exit 0,{ tmps:=[],slots:=[],nb:=0 }),(.ret,{ tmps:=[(4,.one (.v (.int .i64)))],slots:=[],nb:=0 })] (fun j x=>Zw.l0 j x.1 x.2.1 x.2.2) k
def Zw.l0.ok (k:Nat):=(lA (Zw.cok k):Zn Yb _ (.loop (cO (cO (cR (cL (cR (cR (cB Yj)))))))) (Zw.l0.s k))
def Zw.l1.s (k:Nat):Summ:=lp 93 { tmps:=[(0,.one (.bor T52)),(6,.one (.v (.int .i64))),(7,.one (.v (.int .i64)))],slots:=[],nb:=0 } [(.exit 4,{ tmps:=[],slots:=[],nb:=0 }),(.ret,{ tmps:=[(4,.one (.v (.int .i64)))],slots:=[],nb:=0 })] (fun j x=>Zw.l1 j x.1 x.2.1 x.2.2) k
def Zw.l1.ok (k:Nat):=(lA (Zw.cok k):Zn Yb _ (.loop (cO (cO (cR (cO (cL (cR (cO (cO (cR (cL (cR (cR (cR (cB Yj))))))))))))))) (Zw.l1.s k))
def Zw.l2.s (k:Nat):Summ:=lp 93 { tmps:=[(0,.one (.bor T52)),(6,.one (.v (.int .i64)))],slots:=[],nb:=0 } [(.exit 2,{ tmps:=[],slots:=[],nb:=0 }),(.ret,{ tmps:=[(4,.one (.v (.int .i64)))],slots:=[],nb:=0 })] (fun j x=>Zw.l2 k j x.1 x.2) k
def Zw.l2.ok (k:Nat):=(lP (.two .auto (.two (.one (.two .auto (.one (.sum (Zw.l1.s k))))) .auto)) (Zw.cok k) (sC (Zw.l1.ok k) sN):Zn Yb _ (.loop (cO (cO (cR (cL (cR (cR (cR (cB Yj))))))))) (Zw.l2.s k))
def Zw.l3.s (k:Nat):Summ:=lp 93 { tmps:=[(0,.one (.bor T52)),(8,.one (.v (.int .i64))),(9,.one (.v (.int .i64)))],slots:=[],nb:=0 } [(.exit 6,{ tmps:=[],slots:=[],nb:=0 }),(.ret,{ tmps:=[(4,.one (.v (.int .i64)))],slots:=[],nb:=0 })] (fun j x=>Zw.l3 j x.1 x.2.1 x.2.2) k
def Zw.l3.ok (k:Nat):=(lA (Zw.cok k):Zn Yb _ (.loop (cO (cO (cR (cL (cR (cR (cR (cR (cR (cB Yj))))))))))) (Zw.l3.s k))
theorem Zw.ok (k:Nat):Zd Yb 87 (Zw.con k):=fP (.two .auto (.two .auto (.two (.two .auto (.one (.sum (Zw.l0.s k)))) (.two (.two .auto (.one (.sum (Zw.l2.s k)))) (.two .auto (.two (.two .auto (.one (.sum (Zw.l3.s k)))) .auto)))))) (Zw.cok k) Tryz.func87 (sC (Zw.l0.ok k) (sC (Zw.l2.ok k) (sC (Zw.l3.ok k) sN)))
def Z4d.l0:Nat→List G52→Int→List G52→Option ((List G52))
 | 0,_,_,_=>none
 | j+1,a1,a2,a3=>bif (decide (a2<((a1.length):Int)))&&(decide (((a1.length):Int)≤20)) then Ya (at? a1 a2) fun v4=>let e5:=Yc .i64 (a2+1);bif v4.1 != 5 then Ya (at? a1 a2) fun v6=>Ya (Zfb 40 a3 [v6]) fun v7=>Z4d.l0 j a1 e5 v7 else Z4d.l0 j a1 e5 a3 else some a3
def Z4d (k:Nat) (a1:List G52):Option (List G52):=Ya (Z4d.l0 k a1 0 []) fun y2=>some y2
def Z4d.con (k:Nat):Con:=Sig.con { ps:=[.val false (.sl T52) (ros (.sl T52))],rs:=[.val false [.own 52 T52]],ntmps:=31 } (fun x=>Z4d k x)
def Z4d.cok (k:Nat):=cX cN
def Z4d.l0.s (k:Nat):Summ:=lp 31 { tmps:=[(0,.one (.bor T52)),(3,.one (.own 1)),(4,.one (.v (.int .i64)))],slots:=[(1,.arr false 52 T52)],nb:=2 } [(.exit 0,{ tmps:=[(3,.one (.own 2))],slots:=[(2,.arr false 52 T52)],nb:=3 })] (fun j x=>Z4d.l0 j x.1 x.2.1 x.2.2) k
def Z4d.l0.ok (k:Nat):=(lA (Z4d.cok k):Zn Yb _ (.loop (cO (cO (cR (cL (cR (cR (cB Tryz.f178)))))))) (Z4d.l0.s k))
theorem Z4d.ok (k:Nat):Zd Yb 178 (Z4d.con k):=fP (.two .auto (.two .auto (.two (.two .auto (.one (.sum (Z4d.l0.s k)))) .auto))) (Z4d.cok k) Tryz.func178 (sC (Z4d.l0.ok k) sN)
def Zuq (a1:G52) (a2:Int):Option (Bool):=some (((a1.1==3)||(a1.1==4))&&(a1.2.2.1==a2))
def Zuq.con (k:Nat):Con:=Sig.con { ps:=[.val true T52 (ros T52),.val false (.int .i64) (ros (.int .i64))],rs:=[.val false [.v .bool]],ntmps:=19 } (fun x=>Zuq x.1 x.2)
theorem Zuq.ok (k:Nat):Zd Yb 289 (Zuq.con k):=fA (cX cN) Tryz.func289
def Zyc.l0:Nat→List G52→List Bool→Int→Int→Option (Unit ⊕ Bool)
 | 0,_,_,_,_=>none
 | j+1,a1,a2,a3,a4=>bif decide (a4<((a1.length):Int)) then let e5:=Yc .i64 (a4+1);bif a4 != a3 then Ya (at? a2 a4) fun v6=>bif v6 then Ya (at? a1 a4) fun v7=>Ya (at? a1 a3) fun v8=>Ya (Zuq v7 v8.2.1) fun v9=>bif v9 then some (.inr true) else Zyc.l0 j a1 a2 a3 e5 else Zyc.l0 j a1 a2 a3 e5 else Zyc.l0 j a1 a2 a3 e5 else some (.inl ())
def Zyc (k:Nat) (a1:List G52) (a2:List Bool) (a3:List Bool) (a4:Int):Option (Bool):=Ya (at? a1 a4) fun v5=>Ya (at? a3 v5.2.1) fun v6=>bif v6 then some false else Ya (Zyc.l0 k a1 a2 a4 0) fun
  | .inl y7=>some false
  | .inr y8=>some y8
def Zyc.con (k:Nat):Con:=Sig.con { ps:=[.val false (.sl T52) (ros (.sl T52)),.val false (.sl .bool) (ros (.sl .bool)),.val false (.sl .bool) (ros (.sl .bool)),.val false (.int .i64) (ros (.int .i64))],rs:=[.val false [.v .bool]],ntmps:=45 } (fun x=>Zyc k x.1 x.2.1 x.2.2.1 x.2.2.2)
def Zyc.cok (k:Nat):=cX (cC (Zuq.ok k) cN)
def Zyc.l0.s (k:Nat):Summ:=lp 45 { tmps:=[(0,.one (.bor T52)),(1,.one (.bor .bool)),(3,.one (.v (.int .i64))),(9,.one (.v (.int .i64)))],slots:=[],nb:=0 } [(.exit 0,{ tmps:=[],slots:=[],nb:=0 }),(.ret,{ tmps:=[(8,.one (.v .bool))],slots:=[],nb:=0 })] (fun j x=>Zyc.l0 j x.1 x.2.1 x.2.2.1 x.2.2.2) k
def Zyc.l0.ok (k:Nat):=(lA (Zyc.cok k):Zn Yb _ (.loop (cO (cO (cR (cL (cR (cR (cB Tryz.f251)))))))) (Zyc.l0.s k))
theorem Zyc.ok (k:Nat):Zd Yb 251 (Zyc.con k):=fP (.two .auto (.two .auto (.two (.two .auto (.one (.sum (Zyc.l0.s k)))) .auto))) (Zyc.cok k) Tryz.func251 (sC (Zyc.l0.ok k) sN)
def Zid.l0 (k:Nat):Nat→List G52→List Bool→List Bool→Int→Int→Int→Option ((Int×Int))
 | 0,_,_,_,_,_,_=>none
 | j+1,a1,a2,a3,a4,a5,a6=>bif decide (a6<((a1.length):Int)) then Ya (at? a2 a6) fun v7=>let e8:=Yc .i64 (a6+1);bif !v7 then Zid.l0 k j a1 a2 a3 a4 a5 e8 else bif decide (a5<0) then bif decide (a4<0) then Ya (Zyc k a1 a2 a3 a6) fun v9=>bif !v9 then Zid.l0 k j a1 a2 a3 a6 a6 e8 else Zid.l0 k j a1 a2 a3 a4 a6 e8 else Zid.l0 k j a1 a2 a3 a4 a6 e8 else bif decide (a4<0) then Ya (Zyc k a1 a2 a3 a6) fun v10=>bif !v10 then Zid.l0 k j a1 a2 a3 a6 a5 e8 else Zid.l0 k j a1 a2 a3 a4 a5 e8 else Zid.l0 k j a1 a2 a3 a4 a5 e8 else some (a4,a5)
def Zid (k:Nat) (a1:List G52) (a2:List Bool) (a3:List Bool):Option (Int×Int):=Ya (Zid.l0 k k a1 a2 a3 (-1) (-1) 0) fun y4=>some (y4.1,y4.2)
def Zid.con (k:Nat):Con:=Sig.con { ps:=[.val false (.sl T52) (ros (.sl T52)),.val false (.sl .bool) (ros (.sl .bool)),.val false (.sl .bool) (ros (.sl .bool))],rs:=[.val false [.v (.int .i64)],.val false [.v (.int .i64)]],ntmps:=38 } (fun x=>Zid k x.1 x.2.1 x.2.2)
def Zid.cok (k:Nat):=cX (cC (Zyc.ok k) cN)
def Zid.l0.s (k:Nat):Summ:=lp 38 { tmps:=[(0,.one (.bor T52)),(1,.one (.bor .bool)),(2,.one (.bor .bool)),(8,.one (.v (.int .i64))),(9,.one (.v (.int .i64))),(10,.one (.v (.int .i64)))],slots:=[],nb:=0 } [(.exit 0,{ tmps:=[(8,.one (.v (.int .i64))),(9,.one (.v (.int .i64)))],slots:=[],nb:=0 })] (fun j x=>Zid.l0 k j x.1 x.2.1 x.2.2.1 x.2.2.2.1 x.2.2.2.2.1 x.2.2.2.2.2) k
def Zid.l0.ok (k:Nat):=(lA (Zid.cok k):Zn Yb _ (.loop (cO (cO (cR (cL (cR (cR (cB Tryz.f179)))))))) (Zid.l0.s k))
theorem Zid.ok (k:Nat):Zd Yb 179 (Zid.con k):=fP (.two .auto (.two .auto (.two (.two .auto (.one (.sum (Zid.l0.s k)))) .auto))) (Zid.cok k) Tryz.func179 (sC (Zid.l0.ok k) sN)
def Zsb.l0:Nat→Int→List G52→List Bool→Option ((List G52×List Bool))
 | 0,_,_,_=>none
 | j+1,a1,a2,a3=>bif decide (a1<((a2.length):Int)) then Ya (at? a3 a1) fun v4=>Ya (at? a3 a1) fun v5=>Zsb.l0 j (Yc .i64 (a1+1)) a2 (Ye a3 (Yd a1) true) else some (a2,a3)
def Zsb.l1 (k:Nat):Nat→Int→List G52→List Bool→List Bool→List Zve→Option ((List Zve))
 | 0,_,_,_,_,_=>none
 | j+1,a1,a2,a3,a4,a5=>Ya (Zid k a2 a3 a4) fun v6=>bif decide (v6.2<0) then some a5 else bif decide (0≤v6.1) then let e7:=at? a2 v6.1;Ya (e7) fun v8=>Ya (e7) fun v9=>Ya (Zfb 32 a5 [(2,(v6.1,(v9.2.1,0)))]) fun v10=>let e11:=at? a3 v6.1;Ya (e11) fun v12=>Ya (e11) fun v13=>Zsb.l1 k j a1 a2 (Ye a3 (Yd v6.1) false) a4 v10 else let e14:=at? a2 v6.2;Ya (e14) fun v15=>Ya (e14) fun v16=>Ya (Zfb 32 a5 [(1,(v6.2,(v16.2.1,a1)))]) fun v17=>Ya (e14) fun v18=>Ya (e14) fun v19=>let e20:=at? a4 v19.2.1;Ya (e20) fun v21=>Ya (e20) fun v22=>Zsb.l1 k j (Yc .i64 (a1+1)) a2 a3 (Ye a4 (Yd v19.2.1) true) v17
def Zsb (k:Nat) (a1:List G52):Option (List Zve):=Ya (Z4d k a1) fun v2=>Ya (Zdg 1 ((v2.length):Int) ((v2.length):Int) false) fun v3=>Ya (Zsb.l0 k 0 v2 v3) fun y4=>Ya (Zdg 1 8 8 false) fun v5=>Ya (Zsb.l1 k k 0 y4.1 y4.2 v5 []) fun y6=>some y6
def Zsb.con (k:Nat):Con:=Sig.con { ps:=[.val false (.sl T52) (ros (.sl T52))],rs:=[.val false [.own 139 Zkc]],ntmps:=74 } (fun x=>Zsb k x)
def Zsb.cok (k:Nat):=cX (cC (Z4d.ok k) (cC (Zid.ok k) cN))
def Zsb.l0.s (k:Nat):Summ:=lp 74 { tmps:=[(3,.one (.own 2)),(4,.one (.own 3)),(5,.one (.v (.int .i64)))],slots:=[(2,.arr false 52 T52),(3,.arr false 4 .bool)],nb:=4 } [(.exit 0,{ tmps:=[(3,.one (.own 4)),(4,.one (.own 5))],slots:=[(4,.arr false 52 T52),(5,.arr false 4 .bool)],nb:=6 })] (fun j x=>Zsb.l0 j x.1 x.2.1 x.2.2) k
def Zsb.l0.ok (k:Nat):=(lA (Zsb.cok k):Zn Yb _ (.loop (cO (cO (cR (cL (cR (cR (cR (cB Yz))))))))) (Zsb.l0.s k))
def Zsb.l1.s (k:Nat):Summ:=lp 74 { tmps:=[(3,.one (.own 8)),(4,.one (.own 9)),(6,.one (.own 10)),(7,.one (.own 11)),(8,.one (.v (.int .i64)))],slots:=[(8,.arr false 52 T52),(9,.arr false 4 .bool),(10,.arr false 4 .bool),(11,.arr false 139 Zkc)],nb:=12 } [(.ret,{ tmps:=[(2,.one (.own 12))],slots:=[(12,.arr false 139 Zkc)],nb:=13 })] (fun j x=>Zsb.l1 k j x.1 x.2.1 x.2.2.1 x.2.2.2.1 x.2.2.2.2) k
def Zsb.l1.ok (k:Nat):=(lA (Zsb.cok k):Zn Yb _ (.loop (cO (cO (cR (cR (cR (cR (cR (cR (cR (cB Yz))))))))))) (Zsb.l1.s k))
theorem Zsb.ok (k:Nat):Zd Yb 88 (Zsb.con k):=fP (.two .auto (.two .auto (.two .auto (.two (.two .auto (.one (.sum (Zsb.l0.s k)))) (.two .auto (.two .auto (.two .auto (.one (.sum (Zsb.l1.s k)))))))))) (Zsb.cok k) Tryz.func88 (sC (Zsb.l0.ok k) (sC (Zsb.l1.ok k) sN))
def Zyl (k:Nat) (a1:List G52) (a2:Int):Option (List Zve×Int):=bif decide (400<((a1.length):Int)) then some ([],2) else Ya (Zw k a1 a2) fun v3=>bif v3 != 0 then some ([],v3) else Ya (Zsb k a1) fun v4=>some (v4,0)
def Zyl.con (k:Nat):Con:=Sig.con { ps:=[.val false (.sl T52) (ros (.sl T52)),.val false (.int .i64) (ros (.int .i64))],rs:=[.val true [.own 139 Zkc,.v (.int .i64)]],ntmps:=20 } (fun x=>Zyl k x.1 x.2)
theorem Zyl.ok (k:Nat):Zd Yb 45 (Zyl.con k):=fA (cX (cC (Zw.ok k) (cC (Zsb.ok k) cN))) Tryz.func45
def Ztd.l0 (k:Nat):Nat→Bool→Int→Int→Str→Int→Int→Str→Int→List G52→List Str→List Z2→List Int→Option ((Bool×Int×Str×Int×Int×Str×Int×List G52×List Str×List Z2×List Int))
 | 0,_,_,_,_,_,_,_,_,_,_,_,_=>none
 | j+1,a1,a2,a3,a4,a5,a6,a7,a8,a9,a10,a11,a12=>bif decide (a2<((a9.length):Int)) then Ya (at? a9 a2) fun v13=>Ya (at? a9 a2) fun v14=>Ya (Zrj k (a6,(a10,a11)) (2,(0,(0,([],v14))))) fun v15=>Ztd.l0 k j (a1&&(v15.2.2.2.2.2==0)) (Yc .i64 (a2+1)) a3 a4 a5 v15.1 v15.2.2.2.1 v15.2.2.2.2.2 a9 v15.2.1 v15.2.2.1 v15.2.2.2.2.1 else some (a1,a3,a4,a5,a6,a7,a8,a9,a10,a11,a12)
def Ztd (k:Nat) (a1:List Int):Option (List Str×List Str×Int×List Str×List Z2×Bool):=Ya (Zrk k a1) fun v2=>Ya (Z0j k v2.1 v2.2) fun v3=>Ya (Zyl k v3.2.2.1 ((v2.1.length):Int)) fun v4=>Ya (Z3e k v4.1) fun v5=>Ya (Zdk k v2.1) fun v6=>bif v3.2.2.2 != 0 then some (v2.1,v2.2,v6.1,v6.2.1,v6.2.2.1,false) else let e7:=(0,(0,(0,[])));Ya (Zrj k (v6.1,(v6.2.1,v6.2.2.1)) (1,(((v3.2.2.1.length):Int),(v5,(v3.2.1,e7))))) fun v8=>Ya (Ztd.l0 k k (v8.2.2.2.2.2==0) 0 v3.1 v3.2.1 v3.2.2.2 v8.1 v8.2.2.2.1 v8.2.2.2.2.2 v3.2.2.1 v8.2.1 v8.2.2.1 v8.2.2.2.2.1) fun y9=>let e10:=(0,(0,([],e7)));Ya (Zrj k (y9.2.2.2.2.1,(y9.2.2.2.2.2.2.2.2.1,y9.2.2.2.2.2.2.2.2.2.1)) (3,e10)) fun v11=>Ya (Zrj k (v11.1,(v11.2.1,v11.2.2.1)) (11,e10)) fun v12=>bif y9.1&&(v11.2.2.2.2.2==0) then some (v2.1,v2.2,v12.1,v12.2.1,v12.2.2.1,v12.2.2.2.2.2==0) else some (v2.1,v2.2,v12.1,v12.2.1,v12.2.2.1,false)
def Ztd.con (k:Nat):Con:=Sig.con { ps:=[.val false (.sl (.int .u8)) (ros (.sl (.int .u8)))],rs:=[.val false [.own 9 .str],.val false [.own 9 .str],.val true [.v (.int .i64),.own 9 .str,.own 195 Zz],.val false [.v .bool]],ntmps:=101 } (fun x=>Ztd k x)
def Ztd.cok (k:Nat):=cX (cC (Z0j.ok k) (cC (Zdk.ok k) (cC (Zrj.ok k) (cC (Zrk.ok k) (cC (Z3e.ok k) (cC (Zyl.ok k) cN))))))
def Ztd.l0.s (k:Nat):Summ:=lp 101 { tmps:=[(8,.one (.ptr 4 0)),(11,.one (.ptr 12 0)),(12,.one (.v .bool)),(13,.one (.v (.int .i64)))],slots:=[(4,.box 35 [.v (.int .i64),.v .str,.own 13,.v (.int .i64)]),(12,.box 70 [.v (.int .i64),.own 14,.own 15,.v .str,.own 16,.v (.int .i64)]),(13,.arr false 52 T52),(14,.arr false 9 .str),(15,.arr false 195 Zz),(16,.arr false 2 (.int .i64))],nb:=17 } [(.exit 0,{ tmps:=[(12,.one (.v .bool))],slots:=[(4,.box 35 [.v (.int .i64),.v .str,.own 17,.v (.int .i64)]),(12,.box 70 [.v (.int .i64),.own 18,.own 19,.v .str,.own 20,.v (.int .i64)]),(17,.arr false 52 T52),(18,.arr false 9 .str),(19,.arr false 195 Zz),(20,.arr false 2 (.int .i64))],nb:=21 })] (fun j x=>Ztd.l0 k j x.1 x.2.1 x.2.2.1 x.2.2.2.1 x.2.2.2.2.1 x.2.2.2.2.2.1 x.2.2.2.2.2.2.1 x.2.2.2.2.2.2.2.1 x.2.2.2.2.2.2.2.2.1 x.2.2.2.2.2.2.2.2.2.1 x.2.2.2.2.2.2.2.2.2.2.1 x.2.2.2.2.2.2.2.2.2.2.2) k
def Ztd.l0.ok (k:Nat):=(lA (Ztd.cok k):Zn Yb _ (.loop (cO (cO (cR (cL (cR (cR (cR (cR (cR (cR (cR (cR (cB Tryz.f7)))))))))))))) (Ztd.l0.s k))
theorem Ztd.ok (k:Nat):Zd Yb 7 (Ztd.con k):=fP (.two .auto (.two .auto (.two .auto (.two .auto (.two .auto (.two .auto (.two .auto (.two .auto (.two (.two .auto (.one (.sum (Ztd.l0.s k)))) .auto))))))))) (Ztd.cok k) Tryz.func7 (sC (Ztd.l0.ok k) sN)
def Z3o (a1:Int):Option (List Str×List Z2):=Ya (Zhd a1 1 40) fun v2=>bif !v2 then some ([],[]) else Ya (Zdg 16 a1 a1 []) fun v3=>some (v3,[])
def Z3o.con (k:Nat):Con:=Sig.con { ps:=[.val false (.int .i64) (ros (.int .i64))],rs:=[.val true [.own 9 .str,.own 195 Zz]],ntmps:=10 } (fun x=>Z3o x)
theorem Z3o.ok (k:Nat):Zd Yb 52 (Z3o.con k):=fA (cX (cC (Zhd.ok k) cN)) Tryz.func52
def Z2l (a1:G26):Option (List Str×List Z2):=Ya (Zfb 16 [] a1.1) fun v2=>Ya (Zfb 24 [] a1.2) fun v3=>some (v2,v3)
def Z2l.con (k:Nat):Con:=Sig.con { ps:=[.val true T26 (ros T26)],rs:=[.val true [.own 9 .str,.own 195 Zz]],ntmps:=12 } (fun x=>Z2l x)
theorem Z2l.ok (k:Nat):Zd Yb 99 (Z2l.con k):=fA (cXr true false cN) Tryz.func99
def Z1j (a1:Int):Option (List Str×List Z2×Str×Int):=some ([],[],[],a1)
def Z1j.con (k:Nat):Con:=Sig.con { ps:=[.val false (.int .i64) (ros (.int .i64))],rs:=[.val true [.own 9 .str,.own 195 Zz,.v .str,.v (.int .i64)]],ntmps:=5 } (fun x=>Z1j x)
theorem Z1j.ok (k:Nat):Zd Yb 102 (Z1j.con k):=fA (cX cN) Tryz.func102
def Z4.l0:Nat→List Str→List Z2→Int→Option (Unit ⊕ Bool)
 | 0,_,_,_=>none
 | j+1,a1,a2,a3=>bif decide (a3<((a1.length):Int)) then Ya (at? a1 a3) fun v4=>bif decide (96<((v4.length):Int)) then some (.inr false) else Z4.l0 j a1 a2 (Yc .i64 (a3+1)) else some (.inl ())
def Z4.l1:Nat→List Str→List Z2→Int→Int→Option (Unit ⊕ Bool)
 | 0,_,_,_,_=>none
 | j+1,a1,a2,a3,a4=>bif decide (a4<a3) then Ya (at? a2 a4) fun v5=>Ya (at? a2 a3) fun v6=>bif v5.1==v6.1 then some (.inr false) else Z4.l1 j a1 a2 a3 (Yc .i64 (a4+1)) else some (.inl ())
def Z4.l2 (k:Nat):Nat→List Str→List Z2→Int→Option (Unit ⊕ Bool)
 | 0,_,_,_=>none
 | j+1,a1,a2,a3=>bif decide (a3<((a2.length):Int)) then Ya (at? a2 a3) fun v4=>Ya (Zhd v4.1 0 (Yc .i64 (((a1.length):Int)-1))) fun v5=>bif !v5 then some (.inr false) else Ya (at? a2 a3) fun v6=>bif decide (96<((v6.2.length):Int)) then some (.inr false) else Ya (Z4.l1 k a1 a2 a3 0) fun
    | .inl y7=>Z4.l2 k j a1 a2 (Yc .i64 (a3+1))
    | .inr y8=>some (.inr y8) else some (.inl ())
def Z4 (k:Nat) (a1:G26):Option (Bool):=let e2:=((a1.1.length):Int);bif ((decide (e2<1))||(decide (40<e2)))||(decide (e2<((a1.2.length):Int))) then some false else Ya (Z4.l0 k a1.1 a1.2 0) fun
  | .inl y3=>Ya (Z4.l2 k k a1.1 a1.2 0) fun
    | .inl y4=>some true
    | .inr y5=>some y5
  | .inr y6=>some y6
def Z4.con (k:Nat):Con:=Sig.con { ps:=[.val true T26 (ros T26)],rs:=[.val false [.v .bool]],ntmps:=86 } (fun x=>Z4 k x)
def Z4.cok (k:Nat):=cXr true false (cC (Zhd.ok k) cN)
def Z4.l0.s (k:Nat):Summ:=lp 86 { tmps:=[(1,.eptr [.bor .str,.bor Zz]),(3,.one (.v (.int .i64)))],slots:=[],nb:=0 } [(.exit 0,{ tmps:=[],slots:=[],nb:=0 }),(.ret,{ tmps:=[(2,.one (.v .bool))],slots:=[],nb:=0 })] (fun j x=>Z4.l0 j x.1 x.2.1 x.2.2) k
def Z4.l0.ok (k:Nat):=(lA (Z4.cok k):Zn Yb _ (.loop (cO (cO (cR (cL (cR (cR (cB Yp)))))))) (Z4.l0.s k))
def Z4.l1.s (k:Nat):Summ:=lp 86 { tmps:=[(1,.eptr [.bor .str,.bor Zz]),(4,.one (.v (.int .i64))),(5,.one (.v (.int .i64)))],slots:=[],nb:=0 } [(.exit 4,{ tmps:=[],slots:=[],nb:=0 }),(.ret,{ tmps:=[(2,.one (.v .bool))],slots:=[],nb:=0 })] (fun j x=>Z4.l1 j x.1 x.2.1 x.2.2.1 x.2.2.2) k
def Z4.l1.ok (k:Nat):=(lA (Z4.cok k):Zn Yb _ (.loop (cO (cO (cR (cR (cO (cL (cR (cO (cO (cR (cL (cR (cR (cR (cB Yp)))))))))))))))) (Z4.l1.s k))
def Z4.l2.s (k:Nat):Summ:=lp 86 { tmps:=[(1,.eptr [.bor .str,.bor Zz]),(4,.one (.v (.int .i64)))],slots:=[],nb:=0 } [(.exit 2,{ tmps:=[],slots:=[],nb:=0 }),(.ret,{ tmps:=[(2,.one (.v .bool))],slots:=[],nb:=0 })] (fun j x=>Z4.l2 k j x.1 x.2.1 x.2.2) k
def Z4.l2.ok (k:Nat):=(lP (.two .auto (.two (.one (.two .auto (.two .auto (.one (.sum (Z4.l1.s k)))))) .auto)) (Z4.cok k) (sC (Z4.l1.ok k) sN):Zn Yb _ (.loop (cO (cO (cR (cL (cR (cR (cR (cB Yp))))))))) (Z4.l2.s k))
theorem Z4.ok (k:Nat):Zd Yb 161 (Z4.con k):=fP (.two .auto (.two .auto (.two (.two .auto (.one (.sum (Z4.l0.s k)))) (.two (.two .auto (.one (.sum (Z4.l2.s k)))) .auto)))) (Z4.cok k) Tryz.func161 (sC (Z4.l0.ok k) (sC (Z4.l2.ok k) sN))
def Zof.l0:Nat→List Str→List Z2→Int→List Str→List Z2→Option ((List Str×List Z2))
 | 0,_,_,_,_,_=>none
 | j+1,a1,a2,a3,a4,a5=>bif decide (a3<((a2.length):Int)) then Ya (at? a2 a3) fun v6=>Ya (at? a2 a3) fun v7=>let e8:=at? a4 v6.1;Ya (e8) fun v9=>Ya (e8) fun v10=>Zof.l0 j a1 a2 (Yc .i64 (a3+1)) (Ye a4 (Yd v6.1) v7.2) a5 else some (a4,a5)
def Zof (k:Nat) (a1:G26):Option (List Str×List Z2):=Ya (Zfb 16 [] a1.1) fun v2=>Ya (Zof.l0 k a1.1 a1.2 0 v2 []) fun y3=>some (y3.1,y3.2)
def Zof.con (k:Nat):Con:=Sig.con { ps:=[.val true T26 (ros T26)],rs:=[.val true [.own 9 .str,.own 195 Zz]],ntmps:=33 } (fun x=>Zof k x)
def Zof.cok (k:Nat):=cXr true false cN
def Zof.l0.s (k:Nat):Summ:=lp 33 { tmps:=[(1,.eptr [.bor .str,.bor Zz]),(3,.one (.ptr 3 0)),(4,.one (.v (.int .i64)))],slots:=[(3,.box 26 [.own 4,.own 5]),(4,.arr false 9 .str),(5,.arr false 195 Zz)],nb:=6 } [(.exit 0,{ tmps:=[],slots:=[(3,.box 26 [.own 6,.own 7]),(6,.arr false 9 .str),(7,.arr false 195 Zz)],nb:=8 })] (fun j x=>Zof.l0 j x.1 x.2.1 x.2.2.1 x.2.2.2.1 x.2.2.2.2) k
def Zof.l0.ok (k:Nat):=(lA (Zof.cok k):Zn Yb _ (.loop (cO (cO (cR (cL (cR (cR (cB Tryz.f188)))))))) (Zof.l0.s k))
theorem Zof.ok (k:Nat):Zd Yb 188 (Zof.con k):=fP (.two .auto (.two .auto (.two (.two .auto (.one (.sum (Zof.l0.s k)))) .auto))) (Zof.cok k) Tryz.func188 (sC (Zof.l0.ok k) sN)
def Z4o (k:Nat) (a1:G26):Option (List Str×List Z2×Str×Int):=Ya (Z4 k a1) fun v2=>bif !v2 then Ya (Z1j 1) fun v3=>some (v3.1,v3.2.1,v3.2.2.1,v3.2.2.2) else Ya (Zof k a1) fun v4=>some (v4.1,v4.2,[],0)
def Z4o.con (k:Nat):Con:=Sig.con { ps:=[.val true T26 (ros T26)],rs:=[.val true [.own 9 .str,.own 195 Zz,.v .str,.v (.int .i64)]],ntmps:=10 } (fun x=>Z4o k x)
theorem Z4o.ok (k:Nat):Zd Yb 100 (Z4o.con k):=fA (cXr true false (cC (Z1j.ok k) (cC (Z4.ok k) (cC (Zof.ok k) cN)))) Tryz.func100
def Zgf.l0:Nat→Int→Str→Int→List Str→List Z2→List Str→List Z2→Option ((List Str×List Z2×List Str×List Z2) ⊕ (List Str×List Z2))
 | 0,_,_,_,_,_,_,_=>none
 | j+1,a1,a2,a3,a4,a5,a6,a7=>bif decide (a3<((a7.length):Int)) then Ya (at? a7 a3) fun v8=>Ya (at? a7 a3) fun v9=>bif v9.1==a1 then Ya (at? a7 a3) fun v10=>Ya (at? a7 a3) fun v11=>some (.inr (a6,Ye a7 (Yd a3) (v11.1,a2))) else Zgf.l0 j a1 a2 (Yc .i64 (a3+1)) a4 a5 a6 a7 else some (.inl (a4,a5,a6,a7))
def Zgf (k:Nat) (a1:G26) (a2:Int) (a3:Str):Option (List Str×List Z2):=Ya (Z2l a1) fun v4=>Ya (Zgf.l0 k a2 a3 0 [] [] v4.1 v4.2) fun
  | .inl y5=>Ya (Zfb 24 y5.2.2.2 [(a2,a3)]) fun v6=>some (y5.2.2.1,v6)
  | .inr y7=>some (y7.1,y7.2)
def Zgf.con (k:Nat):Con:=Sig.con { ps:=[.val true T26 (ros T26),.val false (.int .i64) (ros (.int .i64)),.val false .str (ros .str)],rs:=[.val true [.own 9 .str,.own 195 Zz]],ntmps:=42 } (fun x=>Zgf k x.1 x.2.1 x.2.2)
def Zgf.cok (k:Nat):=cXr true false (cC (Z2l.ok k) cN)
def Zgf.l0.s (k:Nat):Summ:=lp 42 { tmps:=[(1,.one (.v (.int .i64))),(2,.one (.v .str)),(6,.one (.ptr 0 0)),(7,.one (.ptr 3 0)),(8,.one (.v (.int .i64)))],slots:=[(0,.box 26 [.own 4,.own 5]),(3,.box 26 [.own 6,.own 7]),(4,.arr false 9 .str),(5,.arr false 195 Zz),(6,.arr false 9 .str),(7,.arr false 195 Zz)],nb:=8 } [(.exit 0,{ tmps:=[],slots:=[(0,.box 26 [.own 8,.own 9]),(3,.box 26 [.own 10,.own 11]),(8,.arr false 9 .str),(9,.arr false 195 Zz),(10,.arr false 9 .str),(11,.arr false 195 Zz)],nb:=12 }),(.ret,{ tmps:=[],slots:=[(0,.box 26 [.own 8,.own 9]),(3,.box 26 [.own 8,.own 9]),(8,.arr false 9 .str),(9,.arr false 195 Zz)],nb:=10 })] (fun j x=>Zgf.l0 j x.1 x.2.1 x.2.2.1 x.2.2.2.1 x.2.2.2.2.1 x.2.2.2.2.2.1 x.2.2.2.2.2.2) k
def Zgf.l0.ok (k:Nat):=(lA (Zgf.cok k):Zn Yb _ (.loop (cO (cO (cR (cL (cR (cR (cB Tryz.f189)))))))) (Zgf.l0.s k))
theorem Zgf.ok (k:Nat):Zd Yb 189 (Zgf.con k):=fP (.two .auto (.two .auto (.two (.two .auto (.one (.sum (Zgf.l0.s k)))) .auto))) (Zgf.cok k) Tryz.func189 (sC (Zgf.l0.ok k) sN)
def Z5o (k:Nat) (a1:G26) (a2:Int) (a3:Str):Option (List Str×List Z2×Str×Int):=bif decide (8000<((a3.length):Int)) then Ya (Z1j 2) fun v4=>some (v4.1,v4.2.1,v4.2.2.1,v4.2.2.2) else Ya (Z4 k a1) fun v5=>bif (!v5)||(decide (96<((a3.length):Int))) then Ya (Z1j 1) fun v6=>some (v6.1,v6.2.1,v6.2.2.1,v6.2.2.2) else Ya (Zhd a2 0 (Yc .i64 (((a1.1.length):Int)-1))) fun v7=>bif !v7 then Ya (Z1j 8) fun v8=>some (v8.1,v8.2.1,v8.2.2.1,v8.2.2.2) else Ya (Zgf k a1 a2 a3) fun v9=>some (v9.1,v9.2,[],0)
def Z5o.con (k:Nat):Con:=Sig.con { ps:=[.val true T26 (ros T26),.val false (.int .i64) (ros (.int .i64)),.val false .str (ros .str)],rs:=[.val true [.own 9 .str,.own 195 Zz,.v .str,.v (.int .i64)]],ntmps:=33 } (fun x=>Z5o k x.1 x.2.1 x.2.2)
theorem Z5o.ok (k:Nat):Zd Yb 101 (Z5o.con k):=fA (cXr true false (cC (Zhd.ok k) (cC (Z1j.ok k) (cC (Z4.ok k) (cC (Zgf.ok k) cN))))) Tryz.func101
def Z5e.l0 (k:Nat):Nat→List Zkg→Int→Str→Int→List Str→List Z2→Option ((Str×Int×List Str×List Z2))
 | 0,_,_,_,_,_,_=>none
 | j+1,a1,a2,a3,a4,a5,a6=>bif (decide (a2<((a1.length):Int)))&&(a4==0) then Ya (at? a1 a2) fun v7=>let e8:=Yc .i64 (a2+1);bif v7.1 then Ya (Z4o k (a5,a6)) fun v9=>Z5e.l0 k j a1 e8 v9.2.2.1 v9.2.2.2 v9.1 v9.2.1 else Ya (at? a1 a2) fun v10=>Ya (at? a1 a2) fun v11=>Ya (Z5o k (a5,a6) v10.2.1 v11.2.2) fun v12=>Z5e.l0 k j a1 e8 v12.2.2.1 v12.2.2.2 v12.1 v12.2.1 else some (a3,a4,a5,a6)
def Z5e (k:Nat) (a1:G26) (a2:List Zkg):Option (List Str×List Z2×Str×Int):=Ya (Z2l a1) fun v3=>Ya (Z5e.l0 k k a2 0 [] 0 v3.1 v3.2) fun y4=>bif y4.2.1 != 0 then Ya (Z1j y4.2.1) fun v5=>some (v5.1,v5.2.1,v5.2.2.1,v5.2.2.2) else some (y4.2.2.1,y4.2.2.2,y4.1,y4.2.1)
def Z5e.con (k:Nat):Con:=Sig.con { ps:=[.val true T26 (ros T26),.val false (.sl Zke) (ros (.sl Zke))],rs:=[.val true [.own 9 .str,.own 195 Zz,.v .str,.v (.int .i64)]],ntmps:=49 } (fun x=>Z5e k x.1 x.2)
def Z5e.cok (k:Nat):=cXr true false (cC (Z2l.ok k) (cC (Z4o.ok k) (cC (Z5o.ok k) (cC (Z1j.ok k) cN))))
def Z5e.l0.s (k:Nat):Summ:=lp 49 { tmps:=[(1,.one (.bor Zke)),(5,.one (.ptr 3 0)),(6,.one (.v (.int .i64)))],slots:=[(3,.box 109 [.own 4,.own 5,.v .str,.v (.int .i64)]),(4,.arr false 9 .str),(5,.arr false 195 Zz)],nb:=6 } [(.exit 0,{ tmps:=[],slots:=[(3,.box 109 [.own 6,.own 7,.v .str,.v (.int .i64)]),(6,.arr false 9 .str),(7,.arr false 195 Zz)],nb:=8 })] (fun j x=>Z5e.l0 k j x.1 x.2.1 x.2.2.1 x.2.2.2.1 x.2.2.2.2.1 x.2.2.2.2.2) k
def Z5e.l0.ok (k:Nat):=(lA (Z5e.cok k):Zn Yb _ (.loop (cO (cO (cR (cL (cR (cR (cB Tryz.f53)))))))) (Z5e.l0.s k))
theorem Z5e.ok (k:Nat):Zd Yb 53 (Z5e.con k):=fP (.two .auto (.two .auto (.two (.two .auto (.one (.sum (Z5e.l0.s k)))) .auto))) (Z5e.cok k) Tryz.func53 (sC (Z5e.l0.ok k) sN)
def Z9o (a1:Int):Option (Int):=bif decide (a1<0) then some (Yc .u64 ((Yc .u64 (2*(Yc .u64 (Yc .i64 (0-(Yc .i64 (a1+1)))))))+1)) else some (Yc .u64 (2*(Yc .u64 a1)))
def Z9o.con (k:Nat):Con:=Sig.con { ps:=[.val false (.int .i64) (ros (.int .i64))],rs:=[.val false [.v (.int .u64)]],ntmps:=14 } (fun x=>Z9o x)
theorem Z9o.ok (k:Nat):Zd Yb 193 (Z9o.con k):=fA (cX cN) Tryz.func193
def Z2c.l0:Nat→Int→List Int→Option ((Int×List Int))
 | 0,_,_=>none
 | j+1,a1,a2=>bif decide (128≤a1) then Ya (nz? 128) fun v3=>Ya (Zfb 1 a2 [(Yc .u8 (Yc .u64 ((Yf a1 128)+128)))]) fun v4=>Ya (nz? 128) fun v5=>Z2c.l0 j (Yc .u64 (Yk a1 128)) v4 else some (a1,a2)
def Z2c (k:Nat) (a1:Int):Option (Str):=Ya (Z9o a1) fun v2=>Ya (Z2c.l0 k v2 []) fun y3=>Ya (Zfb 1 y3.2 [(Yc .u8 y3.1)]) fun v4=>some (Zhb v4)
def Z2c.con (k:Nat):Con:=Sig.con { ps:=[.val false (.int .i64) (ros (.int .i64))],rs:=[.val false [.v .str]],ntmps:=25 } (fun x=>Z2c k x)
def Z2c.cok (k:Nat):=cX (cC (Z9o.ok k) cN)
def Z2c.l0.s (k:Nat):Summ:=lp 25 { tmps:=[(3,.one (.v (.int .u64))),(4,.one (.own 1))],slots:=[(1,.arr false 5 (.int .u8))],nb:=2 } [(.exit 0,{ tmps:=[(3,.one (.v (.int .u64))),(4,.one (.own 2))],slots:=[(2,.arr false 5 (.int .u8))],nb:=3 })] (fun j x=>Z2c.l0 j x.1 x.2) k
def Z2c.l0.ok (k:Nat):=(lA (Z2c.cok k):Zn Yb _ (.loop (cO (cO (cL (cR (cR (cR (cB Tryz.f105)))))))) (Z2c.l0.s k))
theorem Z2c.ok (k:Nat):Zd Yb 105 (Z2c.con k):=fP (.two .auto (.two .auto (.two .auto (.two (.one (.sum (Z2c.l0.s k))) .auto)))) (Z2c.cok k) Tryz.func105 (sC (Z2c.l0.ok k) sN)
def Zzl (k:Nat) (a1:Str):Option (Str):=bif decide (8000<((a1.length):Int)) then some ([]) else Ya (Z2c k ((a1.length):Int)) fun v2=>Ya (Zae v2 a1) fun v3=>some v3
def Zzl.con (k:Nat):Con:=Sig.con { ps:=[.val false .str (ros .str)],rs:=[.val false [.v .str]],ntmps:=11 } (fun x=>Zzl k x)
theorem Zzl.ok (k:Nat):Zd Yb 107 (Zzl.con k):=fA (cX (cC (Z2c.ok k) cN)) Tryz.func107
def Z0l (a1:Int):Option (Str):=Ya (Zkb 8) fun v2=>Ya (Zkb 16) fun v3=>Ya (Zkb 24) fun v4=>some (Zhb [(Yc .u8 a1),(Yc .u8 (shr .i64 a1 8)),(Yc .u8 (shr .i64 a1 16)),(Yc .u8 (shr .i64 a1 24))])
def Z0l.con (k:Nat):Con:=Sig.con { ps:=[.val false (.int .i64) (ros (.int .i64))],rs:=[.val false [.v .str]],ntmps:=16 } (fun x=>Z0l x)
theorem Z0l.ok (k:Nat):Zd Yb 259 (Z0l.con k):=fA (cX cN) Tryz.func259
def Z1b.l0:Nat→Int→Int→Option (Int)
 | 0,_,_=>none
 | j+1,a1,a2=>bif decide (a2<8) then let e3:=Yc .i64 (a2+1);bif (intBits .and .u32 a1 1)==1 then Ya (Zkb 1) fun v4=>Z1b.l0 j (intBits .xor .u32 (shr .u32 a1 1) 3988292384) e3 else Ya (Zkb 1) fun v5=>Z1b.l0 j (shr .u32 a1 1) e3 else some a1
def Z1b.l1 (k:Nat):Nat→Str→Int→Int→Option (Int)
 | 0,_,_,_=>none
 | j+1,a1,a2,a3=>bif decide (a3<((a1.length):Int)) then Ya (at? a1 a3) fun v4=>Ya (Z1b.l0 k (intBits .xor .u32 a2 (Yc .u32 (v4.toNat:Int))) 0) fun y5=>Z1b.l1 k j a1 y5 (Yc .i64 (a3+1)) else some a2
def Z1b (k:Nat) (a1:Int) (a2:Str):Option (Int):=Ya (Z1b.l1 k k a2 (intBits .xor .u32 (Yc .u32 a1) 4294967295) 0) fun y3=>some (Yc .i64 (intBits .xor .u32 y3 4294967295))
def Z1b.con (k:Nat):Con:=Sig.con { ps:=[.val false (.int .i64) (ros (.int .i64)),.val false .str (ros .str)],rs:=[.val false [.v (.int .i64)]],ntmps:=38 } (fun x=>Z1b k x.1 x.2)
def Z1b.cok (k:Nat):=cX cN
def Z1b.l0.s (k:Nat):Summ:=lp 38 { tmps:=[(5,.one (.v (.int .u32))),(7,.one (.v (.int .i64)))],slots:=[],nb:=0 } [(.exit 2,{ tmps:=[(5,.one (.v (.int .u32)))],slots:=[],nb:=0 })] (fun j x=>Z1b.l0 j x.1 x.2) k
def Z1b.l0.ok (k:Nat):=(lA (Z1b.cok k):Zn Yb _ (.loop (cO (cO (cR (cR (cO (cL (cR (cO (cO (cR (cL (cR (cR (cB Yx))))))))))))))) (Z1b.l0.s k))
def Z1b.l1.s (k:Nat):Summ:=lp 38 { tmps:=[(1,.one (.v .str)),(5,.one (.v (.int .u32))),(6,.one (.v (.int .i64)))],slots:=[],nb:=0 } [(.exit 0,{ tmps:=[(5,.one (.v (.int .u32)))],slots:=[],nb:=0 })] (fun j x=>Z1b.l1 k j x.1 x.2.1 x.2.2) k
def Z1b.l1.ok (k:Nat):=(lP (.two .auto (.two (.one (.two .auto (.two .auto (.one (.sum (Z1b.l0.s k)))))) .auto)) (Z1b.cok k) (sC (Z1b.l0.ok k) sN):Zn Yb _ (.loop (cO (cO (cR (cL (cR (cR (cB Yx)))))))) (Z1b.l1.s k))
theorem Z1b.ok (k:Nat):Zd Yb 260 (Z1b.con k):=fP (.two .auto (.two .auto (.two (.two .auto (.one (.sum (Z1b.l1.s k)))) .auto))) (Z1b.cok k) Tryz.func260 (sC (Z1b.l1.ok k) sN)
def Z7o (k:Nat) (a1:Str):Option (Str):=bif decide (7996<((a1.length):Int)) then some ([]) else Ya (Z1b k 0 a1) fun v2=>Ya (Z0l v2) fun v3=>Ya (Zae a1 v3) fun v4=>some v4
def Z7o.con (k:Nat):Con:=Sig.con { ps:=[.val false .str (ros .str)],rs:=[.val false [.v .str]],ntmps:=11 } (fun x=>Z7o k x)
theorem Z7o.ok (k:Nat):Zd Yb 192 (Z7o.con k):=fA (cX (cC (Z0l.ok k) (cC (Z1b.ok k) cN))) Tryz.func192
def Zgj (k:Nat) (a1:Int) (a2:Str):Option (Str):=Ya (Zhd a1 1 1000000) fun v3=>bif (!v3)||(decide (80<((a2.length):Int))) then some ([]) else Ya (Z2c k a1) fun v4=>Ya (Zzl k a2) fun v5=>Ya (Zae v4 v5) fun v6=>Ya (Z7o k v6) fun v7=>some v7
def Zgj.con (k:Nat):Con:=Sig.con { ps:=[.val false (.int .i64) (ros (.int .i64)),.val false .str (ros .str)],rs:=[.val false [.v .str]],ntmps:=19 } (fun x=>Zgj k x.1 x.2)
theorem Zgj.ok (k:Nat):Zd Yb 104 (Zgj.con k):=fA (cX (cC (Zhd.ok k) (cC (Z2c.ok k) (cC (Zzl.ok k) (cC (Z7o.ok k) cN))))) Tryz.func104
def Z8o (k:Nat) (a1:Str):Option (Str×Int×Int):=bif decide (8000<((a1.length):Int)) then some ([],0,2) else bif decide (((a1.length):Int)<4) then some ([],0,4) else let e2:=Yc .i64 (((a1.length):Int)-4);Ya (Z3b a1 0 e2) fun v3=>Ya (Z1b k 0 v3) fun v4=>Ya (Z0l v4) fun v5=>Ya (Z3b a1 e2 ((a1.length):Int)) fun v6=>bif !(v5==v6) then some ([],0,5) else some (v3,0,0)
def Z8o.con (k:Nat):Con:=Sig.con { ps:=[.val false .str (ros .str)],rs:=[.val true [.v .str,.v (.int .i64),.v (.int .i64)]],ntmps:=29 } (fun x=>Z8o k x)
theorem Z8o.ok (k:Nat):Zd Yb 256 (Z8o.con k):=fA (cX (cC (Z0l.ok k) (cC (Z1b.ok k) cN))) Tryz.func256
def Z2d.l0:Nat→Str→Int→Int→Int→Int→Int→Int→Option ((Int×Int×Int) ⊕ (Int×Int×Int))
 | 0,_,_,_,_,_,_,_=>none
 | j+1,a1,a2,a3,a4,a5,a6,a7=>bif decide (a4<10) then bif decide ((Yc .i64 (((a1.length):Int)-a4))≤a2) then some (.inr (0,0,4)) else let e8:=Yc .i64 (a2+a4);Ya (at? a1 e8) fun v9=>bif (a4==9)&&(decide (1<(Yc .u64 (v9.toNat:Int)))) then some (.inr (0,0,3)) else Ya (nz? 128) fun v10=>let e11:=Yc .u64 (Yc .i64 (7*a4));Ya (Zkb e11) fun v12=>let e13:=Yc .u64 (a3+(shl .u64 (Yf (Yc .u64 (v9.toNat:Int)) 128) e11));bif decide ((Yc .u64 (v9.toNat:Int))<128) then bif ((Yc .u64 (v9.toNat:Int))==0)&&(decide (0<a4)) then some (.inr (0,0,3)) else Ya (nz? 2) fun v14=>Ya (nz? 2) fun v15=>let e16:=Yc .i64 (e8+1);let e17:=Yc .i64 (Yc .u64 (Yk e13 2));bif (Yf e13 2)==1 then some (.inr (Yc .i64 ((Yc .i64 (0-e17))-1),e16,0)) else some (.inr (e17,e16,0)) else Z2d.l0 j a1 a2 e13 (Yc .i64 (a4+1)) a5 a6 a7 else some (.inl (a5,a6,a7))
def Z2d (k:Nat) (a1:Str) (a2:Int):Option (Int×Int×Int):=bif decide (8000<((a1.length):Int)) then some (0,0,2) else bif decide (a2<0) then some (0,0,1) else Ya (Z2d.l0 k a1 a2 0 0 0 0 0) fun
  | .inl y3=>some (0,0,3)
  | .inr y4=>some (y4.1,y4.2.1,y4.2.2)
def Z2d.con (k:Nat):Con:=Sig.con { ps:=[.val false .str (ros .str),.val false (.int .i64) (ros (.int .i64))],rs:=[.val true [.v (.int .i64),.v (.int .i64),.v (.int .i64)]],ntmps:=73 } (fun x=>Z2d k x.1 x.2)
def Z2d.cok (k:Nat):=cX cN
def Z2d.l0.s (k:Nat):Summ:=lp 73 { tmps:=[(0,.one (.v .str)),(1,.one (.v (.int .i64))),(4,.one (.ptr 0 0)),(5,.one (.v (.int .u64))),(6,.one (.v (.int .i64)))],slots:=[(0,.box 272 [.v (.int .i64),.v (.int .i64),.v (.int .i64)])],nb:=1 } [(.exit 0,{ tmps:=[],slots:=[(0,.box 272 [.v (.int .i64),.v (.int .i64),.v (.int .i64)])],nb:=1 }),(.ret,{ tmps:=[],slots:=[(0,.box 272 [.v (.int .i64),.v (.int .i64),.v (.int .i64)])],nb:=1 })] (fun j x=>Z2d.l0 j x.1 x.2.1 x.2.2.1 x.2.2.2.1 x.2.2.2.2.1 x.2.2.2.2.2.1 x.2.2.2.2.2.2) k
def Z2d.l0.ok (k:Nat):=(lA (Z2d.cok k):Zn Yb _ (.loop (cO (cO (cR (cL (cR (cR (cR (cR (cB Tryz.f257)))))))))) (Z2d.l0.s k))
theorem Z2d.ok (k:Nat):Zd Yb 257 (Z2d.con k):=fP (.two .auto (.two .auto (.two .auto (.two .auto (.two (.two .auto (.one (.sum (Z2d.l0.s k)))) .auto))))) (Z2d.cok k) Tryz.func257 (sC (Z2d.l0.ok k) sN)
def Z4m (k:Nat) (a1:Str) (a2:Int):Option (Str×Int×Int):=Ya (Z2d k a1 a2) fun v3=>bif v3.2.2 != 0 then some ([],0,v3.2.2) else bif (decide (v3.1<0))||(decide (8000<v3.1)) then some ([],0,3) else bif decide ((Yc .i64 (((a1.length):Int)-v3.1))<v3.2.1) then some ([],0,4) else let e4:=Yc .i64 (v3.2.1+v3.1);Ya (Z3b a1 v3.2.1 e4) fun v5=>some (v5,e4,0)
def Z4m.con (k:Nat):Con:=Sig.con { ps:=[.val false .str (ros .str),.val false (.int .i64) (ros (.int .i64))],rs:=[.val true [.v .str,.v (.int .i64),.v (.int .i64)]],ntmps:=48 } (fun x=>Z4m k x.1 x.2)
theorem Z4m.ok (k:Nat):Zd Yb 258 (Z4m.con k):=fA (cX (cC (Z2d.ok k) cN)) Tryz.func258
def Zzj (k:Nat) (a1:Str):Option (Int×Str×Int):=Ya (Z8o k a1) fun v2=>bif v2.2.2 != 0 then some (0,[],v2.2.2) else Ya (Z2d k v2.1 0) fun v3=>Ya (Z4m k v2.1 v3.2.1) fun v4=>bif (v3.2.2 != 0)||(v4.2.2 != 0) then some (0,[],3) else Ya (Zgj k v3.1 v4.1) fun v5=>bif !(v5==a1) then some (0,[],3) else some (v3.1,v4.1,0)
def Zzj.con (k:Nat):Con:=Sig.con { ps:=[.val false .str (ros .str)],rs:=[.val true [.v (.int .i64),.v .str,.v (.int .i64)]],ntmps:=45 } (fun x=>Zzj k x)
theorem Zzj.ok (k:Nat):Zd Yb 190 (Zzj.con k):=fA (cX (cC (Zgj.ok k) (cC (Z8o.ok k) (cC (Z2d.ok k) (cC (Z4m.ok k) cN))))) Tryz.func190
def Z3c.l0:Nat→Int→List Str→List Z2→Int→Option (Unit ⊕ Str)
 | 0,_,_,_,_=>none
 | j+1,a1,a2,a3,a4=>bif decide (a4<((a3.length):Int)) then Ya (at? a3 a4) fun v5=>bif v5.1==a1 then Ya (at? a3 a4) fun v6=>some (.inr (v6.2)) else Z3c.l0 j a1 a2 a3 (Yc .i64 (a4+1)) else some (.inl ())
def Z3c (k:Nat) (a1:G26) (a2:Int):Option (Str):=Ya (Z3c.l0 k a2 a1.1 a1.2 0) fun
  | .inl y3=>Ya (at? a1.1 a2) fun v4=>some v4
  | .inr y5=>some y5
def Z3c.con (k:Nat):Con:=Sig.con { ps:=[.val true T26 (ros T26),.val false (.int .i64) (ros (.int .i64))],rs:=[.val false [.v .str]],ntmps:=32 } (fun x=>Z3c k x.1 x.2)
def Z3c.cok (k:Nat):=cXr true false cN
def Z3c.l0.s (k:Nat):Summ:=lp 32 { tmps:=[(1,.one (.v (.int .i64))),(2,.eptr [.bor .str,.bor Zz]),(5,.one (.v (.int .i64)))],slots:=[],nb:=0 } [(.exit 0,{ tmps:=[],slots:=[],nb:=0 }),(.ret,{ tmps:=[(4,.one (.v .str))],slots:=[],nb:=0 })] (fun j x=>Z3c.l0 j x.1 x.2.1 x.2.2.1 x.2.2.2) k
def Z3c.l0.ok (k:Nat):=(lA (Z3c.cok k):Zn Yb _ (.loop (cO (cO (cR (cL (cR (cB Tryz.f191))))))) (Z3c.l0.s k))
theorem Z3c.ok (k:Nat):Zd Yb 191 (Z3c.con k):=fP (.two .auto (.two (.two .auto (.one (.sum (Z3c.l0.s k)))) .auto)) (Z3c.cok k) Tryz.func191 (sC (Z3c.l0.ok k) sN)
def Zdp (k:Nat) (a1:G26):Option (Int×Str×Int×Int):=Ya (Z3c k a1 0) fun v2=>Ya (Zzj k v2) fun v3=>Ya (Z3c k a1 1) fun v4=>Ya (Zzj k v4) fun v5=>bif (v3.2.2==0)&&((v5.2.2 != 0)||(decide (v5.1≤v3.1))) then some (v3.1,v3.2.1,v3.2.2,0) else bif v5.2.2==0 then some (v5.1,v5.2.1,v5.2.2,1) else some (0,[],6,(-1))
def Zdp.con (k:Nat):Con:=Sig.con { ps:=[.val true T26 (ros T26)],rs:=[.val true [.v (.int .i64),.v .str,.v (.int .i64)],.val false [.v (.int .i64)]],ntmps:=35 } (fun x=>Zdp k x)
theorem Zdp.ok (k:Nat):Zd Yb 103 (Zdp.con k):=fA (cXr true false (cC (Zzj.ok k) (cC (Z3c.ok k) cN))) Tryz.func103
def Zcp (k:Nat) (a1:G26) (a2:Str):Option (List Zkg):=Ya (Zdp k a1) fun v3=>bif decide (1000000≤v3.1) then some ([]) else let e4:=(true,(0,[]));bif v3.2.2.2 != 0 then Ya (Zgj k (Yc .i64 (v3.1+1)) a2) fun v5=>some ([(false,(0,v5)),e4]) else Ya (Zgj k (Yc .i64 (v3.1+1)) a2) fun v6=>some ([(false,(1,v6)),e4])
def Zcp.con (k:Nat):Con:=Sig.con { ps:=[.val true T26 (ros T26),.val false .str (ros .str)],rs:=[.val false [.own 151 Zke]],ntmps:=28 } (fun x=>Zcp k x.1 x.2)
theorem Zcp.ok (k:Nat):Zd Yb 54 (Zcp.con k):=fA (cXr true false (cC (Zdp.ok k) (cC (Zgj.ok k) cN))) Tryz.func54
def Z1e.l0:Nat→List Int→Int→Option (Unit ⊕ Bool)
 | 0,_,_=>none
 | j+1,a1,a2=>bif decide (a2<((a1.length):Int)) then Ya (at? a1 a2) fun v3=>Ya (Zhd v3 0 23) fun v4=>bif !v4 then some (.inr false) else let e5:=Yc .i64 (a2+1);bif decide (0<a2) then Ya (at? a1 (Yc .i64 (a2-1))) fun v6=>Ya (at? a1 a2) fun v7=>bif decide (v7≤v6) then some (.inr false) else Z1e.l0 j a1 e5 else Z1e.l0 j a1 e5 else some (.inl ())
def Z1e (k:Nat) (a1:List Int):Option (Bool):=bif decide (24<((a1.length):Int)) then some false else Ya (Z1e.l0 k a1 0) fun
  | .inl y2=>some true
  | .inr y3=>some y3
def Z1e.con (k:Nat):Con:=Sig.con { ps:=[.val false (.sl (.int .i64)) (ros (.sl (.int .i64)))],rs:=[.val false [.v .bool]],ntmps:=35 } (fun x=>Z1e k x)
def Z1e.cok (k:Nat):=cX (cC (Zhd.ok k) cN)
def Z1e.l0.s (k:Nat):Summ:=lp 35 { tmps:=[(0,.one (.bor (.int .i64))),(3,.one (.v (.int .i64)))],slots:=[],nb:=0 } [(.exit 0,{ tmps:=[],slots:=[],nb:=0 }),(.ret,{ tmps:=[(2,.one (.v .bool))],slots:=[],nb:=0 })] (fun j x=>Z1e.l0 j x.1 x.2) k
def Z1e.l0.ok (k:Nat):=(lA (Z1e.cok k):Zn Yb _ (.loop (cO (cO (cR (cL (cR (cR (cB Tryz.f194)))))))) (Z1e.l0.s k))
theorem Z1e.ok (k:Nat):Zd Yb 194 (Z1e.con k):=fP (.two .auto (.two .auto (.two (.two .auto (.one (.sum (Z1e.l0.s k)))) .auto))) (Z1e.cok k) Tryz.func194 (sC (Z1e.l0.ok k) sN)
def Z0e.l0:Nat→List Int→Int→Int→Option (Int)
 | 0,_,_,_=>none
 | j+1,a1,a2,a3=>bif decide (a3<((a1.length):Int)) then Ya (at? a1 a3) fun v4=>Ya (Zkb v4) fun v5=>Z0e.l0 j a1 (Yc .i64 (a2+(shl .i64 1 v4))) (Yc .i64 (a3+1)) else some a2
def Z0e (k:Nat) (a1:List Int):Option (Int):=Ya (Z1e k a1) fun v2=>bif !v2 then some (-1) else Ya (Z0e.l0 k a1 0 0) fun y3=>some y3
def Z0e.con (k:Nat):Con:=Sig.con { ps:=[.val false (.sl (.int .i64)) (ros (.sl (.int .i64)))],rs:=[.val false [.v (.int .i64)]],ntmps:=22 } (fun x=>Z0e k x)
def Z0e.cok (k:Nat):=cX (cC (Z1e.ok k) cN)
def Z0e.l0.s (k:Nat):Summ:=lp 22 { tmps:=[(0,.one (.bor (.int .i64))),(3,.one (.v (.int .i64))),(4,.one (.v (.int .i64)))],slots:=[],nb:=0 } [(.exit 0,{ tmps:=[(3,.one (.v (.int .i64)))],slots:=[],nb:=0 })] (fun j x=>Z0e.l0 j x.1 x.2.1 x.2.2) k
def Z0e.l0.ok (k:Nat):=(lA (Z0e.cok k):Zn Yb _ (.loop (cO (cO (cR (cL (cR (cR (cR (cB Tryz.f106))))))))) (Z0e.l0.s k))
theorem Z0e.ok (k:Nat):Zd Yb 106 (Z0e.con k):=fP (.two .auto (.two .auto (.two .auto (.two (.two .auto (.one (.sum (Z0e.l0.s k)))) .auto)))) (Z0e.cok k) Tryz.func106 (sC (Z0e.l0.ok k) sN)
def Zep (k:Nat) (a1:G46):Option (Str):=Ya (Z2c k a1.1) fun v2=>Ya (Z2c k a1.2.1) fun v3=>Ya (Zae v2 v3) fun v4=>Ya (Z2c k a1.2.2.1) fun v5=>Ya (Zae v4 v5) fun v6=>Ya (Z2c k a1.2.2.2.1) fun v7=>Ya (Zae v6 v7) fun v8=>Ya (Z2c k a1.2.2.2.2.1) fun v9=>Ya (Zae v8 v9) fun v10=>Ya (Z0e k a1.2.2.2.2.2.2.1) fun v11=>Ya (Z2c k v11) fun v12=>Ya (Zae v10 v12) fun v13=>Ya (Z0e k a1.2.2.2.2.2.2.2) fun v14=>Ya (Z2c k v14) fun v15=>Ya (Zae v13 v15) fun v16=>Ya (Zzl k a1.2.2.2.2.2.1) fun v17=>Ya (Zae v16 v17) fun v18=>some v18
def Zep.con (k:Nat):Con:=Sig.con { ps:=[.val true T46 (ros T46)],rs:=[.val false [.v .str]],ntmps:=36 } (fun x=>Zep k x)
theorem Zep.ok (k:Nat):Zd Yb 55 (Zep.con k):=fA (cXr true false (cC (Z2c.ok k) (cC (Z0e.ok k) (cC (Zzl.ok k) cN)))) Tryz.func55
def Z2e.l0:Nat→List Str→Int→List Str→List Z2→Option ((List Str×List Z2))
 | 0,_,_,_,_=>none
 | j+1,a1,a2,a3,a4=>bif decide (a2<((a1.length):Int)) then Ya (at? a1 a2) fun v5=>let e6:=Yc .i64 (3+a2);let e7:=at? a3 e6;Ya (e7) fun v8=>Ya (e7) fun v9=>Z2e.l0 j a1 (Yc .i64 (a2+1)) (Ye a3 (Yd e6) v5) a4 else some (a3,a4)
def Z2e (k:Nat) (a1:List Str):Option (Int×List Str×List Z2×Int):=bif decide (400<((a1.length):Int)) then some (0,[],[],2) else Ya (Z6b k a1) fun v2=>bif !v2 then some (0,[],[],1) else Ya (Z3o (Yc .i64 ((Yc .i64 (3+((a1.length):Int)))+24))) fun v3=>Ya (Z2e.l0 k a1 0 v3.1 v3.2) fun y4=>Ya (Zep k (1,(0,(0,(0,(0,([],([],[])))))))) fun v5=>Ya (Zcp k y4 v5) fun v6=>Ya (Z5e k y4 v6) fun v7=>some (((a1.length):Int),v7.1,v7.2.1,0)
def Z2e.con (k:Nat):Con:=Sig.con { ps:=[.val false (.sl .str) (ros (.sl .str))],rs:=[.val true [.v (.int .i64),.own 9 .str,.own 195 Zz,.v (.int .i64)]],ntmps:=45 } (fun x=>Z2e k x)
def Z2e.cok (k:Nat):=cX (cC (Z6b.ok k) (cC (Z3o.ok k) (cC (Z5e.ok k) (cC (Zcp.ok k) (cC (Zep.ok k) cN)))))
def Z2e.l0.s (k:Nat):Summ:=lp 45 { tmps:=[(0,.one (.bor .str)),(3,.one (.ptr 3 0)),(4,.one (.v (.int .i64)))],slots:=[(3,.box 26 [.own 4,.own 5]),(4,.arr false 9 .str),(5,.arr false 195 Zz)],nb:=6 } [(.exit 0,{ tmps:=[],slots:=[(3,.box 26 [.own 6,.own 7]),(6,.arr false 9 .str),(7,.arr false 195 Zz)],nb:=8 })] (fun j x=>Z2e.l0 j x.1 x.2.1 x.2.2.1 x.2.2.2) k
def Z2e.l0.ok (k:Nat):=(lA (Z2e.cok k):Zn Yb _ (.loop (cO (cO (cR (cL (cR (cR (cR (cR (cB Tryz.f10)))))))))) (Z2e.l0.s k))
theorem Z2e.ok (k:Nat):Zd Yb 10 (Z2e.con k):=fP (.two .auto (.two .auto (.two .auto (.two .auto (.two (.two .auto (.one (.sum (Z2e.l0.s k)))) .auto))))) (Z2e.cok k) Tryz.func10 (sC (Z2e.l0.ok k) sN)
def Zge.l0:Nat→List Str→List Str→Int→Option (Unit ⊕ Bool)
 | 0,_,_,_=>none
 | j+1,a1,a2,a3=>bif decide (a3<((a1.length):Int)) then Ya (at? a1 a3) fun v4=>Ya (at? a2 a3) fun v5=>bif !(v4==v5) then some (.inr false) else Zge.l0 j a1 a2 (Yc .i64 (a3+1)) else some (.inl ())
def Zge (k:Nat) (a1:List Str) (a2:List Str):Option (Bool):=bif ((a1.length):Int) != ((a2.length):Int) then some false else Ya (Zge.l0 k a1 a2 0) fun
  | .inl y3=>some true
  | .inr y4=>some y4
def Zge.con (k:Nat):Con:=Sig.con { ps:=[.val false (.sl .str) (ros (.sl .str)),.val false (.sl .str) (ros (.sl .str))],rs:=[.val false [.v .bool]],ntmps:=26 } (fun x=>Zge k x.1 x.2)
def Zge.cok (k:Nat):=cX cN
def Zge.l0.s (k:Nat):Summ:=lp 26 { tmps:=[(0,.one (.bor .str)),(1,.one (.bor .str)),(5,.one (.v (.int .i64)))],slots:=[],nb:=0 } [(.exit 0,{ tmps:=[],slots:=[],nb:=0 }),(.ret,{ tmps:=[(4,.one (.v .bool))],slots:=[],nb:=0 })] (fun j x=>Zge.l0 j x.1 x.2.1 x.2.2) k
def Zge.l0.ok (k:Nat):=(lA (Zge.cok k):Zn Yb _ (.loop (cO (cO (cR (cL (cR (cR (cB Tryz.f11)))))))) (Zge.l0.s k))
theorem Zge.ok (k:Nat):Zd Yb 11 (Zge.con k):=fP (.two .auto (.two .auto (.two (.two .auto (.one (.sum (Zge.l0.s k)))) .auto))) (Zge.cok k) Tryz.func11 (sC (Zge.l0.ok k) sN)
def Zel (k:Nat) (a1:G28):Option (List Str×Int):=Ya (Z0h k a1) fun v2=>bif !v2 then some ([],1) else Ya (Zqd k a1) fun v3=>some (v3,0)
def Zel.con (k:Nat):Con:=Sig.con { ps:=[.val true T28 (ros T28)],rs:=[.val true [.own 9 .str,.v (.int .i64)]],ntmps:=10 } (fun x=>Zel k x)
theorem Zel.ok (k:Nat):Zd Yb 12 (Zel.con k):=fA (cXr true false (cC (Z0h.ok k) (cC (Zqd.ok k) cN))) Tryz.func12
def Zxn (k:Nat) (a1:G28):Option (List Str×Int):=Ya (Z0h k a1) fun v2=>bif !v2 then some ([],1) else Ya (Zdd k a1) fun v3=>some (v3,0)
def Zxn.con (k:Nat):Con:=Sig.con { ps:=[.val true T28 (ros T28)],rs:=[.val true [.own 9 .str,.v (.int .i64)]],ntmps:=10 } (fun x=>Zxn k x)
theorem Zxn.ok (k:Nat):Zd Yb 13 (Zxn.con k):=fA (cXr true false (cC (Z0h.ok k) (cC (Zdd.ok k) cN))) Tryz.func13
def Zdl (k:Nat) (a1:G28):Option (Int×Int×Int×Int×Int×Str×List Int×List Int×Int):=Ya (Zsf k a1) fun v2=>bif !v2.2.2.2.2.2.2.2.2 then some (0,0,0,0,0,[],[],[],1) else some (v2.1,v2.2.1,v2.2.2.1,v2.2.2.2.1,v2.2.2.2.2.1,v2.2.2.2.2.2.1,v2.2.2.2.2.2.2.1,v2.2.2.2.2.2.2.2.1,0)
def Zdl.con (k:Nat):Con:=Sig.con { ps:=[.val true T28 (ros T28)],rs:=[.val true [.v (.int .i64),.v (.int .i64),.v (.int .i64),.v (.int .i64),.v (.int .i64),.v .str,.own 2 (.int .i64),.own 2 (.int .i64),.v (.int .i64)]],ntmps:=15 } (fun x=>Zdl k x)
theorem Zdl.ok (k:Nat):Zd Yb 14 (Zdl.con k):=fA (cXr true false (cC (Zsf.ok k) cN)) Tryz.func14
def Z8p (a1:List Zkg):Option (Int):=some ((a1.length):Int)
def Z8p.con (k:Nat):Con:=Sig.con { ps:=[.val false (.sl Zke) (ros (.sl Zke))],rs:=[.val false [.v (.int .i64)]],ntmps:=5 } (fun x=>Z8p x)
theorem Z8p.ok (k:Nat):Zd Yb 126 (Z8p.con k):=fA (cX cN) Tryz.func126
def Zum (a1:Str) (a2:Str) (a3:Int):Option (Str):=bif decide (a3<1) then some a1 else bif a3==1 then some a2 else Ya (Z3b a2 0 (Zei (Yc .i64 (a3-2)) ((a2.length):Int))) fun v4=>some v4
def Zum.con (k:Nat):Con:=Sig.con { ps:=[.val false .str (ros .str),.val false .str (ros .str),.val false (.int .i64) (ros (.int .i64))],rs:=[.val false [.v .str]],ntmps:=22 } (fun x=>Zum x.1 x.2.1 x.2.2)
theorem Zum.ok (k:Nat):Zd Yb 218 (Zum.con k):=fA (cX cN) Tryz.func218
def Zce.l0:Nat→List Int→Int→Int→List Z2→List Str→Option ((List Str×List Z2))
 | 0,_,_,_,_,_=>none
 | j+1,a1,a2,a3,a4,a5=>bif decide (a3<a2) then Ya (at? a4 a3) fun v6=>Ya (at? a4 a3) fun v7=>let e8:=Yc .i64 (a3+1);let e9:=at? a5 v7.1;bif decide (a3<((a1.length):Int)) then Ya (at? a1 a3) fun v10=>Ya (e9) fun v11=>Ya (e9) fun v12=>Ya (Zum v12 v7.2 v10) fun v13=>Ya (e9) fun v14=>Ya (e9) fun v15=>Zce.l0 j a1 a2 e8 a4 (Ye a5 (Yd v7.1) v13) else Ya (e9) fun v16=>Ya (e9) fun v17=>Ya (Zum v17 v7.2 0) fun v18=>Ya (e9) fun v19=>Ya (e9) fun v20=>Zce.l0 j a1 a2 e8 a4 (Ye a5 (Yd v7.1) v18) else some (a5,a4)
def Zce (k:Nat) (a1:G26) (a2:List Int):Option (List Str×List Z2):=Ya (Zce.l0 k a2 ((a1.2.length):Int) 0 a1.2 a1.1) fun y3=>some (y3.1,[])
def Zce.con (k:Nat):Con:=Sig.con { ps:=[.ref 26 T26 [.own 9,.own 195],.val false (.sl (.int .i64)) (ros (.sl (.int .i64)))],rs:=[],ntmps:=48 } (fun x=>Zce k x.1 x.2)
def Zce.cok (k:Nat):=cX (cC (Zum.ok k) cN)
def Zce.l0.s (k:Nat):Summ:=lp 48 { tmps:=[(0,.one (.ptr 0 0)),(1,.one (.bor (.int .i64))),(10,.one (.own 3)),(11,.one (.v (.int .i64))),(12,.one (.v (.int .i64)))],slots:=[(0,.box 26 [.own 4,.own 3]),(3,.arr false 195 Zz),(4,.arr false 9 .str)],nb:=5 } [(.exit 0,{ tmps:=[],slots:=[(0,.box 26 [.own 5,.own 6]),(5,.arr false 9 .str),(6,.arr false 195 Zz)],nb:=7 })] (fun j x=>Zce.l0 j x.1 x.2.1 x.2.2.1 x.2.2.2.1 x.2.2.2.2) k
def Zce.l0.ok (k:Nat):=(lA (Zce.cok k):Zn Yb _ (.loop (cO (cO (cR (cL (cB Tryz.f127)))))) (Zce.l0.s k))
theorem Zce.ok (k:Nat):Zd Yb 127 (Zce.con k):=fP (.two (.two .auto (.one (.sum (Zce.l0.s k)))) .auto) (Zce.cok k) Tryz.func127 (sC (Zce.l0.ok k) sN)
def Z0n (k:Nat) (a1:G28) (a2:List Zkg) (a3:Int) (a4:List Int):Option (Int×List Str×List Z2):=Ya (Z8p a2) fun v5=>Ya (Z3b a2 0 (Zei a3 v5)) fun v6=>Ya (Z7c k a1.2 v6) fun v7=>Ya (Zce k v7 a4) fun v8=>some (a1.1,v8.1,v8.2)
def Z0n.con (k:Nat):Con:=Sig.con { ps:=[.val true T28 (ros T28),.val false (.sl Zke) (ros (.sl Zke)),.val false (.int .i64) (ros (.int .i64)),.val false (.sl (.int .i64)) (ros (.sl (.int .i64)))],rs:=[.val true [.v (.int .i64),.own 9 .str,.own 195 Zz]],ntmps:=25 } (fun x=>Z0n k x.1 x.2.1 x.2.2.1 x.2.2.2)
theorem Z0n.ok (k:Nat):Zd Yb 61 (Z0n.con k):=fA (cXr true false (cC (Z7c.ok k) (cC (Z8p.ok k) (cC (Zce.ok k) cN)))) Tryz.func61
def Zrm (k:Nat) (a1:G28) (a2:G54) (a3:Int) (a4:List Int):Option (Int×List Str×List Z2×Int):=bif decide (400<((a4.length):Int)) then some (0,[],[],2) else Ya (Z0h k a1) fun v5=>bif !v5 then some (0,[],[],1) else Ya (Zgl a2) fun v6=>bif (!v6)||(decide (a3<0)) then some (0,[],[],1) else Ya (Zmc k a1 a2) fun v7=>Ya (Z0n k a1 v7.1 a3 a4) fun v8=>some (v8.1,v8.2.1,v8.2.2,0)
def Zrm.con (k:Nat):Con:=Sig.con { ps:=[.val true T28 (ros T28),.val true T54 (ros T54),.val false (.int .i64) (ros (.int .i64)),.val false (.sl (.int .i64)) (ros (.sl (.int .i64)))],rs:=[.val true [.v (.int .i64),.own 9 .str,.own 195 Zz,.v (.int .i64)]],ntmps:=37 } (fun x=>Zrm k x.1 x.2.1 x.2.2.1 x.2.2.2)
theorem Zrm.ok (k:Nat):Zd Yb 15 (Zrm.con k):=fA (cXr true false (cC (Z0h.ok k) (cC (Zgl.ok k) (cC (Z0n.ok k) (cC (Zmc.ok k) cN))))) Tryz.func15
def Zvm (a1:List Int) (a2:Int) (a3:Int):Option (Int):=bif (decide (a3≤1))||(((a1.length):Int)==0) then some 0 else Ya (nz? ((a1.length):Int)) fun v4=>Ya (at? a1 (Yf a2 ((a1.length):Int))) fun v5=>Ya (nz? a3) fun v6=>some (Yf (Yc .i64 v5) a3)
def Zvm.con (k:Nat):Con:=Sig.con { ps:=[.val false (.sl (.int .u8)) (ros (.sl (.int .u8))),.val false (.int .i64) (ros (.int .i64)),.val false (.int .i64) (ros (.int .i64))],rs:=[.val false [.v (.int .i64)]],ntmps:=24 } (fun x=>Zvm x.1 x.2.1 x.2.2)
theorem Zvm.ok (k:Nat):Zd Yb 16 (Zvm.con k):=fA (cX cN) Tryz.func16
def Zqm (k:Nat) (a1:G28):Option (Int×List Str×List Z2×Int):=Ya (Zsf k a1) fun v2=>bif !v2.2.2.2.2.2.2.2.2 then some (0,[],[],1) else Ya (Z6c k a1 (v2.1,(v2.2.1,(v2.2.2.1,(v2.2.2.2.1,(v2.2.2.2.2.1,(v2.2.2.2.2.2.1,(v2.2.2.2.2.2.2.1,v2.2.2.2.2.2.2.2.1)))))))) fun v3=>Ya (Z7c k a1.2 v3) fun v4=>some (a1.1,v4.1,v4.2,0)
def Zqm.con (k:Nat):Con:=Sig.con { ps:=[.val true T28 (ros T28)],rs:=[.val true [.v (.int .i64),.own 9 .str,.own 195 Zz,.v (.int .i64)]],ntmps:=23 } (fun x=>Zqm k x)
theorem Zqm.ok (k:Nat):Zd Yb 17 (Zqm.con k):=fA (cXr true false (cC (Zsf.ok k) (cC (Z7c.ok k) (cC (Z6c.ok k) cN)))) Tryz.func17
def Zzn (k:Nat) (a1:List Int) (a2:List Int):Option (List Int):=Ya (Zld k a1) fun v3=>bif !v3 then some ([]) else Ya (Zld k a2) fun v4=>bif !v4 then some ([]) else Ya (Zfl k a1 a2) fun v5=>some v5
def Zzn.con (k:Nat):Con:=Sig.con { ps:=[.val false (.sl (.int .i64)) (ros (.sl (.int .i64))),.val false (.sl (.int .i64)) (ros (.sl (.int .i64)))],rs:=[.val false [.own 2 (.int .i64)]],ntmps:=16 } (fun x=>Zzn k x.1 x.2)
theorem Zzn.ok (k:Nat):Zd Yb 18 (Zzn.con k):=fA (cX (cC (Zld.ok k) (cC (Zfl.ok k) cN))) Tryz.func18
def Zac.l0 (k:Nat):Nat→List Int→Int→Int→List Str→List Str→List Z2→Option ((Int×List Str×List Z2) ⊕ (Bool×Int×List Str×List Z2))
 | 0,_,_,_,_,_,_=>none
 | j+1,a1,a2,a3,a4,a5,a6=>bif decide (a2<3) then let e7:=(a3,(a5,a6));Ya (Zdl k e7) fun v8=>let e9:=(8,(0,(0,([],(0,(0,(0,[])))))));let e10:=Yc .i64 (a2+1);bif v8.1==4 then Ya (Zel k e7) fun v11=>Ya (Zge k v11.1 a4) fun v12=>bif !v12 then some (.inr (false,a3,a5,a6)) else Ya (Zvm a1 a2 3) fun v13=>Ya (Zrm k e7 e9 v13 []) fun v14=>Ya (Zqm k (v14.1,(v14.2.1,v14.2.2.1))) fun v15=>bif (v14.2.2.2 != 0)||(v15.2.2.2 != 0) then some (.inr (false,a3,a5,a6)) else Zac.l0 k j a1 e10 v15.1 a4 v15.2.1 v15.2.2.1 else Ya (Zvm a1 a2 3) fun v16=>Ya (Zrm k e7 e9 v16 []) fun v17=>Ya (Zqm k (v17.1,(v17.2.1,v17.2.2.1))) fun v18=>bif (v17.2.2.2 != 0)||(v18.2.2.2 != 0) then some (.inr (false,a3,a5,a6)) else Zac.l0 k j a1 e10 v18.1 a4 v18.2.1 v18.2.2.1 else some (.inl (a3,a5,a6))
def Zac (k:Nat) (a1:List Int) (a2:List Int):Option (Bool):=bif (decide (1048576<((a1.length):Int)))||(decide (1048576<((a2.length):Int))) then some true else Ya (Ztd k a1) fun v3=>Ya (Z0j k v3.1 v3.2.1) fun v4=>bif v4.2.2.2 != 0 then Ya (Zdk k v3.1) fun v5=>Ya (Z2e k v3.1) fun v6=>some (v5.2.2.2==v6.2.2.2) else bif !v3.2.2.2.2.2 then some false else let e7:=(v3.2.2.1,(v3.2.2.2.1,v3.2.2.2.2.1));Ya (Zel k e7) fun v8=>Ya (Zge k v8.1 v3.2.1) fun v9=>bif !v9 then some false else Ya (Zxn k e7) fun v10=>Ya (Zge k v10.1 v3.1) fun v11=>bif !v11 then some false else Ya (Zdl k e7) fun v12=>bif v12.1 != 4 then some false else Ya (Zac.l0 k k a2 0 v3.2.2.1 v3.2.1 v3.2.2.2.1 v3.2.2.2.2.1) fun
  | .inl y13=>Ya (Zdl k y13) fun v14=>bif v14.1==1 then Ya (Zel k y13) fun v15=>Ya (Zge k v15.1 v3.1) fun v16=>bif v16 then Ya (Zzn k v14.2.2.2.2.2.2.1 v14.2.2.2.2.2.2.2.1) fun v17=>some (((v17.length):Int)==24) else some false else some false
  | .inr y18=>some y18.1
def Zac.sig:Sig:={ ps:=[.val false (.sl (.int .u8)) (ros (.sl (.int .u8))),.val false (.sl (.int .u8)) (ros (.sl (.int .u8)))],rs:=[.val false [.v .bool]],ntmps:=123 }
def Zac.con (k:Nat):Con:=Zac.sig.con (fun x=>Zac k x.1 x.2)
def Zac.cok (k:Nat):=cX (cC (Ztd.ok k) (cC (Z0j.ok k) (cC (Zdk.ok k) (cC (Z2e.ok k) (cC (Zge.ok k) (cC (Zel.ok k) (cC (Zxn.ok k) (cC (Zdl.ok k) (cC (Zrm.ok k) (cC (Zvm.ok k) (cC (Zqm.ok k) (cC (Zzn.ok k) cN))))))))))))
def Zac.l0.s (k:Nat):Summ:=lp 123 { tmps:=[(1,.one (.bor (.int .u8))),(6,.one (.own 10)),(7,.one (.ptr 4 0)),(9,.one (.v (.int .i64)))],slots:=[(4,.box 28 [.v (.int .i64),.own 11,.own 12]),(10,.arr false 9 .str),(11,.arr false 9 .str),(12,.arr false 195 Zz)],nb:=13 } [(.exit 0,{ tmps:=[],slots:=[(4,.box 28 [.v (.int .i64),.own 13,.own 14]),(13,.arr false 9 .str),(14,.arr false 195 Zz)],nb:=15 }),(.ret,{ tmps:=[(4,.one (.v .bool))],slots:=[(4,.box 28 [.v (.int .i64),.own 13,.own 14]),(13,.arr false 9 .str),(14,.arr false 195 Zz)],nb:=15 })] (fun j x=>Zac.l0 k j x.1 x.2.1 x.2.2.1 x.2.2.2.1 x.2.2.2.2.1 x.2.2.2.2.2) k
def Zac.l0.ok (k:Nat):=(lA (Zac.cok k):Zn Yb _ (.loop (cO (cO (cR (cL (cR (cR (cR (cR (cR (cB Tryz.f3))))))))))) (Zac.l0.s k))
theorem Zac.ok (k:Nat):Zd Yb 3 (Zac.con k):=fP (.two .auto (.two .auto (.two .auto (.two .auto (.two .auto (.two (.two .auto (.one (.sum (Zac.l0.s k)))) .auto)))))) (Zac.cok k) Tryz.func3 (sC (Zac.l0.ok k) sN)
end Go.Proofs.Qz
namespace Go.Proofs.Qz
open Go
set_option linter.unusedVariables false
def Zc (p:Nat→Prop):Prop:=∃K,∀k,K≤k→p k
theorem Zc.of {p:Nat→Prop} (h:∀k,p k):Zc p:=⟨0,fun k _=>h k⟩
theorem Zc.ge {p:Nat→Prop} (K:Nat) (h:∀k,K≤k→p k):Zc p:=⟨K,h⟩
theorem Zc.mono {p q:Nat→Prop} (h:Zc p) (f:∀k,p k→q k):Zc q:=by
 obtain ⟨K,h⟩:=h
 exact ⟨K,fun k hk=>f k (h k hk)⟩
theorem Zc.and {p q:Nat→Prop} (h:Zc p) (g:Zc q):Zc fun k=>p k∧q k:=by
 obtain ⟨K,h⟩:=h
 obtain ⟨J,g⟩:=g
 exact ⟨K+J,fun k hk=>⟨h k (by omega),g k (by omega)⟩⟩
theorem Zc.ex {p:Nat→Prop} (h:Zc p):∃k,p k:=by
 obtain ⟨K,h⟩:=h
 exact ⟨K,h K (Yu K)⟩
theorem Zc.all {n:Nat} {p:Nat→Nat→Prop}:(∀i,i<n→Zc (p i))→Zc fun k=>∀i,i<n→p i k:=by
 induction n with
 | zero=>exact fun _=>⟨0,fun k _ i hi=>absurd hi (Nat.not_lt_zero i)⟩
 | succ n ih=>
  intro h;refine ((ih fun i hi=>h i (Nat.lt_succ_of_lt hi)).and (h n (Nat.lt_succ_self n))).mono fun k hk i hi=>?_
  rcases Nat.eq_or_lt_of_le (Nat.le_of_lt_succ hi) with rfl | hi
  ·exact hk.2
  ·exact hk.1 i hi
theorem Zc.two {p q r:Nat→Prop} (h:Zc p) (g:Zc q) (f:∀k,p k→q k→r k):Zc r:=(h.and g).mono fun k hk=>f k hk.1 hk.2
theorem Zmgb {R:Type} (L:Nat→Nat→Nat→Option R) (n:Nat) (r:R) (hs:Zc fun k=>∀i,i<n→∀j,L k (j+1) i=L k j (i+1)) (hl:Zc fun k=>∀j,L k (j+1) n=some r):Zc fun k=>L k k 0=some r:=by
 obtain ⟨K,hs⟩:=hs
 obtain ⟨J,hl⟩:=hl
 refine ⟨K+J+n+1,fun k hk=>?_⟩
 have hs:=hs k (by omega)
 have hl:=hl k (by omega)
 have key:∀d i j,i+d=n→d<j→L k j i=some r:=by
  intro d
  induction d with
  | zero=>
   intro i j hi hj;obtain ⟨m,rfl⟩:∃m,j=m+1:=⟨j-1,by omega⟩;obtain rfl:i=n:=by omega
   exact hl m
  | succ d ih=>
   intro i j hi hj;obtain ⟨m,rfl⟩:∃m,j=m+1:=⟨j-1,by omega⟩;rw [hs i (by omega) m];exact ih (i+1) m (by omega) (by omega)
 exact key n 0 k (by omega) (by omega)
theorem Zbc {R:Type} (L:Nat→Nat→Option R) (n:Nat) (r:R) (hs:∀i,i<n→∀j,L (j+1) i=L j (i+1)) (hl:∀j,L (j+1) n=some r):∀k,n<k→L k 0=some r:=by
 have key:∀d i j,i+d=n→d<j→L j i=some r:=by
  intro d
  induction d with
  | zero=>
   intro i j hi hj;obtain ⟨m,rfl⟩:∃m,j=m+1:=⟨j-1,by omega⟩;obtain rfl:i=n:=by omega
   exact hl m
  | succ d ih=>
   intro i j hi hj;obtain ⟨m,rfl⟩:∃m,j=m+1:=⟨j-1,by omega⟩;rw [hs i (by omega) m];exact ih (i+1) m (by omega) (by omega)
 exact fun k hk=>key n 0 k (by omega) hk
theorem bnd {α β:Type} {f:Nat→Option α} {g:Nat→α→Option β} {a:α} {b:β} (h:Zc fun k=>f k=some a) (k:Zc fun k=>g k a=some b):Zc fun k=>(f k).bind (g k)=some b:=
 h.two k fun k h1 h2=>by rw [h1];exact h2
theorem Zzcb {α β:Type} {x:Option α} {f:α→Option β} (hx:∃v,x=some v) (hf:∀v,∃w,f v=some w):∃w,x.bind f=some w:=by
 obtain ⟨v,rfl⟩:=hx
 exact hf v
theorem w64 {n:Int} (h0:-9223372036854775808≤n) (h1:n<9223372036854775808):Yc .i64 n=n:=by
 simp [Yc,IntKind.bits,IntKind.signed]
 omega
theorem wn {n:Nat} (h:n<9223372036854775808):Yc .i64 (n:Int)=n:=w64 (by omega) (by omega)
theorem Zs {n:Nat} (h:n<9223372036854775807):Yc .i64 ((n:Int)+1)=((n+1:Nat):Int):=by rw [w64] <;> omega
theorem Zh {α:Type} {l:List α} {i:Nat} (h:i<l.length):at? l (i:Int)=some l[i]:=by
 unfold at?
 rw [Xc (by omega),Yg,Yn h]
theorem Zlb {α:Type} {n:Nat} {a b:List α} (h:(a.length+b.length)*n≤140737488355328):Zfb n a b=some (a++b):=Xc h
theorem Zjf {a b:Str} (h:a.length+b.length≤9223372036854775807):Zae a b=some (a++b):=Xc h
theorem Z5r {α:Type} {b n:Nat} {x:α} (h:n*b≤140737488355328):Zdg b (n:Int) (n:Int) x=some (Yh n x):=by
 unfold Zdg
 rw [Xc ⟨by omega,Int.le_refl _,by rw [Yg];exact h⟩,Yg]
theorem Z9f {α:Type} {l:List α} {i j:Nat} (h:i≤j) (k:j≤l.length):Z3b l (i:Int) (j:Int)=some ((l.take j).drop i):=by
 unfold Z3b
 rw [Xc ⟨by omega,by omega,by omega⟩,Yg,Yg]
theorem Z33 {n b:Nat} (h:n*b≤140737488355328):Zzu n b=some ():=Xc h
theorem Zoi {b:Int} (h:b≠0):nz? b=some ():=Xd h
theorem Zvb {b:Int} (h:0≤b):Zkb b=some ():=Xd (by omega)
theorem Z9cb {α β:Type} {l:List α} (f:α→β) {i:Nat} (h:i<l.length):(l.take (i+1)).map f=(l.take i).map f++[f l[i]]:=by
 rw [Yt,Yn h,List.map_append]
 rfl
theorem Zhj {α:Type} {l:List α} {i:Nat} (h:i<l.length):l.take (i+1)=l.take i++[l[i]]:=by
 rw [Yt,Yn h]
 rfl
def Zqk {α S R:Type} (f:S→α→S ⊕ R) (g:S→R):List α→S→R
 | [],s=>g s
 | x::l,s=>match f s x with
  | .inl s'=>Zqk f g l s'
  | .inr r=>r
theorem Zcmb {α S R:Type} {f:S→α→S ⊕ R} {g:S→R} {x:α} {l:List α} {s s':S} (h:f s x = .inl s'):Zqk f g (x::l) s=Zqk f g l s':=by
 have e:Zqk f g (x::l) s=match f s x with | .inl s'=>Zqk f g l s' | .inr r=>r:=rfl
 rw [e,h]
theorem Zikb {α S R:Type} (L:Nat→S→Int→Option R) (l:List α) (f:S→α→S ⊕ R) (g:S→R) (I:Nat→S→Prop)
  (hs:∀(i:Nat) (h:i<l.length) (s:S),I i s→(∃s',f s l[i] = .inl s'∧I (i+1) s'∧∀j,L (j+1) s (i:Int)=L j s' ((i+1:Nat):Int))∨∃r,f s l[i] = .inr r∧∀j,L (j+1) s (i:Int)=some r)
  (he:∀(s:S),I l.length s→∀j,L (j+1) s (l.length:Int)=some (g s)):∀(d i:Nat) (s:S),i+d=l.length→I i s→∀j,d<j→L j s (i:Int)=some (Zqk f g (l.drop i) s):=by
 intro d
 induction d with
 | zero=>
  intro i s hi hI j hj;obtain ⟨j,rfl⟩:∃q,j=q+1:=⟨j-1,by omega⟩;obtain rfl:i=l.length:=by omega
  rw [Ym,he s hI];rfl
 | succ d ih=>
  intro i s hi hI j hj;obtain ⟨j,rfl⟩:∃q,j=q+1:=⟨j-1,by omega⟩;have hlt:i<l.length:=by omega
  rw [Yl hlt];rcases hs i hlt s hI with ⟨s',h1,h2,h3⟩ | ⟨r,h1,h3⟩
  ·rw [h3 j]
   show _=some (match f s l[i] with | .inl s'=>Zqk f g (l.drop (i+1)) s' | .inr r=>r);rw [h1];exact ih (i+1) s' (by omega) h2 j (by omega)
  ·rw [h3 j]
   show _=some (match f s l[i] with | .inl s'=>Zqk f g (l.drop (i+1)) s' | .inr r=>r);rw [h1]
theorem Zhkb {α S R:Type} (L:Nat→S→Int→Option R) (l:List α) (f:S→α→S ⊕ R) (g:S→R) (I:Nat→S→Prop) (hs:∀(i:Nat) (h:i<l.length) (s:S),I i s→(∃s',f s l[i] = .inl s'∧I (i+1) s'∧∀j,L (j+1) s (i:Int)=L j s' ((i+1:Nat):Int))∨∃r,f s l[i] = .inr r∧∀j,L (j+1) s (i:Int)=some r) (he:∀(s:S),I l.length s→∀j,L (j+1) s (l.length:Int)=some (g s)) {s:S} (hI:I 0 s) {k:Nat} (hk:l.length<k):L k s 0=some (Zqk f g l s):=Zikb L l f g I hs he l.length 0 s (Yi _) hI k hk
def Zgb {α:Type} (p:α→Bool):List α→Nat→Option Nat
 | [],_=>none
 | x::l,i=>if p x then some i else Zgb p l (i+1)
theorem Z1h {α R:Type} (L:Nat→Int→Option R) (l:List α) (p:α→Bool) (a:R) (b:Nat→R)
  (hs:∀(i:Nat) (h:i<l.length),(p l[i]=false→∀j,L (j+1) (i:Int)=L j ((i+1:Nat):Int))∧(p l[i]=true→∀j,L (j+1) (i:Int)=some (b i)))
  (he:∀j,L (j+1) (l.length:Int)=some a) {k:Nat} (hk:l.length<k):L k 0=some (match Zgb p l 0 with | some i=>b i | none=>a):=by
 have key:∀(d i:Nat),i+d=l.length→∀j,d<j→L j (i:Int)=some (match Zgb p (l.drop i) i with | some i=>b i | none=>a):=by
  intro d
  induction d with
  | zero=>
   intro i hi j hj;obtain ⟨j,rfl⟩:∃q,j=q+1:=⟨j-1,by omega⟩;obtain rfl:i=l.length:=by omega
   rw [Ym,he];rfl
  | succ d ih=>
   intro i hi j hj;obtain ⟨j,rfl⟩:∃q,j=q+1:=⟨j-1,by omega⟩;have hlt:i<l.length:=by omega
   rw [Yl hlt];obtain ⟨h1,h2⟩:=hs i hlt;cases hp:p l[i] with
   | true=>rw [h2 hp j];simp [Zgb,hp]
   | false=>
    rw [h1 hp j,ih (i+1) (by omega) j (by omega)];simp [Zgb,hp]
 have:=key l.length 0 (Yi _) k hk
 rwa [Yr] at this
theorem Z4i {α:Type} {p:α→Bool}:∀{l:List α} {n i:Nat},Zgb p l n=some i→n≤i∧∃h:i-n<l.length,p (l[i-n])=true∧∀j,(hj:j<i-n)→p (l[j]'(by omega))=false
 | [],_,_,h=>by cases h
 | x::l,n,i,h=>by
  unfold Zgb at h;split at h
  ·rename_i hp
   cases h;refine ⟨Yu _,by simp,?_,fun j hj=>by omega⟩;simpa using hp
  ·rename_i hp
   obtain ⟨h1,h2,h3,h4⟩:=Z4i h;refine ⟨by omega,by simp only [List.length_cons];omega,?_,fun j hj=>?_⟩
   ·have e:i-n=(i-(n+1))+1:=by omega
    simpa [e] using h3
   ·cases j with
    | zero=>simpa using hp
    | succ j=>simpa using h4 j (by omega)
theorem Ztn {α:Type} {p:α→Bool}:∀{l:List α} {n:Nat},Zgb p l n=none ↔ ∀x∈l,p x=false
 | [],n=>by simp [Zgb]
 | x::l,n=>by
  unfold Zgb;split
  ·rename_i hp
   simp [hp]
  ·rename_i hp
   rw [Ztn];simp at hp;simp [hp]
theorem Ztt {α:Type} {p:α→Bool} {l:List α} {n:Nat}:(Zgb p l n).isSome=l.any p:=by
 cases h:Zgb p l n with
 | none=>
  have:=Ztn.1 h
  symm
  simp only [Option.isSome_none,List.any_eq_false];intro x hx;rw [this x hx];exact nofun
 | some i=>
  obtain ⟨_,h2,h3,_⟩:=Z4i h
  symm
  exact List.any_eq_true.2 ⟨_,Ys h2,h3⟩
theorem Z96 {α:Type} (L:Nat→Int→List α→Option (List α)) (l:List α) (z:α)
  (hs:∀(i:Nat) (h:i<l.length) (c:List α),c.length=l.length→∀j,L (j+1) (i:Int) c=L j ((i+1:Nat):Int) (c.set i l[i]))
  (he:∀(c:List α) j,L (j+1) (l.length:Int) c=some c) {k:Nat} (hk:l.length<k):L k 0 (Yh l.length z)=some l:=by
 have key:∀(d i:Nat),i+d=l.length→∀j,d<j→L j (i:Int) (l.take i++Yh (l.length-i) z)=some l:=by
  intro d
  induction d with
  | zero=>
   intro i hi j hj;obtain ⟨j,rfl⟩:∃q,j=q+1:=⟨j-1,by omega⟩;obtain rfl:i=l.length:=by omega
   rw [he,Yv,List.take_length];simp
  | succ d ih=>
   intro i hi j hj;obtain ⟨j,rfl⟩:∃q,j=q+1:=⟨j-1,by omega⟩;have hlt:i<l.length:=by omega
   rw [hs i hlt _ (by simp;omega)]
   have e:(l.take i++Yh (l.length-i) z).set i l[i]=l.take (i+1)++Yh (l.length-(i+1)) z:=by
    have hl:(l.take i).length=i:=by simp;omega
    rw [List.set_append_right _ _ (by omega),hl,Yv,show l.length-i=(l.length-(i+1))+1 by omega,List.replicate_succ,List.set_cons_zero,Zhj hlt,Yq];rfl
   rw [e];exact ih (i+1) (by omega) j (by omega)
 have:=key l.length 0 (Yi _) k hk
 simpa using this
theorem dlt {a b:Nat} (h:a<b):decide ((a:Int)<(b:Int))=true:=Xa (by omega)
theorem Zbb {a b:Nat} (h:b≤a):decide ((a:Int)<(b:Int))=false:=Xb (by omega)
theorem Za {α β:Type} {x:Option α} {f:α→Option β} {a:α} {b:Option β} (h:x=some a) (k:f a=b):x.bind f=b:=by rw [h];exact k
theorem Znfb {α:Type} (L:Nat→Nat→Str→Int→Option Str) (l:List α) (f:α→Str) (B M:Nat) (hB:∀x∈l,(f x).length≤B)
  (hs:∀i,(h:i<l.length)→Zc fun k=>∀acc j,acc.length≤M→L k (j+1) acc (i:Int)=L k j (acc++f l[i]) ((i+1:Nat):Int))
  (he:∀k acc j,L k (j+1) acc (l.length:Int)=some acc) (acc:Str) (ha:acc.length+B*l.length≤M):Zc fun k=>L k k acc 0=some (acc++(l.map f).flatten):=by
 have hall:Zc fun k=>∀i,i<l.length→∀(h:i<l.length) acc j,acc.length≤M→L k (j+1) acc (i:Int)=L k j (acc++f l[i]) ((i+1:Nat):Int):=Zc.all fun i hi=>(hs i hi).mono fun k hk h=>hk
 obtain ⟨K,hK⟩:=hall
 refine Zc.ge (K+l.length+1) fun k hk=>?_
 have hK:=hK k (by omega)
 have key:∀(d i:Nat) (acc:Str),i+d=l.length→acc.length+B*d≤M→∀j,d<j→L k j acc (i:Int)=some (acc++((l.drop i).map f).flatten):=by
  intro d
  induction d with
  | zero=>
   intro i acc hi hacc j hj;obtain ⟨j,rfl⟩:∃q,j=q+1:=⟨j-1,by omega⟩;obtain rfl:i=l.length:=by omega
   rw [he,Ym];simp
  | succ d ih=>
   intro i acc hi hacc j hj;obtain ⟨j,rfl⟩:∃q,j=q+1:=⟨j-1,by omega⟩;have h:i<l.length:=by omega
   have hf:=hB _ (Ys h);rw [Nat.mul_succ] at hacc;rw [hK i h h acc j (by omega),ih (i+1) _ (by omega) (by rw [List.length_append];omega) j (by omega),Yl h,List.map_cons,List.flatten_cons,Yq]
 have:=key l.length 0 acc (Yi _) ha k (by omega)
 rwa [Yr] at this
end Go.Proofs.Qz
